/- Bytes are read back from their digits. -/
import Derived.Test.YtmnjomglpkbifaaPFnHexx3
import Derived.Test.YtmnjomglpkbifaaNum
namespace Go.Proofs.Ytmnjomglpkbifaa.Pure
open Go.RowKit Go.Proofs.Ytmnjomglpkbifaa.PFnHex Go.Proofs.YtmnjomglpkbifaaW.PrintWords Go.Proofs.YtmnjomglpkbifaaW.PrintLast Go.Proofs.YtmnjomglpkbifaaW.PrintMore Go.Proofs.Ytmnjomglpkbifaa.Num
set_option linter.unusedVariables false
set_option linter.unusedSimpArgs false

/-- The digits of a byte. -/
def dig (n : Int) : Int := bt (⟨#[48, 49, 50, 51, 52, 53, 54, 55, 56, 57, 97, 98, 99, 100, 101, 102]⟩ : ByteArray) n
/-- A property of all bytes, tried at each. -/
theorem all_bytes {p : Int → Prop} (h : ∀ i : Fin 256, p (i.val : Int)) {x : Int} (h0 : 0 ≤ x) (h1 : x ≤ 255) : p x := by
  have t := h ⟨x.toNat, by omega⟩
  simp only [show ((x.toNat : Nat) : Int) = x by omega] at t
  exact t
theorem and15 {x : Int} (h0 : 0 ≤ x) (h1 : x ≤ 255) : Go.bits .and .u8 x 15 = x % 16 :=
  all_bytes (p := fun x => Go.bits .and .u8 x 15 = x % 16) (by decide +kernel) h0 h1
/-- d bytes from place i on, in digits. -/
def hexFrom (s : ByteArray) (i : Int) : Nat → List Int
  | 0 => []
  | d + 1 => [dig (bt s i / 16), dig (bt s i % 16)] ++ hexFrom s (i + 1) d
theorem hexFrom_length (s : ByteArray) : ∀ (d : Nat) (i : Int), (hexFrom s i d).length = 2 * d
  | 0, _ => rfl
  | d + 1, i => by simp only [hexFrom, List.length_append, hexFrom_length s d]; simp; omega
theorem hex_spec (s : ByteArray) (hs : s.size ≤ 1048576) : ∀ (d k : Nat) (i : Int) (acc : List Int), 0 ≤ i → (s.size : Int) - i = d → d < k → acc.length ≤ 4194304 - 2 * d →
    d ≤ 1048576 → spec_l01Hex.l0 k s acc i = some (strOfNums (acc ++ hexFrom s i d))
  | _, 0, _, _, _, _, h, _, _ => absurd h (Nat.not_lt_zero _)
  | 0, k + 1, i, acc, h0, hd, _, _, _ => by
    simp only [spec_l01Hex.l0]
    rw [if_neg (by omega)]
    simp [hexFrom]
  | d + 1, k + 1, i, acc, h0, hd, hk, ha, hm => by
    have hb := bt_range s i
    simp only [spec_l01Hex.l0]
    rw [if_pos (by omega), if_pos h0]
    rw [show (Int.tdiv (bt s i) 16) % 256 = bt s i / 16 by rw [Int.tdiv_eq_ediv_of_nonneg hb.1]; omega, show Int.tmod (bt s i) 16 = bt s i % 16 from Int.tmod_eq_emod_of_nonneg hb.1]
    rw [if_pos (by omega), if_pos (by omega), if_pos (by omega), if_pos (by omega), Option.bind_some, if_pos (by simp; omega), w64_in (by omega) (by omega)]
    rw [hex_spec s hs d k (i + 1) _ (by omega) (by omega) (by omega) (by simp; omega) (by omega), List.append_assoc]
    rfl
theorem hex_impl (s : ByteArray) (hs : s.size ≤ 1048576) : ∀ (d k : Nat) (i : Int) (acc : List Int), 0 ≤ i → (s.size : Int) - i = d → d < k → acc.length ≤ 4194304 - 2 * d →
    d ≤ 1048576 → impl_hexText.l0 k s acc (s.size : Int) i = some (strOfNums (acc ++ hexFrom s i d))
  | _, 0, _, _, _, _, h, _, _ => absurd h (Nat.not_lt_zero _)
  | 0, k + 1, i, acc, h0, hd, _, _, _ => by
    simp only [impl_hexText.l0]
    rw [if_neg (by omega)]
    simp [hexFrom]
  | d + 1, k + 1, i, acc, h0, hd, hk, ha, hm => by
    have hb := bt_range s i
    simp only [impl_hexText.l0]
    rw [if_pos (by omega), if_pos h0, if_pos (by omega), and15 hb.1 hb.2]
    rw [if_pos (by omega), if_pos (by omega), if_pos (by omega), if_pos (by omega), Option.bind_some, if_pos (by simp; omega), w64_in (by omega) (by omega)]
    rw [hex_impl s hs d k (i + 1) _ (by omega) (by omega) (by omega) (by simp; omega) (by omega), List.append_assoc]
    rfl
theorem hexOf_spec (s : ByteArray) (hs : s.size ≤ 1048576) {k : Nat} (hk : s.size < k) : spec_HexOf.f k s = some (if (s.size : Int) > 32768 then (⟨#[]⟩ : ByteArray) else strOfNums (hexFrom s 0 s.size)) := by
  unfold spec_HexOf.f spec_l01Hex.f
  by_cases c : (s.size : Int) > 32768
  · rw [if_pos c, if_pos c]
  · rw [if_neg c, if_neg c, hex_spec s hs s.size k 0 [] (by omega) (by omega) hk (by simp only [List.length_nil]; omega) (by omega)]
    rfl
theorem hexOf_impl (s : ByteArray) (hs : s.size ≤ 1048576) {k : Nat} (hk : s.size < k) : impl_HexOf.f k s = some (if (s.size : Int) > 32768 then (⟨#[]⟩ : ByteArray) else strOfNums (hexFrom s 0 s.size)) := by
  unfold impl_HexOf.f impl_hexText.f
  by_cases c : (s.size : Int) > 32768
  · rw [if_pos c, if_pos c]
  · rw [if_neg c, if_neg c, w64_in (by omega) (by omega), if_pos (by omega), if_pos (by omega), hex_impl s hs s.size k 0 [] (by omega) (by omega) hk (by simp only [List.length_nil]; omega) (by omega)]
    rfl
/-- The number of a digit, or 16. -/
def hexN (c : Int) : Int := if c ≥ 48 ∧ c ≤ 57 then c - 48 else if c ≥ 97 ∧ c ≤ 102 then c - 87 else 16
theorem hexN_range (c : Int) : 0 ≤ hexN c ∧ hexN c ≤ 16 := by unfold hexN; split <;> (try split) <;> omega
theorem digit_impl {k : Nat} (hk : 0 < k) {c : Int} (h0 : 0 ≤ c) (h1 : c ≤ 255) : impl_hexDigit.f k c = some (hexN c) := by
  obtain ⟨k, rfl⟩ : ∃ m, k = m + 1 := ⟨k - 1, by omega⟩
  unfold impl_hexDigit.f hexN
  by_cases a : c ≥ 48
  · rw [if_pos a]
    simp only [impl_hexDigit.j0]
    by_cases b : c ≤ 57
    · rw [if_pos (decide_eq_true b), if_pos ⟨a, b⟩]; congr 1; omega
    · rw [if_neg (by simp; omega), if_neg (show ¬ (c ≥ 48 ∧ c ≤ 57) by omega)]
      by_cases a2 : c ≥ 97
      · rw [if_pos a2]
        by_cases b2 : c ≤ 102
        · rw [if_pos b2, if_pos (⟨a2, b2⟩ : c ≥ 97 ∧ c ≤ 102)]; congr 1; omega
        · rw [if_neg b2, if_neg (show ¬ (c ≥ 97 ∧ c ≤ 102) by omega)]
      · rw [if_neg a2, if_neg (show ¬ (c ≥ 97 ∧ c ≤ 102) by omega)]
  · rw [if_neg a]
    simp only [impl_hexDigit.j0]
    rw [if_neg (by simp), if_neg (by omega), if_neg (show ¬ (c ≥ 48 ∧ c ≤ 57) by omega), if_neg (show ¬ (c ≥ 97 ∧ c ≤ 102) by omega)]
theorem rd_byte {l : List Int} (hl : ∀ x ∈ l, (Lit.int .u8 x).wf = true) (i : Int) : 0 ≤ rd l i ∧ rd l i ≤ 255 := by
  unfold rd
  rw [List.getD_eq_getElem?_getD]
  cases h : l[i.toNat]? with
  | none => simp
  | some x =>
    have h2 := hl x (List.mem_of_getElem? h)
    simp [Lit.wf, IntKind.min, IntKind.max, IntKind.bits, IntKind.signed] at h2
    simp only [Option.getD_some]
    omega
theorem tmod_pos {a : Int} (b : Int) (h : 0 ≤ a) : Int.tmod a b = a % b := Int.tmod_eq_emod_of_nonneg h
theorem src_one (q r : Int) (h0 : 0 ≤ q) (h1 : q < 2147483648) (r0 : 0 ≤ r) (r1 : r ≤ 255) : 0 ≤ Int.tmod (wrap64 (wrap64 (wrap64 (q * 31) + r) + 7)) 2147483648 ∧ Int.tmod (wrap64 (wrap64 (wrap64 (q * 31) + r) + 7)) 2147483648 < 2147483648 := by
  rw [w64_in (n := q * 31) (by omega) (by omega), w64_in (n := q * 31 + r) (by omega) (by omega), w64_in (by omega) (by omega), tmod_pos _ (by omega)]
  omega
theorem src_two (q : Int) (h0 : 0 ≤ q) (h1 : q < 2147483648) : 0 ≤ Int.tmod (wrap64 (wrap64 (q * 1103515245) + 12345)) 2147483648 ∧ Int.tmod (wrap64 (wrap64 (q * 1103515245) + 12345)) 2147483648 < 2147483648 := by
  rw [w64_in (n := q * 1103515245) (by omega) (by omega), w64_in (by omega) (by omega), tmod_pos _ (by omega)]
  omega
theorem src_three (q : Int) (h0 : 0 ≤ q) (h1 : q < 2147483648) : 0 ≤ Int.tmod (wrap64 (Int.tdiv q 65536)) 256 ∧ Int.tmod (wrap64 (Int.tdiv q 65536)) 256 ≤ 255 := by
  rw [Int.tdiv_eq_ediv_of_nonneg h0, w64_in (by omega) (by omega), tmod_pos _ (by omega)]
  omega
theorem byte_tells {l : List Int} (hl : ∀ x ∈ l, (Lit.int .u8 x).wf = true) {p q : Int} (p0 : 0 ≤ p) (p1 : p ≤ 1000) (q0 : 0 ≤ q) (q1 : q < 2147483648) :
    ∃ v q', spec_l00Src_byte.f l p q = some (v, p + 1, q') ∧ 0 ≤ v ∧ v ≤ 255 ∧ 0 ≤ q' ∧ q' < 2147483648 := by
  unfold spec_l00Src_byte.f
  have r := rd_byte hl p
  have t2 := src_two q q0 q1
  have t3 := src_three _ t2.1 t2.2
  rw [w64_in (n := p + 1) (by omega) (by omega), w64_in (n := p + 1 - 1) (by omega) (by omega), show p + 1 - 1 = p by omega, w64_in (n := rd l p) (by omega) (by omega)]
  have t1 := src_one q (rd l p) q0 q1 r.1 r.2
  by_cases h : p + 1 ≤ (l.length : Int)
  · rw [if_pos h, if_pos p0, if_pos (by omega)]
    exact ⟨_, _, rfl, r.1, r.2, t1.1, t1.2⟩
  · rw [if_neg h, if_neg (by omega)]
    exact ⟨_, _, rfl, t3.1, t3.2, t2.1, t2.2⟩
theorem at_tells {l : List Int} (hl : ∀ x ∈ l, (Lit.int .u8 x).wf = true) (hlen : l.length ≤ 140737488351232) (i : Int) (i0 : 0 ≤ i) (i1 : i ≤ 1000) {n : Int} (n1 : 1 < n) (n2 : n ≤ 2147483648) : ∃ v, laws_at.f l i n = some v ∧ 0 ≤ v ∧ v < n := by
  unfold laws_at.f
  rw [if_neg (by omega)]
  by_cases h : (l.length : Int) = 0
  · rw [if_pos h, if_neg (by omega), w64_in (by omega) (by omega), tmod_pos _ (by omega)]
    exact ⟨_, rfl, Int.emod_nonneg _ (by omega), Int.emod_lt_of_pos _ (by omega)⟩
  · have r1 := rd_byte hl (i % (l.length : Int))
    have r2 := rd_byte hl ((i + 1) % (l.length : Int))
    have m1 := Int.emod_nonneg i h
    have m2 := Int.emod_lt_of_pos i (b := (l.length : Int)) (by omega)
    have m3 := Int.emod_nonneg (i + 1) h
    have m4 := Int.emod_lt_of_pos (i + 1) (b := (l.length : Int)) (by omega)
    have d0 : 0 ≤ i / (l.length : Int) := Int.ediv_nonneg i0 (by omega)
    have d1 : i / (l.length : Int) ≤ i := Int.ediv_le_self _ i0
    rw [if_neg h, w64_in (n := i + 1) (by omega) (by omega), tmod_pos _ i0, tmod_pos (a := i + 1) _ (by omega), Int.tdiv_eq_ediv_of_nonneg i0, if_pos m1, if_pos m2, if_pos m3, if_pos m4, if_neg (by omega)]
    generalize rd l (i % (l.length : Int)) = a at *
    generalize rd l ((i + 1) % (l.length : Int)) = b at *
    generalize i / (l.length : Int) = d at *
    clear m1 m2 m3 m4
    rw [w64_in (n := a) (by omega) (by omega), w64_in (n := b) (by omega) (by omega), w64_in (n := d) (by omega) (by omega), w64_in (n := a * 31) (by omega) (by omega), w64_in (n := a * 31 + b) (by omega) (by omega), w64_in (by omega) (by omega), tmod_pos _ (by omega)]
    exact ⟨_, rfl, Int.emod_nonneg _ (by omega), Int.emod_lt_of_pos _ (by omega)⟩
theorem dig_hex {x : Int} (h0 : 0 ≤ x) (h1 : x ≤ 15) : hexN (dig x) = x ∧ 0 ≤ dig x ∧ dig x ≤ 255 := by
  have h : ∀ i : Fin 16, hexN (dig (i.val : Int)) = (i.val : Int) ∧ 0 ≤ dig (i.val : Int) ∧ dig (i.val : Int) ≤ 255 := by decide +kernel
  have t := h ⟨x.toNat, by omega⟩
  simp only [show ((x.toNat : Nat) : Int) = x by omega] at t
  exact t
theorem two_digits' {a b : Int} (a0 : 0 ≤ a) (a1 : a ≤ 15) (b0 : 0 ≤ b) (b1 : b ≤ 15) : Go.bits .or .u8 ((a * 16) % 256) b = 16 * a + b := by
  have h : ∀ i j : Fin 16, Go.bits .or .u8 (((i.val : Int) * 16) % 256) (j.val : Int) = 16 * (i.val : Int) + j.val := by decide +kernel
  have t := h ⟨a.toNat, by omega⟩ ⟨b.toNat, by omega⟩
  simp only [show ((a.toNat : Nat) : Int) = a by omega, show ((b.toNat : Nat) : Int) = b by omega] at t
  exact t
/-- The bytes from place i on. -/
def numsFrom (s : ByteArray) (i : Int) : Nat → List Int
  | 0 => []
  | d + 1 => bt s i :: numsFrom s (i + 1) d
theorem numsFrom_length (s : ByteArray) : ∀ (d : Nat) (i : Int), (numsFrom s i d).length = d
  | 0, _ => rfl
  | d + 1, i => by simp [numsFrom, numsFrom_length s d]
theorem numsFrom_get (s : ByteArray) : ∀ (d : Nat) (i : Int) (j : Nat), j < d → (numsFrom s i d)[j]? = some (bt s (i + j))
  | 0, _, _, h => absurd h (Nat.not_lt_zero _)
  | d + 1, i, 0, _ => by simp [numsFrom]
  | d + 1, i, j + 1, h => by
    simp only [numsFrom, List.getElem?_cons_succ]
    rw [numsFrom_get s d (i + 1) j (by omega)]
    congr 2; omega
theorem numsFrom_all (s : ByteArray) : strOfNums (numsFrom s 0 s.size) = s := by
  apply ByteArray.ext
  apply Array.ext'
  rw [strOfNums_data]
  apply List.ext_getElem?
  intro j
  by_cases h : j < s.size
  · rw [List.getElem?_map, numsFrom_get s s.size 0 j h]
    have hj : j < s.data.toList.length := by simpa using h
    rw [List.getElem?_eq_getElem hj]
    simp only [Option.map_some, Option.some.injEq]
    unfold bt
    rw [dif_pos (by omega)]
    simp
    rfl
  · rw [List.getElem?_eq_none (by simp [numsFrom_length]; omega), List.getElem?_eq_none (by simpa using h)]
/-- The digits of d bytes from place i on lie in u from place p on. -/
def Digits (u : ByteArray) (p : Int) (s : ByteArray) (i : Int) (d : Nat) : Prop := ∀ j : Nat, j < d → bt u (p + 2 * j) = dig (bt s (i + j) / 16) ∧ bt u (p + 2 * j + 1) = dig (bt s (i + j) % 16)
theorem read_on (u s : ByteArray) (hu : u.size ≤ 1048576) : ∀ (d k : Nat) (p i : Int) (acc : List Int), 0 ≤ p → p + 2 * d ≤ u.size → 0 < k → acc.length + d ≤ 1048576 → Digits u p s i d →
    impl_readHex.l0 (k + d) u acc p = impl_readHex.l0 k u (acc ++ numsFrom s i d) (p + 2 * d)
  | 0, k, p, i, acc, _, _, _, _, _ => by simp [numsFrom]
  | d + 1, k, p, i, acc, h0, h1, hk, ha, hD => by
    have b := bt_range s i
    have D0 := hD 0 (by omega)
    simp only [Int.natCast_zero, Int.mul_zero, Int.add_zero] at D0
    have g1 := dig_hex (x := bt s i / 16) (by omega) (by omega)
    have g2 := dig_hex (x := bt s i % 16) (by omega) (by omega)
    have f1 := digit_impl (k := k + d) (by omega) g1.2.1 g1.2.2
    have f2 := digit_impl (k := k + d) (by omega) g2.2.1 g2.2.2
    rw [show k + (d + 1) = (k + d) + 1 by omega]
    simp only [impl_readHex.l0]
    rw [if_pos (by omega), if_pos h0, w64_in (n := p + 1) (by omega) (by omega), w64_in (n := p + 2) (by omega) (by omega), D0.1, D0.2, f1, Option.bind_some, if_pos (by omega), if_pos (by omega), f2, Option.bind_some, g1.1, g2.1, if_neg (by omega), if_neg (by omega), if_pos (by omega), two_digits' (by omega) (by omega) (by omega) (by omega)]
    rw [read_on u s hu d k (p + 2) (i + 1) _ (by omega) (by omega) hk (by simp; omega) (fun j hj => by
      have t := hD (j + 1) (by omega)
      rw [show p + 2 * ((j + 1 : Nat) : Int) = p + 2 + 2 * (j : Int) by omega, show i + ((j + 1 : Nat) : Int) = i + 1 + (j : Int) by omega] at t
      exact t)]
    rw [List.append_assoc, show 16 * (bt s i / 16) + bt s i % 16 = bt s i by omega]
    simp only [numsFrom, List.singleton_append]
    rw [show p + 2 + 2 * (d : Int) = p + 2 * ((d + 1 : Nat) : Int) by omega]
theorem bt_nums (xs : List Int) (j : Nat) (x : Int) (h : xs[j]? = some x) (h0 : 0 ≤ x) (h1 : x ≤ 255) (t : ByteArray) : bt (strOfNums xs ++ t) (j : Int) = x := by
  have hj : j < xs.length := (List.getElem?_eq_some_iff.1 h).1
  have hx : xs[j] = x := (List.getElem?_eq_some_iff.1 h).2
  unfold bt
  rw [dif_pos (by rw [ByteArray.size_append, strOfNums_size]; simp; omega)]
  simp only [Int.toNat_natCast]
  rw [ByteArray.getElem_append_left (by rw [strOfNums_size]; exact hj)]
  have : (strOfNums xs)[j]'(by rw [strOfNums_size]; exact hj) = UInt8.ofNat x.toNat := by
    show (strOfNums xs).data[j]'_ = _
    simp [strOfNums, hx]
  rw [this]
  simp
  omega
theorem bt_more (xs : List Int) (t : ByteArray) (j : Nat) (hj : j < t.size) : bt (strOfNums xs ++ t) ((xs.length + j : Nat) : Int) = (t[j].toNat : Int) := by
  unfold bt
  rw [dif_pos (by rw [ByteArray.size_append, strOfNums_size]; simp; omega)]
  simp only [Int.toNat_natCast]
  rw [ByteArray.getElem_append_right (by rw [strOfNums_size]; omega)]
  simp [strOfNums_size]
theorem hexFrom_get (s : ByteArray) : ∀ (d : Nat) (i : Int) (j : Nat), j < d → (hexFrom s i d)[2 * j]? = some (dig (bt s (i + j) / 16)) ∧ (hexFrom s i d)[2 * j + 1]? = some (dig (bt s (i + j) % 16))
  | 0, _, _, h => absurd h (Nat.not_lt_zero _)
  | d + 1, i, 0, _ => by simp [hexFrom]
  | d + 1, i, j + 1, h => by
    have t := hexFrom_get s d (i + 1) j (by omega)
    rw [show i + 1 + (j : Int) = i + ((j + 1 : Nat) : Int) by omega] at t
    exact t
theorem hex_digits (s t : ByteArray) : Digits (strOfNums (hexFrom s 0 s.size) ++ t) 0 s 0 s.size := by
  intro j hj
  have b := bt_range s (0 + (j : Int))
  have g1 := dig_hex (x := bt s (0 + (j : Int)) / 16) (by omega) (by omega)
  have g2 := dig_hex (x := bt s (0 + (j : Int)) % 16) (by omega) (by omega)
  have t2 := hexFrom_get s s.size 0 j hj
  constructor
  · have := bt_nums _ _ _ t2.1 g1.2.1 g1.2.2 t
    rw [show (0 : Int) + 2 * (j : Int) = ((2 * j : Nat) : Int) by omega]
    exact this
  · have := bt_nums _ _ _ t2.2 g2.2.1 g2.2.2 t
    rw [show (0 : Int) + 2 * (j : Int) + 1 = ((2 * j + 1 : Nat) : Int) by omega]
    exact this
theorem append_none (t : ByteArray) : t ++ (⟨#[]⟩ : ByteArray) = t := by
  apply ByteArray.ext
  simp [ByteArray.data_append]
/-- The digits read back. -/
theorem back (s : ByteArray) (hs : s.size ≤ 1000) {k : Nat} (hk : 5000 ≤ k) : impl_BytesOf.f k (strOfNums (hexFrom s 0 s.size)) = some (s, 0) := by
  unfold impl_BytesOf.f impl_readHex.f
  have hz : (strOfNums (hexFrom s 0 s.size)).size = 2 * s.size := by rw [strOfNums_size, hexFrom_length]
  rw [if_neg (by omega), if_neg (by omega), w64_in (by omega) (by omega), if_pos (by omega), if_pos (by omega)]
  have hd := hex_digits s (⟨#[]⟩ : ByteArray)
  rw [append_none] at hd
  obtain ⟨m, rfl⟩ : ∃ m, k = (m + 1) + s.size := ⟨k - 1 - s.size, by omega⟩
  rw [read_on _ s (by omega) s.size (m + 1) 0 0 [] (by omega) (by omega) (by omega) (by simp only [List.length_nil]; omega) hd]
  simp only [impl_readHex.l0]
  rw [if_neg (by omega), List.nil_append, numsFrom_all]
  rfl
theorem odd_one (s : ByteArray) (hs : s.size ≤ 1000) (k : Nat) : impl_BytesOf.f k (strOfNums (hexFrom s 0 s.size) ++ (⟨#[48]⟩ : ByteArray)) = some (⟨#[]⟩, 3) := by
  unfold impl_BytesOf.f impl_readHex.f
  have hz : (strOfNums (hexFrom s 0 s.size) ++ (⟨#[48]⟩ : ByteArray)).size = 2 * s.size + 1 := by rw [ByteArray.size_append, strOfNums_size, hexFrom_length]; rfl
  rw [if_neg (by omega), if_pos (by omega)]
  rfl
theorem no_digit (s : ByteArray) (hs : s.size ≤ 1000) {k : Nat} (hk : 5000 ≤ k) : impl_BytesOf.f k (strOfNums (hexFrom s 0 s.size) ++ (⟨#[48, 71]⟩ : ByteArray)) = some (⟨#[]⟩, 3) := by
  unfold impl_BytesOf.f impl_readHex.f
  have hz : (strOfNums (hexFrom s 0 s.size) ++ (⟨#[48, 71]⟩ : ByteArray)).size = 2 * s.size + 2 := by rw [ByteArray.size_append, strOfNums_size, hexFrom_length]; rfl
  rw [if_neg (by omega), if_neg (by omega), w64_in (by omega) (by omega), if_pos (by omega), if_pos (by omega)]
  obtain ⟨m, rfl⟩ : ∃ m, k = (m + 2) + s.size := ⟨k - 2 - s.size, by omega⟩
  rw [read_on _ s (by omega) s.size (m + 2) 0 0 [] (by omega) (by omega) (by omega) (by simp only [List.length_nil]; omega) (hex_digits s _)]
  have e1 := bt_more (hexFrom s 0 s.size) (⟨#[48, 71]⟩ : ByteArray) 0 (by decide)
  have e2 := bt_more (hexFrom s 0 s.size) (⟨#[48, 71]⟩ : ByteArray) 1 (by decide)
  rw [hexFrom_length] at e1 e2
  rw [show ((2 * s.size + 0 : Nat) : Int) = 0 + 2 * (s.size : Int) by omega] at e1
  rw [show ((2 * s.size + 1 : Nat) : Int) = 0 + 2 * (s.size : Int) + 1 by omega] at e2
  have e1' : bt (strOfNums (hexFrom s 0 s.size) ++ (⟨#[48, 71]⟩ : ByteArray)) (0 + 2 * (s.size : Int)) = 48 := e1
  have e2' : bt (strOfNums (hexFrom s 0 s.size) ++ (⟨#[48, 71]⟩ : ByteArray)) (0 + 2 * (s.size : Int) + 1) = 71 := e2
  simp only [impl_readHex.l0]
  rw [if_pos (by omega), if_pos (by omega), w64_in (n := 0 + 2 * (s.size : Int) + 1) (by omega) (by omega), e1', e2', digit_impl (by omega) (by omega) (by omega), Option.bind_some, if_pos (by omega), if_pos (by omega), digit_impl (by omega) (by omega) (by omega), Option.bind_some, if_neg (by decide), if_pos (by decide)]
  rfl
theorem some_tells {l : List Int} (hl : ∀ x ∈ l, (Lit.int .u8 x).wf = true) (n : Int) (hn : n ≤ 40) : ∀ (d k : Nat) (acc : List Int) (i p q : Int), n - i ≤ d → 0 ≤ i → acc.length = i → d < k → 0 ≤ p → p + d ≤ 900 → 0 ≤ q → q < 2147483648 →
    ∃ t p' q', spec_l00Src_some.l0 k n acc i l p q = some (t, p', q') ∧ t.size ≤ i + d
  | _, 0, _, _, _, _, _, _, _, h, _, _, _, _ => absurd h (Nat.not_lt_zero _)
  | 0, k + 1, acc, i, p, q, h1, h2, h3, _, _, _, _, _ => by
    simp only [spec_l00Src_some.l0]
    rw [if_neg (by omega)]
    exact ⟨_, _, _, rfl, by rw [strOfNums_size]; omega⟩
  | d + 1, k + 1, acc, i, p, q, h1, h2, h3, hk, p0, p1, q0, q1 => by
    simp only [spec_l00Src_some.l0]
    by_cases c : i < n
    · obtain ⟨v, q', e, v0, v1, x0, x1⟩ := byte_tells hl p0 (by omega) q0 q1
      rw [if_pos c, e, Option.bind_some, if_pos (by omega), w64_in (n := i + 1) (by omega) (by omega)]
      obtain ⟨t, p2, q2, e2, ht⟩ := some_tells hl n hn d k (acc ++ [v % 256]) (i + 1) (p + 1) q' (by omega) (by omega) (by simp; omega) (by omega) (by omega) (by omega) x0 x1
      exact ⟨t, p2, q2, e2, by omega⟩
    · rw [if_neg c]
      exact ⟨_, _, _, rfl, by rw [strOfNums_size]; omega⟩
theorem FnHex : laws_FnHex.Pure := by
  intro l0 l1 _ h0 w0 _ h1 w1
  refine ⟨6001, ?_⟩
  unfold laws_FnHex.f
  by_cases c : (l0.length : Int) > 1048576
  · rw [if_pos c]
    rfl
  · rw [if_neg c]
    simp only [laws_FnHex.j0]
    by_cases c1 : (l1.length : Int) > 1048576
    · rw [if_pos (decide_eq_true c1)]
    · rw [if_neg (by simp; omega)]
      obtain ⟨n, e, n0, n1⟩ := at_tells w1 (by omega) 0 (by omega) (by omega) (n := 40) (by omega) (by omega)
      rw [e, Option.bind_some]
      unfold spec_SomeText.f spec_l00Source.f spec_l00Src_some.f
      simp only [Option.bind_some]
      obtain ⟨t, p2, q2, e2, ht⟩ := some_tells w0 n (by omega) 40 6000 [] 0 0 ((l0.length : Int) % 1000) (by omega) (by omega) rfl (by omega) (by omega) (by omega) (by omega) (by omega)
      rw [e2]
      simp only [Option.bind_some]
      have hz : (strOfNums (hexFrom t 0 t.size)).size = 2 * t.size := by rw [strOfNums_size, hexFrom_length]
      rw [hexOf_impl t (by omega) (by omega), Option.bind_some, if_neg (by omega), back t (by omega) (by omega), Option.bind_some, if_pos (by omega), odd_one t (by omega), Option.bind_some, if_pos (by omega), no_digit t (by omega) (by omega), Option.bind_some, hexOf_spec t (by omega) (by omega), Option.bind_some, if_neg (show ¬ ((t.size : Int) > 32768) by omega), if_pos rfl, if_pos (by rw [w64_in (by omega) (by omega), hz]; omega), if_pos rfl, if_pos rfl, if_pos rfl]
      rfl

end Go.Proofs.Ytmnjomglpkbifaa.Pure
