/- The law of FnBytes: numbers are read back from their bytes. -/
import Derived.Test.YtdljhgmgpnpfiaaPFnBytesx3
import Derived.Test.YtdljhgmgpnpfiaaNum
import Derived.Test.YtdljhgmgpnpfiaaNumC
import Derived.Test.YtdljhgmgpnpfiaaNumD
import Derived.Test.YtdljhgmgpnpfiaaNumF
namespace Go.Proofs.Ytdljhgmgpnpfiaa.Pure
open Go.RowKit Go.Proofs.Ytdljhgmgpnpfiaa.PFnBytes Go.Proofs.YtdljhgmgpnpfiaaW.PrintWords Go.Proofs.YtdljhgmgpnpfiaaW.PrintLast Go.Proofs.YtdljhgmgpnpfiaaW.PrintMore Go.Proofs.Ytdljhgmgpnpfiaa.Num
set_option linter.unusedVariables false
set_option linter.unusedSimpArgs false

theorem within_impl (n l h : Int) : impl_within.f n l h = some (decide (l ≤ n ∧ n ≤ h)) := by
  unfold impl_within.f
  by_cases a : n ≥ l <;> by_cases b : n ≤ h <;> simp [a, b] <;> omega
theorem size_spec (s : Int) : spec_l01Size.f s = some (decide (Sz s)) := by
  unfold spec_l01Size.f Sz
  by_cases h1 : s = 1 <;> by_cases h2 : s = 2 <;> by_cases h4 : s = 4 <;> by_cases h8 : s = 8 <;> simp_all
theorem size_impl (s : Int) : impl_isSize.f s = some (decide (Sz s)) := size_spec s
theorem bit_spec (a i : Int) (h0 : 0 ≤ i) (h1 : i < 64) : spec_l01Bit.f a i = some (bit a i) := by
  unfold spec_l01Bit.f
  have hi : IntKind.u64.wrap i = i := u64_in h0 (by omega)
  have ha : IntKind.u64.wrap a = (un a : Int) := by rw [IntKind.wrap_u64, un_eq]
  rw [hi, if_pos h0, ha, shr_u64 _ _ (by omega) h0 h1, Int.toNat_natCast]
  unfold bit
  have e : Int.tmod ((un a / 2 ^ i.toNat : Nat) : Int) 2 = ((un a / 2 ^ i.toNat % 2 : Nat) : Int) := by
    rw [Int.tmod_eq_emod_of_nonneg (Int.natCast_nonneg _)]; rfl
  rw [e]
  rcases Nat.mod_two_eq_zero_or_one (un a / 2 ^ i.toNat) with h | h <;> rw [h] <;> simp
theorem zero_loop (a : Int) (n : Nat) (hn : n ≤ 64) : ∀ (j k : Nat), j ≤ n → j < k →
    spec_l01Zero.l0 k a ((un a % 2 ^ n / 2 ^ j : Nat) : Int) ((j : Int) - 1) = some (wrap64 ((un a % 2 ^ n : Nat) : Int))
  | j, 0, _, hk => by omega
  | 0, k + 1, _, _ => by
    simp only [spec_l01Zero.l0]
    rw [if_neg (by omega)]
    simp
  | j + 1, k + 1, hj, hk => by
    simp only [spec_l01Zero.l0]
    rw [if_pos (by omega), show ((j + 1 : Nat) : Int) - 1 = (j : Int) by omega, bit_spec _ _ (by omega) (by omega)]
    simp only [Option.bind_some]
    have hl := un_lt' a
    have h2 : un a % 2 ^ n ≤ un a := Nat.mod_le _ _
    have h3 := half_step (un a % 2 ^ n) j
    have h4 := mod_bit (un a) n j (by omega)
    have h5 : un a % 2 ^ n / 2 ^ j ≤ un a % 2 ^ n := Nat.div_le_self _ _
    have e : IntKind.u64.wrap (IntKind.u64.wrap (2 * ((un a % 2 ^ n / 2 ^ (j + 1) : Nat) : Int)) + IntKind.u64.wrap (bit a (j : Int))) = ((un a % 2 ^ n / 2 ^ j : Nat) : Int) := by
      unfold bit
      rw [Int.toNat_natCast, ← h4]
      rw [u64_in (n := 2 * _) (by omega) (by omega), u64_in (n := ((un a % 2 ^ n / 2 ^ j % 2 : Nat) : Int)) (by omega) (by omega), u64_in (by omega) (by omega)]
      omega
    rw [e, show wrap64 ((j : Int) - 1) = (j : Int) - 1 from w64_in (by omega) (by omega)]
    exact zero_loop a n hn j k (by omega) (by omega)
theorem zero_spec {k : Nat} {a s : Int} (hs : Sz s) (ha : -9223372036854775808 ≤ a ∧ a ≤ 9223372036854775807) (hk : 64 < k) : spec_l01Zero.f k a s = some (zeroZ a s) := by
  unfold spec_l01Zero.f
  have h8 : 0 ≤ 8 * s ∧ 8 * s ≤ 64 := by rcases hs with rfl | rfl | rfl | rfl <;> omega
  rw [w64_in (n := 8 * s) (by omega) (by omega), w64_in (by omega) (by omega), ← zeroZ_un hs ha]
  have h := zero_loop a (8 * s).toNat (by omega) (8 * s).toNat k (by omega) (by omega)
  rw [show un a % 2 ^ (8 * s).toNat / 2 ^ (8 * s).toNat = 0 from Nat.div_eq_of_lt (Nat.mod_lt _ (Nat.two_pow_pos _)), show (((8 * s).toNat : Nat) : Int) = 8 * s by omega] at h
  exact h
theorem zero_impl {a s : Int} (hs : Sz s) : impl_zero.f a s = some (zeroZ a s) := by
  unfold impl_zero.f
  rcases hs with rfl | rfl | rfl | rfl
  · rw [if_neg (by omega), if_pos (by unfold wrap64; omega), show wrap64 (shl .i64 1 (wrap64 (8 * 1)) - 1) = 2 ^ 8 - 1 by decide +kernel, and_mask _ _ (by decide)]; rfl
  · rw [if_neg (by omega), if_pos (by unfold wrap64; omega), show wrap64 (shl .i64 1 (wrap64 (8 * 2)) - 1) = 2 ^ 16 - 1 by decide +kernel, and_mask _ _ (by decide)]; rfl
  · rw [if_neg (by omega), if_pos (by unfold wrap64; omega), show wrap64 (shl .i64 1 (wrap64 (8 * 4)) - 1) = 2 ^ 32 - 1 by decide +kernel, and_mask _ _ (by decide)]; rfl
  · rw [if_pos rfl]; rfl
theorem sign_loop (a s : Int) (hs : Sz s) : ∀ (j k : Nat), j ≤ 64 → j < k →
    spec_l01Sign.l0 k a s ((sgn (8 * s).toNat (un a) / 2 ^ j : Nat) : Int) ((j : Int) - 1) = some (wrap64 ((sgn (8 * s).toNat (un a) : Nat) : Int))
  | j, 0, _, hk => by omega
  | 0, k + 1, _, _ => by
    simp only [spec_l01Sign.l0]
    rw [if_neg (by omega)]
    simp
  | j + 1, k + 1, hj, hk => by
    simp only [spec_l01Sign.l0]
    have h8 : 8 ≤ 8 * s ∧ 8 * s ≤ 64 := by rcases hs with rfl | rfl | rfl | rfl <;> omega
    have hm : mn (j : Int) (wrap64 (wrap64 (8 * s) - 1)) = ((min j ((8 * s).toNat - 1) : Nat) : Int) := by
      rw [w64_in (n := 8 * s) (by omega) (by omega), w64_in (by omega) (by omega)]
      unfold mn
      split <;> omega
    rw [if_pos (by omega), show ((j + 1 : Nat) : Int) - 1 = (j : Int) by omega, hm, bit_spec _ _ (by omega) (by omega)]
    simp only [Option.bind_some]
    have hl := sgn_lt (8 * s).toNat (un a) (by omega) (by omega)
    have h3 := half_step (sgn (8 * s).toNat (un a)) j
    have h4 := sgn_bit (8 * s).toNat (un a) j (by omega) (by omega) (by omega)
    have h5 : sgn (8 * s).toNat (un a) / 2 ^ j ≤ sgn (8 * s).toNat (un a) := Nat.div_le_self _ _
    have e : IntKind.u64.wrap (IntKind.u64.wrap (2 * ((sgn (8 * s).toNat (un a) / 2 ^ (j + 1) : Nat) : Int)) + IntKind.u64.wrap (bit a ((min j ((8 * s).toNat - 1) : Nat) : Int))) = ((sgn (8 * s).toNat (un a) / 2 ^ j : Nat) : Int) := by
      unfold bit
      rw [Int.toNat_natCast, ← h4]
      rw [u64_in (n := 2 * _) (by omega) (by omega), u64_in (n := ((sgn (8 * s).toNat (un a) / 2 ^ j % 2 : Nat) : Int)) (by omega) (by omega), u64_in (by omega) (by omega)]
      omega
    rw [e, show wrap64 ((j : Int) - 1) = (j : Int) - 1 from w64_in (by omega) (by omega)]
    exact sign_loop a s hs j k (by omega) (by omega)
theorem sign_spec {k : Nat} {a s : Int} (hs : Sz s) (ha : -9223372036854775808 ≤ a ∧ a ≤ 9223372036854775807) (hk : 64 < k) : spec_l01Sign.f k a s = some (signZ a s) := by
  unfold spec_l01Sign.f
  have h8 : 8 ≤ 8 * s ∧ 8 * s ≤ 64 := by rcases hs with rfl | rfl | rfl | rfl <;> omega
  rw [← signZ_sgn hs ha]
  have h := sign_loop a s hs 64 k (by omega) (by omega)
  rw [Nat.div_eq_of_lt (sgn_lt _ _ (by omega) (by omega))] at h
  exact h
theorem sign_impl {a s : Int} (hs : Sz s) (ha : -9223372036854775808 ≤ a ∧ a ≤ 9223372036854775807) : impl_sign.f a s = some (signZ a s) := by
  unfold impl_sign.f shl shr signZ
  rcases hs with rfl | rfl | rfl | rfl
  · rw [show wrap64 (64 - wrap64 (8 * 1)) = 56 by decide +kernel]
    simp only [i64_wrap, IntKind.bits, show min (Int.toNat 56) 64 = 56 from rfl]
    unfold wrap64
    simp
    omega
  · rw [show wrap64 (64 - wrap64 (8 * 2)) = 48 by decide +kernel]
    simp only [i64_wrap, IntKind.bits, show min (Int.toNat 48) 64 = 48 from rfl]
    unfold wrap64
    simp
    omega
  · rw [show wrap64 (64 - wrap64 (8 * 4)) = 32 by decide +kernel]
    simp only [i64_wrap, IntKind.bits, show min (Int.toNat 32) 64 = 32 from rfl]
    unfold wrap64
    simp
    omega
  · rw [show wrap64 (64 - wrap64 (8 * 8)) = 0 by decide +kernel]
    simp only [i64_wrap, IntKind.bits, show min (Int.toNat 0) 64 = 0 from rfl]
    unfold wrap64
    simp
    omega
theorem puti_loop (a : Int) (n : Nat) (hn : n ≤ 8) : ∀ (d k i : Nat), i + d = n → d < k →
    impl_little.l0 k a (lowBytes a i ++ List.replicate d 0) (n : Int) (i : Int) = some (strOfNums (lowBytes a n))
  | d, 0, _, _, hk => by omega
  | 0, k + 1, i, hi, _ => by
    simp only [impl_little.l0]
    obtain rfl : i = n := by omega
    rw [if_neg (by omega)]
    simp
  | d + 1, k + 1, i, hi, hk => by
    simp only [impl_little.l0]
    have hl := lowBytes_length a i
    rw [if_pos (by omega), w64_in (n := 8 * (i : Int)) (by omega) (by omega), if_pos (by omega), if_pos (by omega), if_pos (by simp [hl]; omega), lowByte_shr (by omega), w64_in (n := (i : Int) + 1) (by omega) (by omega)]
    have e := set_next (lowBytes a i) d (lowByte a i)
    rw [hl] at e
    rw [Int.toNat_natCast, e]
    exact puti_loop a n hn d k (i + 1) (by omega) (by omega)
theorem little_impl {a z : Int} (hz : Sz z) {k : Nat} (hk : 8 < k) : impl_little.f k a z = some (strOfNums (lowBytes a z.toNat)) := by
  unfold impl_little.f
  have h8 : 1 ≤ z ∧ z ≤ 8 := by rcases hz with rfl | rfl | rfl | rfl <;> omega
  have h := puti_loop a z.toNat (by omega) z.toNat k 0 (by omega) (by omega)
  rw [if_pos (by omega), if_pos (by omega)]
  simp only [Option.bind_some, List.length_replicate]
  exact h
theorem takei_loop (s : ByteArray) (hs : s.size ≤ 8) : ∀ (d k i : Nat), i + d = s.size → d < k →
    impl_take.l0 k s (wrap64 ((le s 0 i : Nat) : Int)) (s.size : Int) (i : Int) = some (wrap64 ((le s 0 s.size : Nat) : Int))
  | d, 0, _, _, hk => by omega
  | 0, k + 1, i, hi, _ => by
    simp only [impl_take.l0]
    obtain rfl : i = s.size := by omega
    rw [if_neg (by omega)]
  | d + 1, k + 1, i, hi, hk => by
    simp only [impl_take.l0]
    rw [if_pos (by omega), if_pos (by omega), if_pos (by omega), w64_in (n := 8 * (i : Int)) (by omega) (by omega), if_pos (by omega), w64_in (n := (i : Int) + 1) (by omega) (by omega), shl_byte s i (by omega), or_nat (le_lt64 s 0 (by omega)) (byte_term_lt s i (by omega)), show ((i : Int)) = 0 + (i : Int) by omega, le_or]
    have h := takei_loop s hs d k (i + 1) (by omega) (by omega)
    rw [show 0 + (i : Int) + 1 = ((i + 1 : Nat) : Int) by omega]
    exact h
theorem take_impl (s : ByteArray) (hs : s.size ≤ 8) {k : Nat} (hk : 8 < k) : impl_take.f k s = some (wrap64 ((le s 0 s.size : Nat) : Int)) := by
  unfold impl_take.f
  have h := takei_loop s hs s.size k 0 (by omega) (by omega)
  rw [show wrap64 ((le s 0 0 : Nat) : Int) = 0 from w64_in (by simp [le]) (by simp [le])] at h
  exact h
theorem rd_byte {l : List Int} (hl : ∀ x ∈ l, (Lit.int .u8 x).wf = true) (i : Int) : 0 ≤ rd l i ∧ rd l i ≤ 255 := by
  unfold rd
  rw [List.getD_eq_getElem?_getD]
  cases h : l[i.toNat]? with
  | none => simp
  | some x =>
    have h2 := hl x (List.mem_of_getElem? h)
    simp [Lit.wf, IntKind.min, IntKind.max, IntKind.bits, IntKind.signed] at h2
    simp only [Option.getD_some]
    omega
theorem tmod_pos {a : Int} (b : Int) (h : 0 ≤ a) : Int.tmod a b = a % b := Int.tmod_eq_emod_of_nonneg h
theorem src_one (q r : Int) (h0 : 0 ≤ q) (h1 : q < 2147483648) (r0 : 0 ≤ r) (r1 : r ≤ 255) : 0 ≤ Int.tmod (wrap64 (wrap64 (wrap64 (q * 31) + r) + 7)) 2147483648 ∧ Int.tmod (wrap64 (wrap64 (wrap64 (q * 31) + r) + 7)) 2147483648 < 2147483648 := by
  rw [w64_in (n := q * 31) (by omega) (by omega), w64_in (n := q * 31 + r) (by omega) (by omega), w64_in (by omega) (by omega), tmod_pos _ (by omega)]
  omega
theorem src_two (q : Int) (h0 : 0 ≤ q) (h1 : q < 2147483648) : 0 ≤ Int.tmod (wrap64 (wrap64 (q * 1103515245) + 12345)) 2147483648 ∧ Int.tmod (wrap64 (wrap64 (q * 1103515245) + 12345)) 2147483648 < 2147483648 := by
  rw [w64_in (n := q * 1103515245) (by omega) (by omega), w64_in (by omega) (by omega), tmod_pos _ (by omega)]
  omega
theorem src_three (q : Int) (h0 : 0 ≤ q) (h1 : q < 2147483648) : 0 ≤ Int.tmod (wrap64 (Int.tdiv q 65536)) 256 ∧ Int.tmod (wrap64 (Int.tdiv q 65536)) 256 ≤ 255 := by
  rw [Int.tdiv_eq_ediv_of_nonneg h0, w64_in (by omega) (by omega), tmod_pos _ (by omega)]
  omega
theorem byte_tells {l : List Int} (hl : ∀ x ∈ l, (Lit.int .u8 x).wf = true) {p q : Int} (p0 : 0 ≤ p) (p1 : p ≤ 1000) (q0 : 0 ≤ q) (q1 : q < 2147483648) :
    ∃ v q', spec_l00Src_byte.f l p q = some (v, p + 1, q') ∧ 0 ≤ v ∧ v ≤ 255 ∧ 0 ≤ q' ∧ q' < 2147483648 := by
  unfold spec_l00Src_byte.f
  have r := rd_byte hl p
  have t2 := src_two q q0 q1
  have t3 := src_three _ t2.1 t2.2
  rw [w64_in (n := p + 1) (by omega) (by omega), w64_in (n := p + 1 - 1) (by omega) (by omega), show p + 1 - 1 = p by omega, w64_in (n := rd l p) (by omega) (by omega)]
  have t1 := src_one q (rd l p) q0 q1 r.1 r.2
  by_cases h : p + 1 ≤ (l.length : Int)
  · rw [if_pos h, if_pos p0, if_pos (by omega)]
    exact ⟨_, _, rfl, r.1, r.2, t1.1, t1.2⟩
  · rw [if_neg h, if_neg (by omega)]
    exact ⟨_, _, rfl, t3.1, t3.2, t2.1, t2.2⟩
theorem next_tells {l : List Int} (hl : ∀ x ∈ l, (Lit.int .u8 x).wf = true) {p q : Int} (p0 : 0 ≤ p) (p1 : p ≤ 900) (q0 : 0 ≤ q) (q1 : q < 2147483648) {n : Int} (n1 : 1 < n) (n2 : n ≤ 2147483648) :
    ∃ v p' q', spec_l00Src_next.f l p q n = some (v, p', q') ∧ 0 ≤ v ∧ v < n ∧ p ≤ p' ∧ p' ≤ p + 3 ∧ 0 ≤ q' ∧ q' < 2147483648 := by
  unfold spec_l00Src_next.f
  rw [if_neg (by omega)]
  obtain ⟨v1, s1, e1, a1, b1, c1, d1⟩ := byte_tells hl p0 (by omega) q0 q1
  obtain ⟨v2, s2, e2, a2, b2, c2, d2⟩ := byte_tells hl (p := p + 1) (by omega) (by omega) c1 d1
  obtain ⟨v3, s3, e3, a3, b3, c3, d3⟩ := byte_tells hl (p := p + 1 + 1) (by omega) (by omega) c2 d2
  simp only [e1, e2, e3, Option.bind_some]
  by_cases h : n ≤ 256
  · rw [if_pos h, if_neg (by omega)]
    refine ⟨_, _, _, rfl, ?_, ?_, by omega, by omega, c1, d1⟩
    · rw [tmod_pos _ a1]; exact Int.emod_nonneg _ (by omega)
    · rw [tmod_pos _ a1]; exact Int.emod_lt_of_pos _ (by omega)
  · rw [if_neg h, if_neg (by omega), w64_in (n := v1 * 65536) (by omega) (by omega), w64_in (n := v2 * 256) (by omega) (by omega), w64_in (n := v1 * 65536 + v2 * 256) (by omega) (by omega), w64_in (by omega) (by omega)]
    refine ⟨_, _, _, rfl, ?_, ?_, by omega, by omega, c3, d3⟩
    · rw [tmod_pos _ (by omega)]; exact Int.emod_nonneg _ (by omega)
    · rw [tmod_pos _ (by omega)]; exact Int.emod_lt_of_pos _ (by omega)
theorem word_tells {l : List Int} (hl : ∀ x ∈ l, (Lit.int .u8 x).wf = true) {p q : Int} (p0 : 0 ≤ p) (p1 : p ≤ 900) (q0 : 0 ≤ q) (q1 : q < 2147483648) :
    ∃ v p' q', spec_l00Src_word.f l p q = some (v, p', q') ∧ 0 ≤ v ∧ v ≤ 4294967295 ∧ p ≤ p' ∧ p' ≤ p + 4 ∧ 0 ≤ q' ∧ q' < 2147483648 := by
  unfold spec_l00Src_word.f
  obtain ⟨v1, s1, e1, a1, b1, c1, d1⟩ := byte_tells hl p0 (by omega) q0 q1
  obtain ⟨v2, s2, e2, a2, b2, c2, d2⟩ := byte_tells hl (p := p + 1) (by omega) (by omega) c1 d1
  obtain ⟨v3, s3, e3, a3, b3, c3, d3⟩ := byte_tells hl (p := p + 1 + 1) (by omega) (by omega) c2 d2
  obtain ⟨v4, s4, e4, a4, b4, c4, d4⟩ := byte_tells hl (p := p + 1 + 1 + 1) (by omega) (by omega) c3 d3
  simp only [e1, e2, e3, e4, Option.bind_some]
  refine ⟨_, _, _, rfl, ?_, ?_, by omega, by omega, c4, d4⟩ <;> unfold wrap64 <;> omega
theorem wide_tells {l : List Int} (hl : ∀ x ∈ l, (Lit.int .u8 x).wf = true) {p q : Int} (p0 : 0 ≤ p) (p1 : p ≤ 800) (q0 : 0 ≤ q) (q1 : q < 2147483648) :
    ∃ v p' q', spec_l00Src_wide.f l p q = some (v, p', q') ∧ -9223372036854775808 ≤ v ∧ v ≤ 9223372036854775807 ∧ p ≤ p' ∧ p' ≤ p + 12 ∧ 0 ≤ q' ∧ q' < 2147483648 := by
  unfold spec_l00Src_wide.f
  obtain ⟨v1, r1, s1, e1, a1, b1, x1, y1, c1, d1⟩ := next_tells hl p0 (by omega) q0 q1 (n := 8) (by omega) (by omega)
  simp only [e1, Option.bind_some]
  by_cases h0 : v1 = 0
  · rw [if_pos h0]
    obtain ⟨v2, r2, s2, e2, a2, b2, x2, y2, c2, d2⟩ := word_tells hl (p := r1) (by omega) (by omega) c1 d1
    obtain ⟨v3, r3, s3, e3, a3, b3, x3, y3, c3, d3⟩ := word_tells hl (p := r2) (by omega) (by omega) c2 d2
    simp only [e2, e3, Option.bind_some]
    exact ⟨_, _, _, rfl, (and_range _ _ _).1, (and_range _ _ _).2, by omega, by omega, c3, d3⟩
  rw [if_neg h0]
  by_cases h1 : v1 = 1
  · rw [if_pos h1]
    obtain ⟨v2, r2, s2, e2, a2, b2, x2, y2, c2, d2⟩ := next_tells hl (p := r1) (by omega) (by omega) c1 d1 (n := 15) (by omega) (by omega)
    unfold spec_l00Src_odd.f
    simp only [e2, Option.bind_some]
    rw [if_pos a2, if_pos (by simp; omega)]
    simp only [Option.bind_some]
    refine ⟨_, _, _, rfl, ?_, ?_, by omega, by omega, c2, d2⟩
    · have : ∀ i : Fin 15, -9223372036854775808 ≤ rd [0, (-1), 1, 2, 31, 32, 33, 255, 256, 4095, 4096, 16384, 9223372036854775807, (-9223372036854775808), 30] (i.val : Int) := by decide +kernel
      have t := this ⟨v2.toNat, by omega⟩
      simp only [show ((v2.toNat : Nat) : Int) = v2 by omega] at t
      exact t
    · have : ∀ i : Fin 15, rd [0, (-1), 1, 2, 31, 32, 33, 255, 256, 4095, 4096, 16384, 9223372036854775807, (-9223372036854775808), 30] (i.val : Int) ≤ 9223372036854775807 := by decide +kernel
      have t := this ⟨v2.toNat, by omega⟩
      simp only [show ((v2.toNat : Nat) : Int) = v2 by omega] at t
      exact t
  rw [if_neg h1]
  obtain ⟨v2, r2, s2, e2, a2, b2, x2, y2, c2, d2⟩ := next_tells hl (p := r1) (by omega) (by omega) c1 d1 (n := 300) (by omega) (by omega)
  by_cases h2 : v1 = 2
  · rw [if_pos h2]
    simp only [e2, Option.bind_some]
    exact ⟨_, _, _, rfl, (w64_range _).1, (w64_range _).2, by omega, by omega, c2, d2⟩
  rw [if_neg h2]
  by_cases h3 : v1 = 3
  · rw [if_pos h3]
    obtain ⟨v2, r2, s2, e2, a2, b2, x2, y2, c2, d2⟩ := word_tells hl (p := r1) (by omega) (by omega) c1 d1
    simp only [e2, Option.bind_some]
    exact ⟨_, _, _, rfl, (w64_range _).1, (w64_range _).2, by omega, by omega, c2, d2⟩
  rw [if_neg h3]
  by_cases h4 : v1 = 4
  · rw [if_pos h4]
    obtain ⟨v2, r2, s2, e2, a2, b2, x2, y2, c2, d2⟩ := next_tells hl (p := r1) (by omega) (by omega) c1 d1 (n := 64) (by omega) (by omega)
    simp only [e2, Option.bind_some]
    rw [if_pos (by rw [u64_in (by omega) (by omega)]; omega)]
    refine ⟨_, _, _, rfl, ?_, ?_, by omega, by omega, c2, d2⟩ <;> unfold shl <;> rw [i64_wrap]
    · exact (w64_range _).1
    · exact (w64_range _).2
  rw [if_neg h4]
  by_cases h5 : v1 = 5
  · rw [if_pos h5]
    obtain ⟨v2, r2, s2, e2, a2, b2, x2, y2, c2, d2⟩ := next_tells hl (p := r1) (by omega) (by omega) c1 d1 (n := 63) (by omega) (by omega)
    simp only [e2, Option.bind_some]
    rw [if_pos (by rw [u64_in (by omega) (by omega)]; omega)]
    exact ⟨_, _, _, rfl, (w64_range _).1, (w64_range _).2, by omega, by omega, c2, d2⟩
  rw [if_neg h5]
  simp only [e2, Option.bind_some]
  exact ⟨_, _, _, rfl, by omega, by omega, by omega, by omega, c2, d2⟩
theorem number_tells {l : List Int} (hl : ∀ x ∈ l, (Lit.int .u8 x).wf = true) : ∃ v, spec_NumberOf.f l = some v ∧ -9223372036854775808 ≤ v ∧ v ≤ 9223372036854775807 := by
  unfold spec_NumberOf.f spec_l00Source.f
  obtain ⟨v, p', q', e, a, b, _⟩ := wide_tells hl (p := 0) (q := (l.length : Int) % 1000) (by omega) (by omega) (by omega) (by omega)
  simp only [e, Option.bind_some]
  exact ⟨_, rfl, a, b⟩
theorem at_tells {l : List Int} (hl : ∀ x ∈ l, (Lit.int .u8 x).wf = true) (hlen : l.length ≤ 140737488351232) (i : Int) (i0 : 0 ≤ i) (i1 : i ≤ 1000) {n : Int} (n1 : 1 < n) (n2 : n ≤ 2147483648) : ∃ v, laws_at.f l i n = some v ∧ 0 ≤ v ∧ v < n := by
  unfold laws_at.f
  rw [if_neg (by omega)]
  by_cases h : (l.length : Int) = 0
  · rw [if_pos h, if_neg (by omega), w64_in (by omega) (by omega), tmod_pos _ (by omega)]
    exact ⟨_, rfl, Int.emod_nonneg _ (by omega), Int.emod_lt_of_pos _ (by omega)⟩
  · have r1 := rd_byte hl (i % (l.length : Int))
    have r2 := rd_byte hl ((i + 1) % (l.length : Int))
    have m1 := Int.emod_nonneg i h
    have m2 := Int.emod_lt_of_pos i (b := (l.length : Int)) (by omega)
    have m3 := Int.emod_nonneg (i + 1) h
    have m4 := Int.emod_lt_of_pos (i + 1) (b := (l.length : Int)) (by omega)
    have d0 : 0 ≤ i / (l.length : Int) := Int.ediv_nonneg i0 (by omega)
    have d1 : i / (l.length : Int) ≤ i := Int.ediv_le_self _ i0
    rw [if_neg h, w64_in (n := i + 1) (by omega) (by omega), tmod_pos _ i0, tmod_pos (a := i + 1) _ (by omega), Int.tdiv_eq_ediv_of_nonneg i0, if_pos m1, if_pos m2, if_pos m3, if_pos m4, if_neg (by omega)]
    generalize rd l (i % (l.length : Int)) = a at *
    generalize rd l ((i + 1) % (l.length : Int)) = b at *
    generalize i / (l.length : Int) = d at *
    clear m1 m2 m3 m4
    rw [w64_in (n := a) (by omega) (by omega), w64_in (n := b) (by omega) (by omega), w64_in (n := d) (by omega) (by omega), w64_in (n := a * 31) (by omega) (by omega), w64_in (n := a * 31 + b) (by omega) (by omega), w64_in (by omega) (by omega), tmod_pos _ (by omega)]
    exact ⟨_, rfl, Int.emod_nonneg _ (by omega), Int.emod_lt_of_pos _ (by omega)⟩
theorem str_at (xs : List Int) (j : Nat) (x : Int) (h : xs[j]? = some x) (h0 : 0 ≤ x) (h1 : x ≤ 255) (hs : j < (strOfNums xs).size) : (((strOfNums xs)[j]'hs).toNat : Int) = x := by
  have hj : j < xs.length := (List.getElem?_eq_some_iff.1 h).1
  have hx : xs[j] = x := (List.getElem?_eq_some_iff.1 h).2
  have : (strOfNums xs)[j]'hs = UInt8.ofNat x.toNat := by
    show (strOfNums xs).data[j]'_ = _
    simp [strOfNums, hx]
  rw [this]
  simp
  omega
theorem lowBytes_get (a : Int) : ∀ n i : Nat, i < n → (lowBytes a n)[i]? = some (lowByte a i)
  | 0, _, h => absurd h (Nat.not_lt_zero _)
  | n + 1, i, h => by
    unfold lowBytes
    by_cases e : i < n
    · rw [List.getElem?_append_left (by rw [lowBytes_length]; exact e)]
      exact lowBytes_get a n i e
    · obtain rfl : i = n := by omega
      rw [List.getElem?_append_right (by rw [lowBytes_length]; exact Nat.le_refl _), lowBytes_length, Nat.sub_self]
      rfl
theorem lowByte_range (a : Int) (i : Nat) : 0 ≤ lowByte a i ∧ lowByte a i ≤ 255 := by unfold lowByte; omega
theorem lowByte_nat (a : Int) {i : Nat} (hi : i < 8) : lowByte a i = ((un a / 256 ^ i % 256 : Nat) : Int) := by
  unfold lowByte un
  have h : i = 0 ∨ i = 1 ∨ i = 2 ∨ i = 3 ∨ i = 4 ∨ i = 5 ∨ i = 6 ∨ i = 7 := by omega
  rcases h with rfl | rfl | rfl | rfl | rfl | rfl | rfl | rfl <;> simp <;> omega
theorem low_at (a : Int) {n i : Nat} (hn : n ≤ 8) (hi : i < n) : byteAt (strOfNums (lowBytes a n)) (0 + (i : Int)) = un a / 256 ^ i % 256 := by
  have hr := lowByte_range a i
  have hs : i < (strOfNums (lowBytes a n)).size := by rw [strOfNums_size, lowBytes_length]; exact hi
  have h := str_at (lowBytes a n) i _ (lowBytes_get a n i hi) hr.1 hr.2 hs
  unfold byteAt bt
  rw [show 0 + (i : Int) = (i : Int) by omega]
  simp only [Int.toNat_natCast]
  rw [dif_pos hs, h, lowByte_nat a (by omega)]
  rfl
theorem le_low (a : Int) {n : Nat} (hn : n ≤ 8) : ∀ i : Nat, i ≤ n → le (strOfNums (lowBytes a n)) 0 i = un a % 256 ^ i
  | 0, _ => by simp [le, Nat.mod_one]
  | i + 1, h => by
    simp only [le]
    rw [le_low a hn i (by omega), low_at a hn (by omega), Nat.mod_pow_succ, Nat.mul_comm]
theorem low_zero {v s : Int} (hs : Sz s) (hv : -9223372036854775808 ≤ v ∧ v ≤ 9223372036854775807) : wrap64 ((le (strOfNums (lowBytes v s.toNat)) 0 s.toNat : Nat) : Int) = zeroZ v s := by
  have h8 : s.toNat ≤ 8 := by rcases hs with rfl | rfl | rfl | rfl <;> decide
  rw [le_low v h8 _ (Nat.le_refl _), ← zeroZ_un hs hv, show (8 * s).toNat = 8 * s.toNat by omega, Nat.pow_mul]
theorem byteAt_mid (h t x : ByteArray) {i : Nat} (hi : i < t.size) : byteAt (h ++ t ++ x) ((h.size : Int) + (i : Int)) = byteAt t (0 + (i : Int)) := by
  unfold byteAt bt
  have e1 : ((h.size : Int) + (i : Int)).toNat = h.size + i := by omega
  have e2 : (0 + (i : Int)).toNat = i := by omega
  simp only [e1, e2]
  rw [dif_pos (by simp only [ByteArray.size_append]; omega), dif_pos hi]
  rw [ByteArray.getElem_append_left (by simp only [ByteArray.size_append]; omega), ByteArray.getElem_append_right (by omega)]
  simp
theorem take_mid {k : Nat} (hk : 8 < k) {v s : Int} (hs : Sz s) (hv : -9223372036854775808 ≤ v ∧ v ≤ 9223372036854775807) (h x : ByteArray) (hh : h.size ≤ 8) (hx : x.size ≤ 8) :
    impl_TakeLittle.f k (h ++ strOfNums (lowBytes v s.toNat) ++ x) (h.size : Int) s = some (zeroZ v s, 0) := by
  have hsz : (h ++ strOfNums (lowBytes v s.toNat) ++ x).size = h.size + s.toNat + x.size := by simp only [ByteArray.size_append, strOfNums_size, lowBytes_length]
  have h8 : 1 ≤ s ∧ s ≤ 8 := by rcases hs with rfl | rfl | rfl | rfl <;> omega
  unfold impl_TakeLittle.f
  rw [hsz, if_neg (by omega), size_impl, Option.bind_some, if_pos (by simpa using hs), within_impl, Option.bind_some, w64_in (n := ((h.size + s.toNat + x.size : Nat) : Int) - s) (by omega) (by omega), if_pos (by simp; omega), if_pos (by omega), w64_in (n := (h.size : Int) + s) (by omega) (by omega), if_pos (by omega), if_pos (by omega)]
  have e1 : ((h.size : Int)).toNat = h.size := by omega
  have e2 : ((h.size : Int) + s).toNat = h.size + s.toNat := by omega
  rw [e1, e2]
  have hes : ((h ++ strOfNums (lowBytes v s.toNat) ++ x).extract h.size (h.size + s.toNat)).size = s.toNat := by rw [ByteArray.size_extract, hsz]; omega
  rw [take_impl _ (by omega) hk, Option.bind_some, hes]
  rw [le_congr (t := strOfNums (lowBytes v s.toNat)) (b := 0) s.toNat (fun i hi => by
    rw [byteAt_extract (by omega) (by omega)]
    exact byteAt_mid _ _ _ (by rw [strOfNums_size, lowBytes_length]; exact hi)), low_zero hs hv]
theorem take_end {k : Nat} {v s : Int} (hs : Sz s) (h : ByteArray) (hh : h.size ≤ 8) : impl_TakeLittle.f k (h ++ strOfNums (lowBytes v s.toNat)) ((h.size : Int) + 1) s = some (0, 9) := by
  have hsz : (h ++ strOfNums (lowBytes v s.toNat)).size = h.size + s.toNat := by simp only [ByteArray.size_append, strOfNums_size, lowBytes_length]
  have h8 : 1 ≤ s ∧ s ≤ 8 := by rcases hs with rfl | rfl | rfl | rfl <;> omega
  unfold impl_TakeLittle.f
  rw [hsz, if_neg (by omega), size_impl, Option.bind_some, if_pos (by simpa using hs), within_impl, Option.bind_some, w64_in (n := ((h.size + s.toNat : Nat) : Int) - s) (by omega) (by omega), if_neg (by simp; omega)]
theorem some_loop {l : List Int} (hl : ∀ x ∈ l, (Lit.int .u8 x).wf = true) (a : Nat) (ha : a ≤ 8) (d : Nat) : ∀ (i : Nat) (k : Nat) (xs : List Int) (p q : Int), i + d = a → d < k → xs.length = i → 0 ≤ p → p + (d : Int) ≤ 900 → 0 ≤ q → q < 2147483648 →
    ∃ (ys : List Int) (p' q' : Int), spec_l00Src_some.l0 k (a : Int) xs (i : Int) l p q = some (strOfNums ys, p', q') ∧ ys.length = a := by
  induction d with
  | zero =>
    intro i k xs p q hi hk hx p0 p1 q0 q1
    obtain ⟨k, rfl⟩ : ∃ k', k = k' + 1 := ⟨k - 1, by omega⟩
    rw [spec_l00Src_some.l0, if_neg (by omega)]
    exact ⟨xs, p, q, rfl, by omega⟩
  | succ d ih =>
    intro i k xs p q hi hk hx p0 p1 q0 q1
    obtain ⟨k, rfl⟩ : ∃ k', k = k' + 1 := ⟨k - 1, by omega⟩
    obtain ⟨v, q2, e, v0, v1, y0, y1⟩ := byte_tells hl p0 (by omega) q0 q1
    rw [spec_l00Src_some.l0, if_pos (by omega), e, Option.bind_some, if_pos (by omega), show wrap64 ((i : Int) + 1) = ((i + 1 : Nat) : Int) by unfold wrap64; omega]
    exact ih (i + 1) k (xs ++ [v % 256]) (p + 1) q2 (by omega) (by omega) (by simp [hx]) (by omega) (by omega) y0 y1
theorem some_tells {l : List Int} (hl : ∀ x ∈ l, (Lit.int .u8 x).wf = true) {a : Int} (a0 : 0 ≤ a) (a1 : a ≤ 8) {k : Nat} (hk : 8 < k) : ∃ h : ByteArray, spec_SomeText.f k l a = some h ∧ h.size ≤ 8 := by
  obtain ⟨n, rfl⟩ := Int.eq_ofNat_of_zero_le a0
  obtain ⟨ys, p', q', e, hy⟩ := some_loop hl n (by omega) n 0 k [] 0 ((l.length : Int) % 1000) (by omega) (by omega) rfl (by omega) (by omega) (by omega) (by omega)
  unfold spec_SomeText.f spec_l00Source.f spec_l00Src_some.f
  rw [Option.bind_some]
  simp only [show (0 : Int) = ((0 : Nat) : Int) from rfl] at *
  rw [e, Option.bind_some]
  exact ⟨_, rfl, by rw [strOfNums_size]; omega⟩
theorem size_at {m : List Int} (hm : ∀ x ∈ m, (Lit.int .u8 x).wf = true) (hlen : m.length ≤ 140737488351232) : ∃ s, laws_sizeAt.f m 0 = some s ∧ Sz s := by
  obtain ⟨t, e, t0, t1⟩ := at_tells hm hlen 0 (by omega) (by omega) (n := 4) (by omega) (by omega)
  unfold laws_sizeAt.f
  rw [Option.bind_some, e, Option.bind_some, if_pos t0, if_pos (by simp; omega)]
  refine ⟨_, rfl, ?_⟩
  unfold Sz
  rcases (show t = 0 ∨ t = 1 ∨ t = 2 ∨ t = 3 by omega) with rfl | rfl | rfl | rfl
  · exact Or.inl rfl
  · exact Or.inr (Or.inl rfl)
  · exact Or.inr (Or.inr (Or.inl rfl))
  · exact Or.inr (Or.inr (Or.inr rfl))
theorem sign_zero {v s : Int} (hs : Sz s) (hv : -9223372036854775808 ≤ v ∧ v ≤ 9223372036854775807) : signZ (zeroZ v s) s = signZ v s := by
  rcases hs with rfl | rfl | rfl | rfl
  · rw [zeroZ_one]; unfold signZ; simp only [if_true]; omega
  · rw [zeroZ_two]; unfold signZ; simp
  · rw [zeroZ_four]; unfold signZ; simp
  · rw [zeroZ_eight]
theorem zero_range {v s : Int} (hs : Sz s) (hv : -9223372036854775808 ≤ v ∧ v ≤ 9223372036854775807) : -9223372036854775808 ≤ zeroZ v s ∧ zeroZ v s ≤ 9223372036854775807 := by
  rcases hs with rfl | rfl | rfl | rfl
  · rw [zeroZ_one]; omega
  · rw [zeroZ_two]; omega
  · rw [zeroZ_four]; omega
  · rw [zeroZ_eight]; omega
theorem first_byte {v : Int} {n : Nat} (h0 : 0 < n) : ∀ hs : 0 < (strOfNums (lowBytes v n)).size, (wrap64 (((strOfNums (lowBytes v n))[0]'hs).toNat : Int) == wrap64 ((IntKind.u64.wrap v).tmod 256)) = true := fun hs => by
  have hr := lowByte_range v 0
  have h := str_at (lowBytes v n) 0 _ (lowBytes_get v n 0 h0) hr.1 hr.2 hs
  rw [h, beq_iff_eq]
  congr 1
  rw [IntKind.wrap_u64, Int.tmod_eq_emod_of_nonneg (by omega)]
  unfold lowByte
  simp
theorem bytes_tells (A0 : Option Addr) (c0 : Nat) (l : List Int) (A1 : Option Addr) (c1 : Nat) (m : List Int) (w : World) (hl : ∀ x ∈ l, (Lit.int .u8 x).wf = true) (hm : ∀ x ∈ m, (Lit.int .u8 x).wf = true) (hml : m.length ≤ 140737488351232)
    (hr0 : Kd.C (Kd.int .u8) w A0 l.length l) (hc0 : l.length ≤ c0) (hr1 : Kd.C (Kd.int .u8) w A1 m.length m) (hc1 : m.length ≤ c1) :
    Calls Try.prog 10 #[.slice A0 l.length c0, .slice A1 m.length c1] w fun e w' => e = .returned (.bool true) ∧ Below w.heap.size w w' := by
  by_cases hlong : 1048576 < l.length ∨ 1048576 < m.length
  · exact laws_FnBytes.long A0 c0 l A1 c1 m w hlong
  have b0 : l.length ≤ 1048576 := by omega
  have b1 : m.length ≤ 1048576 := by omega
  obtain ⟨v, ev, v0, v1⟩ := number_tells hl
  obtain ⟨s, es, hs⟩ := size_at hm hml
  obtain ⟨a, ea, a0, a1⟩ := at_tells hm hml 1 (by omega) (by omega) (n := 9) (by omega) (by omega)
  obtain ⟨h, eh, hh⟩ := some_tells hm a0 (by omega) (k := 200) (by omega)
  have hv : -9223372036854775808 ≤ v ∧ v ≤ 9223372036854775807 := ⟨v0, v1⟩
  have et : impl_PutLittle.f 200 v s = some (strOfNums (lowBytes v s.toNat), 0) := by
    unfold impl_PutLittle.f
    rw [size_impl, Option.bind_some, if_pos (by simpa using hs), little_impl hs (by omega), Option.bind_some]
  have ex := take_mid (k := 200) (by omega) hs hv h ⟨#[120]⟩ hh (by decide)
  have hsg : ∀ b : Int, -9223372036854775808 ≤ b ∧ b ≤ 9223372036854775807 → impl_SignOf.f b s = some (signZ b s, 0) := fun b hb => by
    unfold impl_SignOf.f
    rw [size_impl, Option.bind_some, if_pos (by simpa using hs), sign_impl hs hb, Option.bind_some]
  have ey : impl_SignOf.f (zeroZ v s) s = some (signZ v s, 0) := by rw [hsg _ (zero_range hs hv), sign_zero hs hv]
  have ew : impl_ZeroOf.f v s = some (zeroZ v s, 0) := by
    unfold impl_ZeroOf.f
    rw [size_impl, Option.bind_some, if_pos (by simpa using hs), zero_impl hs, Option.bind_some]
  have ews : spec_ZeroOf.f 200 v s = some (zeroZ v s, 0) := by
    unfold spec_ZeroOf.f
    rw [size_spec, Option.bind_some, if_pos (by simpa using hs), zero_spec hs hv (by omega), Option.bind_some]
  have eys : spec_SignOf.f 200 v s = some (signZ v s, 0) := by
    unfold spec_SignOf.f
    rw [size_spec, Option.bind_some, if_pos (by simpa using hs), sign_spec hs hv (by omega), Option.bind_some]
  have ef := take_end (k := 200) (v := v) hs h hh
  have htl : (strOfNums (lowBytes v s.toNat)).size = s.toNat := by rw [strOfNums_size, lowBytes_length]
  have hb := first_byte (v := v) (n := s.toNat) (by rcases hs with rfl | rfl | rfl | rfl <;> decide)
  have hsv := hsg v hv
  rcases hs with rfl | rfl | rfl | rfl
  · exact laws_FnBytes.n1 200 A0 c0 l A1 c1 m w v a _ _ _ h _ hr0 hc0 hr1 hc1 b0 b1 ev es ea eh et ex ey hsv ew ef ews eys htl hh hb
  · exact laws_FnBytes.n2 200 A0 c0 l A1 c1 m w v a _ _ _ h _ hr0 hc0 hr1 hc1 b0 b1 ev es ea eh et ex ey hsv ew ef ews eys htl hh hb
  · exact laws_FnBytes.n4 200 A0 c0 l A1 c1 m w v a _ _ _ h _ hr0 hc0 hr1 hc1 b0 b1 ev es ea eh et ex ey hsv ew ef ews eys htl hh hb
  · rw [zeroZ_eight] at ex ey ew ews
    exact laws_FnBytes.n8 200 A0 c0 l A1 c1 m w v a _ _ h _ hr0 hc0 hr1 hc1 b0 b1 ev es ea eh et ex ey hsv ew ef ews eys htl hh hb
theorem FnBytes_walk (a0 : Option Addr) (len0 cap0 : Nat) (z0 : List Int) (a1 : Option Addr) (len1 cap1 : Nat) (z1 : List Int) (w : World) (w0 : (a0 = none ∧ len0 = 0 ∧ cap0 = 0 ∧ z0 = []) ∨ ∃ x, a0 = some x ∧ len0 ≤ cap0 ∧ cap0 ≤ maxLen ∧ z0.length = cap0 ∧ (∀ i, i < z0.length → w.cell? (x.add i) = some (.int .u8 (z0.getD i 0))) ∧ ∀ n ∈ z0, (Lit.int .u8 n).wf = true) (y0 : len0 * 1 ≤ 140737488351232) (w1 : (a1 = none ∧ len1 = 0 ∧ cap1 = 0 ∧ z1 = []) ∨ ∃ x, a1 = some x ∧ len1 ≤ cap1 ∧ cap1 ≤ maxLen ∧ z1.length = cap1 ∧ (∀ i, i < z1.length → w.cell? (x.add i) = some (.int .u8 (z1.getD i 0))) ∧ ∀ n ∈ z1, (Lit.int .u8 n).wf = true) (y1 : len1 * 1 ≤ 140737488351232) :
    Calls Try.prog 10 #[.slice a0 len0 cap0, .slice a1 len1 cap1] w fun e w' => e = .returned (.bool true) ∧ Below w.heap.size w w' := by
  obtain ⟨l0, rfl, hr0, hm0, hw0, hc0⟩ := ReadsInt.ofRowC w0
  obtain ⟨l1, rfl, hr1, hm1, hw1, hc1⟩ := ReadsInt.ofRowC w1
  exact bytes_tells _ _ l0 _ _ l1 w hw0 hw1 (by omega) (Kd.C_of_reads (d := (0 : Int)) (h1 := fun _ => rfl) hr0) hc0 (Kd.C_of_reads (d := (0 : Int)) (h1 := fun _ => rfl) hr1) hc1

end Go.Proofs.Ytdljhgmgpnpfiaa.Pure
