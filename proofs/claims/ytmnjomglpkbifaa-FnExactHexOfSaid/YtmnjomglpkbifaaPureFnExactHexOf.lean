/- What HexOf answers is what the reference answers. -/
import Derived.Test.YtmnjomglpkbifaaPFnExactHexOfx1
import Derived.Test.YtmnjomglpkbifaaNum
namespace Go.Proofs.Ytmnjomglpkbifaa.Pure
open Go.RowKit Go.Proofs.Ytmnjomglpkbifaa.PFnExactHexOf Go.Proofs.YtmnjomglpkbifaaW.PrintWords Go.Proofs.YtmnjomglpkbifaaW.PrintLast Go.Proofs.YtmnjomglpkbifaaW.PrintMore Go.Proofs.Ytmnjomglpkbifaa.Num
set_option linter.unusedVariables false
set_option linter.unusedSimpArgs false

/-- The digits of a byte. -/
def dig (n : Int) : Int := bt (⟨#[48, 49, 50, 51, 52, 53, 54, 55, 56, 57, 97, 98, 99, 100, 101, 102]⟩ : ByteArray) n
/-- A property of all bytes, tried at each. -/
theorem all_bytes {p : Int → Prop} (h : ∀ i : Fin 256, p (i.val : Int)) {x : Int} (h0 : 0 ≤ x) (h1 : x ≤ 255) : p x := by
  have t := h ⟨x.toNat, by omega⟩
  simp only [show ((x.toNat : Nat) : Int) = x by omega] at t
  exact t
theorem and15 {x : Int} (h0 : 0 ≤ x) (h1 : x ≤ 255) : Go.bits .and .u8 x 15 = x % 16 :=
  all_bytes (p := fun x => Go.bits .and .u8 x 15 = x % 16) (by decide +kernel) h0 h1
/-- d bytes from place i on, in digits. -/
def hexFrom (s : ByteArray) (i : Int) : Nat → List Int
  | 0 => []
  | d + 1 => [dig (bt s i / 16), dig (bt s i % 16)] ++ hexFrom s (i + 1) d
theorem hexFrom_length (s : ByteArray) : ∀ (d : Nat) (i : Int), (hexFrom s i d).length = 2 * d
  | 0, _ => rfl
  | d + 1, i => by simp only [hexFrom, List.length_append, hexFrom_length s d]; simp; omega
theorem hex_spec (s : ByteArray) (hs : s.size ≤ 1048576) : ∀ (d k : Nat) (i : Int) (acc : List Int), 0 ≤ i → (s.size : Int) - i = d → d < k → acc.length ≤ 4194304 - 2 * d →
    d ≤ 1048576 → spec_l01Hex.l0 k s acc i = some (strOfNums (acc ++ hexFrom s i d))
  | _, 0, _, _, _, _, h, _, _ => absurd h (Nat.not_lt_zero _)
  | 0, k + 1, i, acc, h0, hd, _, _, _ => by
    simp only [spec_l01Hex.l0]
    rw [if_neg (by omega)]
    simp [hexFrom]
  | d + 1, k + 1, i, acc, h0, hd, hk, ha, hm => by
    have hb := bt_range s i
    simp only [spec_l01Hex.l0]
    rw [if_pos (by omega), if_pos h0]
    rw [show (Int.tdiv (bt s i) 16) % 256 = bt s i / 16 by rw [Int.tdiv_eq_ediv_of_nonneg hb.1]; omega, show Int.tmod (bt s i) 16 = bt s i % 16 from Int.tmod_eq_emod_of_nonneg hb.1]
    rw [if_pos (by omega), if_pos (by omega), if_pos (by omega), if_pos (by omega), Option.bind_some, if_pos (by simp; omega), w64_in (by omega) (by omega)]
    rw [hex_spec s hs d k (i + 1) _ (by omega) (by omega) (by omega) (by simp; omega) (by omega), List.append_assoc]
    rfl
theorem hex_impl (s : ByteArray) (hs : s.size ≤ 1048576) : ∀ (d k : Nat) (i : Int) (acc : List Int), 0 ≤ i → (s.size : Int) - i = d → d < k → acc.length ≤ 4194304 - 2 * d →
    d ≤ 1048576 → impl_hexText.l0 k s acc (s.size : Int) i = some (strOfNums (acc ++ hexFrom s i d))
  | _, 0, _, _, _, _, h, _, _ => absurd h (Nat.not_lt_zero _)
  | 0, k + 1, i, acc, h0, hd, _, _, _ => by
    simp only [impl_hexText.l0]
    rw [if_neg (by omega)]
    simp [hexFrom]
  | d + 1, k + 1, i, acc, h0, hd, hk, ha, hm => by
    have hb := bt_range s i
    simp only [impl_hexText.l0]
    rw [if_pos (by omega), if_pos h0, if_pos (by omega), and15 hb.1 hb.2]
    rw [if_pos (by omega), if_pos (by omega), if_pos (by omega), if_pos (by omega), Option.bind_some, if_pos (by simp; omega), w64_in (by omega) (by omega)]
    rw [hex_impl s hs d k (i + 1) _ (by omega) (by omega) (by omega) (by simp; omega) (by omega), List.append_assoc]
    rfl
theorem hexOf_spec (s : ByteArray) (hs : s.size ≤ 1048576) {k : Nat} (hk : s.size < k) : spec_HexOf.f k s = some (if (s.size : Int) > 32768 then (⟨#[]⟩ : ByteArray) else strOfNums (hexFrom s 0 s.size)) := by
  unfold spec_HexOf.f spec_l01Hex.f
  by_cases c : (s.size : Int) > 32768
  · rw [if_pos c, if_pos c]
  · rw [if_neg c, if_neg c, hex_spec s hs s.size k 0 [] (by omega) (by omega) hk (by simp only [List.length_nil]; omega) (by omega)]
    rfl
theorem hexOf_impl (s : ByteArray) (hs : s.size ≤ 1048576) {k : Nat} (hk : s.size < k) : impl_HexOf.f k s = some (if (s.size : Int) > 32768 then (⟨#[]⟩ : ByteArray) else strOfNums (hexFrom s 0 s.size)) := by
  unfold impl_HexOf.f impl_hexText.f
  by_cases c : (s.size : Int) > 32768
  · rw [if_pos c, if_pos c]
  · rw [if_neg c, if_neg c, w64_in (by omega) (by omega), if_pos (by omega), if_pos (by omega), hex_impl s hs s.size k 0 [] (by omega) (by omega) hk (by simp only [List.length_nil]; omega) (by omega)]
    rfl
theorem FnExactHexOf : laws_FnExactHexOf.Pure := by
  intro s _
  refine ⟨s.size + 1, ?_⟩
  unfold laws_FnExactHexOf.f
  by_cases c : (s.size : Int) > 1048576
  · rw [if_pos c]
  · rw [if_neg c, hexOf_spec s (by omega) (by omega), Option.bind_some, hexOf_impl s (by omega) (by omega), Option.bind_some, if_pos rfl]

end Go.Proofs.Ytmnjomglpkbifaa.Pure
