/- What BytesOf answers is what the reference answers. -/
import Derived.Test.YtmnjomglpkbifaaPFnExactBytesOfx1
import Derived.Test.YtmnjomglpkbifaaNum
namespace Go.Proofs.Ytmnjomglpkbifaa.Pure
open Go.RowKit Go.Proofs.Ytmnjomglpkbifaa.PFnExactBytesOf Go.Proofs.YtmnjomglpkbifaaW.PrintWords Go.Proofs.YtmnjomglpkbifaaW.PrintLast Go.Proofs.YtmnjomglpkbifaaW.PrintMore Go.Proofs.Ytmnjomglpkbifaa.Num
set_option linter.unusedVariables false
set_option linter.unusedSimpArgs false

/-- A property of all bytes, tried at each. -/
theorem all_bytes {p : Int → Prop} (h : ∀ i : Fin 256, p (i.val : Int)) {x : Int} (h0 : 0 ≤ x) (h1 : x ≤ 255) : p x := by
  have t := h ⟨x.toNat, by omega⟩
  simp only [show ((x.toNat : Nat) : Int) = x by omega] at t
  exact t
/-- The number of a digit, or 16. -/
def hexN (c : Int) : Int := if c ≥ 48 ∧ c ≤ 57 then c - 48 else if c ≥ 97 ∧ c ≤ 102 then c - 87 else 16
theorem hexN_range (c : Int) : 0 ≤ hexN c ∧ hexN c ≤ 16 := by unfold hexN; split <;> (try split) <;> omega
theorem digit_impl {k : Nat} (hk : 0 < k) {c : Int} (h0 : 0 ≤ c) (h1 : c ≤ 255) : impl_hexDigit.f k c = some (hexN c) := by
  obtain ⟨k, rfl⟩ : ∃ m, k = m + 1 := ⟨k - 1, by omega⟩
  unfold impl_hexDigit.f hexN
  by_cases a : c ≥ 48
  · rw [if_pos a]
    simp only [impl_hexDigit.j0]
    by_cases b : c ≤ 57
    · rw [if_pos (decide_eq_true b), if_pos ⟨a, b⟩]; congr 1; omega
    · rw [if_neg (by simp; omega), if_neg (show ¬ (c ≥ 48 ∧ c ≤ 57) by omega)]
      by_cases a2 : c ≥ 97
      · rw [if_pos a2]
        by_cases b2 : c ≤ 102
        · rw [if_pos b2, if_pos (⟨a2, b2⟩ : c ≥ 97 ∧ c ≤ 102)]; congr 1; omega
        · rw [if_neg b2, if_neg (show ¬ (c ≥ 97 ∧ c ≤ 102) by omega)]
      · rw [if_neg a2, if_neg (show ¬ (c ≥ 97 ∧ c ≤ 102) by omega)]
  · rw [if_neg a]
    simp only [impl_hexDigit.j0]
    rw [if_neg (by simp), if_neg (by omega), if_neg (show ¬ (c ≥ 48 ∧ c ≤ 57) by omega), if_neg (show ¬ (c ≥ 97 ∧ c ≤ 102) by omega)]
theorem digit_spec {k : Nat} (hk : 0 < k) {c : Int} (h0 : 0 ≤ c) (h1 : c ≤ 255) : spec_l01Digit.f k c = some (if hexN c = 16 then -1 else hexN c) := by
  obtain ⟨k, rfl⟩ : ∃ m, k = m + 1 := ⟨k - 1, by omega⟩
  unfold spec_l01Digit.f hexN
  by_cases a : c ≥ 48
  · rw [if_pos a]
    simp only [spec_l01Digit.j0]
    rw [w64_in (n := c) (by omega) (by omega), w64_in (n := c - 48) (by omega) (by omega), w64_in (n := c - 87) (by omega) (by omega)]
    by_cases b : c ≤ 57
    · rw [if_pos (decide_eq_true b), if_pos (⟨a, b⟩ : c ≥ 48 ∧ c ≤ 57), if_neg (by omega)]
    · rw [if_neg (by simp; omega), if_neg (show ¬ (c ≥ 48 ∧ c ≤ 57) by omega)]
      by_cases a2 : c ≥ 97
      · rw [if_pos a2]
        by_cases b2 : c ≤ 102
        · rw [if_pos b2, if_pos (⟨a2, b2⟩ : c ≥ 97 ∧ c ≤ 102), if_neg (by omega)]
        · rw [if_neg b2, if_neg (show ¬ (c ≥ 97 ∧ c ≤ 102) by omega), if_pos rfl]
      · rw [if_neg a2, if_neg (show ¬ (c ≥ 97 ∧ c ≤ 102) by omega), if_pos rfl]
  · rw [if_neg a]
    simp only [spec_l01Digit.j0]
    rw [if_neg (by simp), if_neg (by omega), if_neg (show ¬ (c ≥ 48 ∧ c ≤ 57) by omega), if_neg (show ¬ (c ≥ 97 ∧ c ≤ 102) by omega), if_pos rfl]
theorem two_digits {a b : Int} (a0 : 0 ≤ a) (a1 : a ≤ 15) (b0 : 0 ≤ b) (b1 : b ≤ 15) : Go.bits .or .u8 ((a * 16) % 256) b = (wrap64 (wrap64 (16 * a) + b)) % 256 := by
  have h : ∀ i j : Fin 16, Go.bits .or .u8 (((i.val : Int) * 16) % 256) (j.val : Int) = (16 * (i.val : Int) + j.val) % 256 := by decide +kernel
  have t := h ⟨a.toNat, by omega⟩ ⟨b.toNat, by omega⟩
  simp only [show ((a.toNat : Nat) : Int) = a by omega, show ((b.toNat : Nat) : Int) = b by omega] at t
  rw [t, w64_in (n := 16 * a) (by omega) (by omega), w64_in (by omega) (by omega)]
theorem loops (s : ByteArray) (hs : s.size ≤ 1048576) (he : (s.size : Int) % 2 = 0) : ∀ (d k : Nat) (i : Int) (acc : List Int), 0 ≤ i → (s.size : Int) - i = 2 * d → d + 1 < k → acc.length ≤ 1048576 - d → d ≤ 1048576 →
    ∃ r, spec_l01Bytes.l0 k s acc i = some r ∧ impl_readHex.l0 k s acc i = some r
  | _, 0, _, _, _, _, h, _, _ => absurd h (Nat.not_lt_zero _)
  | 0, k + 1, i, acc, h0, hd, _, _, _ => by
    simp only [spec_l01Bytes.l0, impl_readHex.l0]
    rw [if_neg (by omega), if_neg (by omega)]
    exact ⟨_, rfl, rfl⟩
  | d + 1, k + 1, i, acc, h0, hd, hk, ha, hm => by
    have b1 := bt_range s i
    have b2 := bt_range s (i + 1)
    have r1 := hexN_range (bt s i)
    have r2 := hexN_range (bt s (i + 1))
    simp only [spec_l01Bytes.l0, impl_readHex.l0]
    rw [w64_in (n := i + 1) (by omega) (by omega), w64_in (n := i + 2) (by omega) (by omega)]
    have e1 := digit_spec (k := k) (by omega) b1.1 b1.2
    have e2 := digit_spec (k := k) (by omega) b2.1 b2.2
    have f1 := digit_impl (k := k) (by omega) b1.1 b1.2
    have f2 := digit_impl (k := k) (by omega) b2.1 b2.2
    rw [e1, e2, f1, f2]
    simp only [Option.bind_some]
    by_cases c1 : hexN (bt s i) = 16
    · refine ⟨(⟨#[]⟩, false), ?_, ?_⟩
      · rw [if_pos (by omega), if_pos h0, if_pos (by omega), if_pos (by omega), if_pos (by rw [if_pos c1]; omega)]
      · rw [if_pos (by omega), if_pos h0, if_pos (by omega), if_pos (by omega), if_pos c1]
    · by_cases c2 : hexN (bt s (i + 1)) = 16
      · refine ⟨(⟨#[]⟩, false), ?_, ?_⟩
        · rw [if_pos (by omega), if_pos h0, if_pos (by omega), if_pos (by omega), if_neg (by rw [if_neg c1]; omega), if_pos (by rw [if_pos c2]; omega)]
        · rw [if_pos (by omega), if_pos h0, if_pos (by omega), if_pos (by omega), if_neg c1, if_pos c2]
      · obtain ⟨r, g1, g2⟩ := loops s hs he d k (i + 2) (acc ++ [wrap64 (wrap64 (16 * hexN (bt s i)) + hexN (bt s (i + 1))) % 256]) (by omega) (by omega) (by omega) (by simp; omega) (by omega)
        refine ⟨r, ?_, ?_⟩
        · rw [if_pos (by omega), if_pos h0, if_pos (by omega), if_pos (by omega), if_neg (by rw [if_neg c1]; omega), if_neg (by rw [if_neg c2]; omega), if_pos (by omega), if_neg c1, if_neg c2]
          exact g1
        · rw [if_pos (by omega), if_pos h0, if_pos (by omega), if_pos (by omega), if_neg c1, if_neg c2, if_pos (by omega), two_digits (by omega) (by omega) (by omega) (by omega)]
          exact g2
theorem FnExactBytesOf : laws_FnExactBytesOf.Pure := by
  intro s _
  refine ⟨s.size + 5, ?_⟩
  unfold laws_FnExactBytesOf.f
  by_cases c : (s.size : Int) > 1048576
  · rw [if_pos c]
  · rw [if_neg c]
    unfold spec_BytesOf.f impl_BytesOf.f
    by_cases c1 : (s.size : Int) > 65536
    · rw [if_pos c1, if_pos c1, Option.bind_some, Option.bind_some, if_pos rfl, if_pos rfl]
    · rw [if_neg c1, if_neg c1]
      unfold spec_l01Bytes.f impl_readHex.f
      by_cases c2 : (s.size : Int) % 2 = 0
      · rw [if_pos c2, if_neg (by omega), w64_in (by omega) (by omega), if_pos (by omega), if_pos (by omega)]
        obtain ⟨r, e1, e2⟩ := loops s (by omega) c2 (s.size / 2) (s.size + 5) 0 [] (by omega) (by omega) (by omega) (by simp only [List.length_nil]; omega) (by omega)
        rw [e1, e2]
        simp only [Option.bind_some]
        by_cases c3 : r.2 = true
        · simp only [if_pos c3, Option.bind_some, if_true]
        · simp only [if_neg c3, Option.bind_some, if_true]
      · rw [if_neg c2, if_pos (by omega)]; simp

end Go.Proofs.Ytmnjomglpkbifaa.Pure
