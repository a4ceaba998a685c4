/- The program's CodeOf answers as the reference's at every text. -/
import Derived.Test.YtcnfgacnjjgjeaaPFnExactCodeOfx1
namespace Go.Proofs.Ytcnfgacnjjgjeaa.Pure
open Go.RowKit Go.Proofs.Ytcnfgacnjjgjeaa.PFnExactCodeOf Go.Proofs.YtcnfgacnjjgjeaaW.PrintWords Go.Proofs.YtcnfgacnjjgjeaaW.PrintLast

/-- The place of a text in a list of texts, counted from i on; -1 where it isn't there. -/
def srch (s : ByteArray) : List ByteArray → Int → Int
  | [], _ => -1
  | x :: xs, i => if x.toList = s.toList then i else srch s xs (i + 1)
theorem drop_at {L : List ByteArray} {i : Int} (h0 : 0 ≤ i) (h1 : i < L.length) : L.drop i.toNat = rdOf ByteArray.empty L i :: L.drop (i + 1).toNat := by
  have hl : i.toNat < L.length := by omega
  rw [List.drop_eq_getElem_cons hl, show (i + 1).toNat = i.toNat + 1 by omega]
  unfold rdOf
  rw [List.getD_eq_getElem?_getD, List.getElem?_eq_getElem hl]
  rfl
theorem srch_gone {s : ByteArray} : ∀ {L : List ByteArray} {i : Int}, (∀ x ∈ L, x.toList ≠ s.toList) → srch s L i = -1
  | [], _, _ => rfl
  | x :: xs, i, h => by
    unfold srch
    rw [if_neg (h x (by simp))]
    exact srch_gone fun y hy => h y (by simp [hy])
theorem srch_from {s : ByteArray} : ∀ {L : List ByteArray} {i : Int}, 0 ≤ i → srch s L (i + 1) = if srch s L i = -1 then -1 else srch s L i + 1
  | [], _, _ => rfl
  | x :: xs, i, h => by
    unfold srch
    by_cases e : x.toList = s.toList
    · rw [if_pos e, if_pos e, if_neg (by omega)]
    · rw [if_neg e, if_neg e]
      exact srch_from (by omega)
theorem srch_ge {s : ByteArray} : ∀ {L : List ByteArray} {i : Int}, 0 ≤ i → srch s L i = -1 ∨ (i ≤ srch s L i ∧ srch s L i < i + L.length)
  | [], _, _ => .inl rfl
  | x :: xs, i, h => by
    unfold srch
    by_cases e : x.toList = s.toList
    · rw [if_pos e]; right; simp; omega
    · rw [if_neg e]
      rcases srch_ge (s := s) (L := xs) (i := i + 1) (by omega) with h | h
      · exact .inl h
      · right; simp; omega
theorem index_tells (L : List ByteArray) (s : ByteArray) (hL : L.length ≤ 1000000) : ∀ (k : Nat) (i : Int), 0 ≤ i → i ≤ L.length → (L.length : Int) - i < k → slices_Index_string_string.l0 k L s (L.length : Int) i = some (srch s (L.drop i.toNat) i)
  | 0, i, h0, h1, hk => by omega
  | k + 1, i, h0, h1, hk => by
    simp only [slices_Index_string_string.l0]
    by_cases hlt : i < (L.length : Int)
    · rw [if_pos hlt, if_pos h0, if_pos hlt, drop_at h0 hlt]
      unfold srch
      by_cases e : (rdOf ByteArray.empty L i).toList = s.toList
      · rw [if_pos e.symm, if_pos e]
      · rw [if_neg (fun h => e h.symm), if_neg e, show wrap64 (i + 1) = i + 1 by unfold wrap64; omega]
        exact index_tells L s hL k (i + 1) (by omega) (by omega) (by omega)
    · rw [if_neg hlt, List.drop_eq_nil_of_le (by omega)]
      rfl
theorem words_there : ∃ L, impl_codeWords.f = some L ∧ L.length = 36 ∧ ∀ i : Int, 0 ≤ i → i < 36 → spec_CodeWord.f i = some (rdOf ByteArray.empty L i) := by
  refine ⟨_, rfl, rfl, fun i h0 h1 => ?_⟩
  unfold spec_CodeWord.f
  simp only [Option.bind_some]
  rw [if_neg (by omega), if_neg (by simp only [List.length_cons, List.length_nil]; omega), if_pos (by omega), if_pos (by simp only [List.length_cons, List.length_nil]; omega)]
theorem code_tells (L : List ByteArray) (s : ByteArray) (hl : L.length = 36) (hL : ∀ i : Int, 0 ≤ i → i < 36 → spec_CodeWord.f i = some (rdOf ByteArray.empty L i)) : ∀ (k : Nat) (i : Int), 0 ≤ i → i ≤ 36 → 36 - i < (k : Int) → spec_CodeOf.l0 k s i = some (srch s (L.drop i.toNat) i)
  | 0, i, h0, h1, hk => by omega
  | k + 1, i, h0, h1, hk => by
    simp only [spec_CodeOf.l0]
    by_cases hlt : i ≤ 35
    · rw [if_pos hlt, hL i h0 (by omega), drop_at h0 (by omega)]
      simp only [Option.bind_some]
      unfold srch
      by_cases e : (rdOf ByteArray.empty L i).toList = s.toList
      · rw [if_pos e, if_pos e]
      · rw [if_neg e, if_neg e, show wrap64 (i + 1) = i + 1 by unfold wrap64; omega]
        exact code_tells L s hl hL k (i + 1) (by omega) (by omega) (by omega)
    · rw [if_neg hlt, List.drop_eq_nil_of_le (by omega)]
      rfl
theorem FnExactCodeOf : laws_FnExactCodeOf.Pure := by
  intro a0 _
  refine ⟨37, ?_⟩
  unfold laws_FnExactCodeOf.f
  by_cases hb : (a0.size : Int) > 1048576
  · rw [if_pos hb]
  · rw [if_neg hb]
    unfold spec_CodeOf.f impl_CodeOf.f
    obtain ⟨L, hL, hl, hw⟩ := words_there
    rw [hL, code_tells L a0 hl hw 37 0 (by omega) (by omega) (by omega)]
    simp only [Option.bind_some, slices_Index_string_string.f]
    rw [index_tells L a0 (by omega) 37 0 (by omega) (by omega) (by omega)]
    simp only [Option.bind_some, if_true]

end Go.Proofs.Ytcnfgacnjjgjeaa.Pure
