/- The program's OpOf answers as the reference's at every text. -/
import Derived.Test.YtcnfgacnjjgjeaaPFnExactOpOfx1
import Derived.Lib.Strings
namespace Go.Proofs.Ytcnfgacnjjgjeaa.Pure
open Go.RowKit Go.Proofs.Ytcnfgacnjjgjeaa.PFnExactOpOf Go.Proofs.YtcnfgacnjjgjeaaW.PrintWords Go.Proofs.YtcnfgacnjjgjeaaW.PrintLast

/-- The place of a text in a list of texts, counted from i on; -1 where it isn't there. -/
def srch (s : ByteArray) : List ByteArray → Int → Int
  | [], _ => -1
  | x :: xs, i => if x.toList = s.toList then i else srch s xs (i + 1)
theorem drop_at {L : List ByteArray} {i : Int} (h0 : 0 ≤ i) (h1 : i < L.length) : L.drop i.toNat = rdOf ByteArray.empty L i :: L.drop (i + 1).toNat := by
  have hl : i.toNat < L.length := by omega
  rw [List.drop_eq_getElem_cons hl, show (i + 1).toNat = i.toNat + 1 by omega]
  unfold rdOf
  rw [List.getD_eq_getElem?_getD, List.getElem?_eq_getElem hl]
  rfl
theorem srch_gone {s : ByteArray} : ∀ {L : List ByteArray} {i : Int}, (∀ x ∈ L, x.toList ≠ s.toList) → srch s L i = -1
  | [], _, _ => rfl
  | x :: xs, i, h => by
    unfold srch
    rw [if_neg (h x (by simp))]
    exact srch_gone fun y hy => h y (by simp [hy])
theorem srch_from {s : ByteArray} : ∀ {L : List ByteArray} {i : Int}, 0 ≤ i → srch s L (i + 1) = if srch s L i = -1 then -1 else srch s L i + 1
  | [], _, _ => rfl
  | x :: xs, i, h => by
    unfold srch
    by_cases e : x.toList = s.toList
    · rw [if_pos e, if_pos e, if_neg (by omega)]
    · rw [if_neg e, if_neg e]
      exact srch_from (by omega)
theorem srch_ge {s : ByteArray} : ∀ {L : List ByteArray} {i : Int}, 0 ≤ i → srch s L i = -1 ∨ (i ≤ srch s L i ∧ srch s L i < i + L.length)
  | [], _, _ => .inl rfl
  | x :: xs, i, h => by
    unfold srch
    by_cases e : x.toList = s.toList
    · rw [if_pos e]; right; simp; omega
    · rw [if_neg e]
      rcases srch_ge (s := s) (L := xs) (i := i + 1) (by omega) with h | h
      · exact .inl h
      · right; simp; omega
theorem index_tells (L : List ByteArray) (s : ByteArray) (hL : L.length ≤ 1000000) : ∀ (k : Nat) (i : Int), 0 ≤ i → i ≤ L.length → (L.length : Int) - i < k → slices_Index_string_string.l0 k L s (L.length : Int) i = some (srch s (L.drop i.toNat) i)
  | 0, i, h0, h1, hk => by omega
  | k + 1, i, h0, h1, hk => by
    simp only [slices_Index_string_string.l0]
    by_cases hlt : i < (L.length : Int)
    · rw [if_pos hlt, if_pos h0, if_pos hlt, drop_at h0 hlt]
      unfold srch
      by_cases e : (rdOf ByteArray.empty L i).toList = s.toList
      · rw [if_pos e.symm, if_pos e]
      · rw [if_neg (fun h => e h.symm), if_neg e, show wrap64 (i + 1) = i + 1 by unfold wrap64; omega]
        exact index_tells L s hL k (i + 1) (by omega) (by omega) (by omega)
    · rw [if_neg hlt, List.drop_eq_nil_of_le (by omega)]
      rfl
theorem at_tells (L : List ByteArray) (s : ByteArray) (hL : L.length ≤ 1000000) : ∀ (k : Nat) (i : Int), 0 ≤ i → i ≤ L.length → (L.length : Int) - i < k → spec_l03At.l0 k L s i = some (srch s (L.drop i.toNat) i)
  | 0, i, h0, h1, hk => by omega
  | k + 1, i, h0, h1, hk => by
    simp only [spec_l03At.l0]
    by_cases hlt : i < (L.length : Int)
    · rw [if_pos hlt, if_pos h0, drop_at h0 hlt]
      unfold srch
      by_cases e : (rdOf ByteArray.empty L i).toList = s.toList
      · rw [if_pos e, if_pos e]
      · rw [if_neg e, if_neg e, show wrap64 (i + 1) = i + 1 by unfold wrap64; omega]
        exact at_tells L s hL k (i + 1) (by omega) (by omega) (by omega)
    · rw [if_neg hlt, List.drop_eq_nil_of_le (by omega)]
      rfl
theorem names_there : ∃ L, spec_l03Names.f = some L ∧ impl_opNames.f = some ((⟨#[]⟩ : ByteArray) :: L) ∧ L.length = 44 ∧ ∀ x ∈ L, 0 < x.size ∧ x.size < 100 := by
  refine ⟨_, rfl, rfl, rfl, ?_⟩
  decide +kernel
theorem FnExactOpOf : laws_FnExactOpOf.Pure := by
  intro a0 _
  refine ⟨46, ?_⟩
  unfold laws_FnExactOpOf.f
  by_cases hb : (a0.size : Int) > 1048576
  · rw [if_pos hb]
  · rw [if_neg hb]
    obtain ⟨L, hL, hM, hl, hs⟩ := names_there
    have hg : ¬ (a0.size < 100 ∧ 0 < a0.size) → srch a0 L 0 = -1 := fun hh => srch_gone fun x hx e => by
      have := hs x hx
      rw [Go.Lib.toList_data, Go.Lib.toList_data] at e
      have := congrArg List.length e
      simp at this
      omega
    have hi : impl_OpOf.f 46 a0 = some (srch a0 L 0 + 1) := by
      unfold impl_OpOf.f
      rw [hM]
      simp only [Option.bind_some, slices_Index_string_string.f]
      rw [index_tells _ a0 (by simp; omega) 46 0 (by omega) (by omega) (by simp; omega)]
      simp only [Option.bind_some, Int.toNat_zero, List.drop_zero, srch]
      congr 1
      by_cases e : ((⟨#[]⟩ : ByteArray)).toList = a0.toList
      · rw [if_pos e, hg (fun hh => by
          rw [Go.Lib.toList_data, Go.Lib.toList_data] at e
          have := congrArg List.length e
          simp at this
          have h0 := hh.2
          rw [← this] at h0
          simp at h0)]
        rfl
      · rw [if_neg e, srch_from (by omega)]
        by_cases e2 : srch a0 L 0 = -1
        · rw [if_pos e2, e2]; rfl
        · rw [if_neg e2]
          have := srch_ge (s := a0) (L := L) (i := 0) (by omega)
          unfold mx
          rw [if_pos (by omega)]
    have hsp : spec_OpOf.f 46 a0 = some (srch a0 L 0 + 1) := by
      unfold spec_OpOf.f
      by_cases h : (a0.size : Int) > 65536
      · rw [if_pos h, hg (fun hh => by have := hh.1; omega)]
        rfl
      · rw [if_neg h, hL]
        simp only [Option.bind_some, spec_l03At.f]
        rw [at_tells _ a0 (by omega) 46 0 (by omega) (by omega) (by omega)]
        simp only [Option.bind_some, Int.toNat_zero, List.drop_zero]
        congr 1
        have := srch_ge (s := a0) (L := L) (i := 0) (by omega)
        unfold wrap64
        omega
    rw [hi, hsp]
    simp only [Option.bind_some, if_true]

end Go.Proofs.Ytcnfgacnjjgjeaa.Pure
