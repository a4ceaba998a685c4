/- slices.Insert at a row of pages, where there is room. -/
import Derived.Test.YtmldfchddccncaaIns
set_option linter.unusedVariables false
set_option linter.unusedSimpArgs false
namespace Go.Proofs.Ytmldfchddccncaa.PFnExactAddPage
open Go.RowKit Go.Proofs.YtmldfchddccncaaW.PrintWords Go.Proofs.YtmldfchddccncaaW.PrintLast Go.Proofs.YtmldfchddccncaaW.PrintMore
set_option maxHeartbeats 4000000 in
set_option maxRecDepth 100000 in
theorem insert_shift (w : World) (g h n c i : Nat) (cur : Array Value) (p0 p1 p2 : Value) (hg : w.heap[g]? = some (.cells cur 55 (0, 0))) (hh : w.heap[h]? = some (.cells #[p0, p1, p2] 55 (0, 0))) (hne : h ≠ g)
    (hi : i < n) (hroom : n + 1 ≤ c) (hc63 : c ≤ 9223372036854775807) (hsz : cur.size = c * 3) (hone : ∀ v ∈ cur.toList.take (n * 3), v.oneCell' = true) (hp : ∀ v ∈ [p0, p1, p2], v.oneCell' = true) :
    Calls Try.prog 66 #[.slice (some ⟨g, 0, none⟩) n c, .int .i64 i, .slice (some ⟨h, 0, none⟩) 1 1] w fun e w' =>
      e = .returned (.slice (some ⟨g, 0, none⟩) (n + 1) c) ∧ w' = (w.drew.setRow g (putIn cur.toList n i [p0, p1, p2]).toArray) := by
  have u26 := run_underlying Try.underlying26
  have z55 := Try.sizeOf55
  have hov : ∀ o la ca, (callFunc 76 #[.slice (some ⟨h, 0, none⟩) 1 1, .slice (some ⟨g, o, none⟩) la ca]).run Try.prog w = .ok (.value (.bool false)) w := fun o la ca => overlaps_no w g h o la ca cur p0 p1 p2 hg hh hne (by omega)
  have hz2 : ¬ ((i : Int) = (n : Int)) := by omega
  have hw1 : IntKind.i64.wrap ((i : Int) + 1) = (i : Int) + 1 := by rw [IntKind.wrap_i64]; omega
  have hw2 : IntKind.i64.wrap ((n : Int) + 1) = (n : Int) + 1 := by rw [IntKind.wrap_i64]; omega
  have hin : i ≤ n := by omega
  have hb1 : (0 : Int) ≤ (i : Int) + 1 := by omega
  have hb2 : ¬ (c = i + 1) := by omega
  have hb4 : ¬ (c = i) := by omega
  have htn : ((i : Int) + 1).toNat = i + 1 := by omega
  have htn2 : ((n : Int) + 1).toNat = n + 1 := by omega
  have hr : ¬ ((c : Int) < (n : Int) + 1) := by omega
  have hb3 : (i : Int) + 1 ≤ (n : Int) + 1 := by omega
  have hb5 : (i : Int) ≤ (n : Int) + 1 := by omega
  have hsl : (P : Nat) → P = 3 → (Try.prog.info? 55).map (·.size) = some P := by intro P hP; subst hP; kernel_rfl
  obtain ⟨cs, hcs⟩ : ∃ cs : List Value, cs = (cur.toList.drop (i * 3)).take ((n - i) * 3) := ⟨_, rfl⟩
  have hcl : cs.length = (n - i) * 3 := by rw [hcs, List.length_take, List.length_drop, Array.length_toList, hsz]; omega
  have hc1 : ∀ v ∈ cs, v.oneCell' = true := fun v hv => hone v (by
    rw [hcs] at hv
    rw [show n * 3 = i * 3 + (n - i) * 3 by omega, List.take_add]
    exact List.mem_append_right _ hv)
  have hsr : ∀ j v, cs[j]? = some v → w.drew.cell? ((⟨g, i * 3, none⟩ : Addr).add j) = some v := fun j v hj => by
    have e : (⟨g, i * 3, none⟩ : Addr).add j = ⟨g, i * 3 + j, none⟩ := Addr.add_lit _ _ _
    rw [e, cell_of_row w.drew g (i * 3 + j) cur 55 (0, 0) hg, ← Array.getElem?_toList]
    rw [hcs, List.getElem?_take] at hj
    split at hj
    · rw [List.getElem?_drop] at hj; exact hj
    · cases hj
  obtain ⟨R1, hR1⟩ : ∃ R1 : Array Value, R1 = (cur.toList.take ((i + 1) * 3) ++ cs ++ cur.toList.drop ((i + 1) * 3 + cs.length)).toArray := ⟨_, rfl⟩
  have hcp1 : ∀ ty dc sc, (Builtin.copy_ #[26, 26] ty #[.slice (some ⟨g, (i + 1) * 3, none⟩) (n - i) dc, .slice (some ⟨g, i * 3, none⟩) (n + 1 - i) sc]).run Try.prog w.drew = .ok (goInt ((n - i : Nat) : Int)) (w.drew.setRow g R1) := fun ty dc sc => by
    have hm : n - i = Nat.min (n + 1 - i) (n - i) := by simp only [Nat.min_def]; split <;> omega
    rw [hR1]
    exact run_copy_rowK w.drew 26 26 ty 55 g ((i + 1) * 3) _ dc ⟨g, i * 3, none⟩ _ sc cur 55 cs 3 Try.underlying26 (hsl 3 rfl) hg (by rw [hcl, ← hm]) (n - i) hm hsr (by rw [hcl, hsz]; omega) hc1
  have hg1 : (w.drew.setRow g R1).heap[g]? = some (.cells R1 55 (0, 0)) := setRow_heap w.drew g cur R1 55 (0, 0) hg
  have hr1 : R1.size = c * 3 := by
    rw [hR1]
    simp only [List.size_toArray, List.length_append, List.length_take, List.length_drop, Array.length_toList, hcl, hsz, Nat.min_def]
    split <;> omega
  obtain ⟨R2, hR2⟩ : ∃ R2 : Array Value, R2 = (R1.toList.take (i * 3) ++ [p0, p1, p2] ++ R1.toList.drop (i * 3 + [p0, p1, p2].length)).toArray := ⟨_, rfl⟩
  have hcp2 : ∀ ty dc sc, (Builtin.copy_ #[26, 26] ty #[.slice (some ⟨g, i * 3, none⟩) (n + 1 - i) dc, .slice (some ⟨h, 0, none⟩) 1 sc]).run Try.prog (w.drew.setRow g R1) = .ok (goInt 1) ((w.drew.setRow g R1).setRow g R2) := fun ty dc sc => by
    have hm : 1 = Nat.min 1 (n + 1 - i) := by simp only [Nat.min_def]; split <;> omega
    rw [hR2]
    exact run_copy_rowK _ 26 26 ty 55 g (i * 3) _ dc ⟨h, 0, none⟩ 1 sc R1 55 [p0, p1, p2] 3 Try.underlying26 (hsl 3 rfl) hg1 (by rw [← hm]; rfl) 1 hm (fun j v hj => by
      have e : (⟨h, 0, none⟩ : Addr).add j = ⟨h, j, none⟩ := by rw [Addr.add_lit, Nat.zero_add]
      rw [e, cell_setRow_other _ _ _ _ hne, cell_of_row w.drew h j _ 55 (0, 0) hh, ← Array.getElem?_toList]
      exact hj) (by rw [hr1]; show i * 3 + 3 ≤ c * 3; omega) hp
  have hfin : R2 = (putIn cur.toList n i [p0, p1, p2]).toArray := by
    rw [hR2]
    unfold putIn
    congr 1
    have a1 : R1.toList.take (i * 3) = cur.toList.take (i * 3) := by
      rw [hR1]
      simp only [List.append_assoc]
      rw [List.take_append_of_le_length (by rw [List.length_take, Array.length_toList, hsz]; simp only [Nat.min_def]; split <;> omega), List.take_take]
      congr 1
      simp only [Nat.min_def]; split <;> omega
    have a2 : R1.toList.drop (i * 3 + [p0, p1, p2].length) = cs ++ cur.toList.drop ((n + 1) * 3) := by
      rw [hR1]
      simp only [List.append_assoc]
      rw [List.drop_left' (by rw [List.length_take, Array.length_toList, hsz]; simp only [List.length_cons, List.length_nil, Nat.min_def]; split <;> omega)]
      congr 2
      rw [hcl]; omega
    rw [a1, a2, hcs]
    simp only [List.append_assoc]
  rw [← hfin]
  have hwe : (w.drew.setRow g R1).setRow g R2 = w.drew.setRow g R2 := setRow_setRow _ _ _ _
  rw [hwe] at hcp2
  clear hfin hR2 hR1 hr1 hg1 hsr hc1 hcl hcs hone hp hsz hg hh
  go_enter Try.func66, Try.ntmps66
  go_wp2_with (simp only [hov])
  go_region_law (refine step_copy_at rfl _ _ 26 26 rfl _ _ (by simp [Act.eval, Act.put]) (by simp [Act.eval, Act.put]) (hcp1 _ _ _) ?_)
  go_wp2_with (at_builtin; refine wpList_copy_at _ rfl _ _ 26 26 rfl _ _ rfl rfl (hcp2 _ _ _) ?_)
  go_ret
  exact ⟨rfl, rfl⟩
end Go.Proofs.Ytmldfchddccncaa.PFnExactAddPage
