/- slices.Insert at a row of pages, where there is no room: a new row. -/
import Derived.Test.YtmldfchddccncaaIns
set_option linter.unusedVariables false
set_option linter.unusedSimpArgs false
namespace Go.Proofs.Ytmldfchddccncaa.PFnExactAddPage
open Go.RowKit Go.Proofs.YtmldfchddccncaaW.PrintWords Go.Proofs.YtmldfchddccncaaW.PrintLast Go.Proofs.YtmldfchddccncaaW.PrintMore
set_option maxHeartbeats 4000000 in
set_option maxRecDepth 100000 in
theorem insert_grow (w : World) (g h n c i : Nat) (cur : Array Value) (p0 p1 p2 : Value) (hg : w.heap[g]? = some (.cells cur 55 (0, 0))) (hh : w.heap[h]? = some (.cells #[p0, p1, p2] 55 (0, 0)))
    (hi : i < n) (hnc : n ≤ c) (hroom : c < n + 1) (hbig : (n + 1) * 32 ≤ 140737488355328) (hsz : cur.size = c * 3) (hone : ∀ v ∈ cur.toList.take (n * 3), v.oneCell' = true) (hp : ∀ v ∈ [p0, p1, p2], v.oneCell' = true) :
    Calls Try.prog 66 #[.slice (some ⟨g, 0, none⟩) n c, .int .i64 i, .slice (some ⟨h, 0, none⟩) 1 1] w fun e w' =>
      ∃ (G : Nat) (R : Array Value), e = .returned (.slice (some ⟨w.heap.size, 0, none⟩) (n + 1) G) ∧ n + 1 ≤ G ∧ G ≤ maxLen ∧ w'.heap[w.heap.size]? = some (.cells R 55 (0, 0)) ∧ R.size = G * 3 ∧ R.toList.take ((n + 1) * 3) = cur.toList.take (i * 3) ++ [p0, p1, p2] ++ (cur.toList.drop (i * 3)).take ((n - i) * 3) ∧ Below w.heap.size w w' := by
  have u26 := run_underlying Try.underlying26
  have z55 := Try.sizeOf55
  obtain ⟨i0, hi0, hzz⟩ := Option.map_eq_some_iff.1 info55
  simp only [Prod.mk.injEq] at hzz
  obtain ⟨hz0, hz1, hz2⟩ := hzz
  have hgw : g < w.heap.size := (Array.getElem?_eq_some_iff.1 hg).1
  have hhw : h < w.heap.size := (Array.getElem?_eq_some_iff.1 hh).1
  have hsl : (Try.prog.info? 55).map (·.size) = some 3 := by kernel_rfl
  have hold : (Builtin.firstCells i0.size i (.slice (some ⟨g, 0, none⟩) i c)).run Try.prog w.drew = .ok (cur.toList.take (i * 3)).toArray w.drew := by
    rw [hz1]
    refine run_firstCells_some w.drew 3 i ⟨g, 0, none⟩ i c (cur.toList.take (i * 3)) (by rw [List.length_take, Array.length_toList, hsz]; simp only [Nat.min_def]; split <;> omega) (fun j v hj => ?_)
    rw [Addr.add_lit, Nat.zero_add, cell_of_row w.drew g j cur 55 (0, 0) hg, ← Array.getElem?_toList]
    rw [List.getElem?_take] at hj
    split at hj
    · exact hj
    · cases hj
  have hik : i + (n + 1 - i) = n + 1 := by omega
  have hrz : ∀ ty, (Builtin.append_ #[26, 3] ty #[.slice (some ⟨g, 0, none⟩) i c, .int .i64 ((n : Int) + 1 - (i : Int))]).run Try.prog w =
      .ok (.slice (some ⟨w.heap.size, 0, none⟩) (n + 1) (grownCap w (n + 1) c 55)) (w.drew.alloc (.cells ((cur.toList.take (i * 3)).toArray ++ Builtin.zeroCells (Value.agg #[(.int .i64 0), (.int .i64 0), (.string ⟨#[]⟩)]).cells (n + 1 - i) ++ Builtin.zeroCells (Value.agg #[(.int .i64 0), (.int .i64 0), (.string ⟨#[]⟩)]).cells (grownCap w (n + 1) c 55 - (n + 1))) 55)) := fun ty => by
    have h := Lib.run_append_grow_zeros w 26 3 ty 55 i0 _ .i64 .i64 Try.underlying26 Try.underlying3 hi0 hz0 (some ⟨g, 0, none⟩) i c (cur.toList.take (i * 3)) hold (n + 1 - i) (by omega) (by rw [hz1]; decide) (by omega) (by omega) (by rw [hz2]; omega) (by rw [hz2, hik]; exact growslice_fits hroom hbig)
    rw [hik] at h
    rw [show ((n : Int) + 1 - (i : Int)) = ((n + 1 - i : Nat) : Int) by omega]
    exact h
  obtain ⟨G, hG⟩ : ∃ G, G = grownCap w (n + 1) c 55 := ⟨_, rfl⟩
  obtain ⟨R0, hR0⟩ : ∃ R0 : Array Value, R0 = (cur.toList.take (i * 3)).toArray ++ Builtin.zeroCells (Value.agg #[(.int .i64 0), (.int .i64 0), (.string ⟨#[]⟩)]).cells (n + 1 - i) ++ Builtin.zeroCells (Value.agg #[(.int .i64 0), (.int .i64 0), (.string ⟨#[]⟩)]).cells (G - (n + 1)) := ⟨_, rfl⟩
  rw [← hG, ← hR0] at hrz
  have hGn : n + 1 ≤ G := by rw [hG]; exact grownCap_ge w _ _ _
  have hGm : G ≤ maxLen := by
    rw [hG]
    exact grownCap_le_maxLen w (n + 1) c 55 (by unfold maxLen; omega)
  have hlt : (cur.toList.take (i * 3)).length = i * 3 := by rw [List.length_take, Array.length_toList, hsz]; simp only [Nat.min_def]; split <;> omega
  have hr0 : R0.size = G * 3 := by
    rw [hR0]
    simp only [Array.size_append, List.size_toArray, hlt, Builtin.zeroCells, Array.size_map, Array.size_range]
    have e3 : (Value.agg #[(.int .i64 0), (.int .i64 0), (.string ⟨#[]⟩)]).cells.size = 3 := rfl
    rw [e3]
    omega
  have ht0 : R0.toList.take (i * 3) = cur.toList.take (i * 3) := by
    rw [hR0]
    simp only [Array.toList_append, List.append_assoc]
    rw [List.take_left' hlt]
  obtain ⟨W1, hW1⟩ : ∃ W1, W1 = w.drew.alloc (.cells R0 55) := ⟨_, rfl⟩
  have hg1 : W1.heap[w.heap.size]? = some (.cells R0 55 (0, 0)) := by rw [hW1]; exact blk_new w.drew _
  have hgo : W1.heap[g]? = some (.cells cur 55 (0, 0)) := by
    rw [hW1]
    exact blk_alloc (w := w.drew) hg _
  have hho : W1.heap[h]? = some (.cells #[p0, p1, p2] 55 (0, 0)) := by
    rw [hW1]
    exact blk_alloc (w := w.drew) hh _
  have hb1 : Below w.heap.size w W1 := by
    rw [hW1]
    exact below_alloc (below_drew1 (Below.refl _ _)) _
  rw [← hW1] at hrz
  obtain ⟨b, hb⟩ : ∃ b, b = w.heap.size := ⟨_, rfl⟩
  rw [← hb] at hrz hg1 hb1 hgw hhw ⊢
  have hbg : g ≠ b := by omega
  have hbh : h ≠ b := by omega
  obtain ⟨R1, hR1⟩ : ∃ R1 : Array Value, R1 = (R0.toList.take (i * 3) ++ [p0, p1, p2] ++ R0.toList.drop (i * 3 + [p0, p1, p2].length)).toArray := ⟨_, rfl⟩
  obtain ⟨W2, hW2⟩ : ∃ W2, W2 = W1.setRow b R1 := ⟨_, rfl⟩
  have hcp1 : ∀ ty dc sc, (Builtin.copy_ #[26, 26] ty #[.slice (some ⟨b, i * 3, none⟩) (n + 1 - i) dc, .slice (some ⟨h, 0, none⟩) 1 sc]).run Try.prog W1 = .ok (goInt 1) W2 := fun ty dc sc => by
    have hm : 1 = Nat.min 1 (n + 1 - i) := by simp only [Nat.min_def]; split <;> omega
    rw [hW2, hR1]
    exact run_copy_rowK _ 26 26 ty 55 b (i * 3) _ dc ⟨h, 0, none⟩ 1 sc R0 55 [p0, p1, p2] 3 Try.underlying26 hsl hg1 (by rw [← hm]; rfl) 1 hm (fun j v hj => by
      have e : (⟨h, 0, none⟩ : Addr).add j = ⟨h, j, none⟩ := by rw [Addr.add_lit, Nat.zero_add]
      rw [e, cell_of_row W1 h j _ 55 (0, 0) hho, ← Array.getElem?_toList]
      exact hj) (by rw [hr0]; show i * 3 + 3 ≤ G * 3; omega) hp
  have hg2 : W2.drew.heap[b]? = some (.cells R1 55 (0, 0)) := by rw [hW2]; exact setRow_heap W1 b R0 R1 55 (0, 0) hg1
  have hgo2 : W2.drew.heap[g]? = some (.cells cur 55 (0, 0)) := by rw [hW2]; exact (setRow_other W1 b g R1 hbg).trans hgo
  have hb2 : Below b w W2.drew := by rw [hW2]; exact below_drew1 (below_setRow hb1 (Nat.le_refl _) R1)
  have hr1 : R1.size = G * 3 := by
    rw [hR1]
    simp only [List.size_toArray, List.length_append, List.length_take, List.length_drop, Array.length_toList, List.length_cons, List.length_nil, hr0, Nat.min_def]
    split <;> omega
  have ht1 : R1.toList.take (i * 3) = cur.toList.take (i * 3) := by
    rw [hR1]
    simp only [List.append_assoc]
    rw [List.take_left' (by rw [List.length_take, Array.length_toList, hr0]; simp only [Nat.min_def]; split <;> omega)]
    exact ht0
  have hu1 : R1.toList.take ((i + 1) * 3) = cur.toList.take (i * 3) ++ [p0, p1, p2] := by
    rw [hR1]
    rw [List.take_left' (by rw [List.length_append, List.length_take, Array.length_toList, hr0]; simp only [List.length_cons, List.length_nil, Nat.min_def]; split <;> omega)]
    rw [ht0]
  obtain ⟨cs, hcs⟩ : ∃ cs : List Value, cs = (cur.toList.drop (i * 3)).take ((n - i) * 3) := ⟨_, rfl⟩
  have hcl : cs.length = (n - i) * 3 := by rw [hcs, List.length_take, List.length_drop, Array.length_toList, hsz]; omega
  have hc1 : ∀ v ∈ cs, v.oneCell' = true := fun v hv => hone v (by
    rw [hcs] at hv
    rw [show n * 3 = i * 3 + (n - i) * 3 by omega, List.take_add]
    exact List.mem_append_right _ hv)
  have hsr : ∀ j v, cs[j]? = some v → W2.drew.cell? ((⟨g, i * 3, none⟩ : Addr).add j) = some v := fun j v hj => by
    have e : (⟨g, i * 3, none⟩ : Addr).add j = ⟨g, i * 3 + j, none⟩ := Addr.add_lit _ _ _
    rw [e, cell_of_row W2.drew g (i * 3 + j) cur 55 (0, 0) hgo2, ← Array.getElem?_toList]
    rw [hcs, List.getElem?_take] at hj
    split at hj
    · rw [List.getElem?_drop] at hj; exact hj
    · cases hj
  obtain ⟨R2, hR2⟩ : ∃ R2 : Array Value, R2 = (R1.toList.take ((i + 1) * 3) ++ cs ++ R1.toList.drop ((i + 1) * 3 + cs.length)).toArray := ⟨_, rfl⟩
  have hcp2 : ∀ ty dc sc, (Builtin.copy_ #[26, 26] ty #[.slice (some ⟨b, (i + 1) * 3, none⟩) (n - i) dc, .slice (some ⟨g, i * 3, none⟩) (n - i) sc]).run Try.prog W2.drew = .ok (goInt ((n - i : Nat) : Int)) (W2.drew.setRow b R2) := fun ty dc sc => by
    have hm : n - i = Nat.min (n - i) (n - i) := by simp only [Nat.min_def]; split <;> omega
    rw [hR2]
    exact run_copy_rowK W2.drew 26 26 ty 55 b ((i + 1) * 3) _ dc ⟨g, i * 3, none⟩ _ sc R1 55 cs 3 Try.underlying26 hsl hg2 (by rw [hcl, ← hm]) (n - i) hm hsr (by rw [hcl, hr1]; omega) hc1
  have hg3 : (W2.drew.setRow b R2).heap[b]? = some (.cells R2 55 (0, 0)) := setRow_heap _ b R1 R2 55 (0, 0) hg2
  have hb3 : Below b w (W2.drew.setRow b R2) := below_setRow hb2 (Nat.le_refl _) R2
  have hr2 : R2.size = G * 3 := by
    rw [hR2]
    simp only [List.size_toArray, List.length_append, List.length_take, List.length_drop, Array.length_toList, hcl, hr1, Nat.min_def]
    split <;> omega
  have hu2 : R2.toList.take ((n + 1) * 3) = cur.toList.take (i * 3) ++ [p0, p1, p2] ++ (cur.toList.drop (i * 3)).take ((n - i) * 3) := by
    rw [hR2, hu1]
    rw [List.take_left' (by rw [List.length_append, List.length_append, hlt, hcl]; simp only [List.length_cons, List.length_nil]; omega)]
    rw [hcs]
  have hz2' : ¬ ((i : Int) = (n : Int)) := by omega
  have hw1 : IntKind.i64.wrap ((i : Int) + 1) = (i : Int) + 1 := by rw [IntKind.wrap_i64]; omega
  have hw2 : IntKind.i64.wrap ((n : Int) + 1) = (n : Int) + 1 := by rw [IntKind.wrap_i64]; omega
  have hw3 : IntKind.i64.wrap ((n : Int) + 1 - (i : Int)) = (n : Int) + 1 - (i : Int) := by rw [IntKind.wrap_i64]; omega
  have hin : i ≤ n := by omega
  have hq1 : (0 : Int) ≤ (i : Int) + 1 := by omega
  have hq2 : ¬ (c = i) := by omega
  have hq3 : ¬ (G = i) := by omega
  have hq4 : ¬ (G = i + 1) := by omega
  have hq5 : (i : Int) ≤ (c : Int) := by omega
  have hq6 : (i : Int) ≤ (n : Int) := by omega
  have hq7 : (i : Int) ≤ (n : Int) + 1 := by omega
  have hq8 : (i : Int) + 1 ≤ (n : Int) + 1 := by omega
  have htn : ((i : Int) + 1).toNat = i + 1 := by omega
  have hrr : (c : Int) < (n : Int) + 1 := by omega
  have HG3 := Aside0.mk hg3
  have HB3 := Aside0.mk hb3
  have HR2 := Aside0.mk hr2
  have HU2 := Aside0.mk hu2
  have HGN := Aside0.mk hGn
  have HGM := Aside0.mk hGm
  clear hg3 hb3 hr2 hu2 hGn hGm hR2 hsr hc1 hcl hcs hu1 ht1 hr1 hb2 hgo2 hg2 hW2 hR1 hb1 hho hgo hg1 hW1 ht0 hr0 hlt hR0 hG hik hold hsl hz0 hz1 hz2 hi0 hg hh hsz hone hp hroom hnc hbig hgw hhw hbg hbh hb
  go_enter Try.func66, Try.ntmps66
  go_wp2_with (first
    | (at_builtin; refine Lib.wpList_append_run _ rfl _ _ _ _ rfl _ _ rfl rfl _ _ (hrz _) ?_)
    | (at_builtin; refine wpList_copy_at _ rfl _ _ 26 26 rfl _ _ rfl rfl (hcp1 _ _ _) ?_))
  go_region_law (refine step_copy_at rfl _ _ 26 26 rfl _ _ (by simp [Act.eval, Act.put]) (by simp [Act.eval, Act.put]) (hcp2 _ _ _) ?_)
  go_wp2
  go_ret
  exact ⟨G, R2, rfl, HGN.out, HGM.out, HG3.out, HR2.out, HU2.out, HB3.out⟩
end Go.Proofs.Ytmldfchddccncaa.PFnExactAddPage
