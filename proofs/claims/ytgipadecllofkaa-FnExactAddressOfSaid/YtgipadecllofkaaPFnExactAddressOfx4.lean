-- Written for this claim by the session's own program, out of the translation. Not trusted: Lean checks it.
import Derived.Test.YtgipadecllofkaaPFnExactAddressOfx0
import Derived.Test.YtgipadecllofkaaPFnExactAddressOfx2
namespace Go.Proofs.Ytgipadecllofkaa.PFnExactAddressOf
open Go.RowKit Go.Proofs.YtgipadecllofkaaW.PrintWords Go.Proofs.YtgipadecllofkaaW.PrintLast Go.Proofs.YtgipadecllofkaaW.PrintMore
attribute [local go_sem] max2_int min2_int max_two min_two max_three min_three max_four min_four   -- for this text's walks alone
set_option linter.unusedVariables false
set_option linter.unusedSimpArgs false

/-! ### laws_FnExactAddressOf: function 6 -/
set_option maxHeartbeats 4000000 in
set_option maxRecDepth 100000 in
theorem laws_FnExactAddressOf.calls (x : List Int) (p q : Int) (hx : x.length = 16) (d0 d1 d2 d3 d4 d5 d6 n : Int) (r c : Int) (w : World)
    (hS : ∀ W : World, Calls Try.prog 18 #[.agg (cellsI (x ++ [p, q])), .agg #[.int .i64 d0, .int .i64 d1, .int .i64 d2, .int .i64 d3, .int .i64 d4, .int .i64 d5, .int .i64 d6], .int .i64 n] W fun e w' => e = .returned (.tuple #[.int .i64 r, .int .i64 c]) ∧ Below W.heap.size W w')
    (hI : ∀ W : World, Calls Try.prog 19 #[.agg (cellsI (x ++ [p, q])), .agg #[.int .i64 d0, .int .i64 d1, .int .i64 d2, .int .i64 d3, .int .i64 d4, .int .i64 d5, .int .i64 d6], .int .i64 n] W fun e w' => e = .returned (.tuple #[.int .i64 r, .int .i64 c]) ∧ Below W.heap.size W w') :
    Calls Try.prog 6 #[.agg (cellsI (x ++ [p, q])), .agg #[.int .i64 d0, .int .i64 d1, .int .i64 d2, .int .i64 d3, .int .i64 d4, .int .i64 d5, .int .i64 d6], .int .i64 n] w fun e w' => e = .returned (.bool true) ∧ Below w.heap.size w w' := by
  have hu := Aside0.mk Try.underlying37
  have hu' := Aside0.mk Try.underlying23
  have hz : Aside0 ((Try.prog.info? 37).map (·.size) = some (cellsI (x ++ [p, q])).size) := ⟨by rw [cpu_size x hx]; kernel_rfl⟩
  have HB := Aside0.mk (blk_below (blk_new w (.cells (cellsI (x ++ [p, q])) 37)) (below_alloc (Below.refl _ _) (.cells #[.int .i64 d0, .int .i64 d1, .int .i64 d2, .int .i64 d3, .int .i64 d4, .int .i64 d5, .int .i64 d6] 23)))
  have HO := Aside0.mk (show _ = some (Obj.cells #[.int .i64 d0, .int .i64 d1, .int .i64 d2, .int .i64 d3, .int .i64 d4, .int .i64 d5, .int .i64 d6] 23 (0, 0)) from blk_new (w.alloc (.cells (cellsI (x ++ [p, q])) 37)) (.cells #[.int .i64 d0, .int .i64 d1, .int .i64 d2, .int .i64 d3, .int .i64 d4, .int .i64 d5, .int .i64 d6] 23))
  rw [World.size_alloc] at HO
  have HL := Aside0.mk (show Below w.heap.size w _ from below_alloc (below_alloc (Below.refl w.heap.size w) (.cells (cellsI (x ++ [p, q])) 37)) (.cells #[.int .i64 d0, .int .i64 d1, .int .i64 d2, .int .i64 d3, .int .i64 d4, .int .i64 d5, .int .i64 d6] 23))
  have HS := Aside0.mk hS
  have HI := Aside0.mk hI
  clear hS hI
  go_enter Try.func6, Try.ntmps6
  go_wp2
  change Code.wp _ _ _ _ ((w.alloc (.cells (cellsI (x ++ [p, q])) 37)).alloc (.cells #[.int .i64 d0, .int .i64 d1, .int .i64 d2, .int .i64 d3, .int .i64 d4, .int .i64 d5, .int .i64 d6] 23))
  generalize (w.alloc (.cells (cellsI (x ++ [p, q])) 37)).alloc (.cells #[.int .i64 d0, .int .i64 d1, .int .i64 d2, .int .i64 d3, .int .i64 d4, .int .i64 d5, .int .i64 d6] 23) = W1 at *
  obtain ⟨g0, hg0⟩ : ∃ g0 : Nat, w.heap.size = g0 := ⟨_, rfl⟩
  obtain ⟨g1, hg1⟩ : ∃ g1 : Nat, w.heap.size + 1 = g1 := ⟨_, rfl⟩
  rw [hg0] at HB
  rw [hg1] at HO
  rw [hg1, hg0]
  obtain ⟨C, hC⟩ : ∃ C : World → Prop, C = fun W => W.heap[g0]? = some (.cells (cellsI (x ++ [p, q])) 37 (0, 0)) ∧ W.heap[g1]? = some (.cells #[.int .i64 d0, .int .i64 d1, .int .i64 d2, .int .i64 d3, .int .i64 d4, .int .i64 d5, .int .i64 d6] 23 (0, 0)) ∧ Below w.heap.size w W := ⟨_, rfl⟩
  have HC0 : Aside0 (C W1.drew) := ⟨by rw [hC]; exact ⟨blk_below HB.out (below_drew1 (Below.refl _ _)), blk_below HO.out (below_drew1 (Below.refl _ _)), below_drew1 HL.out⟩⟩
  have HCD : Aside0 (∀ W, C W → C W.drew) := ⟨by rw [hC]; rintro W ⟨h1, h2, h3⟩; exact ⟨blk_below h1 (below_drew1 (Below.refl _ _)), blk_below h2 (below_drew1 (Below.refl _ _)), below_drew1 h3⟩⟩
  have HCL : Aside0 (∀ W W', C W → Below W.heap.size W W' → C W') := ⟨by rw [hC]; rintro W W' ⟨h1, h2, h3⟩ hb; exact ⟨blk_below h1 hb, blk_below h2 hb, below_step h3 hb⟩⟩
  have HCB : Aside0 (∀ W, C W → W.heap[g0]? = some (.cells (cellsI (x ++ [p, q])) 37 (0, 0))) := ⟨by rw [hC]; exact fun W h => h.1⟩
  have HCO : Aside0 (∀ W, C W → W.heap[g1]? = some (.cells #[.int .i64 d0, .int .i64 d1, .int .i64 d2, .int .i64 d3, .int .i64 d4, .int .i64 d5, .int .i64 d6] 23 (0, 0))) := ⟨by rw [hC]; exact fun W h => h.2.1⟩
  have HCE : Aside0 (∀ W, C W → Below w.heap.size w W) := ⟨by rw [hC]; exact fun W h => h.2.2⟩
  clear hC HB HO HL
  refine wp_region_class C (by kernel_rfl) (by kernel_rfl) HC0.out ?_
  refine qc_load_row rfl 37 _ rfl g0 rfl 37 (cellsI (x ++ [p, q])) (0, 0) _ HCB.out hu.out rfl hz.out ?_
  simp only [Act.put, List.setIfInBounds_toArray, List.set_cons_zero, List.set_cons_succ]
  refine qc_call rfl 16 _ _ rfl #[.agg (cellsI (x ++ [p, q]))] rfl (fun _ => by kernel_rfl) (.agg (cellsI (x ++ [p, q]))) (fun W hW => (laws_toCpu.calls x p q hx W).mono fun _ _ ⟨he, hb⟩ => ⟨he, HCL.out _ _ hW hb⟩) ?_
  simp only [Act.put, List.setIfInBounds_toArray, List.set_cons_zero, List.set_cons_succ]
  refine qc_load_row rfl 23 _ rfl g1 rfl 23 #[.int .i64 d0, .int .i64 d1, .int .i64 d2, .int .i64 d3, .int .i64 d4, .int .i64 d5, .int .i64 d6] (0, 0) _ HCO.out hu'.out rfl (by kernel_rfl) ?_
  simp only [Act.put, List.setIfInBounds_toArray, List.set_cons_zero, List.set_cons_succ]
  refine qc_call rfl 13 _ _ rfl #[.agg #[.int .i64 d0, .int .i64 d1, .int .i64 d2, .int .i64 d3, .int .i64 d4, .int .i64 d5, .int .i64 d6]] rfl (fun _ => by kernel_rfl) (.agg #[.int .i64 d0, .int .i64 d1, .int .i64 d2, .int .i64 d3, .int .i64 d4, .int .i64 d5, .int .i64 d6]) (fun W hW => (laws_toOperand.calls _ _ _ _ _ _ _ _ _ _ _ _ _ _ W rfl).mono fun _ _ ⟨he, hb⟩ => ⟨he, HCL.out _ _ hW hb⟩) ?_
  simp only [Act.put, List.setIfInBounds_toArray, List.set_cons_zero, List.set_cons_succ]
  refine qc_move rfl _ (Or.inl rfl) (.int .i64 n) rfl ?_
  simp only [Act.put, List.setIfInBounds_toArray, List.set_cons_zero, List.set_cons_succ]
  refine qc_call rfl 18 _ _ rfl #[.agg (cellsI (x ++ [p, q])), .agg #[.int .i64 d0, .int .i64 d1, .int .i64 d2, .int .i64 d3, .int .i64 d4, .int .i64 d5, .int .i64 d6], .int .i64 n] rfl (fun _ => by kernel_rfl) (.tuple #[.int .i64 r, .int .i64 c]) (fun W hW => (HS.out W).mono fun _ _ ⟨he, hb⟩ => ⟨he, HCL.out _ _ hW hb⟩) ?_
  simp only [Act.put, List.setIfInBounds_toArray, List.set_cons_zero, List.set_cons_succ]
  refine qc_move rfl _ (Or.inl rfl) (.tuple #[.int .i64 r, .int .i64 c]) rfl ?_
  simp only [Act.put, List.setIfInBounds_toArray, List.set_cons_zero, List.set_cons_succ]
  refine qc_pure rfl (.int .i64 r) (fun _ => rfl) ?_
  simp only [Act.put, List.setIfInBounds_toArray, List.set_cons_zero, List.set_cons_succ]
  refine qc_pure rfl (.int .i64 c) (fun _ => rfl) ?_
  simp only [Act.put, List.setIfInBounds_toArray, List.set_cons_zero, List.set_cons_succ]
  refine qc_move rfl _ (Or.inr rfl) (.int .i64 r) rfl ?_
  simp only [Act.put, List.setIfInBounds_toArray, List.set_cons_zero, List.set_cons_succ]
  refine qc_move rfl _ (Or.inr rfl) (.int .i64 c) rfl ?_
  simp only [Act.put, List.setIfInBounds_toArray, List.set_cons_zero, List.set_cons_succ]
  refine wpQuiet_nil ?_
  intro W2 hW2
  go_wp2
  replace HC0 := Aside0.mk (HCD.out _ hW2)
  clear hW2
  refine wp_region_class C (by kernel_rfl) (by kernel_rfl) HC0.out ?_
  refine qc_load_row rfl 37 _ rfl g0 rfl 37 (cellsI (x ++ [p, q])) (0, 0) _ HCB.out hu.out rfl hz.out ?_
  simp only [Act.put, List.setIfInBounds_toArray, List.set_cons_zero, List.set_cons_succ]
  refine qc_call rfl 16 _ _ rfl #[.agg (cellsI (x ++ [p, q]))] rfl (fun _ => by kernel_rfl) (.agg (cellsI (x ++ [p, q]))) (fun W hW => (laws_toCpu.calls x p q hx W).mono fun _ _ ⟨he, hb⟩ => ⟨he, HCL.out _ _ hW hb⟩) ?_
  simp only [Act.put, List.setIfInBounds_toArray, List.set_cons_zero, List.set_cons_succ]
  refine qc_load_row rfl 23 _ rfl g1 rfl 23 #[.int .i64 d0, .int .i64 d1, .int .i64 d2, .int .i64 d3, .int .i64 d4, .int .i64 d5, .int .i64 d6] (0, 0) _ HCO.out hu'.out rfl (by kernel_rfl) ?_
  simp only [Act.put, List.setIfInBounds_toArray, List.set_cons_zero, List.set_cons_succ]
  refine qc_call rfl 13 _ _ rfl #[.agg #[.int .i64 d0, .int .i64 d1, .int .i64 d2, .int .i64 d3, .int .i64 d4, .int .i64 d5, .int .i64 d6]] rfl (fun _ => by kernel_rfl) (.agg #[.int .i64 d0, .int .i64 d1, .int .i64 d2, .int .i64 d3, .int .i64 d4, .int .i64 d5, .int .i64 d6]) (fun W hW => (laws_toOperand.calls _ _ _ _ _ _ _ _ _ _ _ _ _ _ W rfl).mono fun _ _ ⟨he, hb⟩ => ⟨he, HCL.out _ _ hW hb⟩) ?_
  simp only [Act.put, List.setIfInBounds_toArray, List.set_cons_zero, List.set_cons_succ]
  refine qc_move rfl _ (Or.inl rfl) (.int .i64 n) rfl ?_
  simp only [Act.put, List.setIfInBounds_toArray, List.set_cons_zero, List.set_cons_succ]
  refine qc_call rfl 19 _ _ rfl #[.agg (cellsI (x ++ [p, q])), .agg #[.int .i64 d0, .int .i64 d1, .int .i64 d2, .int .i64 d3, .int .i64 d4, .int .i64 d5, .int .i64 d6], .int .i64 n] rfl (fun _ => by kernel_rfl) (.tuple #[.int .i64 r, .int .i64 c]) (fun W hW => (HI.out W).mono fun _ _ ⟨he, hb⟩ => ⟨he, HCL.out _ _ hW hb⟩) ?_
  simp only [Act.put, List.setIfInBounds_toArray, List.set_cons_zero, List.set_cons_succ]
  refine qc_move rfl _ (Or.inl rfl) (.tuple #[.int .i64 r, .int .i64 c]) rfl ?_
  simp only [Act.put, List.setIfInBounds_toArray, List.set_cons_zero, List.set_cons_succ]
  refine qc_pure rfl (.int .i64 r) (fun _ => rfl) ?_
  simp only [Act.put, List.setIfInBounds_toArray, List.set_cons_zero, List.set_cons_succ]
  refine qc_pure rfl (.int .i64 c) (fun _ => rfl) ?_
  simp only [Act.put, List.setIfInBounds_toArray, List.set_cons_zero, List.set_cons_succ]
  refine qc_move rfl _ (Or.inr rfl) (.int .i64 r) rfl ?_
  simp only [Act.put, List.setIfInBounds_toArray, List.set_cons_zero, List.set_cons_succ]
  refine qc_move rfl _ (Or.inr rfl) (.int .i64 c) rfl ?_
  simp only [Act.put, List.setIfInBounds_toArray, List.set_cons_zero, List.set_cons_succ]
  refine wpQuiet_nil ?_
  intro W2 hW2
  have HW := Aside0.mk hW2
  clear hW2
  go_wp2
  go_ret
  exact ⟨rfl, HCE.out _ HW.out⟩


end Go.Proofs.Ytgipadecllofkaa.PFnExactAddressOf
