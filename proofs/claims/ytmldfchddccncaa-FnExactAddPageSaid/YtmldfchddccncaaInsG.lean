/- Memory.with: its last statement walked. -/
import Derived.Test.YtmldfchddccncaaInsF
set_option linter.unusedVariables false
set_option linter.unusedSimpArgs false
namespace Go.Proofs.Ytmldfchddccncaa.PFnExactAddPage
open Go.RowKit Go.Proofs.YtmldfchddccncaaW.PrintWords Go.Proofs.YtmldfchddccncaaW.PrintLast Go.Proofs.YtmldfchddccncaaW.PrintMore
def codeRest : Code → Code
  | .seq _ y => y
  | c => c
def codeHead : Code → Code
  | .seq x _ => x
  | c => c
set_option maxHeartbeats 4000000 in
set_option maxRecDepth 100000 in
theorem with_tail (w : World) (b2 b3 b4 : Nat) (A : Option Addr) (c0 : Nat) (l : List S55) (p : S55) (i : Nat) (hC : Kd.C k55 w A l.length l) (hc0 : l.length ≤ c0) (hl : l.length < 4398046511104) (hi : i ≤ l.length)
    (W : World) (hW : Below w.heap.size w W) (h4 : w.heap.size ≤ b4) (k2 : W.heap[b2]? = some (.cells #[.slice A l.length c0] 28 (0, 0))) (k3 : W.heap[b3]? = some (.cells (pageRow p) 55 (0, 0))) (k4 : W.heap[b4]? = some (.cells #[.slice none 0 0] 28 (0, 0))) :
    ∀ K : Act → World → Prop, (∀ a W, Code.ret.wp Try.prog (bodyPost Try.prog Try.f43 (fun e w' => ∃ v0, e = .returned (.agg #[v0]) ∧ Kd.R k55 55 w' w.heap.size (fun _ => True) v0 (l.take i ++ p :: l.drop i) ∧ Below w.heap.size w w')) a W → K a W) → CL Try.prog (codeHead (codeRest (codeRest (codeRest (Try.f43.body.getD .skip))))) (Exit.then K (bodyPost Try.prog Try.f43 (fun e w' => ∃ v0, e = .returned (.agg #[v0]) ∧ Kd.R k55 55 w' w.heap.size (fun _ => True) v0 (l.take i ++ p :: l.drop i) ∧ Below w.heap.size w w'))) 23 [(5, .int .i64 (i : Int)), (4, .pointer (some ⟨b4, 0, none⟩)), (3, .pointer (some ⟨b3, 0, none⟩)), (2, .pointer (some ⟨b2, 0, none⟩))] W := by
  intro K hK a ha
  have u28 := Try.underlying28
  have u55 := Try.underlying55
  conv => arg 2; whnf
  refine wp_region_inv2 (Inv := fun c a W => ∃ T, Tm a 23 T ∧ IW w b2 b3 b4 A c0 l p i c T W) (by kernel_rfl) (by kernel_rfl) ?_ ?_ ?_
  case _ =>
    have g : ∀ j v, a.tmps[j]? = some v → a.tmps.getD j undef = v := fun j v h => by simp [h]
    refine ⟨_, Tm.of_fr ha, ⟨g _ _ (ha.holds 2 _ rfl), g _ _ (ha.holds 3 _ rfl), g _ _ (ha.holds 4 _ rfl), g _ _ (ha.holds 5 _ rfl), below_drew1 hW, h4, .inl k2, .inl k3, ⟨_, k4⟩, ?_, ?_, ?_, ?_, ?_, ?_, ?_, ?_, ?_, ?_, ?_, ?_, ?_, ?_⟩⟩ <;> intro x <;> cases x
  case _ =>
    intro c a W j hj hcj hdep ⟨T, hT, hI⟩
    have hj' : j < 9 := hj
    obtain rfl | rfl | rfl | rfl | rfl | rfl | rfl | rfl | rfl : j = 0 ∨ j = 1 ∨ j = 2 ∨ j = 3 ∨ j = 4 ∨ j = 5 ∨ j = 6 ∨ j = 7 ∨ j = 8 := by omega
    · have e := hT.ev (j := 2) (by omega)
      rw [hI.t2] at e
      refine wpOp_val (v := .pointer (some ⟨b2, 0, none⟩)) (w' := W) (.fieldAddr 28 (.tmp 2) 0) rfl rfl rfl rfl (fun q hq => ?_) ⟨_, hT.put (by omega) _, hI.pure 0 15 _ (by omega) hcj rfl (by omega) (fun _ => rfl) (by omega) (by omega) (by omega) (by omega) (by omega)⟩
      have hld : (Instr.fieldAt 28 (.pointer (some ⟨b2, 0, none⟩)) 0).run Try.prog W = .ok (.pointer (some ⟨b2, 0, none⟩)) W := by go_simp
      unfold execOp
      simp only [hq, e, Sem.run_bind, Sem.run_pure, Result.andThen_ok, hld]
    · have e := hT.ev (j := 15) (by omega)
      rw [hI.s0 (hdep 0 (by kernel_rfl))] at e
      have hk := hI.k2.resolve_right (by rw [hcj]; exact Bool.false_ne_true)
      have hcell : W.cell? ⟨b2, 0, none⟩ = some (.slice A l.length c0) := (cell_of_row W b2 0 _ 28 (0, 0) hk).trans rfl
      refine wpOp_val (v := .slice A l.length c0) (w' := W) (.load 26 (.tmp 15)) rfl rfl rfl rfl (fun q hq => ?_) ⟨_, hT.put (by omega) _, hI.pure 1 16 _ (by omega) hcj rfl (by omega) (by omega) (fun _ => rfl) (by omega) (by omega) (by omega) (by omega)⟩
      have hld : (loadVar 26 ⟨b2, 0, none⟩).run Try.prog W = .ok (.slice A l.length c0) W := by go_simp
      unfold execOp
      simp only [hq, e, Instr.loadAt, Instr.sureAddr, Sem.run_bind, Sem.run_pure, Result.andThen_ok, hld]
    · have e := hT.ev (j := 16) (by omega)
      rw [hI.s1 (hdep 1 (by kernel_rfl))] at e
      refine wpOp_go rfl rfl 64 _ _ rfl #[.slice A l.length c0] (by simp [e]) (fun _ => by kernel_rfl) _ (impl_Page_64.calls A c0 l l W (Kd.C_below hC hI.bel) hc0 (by unfold impl_Page_64.f; rw [if_pos hl])) ?_
      rintro e2 w2 ⟨v, rfl, hR, hb⟩
      exact ⟨v, rfl, _, hT.put (by omega) _, hI.clone hcj (hdep 1 (by kernel_rfl)) hR hb⟩
    · have e := hT.ev (j := 5) (by omega)
      rw [hI.t5] at e
      refine wpOp_val (v := .int .i64 (i : Int)) (w' := W) (.move (.tmp 5)) rfl rfl rfl rfl (fun q hq => ?_) ⟨_, hT.put (by omega) _, hI.pure 3 18 _ (by omega) hcj rfl (by omega) (by omega) (by omega) (fun _ => rfl) (by omega) (by omega) (by omega)⟩
      unfold execOp
      simp only [hq, e, Sem.run_pure]
    · have e := hT.ev (j := 3) (by omega)
      rw [hI.t3] at e
      have hk := hI.k3.resolve_right (by rw [hcj]; exact Bool.false_ne_true)
      have hld := run_loadVar_row (P := Try.prog) W b3 55 55 (pageRow p) (0, 0) _ hk u55 rfl (by kernel_rfl)
      refine wpOp_val (v := .agg (pageRow p)) (w' := W) (.load 55 (.tmp 3)) rfl rfl rfl rfl (fun q hq => ?_) ⟨_, hT.put (by omega) _, hI.pure 4 19 _ (by omega) hcj rfl (by omega) (by omega) (by omega) (by omega) (fun _ => rfl) (by omega) (by omega)⟩
      unfold execOp
      simp only [hq, e, Instr.loadAt, Instr.sureAddr, Sem.run_bind, Sem.run_pure, Result.andThen_ok, hld]
    · have e := hT.ev (j := 19) (by omega)
      rw [hI.s4 (hdep 4 (by kernel_rfl))] at e
      refine wpOp_val (v := .slice (some ⟨W.heap.size, 0, none⟩) 1 1) (w' := W.alloc (.cells (pageRow p) 55)) (.buildSlice 26 1 #[(0, .tmp 19)]) rfl rfl rfl rfl (fun q hq => ?_) ⟨_, hT.put (by omega) _, hI.made hcj (hdep 4 (by kernel_rfl))⟩
      unfold pageRow at e ⊢
      unfold execOp
      simp only [hq, List.map_toArray, List.map_cons, List.map_nil, e]
      first | (go_simp; done) | (go_simp; rfl)
    · have e17 := hT.ev (j := 17) (by omega)
      have e18 := hT.ev (j := 18) (by omega)
      have e20 := hT.ev (j := 20) (by omega)
      rw [hI.s3 (hdep 3 (by kernel_rfl))] at e18
      have c2 := hdep 2 (by kernel_rfl)
      have c5 := hdep 5 (by kernel_rfl)
      obtain ⟨h, q1, q2, q3⟩ := hI.s5 c5 hcj
      rw [q1] at e20
      refine wpOp_go rfl rfl 66 _ _ rfl #[T 17, .int .i64 (i : Int), .slice (some ⟨h, 0, none⟩) 1 1] (by simp [e17, e18, e20]) (fun _ => by kernel_rfl) _ (insert_calls w.heap.size w W (T 17) l p h i (hI.s2 c2 hcj) hI.bel hI.bel.size hi hl q2 (q3 c2)) ?_
      rintro e2 w2 ⟨v, rfl, hR, hb, hg⟩
      exact ⟨v, rfl, _, hT.put (by omega) _, hI.put hcj (hI.d2 c2) c2 (hI.d5 c5) c5 hR hb hg⟩
    · have c6 := hdep 6 (by kernel_rfl)
      obtain ⟨A1, c1, e1⟩ := Kd.R_slice (hI.s6 c6)
      have e := hT.ev (j := 21) (by omega)
      refine wpOp_val (v := .agg #[T 21]) (w' := W) (.build 28 #[(0, .tmp 21)]) rfl rfl rfl rfl (fun q hq => ?_) ⟨_, hT.put (by omega) _, hI.pure 7 22 _ (by omega) hcj rfl (by omega) (by omega) (by omega) (by omega) (by omega) (fun _ => rfl) (fun _ => c6)⟩
      rw [e1] at e ⊢
      unfold execOp
      simp only [hq, List.map_toArray, List.map_cons, List.map_nil, e]
      first | (go_simp; done) | (go_simp; rfl)
    · have c7 := hdep 7 (by kernel_rfl)
      have c6 := hI.d7 c7
      obtain ⟨A1, c1, e1⟩ := Kd.R_slice (hI.s6 c6)
      obtain ⟨x0, hx0⟩ := hI.k4
      have e22 := hT.ev (j := 22) (by omega)
      have e4 := hT.ev (j := 4) (by omega)
      rw [hI.s7 c7] at e22
      rw [hI.t4] at e4
      have hst := run_storeVar_row (P := Try.prog) W b4 28 28 #[x0] #[T 21] hx0 (by kernel_rfl) rfl (by rw [← Array.all_toList, e1]; rfl)
      refine wpOp_none (w' := W.setRow b4 #[T 21]) (.store 28 (.tmp 4) (.tmp 22)) rfl rfl rfl rfl (fun q hq => ?_) ⟨T, hT, hI.stored hcj c6 c7⟩
      unfold execOp
      simp only [hq, e22, e4, Instr.storeAt, Instr.sureAddr, Sem.run_bind, Sem.run_pure, Result.andThen_ok, hst]
  case _ =>
    intro c a W hc ⟨T, hT, hI⟩
    refine then_normal (hK _ _ (wp_ret ?_))
    have c8 : c 8 = true := hc 8 (by decide)
    have c6 : c 6 = true := hc 6 (by decide)
    have e4 := hT.ev (j := 4) (by omega)
    rw [hI.t4] at e4
    have hk := hI.s8 c8
    refine bodyPost_ret_by (results_cell_row (P := Try.prog) rfl a.tmps W b4 28 #[T 21] (0, 0) _ e4 hk u28 rfl (by kernel_rfl)) hT.defers ?_
    exact ⟨T 21, rfl, hI.s6 c6, hI.bel⟩
end Go.Proofs.Ytmldfchddccncaa.PFnExactAddPage
