-- Written for this claim by the session's own program, out of the translation. Not trusted: Lean checks it.
import Derived.Test.YtgipadecllofkaaPFnExactInstrOKx50
namespace Go.Proofs.Ytgipadecllofkaa.PFnExactInstrOK
open Go.RowKit Go.Proofs.YtgipadecllofkaaW.PrintWords Go.Proofs.YtgipadecllofkaaW.PrintLast Go.Proofs.YtgipadecllofkaaW.PrintMore
set_option linter.unusedVariables false
set_option linter.unusedSimpArgs false

set_option maxHeartbeats 40000000 in
set_option maxRecDepth 100000 in
theorem spec_l05Shape.no (k : Nat) (a0_0 a0_1 a0_2 a0_3 a0_4 a0_5 a0_6 a0_7 a0_8 a0_9 a0_10 a0_11 a0_12 a0_13 a0_14 a0_15 a0_16 a0_17 a0_18 : Int) (r : Bool) (w : World) (hs : spec_l01Size.f a0_1 = some false) (H : spec_l05Shape.g k false false a0_0 a0_1 a0_2 a0_3 a0_4 a0_5 a0_6 a0_7 a0_8 a0_9 a0_10 a0_11 a0_12 a0_13 a0_14 a0_15 a0_16 a0_17 a0_18 = some r) :
    Calls Try.prog 65 #[.agg #[.int .i64 a0_0, .int .i64 a0_1, .int .i64 a0_2, .int .i64 a0_3, .int .i64 a0_4, .int .i64 a0_5, .int .i64 a0_6, .int .i64 a0_7, .int .i64 a0_8, .int .i64 a0_9, .int .i64 a0_10, .int .i64 a0_11, .int .i64 a0_12, .int .i64 a0_13, .int .i64 a0_14, .int .i64 a0_15, .int .i64 a0_16, .int .i64 a0_17, .int .i64 a0_18]] w fun e w' => e = .returned (.bool r) ∧ Below w.heap.size w w' := by
  unfold spec_l05Shape.g at H
  have HS := Aside0.mk hs
  clear hs
  have hu29 := Try.underlying29
  have hu27 := Try.underlying27
  have HAG : Aside0 (∀ w, (isAgg 3).run Try.prog w = .ok false w) := ⟨fun w => by go_simp⟩
  go_enter Try.func65, Try.ntmps65
  refine cl_start (L := [(0, .agg #[.int .i64 a0_0, .int .i64 a0_1, .int .i64 a0_2, .int .i64 a0_3, .int .i64 a0_4, .int .i64 a0_5, .int .i64 a0_6, .int .i64 a0_7, .int .i64 a0_8, .int .i64 a0_9, .int .i64 a0_10, .int .i64 a0_11, .int .i64 a0_12, .int .i64 a0_13, .int .i64 a0_14, .int .i64 a0_15, .int .i64 a0_16, .int .i64 a0_17, .int .i64 a0_18])]) ?_ (Fr.start (n := 322) rfl rfl rfl)
  refine cl_seq (fun K hK => ?_)
  refine cl_region ?_
  refine fl_box (v := .agg #[.int .i64 a0_0, .int .i64 a0_1, .int .i64 a0_2, .int .i64 a0_3, .int .i64 a0_4, .int .i64 a0_5, .int .i64 a0_6, .int .i64 a0_7, .int .i64 a0_8, .int .i64 a0_9, .int .i64 a0_10, .int .i64 a0_11, .int .i64 a0_12, .int .i64 a0_13, .int .i64 a0_14, .int .i64 a0_15, .int .i64 a0_16, .int .i64 a0_17, .int .i64 a0_18]) (cs := #[.int .i64 a0_0, .int .i64 a0_1, .int .i64 a0_2, .int .i64 a0_3, .int .i64 a0_4, .int .i64 a0_5, .int .i64 a0_6, .int .i64 a0_7, .int .i64 a0_8, .int .i64 a0_9, .int .i64 a0_10, .int .i64 a0_11, .int .i64 a0_12, .int .i64 a0_13, .int .i64 a0_14, .int .i64 a0_15, .int .i64 a0_16, .int .i64 a0_17, .int .i64 a0_18]) (t := 29) rfl rfl (by decide) rfl rfl (fun w => by go_simp) ?_
  intro g1 w1 b1 hb
  have B1 := Aside0.mk b1
  have L1 := Aside0.mk (below_step (Below.refl w.heap.size w) hb)
  clear b1 hb
  have F0 : Aside0 (∀ w, (Instr.fieldAt 29 (.pointer (some ⟨g1, 0, none⟩)) 0).run Try.prog w = .ok (.pointer (some ⟨g1, 0, none⟩)) w) := ⟨fun w => by go_simp⟩
  have F1 : Aside0 (∀ w, (Instr.fieldAt 29 (.pointer (some ⟨g1, 0, none⟩)) 1).run Try.prog w = .ok (.pointer (some ⟨g1, 1, none⟩)) w) := ⟨fun w => by go_simp⟩
  have F2 : Aside0 (∀ w, (Instr.fieldAt 29 (.pointer (some ⟨g1, 0, none⟩)) 2).run Try.prog w = .ok (.pointer (some ⟨g1, 2, none⟩)) w) := ⟨fun w => by go_simp⟩
  have F3 : Aside0 (∀ w, (Instr.fieldAt 29 (.pointer (some ⟨g1, 0, none⟩)) 3).run Try.prog w = .ok (.pointer (some ⟨g1, 3, none⟩)) w) := ⟨fun w => by go_simp⟩
  have F4 : Aside0 (∀ w, (Instr.fieldAt 29 (.pointer (some ⟨g1, 0, none⟩)) 4).run Try.prog w = .ok (.pointer (some ⟨g1, 4, none⟩)) w) := ⟨fun w => by go_simp⟩
  have F5 : Aside0 (∀ w, (Instr.fieldAt 29 (.pointer (some ⟨g1, 0, none⟩)) 5).run Try.prog w = .ok (.pointer (some ⟨g1, 11, none⟩)) w) := ⟨fun w => by go_simp⟩
  have F6 : Aside0 (∀ w, (Instr.fieldAt 27 (.pointer (some ⟨g1, 4, none⟩)) 0).run Try.prog w = .ok (.pointer (some ⟨g1, 4, none⟩)) w) := ⟨fun w => by go_simp⟩
  have F7 : Aside0 (∀ w, (Instr.fieldAt 27 (.pointer (some ⟨g1, 11, none⟩)) 0).run Try.prog w = .ok (.pointer (some ⟨g1, 11, none⟩)) w) := ⟨fun w => by go_simp⟩
  have F8 : Aside0 (∀ w, (Instr.fieldAt 27 (.pointer (some ⟨g1, 11, none⟩)) 1).run Try.prog w = .ok (.pointer (some ⟨g1, 12, none⟩)) w) := ⟨fun w => by go_simp⟩
  have F9 : Aside0 (∀ w, (Instr.fieldAt 27 (.pointer (some ⟨g1, 11, none⟩)) 6).run Try.prog w = .ok (.pointer (some ⟨g1, 17, none⟩)) w) := ⟨fun w => by go_simp⟩
  clear hu27
  repeat' (first
    | (with_reducible refine ql_then ?_)
    | (with_reducible refine ql_block ?_)
    | (with_reducible refine ql_then_ret ?_)
    | (with_reducible refine ql_block_ret ?_)
    | (with_reducible refine cl_seq (fun K hK => ?_))
    | ((with_reducible refine hK _ _ _ ?_); clear hK K; refine cl_keep [1, 2, 3, 4, 5, 6, 19, 35, 63, 79, 89, 108, 118, 131, 144, 155, 165, 179, 208, 230, 242, 258, 270, 283, 298] ?_; simp only [keep, List.filter_cons, List.filter_nil, List.contains_cons, List.contains_nil, Nat.reduceBEq, Bool.or_false, Bool.or_true, Bool.true_or, Bool.false_or, Bool.or_self, if_true, Bool.false_eq_true, if_false])
    | (with_reducible refine cl_region ?_)
    | (with_reducible refine cl_block ?_)
    | (with_reducible refine cl_skip ?_)
    | (with_reducible refine cl_ret ?_)
    | (with_reducible refine fl_nil ?_)
    | ((with_reducible refine ql_gate ?_); first
      | ((with_reducible have hr := Option.some.inj H); refine ql_post rfl rfl ?_; exact ⟨congrArg (fun b => Ending.returned (Value.bool b)) hr, L1.out⟩)
      | (refine ql_post rfl rfl ?_; exact ⟨rfl, L1.out⟩)
      | ((with_reducible have H3 := (if_pos (rfl : true = true)).symm.trans H); clear H; have H := H3; clear H3)
      | ((with_reducible have H3 := (if_neg Bool.false_ne_true).symm.trans H); clear H; have H := H3; clear H3)
      | ((with_reducible have H3 := (if_pos (by assumption)).symm.trans H); clear H; have H := H3; clear H3)
      | ((with_reducible have H3 := (if_neg (ne_true_of_eq_false (by assumption))).symm.trans H); clear H; have H := H3; clear H3)
      | ((with_reducible have H3 := Option.bind_eq_some_iff.mp H); clear H; obtain ⟨t, h2, H⟩ := H3; have H2 := Aside0.mk h2; clear h2; (try dsimp only at H); cases t)
      | ((with_reducible have H3 := ite_split H); clear H; rcases H3 with ⟨ht, H⟩ | ⟨ht, H⟩))
    | ((with_reducible refine cl_gate ?_); first
      | (refine cl_true rfl ?_)
      | (refine cl_false rfl ?_)
      | ((with_reducible have H3 := (if_pos (rfl : true = true)).symm.trans H); clear H; have H := H3; clear H3)
      | ((with_reducible have H3 := (if_neg Bool.false_ne_true).symm.trans H); clear H; have H := H3; clear H3)
      | ((with_reducible have H3 := (if_pos (by assumption)).symm.trans H); clear H; have H := H3; clear H3)
      | ((with_reducible have H3 := (if_neg (ne_true_of_eq_false (by assumption))).symm.trans H); clear H; have H := H3; clear H3)
      | ((with_reducible have H3 := Option.bind_eq_some_iff.mp H); clear H; obtain ⟨t, h2, H⟩ := H3; have H2 := Aside0.mk h2; clear h2; (try dsimp only at H); cases t)
      | ((with_reducible have H3 := ite_split H); clear H; rcases H3 with ⟨ht, H⟩ | ⟨ht, H⟩))
    | ((with_reducible refine fl_gate ?_); first
      | (refine fl_skip rfl rfl (by decide) ?_)
      | (refine fl_move _ (Or.inl rfl) rfl rfl (by decide) _ rfl ?_)
      | (refine fl_move _ (Or.inr rfl) rfl rfl (by decide) _ rfl ?_)
      | (refine fl_pick _ _ _ rfl rfl rfl (by decide) _ rfl _ rfl ?_)
      | (refine fl_addr (v := ?_) _ _ _ rfl rfl rfl (by decide) (.pointer (some ⟨g1, _, none⟩)) rfl ?_ ?_; rotate_left; (focus (with_reducible first | exact F0.out | exact F1.out | exact F2.out | exact F3.out | exact F4.out | exact F5.out | exact F6.out | exact F7.out | exact F8.out | exact F9.out)))
      | (refine fl_int 3 _ rfl rfl rfl (by decide) g1 _ rfl 29 _ (0, 0) HAG.out B1.out _ rfl ?_)
      | (refine fl_row 29 _ rfl rfl rfl (by decide) g1 rfl 29 _ (0, 0) _ B1.out hu29 rfl (by kernel_rfl) ?_)
      | (refine fl_bin (v := ?_) _ _ _ _ _ rfl rfl rfl (by decide) _ _ rfl rfl ?_ ?_; rotate_left; (focus (intro w'; go_simp; with_reducible first | exact (rfl : Value.bool true = _) | exact (rfl : Value.bool false = _) | exact (rfl : Result.ok (Value.bool true) w' = _) | exact (rfl : Result.ok (Value.bool false) w' = _))))
      | (refine fl_not _ _ rfl rfl rfl (by decide) _ rfl ?_)
      | (refine fl_call 41 _ _ rfl rfl rfl (by decide) #[.int .i64 a0_1] rfl (fun _ => by kernel_rfl) _ (spec_l01Size.calls a0_1 _ _ HS.out) ?_; rintro e w2 ⟨rfl, ⟨nd, rfl⟩⟩; refine ⟨_, rfl, ?_⟩; have B2 := Aside0.mk (blk_drewN B1.out nd); have L2 := Aside0.mk (pw_below_drewN L1.out nd); clear B1 L1; have B1 := B2; have L1 := L2; clear B2 L2; generalize World.drewN _ nd = w3 at B1 L1 ⊢)
      | (refine fl_call 64 _ _ rfl rfl rfl (by decide) #[.int .i64 _, .int .i64 _, .int .i64 _] rfl (fun _ => by kernel_rfl) _ (spec_in64 _ _ _ true (by assumption) _) ?_; rintro e w2 ⟨rfl, ⟨nd, rfl⟩⟩; refine ⟨_, rfl, ?_⟩; have B2 := Aside0.mk (blk_drewN B1.out nd); have L2 := Aside0.mk (pw_below_drewN L1.out nd); clear B1 L1; have B1 := B2; have L1 := L2; clear B2 L2; generalize World.drewN _ nd = w3 at B1 L1 ⊢)
      | (refine fl_call 64 _ _ rfl rfl rfl (by decide) #[.int .i64 _, .int .i64 _, .int .i64 _] rfl (fun _ => by kernel_rfl) _ (spec_in64 _ _ _ false (by assumption) _) ?_; rintro e w2 ⟨rfl, ⟨nd, rfl⟩⟩; refine ⟨_, rfl, ?_⟩; have B2 := Aside0.mk (blk_drewN B1.out nd); have L2 := Aside0.mk (pw_below_drewN L1.out nd); clear B1 L1; have B1 := B2; have L1 := L2; clear B2 L2; generalize World.drewN _ nd = w3 at B1 L1 ⊢)
      | (refine fl_call 85 _ _ rfl rfl rfl (by decide) #[.int .i64 a0_17, .int .i64 _] rfl (fun _ => by kernel_rfl) _ (spec_l05Fits.calls k a0_17 _ _ _ H) ?_; rintro e w2 ⟨rfl, hb⟩; refine ⟨_, rfl, ?_⟩; have B2 := Aside0.mk (blk_below B1.out hb); have L2 := Aside0.mk (below_step L1.out hb); clear B1 L1 hb; have B1 := B2; have L1 := L2; clear B2 L2)
      | (refine fl_strs rfl rfl rfl (by decide) H2.out rfl (by decide) ?_; intro v1 w2 ho1 hb; have B2 := Aside0.mk (blk_below B1.out hb); have L2 := Aside0.mk (below_step L1.out hb); clear B1 L1 hb; have B1 := B2; have L1 := L2; clear B2 L2; have HO := Aside0.mk ho1; clear ho1; obtain ⟨Ao, co, eo⟩ := Kd.R_slice HO.out; subst eo)
      | (refine fl_call 84 _ _ rfl rfl rfl (by decide) #[.agg #[.int .i64 a0_0, .int .i64 a0_1, .int .i64 a0_2, .int .i64 a0_3, .int .i64 a0_4, .int .i64 a0_5, .int .i64 a0_6, .int .i64 a0_7, .int .i64 a0_8, .int .i64 a0_9, .int .i64 a0_10, .int .i64 a0_11, .int .i64 a0_12, .int .i64 a0_13, .int .i64 a0_14, .int .i64 a0_15, .int .i64 a0_16, .int .i64 a0_17, .int .i64 a0_18], .slice Ao _ co] rfl (fun _ => by kernel_rfl) _ (spec_l05Two.calls k a0_0 a0_1 a0_2 a0_3 a0_4 a0_5 a0_6 a0_7 a0_8 a0_9 a0_10 a0_11 a0_12 a0_13 a0_14 a0_15 a0_16 a0_17 a0_18 _ _ _ _ _ (Kd.R_reads' HO.out).2.2 (Kd.R_reads' HO.out).2.1 H2.out) ?_; rintro e w2 ⟨rfl, hb⟩; refine ⟨_, rfl, ?_⟩; have B2 := Aside0.mk (blk_below B1.out hb); have L2 := Aside0.mk (below_step L1.out hb); clear B1 L1 hb; have B1 := B2; have L1 := L2; clear B2 L2; clear HO)
      | ((with_reducible have H3 := (if_pos (rfl : true = true)).symm.trans H); clear H; have H := H3; clear H3)
      | ((with_reducible have H3 := (if_neg Bool.false_ne_true).symm.trans H); clear H; have H := H3; clear H3)
      | ((with_reducible have H3 := (if_pos (by assumption)).symm.trans H); clear H; have H := H3; clear H3)
      | ((with_reducible have H3 := (if_neg (ne_true_of_eq_false (by assumption))).symm.trans H); clear H; have H := H3; clear H3)
      | ((with_reducible have H3 := Option.bind_eq_some_iff.mp H); clear H; obtain ⟨t, h2, H⟩ := H3; have H2 := Aside0.mk h2; clear h2; (try dsimp only at H); cases t)
      | ((with_reducible have H3 := ite_split H); clear H; rcases H3 with ⟨ht, H⟩ | ⟨ht, H⟩)))

end Go.Proofs.Ytgipadecllofkaa.PFnExactInstrOK
