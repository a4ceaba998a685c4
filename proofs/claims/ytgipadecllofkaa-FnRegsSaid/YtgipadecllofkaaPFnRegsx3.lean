-- Written for this claim by the session's own program, out of the translation. Not trusted: Lean checks it.
import Derived.Test.YtgipadecllofkaaPFnRegsx0
import Derived.Test.YtgipadecllofkaaPFnRegsx1
import Derived.Test.YtgipadecllofkaaPFnRegsx2
namespace Go.Proofs.Ytgipadecllofkaa.PFnRegs
open Go.RowKit Go.Proofs.YtgipadecllofkaaW.PrintWords Go.Proofs.YtgipadecllofkaaW.PrintLast Go.Proofs.YtgipadecllofkaaW.PrintMore
attribute [local go_sem] max2_int min2_int max_two min_two max_three min_three max_four min_four   -- for this text's walks alone
set_option linter.unusedVariables false
set_option linter.unusedSimpArgs false

/-! ### spec_l00Src_flags: function 80 -/
def spec_l00Src_flags.l0 : Nat → Int → List Int → Int → Int → List Int → Int → Int → Option (Int × Int × Int)
  | 0, _, _, _, _, _, _, _ => none
  | k + 1, x3, x6, x7, x8, x1000, x1001, x1002 => if x8 < x7 then (if 0 ≤ x8 then (if x8 < (x6.length : Int) then ((spec_l00Src_chance.f x1000 x1001 x1002 2).bind fun bt175 => (if bt175.1 = true then (spec_l00Src_flags.l0 k (Go.bits .or .i64 x3 (rd x6 x8)) x6 x7 (wrap64 (x8 + 1)) x1000 bt175.2.1 bt175.2.2) else (spec_l00Src_flags.l0 k x3 x6 x7 (wrap64 (x8 + 1)) x1000 bt175.2.1 bt175.2.2))) else (none)) else (none)) else (some (x3, x1001, x1002))
def spec_l00Src_flags.f (k : Nat) (s0_0 : List Int) (s0_1 : Int) (s0_2 : Int) : Option (Int × Int × Int) := (some (([1, 4, 64, 128, 2048] : List Int) : List Int)).bind fun y171 => (spec_l00Src_flags.l0 k 0 y171 (y171.length : Int) 0 s0_0 s0_1 s0_2)
theorem spec_l00Src_flags.mono_l : ∀ k, (∀ y0 y1 y2 y3 y4 y5 y6, LeO (spec_l00Src_flags.l0 k y0 y1 y2 y3 y4 y5 y6) (spec_l00Src_flags.l0 (k + 1) y0 y1 y2 y3 y4 y5 y6))
  | 0 => fun _ _ _ _ _ _ _ r h => by simp [spec_l00Src_flags.l0] at h
  | k + 1 => by
    have ih0 := spec_l00Src_flags.mono_l k
    · intro y0 y1 y2 y3 y4 y5 y6
      unfold spec_l00Src_flags.l0
      repeat' first
      | (with_reducible exact ih0 _ _ _ _ _ _ _)
      | (with_reducible exact LeO.refl _)
      | (with_reducible exact LeO.none _)
      | (with_reducible refine LeO.ite ?_ ?_)
      | (with_reducible refine LeO.bind ?_ (fun _ => ?_))
      | exact ih0 _ _ _ _ _ _ _
      | exact LeO.none _
      | refine LeO.ite ?_ ?_
      | refine LeO.bind ?_ (fun _ => ?_)
theorem spec_l00Src_flags.mono : ∀ a0 a1 a2 k, LeO (spec_l00Src_flags.f k a0 a1 a2) (spec_l00Src_flags.f (k + 1) a0 a1 a2) := by
  intro a0 a1 a2 k
  have ih0 := spec_l00Src_flags.mono_l k
  unfold spec_l00Src_flags.f
  repeat' first
      | (with_reducible exact ih0 _ _ _ _ _ _ _)
      | (with_reducible exact LeO.refl _)
      | (with_reducible exact LeO.none _)
      | (with_reducible refine LeO.ite ?_ ?_)
      | (with_reducible refine LeO.bind ?_ (fun _ => ?_))
      | exact ih0 _ _ _ _ _ _ _
      | exact LeO.none _
      | refine LeO.ite ?_ ?_
      | refine LeO.bind ?_ (fun _ => ?_)
set_option maxHeartbeats 8000000 in
set_option maxRecDepth 100000 in
theorem spec_l00Src_flags.calls (k : Nat) (g : Nat) (s0_0 : List Int) (s0_1 : Int) (s0_2 : Int) (r1 : Int) (r2 : Int) (r3 : Int) (w0 w : World) (hI : IsS90 w0 w g s0_0 s0_1 s0_2) (hB : Below w0.heap.size w0 w) (h : spec_l00Src_flags.f k s0_0 s0_1 s0_2 = some (r1, r2, r3)) :
    Calls Try.prog 80 #[.pointer (some ⟨g, 0, none⟩)] w fun e w' => e = .returned (.int .i64 r1) ∧ IsS90 w0 w' g s0_0 r2 r3 ∧ Below w0.heap.size w0 w' ∧ KeepBut w w' g none := by
  have HI0 := Aside0.mk hI
  have HK := Aside0.mk (KeepBut.refl w g none)
  have HL := Aside0.mk hB.size
  clear hI
  have HW0 := Aside0.mk hB.size
  have HB := Aside0.mk hB
  clear hB
  have H : ((some (([1, 4, 64, 128, 2048] : List Int) : List Int)).bind fun y171 => (spec_l00Src_flags.l0 k 0 y171 (y171.length : Int) 0 s0_0 s0_1 s0_2)) = some (r1, r2, r3) := h
  clear h
  obtain ⟨y171, hy171⟩ : ∃ y_ : List Int, y_ = (([1, 4, 64, 128, 2048] : List Int)) := ⟨_, rfl⟩
  replace H : (spec_l00Src_flags.l0 k 0 y171 (y171.length : Int) 0 s0_0 s0_1 s0_2) = some (r1, r2, r3) := by first | (rw [hy171]; with_reducible exact H) | (have H2_ := (Option.bind_some _ _).symm.trans H; rw [hy171]; with_reducible exact H2_) | (have H2_ := (Option.bind_some _ _).symm.trans H; with_reducible exact H2_) | with_reducible exact H | (rw [hy171]; exact H) | exact H
  have Ny171 := Aside0.mk hy171
  clear hy171
  have H' := Aside0.mk H
  clear H
  go_enter Try.func80, Try.ntmps80
  go_wp2_with (first | ((with_reducible refine gate_dst (N := 6) rfl ?_); refine Kd.R_lit (Kd.int .i64) _ 3 ?hg (N := 6) ?hd (xs := ([1, 4, 64, 128, 2048] : List Int)) (inner := [.int .i64 1, .int .i64 4, .int .i64 64, .int .i64 128, .int .i64 2048]) (ok := fun _ => True) (okp := fun _ => True) ?hr ?hp (fun _ hk => hk) trivial (Below.refl _ _) (Nat.le_refl _) (by simp) ?_; (case hd => rfl); (case hg => rfl); (case hr => first | (go_simp; done) | (go_simp; rfl)); (case hp => exact (Reps.one (show Kd.M (Kd.int .i64) _ _ _ 1 [.int .i64 1] from rfl) (Reps.one (show Kd.M (Kd.int .i64) _ _ _ 4 [.int .i64 4] from rfl) (Reps.one (show Kd.M (Kd.int .i64) _ _ _ 64 [.int .i64 64] from rfl) (Reps.one (show Kd.M (Kd.int .i64) _ _ _ 128 [.int .i64 128] from rfl) (Reps.one (show Kd.M (Kd.int .i64) _ _ _ 2048 [.int .i64 2048] from rfl) (Reps.none _ _))))))); intro v172 w2 ho3 hb hg_ hnew_; clear hg_ hnew_; (first | rw [← Ny171.out] at ho3 | (simp only [Int.reduceToNat] at ho3; rw [← Ny171.out] at ho3)); have n0_ := Aside0.mk (Kd.R_lower ho3 (keep_size (w := w) (g := g) (row := none) (by repeat (first | (with_reducible first | exact HK.out | apply KeepBut.set_ | apply keep_drewN | apply keep_drew | apply keep_alloc) | exact HK.out)))); have n1_ := Aside0.mk (IsS90.below (by repeat (first | (with_reducible first | exact HI0.out | apply IsS90.alloc | apply IsS90.drewN | apply IsS90.drew | apply IsS90.set_1 | apply IsS90.set_2) | exact HI0.out)) hb); have n2_ := Aside0.mk (KeepBut.trans (by repeat (first | (with_reducible first | exact HK.out | apply KeepBut.set_ | apply keep_drewN | apply keep_drew | apply keep_alloc) | exact HK.out)) (KeepBut.of_below hb g none) (.inl rfl)); have n3_ := Aside0.mk (below_step (by repeat (first | (with_reducible first | exact HB.out | apply below_alloc | apply pw_below_drewN | apply below_drew1 | refine below_set ?_ (IsS90.ge HI0.out)) | exact HB.out)) hb); clear HI0; clear HK; clear HB; have HO173 := n0_; have HI0 := n1_; have HK := n2_; have HB := n3_; clear n0_ n1_ n2_ n3_; clear hb ho3; obtain ⟨Ao4, co4, eo4⟩ := Kd.R_slice HO173.out; subst eo4))
  go_loopg [3, 8] k (fun kq v3 v8 w' => ∃ (x3_1 : Int) (x8_1 : Int) (x1001_1 : Int) (x1002_1 : Int), v3 = .int .i64 x3_1 ∧ v8 = .int .i64 x8_1 ∧ Aside0 (spec_l00Src_flags.l0 kq x3_1 y171 (y171.length : Int) x8_1 s0_0 x1001_1 x1002_1 = some (r1, r2, r3)) ∧ Aside0 (kq ≤ k) ∧ Aside0 (Kd.R (Kd.int .i64) 3 w' w.heap.size (fun _ => True) (.slice Ao4 y171.length co4) y171) ∧ Aside0 (IsS90 w0 w' g s0_0 x1001_1 x1002_1) ∧ Aside0 (KeepBut w w' g none) ∧ Aside0 (Below w0.heap.size w0 w'))
  case atStart => exact ⟨(0), (0), (s0_1), (s0_2), (by first | rfl | (simp; done) | (simp [*]; done)), (by first | rfl | (simp; done) | (simp [*]; done)), H', ⟨Nat.le_refl _⟩, ⟨by (with_reducible repeat (first | apply Kd.R_alloc | apply Kd.R_drewN | apply Kd.R_drew)); exact HO173.out⟩, ⟨by repeat (first | (with_reducible first | exact HI0.out | apply IsS90.alloc | apply IsS90.drewN | apply IsS90.drew | apply IsS90.set_1 | apply IsS90.set_2) | exact HI0.out)⟩, ⟨by repeat (first | (with_reducible first | exact HK.out | apply KeepBut.set_ | apply keep_drewN | apply keep_drew | apply keep_alloc) | exact HK.out)⟩, ⟨by repeat (first | (with_reducible first | exact HB.out | apply below_alloc | apply pw_below_drewN | apply below_drew1 | refine below_set ?_ (IsS90.ge HI0.out)) | exact HB.out)⟩⟩
  case round =>
    clear H'
    try clear p2
    obtain ⟨x3_1, x8_1, x1001_1, x1002_1, rfl, rfl, HA, HK1, HO_6, HI0, HK, HB⟩ := hrel
    cases gk with
    | zero => exact absurd HA.out (by simp [spec_l00Src_flags.l0])
    | succ k1 =>
      have H := HA.out
      clear HA
      simp only [spec_l00Src_flags.l0] at H
      by_cases c5 : x8_1 < (y171.length : Int)
      · rw [if_pos c5] at H
        have c5b0 : decide (x8_1 < (y171.length : Int)) = true := decide_eq_true c5
        clear c5
        by_cases c6 : 0 ≤ x8_1
        · rw [if_pos c6] at H
          have c6b0 : decide (0 ≤ x8_1) = true := decide_eq_true c6
          clear c6
          by_cases c7 : x8_1 < (y171.length : Int)
          · rw [if_pos c7] at H
            have c7b0 : decide (x8_1 < (y171.length : Int)) = true := decide_eq_true c7
            clear c7
            replace H := Option.bind_eq_some_iff.mp H
            obtain ⟨⟨t175, t176, t177⟩, A80, H⟩ := H
            replace H : (if t175 = true then (spec_l00Src_flags.l0 k1 (Go.bits .or .i64 x3_1 (rd y171 x8_1)) y171 (y171.length : Int) (wrap64 (x8_1 + 1)) s0_0 t176 t177) else (spec_l00Src_flags.l0 k1 x3_1 y171 (y171.length : Int) (wrap64 (x8_1 + 1)) s0_0 t176 t177)) = some (r1, r2, r3) := H
            have A8 := Aside0.mk A80
            clear A80
            by_cases c9 : t175 = true
            · subst c9
              have H1 : (spec_l00Src_flags.l0 k1 (Go.bits .or .i64 x3_1 (rd y171 x8_1)) y171 (y171.length : Int) (wrap64 (x8_1 + 1)) s0_0 t176 t177) = some (r1, r2, r3) := by rw [if_pos rfl] at H; exact H
              clear H
              have H := H1
              clear H1
              have H' := Aside0.mk H
              clear H
              have p174 : 0 ≤ (x8_1 : Int) := of_decide_eq_true (by first | (with_reducible assumption) | assumption)
              have q174 : x8_1 < (y171.length : Int) := of_decide_eq_true (by first | (with_reducible assumption) | assumption)
              obtain ⟨ad174, e174, hx174_0⟩ := Kd.at_int (Kd.R_reads' HO_6.out).2.2 x8_1 p174 q174
              cases e174
              replace p174 := eq_true p174
              replace q174 := eq_true q174
              go_wp2_with (first | ((with_reducible refine gate_callee (f := 81) rfl ?_); refine goesL_ (some 13) rfl rfl Try.func81 (by kernel_rfl) rfl #[.pointer (some ⟨g, 0, none⟩), .int .i64 2] rfl (by (try simp only [List.map_toArray, List.map_cons, List.map_nil]); first | done | rfl | (simp only [List.length_drop, List.length_take]; rfl)) ?_; (with_reducible refine (spec_l00Src_chance.calls g s0_0 x1001_1 x1002_1 2 true t176 t177 w0 _ ?side1 ?side2 A8.out).mono ?_); (case side1 => repeat (first | (with_reducible first | exact HI0.out | apply IsS90.alloc | apply IsS90.drewN | apply IsS90.drew | apply IsS90.set_1 | apply IsS90.set_2) | exact HI0.out)); (case side2 => repeat (first | (with_reducible first | exact HB.out | apply below_alloc | apply pw_below_drewN | apply below_drew1 | refine below_set ?_ (IsS90.ge HI0.out)) | exact HB.out)); rintro e w10 ⟨rfl, hi, hb, hk⟩; refine ⟨_, rfl, ?_⟩; have n0_ := Aside0.mk (Kd.R_mono (Kd.R_keep (IsS90.apart (show IsS90 w0 _ g s0_0 x1001_1 x1002_1 from by repeat (first | (with_reducible first | exact HI0.out | apply IsS90.alloc | apply IsS90.drewN | apply IsS90.drew | apply IsS90.set_1 | apply IsS90.set_2) | exact HI0.out)) (by (with_reducible repeat (first | apply Kd.R_alloc | apply Kd.R_drewN | apply Kd.R_drew)); exact HO_6.out) (by decide)) hk (fun _ h => h.2)) (fun _ h => h.1)); have n1_ := Aside0.mk (KeepBut.trans (by repeat (first | (with_reducible first | exact HK.out | apply KeepBut.set_ | apply keep_drewN | apply keep_drew | apply keep_alloc) | exact HK.out)) hk (.inl rfl)); have n2_ := Aside0.mk (hb); have n3_ := Aside0.mk (hi); clear HO_6; clear HK; clear HB; clear HI0; have HO_6 := n0_; have HK := n1_; have HB := n2_; have HI0 := n3_; clear n0_ n1_ n2_ n3_; (try clear hb); (try clear hb2); (try clear hk); (try clear hi)))
              go_roundg k1
              case measure => have := HK1.out; omega
              case rel => exact ⟨(Go.bits .or .i64 x3_1 (rd y171 x8_1)), (wrap64 (x8_1 + 1)), (t176), (t177), (by first | rfl | (simp; done) | (simp [*]; done)), (by first | rfl | (simp; done) | (simp [*]; done)), H', ⟨by have := HK1.out; omega⟩, ⟨by (with_reducible repeat (first | apply Kd.R_alloc | apply Kd.R_drewN | apply Kd.R_drew)); exact HO_6.out⟩, ⟨by repeat (first | (with_reducible first | exact HI0.out | apply IsS90.alloc | apply IsS90.drewN | apply IsS90.drew | apply IsS90.set_1 | apply IsS90.set_2) | exact HI0.out)⟩, ⟨by repeat (first | (with_reducible first | exact HK.out | apply KeepBut.set_ | apply keep_drewN | apply keep_drew | apply keep_alloc) | exact HK.out)⟩, ⟨by repeat (first | (with_reducible first | exact HB.out | apply below_alloc | apply pw_below_drewN | apply below_drew1 | refine below_set ?_ (IsS90.ge HI0.out)) | exact HB.out)⟩⟩
            · replace c9 := Bool.eq_false_iff.mpr c9
              subst c9
              have H1 : (spec_l00Src_flags.l0 k1 x3_1 y171 (y171.length : Int) (wrap64 (x8_1 + 1)) s0_0 t176 t177) = some (r1, r2, r3) := by rw [if_neg (show ¬ (false = true) by decide)] at H; exact H
              clear H
              have H := H1
              clear H1
              have H' := Aside0.mk H
              clear H
              have p174 : 0 ≤ (x8_1 : Int) := of_decide_eq_true (by first | (with_reducible assumption) | assumption)
              have q174 : x8_1 < (y171.length : Int) := of_decide_eq_true (by first | (with_reducible assumption) | assumption)
              obtain ⟨ad174, e174, hx174_0⟩ := Kd.at_int (Kd.R_reads' HO_6.out).2.2 x8_1 p174 q174
              cases e174
              replace p174 := eq_true p174
              replace q174 := eq_true q174
              go_wp2_with (first | ((with_reducible refine gate_callee (f := 81) rfl ?_); refine goesL_ (some 13) rfl rfl Try.func81 (by kernel_rfl) rfl #[.pointer (some ⟨g, 0, none⟩), .int .i64 2] rfl (by (try simp only [List.map_toArray, List.map_cons, List.map_nil]); first | done | rfl | (simp only [List.length_drop, List.length_take]; rfl)) ?_; (with_reducible refine (spec_l00Src_chance.calls g s0_0 x1001_1 x1002_1 2 false t176 t177 w0 _ ?side1 ?side2 A8.out).mono ?_); (case side1 => repeat (first | (with_reducible first | exact HI0.out | apply IsS90.alloc | apply IsS90.drewN | apply IsS90.drew | apply IsS90.set_1 | apply IsS90.set_2) | exact HI0.out)); (case side2 => repeat (first | (with_reducible first | exact HB.out | apply below_alloc | apply pw_below_drewN | apply below_drew1 | refine below_set ?_ (IsS90.ge HI0.out)) | exact HB.out)); rintro e w11 ⟨rfl, hi, hb, hk⟩; refine ⟨_, rfl, ?_⟩; have n0_ := Aside0.mk (Kd.R_mono (Kd.R_keep (IsS90.apart (show IsS90 w0 _ g s0_0 x1001_1 x1002_1 from by repeat (first | (with_reducible first | exact HI0.out | apply IsS90.alloc | apply IsS90.drewN | apply IsS90.drew | apply IsS90.set_1 | apply IsS90.set_2) | exact HI0.out)) (by (with_reducible repeat (first | apply Kd.R_alloc | apply Kd.R_drewN | apply Kd.R_drew)); exact HO_6.out) (by decide)) hk (fun _ h => h.2)) (fun _ h => h.1)); have n1_ := Aside0.mk (KeepBut.trans (by repeat (first | (with_reducible first | exact HK.out | apply KeepBut.set_ | apply keep_drewN | apply keep_drew | apply keep_alloc) | exact HK.out)) hk (.inl rfl)); have n2_ := Aside0.mk (hb); have n3_ := Aside0.mk (hi); clear HO_6; clear HK; clear HB; clear HI0; have HO_6 := n0_; have HK := n1_; have HB := n2_; have HI0 := n3_; clear n0_ n1_ n2_ n3_; (try clear hb); (try clear hb2); (try clear hk); (try clear hi)))
              go_roundg k1
              case measure => have := HK1.out; omega
              case rel => exact ⟨(x3_1), (wrap64 (x8_1 + 1)), (t176), (t177), (by first | rfl | (simp; done) | (simp [*]; done)), (by first | rfl | (simp; done) | (simp [*]; done)), H', ⟨by have := HK1.out; omega⟩, ⟨by (with_reducible repeat (first | apply Kd.R_alloc | apply Kd.R_drewN | apply Kd.R_drew)); exact HO_6.out⟩, ⟨by repeat (first | (with_reducible first | exact HI0.out | apply IsS90.alloc | apply IsS90.drewN | apply IsS90.drew | apply IsS90.set_1 | apply IsS90.set_2) | exact HI0.out)⟩, ⟨by repeat (first | (with_reducible first | exact HK.out | apply KeepBut.set_ | apply keep_drewN | apply keep_drew | apply keep_alloc) | exact HK.out)⟩, ⟨by repeat (first | (with_reducible first | exact HB.out | apply below_alloc | apply pw_below_drewN | apply below_drew1 | refine below_set ?_ (IsS90.ge HI0.out)) | exact HB.out)⟩⟩
          · rw [if_neg c7] at H
            exact absurd H (by simp)
        · rw [if_neg c6] at H
          exact absurd H (by simp)
      · rw [if_neg c5] at H
        have c5b0 : decide (x8_1 < (y171.length : Int)) = false := decide_eq_false c5
        clear c5
        simp only [Option.some.injEq, Prod.mk.injEq] at H
        obtain ⟨rfl, rfl, rfl⟩ := H
        go_wp2
        go_ret
        exact ⟨by first | rfl | (simp [errW_none, errW_some] <;> rfl) | (simp [*, errW_none, errW_some] <;> rfl), by repeat (first | (with_reducible first | exact HI0.out | apply IsS90.alloc | apply IsS90.drewN | apply IsS90.drew | apply IsS90.set_1 | apply IsS90.set_2) | exact HI0.out), by repeat (first | (with_reducible first | exact HB.out | apply below_alloc | apply pw_below_drewN | apply below_drew1 | refine below_set ?_ (IsS90.ge HI0.out)) | exact HB.out), by repeat (first | (with_reducible first | exact HK.out | apply KeepBut.set_ | apply keep_drewN | apply keep_drew | apply keep_alloc) | exact HK.out)⟩

/-! ### spec_l00Src_cpu: function 60 -/
/-- A whole number of 64 bits. -/
def In64 (n : Int) : Prop := -9223372036854775808 ≤ n ∧ n ≤ 9223372036854775807
def NextOK (l : List Int) : Prop := ∀ p q n : Int, 0 ≤ p → p ≤ 900 → 0 ≤ q → q < 2147483648 → 1 < n → n ≤ 2147483648 →
  ∃ v p' q', spec_l00Src_next.f l p q n = some (v, p', q') ∧ 0 ≤ v ∧ v < n ∧ p ≤ p' ∧ p' ≤ p + 3 ∧ 0 ≤ q' ∧ q' < 2147483648
def WideOK (l : List Int) : Prop := ∀ p q : Int, 0 ≤ p → p ≤ 800 → 0 ≤ q → q < 2147483648 →
  ∃ v p' q', spec_l00Src_wide.f l p q = some (v, p', q') ∧ In64 v ∧ p ≤ p' ∧ p' ≤ p + 12 ∧ 0 ≤ q' ∧ q' < 2147483648
def FlagsOK (k : Nat) (l : List Int) (G : Int → Prop) : Prop := ∀ p q : Int, 0 ≤ p → p ≤ 800 → 0 ≤ q → q < 2147483648 →
  ∃ v p' q', spec_l00Src_flags.f k l p q = some (v, p', q') ∧ G v ∧ p ≤ p' ∧ p' ≤ p + 15 ∧ 0 ≤ q' ∧ q' < 2147483648
/-- What the walk of a drawn processor holds of the source: it has been asked at most B times. -/
structure SrcIn (w0 w W : World) (g : Nat) (l : List Int) (B : Int) : Prop where
  st : ∃ p q : Int, IsS90 w0 W g l p q ∧ 0 ≤ p ∧ p ≤ B ∧ 0 ≤ q ∧ q < 2147483648
  bel : Below w0.heap.size w0 W
  keep : KeepBut w W g none
section
variable {w0 w W : World} {g : Nat} {l : List Int} {B : Int}
theorem SrcIn.lt (h : SrcIn w0 w W g l B) : g < W.heap.size := by obtain ⟨p, q, hi, _⟩ := h.st; exact hi.lt
theorem SrcIn.ge (h : SrcIn w0 w W g l B) : w0.heap.size ≤ g := by obtain ⟨p, q, hi, _⟩ := h.st; exact hi.ge
theorem SrcIn.alloc (h : SrcIn w0 w W g l B) (o : Obj) : SrcIn w0 w (W.alloc o) g l B := by
  obtain ⟨p, q, hi, hr⟩ := h.st
  exact ⟨⟨p, q, hi.alloc o, hr⟩, below_alloc h.bel o, keep_alloc h.keep o⟩
theorem SrcIn.far (h : SrcIn w0 w W g l B) {k j : Nat} (hk : w.heap.size ≤ k) (hg : g < w.heap.size) (u : Value) : SrcIn w0 w (W.setCell ⟨k, j, none⟩ u) g l B := by
  obtain ⟨p, q, hi, hr⟩ := h.st
  have := h.ge
  exact ⟨⟨p, q, hi.far (show g ≠ k by omega) u, hr⟩, belowSet h.bel k j u (by omega), keep_far h.keep (p := ⟨k, j, none⟩) hk u⟩
theorem SrcIn.row (h : SrcIn w0 w W g l B) {k : Nat} (hk : w.heap.size ≤ k) (hg : g < w.heap.size) (cs : Array Value) : SrcIn w0 w (W.setRow k cs) g l B := by
  obtain ⟨p, q, hi, hr⟩ := h.st
  have h1 := h.ge
  refine ⟨⟨p, q, ?_, hr⟩, belowRow h.bel (by omega) cs, ?_⟩
  · obtain ⟨A, c, hb, hx⟩ := hi
    exact ⟨A, c, (setRow_other W k g cs (by omega)).trans hb, hx⟩
  · refine ⟨by simpa using h.keep.1, fun i hi' hg' hr' => ?_⟩
    exact (setRow_other W k i cs (by omega)).trans (h.keep.2 i hi' hg' hr')
theorem SrcIn.next (hN : NextOK l) (h : SrcIn w0 w W g l B) (hB : B ≤ 900) (n : Int) (h1 : 1 < n) (h2 : n ≤ 2147483648) :
    Calls Try.prog 79 #[.pointer (some ⟨g, 0, none⟩), .int .i64 n] W fun e W' => (∃ v, e = .returned (.int .i64 v) ∧ 0 ≤ v ∧ v < n) ∧ SrcIn w0 w W' g l (B + 3) ∧ KeepBut W W' g none := by
  obtain ⟨p, q, hi, p0, p1, q0, q1⟩ := h.st
  obtain ⟨v, p', q', e, v0, v1, a0, a1, b0, b1⟩ := hN p q n p0 (by omega) q0 q1 h1 h2
  refine (spec_l00Src_next.calls g l p q n v p' q' w0 W hi h.bel e).mono ?_
  rintro _ W' ⟨rfl, hi', hb', hk'⟩
  exact ⟨⟨v, rfl, v0, v1⟩, ⟨⟨p', q', hi', by omega, by omega, b0, b1⟩, hb', h.keep.trans hk' (.inl rfl)⟩, hk'⟩
theorem SrcIn.chance (hN : NextOK l) (h : SrcIn w0 w W g l B) (hB : B ≤ 900) (n : Int) (h1 : 1 < n) (h2 : n ≤ 2147483648) :
    Calls Try.prog 81 #[.pointer (some ⟨g, 0, none⟩), .int .i64 n] W fun e W' => (∃ v : Bool, e = .returned (.bool v)) ∧ SrcIn w0 w W' g l (B + 3) ∧ KeepBut W W' g none := by
  obtain ⟨p, q, hi, p0, p1, q0, q1⟩ := h.st
  obtain ⟨v, p', q', e, v0, v1, a0, a1, b0, b1⟩ := hN p q n p0 (by omega) q0 q1 h1 h2
  refine (spec_l00Src_chance.calls g l p q n (v == wrap64 (n - 1)) p' q' w0 W hi h.bel (by unfold spec_l00Src_chance.f; rw [e]; rfl)).mono ?_
  rintro _ W' ⟨rfl, hi', hb', hk'⟩
  exact ⟨⟨_, rfl⟩, ⟨⟨p', q', hi', by omega, by omega, b0, b1⟩, hb', h.keep.trans hk' (.inl rfl)⟩, hk'⟩
theorem SrcIn.wide (hN : WideOK l) (h : SrcIn w0 w W g l B) (hB : B ≤ 800) :
    Calls Try.prog 61 #[.pointer (some ⟨g, 0, none⟩)] W fun e W' => (∃ v, e = .returned (.int .i64 v) ∧ In64 v) ∧ SrcIn w0 w W' g l (B + 12) ∧ KeepBut W W' g none := by
  obtain ⟨p, q, hi, p0, p1, q0, q1⟩ := h.st
  obtain ⟨v, p', q', e, v0, a0, a1, b0, b1⟩ := hN p q p0 (by omega) q0 q1
  refine (spec_l00Src_wide.calls g l p q v p' q' w0 W hi h.bel e).mono ?_
  rintro _ W' ⟨rfl, hi', hb', hk'⟩
  exact ⟨⟨v, rfl, v0⟩, ⟨⟨p', q', hi', by omega, by omega, b0, b1⟩, hb', h.keep.trans hk' (.inl rfl)⟩, hk'⟩
theorem SrcIn.flags {k : Nat} {G : Int → Prop} (hN : FlagsOK k l G) (h : SrcIn w0 w W g l B) (hB : B ≤ 800) :
    Calls Try.prog 80 #[.pointer (some ⟨g, 0, none⟩)] W fun e W' => (∃ v, e = .returned (.int .i64 v) ∧ G v) ∧ SrcIn w0 w W' g l (B + 15) ∧ KeepBut W W' g none := by
  obtain ⟨p, q, hi, p0, p1, q0, q1⟩ := h.st
  obtain ⟨v, p', q', e, v0, a0, a1, b0, b1⟩ := hN p q p0 (by omega) q0 q1
  refine (spec_l00Src_flags.calls k g l p q v p' q' w0 W hi h.bel e).mono ?_
  rintro _ W' ⟨rfl, hi', hb', hk'⟩
  exact ⟨⟨v, rfl, v0⟩, ⟨⟨p', q', hi', by omega, by omega, b0, b1⟩, hb', h.keep.trans hk' (.inl rfl)⟩, hk'⟩
end
/-- What the loop over the registers holds. -/
structure CpuIn (w0 w W : World) (g gc : Nat) (l x : List Int) (p q B : Int) : Prop where
  src : SrcIn w0 w W g l B
  b2 : W.heap[w.heap.size]? = some (.cells (cellsI (List.replicate 16 0 ++ [0, 0])) 40 (0, 0))
  bc : W.heap[gc]? = some (.cells (cellsI (x ++ [p, q])) 40 (0, 0))
  len : x.length = 16
  rng : ∀ n ∈ x, In64 n
section
variable {w0 w W : World} {g gc : Nat} {l x : List Int} {p q B : Int}
theorem CpuIn.on (h : CpuIn w0 w W g gc l x p q B) (hg : g < w.heap.size) (hgc : w.heap.size < gc) {W' : World} {B' : Int} (hs : SrcIn w0 w W' g l B') (hk : KeepBut W W' g none) : CpuIn w0 w W' g gc l x p q B' :=
  ⟨hs, hk.blk h.b2 (by omega) (by simp), hk.blk h.bc (by omega) (by simp), h.len, h.rng⟩
theorem CpuIn.le (h : CpuIn w0 w W g gc l x p q B) {B' : Int} (hB : B ≤ B') : CpuIn w0 w W g gc l x p q B' := by
  obtain ⟨⟨⟨a, b, c, d, e, f⟩, h1, h2⟩, h3, h4, h5, h6⟩ := h
  exact ⟨⟨⟨a, b, c, d, by omega, f⟩, h1, h2⟩, h3, h4, h5, h6⟩
theorem CpuIn.alloc (h : CpuIn w0 w W g gc l x p q B) (o : Obj) : CpuIn w0 w (W.alloc o) g gc l x p q B :=
  ⟨h.src.alloc o, blk_below h.b2 (below_alloc (Below.refl _ _) o), blk_below h.bc (below_alloc (Below.refl _ _) o), h.len, h.rng⟩
theorem CpuIn.put (h : CpuIn w0 w W g gc l x p q B) (hg : g < w.heap.size) (hgc : w.heap.size < gc) {i : Nat} (hi : i < 16) {n : Int} (hn : In64 n) : CpuIn w0 w (W.setCell ⟨gc, i, none⟩ (.int .i64 n)) g gc l (x.set i n) p q B := by
  refine ⟨h.src.far (by omega) hg _, blk_far h.b2 (show w.heap.size ≠ gc by omega) _, blk_put h.bc i _ ?_, by simpa using h.len, fun m hm => ?_⟩
  · rw [cellsI_put, List.set_append_left _ _ (by rw [h.len]; exact hi)]
  · rcases List.mem_or_eq_of_mem_set hm with h1 | h1
    · exact h.rng m h1
    · subst h1; exact hn
theorem CpuIn.cell (h : CpuIn w0 w W g gc l x p q B) {i : Nat} (hi : i < 16) : ∃ u, W.cell? ⟨gc, i, none⟩ = some u := by
  rw [blk_cell h.bc i]
  exact ⟨_, Array.getElem?_eq_getElem (by rw [cpu_size x h.len]; omega)⟩
end
theorem cells4 {W : World} {N T : Nat} {a b c d : Int} (h : W.heap[N]? = some (.cells #[.int .i64 a, .int .i64 b, .int .i64 c, .int .i64 d] T (0, 0))) (ha : In64 a) (hb : In64 b) (hc : In64 c) (hd : In64 d) {j : Nat} (hj : j < 4) :
    ∃ u, W.cell? ⟨N, j, none⟩ = some (.int .i64 u) ∧ In64 u := by
  rw [blk_cell h j]
  match j, hj with
  | 0, _ => exact ⟨a, rfl, ha⟩
  | 1, _ => exact ⟨b, rfl, hb⟩
  | 2, _ => exact ⟨c, rfl, hc⟩
  | 3, _ => exact ⟨d, rfl, hd⟩
set_option maxHeartbeats 4000000 in
set_option maxRecDepth 100000 in
theorem spec_l00Src_cpu.calls (k : Nat) (G : Int → Prop) (g : Nat) (l : List Int) (s1 s2 : Int) (w0 w : World) (hN : NextOK l) (hWd : WideOK l) (hF : FlagsOK k l G)
    (hI : IsS90 w0 w g l s1 s2) (hB : Below w0.heap.size w0 w) (a0 : 0 ≤ s1) (a1 : s1 ≤ 10) (a2 : 0 ≤ s2) (a3 : s2 < 2147483648) :
    Calls Try.prog 60 #[.pointer (some ⟨g, 0, none⟩)] w fun e w' => (∃ (x : List Int) (p q : Int), e = .returned (.agg (cellsI (x ++ [p, q]))) ∧ x.length = 16 ∧ (∀ n ∈ x, In64 n) ∧ In64 p ∧ G q) ∧ Below w0.heap.size w0 w' ∧ KeepBut w w' g none := by
  have HG : g < w.heap.size := hI.lt
  have hu := Aside0.mk Try.underlying40
  have hz : Aside0 (∀ (x : List Int) (p q : Int), x.length = 16 → (Try.prog.info? 40).map (·.size) = some (cellsI (x ++ [p, q])).size) := ⟨fun x p q hx => by rw [cpu_size x hx]; kernel_rfl⟩
  have HS := Aside0.mk (show SrcIn w0 w w g l 10 from ⟨⟨s1, s2, hI, a0, a1, a2, a3⟩, hB, KeepBut.refl w g none⟩)
  have HN := Aside0.mk hN
  have HW := Aside0.mk hWd
  have HF := Aside0.mk hF
  have HGG := Aside0.mk HG
  clear hN hWd hF hI hB a0 a1 a2 a3 HG
  go_enter Try.func60, Try.ntmps60
  go_wp2_with fail
  
  have HS1 := Aside0.mk (HS.out.alloc (.cells (cellsI (List.replicate 16 0 ++ [0, 0])) 40))
  have HZ := Aside0.mk (blk_new w (.cells (cellsI (List.replicate 16 0 ++ [0, 0])) 40))
  refine (SrcIn.next HN.out HS1.out (by decide) 40 (by decide) (by decide)).mono ?_
  rintro e W1 ⟨⟨v, rfl, hv0, hv1⟩, hs, hk⟩
  have HS2 := Aside0.mk hs
  have HZ1 := Aside0.mk (hk.blk HZ.out (Nat.ne_of_gt HGG.out) (by simp))
  clear hs hk
  go_wp2_with fail
  refine (SrcIn.flags HF.out HS2.out (by decide)).mono ?_
  rintro e W2 ⟨⟨q, rfl, hq⟩, hs, hk⟩
  have HS3 := Aside0.mk hs
  have HZ2 := Aside0.mk (hk.blk HZ1.out (Nat.ne_of_gt HGG.out) (by simp))
  have HQ := Aside0.mk hq
  clear hs hk hq
  have HGC := Aside0.mk (blk_lt HZ2.out)
  have HC : Aside0 (CpuIn w0 w (W2.alloc (.cells (cellsI (List.replicate 16 0 ++ [16896 + v, q])) 40)) g W2.heap.size l (List.replicate 16 0) (16896 + v) q (10 + 3 + 15)) :=
    ⟨⟨HS3.out.alloc _, blk_alloc HZ2.out _, blk_new _ _, rfl, fun n hn => by obtain rfl := List.eq_of_mem_replicate hn; unfold In64; omega⟩⟩
  go_wp2
  generalize W2.heap.size = gc at HC HGC ⊢
  clear HS HS1 HS2 HS3 HZ HZ1 HZ2
  go_loopg [4] 16 (fun kq va wr => ∃ (i : Nat) (x : List Int), va = .int .i64 (i : Int) ∧ Aside0 (i + kq = 16) ∧ Aside0 (CpuIn w0 w wr g gc l x (16896 + v) q (28 + 24 * (i : Int))))
  case atStart => exact ⟨0, List.replicate 16 0, rfl, ⟨rfl⟩, HC⟩
  case round =>
    clear HC
    obtain ⟨i, x, rfl, HI, HC⟩ := hrel
    cases gk with
    | zero =>
      have hi : i = 16 := by have := HI.out; omega
      subst hi
      have d0 : decide ((16 : Int) < 16) = false := rfl
      go_wp2_with fail
      refine (SrcIn.chance HN.out HC.out.src (by decide) 2 (by decide) (by decide)).mono ?_
      rintro e W4 ⟨⟨c, rfl⟩, hs, hk⟩
      have HD := Aside0.mk (HC.out.on HGG.out HGC.out hs hk)
      clear hs hk
      have HE := Aside0.mk (Nat.le_of_lt (Nat.lt_of_le_of_lt HD.out.src.ge HGG.out))
      cases c
      · go_wp2_with (first | (refine wpList_load_row rfl 40 _ rfl gc rfl 40 (cellsI (x ++ [16896 + v, q])) (0, 0) _ HD.out.bc hu.out rfl (hz.out _ _ _ HD.out.len) ?_) | (refine wpList_store_row rfl 40 _ _ rfl w.heap.size (cellsI (x ++ [16896 + v, q])) rfl rfl 40 _ HD.out.b2 (hz.out _ _ _ HD.out.len) (by rw [cpu_size _ HD.out.len]; rfl) (cellsI_all _) ?_))
        refine bodyPost_ret (results_cell_row rfl _ _ w.heap.size 40 (cellsI (x ++ [16896 + v, q])) (0, 0) _ rfl (setRow_heap _ _ _ _ _ _ HD.out.b2) hu.out rfl (hz.out _ _ _ HD.out.len)) rfl ?_
        exact ⟨⟨x, 16896 + v, q, rfl, HD.out.len, HD.out.rng, by unfold In64; omega, HQ.out⟩, belowRow HD.out.src.bel HE.out _, (HD.out.src.row (Nat.le_refl _) HGG.out _).keep⟩
      · go_wp2_with fail
        refine (SrcIn.next HN.out HD.out.src (by decide) 60 (by decide) (by decide)).mono ?_
        rintro e W5 ⟨⟨v6, rfl, v60, v61⟩, hs, hk⟩
        have HP := Aside0.mk (HD.out.on HGG.out HGC.out hs hk)
        clear hs hk
        obtain ⟨u4, hu4⟩ := HP.out.cell (i := 4) (by decide)
        have hf4 := blk_frozen HP.out.bc 4
        have HP4 := Aside0.mk (HP.out.put HGG.out HGC.out (i := 4) (by decide) (n := 17408 + 8 * v6) (by unfold In64; omega))
        go_wp2_with (first | (refine wpList_load_row rfl 40 _ rfl gc rfl 40 (cellsI (x.set 4 (17408 + 8 * v6) ++ [16896 + v, q])) (0, 0) _ HP4.out.bc hu.out rfl (hz.out _ _ _ HP4.out.len) ?_) | (refine wpList_store_row rfl 40 _ _ rfl w.heap.size (cellsI (x.set 4 (17408 + 8 * v6) ++ [16896 + v, q])) rfl rfl 40 _ HP4.out.b2 (hz.out _ _ _ HP4.out.len) (by rw [cpu_size _ HP4.out.len]; rfl) (cellsI_all _) ?_))
        refine bodyPost_ret (results_cell_row rfl _ _ w.heap.size 40 (cellsI (x.set 4 (17408 + 8 * v6) ++ [16896 + v, q])) (0, 0) _ rfl (setRow_heap _ _ _ _ _ _ HP4.out.b2) hu.out rfl (hz.out _ _ _ HP4.out.len)) rfl ?_
        exact ⟨⟨_, 16896 + v, q, rfl, HP4.out.len, HP4.out.rng, by unfold In64; omega, HQ.out⟩, belowRow HP4.out.src.bel HE.out _, (HP4.out.src.row (Nat.le_refl _) HGG.out _).keep⟩
    | succ k1 =>
      have hi : i < 16 := by have := HI.out; omega
      have d0 : decide ((i : Int) < 16) = true := decide_eq_true (by omega)
      have i0 : (0 : Int) ≤ (i : Int) := by omega
      have i1 : (i : Int) < 16 := by omega
      go_wp2_with fail
      refine (SrcIn.next HN.out HC.out.src (by omega) 400 (by decide) (by decide)).mono ?_
      rintro e W4 ⟨⟨v1, rfl, v10, v11⟩, hs, hk⟩
      have HC1 := Aside0.mk (HC.out.on HGG.out HGC.out hs hk)
      clear hs hk
      go_wp2_with fail
      refine (SrcIn.wide HW.out HC1.out.src (by omega)).mono ?_
      rintro e W5 ⟨⟨v2, rfl, b0⟩, hs, hk⟩
      have HC2 := Aside0.mk (HC1.out.on HGG.out HGC.out hs hk)
      have B0 := Aside0.mk b0
      clear hs hk b0
      go_wp2_with fail
      refine (SrcIn.next HN.out HC2.out.src (by omega) 40 (by decide) (by decide)).mono ?_
      rintro e W6 ⟨⟨v3, rfl, v30, v31⟩, hs, hk⟩
      have HC3 := Aside0.mk (HC2.out.on HGG.out HGC.out hs hk)
      clear hs hk
      go_wp2_with fail
      refine (SrcIn.next HN.out HC3.out.src (by omega) 30 (by decide) (by decide)).mono ?_
      rintro e W7 ⟨⟨v4, rfl, v40, v41⟩, hs, hk⟩
      have HC4 := Aside0.mk (HC3.out.on HGG.out HGC.out hs hk)
      clear hs hk
      have HA := Aside0.mk (HC4.out.alloc (.cells #[.int .i64 (17408 + v1), .int .i64 v2, .int .i64 v3, .int .i64 (17408 + 8 * v4)] 3))
      have HB := Aside0.mk (blk_new W7 (.cells #[.int .i64 (17408 + v1), .int .i64 v2, .int .i64 v3, .int .i64 (17408 + 8 * v4)] 3))
      go_wp2_with fail
      refine (SrcIn.next HN.out HA.out.src (by omega) 4 (by decide) (by decide)).mono ?_
      rintro e W8 ⟨⟨v5, rfl, v50, v51⟩, hs, hk⟩
      have HC5 := Aside0.mk (HA.out.on HGG.out HGC.out hs hk)
      have HB2 := Aside0.mk (hk.blk HB.out (Nat.ne_of_gt HC4.out.src.lt) (by simp))
      clear hs hk
      obtain ⟨j, rfl⟩ := Int.eq_ofNat_of_zero_le v50
      obtain ⟨u, hu1, hu2⟩ := cells4 HB2.out (by unfold In64; omega) B0.out (by unfold In64; omega) (by unfold In64; omega) (j := j) (by omega)
      obtain ⟨uo, ho⟩ := HC5.out.cell hi
      have hf := blk_frozen HC5.out.bc i
      have HP := Aside0.mk ((HC5.out.put HGG.out HGC.out hi hu2).le (show 28 + 24 * (i : Int) + 3 + 12 + 3 + 3 + 3 ≤ 28 + 24 * ((i + 1 : Nat) : Int) by omega))
      clear hu2
      go_wp2
      go_roundg k1
      case measure => omega
      case rel => exact ⟨i + 1, x.set i u, by first | rfl | (simp; done) | go_num, ⟨by have := HI.out; omega⟩, HP⟩



/-! ### spec_CpuDrawn: function 23 -/
set_option maxHeartbeats 4000000 in
set_option maxRecDepth 100000 in
theorem spec_CpuDrawn.calls (k : Nat) (G : Int → Prop) (A0 : Option Addr) (c0 : Nat) (l : List Int) (w : World) (hN : NextOK l) (hWd : WideOK l) (hF : FlagsOK k l G)
    (hr0 : Kd.C (Kd.int .u8) w A0 l.length l) (hc0 : l.length ≤ c0) :
    Calls Try.prog 23 #[.slice A0 l.length c0] w fun e w' => (∃ (x : List Int) (p q : Int), e = .returned (.agg (cellsI (x ++ [p, q]))) ∧ x.length = 16 ∧ (∀ n ∈ x, In64 n) ∧ In64 p ∧ G q) ∧ Below w.heap.size w w' := by
  have hz : Aside0 (∀ (x : List Int) (p q : Int), x.length = 16 → (Try.prog.info? 40).map (·.size) = some (cellsI (x ++ [p, q])).size) := ⟨fun x p q hx => by rw [cpu_size x hx]; kernel_rfl⟩
  have hu := Aside0.mk Try.underlying40
  have HR := Aside0.mk hr0
  have HC := Aside0.mk hc0
  have HN := Aside0.mk hN
  have HW := Aside0.mk hWd
  have HF := Aside0.mk hF
  clear hr0 hc0 hN hWd hF
  have HZ := Aside0.mk (blk_new w (.cells (cellsI (List.replicate 16 0 ++ [0, 0])) 40))
  go_enter Try.func23, Try.ntmps23
  go_wp2_with fail
  refine (spec_l00Source.calls A0 c0 l l 0 ((l.length : Int) % 1000) w _ (below_alloc (Below.refl _ _) (.cells (cellsI (List.replicate 16 0 ++ [0, 0])) 40)) HR.out HC.out rfl).mono ?_
  rintro e W1 ⟨g, rfl, hi, hb, hb2⟩
  have HZ1 := Aside0.mk (blk_below HZ.out hb2)
  have HI := Aside0.mk hi
  have HB := Aside0.mk hb
  clear hi hb hb2
  have HNE := Aside0.mk (HI.out.ne_blk HZ1.out (by decide))
  go_wp2_with fail
  refine (spec_l00Src_cpu.calls k G g l 0 ((l.length : Int) % 1000) w _ HN.out HW.out HF.out HI.out HB.out (by omega) (by omega) (by omega) (by omega)).mono ?_
  rintro e W2 ⟨⟨x, p, q, rfl, hx, hr, hp, hq⟩, hb, hk⟩
  have HZ2 := Aside0.mk (hk.blk HZ1.out (Ne.symm HNE.out) (by simp))
  have HB2 := Aside0.mk hb
  have HX := Aside0.mk hx
  have HXX := Aside0.mk (And.intro hr (And.intro hp hq))
  clear hb hk hr hp hq hx
  go_wp2_with (refine wpList_store_row rfl 40 _ _ rfl w.heap.size (cellsI (x ++ [p, q])) rfl rfl 40 _ HZ2.out (hz.out _ _ _ HX.out) (by rw [cpu_size _ HX.out]; rfl) (cellsI_all _) ?_)
  refine bodyPost_ret (results_cell_row rfl _ _ w.heap.size 40 (cellsI (x ++ [p, q])) (0, 0) _ rfl (setRow_heap _ _ _ _ _ _ HZ2.out) hu.out rfl (hz.out _ _ _ HX.out)) rfl ?_
  exact ⟨⟨x, p, q, rfl, HX.out, HXX.out⟩, belowRow HB2.out (Nat.le_refl _) _⟩


/-! ### spec_NumberOf: function 24 -/
def spec_NumberOf.f (l0 : List Int) : Option (Int) := (spec_l00Source.f l0).bind fun bt178 => ((spec_l00Src_wide.f bt178.1 bt178.2.1 bt178.2.2).bind fun bt182 => (some bt182.1))
set_option maxHeartbeats 8000000 in
set_option maxRecDepth 100000 in
theorem spec_NumberOf.calls (A0 : Option Addr) (c0 : Nat) (l0 : List Int) (r : Int) (w : World) (hr0 : Kd.C (Kd.int .u8) w A0 l0.length l0) (hc0 : l0.length ≤ c0) (h : spec_NumberOf.f l0 = some r) :
    Calls Try.prog 24 #[.slice A0 l0.length c0] w fun e w' => e = .returned (.int .i64 r) ∧ Below w.heap.size w w' := by
  have HR0 := Aside0.mk hr0
  have HC0 := Aside0.mk hc0
  clear hr0 hc0
  have HB := Aside0.mk (Below.refl w.heap.size w)
  have H : ((spec_l00Source.f l0).bind fun bt178 => ((spec_l00Src_wide.f bt178.1 bt178.2.1 bt178.2.2).bind fun bt182 => (some bt182.1))) = some r := h
  clear h
  replace H := Option.bind_eq_some_iff.mp H
  obtain ⟨⟨t178, t179, t180⟩, A20, H⟩ := H
  replace H : ((spec_l00Src_wide.f t178 t179 t180).bind fun bt182 => (some bt182.1)) = some r := H
  have A2 := Aside0.mk A20
  clear A20
  replace H := Option.bind_eq_some_iff.mp H
  obtain ⟨⟨t182, t183, t184⟩, A30, H⟩ := H
  replace H : (some t182) = some r := H
  have A3 := Aside0.mk A30
  clear A30
  obtain rfl := Option.some.inj H
  go_enter Try.func24, Try.ntmps24
  go_wp2_with (first | ((with_reducible refine gate_callee (f := 59) rfl ?_); refine goesL_ (some 4) rfl rfl Try.func59 (by kernel_rfl) rfl #[.slice A0 l0.length c0] rfl (by (try simp only [List.map_toArray, List.map_cons, List.map_nil]); first | done | rfl | (simp only [List.length_drop, List.length_take]; rfl)) ?_; (with_reducible refine (spec_l00Source.calls _ _ l0 t178 t179 t180 w _ ?side1 ?side2 ?side3 A2.out).mono ?_); (case side1 => repeat (first | (with_reducible first | exact HB.out | apply below_alloc | apply pw_below_drewN | apply below_drew1) | exact HB.out)); (case side2 => exact HR0.out); (case side3 => exact HC0.out); rintro e w4 ⟨g181, rfl, hi, hb, hb2⟩; refine ⟨_, rfl, ?_⟩; have n0_ := Aside0.mk (hb); have n1_ := Aside0.mk (hi); clear HB; have HB := n0_; have HI181 := n1_; clear n0_ n1_; (try clear hb); (try clear hb2); (try clear hk); (try clear hi)) | ((with_reducible refine gate_callee (f := 61) rfl ?_); refine goesL_ (some 5) rfl rfl Try.func61 (by kernel_rfl) rfl #[.pointer (some ⟨g181, 0, none⟩)] rfl (by (try simp only [List.map_toArray, List.map_cons, List.map_nil]); first | done | rfl | (simp only [List.length_drop, List.length_take]; rfl)) ?_; (with_reducible refine (spec_l00Src_wide.calls g181 t178 t179 t180 t182 t183 t184 w _ ?side1 ?side2 A3.out).mono ?_); (case side1 => repeat (first | (with_reducible first | exact HI181.out | apply IsS90.alloc | apply IsS90.drewN | apply IsS90.drew | apply IsS90.set_1 | apply IsS90.set_2) | exact HI181.out)); (case side2 => repeat (first | (with_reducible first | exact HB.out | apply below_alloc | apply pw_below_drewN | apply below_drew1 | refine below_set ?_ (IsS90.ge HI181.out)) | exact HB.out)); rintro e w5 ⟨rfl, hi, hb, hk⟩; refine ⟨_, rfl, ?_⟩; have n0_ := Aside0.mk (hb); have n1_ := Aside0.mk (hi); clear HB; clear HI181; have HB := n0_; have HI181 := n1_; clear n0_ n1_; (try clear hb); (try clear hb2); (try clear hk); (try clear hi)))
  go_ret
  exact ⟨by first | rfl | (simp [errW_none, errW_some] <;> rfl) | (simp [*, errW_none, errW_some] <;> rfl), by repeat (first | (with_reducible first | exact HB.out | apply below_alloc | apply pw_below_drewN | apply below_drew1 | refine below_set ?_ (IsS90.ge HI181.out)) | exact HB.out)⟩

/-! ### laws_at: function 26 -/
def laws_at.f (l0 : List Int) (a1 : Int) (a2 : Int) : Option (Int) := if a2 ≤ 1 then (some 0) else (if (l0.length : Int) = 0 then (if a2 = 0 then (none) else (some (Int.tmod (wrap64 (a1 * 7)) a2))) else (if 0 ≤ (Int.tmod a1 (l0.length : Int)) then (if (Int.tmod a1 (l0.length : Int)) < (l0.length : Int) then (if 0 ≤ (Int.tmod (wrap64 (a1 + 1)) (l0.length : Int)) then (if (Int.tmod (wrap64 (a1 + 1)) (l0.length : Int)) < (l0.length : Int) then (if a2 = 0 then (none) else (some (Int.tmod (wrap64 ((wrap64 ((wrap64 ((wrap64 (rd l0 (Int.tmod a1 (l0.length : Int)))) * 31)) + (wrap64 (rd l0 (Int.tmod (wrap64 (a1 + 1)) (l0.length : Int)))))) + (wrap64 (Int.tdiv a1 (l0.length : Int))))) a2))) else (none)) else (none)) else (none)) else (none)))
set_option maxHeartbeats 8000000 in
set_option maxRecDepth 100000 in
theorem laws_at.calls (A0 : Option Addr) (c0 : Nat) (l0 : List Int) (a1 : Int) (a2 : Int) (r : Int) (w : World) (hr0 : Kd.C (Kd.int .u8) w A0 l0.length l0) (hc0 : l0.length ≤ c0) (h : laws_at.f l0 a1 a2 = some r) :
    Calls Try.prog 26 #[.slice A0 l0.length c0, .int .i64 a1, .int .i64 a2] w fun e w' => e = .returned (.int .i64 r) ∧ Drawn0 w w' := by
  have HR0 := Aside0.mk hr0
  have HC0 := Aside0.mk hc0
  clear hr0 hc0
  have H : (if a2 ≤ 1 then (some 0) else (if (l0.length : Int) = 0 then (if a2 = 0 then (none) else (some (Int.tmod (wrap64 (a1 * 7)) a2))) else (if 0 ≤ (Int.tmod a1 (l0.length : Int)) then (if (Int.tmod a1 (l0.length : Int)) < (l0.length : Int) then (if 0 ≤ (Int.tmod (wrap64 (a1 + 1)) (l0.length : Int)) then (if (Int.tmod (wrap64 (a1 + 1)) (l0.length : Int)) < (l0.length : Int) then (if a2 = 0 then (none) else (some (Int.tmod (wrap64 ((wrap64 ((wrap64 ((wrap64 (rd l0 (Int.tmod a1 (l0.length : Int)))) * 31)) + (wrap64 (rd l0 (Int.tmod (wrap64 (a1 + 1)) (l0.length : Int)))))) + (wrap64 (Int.tdiv a1 (l0.length : Int))))) a2))) else (none)) else (none)) else (none)) else (none)))) = some r := h
  clear h
  by_cases c4 : a2 ≤ 1
  · rw [if_pos c4] at H
    have c4b0 : decide (a2 ≤ 1) = true := decide_eq_true c4
    clear c4
    obtain rfl := Option.some.inj H
    go_enter Try.func26, Try.ntmps26
    go_wp2
    repeat (go_quiet (fail); try go_wp2)
    go_ret
    exact ⟨by first | rfl | (simp; done) | (simp [*]; done), by repeat (first | exact Drawn0.refl _ | apply Drawn0.step)⟩
  · rw [if_neg c4] at H
    have c4b0 : decide (a2 ≤ 1) = false := decide_eq_false c4
    clear c4
    by_cases c5 : (l0.length : Int) = 0
    · rw [if_pos c5] at H
      have c5b0 : ((l0.length : Int) == 0) = true := beq_iff_eq.mpr c5
      have c5b1 : ((l0.length : Int) != 0) = false := bne_eq_false_iff_eq.mpr c5
      clear c5
      by_cases c6 : a2 = 0
      · rw [if_pos c6] at H
        exact absurd H (by simp)
      · rw [if_neg c6] at H
        have c6b0 : (a2 == 0) = false := beq_eq_false_iff_ne.mpr c6
        have c6b1 : (a2 != 0) = true := bne_iff_ne.mpr c6
        obtain rfl := Option.some.inj H
        go_enter Try.func26, Try.ntmps26
        go_wp2
        repeat (go_quiet (fail); try go_wp2)
        go_ret
        exact ⟨by first | rfl | (simp; done) | (simp [*]; done), by repeat (first | exact Drawn0.refl _ | apply Drawn0.step)⟩
    · rw [if_neg c5] at H
      have c5b0 : ((l0.length : Int) == 0) = false := beq_eq_false_iff_ne.mpr c5
      have c5b1 : ((l0.length : Int) != 0) = true := bne_iff_ne.mpr c5
      have c5b2 : ¬ (l0 = []) := fun h_ => c5 (by rw [h_]; rfl)
      obtain ⟨ji7, hji7⟩ : ∃ j_ : Int, (Int.tmod a1 (l0.length : Int)) = j_ := ⟨_, rfl⟩
      replace H : (if 0 ≤ (ji7) then (if (ji7) < (l0.length : Int) then (if 0 ≤ (Int.tmod (wrap64 (a1 + 1)) (l0.length : Int)) then (if (Int.tmod (wrap64 (a1 + 1)) (l0.length : Int)) < (l0.length : Int) then (if a2 = 0 then (none) else (some (Int.tmod (wrap64 ((wrap64 ((wrap64 ((wrap64 (rd l0 (ji7))) * 31)) + (wrap64 (rd l0 (Int.tmod (wrap64 (a1 + 1)) (l0.length : Int)))))) + (wrap64 (Int.tdiv a1 (l0.length : Int))))) a2))) else (none)) else (none)) else (none)) else (none)) = some r := by first | (rw [hji7] at H; exact H) | (simp only [hji7] at H ⊢; exact H)
      by_cases c8 : 0 ≤ (ji7)
      · rw [if_pos c8] at H
        have c8b0 : decide (0 ≤ (ji7)) = true := decide_eq_true c8
        clear c8
        by_cases c9 : (ji7) < (l0.length : Int)
        · rw [if_pos c9] at H
          have c9b0 : decide ((ji7) < (l0.length : Int)) = true := decide_eq_true c9
          clear c9
          obtain ⟨ji10, hji10⟩ : ∃ j_ : Int, (Int.tmod (wrap64 (a1 + 1)) (l0.length : Int)) = j_ := ⟨_, rfl⟩
          replace H : (if 0 ≤ (ji10) then (if (ji10) < (l0.length : Int) then (if a2 = 0 then (none) else (some (Int.tmod (wrap64 ((wrap64 ((wrap64 ((wrap64 (rd l0 (ji7))) * 31)) + (wrap64 (rd l0 (ji10))))) + (wrap64 (Int.tdiv a1 (l0.length : Int))))) a2))) else (none)) else (none)) = some r := by first | (rw [hji10] at H; exact H) | (simp only [hji10] at H ⊢; exact H)
          by_cases c11 : 0 ≤ (ji10)
          · rw [if_pos c11] at H
            have c11b0 : decide (0 ≤ (ji10)) = true := decide_eq_true c11
            clear c11
            by_cases c12 : (ji10) < (l0.length : Int)
            · rw [if_pos c12] at H
              have c12b0 : decide ((ji10) < (l0.length : Int)) = true := decide_eq_true c12
              clear c12
              by_cases c13 : a2 = 0
              · rw [if_pos c13] at H
                exact absurd H (by simp)
              · rw [if_neg c13] at H
                have c13b0 : (a2 == 0) = false := beq_eq_false_iff_ne.mpr c13
                have c13b1 : (a2 != 0) = true := bne_iff_ne.mpr c13
                obtain rfl := Option.some.inj H
                have p185 : 0 ≤ ((ji7) : Int) := of_decide_eq_true (by first | (with_reducible assumption) | assumption)
                have q185 : (ji7) < (l0.length : Int) := of_decide_eq_true (by first | (with_reducible assumption) | assumption)
                obtain ⟨ad185, e185, hx185_0⟩ := Kd.at_int HR0.out (ji7) p185 q185
                cases e185
                replace p185 := eq_true p185
                replace q185 := eq_true q185
                have p186 : 0 ≤ ((ji10) : Int) := of_decide_eq_true (by first | (with_reducible assumption) | assumption)
                have q186 : (ji10) < (l0.length : Int) := of_decide_eq_true (by first | (with_reducible assumption) | assumption)
                obtain ⟨ad186, e186, hx186_0⟩ := Kd.at_int HR0.out (ji10) p186 q186
                obtain rfl : ad185 = ad186 := (by injection e186)
                replace p186 := eq_true p186
                replace q186 := eq_true q186
                go_enter Try.func26, Try.ntmps26
                go_wp2
                repeat (go_quiet (fail); try go_wp2)
                go_ret
                exact ⟨by first | rfl | (simp; done) | (simp only [← hji7, ← hji10] <;> (first | rfl | simp)) | (simp [*]; done), by repeat (first | exact Drawn0.refl _ | apply Drawn0.step)⟩
            · rw [if_neg c12] at H
              exact absurd H (by simp)
          · rw [if_neg c11] at H
            exact absurd H (by simp)
        · rw [if_neg c9] at H
          exact absurd H (by simp)
      · rw [if_neg c8] at H
        exact absurd H (by simp)

/-! ### laws_sizeAt: function 25 -/
def laws_sizeAt.f (l0 : List Int) (a1 : Int) : Option (Int) := (some (([1, 2, 4, 8] : List Int) : List Int)).bind fun y187 => ((laws_at.f l0 a1 4).bind fun t190 => (if 0 ≤ t190 then (if t190 < (y187.length : Int) then (some (rd y187 t190)) else (none)) else (none)))
set_option maxHeartbeats 8000000 in
set_option maxRecDepth 100000 in
theorem laws_sizeAt.calls (A0 : Option Addr) (c0 : Nat) (l0 : List Int) (a1 : Int) (r : Int) (w : World) (hr0 : Kd.C (Kd.int .u8) w A0 l0.length l0) (hc0 : l0.length ≤ c0) (h : laws_sizeAt.f l0 a1 = some r) :
    Calls Try.prog 25 #[.slice A0 l0.length c0, .int .i64 a1] w fun e w' => e = .returned (.int .i64 r) ∧ Below w.heap.size w w' := by
  have HR0 := Aside0.mk hr0
  have HC0 := Aside0.mk hc0
  clear hr0 hc0
  have HB := Aside0.mk (Below.refl w.heap.size w)
  have H : ((some (([1, 2, 4, 8] : List Int) : List Int)).bind fun y187 => ((laws_at.f l0 a1 4).bind fun t190 => (if 0 ≤ t190 then (if t190 < (y187.length : Int) then (some (rd y187 t190)) else (none)) else (none)))) = some r := h
  clear h
  obtain ⟨y187, hy187⟩ : ∃ y_ : List Int, y_ = (([1, 2, 4, 8] : List Int)) := ⟨_, rfl⟩
  replace H : ((laws_at.f l0 a1 4).bind fun t190 => (if 0 ≤ t190 then (if t190 < (y187.length : Int) then (some (rd y187 t190)) else (none)) else (none))) = some r := by first | (rw [hy187]; with_reducible exact H) | (have H2_ := (Option.bind_some _ _).symm.trans H; rw [hy187]; with_reducible exact H2_) | (have H2_ := (Option.bind_some _ _).symm.trans H; with_reducible exact H2_) | with_reducible exact H | (rw [hy187]; exact H) | exact H
  have Ny187 := Aside0.mk hy187
  clear hy187
  replace H := Option.bind_eq_some_iff.mp H
  obtain ⟨t190, A30, H⟩ := H
  replace H : (if 0 ≤ t190 then (if t190 < (y187.length : Int) then (some (rd y187 t190)) else (none)) else (none)) = some r := H
  have A3 := Aside0.mk A30
  clear A30
  by_cases c4 : 0 ≤ t190
  · rw [if_pos c4] at H
    have c4b0 : decide (0 ≤ t190) = true := decide_eq_true c4
    clear c4
    by_cases c5 : t190 < (y187.length : Int)
    · rw [if_pos c5] at H
      have c5b0 : decide (t190 < (y187.length : Int)) = true := decide_eq_true c5
      clear c5
      obtain rfl := Option.some.inj H
      go_enter Try.func25, Try.ntmps25
      go_wp2_with (first | ((with_reducible refine gate_dst (N := 5) rfl ?_); refine Kd.R_lit (Kd.int .i64) _ 3 ?hg (N := 5) ?hd (xs := ([1, 2, 4, 8] : List Int)) (inner := [.int .i64 1, .int .i64 2, .int .i64 4, .int .i64 8]) (ok := fun _ => True) (okp := fun _ => True) ?hr ?hp (fun _ hk => hk) trivial (Below.refl _ _) (Nat.le_refl _) (by simp) ?_; (case hd => rfl); (case hg => rfl); (case hr => first | (go_simp; done) | (go_simp; rfl)); (case hp => exact (Reps.one (show Kd.M (Kd.int .i64) _ _ _ 1 [.int .i64 1] from rfl) (Reps.one (show Kd.M (Kd.int .i64) _ _ _ 2 [.int .i64 2] from rfl) (Reps.one (show Kd.M (Kd.int .i64) _ _ _ 4 [.int .i64 4] from rfl) (Reps.one (show Kd.M (Kd.int .i64) _ _ _ 8 [.int .i64 8] from rfl) (Reps.none _ _)))))); intro v188 w6 ho7 hb hg_ hnew_; clear hg_ hnew_; (first | rw [← Ny187.out] at ho7 | (simp only [Int.reduceToNat] at ho7; rw [← Ny187.out] at ho7)); have n0_ := Aside0.mk (Kd.R_lower ho7 (below_size (by repeat (first | (with_reducible first | exact HB.out | apply below_alloc | apply pw_below_drewN | apply below_drew1) | exact HB.out)))); have n1_ := Aside0.mk (below_step (by repeat (first | (with_reducible first | exact HB.out | apply below_alloc | apply pw_below_drewN | apply below_drew1) | exact HB.out)) hb); clear HB; have HO189 := n0_; have HB := n1_; clear n0_ n1_; clear hb ho7) | ((with_reducible refine gate_callee (f := 26) rfl ?_); refine goesL_ (some 8) rfl rfl Try.func26 (by kernel_rfl) rfl #[.slice A0 l0.length c0, .int .i64 a1, .int .i64 4] rfl (by (try simp only [List.map_toArray, List.map_cons, List.map_nil]); first | done | rfl | (simp only [List.length_drop, List.length_take]; rfl)) ?_; (with_reducible refine (laws_at.calls _ _ l0 a1 4 t190 _ ?side1 ?side2 A3.out).mono ?_); (case side1 => repeat (first | exact (Kd.C_below HR0.out HB.out) | (with_reducible refine Kd.C_alloc ?_ _) | (with_reducible refine Kd.C_drewN ?_ _) | (with_reducible refine Kd.C_drew ?_))); (case side2 => exact HC0.out); rintro e w' ⟨rfl, ⟨nd, rfl⟩⟩; refine ⟨_, rfl, ?_⟩; obtain ⟨Ao8, co8, eo8⟩ := Kd.R_slice HO189.out; subst eo8; have p191 : 0 ≤ (t190 : Int) := of_decide_eq_true (by first | (with_reducible assumption) | assumption); have q191 : t190 < (y187.length : Int) := of_decide_eq_true (by first | (with_reducible assumption) | assumption); obtain ⟨ad191, e191, hx191_0⟩ := Kd.at_int (Kd.R_reads' HO189.out).2.2 t190 p191 q191; cases e191; replace p191 := eq_true p191; replace q191 := eq_true q191))
      go_ret
      exact ⟨by first | rfl | (simp [errW_none, errW_some] <;> rfl) | (simp [*, errW_none, errW_some] <;> rfl), by repeat (first | (with_reducible first | exact HB.out | apply below_alloc | apply pw_below_drewN | apply below_drew1) | exact HB.out)⟩
    · rw [if_neg c5] at H
      exact absurd H (by simp)
  · rw [if_neg c4] at H
    exact absurd H (by simp)

/-! ### impl_ZeroOf: function 27 -/
def impl_ZeroOf.f (a0 : Int) (a1 : Int) : Option (Int × Int) := (impl_isSize.f a1).bind fun t192 => (if t192 = true then ((impl_zero.f a0 a1).bind fun t193 => (some (t193, 0))) else (some (0, 4)))
set_option maxHeartbeats 8000000 in
set_option maxRecDepth 100000 in
theorem impl_ZeroOf.calls (a0 : Int) (a1 : Int) (r1 : Int) (r2 : Int) (w : World) (h : impl_ZeroOf.f a0 a1 = some (r1, r2)) :
    Calls Try.prog 27 #[.int .i64 a0, .int .i64 a1] w fun e w' => e = .returned (.tuple #[.int .i64 r1, .int .i64 r2]) ∧ Drawn0 w w' := by
  have H : ((impl_isSize.f a1).bind fun t192 => (if t192 = true then ((impl_zero.f a0 a1).bind fun t193 => (some (t193, 0))) else (some (0, 4)))) = some (r1, r2) := h
  clear h
  replace H := Option.bind_eq_some_iff.mp H
  obtain ⟨t192, A30, H⟩ := H
  replace H : (if t192 = true then ((impl_zero.f a0 a1).bind fun t193 => (some (t193, 0))) else (some (0, 4))) = some (r1, r2) := H
  have A3 := Aside0.mk A30
  clear A30
  by_cases c4 : t192 = true
  · subst c4
    have H1 : ((impl_zero.f a0 a1).bind fun t193 => (some (t193, 0))) = some (r1, r2) := by rw [if_pos rfl] at H; exact H
    clear H
    have H := H1
    clear H1
    replace H := Option.bind_eq_some_iff.mp H
    obtain ⟨t193, A50, H⟩ := H
    replace H : (some (t193, 0)) = some (r1, r2) := H
    have A5 := Aside0.mk A50
    clear A50
    simp only [Option.some.injEq, Prod.mk.injEq] at H
    obtain ⟨rfl, rfl⟩ := H
    go_enter Try.func27, Try.ntmps27
    go_wp2_with (first | ((with_reducible refine gate_callee (f := 43) rfl ?_); refine goesL_ (some 7) rfl rfl Try.func43 (by kernel_rfl) rfl #[.int .i64 a1] rfl (by (try simp only [List.map_toArray, List.map_cons, List.map_nil]); first | done | rfl | (simp only [List.length_drop, List.length_take]; rfl)) ?_; (with_reducible refine (impl_isSize.calls a1 true _ A3.out).mono ?_); rintro e w' ⟨rfl, ⟨nd, rfl⟩⟩; refine ⟨_, rfl, ?_⟩) | ((with_reducible refine gate_callee (f := 62) rfl ?_); refine goesL_ (some 11) rfl rfl Try.func62 (by kernel_rfl) rfl #[.int .i64 a0, .int .i64 a1] rfl (by (try simp only [List.map_toArray, List.map_cons, List.map_nil]); first | done | rfl | (simp only [List.length_drop, List.length_take]; rfl)) ?_; (with_reducible refine (impl_zero.calls a0 a1 t193 _ A5.out).mono ?_); rintro e w' ⟨rfl, ⟨nd, rfl⟩⟩; refine ⟨_, rfl, ?_⟩))
    go_ret2
    exact ⟨by first | rfl | (simp; done) | (simp [*]; done), by repeat (first | exact Drawn0.refl _ | apply Drawn0.step)⟩
  · replace c4 := Bool.eq_false_iff.mpr c4
    subst c4
    have H1 : (some (0, 4)) = some (r1, r2) := by rw [if_neg (show ¬ (false = true) by decide)] at H; exact H
    clear H
    have H := H1
    clear H1
    simp only [Option.some.injEq, Prod.mk.injEq] at H
    obtain ⟨rfl, rfl⟩ := H
    go_enter Try.func27, Try.ntmps27
    go_wp2_with (first | ((with_reducible refine gate_callee (f := 43) rfl ?_); refine goesL_ (some 7) rfl rfl Try.func43 (by kernel_rfl) rfl #[.int .i64 a1] rfl (by (try simp only [List.map_toArray, List.map_cons, List.map_nil]); first | done | rfl | (simp only [List.length_drop, List.length_take]; rfl)) ?_; (with_reducible refine (impl_isSize.calls a1 false _ A3.out).mono ?_); rintro e w' ⟨rfl, ⟨nd, rfl⟩⟩; refine ⟨_, rfl, ?_⟩))
    go_ret2
    exact ⟨by first | rfl | (simp; done) | (simp [*]; done), by repeat (first | exact Drawn0.refl _ | apply Drawn0.step)⟩

end Go.Proofs.Ytgipadecllofkaa.PFnRegs
