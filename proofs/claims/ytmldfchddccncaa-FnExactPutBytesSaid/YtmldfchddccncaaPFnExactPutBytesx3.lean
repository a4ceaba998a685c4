-- Written for this claim by the session's own program, out of the translation. Not trusted: Lean checks it.
import Derived.Test.YtmldfchddccncaaPFnExactPutBytesx0
import Derived.Test.YtmldfchddccncaaPFnExactPutBytesx2
namespace Go.Proofs.Ytmldfchddccncaa.PFnExactPutBytes
open Go.RowKit Go.Proofs.YtmldfchddccncaaW.PrintWords Go.Proofs.YtmldfchddccncaaW.PrintLast Go.Proofs.YtmldfchddccncaaW.PrintMore
attribute [local go_sem] max2_int min2_int max_two min_two max_three min_three max_four min_four   -- for this text's walks alone
set_option linter.unusedVariables false
set_option linter.unusedSimpArgs false

/-! ### spec_MemoryOK: function 18 -/
def spec_MemoryOK.l0 : Nat → Int → List (S55) → Option (Bool)
  | 0, _, _ => none
  | k + 1, x3, x150000 => if x3 < (x150000.length : Int) then (if 0 ≤ x3 then ((spec_l02Base.f ((rd_T55 x150000 x3).f0)).bind fun t152 => (if t152 = true then ((spec_l02Perm.f ((rd_T55 x150000 x3).f1)).bind fun t153 => (if t153 = true then (if (((rd_T55 x150000 x3).f2).size : Int) = 256 then (if x3 > 0 then (if 0 ≤ (wrap64 (x3 - 1)) then (if (wrap64 (x3 - 1)) < (x150000.length : Int) then (if ((rd_T55 x150000 x3).f0) ≤ ((rd_T55 x150000 (wrap64 (x3 - 1))).f0) then (some false) else (spec_MemoryOK.l0 k (wrap64 (x3 + 1)) x150000)) else (none)) else (none)) else (spec_MemoryOK.l0 k (wrap64 (x3 + 1)) x150000)) else (some false)) else (some false))) else (some false))) else (none)) else (some true)
def spec_MemoryOK.f (k : Nat) (l0_0 : List (S55)) : Option (Bool) := if (l0_0.length : Int) > 32 then (some false) else (spec_MemoryOK.l0 k 0 l0_0)
theorem spec_MemoryOK.mono_l : ∀ k, (∀ y0 y1, LeO (spec_MemoryOK.l0 k y0 y1) (spec_MemoryOK.l0 (k + 1) y0 y1))
  | 0 => fun _ _ r h => by simp [spec_MemoryOK.l0] at h
  | k + 1 => by
    have ih0 := spec_MemoryOK.mono_l k
    · intro y0 y1
      unfold spec_MemoryOK.l0
      repeat' first
      | (with_reducible exact ih0 _ _)
      | (with_reducible exact LeO.refl _)
      | (with_reducible exact LeO.none _)
      | (with_reducible refine LeO.ite ?_ ?_)
      | (with_reducible refine LeO.bind ?_ (fun _ => ?_))
      | exact ih0 _ _
      | exact LeO.none _
      | refine LeO.ite ?_ ?_
      | refine LeO.bind ?_ (fun _ => ?_)
theorem spec_MemoryOK.mono : ∀ a0 k, LeO (spec_MemoryOK.f k a0) (spec_MemoryOK.f (k + 1) a0) := by
  intro a0 k
  have ih0 := spec_MemoryOK.mono_l k
  unfold spec_MemoryOK.f
  repeat' first
      | (with_reducible exact ih0 _ _)
      | (with_reducible exact LeO.refl _)
      | (with_reducible exact LeO.none _)
      | (with_reducible refine LeO.ite ?_ ?_)
      | (with_reducible refine LeO.bind ?_ (fun _ => ?_))
      | exact ih0 _ _
      | exact LeO.none _
      | refine LeO.ite ?_ ?_
      | refine LeO.bind ?_ (fun _ => ?_)
set_option maxHeartbeats 8000000 in
set_option maxRecDepth 100000 in
theorem spec_MemoryOK.calls (k : Nat) (A0_0 : Option Addr) (c0_0 : Nat) (l0_0 : List (S55)) (r : Bool) (w : World) (hr0_0 : Kd.C k55 w A0_0 l0_0.length l0_0) (hc0_0 : l0_0.length ≤ c0_0) (h : spec_MemoryOK.f k l0_0 = some r) :
    Calls Try.prog 18 #[.agg #[.slice A0_0 l0_0.length c0_0]] w fun e w' => e = .returned (.bool r) ∧ Below w.heap.size w w' := by
  have hu28 := Try.underlying28
  have hu55 := Try.underlying55
  have hmax := hr0_0.2.1
  have HR := Aside0.mk hr0_0
  unfold spec_MemoryOK.f at h
  clear hr0_0 hc0_0
  by_cases c0 : (l0_0.length : Int) > 32
  · rw [if_pos c0] at h
    obtain rfl := Option.some.inj h
    have d0 : decide ((32 : Int) < (l0_0.length : Int)) = true := decide_eq_true c0
    clear h
    go_enter Try.func18, Try.ntmps18
    go_wp2
    go_ret
    exact ⟨rfl, below_alloc (Below.refl _ _) _⟩
  rw [if_neg c0] at h
  have d0 : decide ((32 : Int) < (l0_0.length : Int)) = false := decide_eq_false c0
  have HS := Aside0.mk h
  clear h c0
  go_enter Try.func18, Try.ntmps18
  go_wp2
  go_loopg [3] k (fun kq v w' => ∃ i : Nat, v = .int .i64 i ∧ Aside0 (spec_MemoryOK.l0 kq (i : Int) l0_0 = some r) ∧ Aside0 (kq ≤ k) ∧ Aside0 (w'.heap[w.heap.size]? = some (.cells #[.slice A0_0 l0_0.length c0_0] 28 (0, 0))) ∧ Aside0 (Below w.heap.size w w'))
  case atStart => exact ⟨0, rfl, HS, ⟨Nat.le_refl _⟩, ⟨blk_new _ _⟩, ⟨below_alloc (Below.refl _ _) _⟩⟩
  case round =>
    clear HS
    obtain ⟨i, rfl, HA, HK1, HX, HB⟩ := hrel
    cases gk with
    | zero => exact absurd HA.out (by simp [spec_MemoryOK.l0])
    | succ k1 =>
      have H := HA.out
      clear HA
      simp only [spec_MemoryOK.l0] at H
      have hbx : wr.cell? ⟨w.heap.size, 0, none⟩ = some (.slice A0_0 l0_0.length c0_0) := (blk_cell HX.out 0).trans rfl
      by_cases c1 : (i : Int) < (l0_0.length : Int)
      · rw [if_pos c1, if_pos (by omega)] at H
        obtain ⟨ad, ea, x0, x1, x2⟩ := at_T55 HR.out (i : Int) (by omega) c1
        have hw0 := Aside0.mk x0
        clear x0
        have x0 := pw_cell_below HB.out hw0.out
        replace x1 := pw_cell_below HB.out x1
        replace x2 := pw_cell_below HB.out x2
        rw [Int.toNat_natCast] at x0 x1 x2
        cases ea
        have HB2 := Aside0.mk (below_step HB.out (below_alloc (Below.refl _ _) (.cells #[.int .i64 (rd_T55 l0_0 (i : Int)).f0, .int .i64 (rd_T55 l0_0 (i : Int)).f1, .string (rd_T55 l0_0 (i : Int)).f2] 55)))
        have HX2 := Aside0.mk (blk_below HX.out (below_alloc (Below.refl _ _) (.cells #[.int .i64 (rd_T55 l0_0 (i : Int)).f0, .int .i64 (rd_T55 l0_0 (i : Int)).f1, .string (rd_T55 l0_0 (i : Int)).f2] 55)))
        have BN := Aside0.mk (blk_new wr (.cells #[.int .i64 (rd_T55 l0_0 (i : Int)).f0, .int .i64 (rd_T55 l0_0 (i : Int)).f1, .string (rd_T55 l0_0 (i : Int)).f2] 55))
        obtain ⟨t1, h1, H⟩ := Option.bind_eq_some_iff.mp H
        have H1 := Aside0.mk h1
        clear h1
        cases t1 with
        | false =>
          rw [if_neg (by decide)] at H
          obtain rfl := Option.some.inj H
          clear H
          go_wp2_with fail
          have m0 := (blk_cell BN.out 0).trans (show _ = some (Value.int .i64 (rd_T55 l0_0 (i : Int)).f0) from rfl)
          have m1 := (blk_cell BN.out 1).trans (show _ = some (Value.int .i64 (rd_T55 l0_0 (i : Int)).f1) from rfl)
          have m2 := (blk_cell BN.out 2).trans (show _ = some (Value.string (rd_T55 l0_0 (i : Int)).f2) from rfl)
          have m3 := (blk_cell HX2.out 0).trans (show _ = some (Value.slice (some ad) l0_0.length c0_0) from rfl)
          clear x0 x1 x2 hbx BN
          generalize wr.alloc (.cells #[.int .i64 (rd_T55 l0_0 (i : Int)).f0, .int .i64 (rd_T55 l0_0 (i : Int)).f1, .string (rd_T55 l0_0 (i : Int)).f2] 55) = w2 at *
          go_quiet ((go_at_call 33; exact Calls.quiet_of ((spec_l02Base.calls _ _ _ H1.out).mono fun _ _ ⟨he, ⟨m⟩⟩ => ⟨he, m⟩)))
          go_wp2_with fail
          go_ret
          exact ⟨rfl, by repeat (first | exact HB2.out | apply pw_below_drewN | apply below_drew1)⟩
        | true =>
          rw [if_pos rfl] at H
          obtain ⟨t2, h2, H⟩ := Option.bind_eq_some_iff.mp H
          have H2 := Aside0.mk h2
          clear h2
          cases t2 with
          | false =>
            rw [if_neg (by decide)] at H
            obtain rfl := Option.some.inj H
            clear H
            go_wp2_with fail
            have m0 := (blk_cell BN.out 0).trans (show _ = some (Value.int .i64 (rd_T55 l0_0 (i : Int)).f0) from rfl)
            have m1 := (blk_cell BN.out 1).trans (show _ = some (Value.int .i64 (rd_T55 l0_0 (i : Int)).f1) from rfl)
            have m2 := (blk_cell BN.out 2).trans (show _ = some (Value.string (rd_T55 l0_0 (i : Int)).f2) from rfl)
            have m3 := (blk_cell HX2.out 0).trans (show _ = some (Value.slice (some ad) l0_0.length c0_0) from rfl)
            clear x0 x1 x2 hbx BN
            generalize wr.alloc (.cells #[.int .i64 (rd_T55 l0_0 (i : Int)).f0, .int .i64 (rd_T55 l0_0 (i : Int)).f1, .string (rd_T55 l0_0 (i : Int)).f2] 55) = w2 at *
            go_quiet ((first | (go_at_call 33; exact Calls.quiet_of ((spec_l02Base.calls _ _ _ H1.out).mono fun _ _ ⟨he, ⟨m⟩⟩ => ⟨he, m⟩)) | (go_at_call 34; exact Calls.quiet_of ((spec_l02Perm.calls _ _ _ H2.out).mono fun _ _ ⟨he, ⟨m⟩⟩ => ⟨he, m⟩))))
            go_wp2_with fail
            go_ret
            exact ⟨rfl, by repeat (first | exact HB2.out | apply pw_below_drewN | apply below_drew1)⟩
          | true =>
            rw [if_pos rfl] at H
            by_cases c3 : ((rd_T55 l0_0 (i : Int)).f2.size : Int) = 256
            · rw [if_pos c3] at H
              have d3 : (((rd_T55 l0_0 (i : Int)).f2.size : Int) != 256) = false := bne_eq_false_iff_eq.mpr c3
              have d3' : (((rd_T55 l0_0 (i : Int)).f2.size : Int) == 256) = true := beq_iff_eq.mpr c3
              clear c3
              by_cases c4 : (i : Int) > 0
              · have ew : wrap64 ((i : Int) - 1) = ((i - 1 : Nat) : Int) := by unfold wrap64; omega
                rw [if_pos c4, ew, if_pos (by omega), if_pos (by omega)] at H
                have d4 : decide ((0 : Int) < (i : Int)) = true := decide_eq_true c4
                have d4n : decide (0 < i) = true := decide_eq_true (by omega)
                obtain ⟨ad', ea', y0, y1, y2⟩ := at_T55 HR.out ((i - 1 : Nat) : Int) (by omega) (by omega)
                have hy0 := Aside0.mk y0
                clear y0 y1 y2
                have y0 := pw_cell_below HB2.out hy0.out
                rw [Int.toNat_natCast] at y0
                obtain rfl : ad = ad' := by injection ea'
                clear ea' hy0 hw0
                have p0 : 0 ≤ (i : Int) - 1 := by omega
                have p1 : (i : Int) - 1 < (l0_0.length : Int) := by omega
                have p2 : ((i : Int) - 1).toNat = i - 1 := by omega
                by_cases c5 : (rd_T55 l0_0 (i : Int)).f0 ≤ (rd_T55 l0_0 ((i - 1 : Nat) : Int)).f0
                · rw [if_pos c5] at H
                  obtain rfl := Option.some.inj H
                  have d5 : decide ((rd_T55 l0_0 (i : Int)).f0 ≤ (rd_T55 l0_0 ((i - 1 : Nat) : Int)).f0) = true := decide_eq_true c5
                  clear H c5
                  go_wp2_with fail
                  have m0 := (blk_cell BN.out 0).trans (show _ = some (Value.int .i64 (rd_T55 l0_0 (i : Int)).f0) from rfl)
                  have m1 := (blk_cell BN.out 1).trans (show _ = some (Value.int .i64 (rd_T55 l0_0 (i : Int)).f1) from rfl)
                  have m2 := (blk_cell BN.out 2).trans (show _ = some (Value.string (rd_T55 l0_0 (i : Int)).f2) from rfl)
                  have m3 := (blk_cell HX2.out 0).trans (show _ = some (Value.slice (some ad) l0_0.length c0_0) from rfl)
                  clear x0 x1 x2 hbx BN
                  generalize wr.alloc (.cells #[.int .i64 (rd_T55 l0_0 (i : Int)).f0, .int .i64 (rd_T55 l0_0 (i : Int)).f1, .string (rd_T55 l0_0 (i : Int)).f2] 55) = w2 at *
                  go_quiet ((first | (go_at_call 33; exact Calls.quiet_of ((spec_l02Base.calls _ _ _ H1.out).mono fun _ _ ⟨he, ⟨m⟩⟩ => ⟨he, m⟩)) | (go_at_call 34; exact Calls.quiet_of ((spec_l02Perm.calls _ _ _ H2.out).mono fun _ _ ⟨he, ⟨m⟩⟩ => ⟨he, m⟩))))
                  go_wp2_with fail
                  go_ret
                  exact ⟨rfl, by repeat (first | exact HB2.out | apply pw_below_drewN | apply below_drew1)⟩
                · rw [if_neg c5] at H
                  have d5 : decide ((rd_T55 l0_0 (i : Int)).f0 ≤ (rd_T55 l0_0 ((i - 1 : Nat) : Int)).f0) = false := decide_eq_false c5
                  rw [show wrap64 ((i : Int) + 1) = ((i + 1 : Nat) : Int) by unfold wrap64; omega] at H
                  have HN := Aside0.mk H
                  clear H c5
                  go_wp2_with fail
                  have m0 := (blk_cell BN.out 0).trans (show _ = some (Value.int .i64 (rd_T55 l0_0 (i : Int)).f0) from rfl)
                  have m1 := (blk_cell BN.out 1).trans (show _ = some (Value.int .i64 (rd_T55 l0_0 (i : Int)).f1) from rfl)
                  have m2 := (blk_cell BN.out 2).trans (show _ = some (Value.string (rd_T55 l0_0 (i : Int)).f2) from rfl)
                  have m3 := (blk_cell HX2.out 0).trans (show _ = some (Value.slice (some ad) l0_0.length c0_0) from rfl)
                  clear x0 x1 x2 hbx BN
                  generalize wr.alloc (.cells #[.int .i64 (rd_T55 l0_0 (i : Int)).f0, .int .i64 (rd_T55 l0_0 (i : Int)).f1, .string (rd_T55 l0_0 (i : Int)).f2] 55) = w2 at *
                  go_quiet ((first | (go_at_call 33; exact Calls.quiet_of ((spec_l02Base.calls _ _ _ H1.out).mono fun _ _ ⟨he, ⟨m⟩⟩ => ⟨he, m⟩)) | (go_at_call 34; exact Calls.quiet_of ((spec_l02Perm.calls _ _ _ H2.out).mono fun _ _ ⟨he, ⟨m⟩⟩ => ⟨he, m⟩))))
                  go_wp2_with fail
                  go_roundg k1
                  case rel => exact ⟨i + 1, by go_num, HN, ⟨by have := HK1.out; omega⟩, ⟨by repeat (first | exact HX2.out | apply blk_drewN | apply blk_drew)⟩, ⟨by repeat (first | exact HB2.out | apply pw_below_drewN | apply below_drew1)⟩⟩
                  case measure => have := HK1.out; omega
              · rw [if_neg c4, show wrap64 ((i : Int) + 1) = ((i + 1 : Nat) : Int) by unfold wrap64; omega] at H
                have d4 : decide ((0 : Int) < (i : Int)) = false := decide_eq_false c4
                have d4n : decide (0 < i) = false := decide_eq_false (by omega)
                have HN := Aside0.mk H
                clear H c4
                go_wp2_with fail
                have m0 := (blk_cell BN.out 0).trans (show _ = some (Value.int .i64 (rd_T55 l0_0 (i : Int)).f0) from rfl)
                have m1 := (blk_cell BN.out 1).trans (show _ = some (Value.int .i64 (rd_T55 l0_0 (i : Int)).f1) from rfl)
                have m2 := (blk_cell BN.out 2).trans (show _ = some (Value.string (rd_T55 l0_0 (i : Int)).f2) from rfl)
                have m3 := (blk_cell HX2.out 0).trans (show _ = some (Value.slice (some ad) l0_0.length c0_0) from rfl)
                clear x0 x1 x2 hbx BN
                generalize wr.alloc (.cells #[.int .i64 (rd_T55 l0_0 (i : Int)).f0, .int .i64 (rd_T55 l0_0 (i : Int)).f1, .string (rd_T55 l0_0 (i : Int)).f2] 55) = w2 at *
                go_quiet ((first | (go_at_call 33; exact Calls.quiet_of ((spec_l02Base.calls _ _ _ H1.out).mono fun _ _ ⟨he, ⟨m⟩⟩ => ⟨he, m⟩)) | (go_at_call 34; exact Calls.quiet_of ((spec_l02Perm.calls _ _ _ H2.out).mono fun _ _ ⟨he, ⟨m⟩⟩ => ⟨he, m⟩))))
                go_wp2_with fail
                go_roundg k1
                case rel => exact ⟨i + 1, by go_num, HN, ⟨by have := HK1.out; omega⟩, ⟨by repeat (first | exact HX2.out | apply blk_drewN | apply blk_drew)⟩, ⟨by repeat (first | exact HB2.out | apply pw_below_drewN | apply below_drew1)⟩⟩
                case measure => have := HK1.out; omega
            · rw [if_neg c3] at H
              obtain rfl := Option.some.inj H
              have d3 : (((rd_T55 l0_0 (i : Int)).f2.size : Int) != 256) = true := bne_iff_ne.mpr c3
              have d3' : (((rd_T55 l0_0 (i : Int)).f2.size : Int) == 256) = false := beq_eq_false_iff_ne.mpr c3
              clear H c3
              go_wp2_with fail
              have m0 := (blk_cell BN.out 0).trans (show _ = some (Value.int .i64 (rd_T55 l0_0 (i : Int)).f0) from rfl)
              have m1 := (blk_cell BN.out 1).trans (show _ = some (Value.int .i64 (rd_T55 l0_0 (i : Int)).f1) from rfl)
              have m2 := (blk_cell BN.out 2).trans (show _ = some (Value.string (rd_T55 l0_0 (i : Int)).f2) from rfl)
              have m3 := (blk_cell HX2.out 0).trans (show _ = some (Value.slice (some ad) l0_0.length c0_0) from rfl)
              clear x0 x1 x2 hbx BN
              generalize wr.alloc (.cells #[.int .i64 (rd_T55 l0_0 (i : Int)).f0, .int .i64 (rd_T55 l0_0 (i : Int)).f1, .string (rd_T55 l0_0 (i : Int)).f2] 55) = w2 at *
              go_quiet ((first | (go_at_call 33; exact Calls.quiet_of ((spec_l02Base.calls _ _ _ H1.out).mono fun _ _ ⟨he, ⟨m⟩⟩ => ⟨he, m⟩)) | (go_at_call 34; exact Calls.quiet_of ((spec_l02Perm.calls _ _ _ H2.out).mono fun _ _ ⟨he, ⟨m⟩⟩ => ⟨he, m⟩))))
              go_wp2_with fail
              go_ret
              exact ⟨rfl, by repeat (first | exact HB2.out | apply pw_below_drewN | apply below_drew1)⟩
      · rw [if_neg c1] at H
        have HE := Aside0.mk (Option.some.inj H)
        clear H
        go_wp2
        go_ret
        exact ⟨by rw [← HE.out]; first | rfl | (simp; done), HB.out⟩


/-! ### spec_l02Own: function 36 -/
def spec_l02Own.f (l0_0 : List (S55)) : Option ((List (S55))) := (some (([] : List (S55)) : List (S55))).bind fun y151 => (if y151.length + l0_0.length < 4398046511104 then (some (y151 ++ l0_0)) else (none))
set_option maxHeartbeats 8000000 in
set_option maxRecDepth 100000 in
theorem spec_l02Own.calls (A0_0 : Option Addr) (c0_0 : Nat) (l0_0 : List (S55)) (r : List (S55)) (w : World) (hr0_0 : Kd.C k55 w A0_0 l0_0.length l0_0) (hc0_0 : l0_0.length ≤ c0_0) (h : spec_l02Own.f l0_0 = some r) :
    Calls Try.prog 36 #[.agg #[.slice A0_0 l0_0.length c0_0]] w fun e w' => ∃ v0_ : Value, e = .returned (.agg #[v0_]) ∧ Kd.R k55 55 w' w.heap.size (fun _ => True) v0_ r ∧ Below w.heap.size w w' := by
  have hu28 := Try.underlying28
  have HR0_0 := Aside0.mk hr0_0
  have HC0_0 := Aside0.mk hc0_0
  clear hr0_0 hc0_0
  have HB := Aside0.mk (Below.refl w.heap.size w)
  have H : ((some (([] : List (S55)) : List (S55))).bind fun y151 => (if y151.length + l0_0.length < 4398046511104 then (some (y151 ++ l0_0)) else (none))) = some r := h
  clear h
  obtain ⟨y151, hy151⟩ : ∃ y_ : List (S55), y_ = (([] : List (S55))) := ⟨_, rfl⟩
  replace H : (if y151.length + l0_0.length < 4398046511104 then (some (y151 ++ l0_0)) else (none)) = some r := by first | (rw [hy151]; with_reducible exact H) | (have H2_ := (Option.bind_some _ _).symm.trans H; rw [hy151]; with_reducible exact H2_) | (have H2_ := (Option.bind_some _ _).symm.trans H; with_reducible exact H2_) | with_reducible exact H | (rw [hy151]; exact H) | exact H
  have Ny151 := Aside0.mk hy151
  clear hy151
  by_cases c2 : y151.length + l0_0.length < 4398046511104
  · rw [if_pos c2] at H
    have LMc2 := Aside0.mk c2
    clear c2
    obtain ⟨y154, hy154⟩ : ∃ y_ : List (S55), y_ = (y151 ++ l0_0) := ⟨_, rfl⟩
    replace H : (some y154) = some r := by first | (rw [hy154]; with_reducible exact H) | (have H2_ := (Option.bind_some _ _).symm.trans H; rw [hy154]; with_reducible exact H2_) | (have H2_ := (Option.bind_some _ _).symm.trans H; with_reducible exact H2_) | with_reducible exact H | (rw [hy154]; exact H) | exact H
    have Ny154 := Aside0.mk hy154
    clear hy154
    obtain rfl := Option.some.inj H
    go_enter Try.func36, Try.ntmps36
    go_wp2_with (first | ((with_reducible refine gate_dst (N := 1) rfl ?_); refine box_event ?hg (N := 1) ?hd (cs := #[.slice A0_0 l0_0.length c0_0]) (t := 28) ?hr ?_; (case hd => rfl); (case hg => rfl); (case hr => first | (go_simp; done) | (go_simp; rfl)); intro gb149 hg w3 hbox hb; have n0_ := Aside0.mk (below_step (by repeat (first | (with_reducible first | exact HB.out | apply below_alloc | apply pw_below_drewN | apply below_drew1) | exact HB.out)) hb); have n1_ := Aside0.mk (hbox); have n2_ := Aside0.mk ((by rw [hg]; exact (below_size (by repeat (first | (with_reducible first | exact HB.out | apply below_alloc | apply pw_below_drewN | apply below_drew1) | exact HB.out))) : w.heap.size ≤ gb149)); have n3_ := Aside0.mk ((by rw [hg]; exact (below_size (by repeat (first | (with_reducible first | exact HB.out | apply below_alloc | apply pw_below_drewN | apply below_drew1) | exact HB.out))) : w.heap.size ≤ gb149)); clear HB; have HB := n0_; have BK149 := n1_; have GW149 := n2_; have GE149 := n3_; clear n0_ n1_ n2_ n3_; clear hb hbox hg) | ((with_reducible refine gate_dst (N := 2) rfl ?_); refine box_event ?hg (N := 2) ?hd (cs := #[.slice none 0 0]) (t := 28) ?hr ?_; (case hd => rfl); (case hg => rfl); (case hr => first | (go_simp; done) | (go_simp; rfl)); intro gb150 hg w4 hbox hb; have n0_ := Aside0.mk (blk_below (g := gb149) (o := .cells #[.slice A0_0 l0_0.length c0_0] 28 (0, 0)) (by (with_reducible repeat (first | refine blk_drewN ?_ _ | refine blk_drew ?_ | refine blk_alloc ?_ _)); exact BK149.out) hb); have n1_ := Aside0.mk (below_step (by repeat (first | (with_reducible first | exact HB.out | apply below_alloc | apply pw_below_drewN | apply below_drew1 | refine below_set ?_ GE149.out) | exact HB.out)) hb); have n2_ := Aside0.mk (hbox); have n3_ := Aside0.mk ((by rw [hg]; exact (below_size (by repeat (first | (with_reducible first | exact HB.out | apply below_alloc | apply pw_below_drewN | apply below_drew1 | refine below_set ?_ GE149.out) | exact HB.out))) : w.heap.size ≤ gb150)); have n4_ := Aside0.mk ((by rw [hg]; exact (below_size (by repeat (first | (with_reducible first | exact HB.out | apply below_alloc | apply pw_below_drewN | apply below_drew1 | refine below_set ?_ GE149.out) | exact HB.out))) : w.heap.size ≤ gb150)); have n5_ := Aside0.mk ((by rw [hg]; exact Nat.ne_of_lt (blk_lt (g := gb149) (o := .cells #[.slice A0_0 l0_0.length c0_0] 28 (0, 0)) (by (with_reducible repeat (first | refine blk_drewN ?_ _ | refine blk_drew ?_ | refine blk_alloc ?_ _)); exact BK149.out)) : gb149 ≠ gb150)); have n6_ := Aside0.mk ((by rw [hg]; exact Nat.ne_of_gt (blk_lt (g := gb149) (o := .cells #[.slice A0_0 l0_0.length c0_0] 28 (0, 0)) (by (with_reducible repeat (first | refine blk_drewN ?_ _ | refine blk_drew ?_ | refine blk_alloc ?_ _)); exact BK149.out)) : gb150 ≠ gb149)); clear BK149; clear HB; have BK149 := n0_; have HB := n1_; have BK150 := n2_; have GW150 := n3_; have GE150 := n4_; have NB149_150 := n5_; have NB150_149 := n6_; clear n0_ n1_ n2_ n3_ n4_ n5_ n6_; clear hb hbox hg) | ((with_reducible refine gate_dst (N := 3) rfl ?_); refine Kd.R_lit k55 _ 55 ?hg (N := 3) ?hd (xs := ([] : List (S55))) (inner := []) (ok := fun _ => True) (okp := fun _ => True) ?hr ?hp (fun _ hk => hk) trivial (Below.refl _ _) (Nat.le_refl _) (by simp) ?_; (case hd => rfl); (case hg => rfl); (case hr => first | (go_simp; done) | (go_simp; rfl)); (case hp => exact (Reps.none _ _)); intro v152 w5 ho6 hb hg_ hnew_; clear hg_ hnew_; (first | rw [← Ny151.out] at ho6 | (simp only [Int.reduceToNat] at ho6; rw [← Ny151.out] at ho6)); have n0_ := Aside0.mk (Kd.R_lower ho6 (below_size (by repeat (first | (with_reducible first | exact HB.out | apply below_alloc | apply pw_below_drewN | apply below_drew1 | refine below_set ?_ GE149.out | refine below_set ?_ GE150.out) | exact HB.out)))); have n1_ := Aside0.mk (blk_below (g := gb149) (o := .cells #[.slice A0_0 l0_0.length c0_0] 28 (0, 0)) (by (with_reducible repeat (first | refine blk_drewN ?_ _ | refine blk_drew ?_ | refine blk_alloc ?_ _)); exact BK149.out) hb); have n2_ := Aside0.mk (blk_below (g := gb150) (o := .cells #[.slice none 0 0] 28 (0, 0)) (by (with_reducible repeat (first | refine blk_drewN ?_ _ | refine blk_drew ?_ | refine blk_alloc ?_ _)); exact BK150.out) hb); have n3_ := Aside0.mk (below_step (by repeat (first | (with_reducible first | exact HB.out | apply below_alloc | apply pw_below_drewN | apply below_drew1 | refine below_set ?_ GE149.out | refine below_set ?_ GE150.out) | exact HB.out)) hb); clear BK149; clear BK150; clear HB; have HO153 := n0_; have BK149 := n1_; have BK150 := n2_; have HB := n3_; clear n0_ n1_ n2_ n3_; clear hb ho6; have hnb7 := NB149_150.out; have hnc7 := NB150_149.out; have hcz8_0 : w5.cell? ⟨gb149, 0, none⟩ = some (.slice A0_0 l0_0.length c0_0) := (blk_cell BK149.out 0).trans rfl; have hfz8_0 := blk_frozen BK149.out 0) | ((with_reducible refine gate_builtin (b := .append) (xs := #[.tmp 3, .tmp 5]) rfl ?_); at_builtin; refine Kd.R_append_rows k55 (w0 := w) w.heap.size rfl (.tmp 3) (.tmp 5) 26 55 (.agg #[(.int .i64 0), (.int .i64 0), (.string ⟨#[]⟩)]) 32 rfl Try.underlying26 info55 rfl (by decide) (by omega) v152 y151 l0_0 _ _ _ (fun _ => True) (fun _ => False) rfl rfl ?aO ?aR (fun _ _ h => h) (fun _ h => h.elim) ?aF ?aB ?aS ?aL ?_; (case aR => repeat (first | exact (Kd.C_below HR0_0.out HB.out) | (with_reducible refine Kd.C_alloc ?_ _) | (with_reducible refine Kd.C_drewN ?_ _) | (with_reducible refine Kd.C_drew ?_))); (case aB => exact (by repeat (first | (with_reducible first | exact HB.out | apply below_alloc | apply pw_below_drewN | apply below_drew1 | refine below_set ?_ GE149.out | refine below_set ?_ GE150.out) | exact HB.out))); (case aF => exact (fun _ _ => trivial)); (case aO => exact (by (with_reducible repeat (first | apply Kd.R_alloc | apply Kd.R_drewN | apply Kd.R_drew)); exact HO153.out)); (case aS => exact (below_size (by repeat (first | (with_reducible first | exact HB.out | apply below_alloc | apply pw_below_drewN | apply below_drew1 | refine below_set ?_ GE149.out | refine below_set ?_ GE150.out) | exact HB.out)))); (case aL => have := LMc2.out; omega); intro v155 w9 ho hb hg hat; rw [← Ny154.out] at ho; have n0_ := Aside0.mk (blk_grown (g := gb149) (o := .cells #[.slice A0_0 l0_0.length c0_0] 28 (0, 0)) (by (with_reducible repeat (first | refine blk_drewN ?_ _ | refine blk_drew ?_ | refine blk_alloc ?_ _)); exact BK149.out) hg (Kd.R_ne HO153.out BK149.out (by decide))); have n1_ := Aside0.mk (blk_grown (g := gb150) (o := .cells #[.slice none 0 0] 28 (0, 0)) (by (with_reducible repeat (first | refine blk_drewN ?_ _ | refine blk_drew ?_ | refine blk_alloc ?_ _)); exact BK150.out) hg (Kd.R_ne HO153.out BK150.out (by decide))); have n2_ := Aside0.mk (hb); have n3_ := Aside0.mk (ho); clear BK149; clear BK150; clear HB; clear HO153; have BK149 := n0_; have BK150 := n1_; have HB := n2_; have HO156 := n3_; clear n0_ n1_ n2_ n3_; clear ho hb hg hat; obtain ⟨Ao10, co10, eo10⟩ := Kd.R_slice HO156.out; subst eo10; have hcz11_0 : w9.cell? ⟨gb150, 0, none⟩ = some (.slice none 0 0) := (blk_cell BK150.out 0).trans rfl; have hfz11_0 := blk_frozen BK150.out 0))
    refine bodyPost_ret (results_cell_row rfl _ _ gb150 28 #[.slice Ao10 y154.length co10] (0, 0) _ rfl (by (with_reducible repeat (first | refine blk_drewN ?_ _ | refine blk_drew ?_ | refine blk_alloc ?_ _)); refine blk_put (cs := #[.slice none 0 0]) ?_ 0 _ rfl; (with_reducible repeat (first | refine blk_drewN ?_ _ | refine blk_drew ?_ | refine blk_alloc ?_ _)); exact BK150.out) Try.underlying28 rfl (by kernel_rfl)) rfl ?_
    exact ⟨_, by first | rfl | (simp [errW_none, errW_some] <;> rfl) | (simp [*, errW_none, errW_some] <;> rfl), by (with_reducible repeat (first | apply Kd.R_alloc | apply Kd.R_drewN | apply Kd.R_drew)); exact Kd.R_mono (Kd.R_far (p := ⟨gb150, 0, none⟩) (Kd.R_types HO156.out BK150.out (by decide)) (fun _ hk => hk.2) (.slice Ao10 y154.length co10)) (fun _ hk => trivial), by repeat (first | (with_reducible first | exact HB.out | apply below_alloc | apply pw_below_drewN | apply below_drew1 | refine below_set ?_ GE149.out | refine below_set ?_ GE150.out) | exact HB.out)⟩
  · rw [if_neg c2] at H
    exact absurd H (by simp)

/-! ### spec_l02Find: function 35 -/
def spec_l02Find.l0 : Nat → Int → Int → List (S55) → Option (Int)
  | 0, _, _, _ => none
  | k + 1, x1, x5, x158000 => if x5 < (x158000.length : Int) then (if 0 ≤ x5 then (if ((rd_T55 x158000 x5).f0) ≤ x1 then (if (wrap64 (x1 - ((rd_T55 x158000 x5).f0))) < 256 then (some x5) else (spec_l02Find.l0 k x1 (wrap64 (x5 + 1)) x158000)) else (spec_l02Find.l0 k x1 (wrap64 (x5 + 1)) x158000)) else (none)) else (some (-1))
def spec_l02Find.f (k : Nat) (l0_0 : List (S55)) (a1 : Int) : Option (Int) := spec_l02Find.l0 k a1 0 l0_0
theorem spec_l02Find.mono_l : ∀ k, (∀ y0 y1 y2, LeO (spec_l02Find.l0 k y0 y1 y2) (spec_l02Find.l0 (k + 1) y0 y1 y2))
  | 0 => fun _ _ _ r h => by simp [spec_l02Find.l0] at h
  | k + 1 => by
    have ih0 := spec_l02Find.mono_l k
    · intro y0 y1 y2
      unfold spec_l02Find.l0
      repeat' first
      | (with_reducible exact ih0 _ _ _)
      | (with_reducible exact LeO.refl _)
      | (with_reducible exact LeO.none _)
      | (with_reducible refine LeO.ite ?_ ?_)
      | (with_reducible refine LeO.bind ?_ (fun _ => ?_))
      | exact ih0 _ _ _
      | exact LeO.none _
      | refine LeO.ite ?_ ?_
      | refine LeO.bind ?_ (fun _ => ?_)
theorem spec_l02Find.mono : ∀ a0 a1 k, LeO (spec_l02Find.f k a0 a1) (spec_l02Find.f (k + 1) a0 a1) := by
  intro a0 a1 k
  have ih0 := spec_l02Find.mono_l k
  unfold spec_l02Find.f
  repeat' first
      | (with_reducible exact ih0 _ _ _)
      | (with_reducible exact LeO.refl _)
      | (with_reducible exact LeO.none _)
      | (with_reducible refine LeO.ite ?_ ?_)
      | (with_reducible refine LeO.bind ?_ (fun _ => ?_))
      | exact ih0 _ _ _
      | exact LeO.none _
      | refine LeO.ite ?_ ?_
      | refine LeO.bind ?_ (fun _ => ?_)
set_option maxHeartbeats 8000000 in
set_option maxRecDepth 100000 in
theorem spec_l02Find.calls (k : Nat) (A0_0 : Option Addr) (c0_0 : Nat) (l0_0 : List (S55)) (a1 : Int) (r : Int) (w : World) (hr0_0 : Kd.C k55 w A0_0 l0_0.length l0_0) (hc0_0 : l0_0.length ≤ c0_0) (h : spec_l02Find.f k l0_0 a1 = some r) :
    Calls Try.prog 35 #[.agg #[.slice A0_0 l0_0.length c0_0], .int .i64 a1] w fun e w' => e = .returned (.int .i64 r) ∧ Below w.heap.size w w' := by
  have hu28 := Try.underlying28
  have HR0_0 := Aside0.mk hr0_0
  have HC0_0 := Aside0.mk hc0_0
  clear hr0_0 hc0_0
  have HB := Aside0.mk (Below.refl w.heap.size w)
  have H : (spec_l02Find.l0 k a1 0 l0_0) = some r := h
  clear h
  have H' := Aside0.mk H
  clear H
  go_enter Try.func35, Try.ntmps35
  go_wp2_with (first | ((with_reducible refine gate_dst (N := 2) rfl ?_); refine box_event ?hg (N := 2) ?hd (cs := #[.slice A0_0 l0_0.length c0_0]) (t := 28) ?hr ?_; (case hd => rfl); (case hg => rfl); (case hr => first | (go_simp; done) | (go_simp; rfl)); intro gb157 hg w3 hbox hb; have n0_ := Aside0.mk (below_step (by repeat (first | (with_reducible first | exact HB.out | apply below_alloc | apply pw_below_drewN | apply below_drew1) | exact HB.out)) hb); have n1_ := Aside0.mk (hbox); have n2_ := Aside0.mk ((by rw [hg]; exact (below_size (by repeat (first | (with_reducible first | exact HB.out | apply below_alloc | apply pw_below_drewN | apply below_drew1) | exact HB.out))) : w.heap.size ≤ gb157)); have n3_ := Aside0.mk ((by rw [hg]; exact (below_size (by repeat (first | (with_reducible first | exact HB.out | apply below_alloc | apply pw_below_drewN | apply below_drew1) | exact HB.out))) : w.heap.size ≤ gb157)); clear HB; have HB := n0_; have BK157 := n1_; have GW157 := n2_; have GE157 := n3_; clear n0_ n1_ n2_ n3_; clear hb hbox hg))
  go_loopg [5] k (fun kq v5 w' => ∃ (x5_1 : Int), v5 = .int .i64 x5_1 ∧ Aside0 (spec_l02Find.l0 kq a1 x5_1 l0_0 = some r) ∧ Aside0 (kq ≤ k) ∧ Aside0 (w'.heap[gb157]? = some (.cells #[(.slice A0_0 l0_0.length c0_0)] 28 (0, 0))) ∧ Aside0 (Below w.heap.size w w'))
  case atStart => exact ⟨(0), (by first | rfl | (simp; done) | (simp [*]; done)), H', ⟨Nat.le_refl _⟩, ⟨by (with_reducible repeat (first | refine blk_drewN ?_ _ | refine blk_drew ?_ | refine blk_alloc ?_ _)); exact BK157.out⟩, ⟨by repeat (first | (with_reducible first | exact HB.out | apply below_alloc | apply pw_below_drewN | apply below_drew1 | refine below_set ?_ GE157.out) | exact HB.out)⟩⟩
  case round =>
    clear H'
    try clear p2
    try clear c3
    obtain ⟨x5_1, rfl, HA, HK1, BK157, HB⟩ := hrel
    cases gk with
    | zero => exact absurd HA.out (by simp [spec_l02Find.l0])
    | succ k1 =>
      have H := HA.out
      clear HA
      simp only [spec_l02Find.l0] at H
      by_cases c4 : x5_1 < (l0_0.length : Int)
      · rw [if_pos c4] at H
        have c4b0 : decide (x5_1 < (l0_0.length : Int)) = true := decide_eq_true c4
        clear c4
        by_cases c5 : 0 ≤ x5_1
        · rw [if_pos c5] at H
          have c5b0 : decide (0 ≤ x5_1) = true := decide_eq_true c5
          clear c5
          by_cases c6 : ((rd_T55 l0_0 x5_1).f0) ≤ a1
          · rw [if_pos c6] at H
            have c6b0 : decide (((rd_T55 l0_0 x5_1).f0) ≤ a1) = true := decide_eq_true c6
            clear c6
            by_cases c7 : (wrap64 (a1 - ((rd_T55 l0_0 x5_1).f0))) < 256
            · rw [if_pos c7] at H
              have c7b0 : decide ((wrap64 (a1 - ((rd_T55 l0_0 x5_1).f0))) < 256) = true := decide_eq_true c7
              clear c7
              obtain rfl := Option.some.inj H
              have hcz8_0 : wr.cell? ⟨gb157, 0, none⟩ = some (.slice A0_0 l0_0.length c0_0) := (blk_cell BK157.out 0).trans rfl
              have hfz8_0 := blk_frozen BK157.out 0
              have p158 : 0 ≤ (x5_1 : Int) := of_decide_eq_true (by first | (with_reducible assumption) | assumption)
              have q158 : x5_1 < (l0_0.length : Int) := of_decide_eq_true (by first | (with_reducible assumption) | assumption)
              obtain ⟨ad158, e158, hx158_0, hx158_1, hx158_2⟩ := at_T55 HR0_0.out x5_1 p158 q158
              cases e158
              replace hx158_0 := (HB.out.cell (World.block_lt_of_cell? w _ hx158_0)).trans hx158_0
              replace hx158_1 := (HB.out.cell (World.block_lt_of_cell? w _ hx158_1)).trans hx158_1
              replace hx158_2 := (HB.out.cell (World.block_lt_of_cell? w _ hx158_2)).trans hx158_2
              replace p158 := eq_true p158
              replace q158 := eq_true q158
              have p159 : 0 ≤ (x5_1 : Int) := of_decide_eq_true (by first | (with_reducible assumption) | assumption)
              have q159 : x5_1 < (l0_0.length : Int) := of_decide_eq_true (by first | (with_reducible assumption) | assumption)
              obtain ⟨ad159, e159, hx159_0, hx159_1, hx159_2⟩ := at_T55 HR0_0.out x5_1 p159 q159
              obtain rfl : ad158 = ad159 := (by injection e159)
              replace hx159_0 := (HB.out.cell (World.block_lt_of_cell? w _ hx159_0)).trans hx159_0
              replace hx159_1 := (HB.out.cell (World.block_lt_of_cell? w _ hx159_1)).trans hx159_1
              replace hx159_2 := (HB.out.cell (World.block_lt_of_cell? w _ hx159_2)).trans hx159_2
              replace p159 := eq_true p159
              replace q159 := eq_true q159
              go_wp2
              go_ret
              exact ⟨by first | rfl | (simp [errW_none, errW_some] <;> rfl) | (simp [*, errW_none, errW_some] <;> rfl), by repeat (first | (with_reducible first | exact HB.out | apply below_alloc | apply pw_below_drewN | apply below_drew1 | refine below_set ?_ GE157.out) | exact HB.out)⟩
            · rw [if_neg c7] at H
              have c7b0 : decide ((wrap64 (a1 - ((rd_T55 l0_0 x5_1).f0))) < 256) = false := decide_eq_false c7
              clear c7
              have H' := Aside0.mk H
              clear H
              have hcz9_0 : wr.cell? ⟨gb157, 0, none⟩ = some (.slice A0_0 l0_0.length c0_0) := (blk_cell BK157.out 0).trans rfl
              have hfz9_0 := blk_frozen BK157.out 0
              have p158 : 0 ≤ (x5_1 : Int) := of_decide_eq_true (by first | (with_reducible assumption) | assumption)
              have q158 : x5_1 < (l0_0.length : Int) := of_decide_eq_true (by first | (with_reducible assumption) | assumption)
              obtain ⟨ad158, e158, hx158_0, hx158_1, hx158_2⟩ := at_T55 HR0_0.out x5_1 p158 q158
              cases e158
              replace hx158_0 := (HB.out.cell (World.block_lt_of_cell? w _ hx158_0)).trans hx158_0
              replace hx158_1 := (HB.out.cell (World.block_lt_of_cell? w _ hx158_1)).trans hx158_1
              replace hx158_2 := (HB.out.cell (World.block_lt_of_cell? w _ hx158_2)).trans hx158_2
              replace p158 := eq_true p158
              replace q158 := eq_true q158
              have p159 : 0 ≤ (x5_1 : Int) := of_decide_eq_true (by first | (with_reducible assumption) | assumption)
              have q159 : x5_1 < (l0_0.length : Int) := of_decide_eq_true (by first | (with_reducible assumption) | assumption)
              obtain ⟨ad159, e159, hx159_0, hx159_1, hx159_2⟩ := at_T55 HR0_0.out x5_1 p159 q159
              obtain rfl : ad158 = ad159 := (by injection e159)
              replace hx159_0 := (HB.out.cell (World.block_lt_of_cell? w _ hx159_0)).trans hx159_0
              replace hx159_1 := (HB.out.cell (World.block_lt_of_cell? w _ hx159_1)).trans hx159_1
              replace hx159_2 := (HB.out.cell (World.block_lt_of_cell? w _ hx159_2)).trans hx159_2
              replace p159 := eq_true p159
              replace q159 := eq_true q159
              go_wp2
              go_roundg k1
              case measure => have := HK1.out; omega
              case rel => exact ⟨(wrap64 (x5_1 + 1)), (by first | rfl | (simp; done) | (simp [*]; done)), H', ⟨by have := HK1.out; omega⟩, ⟨by (with_reducible repeat (first | refine blk_drewN ?_ _ | refine blk_drew ?_ | refine blk_alloc ?_ _)); exact BK157.out⟩, ⟨by repeat (first | (with_reducible first | exact HB.out | apply below_alloc | apply pw_below_drewN | apply below_drew1 | refine below_set ?_ GE157.out) | exact HB.out)⟩⟩
          · rw [if_neg c6] at H
            have c6b0 : decide (((rd_T55 l0_0 x5_1).f0) ≤ a1) = false := decide_eq_false c6
            clear c6
            have H' := Aside0.mk H
            clear H
            have hcz10_0 : wr.cell? ⟨gb157, 0, none⟩ = some (.slice A0_0 l0_0.length c0_0) := (blk_cell BK157.out 0).trans rfl
            have hfz10_0 := blk_frozen BK157.out 0
            have p158 : 0 ≤ (x5_1 : Int) := of_decide_eq_true (by first | (with_reducible assumption) | assumption)
            have q158 : x5_1 < (l0_0.length : Int) := of_decide_eq_true (by first | (with_reducible assumption) | assumption)
            obtain ⟨ad158, e158, hx158_0, hx158_1, hx158_2⟩ := at_T55 HR0_0.out x5_1 p158 q158
            cases e158
            replace hx158_0 := (HB.out.cell (World.block_lt_of_cell? w _ hx158_0)).trans hx158_0
            replace hx158_1 := (HB.out.cell (World.block_lt_of_cell? w _ hx158_1)).trans hx158_1
            replace hx158_2 := (HB.out.cell (World.block_lt_of_cell? w _ hx158_2)).trans hx158_2
            replace p158 := eq_true p158
            replace q158 := eq_true q158
            go_wp2
            go_roundg k1
            case measure => have := HK1.out; omega
            case rel => exact ⟨(wrap64 (x5_1 + 1)), (by first | rfl | (simp; done) | (simp [*]; done)), H', ⟨by have := HK1.out; omega⟩, ⟨by (with_reducible repeat (first | refine blk_drewN ?_ _ | refine blk_drew ?_ | refine blk_alloc ?_ _)); exact BK157.out⟩, ⟨by repeat (first | (with_reducible first | exact HB.out | apply below_alloc | apply pw_below_drewN | apply below_drew1 | refine below_set ?_ GE157.out) | exact HB.out)⟩⟩
        · rw [if_neg c5] at H
          exact absurd H (by simp)
      · rw [if_neg c4] at H
        have c4b0 : decide (x5_1 < (l0_0.length : Int)) = false := decide_eq_false c4
        clear c4
        obtain rfl := Option.some.inj H
        have hcz11_0 : wr.cell? ⟨gb157, 0, none⟩ = some (.slice A0_0 l0_0.length c0_0) := (blk_cell BK157.out 0).trans rfl
        have hfz11_0 := blk_frozen BK157.out 0
        go_wp2
        go_ret
        exact ⟨by first | rfl | (simp [errW_none, errW_some] <;> rfl) | (simp [*, errW_none, errW_some] <;> rfl), by repeat (first | (with_reducible first | exact HB.out | apply below_alloc | apply pw_below_drewN | apply below_drew1 | refine below_set ?_ GE157.out) | exact HB.out)⟩

/-! ### spec_l02Has: function 51 -/
mutual
def spec_l02Has.j0 : Nat → Int → Int → Bool → List (S55) → Option (Bool)
  | 0, _, _, _, _ => none
  | k + 1, x1, x2, x14, x161000 => if x14 = true then (some false) else (spec_l02Has.l0 k x1 x2 0 x161000)
def spec_l02Has.l0 : Nat → Int → Int → Int → List (S55) → Option (Bool)
  | 0, _, _, _, _ => none
  | k + 1, x1, x2, x7, x161000 => if x7 < x2 then ((spec_l02Find.f k x161000 (wrap64 (x1 + x7))).bind fun t162 => (if t162 < 0 then (some false) else (spec_l02Has.l0 k x1 x2 (wrap64 (x7 + 1)) x161000))) else (some true)
end
def spec_l02Has.f (k : Nat) (l0_0 : List (S55)) (a1 : Int) (a2 : Int) : Option (Bool) := if a2 > 0 then ((spec_l01In.f a1 0 65535).bind fun t161 => (spec_l02Has.j0 k a1 a2 (!t161) l0_0)) else (spec_l02Has.j0 k a1 a2 false l0_0)
theorem spec_l02Has.mono_l : ∀ k, (∀ y0 y1 y2 y3, LeO (spec_l02Has.j0 k y0 y1 y2 y3) (spec_l02Has.j0 (k + 1) y0 y1 y2 y3)) ∧ (∀ y0 y1 y2 y3, LeO (spec_l02Has.l0 k y0 y1 y2 y3) (spec_l02Has.l0 (k + 1) y0 y1 y2 y3))
  | 0 => ⟨fun _ _ _ _ r h => by simp [spec_l02Has.j0] at h, fun _ _ _ _ r h => by simp [spec_l02Has.l0] at h⟩
  | k + 1 => by
    obtain ⟨ih0, ih1⟩ := spec_l02Has.mono_l k
    refine ⟨?_, ?_⟩
    · intro y0 y1 y2 y3
      unfold spec_l02Has.j0
      repeat' first
      | (with_reducible exact ih0 _ _ _ _)
      | (with_reducible exact ih1 _ _ _ _)
      | (with_reducible exact spec_l02Find.mono _ _ _)
      | (with_reducible exact LeO.refl _)
      | (with_reducible exact LeO.none _)
      | (with_reducible refine LeO.ite ?_ ?_)
      | (with_reducible refine LeO.bind ?_ (fun _ => ?_))
      | exact ih0 _ _ _ _
      | exact ih1 _ _ _ _
      | exact spec_l02Find.mono _ _ _
      | exact LeO.none _
      | refine LeO.ite ?_ ?_
      | refine LeO.bind ?_ (fun _ => ?_)
    · intro y0 y1 y2 y3
      unfold spec_l02Has.l0
      repeat' first
      | (with_reducible exact ih0 _ _ _ _)
      | (with_reducible exact ih1 _ _ _ _)
      | (with_reducible exact spec_l02Find.mono _ _ _)
      | (with_reducible exact LeO.refl _)
      | (with_reducible exact LeO.none _)
      | (with_reducible refine LeO.ite ?_ ?_)
      | (with_reducible refine LeO.bind ?_ (fun _ => ?_))
      | exact ih0 _ _ _ _
      | exact ih1 _ _ _ _
      | exact spec_l02Find.mono _ _ _
      | exact LeO.none _
      | refine LeO.ite ?_ ?_
      | refine LeO.bind ?_ (fun _ => ?_)
theorem spec_l02Has.mono : ∀ a0 a1 a2 k, LeO (spec_l02Has.f k a0 a1 a2) (spec_l02Has.f (k + 1) a0 a1 a2) := by
  intro a0 a1 a2 k
  obtain ⟨ih0, ih1⟩ := spec_l02Has.mono_l k
  unfold spec_l02Has.f
  repeat' first
      | (with_reducible exact ih0 _ _ _ _)
      | (with_reducible exact ih1 _ _ _ _)
      | (with_reducible exact spec_l02Find.mono _ _ _)
      | (with_reducible exact LeO.refl _)
      | (with_reducible exact LeO.none _)
      | (with_reducible refine LeO.ite ?_ ?_)
      | (with_reducible refine LeO.bind ?_ (fun _ => ?_))
      | exact ih0 _ _ _ _
      | exact ih1 _ _ _ _
      | exact spec_l02Find.mono _ _ _
      | exact LeO.none _
      | refine LeO.ite ?_ ?_
      | refine LeO.bind ?_ (fun _ => ?_)
set_option maxHeartbeats 8000000 in
set_option maxRecDepth 100000 in
theorem spec_l02Has.calls (k : Nat) (A0_0 : Option Addr) (c0_0 : Nat) (l0_0 : List (S55)) (a1 : Int) (a2 : Int) (r : Bool) (w : World) (hr0_0 : Kd.C k55 w A0_0 l0_0.length l0_0) (hc0_0 : l0_0.length ≤ c0_0) (h : spec_l02Has.f k l0_0 a1 a2 = some r) :
    Calls Try.prog 51 #[.agg #[.slice A0_0 l0_0.length c0_0], .int .i64 a1, .int .i64 a2] w fun e w' => e = .returned (.bool r) ∧ Below w.heap.size w w' := by
  have hu28 := Try.underlying28
  have HR0_0 := Aside0.mk hr0_0
  have HC0_0 := Aside0.mk hc0_0
  clear hr0_0 hc0_0
  have HB := Aside0.mk (Below.refl w.heap.size w)
  have H : (if a2 > 0 then ((spec_l01In.f a1 0 65535).bind fun t161 => (spec_l02Has.j0 k a1 a2 (!t161) l0_0)) else (spec_l02Has.j0 k a1 a2 false l0_0)) = some r := h
  clear h
  have HC4 := Aside0.mk H
  clear H
  go_enter Try.func51, Try.ntmps51
  go_upto_region 1 with (first | ((with_reducible refine gate_dst (N := 3) rfl ?_); refine box_event ?hg (N := 3) ?hd (cs := #[.slice A0_0 l0_0.length c0_0]) (t := 28) ?hr ?_; (case hd => rfl); (case hg => rfl); (case hr => first | (go_simp; done) | (go_simp; rfl)); intro gb160 hg w5 hbox hb; have n0_ := Aside0.mk (below_step (by repeat (first | (with_reducible first | exact HB.out | apply below_alloc | apply pw_below_drewN | apply below_drew1) | exact HB.out)) hb); have n1_ := Aside0.mk (hbox); have n2_ := Aside0.mk ((by rw [hg]; exact (below_size (by repeat (first | (with_reducible first | exact HB.out | apply below_alloc | apply pw_below_drewN | apply below_drew1) | exact HB.out))) : w.heap.size ≤ gb160)); have n3_ := Aside0.mk ((by rw [hg]; exact (below_size (by repeat (first | (with_reducible first | exact HB.out | apply below_alloc | apply pw_below_drewN | apply below_drew1) | exact HB.out))) : w.heap.size ≤ gb160)); clear HB; have HB := n0_; have BK160 := n1_; have GW160 := n2_; have GE160 := n3_; clear n0_ n1_ n2_ n3_; clear hb hbox hg))
  (try simp only [Act.put, List.setIfInBounds_toArray, List.set_cons_zero, List.set_cons_succ])
  go_cut [14] (fun v14 wc => ∃ (kq : Nat) (x14_3 : Bool), v14 = .bool x14_3 ∧ Aside0 (spec_l02Has.j0 kq a1 a2 x14_3 l0_0 = some r) ∧ Aside0 (kq ≤ k) ∧ Aside0 (wc.heap[gb160]? = some (.cells #[(.slice A0_0 l0_0.length c0_0)] 28 (0, 0))) ∧ Aside0 (Below w.heap.size w wc))
  case first =>
    have H := HC4.out
    clear HC4
    by_cases c6 : a2 > 0
    · rw [if_pos c6] at H
      have c6b0 : decide (0 < a2) = true := decide_eq_true c6
      clear c6
      (first | rw [c6b0] | (simp only [i64_w, i32_w]; rw [c6b0]) | skip)
      replace H := Option.bind_eq_some_iff.mp H
      obtain ⟨t161, A70, H⟩ := H
      replace H : (spec_l02Has.j0 k a1 a2 (!t161) l0_0) = some r := H
      have A7 := Aside0.mk A70
      clear A70
      have H' := Aside0.mk H
      clear H
      go_wp2_with (first | (go_at_call 50; (with_reducible refine (spec_l01In.calls a1 0 65535 t161 _ A7.out).mono ?_); rintro e w' ⟨rfl, ⟨nd, rfl⟩⟩))
      go_meet
      case rel => exact ⟨_, (!t161), (by first | rfl | (simp; done) | (simp [*]; done)), H', ⟨by first | omega | exact Nat.le_refl _⟩, ⟨by (with_reducible repeat (first | refine blk_drewN ?_ _ | refine blk_drew ?_ | refine blk_alloc ?_ _)); exact BK160.out⟩, ⟨by repeat (first | (with_reducible first | exact HB.out | apply below_alloc | apply pw_below_drewN | apply below_drew1 | refine below_set ?_ GE160.out) | exact HB.out)⟩⟩
    · rw [if_neg c6] at H
      have c6b0 : decide (0 < a2) = false := decide_eq_false c6
      clear c6
      (first | rw [c6b0] | (simp only [i64_w, i32_w]; rw [c6b0]) | skip)
      have H' := Aside0.mk H
      clear H
      go_wp2
      go_meet
      case rel => exact ⟨_, (false), (by first | rfl | (simp; done) | (simp [*]; done)), H', ⟨by first | omega | exact Nat.le_refl _⟩, ⟨by (with_reducible repeat (first | refine blk_drewN ?_ _ | refine blk_drew ?_ | refine blk_alloc ?_ _)); exact BK160.out⟩, ⟨by repeat (first | (with_reducible first | exact HB.out | apply below_alloc | apply pw_below_drewN | apply below_drew1 | refine below_set ?_ GE160.out) | exact HB.out)⟩⟩
  case rest =>
    clear HC4
    try clear p2
    try clear c5
    try clear c6
    try clear c6b0
    obtain ⟨kq, x14_3, rfl, HA, HJ3, BK160, HB⟩ := hcut
    cases kq with
    | zero => exact absurd HA.out (by simp [spec_l02Has.j0])
    | succ kj3 =>
      have H := HA.out
      clear HA
      simp only [spec_l02Has.j0] at H
      by_cases c8 : x14_3 = true
      · subst c8
        have H1 : (some false) = some r := by rw [if_pos rfl] at H; exact H
        clear H
        have H := H1
        clear H1
        obtain rfl := Option.some.inj H
        go_wp2
        go_ret
        exact ⟨by first | rfl | (simp [errW_none, errW_some] <;> rfl) | (simp [*, errW_none, errW_some] <;> rfl), by repeat (first | (with_reducible first | exact HB.out | apply below_alloc | apply pw_below_drewN | apply below_drew1 | refine below_set ?_ GE160.out) | exact HB.out)⟩
      · replace c8 := Bool.eq_false_iff.mpr c8
        subst c8
        have H1 : (spec_l02Has.l0 kj3 a1 a2 0 l0_0) = some r := by rw [if_neg (show ¬ (false = true) by decide)] at H; exact H
        clear H
        have H := H1
        clear H1
        have H' := Aside0.mk H
        clear H
        go_wp2
        go_loopg [7] kj3 (fun kq v7 w' => ∃ (x7_2 : Int), v7 = .int .i64 x7_2 ∧ Aside0 (spec_l02Has.l0 kq a1 a2 x7_2 l0_0 = some r) ∧ Aside0 (kq ≤ kj3) ∧ Aside0 (w'.heap[gb160]? = some (.cells #[(.slice A0_0 l0_0.length c0_0)] 28 (0, 0))) ∧ Aside0 (Below w.heap.size w w'))
        case atStart => exact ⟨(0), (by first | rfl | (simp; done) | (simp [*]; done)), H', ⟨Nat.le_refl _⟩, ⟨by (with_reducible repeat (first | refine blk_drewN ?_ _ | refine blk_drew ?_ | refine blk_alloc ?_ _)); exact BK160.out⟩, ⟨by repeat (first | (with_reducible first | exact HB.out | apply below_alloc | apply pw_below_drewN | apply below_drew1 | refine below_set ?_ GE160.out) | exact HB.out)⟩⟩
        case round =>
          clear H'
          try clear p2
          try clear c5
          try clear c6
          try clear c6b0
          try clear c8
          try clear p2
          obtain ⟨x7_2, rfl, HA, HK2, BK160, HB⟩ := hrel
          cases gk with
          | zero => exact absurd HA.out (by simp [spec_l02Has.l0])
          | succ k2 =>
            have H := HA.out
            clear HA
            simp only [spec_l02Has.l0] at H
            by_cases c9 : x7_2 < a2
            · rw [if_pos c9] at H
              have c9b0 : decide (x7_2 < a2) = true := decide_eq_true c9
              clear c9
              replace H := Option.bind_eq_some_iff.mp H
              obtain ⟨t162, A100, H⟩ := H
              replace H : (if t162 < 0 then (some false) else (spec_l02Has.l0 k2 a1 a2 (wrap64 (x7_2 + 1)) l0_0)) = some r := H
              have A10 := Aside0.mk A100
              clear A100
              by_cases c11 : t162 < 0
              · rw [if_pos c11] at H
                have c11b0 : decide (t162 < 0) = true := decide_eq_true c11
                clear c11
                obtain rfl := Option.some.inj H
                have hcz12_0 : wr.cell? ⟨gb160, 0, none⟩ = some (.slice A0_0 l0_0.length c0_0) := (blk_cell BK160.out 0).trans rfl
                have hfz12_0 := blk_frozen BK160.out 0
                go_wp2_with (first | ((with_reducible refine gate_callee (f := 35) rfl ?_); refine goesL_ (some 24) rfl rfl Try.func35 (by kernel_rfl) rfl #[.agg #[.slice A0_0 l0_0.length c0_0], .int .i64 (wrap64 (a1 + x7_2))] rfl (by (try simp only [List.map_toArray, List.map_cons, List.map_nil]); first | done | rfl | (simp only [List.length_drop, List.length_take]; rfl)) ?_; (with_reducible refine (spec_l02Find.calls k2 _ _ l0_0 (wrap64 (a1 + x7_2)) t162 _ ?side1 ?side2 A10.out).mono ?_); (case side1 => repeat (first | exact (Kd.C_below HR0_0.out HB.out) | (with_reducible refine Kd.C_alloc ?_ _) | (with_reducible refine Kd.C_drewN ?_ _) | (with_reducible refine Kd.C_drew ?_))); (case side2 => exact HC0_0.out); rintro e w13 ⟨rfl, hb⟩; refine ⟨_, rfl, ?_⟩; have n0_ := Aside0.mk (blk_below (g := gb160) (o := .cells #[.slice A0_0 l0_0.length c0_0] 28 (0, 0)) (by (with_reducible repeat (first | refine blk_drewN ?_ _ | refine blk_drew ?_ | refine blk_alloc ?_ _)); exact BK160.out) hb); have n1_ := Aside0.mk (below_step (by repeat (first | (with_reducible first | exact HB.out | apply below_alloc | apply pw_below_drewN | apply below_drew1 | refine below_set ?_ GE160.out) | exact HB.out)) hb); clear BK160; clear HB; have BK160 := n0_; have HB := n1_; clear n0_ n1_; (try clear hb); (try clear hb2); (try clear hk); (try clear hi)))
                go_ret
                exact ⟨by first | rfl | (simp [errW_none, errW_some] <;> rfl) | (simp [*, errW_none, errW_some] <;> rfl), by repeat (first | (with_reducible first | exact HB.out | apply below_alloc | apply pw_below_drewN | apply below_drew1 | refine below_set ?_ GE160.out) | exact HB.out)⟩
              · rw [if_neg c11] at H
                have c11b0 : decide (t162 < 0) = false := decide_eq_false c11
                clear c11
                have H' := Aside0.mk H
                clear H
                have hcz14_0 : wr.cell? ⟨gb160, 0, none⟩ = some (.slice A0_0 l0_0.length c0_0) := (blk_cell BK160.out 0).trans rfl
                have hfz14_0 := blk_frozen BK160.out 0
                go_wp2_with (first | ((with_reducible refine gate_callee (f := 35) rfl ?_); refine goesL_ (some 24) rfl rfl Try.func35 (by kernel_rfl) rfl #[.agg #[.slice A0_0 l0_0.length c0_0], .int .i64 (wrap64 (a1 + x7_2))] rfl (by (try simp only [List.map_toArray, List.map_cons, List.map_nil]); first | done | rfl | (simp only [List.length_drop, List.length_take]; rfl)) ?_; (with_reducible refine (spec_l02Find.calls k2 _ _ l0_0 (wrap64 (a1 + x7_2)) t162 _ ?side1 ?side2 A10.out).mono ?_); (case side1 => repeat (first | exact (Kd.C_below HR0_0.out HB.out) | (with_reducible refine Kd.C_alloc ?_ _) | (with_reducible refine Kd.C_drewN ?_ _) | (with_reducible refine Kd.C_drew ?_))); (case side2 => exact HC0_0.out); rintro e w15 ⟨rfl, hb⟩; refine ⟨_, rfl, ?_⟩; have n0_ := Aside0.mk (blk_below (g := gb160) (o := .cells #[.slice A0_0 l0_0.length c0_0] 28 (0, 0)) (by (with_reducible repeat (first | refine blk_drewN ?_ _ | refine blk_drew ?_ | refine blk_alloc ?_ _)); exact BK160.out) hb); have n1_ := Aside0.mk (below_step (by repeat (first | (with_reducible first | exact HB.out | apply below_alloc | apply pw_below_drewN | apply below_drew1 | refine below_set ?_ GE160.out) | exact HB.out)) hb); clear BK160; clear HB; have BK160 := n0_; have HB := n1_; clear n0_ n1_; (try clear hb); (try clear hb2); (try clear hk); (try clear hi)))
                go_roundg k2
                case measure => have := HJ3.out; have := HK2.out; omega
                case rel => exact ⟨(wrap64 (x7_2 + 1)), (by first | rfl | (simp; done) | (simp [*]; done)), H', ⟨by have := HJ3.out; have := HK2.out; omega⟩, ⟨by (with_reducible repeat (first | refine blk_drewN ?_ _ | refine blk_drew ?_ | refine blk_alloc ?_ _)); exact BK160.out⟩, ⟨by repeat (first | (with_reducible first | exact HB.out | apply below_alloc | apply pw_below_drewN | apply below_drew1 | refine below_set ?_ GE160.out) | exact HB.out)⟩⟩
            · rw [if_neg c9] at H
              have c9b0 : decide (x7_2 < a2) = false := decide_eq_false c9
              clear c9
              obtain rfl := Option.some.inj H
              go_wp2
              go_ret
              exact ⟨by first | rfl | (simp [errW_none, errW_some] <;> rfl) | (simp [*, errW_none, errW_some] <;> rfl), by repeat (first | (with_reducible first | exact HB.out | apply below_alloc | apply pw_below_drewN | apply below_drew1 | refine below_set ?_ GE160.out) | exact HB.out)⟩

/-! ### spec_l02Put: function 58 -/
/-- What a loop that lays bytes holds of memory: three boxes; the copy's own row. -/
structure PutHolds (w W : World) (g3 g6 g7 : Nat) (v3 : Value) (A : Option Addr) (c : Nat) (o : List S55) : Prop where
  b3 : W.heap[g3]? = some (.cells #[v3] 28 (0, 0))
  b6 : W.heap[g6]? = some (.cells #[.slice none 0 0] 28 (0, 0))
  b7 : W.heap[g7]? = some (.cells #[.slice A o.length c] 28 (0, 0))
  row : Kd.R k55 55 W w.heap.size (fun _ => True) (.slice A o.length c) o
  bel : Below w.heap.size w W
theorem PutHolds.below {w W W1 : World} {g3 g6 g7 : Nat} {v3 : Value} {A : Option Addr} {c : Nat} {o : List S55} (h : PutHolds w W g3 g6 g7 v3 A c o) (hb : Below W.heap.size W W1) : PutHolds w W1 g3 g6 g7 v3 A c o :=
  ⟨blk_below h.b3 hb, blk_below h.b6 hb, blk_below h.b7 hb, Kd.R_below h.row hb, below_step h.bel hb⟩
theorem PutHolds.drew {w W : World} {g3 g6 g7 : Nat} {v3 : Value} {A : Option Addr} {c : Nat} {o : List S55} (h : PutHolds w W g3 g6 g7 v3 A c o) : PutHolds w W.drew g3 g6 g7 v3 A c o := h.below (below_drew1 (Below.refl _ _))
theorem PutHolds.elem {w W : World} {g3 g6 g7 : Nat} {v3 : Value} {A : Option Addr} {c : Nat} {o : List S55} (h : PutHolds w W g3 g6 g7 v3 A c o) (i : Nat) (hi : i < o.length) :
    ∃ g, A = some ⟨g, 0, none⟩ ∧ W.cell? ⟨g, i * 3, none⟩ = some (.int .i64 (rd_T55 o (i : Int)).f0) ∧ W.cell? ⟨g, i * 3 + 2, none⟩ = some (.string (rd_T55 o (i : Int)).f2) ∧ W.frozen? ⟨g, i * 3 + 2, none⟩ = false ∧
      ∀ s : ByteArray, PutHolds w (W.setCell ⟨g, i * 3 + 2, none⟩ (.string s)) g3 g6 g7 v3 A c (o.set i ⟨(rd_T55 o (i : Int)).f0, (rd_T55 o (i : Int)).f1, s⟩) := by
  obtain ⟨g, cap, e, hb, hl, cells, hh⟩ := Kd.R_form h.row (by omega)
  injection e with e1 _ e3
  subst e1; subst e3
  obtain ⟨ce, hcl, hM, hcc, hfr⟩ := Kd.R_elem h.row z55 (i : Int) (by omega) (by omega)
  obtain rfl := k55_openM hM
  have h0 : W.cell? ⟨g, i * 3, none⟩ = some (.int .i64 (rd_T55 o (i : Int)).f0) := hcc 0 _ rfl
  have h2 : W.cell? ⟨g, i * 3 + 2, none⟩ = some (.string (rd_T55 o (i : Int)).f2) := hcc 2 _ rfl
  have f2 : W.frozen? ⟨g, i * 3 + 2, none⟩ = false := hfr 2
  refine ⟨g, rfl, h0, h2, f2, fun s => ?_⟩
  have HP : Kd.R k55 55 (W.setCell ⟨g, i * 3 + 2, none⟩ (.string s)) w.heap.size (fun _ => True) (.slice (some ⟨g, 0, none⟩) o.length c) (o.set i ⟨(rd_T55 o (i : Int)).f0, (rd_T55 o (i : Int)).f1, s⟩) ∧ W.grownBy (W.setCell ⟨g, i * 3 + 2, none⟩ (.string s)) (some g) :=
    Kd.R_seg h.row (i : Int) (by omega) (by omega) (seg := [.string s]) (j := 2) hcl hcc (show 3 ≤ 3 from by decide) (x' := (⟨(rd_T55 o (i : Int)).f0, (rd_T55 o (i : Int)).f1, s⟩ : S55)) (k55_mkM _ _ _ (⟨(rd_T55 o (i : Int)).f0, (rd_T55 o (i : Int)).f1, s⟩ : S55)) (fun _ hk => hk)
  have hlen : (o.set i ⟨(rd_T55 o (i : Int)).f0, (rd_T55 o (i : Int)).f1, s⟩).length = o.length := List.length_set
  refine ⟨blk_grown h.b3 HP.2 (Kd.R_ne h.row h.b3 (by decide)), blk_grown h.b6 HP.2 (Kd.R_ne h.row h.b6 (by decide)), ?_, ?_, below_set h.bel hb⟩
  · rw [hlen]; exact blk_grown h.b7 HP.2 (Kd.R_ne h.row h.b7 (by decide))
  · rw [hlen]; exact HP.1
/-- The bytes of a page behind the laying of n bytes of t from p on. -/
def putBytes (d t : ByteArray) (p n : Nat) : ByteArray := (d.extract 0 p ++ t.extract 0 n) ++ d.extract (p + n) d.size
/-- How many bytes of t have room in the page of a. -/
def putRoom (t : ByteArray) (a : Int) : Nat := min t.size (256 - (a % 256).toNat)
theorem putRoom_mn (t : ByteArray) (a : Int) : (if 256 - a % 256 < (t.size : Int) then 256 - a % 256 else (t.size : Int)) = ((putRoom t a : Nat) : Int) := by
  unfold putRoom
  split <;> omega
theorem putW (x : Int) (n : Nat) (h : x = n) (hn : n ≤ 9223372036854775807) : wrap64 x = (n : Int) ∧ IntKind.i64.wrap x = (n : Int) := by
  have hw : wrap64 x = (n : Int) := by unfold wrap64; omega
  exact ⟨hw, (i64_w x).trans hw⟩
theorem putAdd {P : Program} (dd t : ByteArray) (p n : Nat) (hd : dd.size = 256) (ht : t.size ≤ 1048576) : ∃ X : ByteArray, (∀ w, (Op.stringOp .add (dd.extract 0 p) (t.extract 0 n)).run P w = .ok (.string X) w) ∧ ∀ w, (Op.stringOp .add X (dd.extract (p + n) dd.size)).run P w = .ok (.string (putBytes dd t p n)) w := by
  refine ⟨dd.extract 0 p ++ t.extract 0 n, fun w => run_string_add_sum _ _ _ ?_, fun w => run_string_add_sum _ _ _ ?_⟩
  · rw [ByteArray.size_extract, ByteArray.size_extract]; omega
  · rw [ByteArray.size_append, ByteArray.size_extract, ByteArray.size_extract, ByteArray.size_extract]; omega
def spec_l02Put.l0 : Nat → Int → ByteArray → List S55 → Option (List S55)
  | 0, _, _, _ => none
  | k + 1, a, t, o => if t.size = 0 then some o else (spec_l02Find.f 100 o a).bind fun i =>
      if 0 ≤ a ∧ a ≤ 65535 ∧ 0 ≤ i ∧ i < o.length ∧ (rd_T55 o i).f2.size = 256 ∧ (rd_T55 o i).f0 = a - a % 256 ∧ t.size ≤ 1048576 then
        spec_l02Put.l0 k (a + putRoom t a) (t.extract (putRoom t a) t.size) (o.set i.toNat ⟨(rd_T55 o i).f0, (rd_T55 o i).f1, putBytes (rd_T55 o i).f2 t (a % 256).toNat (putRoom t a)⟩)
      else none
def spec_l02Put.f (l0_0 : List S55) (a1 : Int) (a2 : ByteArray) : Option (List S55) := (spec_l02Own.f l0_0).bind fun o => spec_l02Put.l0 (a2.size + 1) a1 a2 o
def spec_l02Put.T7 : Bool × List (List Nat × List Nat) := (true,
  [([], []), ([0], [0]), ([], []), ([], []), ([], []), ([3, 4], [3, 4]), ([], []), ([], []), ([6, 7], [6, 7]),
    ([5, 8], [5, 8]), ([], []), ([], []), ([], []), ([11, 12], [11, 12]), ([10, 13], [10, 13]), ([9, 14], [9, 14]),
    ([1, 2, 0, 1, 2, 3, 4, 5, 6, 7, 8, 9, 10, 11, 12, 13, 14, 15], [1, 2]),
    ([16, 0, 1, 2, 3, 4, 5, 6, 7, 8, 9, 10, 11, 12, 13, 14, 15], [16]),
    ([17, 15, 0, 1, 2, 3, 4, 5, 6, 7, 8, 9, 10, 11, 12, 13, 14, 15], [15, 17])])
set_option maxHeartbeats 8000000 in
set_option maxRecDepth 100000 in
theorem spec_l02Put.calls (A0_0 : Option Addr) (c0_0 : Nat) (l0_0 : List (S55)) (a1 : Int) (a2 : ByteArray) (r : List (S55)) (w : World) (hr0_0 : Kd.C k55 w A0_0 l0_0.length l0_0) (hc0_0 : l0_0.length ≤ c0_0) (h : spec_l02Put.f l0_0 a1 a2 = some r) :
    Calls Try.prog 58 #[.agg #[.slice A0_0 l0_0.length c0_0], .int .i64 a1, .string a2] w fun e w' => ∃ v0_ : Value, e = .returned (.agg #[v0_]) ∧ Kd.R k55 55 w' w.heap.size (fun _ => True) v0_ r ∧ Below w.heap.size w w' := by
  have hu28 := Try.underlying28
  have hu55 := Try.underlying55
  obtain ⟨o0, ho, hl⟩ := Option.bind_eq_some_iff.mp (show (spec_l02Own.f l0_0).bind (fun o => spec_l02Put.l0 (a2.size + 1) a1 a2 o) = some r from h)
  have HO := Aside0.mk ho
  have HL := Aside0.mk hl
  have HR := Aside0.mk hr0_0
  have HC := Aside0.mk hc0_0
  clear h ho hl hr0_0 hc0_0
  go_enter Try.func58, Try.ntmps58
  go_wp2_with (go_at_call 36; refine (spec_l02Own.calls A0_0 c0_0 l0_0 o0 _ (Kd.C_below HR.out (by repeat (first | exact Below.refl _ _ | apply below_alloc | apply pw_below_drewN | apply below_drew1))) HC.out HO.out).mono ?_; rintro e w1 ⟨v0, rfl, hR, hB⟩; obtain ⟨Ao, co, eo⟩ := Kd.R_slice hR; subst eo; have B3 := Aside0.mk (blk_below (blk_below (blk_new w (.cells #[.slice A0_0 l0_0.length c0_0] 28)) (below_alloc (Below.refl _ _) (.cells #[.slice none 0 0] 28))) hB); have B6 := Aside0.mk (blk_below (blk_new (w.alloc (.cells #[.slice A0_0 l0_0.length c0_0] 28)) (.cells #[.slice none 0 0] 28)) hB); have BL := Aside0.mk (below_step (below_alloc (below_alloc (Below.refl _ _) (.cells #[.slice A0_0 l0_0.length c0_0] 28)) (.cells #[.slice none 0 0] 28)) hB); have RW : Aside0 (Kd.R k55 55 w1 w.heap.size (fun _ => True) (.slice Ao o0.length co) o0) := Aside0.mk (Kd.R_lower hR (by simp only [World.size_alloc]; omega)); clear hR hB; have hc3 := (blk_cell B3.out 0).trans (show _ = some (Value.slice A0_0 l0_0.length c0_0) from rfl); have hf3 := blk_frozen B3.out 0)
  have HH : Aside0 (PutHolds w (w1.setCell ⟨w.heap.size, 0, none⟩ (.slice Ao o0.length co)) (w.heap.size + 1) (w.heap.size + 1) w.heap.size (.slice none 0 0) Ao co o0) := by
    have h6 := B6.out
    rw [World.size_alloc] at h6
    have hb6 := blk_far (p := ⟨w.heap.size, 0, none⟩) h6 (by simp) (.slice Ao o0.length co)
    exact ⟨hb6, hb6, blk_put (cs := #[.slice A0_0 l0_0.length c0_0]) B3.out 0 _ rfl, Kd.R_mono (Kd.R_far (p := ⟨w.heap.size, 0, none⟩) (Kd.R_types RW.out B3.out (by decide)) (fun _ hk => hk.2) _) (fun _ _ => trivial), below_set BL.out (Nat.le_refl _)⟩
  clear B3 B6 BL RW hc3 hf3 HR HC HO
  go_loopg [1, 2] (a2.size + 1) (fun kq va vt w' => ∃ (a : Int) (t : ByteArray) (o : List S55), va = .int .i64 a ∧ vt = .string t ∧ Aside0 (spec_l02Put.l0 kq a t o = some r) ∧ Aside0 (kq ≤ a2.size + 1) ∧ Aside0 (PutHolds w w' (w.heap.size + 1) (w.heap.size + 1) w.heap.size (.slice none 0 0) Ao co o))
  case atStart => exact ⟨a1, a2, o0, rfl, rfl, HL, ⟨Nat.le_refl _⟩, HH⟩
  case round =>
    clear HL HH
    obtain ⟨a, t, o, rfl, rfl, HA, HK1, HH⟩ := hrel
    cases gk with
    | zero => exact absurd HA.out (by simp [spec_l02Put.l0])
    | succ k1 =>
      have H := HA.out
      clear HA
      simp only [spec_l02Put.l0] at H
      have hc7 := (blk_cell HH.out.b7 0).trans (show _ = some (Value.slice Ao o.length co) from rfl)
      by_cases ht : t.size = 0
      · rw [if_pos ht] at H
        obtain rfl := Option.some.inj H
        have hc6 := (blk_cell HH.out.b6 0).trans (show _ = some (Value.slice none 0 0) from rfl)
        have hf6 := blk_frozen HH.out.b6 0
        have d0 : decide (0 < t.size) = false := decide_eq_false (by omega)
        clear H ht
        go_wp2
        have BX : Aside0 ((wr.setCell ⟨w.heap.size + 1, 0, none⟩ (.slice Ao o.length co)).heap[w.heap.size + 1]? = some (.cells #[.slice Ao o.length co] 28 (0, 0))) := ⟨blk_put (cs := #[.slice none 0 0]) HH.out.b6 0 _ rfl⟩
        refine bodyPost_ret (results_cell_row rfl _ _ (w.heap.size + 1) 28 #[.slice Ao o.length co] (0, 0) _ rfl BX.out Try.underlying28 rfl (by kernel_rfl)) rfl ?_
        exact ⟨_, rfl, Kd.R_mono (Kd.R_far (p := ⟨w.heap.size + 1, 0, none⟩) (Kd.R_types HH.out.row HH.out.b6 (by decide)) (fun _ hk => hk.2) _) (fun _ _ => trivial), below_set HH.out.bel (Nat.le_succ _)⟩
      · rw [if_neg ht] at H
        obtain ⟨i, hi, H⟩ := Option.bind_eq_some_iff.mp H
        by_cases hc : 0 ≤ a ∧ a ≤ 65535 ∧ 0 ≤ i ∧ i < o.length ∧ (rd_T55 o i).f2.size = 256 ∧ (rd_T55 o i).f0 = a - a % 256 ∧ t.size ≤ 1048576
        · rw [if_pos hc] at H
          obtain ⟨q0, q1, q2, q3, q4, q5, q6⟩ := hc
          obtain ⟨j, rfl⟩ := Int.eq_ofNat_of_zero_le q2
          simp only [Int.ofNat_eq_natCast, Int.toNat_natCast] at *
          have HI := Aside0.mk hi
          have HN := Aside0.mk H
          have d0 : decide (0 < t.size) = true := decide_eq_true (by omega)
          have q3' : j < o.length := by omega
          obtain ⟨p, hp⟩ : ∃ p : Nat, a % 256 = p := ⟨(a % 256).toNat, by omega⟩
          obtain ⟨n, hn⟩ : ∃ n : Nat, 256 - p = n := ⟨_, rfl⟩
          obtain ⟨b, hbb⟩ : ∃ b : Int, (rd_T55 o (j : Int)).f0 = b := ⟨_, rfl⟩
          obtain ⟨dd, hdd⟩ : ∃ dd : ByteArray, (rd_T55 o (j : Int)).f2 = dd := ⟨_, rfl⟩
          have W1 := Aside0.mk (putW (a - b) p (by omega) (by omega))
          have W2 := Aside0.mk (putW (256 - (p : Int)) n (by omega) (by omega))
          have p1 : p ≤ 255 := by omega
          have hds : dd.size = 256 := by rw [← hdd]; exact q4
          have Q5 := Aside0.mk hbb
          have QD := Aside0.mk hdd
          have hroom : putRoom t a = if n < t.size then n else t.size := by
            unfold putRoom
            rw [hp, Int.toNat_natCast, hn, Nat.min_def]
            split <;> split <;> omega
          have HP := Aside0.mk hp
          have HM := Aside0.mk hroom
          clear hi H ht q4 q5 q3 hbb hdd hp hroom
          by_cases hA : n < t.size
          · have HA := Aside0.mk (show putRoom t a = n by rw [HM.out, if_pos hA])
            have HN2 := HN.out
            rw [HA.out, HP.out, QD.out, Int.toNat_natCast] at HN2
            have HN3 := Aside0.mk HN2
            clear HN2 HN
            have n1 : n ≤ 256 := by omega
            have b1 : p ≤ dd.size := by omega
            have b2 : (p : Int) ≤ (dd.size : Int) := by omega
            obtain ⟨q, hq⟩ : ∃ q : Nat, p + n = q := ⟨_, rfl⟩
            have b3 : q ≤ dd.size := by omega
            have b4 : (q : Int) ≤ (dd.size : Int) := by omega
            have b5 : n ≤ t.size := by omega
            have W3 := putW ((p : Int) + (n : Int)) q (by omega) (by omega)
            obtain ⟨X, hx1, hx2⟩ := putAdd (P := Try.prog) dd t p n hds q6
            rw [hq] at hx2
            clear hq
            obtain ⟨hs', hs⟩ := W3
            obtain ⟨hw1, hw1'⟩ := W1.out
            obtain ⟨hw2, hw2'⟩ := W2.out
            clear hn hds
            go_wp2_with (go_at_call 35; refine (spec_l02Find.calls 100 Ao co o a _ _ (Kd.R_reads' HH.out.row).2.2 (Kd.R_reads' HH.out.row).2.1 HI.out).mono ?_; rintro e w2 ⟨rfl, hb⟩; have HH2 := Aside0.mk (HH.out.below hb); obtain ⟨g, eA, x0, x2, f2, hset⟩ := HH2.out.elem j q3'; cases eA; clear hset hb f2; rw [Q5.out] at x0; rw [QD.out] at x2; have hc7' := (blk_cell HH2.out.b7 0).trans (show _ = some (Value.slice (some ⟨g, 0, none⟩) o.length co) from rfl))
            refine wp_region_still_tail 18 (by kernel_rfl) (tail_of (T := spec_l02Put.T7) (by kernel_rfl) (by kernel_rfl)) ?_
            simp only [List.take_succ_cons, List.take_zero, List.drop_succ_cons, List.drop_zero]
            repeat still_step
            try refine wpStill_nil ?_
            change wpList _ _ _ _ _ w2.drew
            have HH3 := Aside0.mk HH2.out.drew
            obtain ⟨g', eA', z0, z2, f2, hset⟩ := HH3.out.elem j q3'
            obtain rfl : g = g' := by injection eA' with h1; injection h1
            have HS := Aside0.mk (hset (putBytes dd t p n))
            clear hset eA' z0 HH2 HH3 HH x0 x2 hc7' hw1 hw1' hs hs' hx1 hx2
            generalize w2.drew = w3 at *
            go_wp2
            go_roundg k1
            case measure => have := HK1.out; omega
            case rel => exact ⟨a + (n : Nat), t.extract n t.size, _, by first | rfl | (simp; done) | go_num, by first | rfl | (simp; done), HN3, ⟨by have := HK1.out; omega⟩, HS⟩
          · have HA := Aside0.mk (show putRoom t a = t.size by rw [HM.out, if_neg hA])
            have HN2 := HN.out
            rw [HA.out, HP.out, QD.out, Int.toNat_natCast] at HN2
            have HN3 := Aside0.mk HN2
            clear HN2 HN
            have b1 : p ≤ dd.size := by omega
            have b2 : (p : Int) ≤ (dd.size : Int) := by omega
            obtain ⟨q, hq⟩ : ∃ q : Nat, p + t.size = q := ⟨_, rfl⟩
            have b3 : q ≤ dd.size := by omega
            have b4 : (q : Int) ≤ (dd.size : Int) := by omega
            have b5 : t.size ≤ t.size := by omega
            have W3 := putW ((p : Int) + (t.size : Int)) q (by omega) (by omega)
            obtain ⟨X, hx1, hx2⟩ := putAdd (P := Try.prog) dd t p t.size hds q6
            rw [show t.extract 0 t.size = t by simp] at hx1
            rw [hq] at hx2
            clear hq
            obtain ⟨hs', hs⟩ := W3
            obtain ⟨hw1, hw1'⟩ := W1.out
            obtain ⟨hw2, hw2'⟩ := W2.out
            clear hn hds
            go_wp2_with (go_at_call 35; refine (spec_l02Find.calls 100 Ao co o a _ _ (Kd.R_reads' HH.out.row).2.2 (Kd.R_reads' HH.out.row).2.1 HI.out).mono ?_; rintro e w2 ⟨rfl, hb⟩; have HH2 := Aside0.mk (HH.out.below hb); obtain ⟨g, eA, x0, x2, f2, hset⟩ := HH2.out.elem j q3'; cases eA; clear hset hb f2; rw [Q5.out] at x0; rw [QD.out] at x2; have hc7' := (blk_cell HH2.out.b7 0).trans (show _ = some (Value.slice (some ⟨g, 0, none⟩) o.length co) from rfl))
            refine wp_region_still_tail 18 (by kernel_rfl) (tail_of (T := spec_l02Put.T7) (by kernel_rfl) (by kernel_rfl)) ?_
            simp only [List.take_succ_cons, List.take_zero, List.drop_succ_cons, List.drop_zero]
            repeat still_step
            try refine wpStill_nil ?_
            change wpList _ _ _ _ _ w2.drew
            have HH3 := Aside0.mk HH2.out.drew
            obtain ⟨g', eA', z0, z2, f2, hset⟩ := HH3.out.elem j q3'
            obtain rfl : g = g' := by injection eA' with h1; injection h1
            have HS := Aside0.mk (hset (putBytes dd t p t.size))
            clear hset eA' z0 HH2 HH3 HH x0 x2 hc7' hw1 hw1' hs hs' hx1 hx2
            generalize w2.drew = w3 at *
            go_wp2
            go_roundg k1
            case measure => have := HK1.out; omega
            case rel => exact ⟨a + (t.size : Nat), t.extract t.size t.size, _, by first | rfl | (simp; done) | go_num, by first | rfl | (simp; done), HN3, ⟨by have := HK1.out; omega⟩, HS⟩
        · rw [if_neg hc] at H
          exact absurd H (by simp)


end Go.Proofs.Ytmldfchddccncaa.PFnExactPutBytes
