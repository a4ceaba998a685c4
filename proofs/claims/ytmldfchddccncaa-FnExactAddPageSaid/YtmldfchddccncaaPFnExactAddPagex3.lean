-- Written for this claim by the session's own program, out of the translation. Not trusted: Lean checks it.
import Derived.Test.YtmldfchddccncaaPFnExactAddPagex0
import Derived.Test.YtmldfchddccncaaPFnExactAddPagex2
namespace Go.Proofs.Ytmldfchddccncaa.PFnExactAddPage
open Go.RowKit Go.Proofs.YtmldfchddccncaaW.PrintWords Go.Proofs.YtmldfchddccncaaW.PrintLast Go.Proofs.YtmldfchddccncaaW.PrintMore
attribute [local go_sem] max2_int min2_int max_two min_two max_three min_three max_four min_four   -- for this text's walks alone
set_option linter.unusedVariables false
set_option linter.unusedSimpArgs false

/-! ### impl_MemoryOK: function 19 -/
def impl_MemoryOK.l0 : Nat → List (S55) → Int → Int → List (S55) → Option (Bool)
  | 0, _, _, _, _ => none
  | k + 1, x6, x7, x8, x188000 => if x8 < x7 then (if 0 ≤ x8 then (if x8 < (x6.length : Int) then ((impl_isBase.f ((rd_T55 x6 x8).f0)).bind fun t190 => (if t190 = true then ((impl_isPerm.f ((rd_T55 x6 x8).f1)).bind fun t191 => (if t191 = true then (if (((rd_T55 x6 x8).f2).size : Int) = 256 then (if x8 > 0 then (if 0 ≤ (wrap64 (x8 - 1)) then (if (wrap64 (x8 - 1)) < (x188000.length : Int) then (if ((rd_T55 x6 x8).f0) ≤ ((rd_T55 x188000 (wrap64 (x8 - 1))).f0) then (some false) else (impl_MemoryOK.l0 k x6 x7 (wrap64 (x8 + 1)) x188000)) else (none)) else (none)) else (impl_MemoryOK.l0 k x6 x7 (wrap64 (x8 + 1)) x188000)) else (some false)) else (some false))) else (some false))) else (none)) else (none)) else (some (decide ((x188000.length : Int) ≤ 32)))
def impl_MemoryOK.f (k : Nat) (l0_0 : List (S55)) : Option (Bool) := impl_MemoryOK.l0 k l0_0 (l0_0.length : Int) 0 l0_0
theorem impl_MemoryOK.mono_l : ∀ k, (∀ y0 y1 y2 y3, LeO (impl_MemoryOK.l0 k y0 y1 y2 y3) (impl_MemoryOK.l0 (k + 1) y0 y1 y2 y3))
  | 0 => fun _ _ _ _ r h => by simp [impl_MemoryOK.l0] at h
  | k + 1 => by
    have ih0 := impl_MemoryOK.mono_l k
    · intro y0 y1 y2 y3
      unfold impl_MemoryOK.l0
      repeat' first
      | (with_reducible exact ih0 _ _ _ _)
      | (with_reducible exact LeO.refl _)
      | (with_reducible exact LeO.none _)
      | (with_reducible refine LeO.ite ?_ ?_)
      | (with_reducible refine LeO.bind ?_ (fun _ => ?_))
      | exact ih0 _ _ _ _
      | exact LeO.none _
      | refine LeO.ite ?_ ?_
      | refine LeO.bind ?_ (fun _ => ?_)
theorem impl_MemoryOK.mono : ∀ a0 k, LeO (impl_MemoryOK.f k a0) (impl_MemoryOK.f (k + 1) a0) := by
  intro a0 k
  have ih0 := impl_MemoryOK.mono_l k
  unfold impl_MemoryOK.f
  repeat' first
      | (with_reducible exact ih0 _ _ _ _)
      | (with_reducible exact LeO.refl _)
      | (with_reducible exact LeO.none _)
      | (with_reducible refine LeO.ite ?_ ?_)
      | (with_reducible refine LeO.bind ?_ (fun _ => ?_))
      | exact ih0 _ _ _ _
      | exact LeO.none _
      | refine LeO.ite ?_ ?_
      | refine LeO.bind ?_ (fun _ => ?_)
set_option maxHeartbeats 8000000 in
set_option maxRecDepth 100000 in
theorem impl_MemoryOK.calls (k : Nat) (A0_0 : Option Addr) (c0_0 : Nat) (l0_0 : List (S55)) (r : Bool) (w : World) (hr0_0 : Kd.C k55 w A0_0 l0_0.length l0_0) (hc0_0 : l0_0.length ≤ c0_0) (h : impl_MemoryOK.f k l0_0 = some r) :
    Calls Try.prog 19 #[.agg #[.slice A0_0 l0_0.length c0_0]] w fun e w' => e = .returned (.bool r) ∧ Below w.heap.size w w' := by
  have hu28 := Try.underlying28
  have hu55 := Try.underlying55
  have hmax := hr0_0.2.1
  have HR := Aside0.mk hr0_0
  unfold impl_MemoryOK.f at h
  clear hr0_0 hc0_0
  have HS := Aside0.mk h
  clear h
  go_enter Try.func19, Try.ntmps19
  go_wp2
  go_loopg [8] k (fun kq v w' => ∃ i : Nat, v = .int .i64 i ∧ Aside0 (impl_MemoryOK.l0 kq l0_0 (l0_0.length : Int) (i : Int) l0_0 = some r) ∧ Aside0 (kq ≤ k) ∧ Aside0 (w'.heap[w.heap.size]? = some (.cells #[.slice A0_0 l0_0.length c0_0] 28 (0, 0))) ∧ Aside0 (Below w.heap.size w w'))
  case atStart => exact ⟨0, rfl, HS, ⟨Nat.le_refl _⟩, ⟨blk_new _ _⟩, ⟨below_alloc (Below.refl _ _) _⟩⟩
  case round =>
    clear HS
    obtain ⟨i, rfl, HA, HK1, HX, HB⟩ := hrel
    cases gk with
    | zero => exact absurd HA.out (by simp [impl_MemoryOK.l0])
    | succ k1 =>
      have H := HA.out
      clear HA
      simp only [impl_MemoryOK.l0] at H
      have hbx : wr.cell? ⟨w.heap.size, 0, none⟩ = some (.slice A0_0 l0_0.length c0_0) := (blk_cell HX.out 0).trans rfl
      by_cases c1 : (i : Int) < (l0_0.length : Int)
      · rw [if_pos c1, if_pos (by omega), if_pos c1] at H
        obtain ⟨ad, ea, x0, x1, x2⟩ := at_T55 HR.out (i : Int) (by omega) c1
        have hw0 := Aside0.mk x0
        clear x0
        have x0 := pw_cell_below HB.out hw0.out
        replace x1 := pw_cell_below HB.out x1
        replace x2 := pw_cell_below HB.out x2
        rw [Int.toNat_natCast] at x0 x1 x2
        cases ea
        have HB2 := Aside0.mk (below_step HB.out (below_alloc (Below.refl _ _) (.cells #[.int .i64 (rd_T55 l0_0 (i : Int)).f0, .int .i64 (rd_T55 l0_0 (i : Int)).f1, .string (rd_T55 l0_0 (i : Int)).f2] 55)))
        have HX2 := Aside0.mk (blk_below HX.out (below_alloc (Below.refl _ _) (.cells #[.int .i64 (rd_T55 l0_0 (i : Int)).f0, .int .i64 (rd_T55 l0_0 (i : Int)).f1, .string (rd_T55 l0_0 (i : Int)).f2] 55)))
        have BN := Aside0.mk (blk_new wr (.cells #[.int .i64 (rd_T55 l0_0 (i : Int)).f0, .int .i64 (rd_T55 l0_0 (i : Int)).f1, .string (rd_T55 l0_0 (i : Int)).f2] 55))
        obtain ⟨t1, h1, H⟩ := Option.bind_eq_some_iff.mp H
        have H1 := Aside0.mk h1
        clear h1
        cases t1 with
        | false =>
          rw [if_neg (by decide)] at H
          obtain rfl := Option.some.inj H
          clear H
          go_wp2_with fail
          have m0 := (blk_cell BN.out 0).trans (show _ = some (Value.int .i64 (rd_T55 l0_0 (i : Int)).f0) from rfl)
          have m1 := (blk_cell BN.out 1).trans (show _ = some (Value.int .i64 (rd_T55 l0_0 (i : Int)).f1) from rfl)
          have m2 := (blk_cell BN.out 2).trans (show _ = some (Value.string (rd_T55 l0_0 (i : Int)).f2) from rfl)
          have m3 := (blk_cell HX2.out 0).trans (show _ = some (Value.slice (some ad) l0_0.length c0_0) from rfl)
          clear x0 x1 x2 hbx BN
          generalize wr.alloc (.cells #[.int .i64 (rd_T55 l0_0 (i : Int)).f0, .int .i64 (rd_T55 l0_0 (i : Int)).f1, .string (rd_T55 l0_0 (i : Int)).f2] 55) = w2 at *
          go_quiet ((go_at_call 39; exact Calls.quiet_of ((impl_isBase.calls _ _ _ H1.out).mono fun _ _ ⟨he, ⟨m⟩⟩ => ⟨he, m⟩)))
          go_wp2_with fail
          go_ret
          exact ⟨rfl, by repeat (first | exact HB2.out | apply pw_below_drewN | apply below_drew1)⟩
        | true =>
          rw [if_pos rfl] at H
          obtain ⟨t2, h2, H⟩ := Option.bind_eq_some_iff.mp H
          have H2 := Aside0.mk h2
          clear h2
          cases t2 with
          | false =>
            rw [if_neg (by decide)] at H
            obtain rfl := Option.some.inj H
            clear H
            go_wp2_with fail
            have m0 := (blk_cell BN.out 0).trans (show _ = some (Value.int .i64 (rd_T55 l0_0 (i : Int)).f0) from rfl)
            have m1 := (blk_cell BN.out 1).trans (show _ = some (Value.int .i64 (rd_T55 l0_0 (i : Int)).f1) from rfl)
            have m2 := (blk_cell BN.out 2).trans (show _ = some (Value.string (rd_T55 l0_0 (i : Int)).f2) from rfl)
            have m3 := (blk_cell HX2.out 0).trans (show _ = some (Value.slice (some ad) l0_0.length c0_0) from rfl)
            clear x0 x1 x2 hbx BN
            generalize wr.alloc (.cells #[.int .i64 (rd_T55 l0_0 (i : Int)).f0, .int .i64 (rd_T55 l0_0 (i : Int)).f1, .string (rd_T55 l0_0 (i : Int)).f2] 55) = w2 at *
            go_quiet ((first | (go_at_call 39; exact Calls.quiet_of ((impl_isBase.calls _ _ _ H1.out).mono fun _ _ ⟨he, ⟨m⟩⟩ => ⟨he, m⟩)) | (go_at_call 40; exact Calls.quiet_of ((impl_isPerm.calls _ _ _ H2.out).mono fun _ _ ⟨he, ⟨m⟩⟩ => ⟨he, m⟩))))
            go_wp2_with fail
            go_ret
            exact ⟨rfl, by repeat (first | exact HB2.out | apply pw_below_drewN | apply below_drew1)⟩
          | true =>
            rw [if_pos rfl] at H
            by_cases c3 : ((rd_T55 l0_0 (i : Int)).f2.size : Int) = 256
            · rw [if_pos c3] at H
              have d3 : (((rd_T55 l0_0 (i : Int)).f2.size : Int) != 256) = false := bne_eq_false_iff_eq.mpr c3
              have d3' : (((rd_T55 l0_0 (i : Int)).f2.size : Int) == 256) = true := beq_iff_eq.mpr c3
              clear c3
              by_cases c4 : (i : Int) > 0
              · have ew : wrap64 ((i : Int) - 1) = ((i - 1 : Nat) : Int) := by unfold wrap64; omega
                rw [if_pos c4, ew, if_pos (by omega), if_pos (by omega)] at H
                have d4 : decide ((0 : Int) < (i : Int)) = true := decide_eq_true c4
                have d4n : decide (0 < i) = true := decide_eq_true (by omega)
                obtain ⟨ad', ea', y0, y1, y2⟩ := at_T55 HR.out ((i - 1 : Nat) : Int) (by omega) (by omega)
                have hy0 := Aside0.mk y0
                clear y0 y1 y2
                have y0 := pw_cell_below HB2.out hy0.out
                rw [Int.toNat_natCast] at y0
                obtain rfl : ad = ad' := by injection ea'
                clear ea' hy0 hw0
                have p0 : 0 ≤ (i : Int) - 1 := by omega
                have p1 : (i : Int) - 1 < (l0_0.length : Int) := by omega
                have p2 : ((i : Int) - 1).toNat = i - 1 := by omega
                by_cases c5 : (rd_T55 l0_0 (i : Int)).f0 ≤ (rd_T55 l0_0 ((i - 1 : Nat) : Int)).f0
                · rw [if_pos c5] at H
                  obtain rfl := Option.some.inj H
                  have d5 : decide ((rd_T55 l0_0 (i : Int)).f0 ≤ (rd_T55 l0_0 ((i - 1 : Nat) : Int)).f0) = true := decide_eq_true c5
                  clear H c5
                  go_wp2_with fail
                  have m0 := (blk_cell BN.out 0).trans (show _ = some (Value.int .i64 (rd_T55 l0_0 (i : Int)).f0) from rfl)
                  have m1 := (blk_cell BN.out 1).trans (show _ = some (Value.int .i64 (rd_T55 l0_0 (i : Int)).f1) from rfl)
                  have m2 := (blk_cell BN.out 2).trans (show _ = some (Value.string (rd_T55 l0_0 (i : Int)).f2) from rfl)
                  have m3 := (blk_cell HX2.out 0).trans (show _ = some (Value.slice (some ad) l0_0.length c0_0) from rfl)
                  clear x0 x1 x2 hbx BN
                  generalize wr.alloc (.cells #[.int .i64 (rd_T55 l0_0 (i : Int)).f0, .int .i64 (rd_T55 l0_0 (i : Int)).f1, .string (rd_T55 l0_0 (i : Int)).f2] 55) = w2 at *
                  go_quiet ((first | (go_at_call 39; exact Calls.quiet_of ((impl_isBase.calls _ _ _ H1.out).mono fun _ _ ⟨he, ⟨m⟩⟩ => ⟨he, m⟩)) | (go_at_call 40; exact Calls.quiet_of ((impl_isPerm.calls _ _ _ H2.out).mono fun _ _ ⟨he, ⟨m⟩⟩ => ⟨he, m⟩))))
                  go_wp2_with fail
                  go_ret
                  exact ⟨rfl, by repeat (first | exact HB2.out | apply pw_below_drewN | apply below_drew1)⟩
                · rw [if_neg c5] at H
                  have d5 : decide ((rd_T55 l0_0 (i : Int)).f0 ≤ (rd_T55 l0_0 ((i - 1 : Nat) : Int)).f0) = false := decide_eq_false c5
                  rw [show wrap64 ((i : Int) + 1) = ((i + 1 : Nat) : Int) by unfold wrap64; omega] at H
                  have HN := Aside0.mk H
                  clear H c5
                  go_wp2_with fail
                  have m0 := (blk_cell BN.out 0).trans (show _ = some (Value.int .i64 (rd_T55 l0_0 (i : Int)).f0) from rfl)
                  have m1 := (blk_cell BN.out 1).trans (show _ = some (Value.int .i64 (rd_T55 l0_0 (i : Int)).f1) from rfl)
                  have m2 := (blk_cell BN.out 2).trans (show _ = some (Value.string (rd_T55 l0_0 (i : Int)).f2) from rfl)
                  have m3 := (blk_cell HX2.out 0).trans (show _ = some (Value.slice (some ad) l0_0.length c0_0) from rfl)
                  clear x0 x1 x2 hbx BN
                  generalize wr.alloc (.cells #[.int .i64 (rd_T55 l0_0 (i : Int)).f0, .int .i64 (rd_T55 l0_0 (i : Int)).f1, .string (rd_T55 l0_0 (i : Int)).f2] 55) = w2 at *
                  go_quiet ((first | (go_at_call 39; exact Calls.quiet_of ((impl_isBase.calls _ _ _ H1.out).mono fun _ _ ⟨he, ⟨m⟩⟩ => ⟨he, m⟩)) | (go_at_call 40; exact Calls.quiet_of ((impl_isPerm.calls _ _ _ H2.out).mono fun _ _ ⟨he, ⟨m⟩⟩ => ⟨he, m⟩))))
                  go_wp2_with fail
                  go_roundg k1
                  case rel => exact ⟨i + 1, by go_num, HN, ⟨by have := HK1.out; omega⟩, ⟨by repeat (first | exact HX2.out | apply blk_drewN | apply blk_drew)⟩, ⟨by repeat (first | exact HB2.out | apply pw_below_drewN | apply below_drew1)⟩⟩
                  case measure => have := HK1.out; omega
              · rw [if_neg c4, show wrap64 ((i : Int) + 1) = ((i + 1 : Nat) : Int) by unfold wrap64; omega] at H
                have d4 : decide ((0 : Int) < (i : Int)) = false := decide_eq_false c4
                have d4n : decide (0 < i) = false := decide_eq_false (by omega)
                have HN := Aside0.mk H
                clear H c4
                go_wp2_with fail
                have m0 := (blk_cell BN.out 0).trans (show _ = some (Value.int .i64 (rd_T55 l0_0 (i : Int)).f0) from rfl)
                have m1 := (blk_cell BN.out 1).trans (show _ = some (Value.int .i64 (rd_T55 l0_0 (i : Int)).f1) from rfl)
                have m2 := (blk_cell BN.out 2).trans (show _ = some (Value.string (rd_T55 l0_0 (i : Int)).f2) from rfl)
                have m3 := (blk_cell HX2.out 0).trans (show _ = some (Value.slice (some ad) l0_0.length c0_0) from rfl)
                clear x0 x1 x2 hbx BN
                generalize wr.alloc (.cells #[.int .i64 (rd_T55 l0_0 (i : Int)).f0, .int .i64 (rd_T55 l0_0 (i : Int)).f1, .string (rd_T55 l0_0 (i : Int)).f2] 55) = w2 at *
                go_quiet ((first | (go_at_call 39; exact Calls.quiet_of ((impl_isBase.calls _ _ _ H1.out).mono fun _ _ ⟨he, ⟨m⟩⟩ => ⟨he, m⟩)) | (go_at_call 40; exact Calls.quiet_of ((impl_isPerm.calls _ _ _ H2.out).mono fun _ _ ⟨he, ⟨m⟩⟩ => ⟨he, m⟩))))
                go_wp2_with fail
                go_roundg k1
                case rel => exact ⟨i + 1, by go_num, HN, ⟨by have := HK1.out; omega⟩, ⟨by repeat (first | exact HX2.out | apply blk_drewN | apply blk_drew)⟩, ⟨by repeat (first | exact HB2.out | apply pw_below_drewN | apply below_drew1)⟩⟩
                case measure => have := HK1.out; omega
            · rw [if_neg c3] at H
              obtain rfl := Option.some.inj H
              have d3 : (((rd_T55 l0_0 (i : Int)).f2.size : Int) != 256) = true := bne_iff_ne.mpr c3
              have d3' : (((rd_T55 l0_0 (i : Int)).f2.size : Int) == 256) = false := beq_eq_false_iff_ne.mpr c3
              clear H c3
              go_wp2_with fail
              have m0 := (blk_cell BN.out 0).trans (show _ = some (Value.int .i64 (rd_T55 l0_0 (i : Int)).f0) from rfl)
              have m1 := (blk_cell BN.out 1).trans (show _ = some (Value.int .i64 (rd_T55 l0_0 (i : Int)).f1) from rfl)
              have m2 := (blk_cell BN.out 2).trans (show _ = some (Value.string (rd_T55 l0_0 (i : Int)).f2) from rfl)
              have m3 := (blk_cell HX2.out 0).trans (show _ = some (Value.slice (some ad) l0_0.length c0_0) from rfl)
              clear x0 x1 x2 hbx BN
              generalize wr.alloc (.cells #[.int .i64 (rd_T55 l0_0 (i : Int)).f0, .int .i64 (rd_T55 l0_0 (i : Int)).f1, .string (rd_T55 l0_0 (i : Int)).f2] 55) = w2 at *
              go_quiet ((first | (go_at_call 39; exact Calls.quiet_of ((impl_isBase.calls _ _ _ H1.out).mono fun _ _ ⟨he, ⟨m⟩⟩ => ⟨he, m⟩)) | (go_at_call 40; exact Calls.quiet_of ((impl_isPerm.calls _ _ _ H2.out).mono fun _ _ ⟨he, ⟨m⟩⟩ => ⟨he, m⟩))))
              go_wp2_with fail
              go_ret
              exact ⟨rfl, by repeat (first | exact HB2.out | apply pw_below_drewN | apply below_drew1)⟩
      · rw [if_neg c1] at H
        have HE := Aside0.mk (Option.some.inj H)
        clear H
        go_wp2
        go_ret
        exact ⟨by rw [← HE.out]; first | rfl | (simp; done), HB.out⟩


-- NOT PRINTED: function 62 (impl_Page_62)

/-! ### impl_Memory_pageOf: function 41 -/
/-- The page whose Base is b, counted from i on; -1 of none. -/
def impl_Memory_pageOf.find (b : Int) : List S55 → Int → Int
  | [], _ => -1
  | x :: xs, i => if x.f0 == b then i else impl_Memory_pageOf.find b xs (i + 1)
theorem impl_Memory_pageOf.closure (x0 x1 : Int) (x2 : ByteArray) (a : Int) (g : Nat) (w : World) (hc : w.cell? ⟨g, 0, none⟩ = some (.int .i64 a)) (h0 : 0 ≤ a) (h1 : a ≤ 65535) :
    Calls Try.prog 63 #[.agg #[.int .i64 x0, .int .i64 x1, .string x2], .pointer (some ⟨g, 0, none⟩)] w fun e w' => e = .returned (.bool (x0 == a - a % 256)) ∧ Below w.heap.size w w' := by
  have hb := World.block_lt_of_cell? w _ hc
  have hc2 : (w.alloc (.cells #[.int .i64 x0, .int .i64 x1, .string x2] 55)).cell? ⟨g, 0, none⟩ = some (.int .i64 a) := by rw [World.cell?_alloc_past _ _ _ hb]; exact hc
  have hm0 : 0 ≤ a % 256 := by omega
  have hm1 : a % 256 ≤ 255 := by omega
  clear hc hb
  go_enter Try.func63, Try.ntmps63
  go_wp2
  go_ret
  exact ⟨by first | rfl | (simp; done), (Below.refl _ _).alloc (Nat.le_refl _) _⟩
set_option maxHeartbeats 4000000 in
set_option maxRecDepth 100000 in
theorem impl_Memory_pageOf.index (A : Option Addr) (c : Nat) (l : List S55) (a : Int) (g : Nat) (w : World) (hr : Kd.C k55 w A l.length l) (hg : w.cell? ⟨g, 0, none⟩ = some (.int .i64 a)) (h0 : 0 ≤ a) (h1 : a ≤ 65535) :
    Calls Try.prog 62 #[.slice A l.length c, .func (Fn.func 63) #[] #[.pointer (some ⟨g, 0, none⟩)]] w fun e w' => e = .returned (.int .i64 (impl_Memory_pageOf.find (a - a % 256) l 0)) ∧ Below w.heap.size w w' := by
  have hu := Try.underlying55
  have hmax := hr.2.1
  have HR := Aside0.mk hr
  have HG := Aside0.mk hg
  clear hr hg
  go_enter Try.func62, Try.ntmps62
  go_wp2
  go_loopw [8] (fun i wr => ∃ k : Nat, i = .int .i64 k ∧ k ≤ l.length ∧ Aside0 (impl_Memory_pageOf.find (a - a % 256) l 0 = impl_Memory_pageOf.find (a - a % 256) (l.drop k) k) ∧ Aside0 (Below w.heap.size w wr)) (fun i _ => l.length - (intOf i).toNat)
  case atStart => exact ⟨0, rfl, Nat.zero_le _, ⟨rfl⟩, ⟨Below.refl _ _⟩⟩
  case round =>
    obtain ⟨k, rfl, hk, HF, HB⟩ := hrel
    by_cases hlt : k < l.length
    · obtain ⟨ad, ea, x0, x1, x2⟩ := at_T55 HR.out (k : Int) (by omega) (by omega)
      rw [Int.toNat_natCast] at x0 x1 x2
      cases ea
      replace x0 := pw_cell_below HB.out x0
      replace x1 := pw_cell_below HB.out x1
      replace x2 := pw_cell_below HB.out x2
      have hgr := Aside0.mk (pw_cell_below HB.out HG.out)
      have HF' := HF.out
      rw [List.drop_eq_getElem_cons hlt] at HF'
      simp only [impl_Memory_pageOf.find] at HF'
      have hrd : rd_T55 l (k : Int) = l[k] := by unfold rd_T55; simp [List.getD_eq_getElem?_getD, List.getElem?_eq_getElem hlt]
      rw [hrd] at x0 x1 x2
      by_cases hq : (l[k].f0 == a - a % 256) = true
      · rw [if_pos hq] at HF'
        have HF := Aside0.mk HF'
        clear HF' hrd
        have HQ := Aside0.mk hq
        clear hq
        go_wp2_with (go_at_call 63; refine (impl_Memory_pageOf.closure _ _ _ a g _ hgr.out h0 h1).mono ?_; rintro e w' ⟨rfl, hb⟩; rw [HQ.out]; have HB2 := Aside0.mk (below_step HB.out hb); clear hb)
        go_ret
        exact ⟨by rw [HF.out]; rfl, HB2.out⟩
      · rw [if_neg hq] at HF'
        have HF := Aside0.mk HF'
        clear HF' hrd
        have HQ := Aside0.mk (Bool.eq_false_iff.2 hq)
        clear hq
        go_wp2_with (go_at_call 63; refine (impl_Memory_pageOf.closure _ _ _ a g _ hgr.out h0 h1).mono ?_; rintro e w' ⟨rfl, hb⟩; rw [HQ.out]; have HB2 := Aside0.mk (below_step HB.out hb); clear hb)
        go_roundw
        case rel => exact ⟨k + 1, by go_num, by omega, HF, HB2⟩
        case measure => simp [intOf]; omega
    · obtain rfl : k = l.length := by omega
      have HF' := HF.out
      rw [List.drop_length] at HF'
      have HF := Aside0.mk HF'
      clear HF'
      go_wp2
      go_ret
      exact ⟨by rw [HF.out]; rfl, HB.out⟩
def impl_Memory_pageOf.f (l0_0 : List S55) (a1 : Int) : Option (Int) :=
  if 0 ≤ a1 then (if a1 ≤ 65535 then some (impl_Memory_pageOf.find (a1 - a1 % 256) l0_0 0) else some (-1)) else some (-1)
set_option maxHeartbeats 4000000 in
set_option maxRecDepth 100000 in
theorem impl_Memory_pageOf.calls (A0_0 : Option Addr) (c0_0 : Nat) (l0_0 : List (S55)) (a1 : Int) (r : Int) (w : World) (hr0_0 : Kd.C k55 w A0_0 l0_0.length l0_0) (hc0_0 : l0_0.length ≤ c0_0) (h : impl_Memory_pageOf.f l0_0 a1 = some r) :
    Calls Try.prog 41 #[.agg #[.slice A0_0 l0_0.length c0_0], .int .i64 a1] w fun e w' => e = .returned (.int .i64 r) ∧ Below w.heap.size w w' := by
  have hu28 := Try.underlying28
  have hmf : ∀ (fn : Fn) (first cap : Array Value) (w : World), (Instr.makeFunc fn first cap).run Try.prog w = .ok (.func fn first cap) w := fun _ _ _ _ => rfl
  unfold impl_Memory_pageOf.f at h
  by_cases h0 : 0 ≤ a1
  · by_cases h1 : a1 ≤ 65535
    · rw [if_pos h0, if_pos h1] at h
      have HR := Aside0.mk hr0_0
      have H := Aside0.mk h
      have hin : impl_within.f a1 0 65535 = some true := by unfold impl_within.f; rw [if_pos h0]; congr 1; exact decide_eq_true h1
      have HIN := Aside0.mk hin
      clear hr0_0 hc0_0 h hin
      go_enter Try.func41, Try.ntmps41
      go_wp2_with (first | (go_at_call 53; refine (impl_within.calls _ _ _ _ _ HIN.out).mono ?_; rintro e w' ⟨rfl, ⟨nd, rfl⟩⟩) | (go_at_call 62; refine (impl_Memory_pageOf.index A0_0 c0_0 l0_0 a1 (w.heap.size + 1) _ (Kd.C_below HR.out (by repeat (first | exact Below.refl _ _ | apply below_alloc | apply pw_below_drewN | apply below_drew1))) (by go_simp) h0 h1).mono ?_; rintro e w' ⟨rfl, hb⟩))
      go_ret
      have hB : Below w.heap.size w (((w.alloc (Obj.cells #[Value.slice A0_0 l0_0.length c0_0] 28)).alloc (Obj.cells #[Value.int IntKind.i64 a1] 3)).drewN nd) := by repeat (first | exact Below.refl _ _ | apply below_alloc | apply pw_below_drewN | apply below_drew1)
      exact ⟨by rw [← Option.some.inj H.out]; rfl, below_step hB hb⟩
    · rw [if_pos h0, if_neg h1] at h
      have H := Aside0.mk h
      have hin : impl_within.f a1 0 65535 = some false := by unfold impl_within.f; rw [if_pos h0]; congr 1; exact decide_eq_false h1
      have HIN := Aside0.mk hin
      clear hr0_0 hc0_0 h hin
      go_enter Try.func41, Try.ntmps41
      go_wp2_with (go_at_call 53; refine (impl_within.calls _ _ _ _ _ HIN.out).mono ?_; rintro e w' ⟨rfl, ⟨nd, rfl⟩⟩)
      go_ret
      exact ⟨by rw [← Option.some.inj H.out]; rfl, by repeat (first | exact Below.refl _ _ | apply below_alloc | apply pw_below_drewN | apply below_drew1)⟩
  · rw [if_neg h0] at h
    have H := Aside0.mk h
    have hin : impl_within.f a1 0 65535 = some false := by unfold impl_within.f; rw [if_neg h0]
    have HIN := Aside0.mk hin
    clear hr0_0 hc0_0 h hin
    go_enter Try.func41, Try.ntmps41
    go_wp2_with (go_at_call 53; refine (impl_within.calls _ _ _ _ _ HIN.out).mono ?_; rintro e w' ⟨rfl, ⟨nd, rfl⟩⟩)
    go_ret
    exact ⟨by rw [← Option.some.inj H.out]; rfl, by repeat (first | exact Below.refl _ _ | apply below_alloc | apply pw_below_drewN | apply below_drew1)⟩


/-! ### impl_Page_64: function 64 -/
def impl_Page_64.f (l0 : List S55) : Option (List S55) := if l0.length < 4398046511104 then some l0 else none
set_option maxHeartbeats 4000000 in
set_option maxRecDepth 100000 in
theorem impl_Page_64.calls (A0 : Option Addr) (c0 : Nat) (l0 : List (S55)) (r : List (S55)) (w : World) (hr0 : Kd.C k55 w A0 l0.length l0) (hc0 : l0.length ≤ c0) (h : impl_Page_64.f l0 = some r) :
    Calls Try.prog 64 #[.slice A0 l0.length c0] w fun e w' => ∃ v0_ : Value, e = .returned (v0_) ∧ Kd.R k55 55 w' w.heap.size (fun _ => True) v0_ r ∧ Below w.heap.size w w' := by
  have qT : ∀ (w : World) (a : Option Addr) (n c n' c' : Nat), (binOp .eql 26 (.slice a n c) (.slice none n' c')).run Try.prog w = .ok (.bool a.isNone) w := fun w a n c n' c' => Lib.run_eql_slice_nil w _ _ a n c n' c' Try.underlying26
  unfold impl_Page_64.f at h
  by_cases hl : l0.length < 4398046511104
  · rw [if_pos hl] at h
    obtain rfl := Option.some.inj h
    clear h
    have HR := Aside0.mk hr0
    have LM := Aside0.mk hl
    clear hc0 hl
    cases A0 with
    | none =>
      have hnil : l0 = [] := by
        cases l0 with
        | nil => rfl
        | cons x xs =>
          obtain ⟨ad, e, _⟩ := hr0.2.2 (by simp)
          cases e
      subst hnil
      clear hr0
      go_enter Try.func64, Try.ntmps64
      go_wp2
      go_ret
      exact ⟨_, rfl, Kd.R_nil _ _ _ _ _, Below.refl _ _⟩
    | some ad =>
      clear hr0
      go_enter Try.func64, Try.ntmps64
      go_wp2_with (first | ((with_reducible refine gate_dst (N := 5) rfl ?_); refine Kd.R_lit k55 _ 55 ?hg (N := 5) ?hd (xs := ([] : List (S55))) (inner := []) (ok := fun _ => True) (okp := fun _ => True) ?hr ?hp (fun _ hk => hk) trivial (Below.refl _ _) (Nat.le_refl _) (by simp) ?_; (case hd => rfl); (case hg => rfl); (case hr => first | (go_simp; done) | (go_simp; rfl)); (case hp => exact (Reps.none _ _)); intro v1 w1 ho hb hg_ hnew_; clear hg_ hnew_; have HO1 := Aside0.mk ho; have HB := Aside0.mk hb; clear ho hb) | ((with_reducible refine gate_builtin (b := .append) (xs := #[.tmp 5, .tmp 6]) rfl ?_); at_builtin; refine Kd.R_append_rows k55 (w0 := w) w.heap.size rfl (.tmp 5) (.tmp 6) 26 55 (.agg #[(.int .i64 0), (.int .i64 0), (.string ⟨#[]⟩)]) 32 rfl Try.underlying26 info55 rfl (by decide) (by omega) v1 ([] : List S55) l0 _ _ _ (fun _ => True) (fun _ => False) rfl rfl ?aO ?aR (fun _ _ h => h) (fun _ h => h.elim) ?aF ?aB ?aS ?aL ?_; (case aR => exact (Kd.C_below HR.out HB.out)); (case aB => exact HB.out); (case aF => exact (fun _ _ => trivial)); (case aO => exact HO1.out); (case aS => exact HB.out.size); (case aL => have := LM.out; simp only [List.length_nil]; omega); intro v2 w2 ho hb hg hat; rw [List.nil_append] at ho; have HO2 := Aside0.mk ho; have HB2 := Aside0.mk hb; clear ho hb hg hat))
      go_ret
      exact ⟨_, rfl, HO2.out, HB2.out⟩
  · rw [if_neg hl] at h
    exact absurd h (by simp)


/-! ### impl_copyMemory: function 42 -/
def impl_copyMemory.f (l0_0 : List (S55)) : Option ((List (S55))) := (impl_Page_64.f l0_0).bind fun t183 => (some t183)
set_option maxHeartbeats 8000000 in
set_option maxRecDepth 100000 in
theorem impl_copyMemory.calls (A0_0 : Option Addr) (c0_0 : Nat) (l0_0 : List (S55)) (r : List (S55)) (w : World) (hr0_0 : Kd.C k55 w A0_0 l0_0.length l0_0) (hc0_0 : l0_0.length ≤ c0_0) (h : impl_copyMemory.f l0_0 = some r) :
    Calls Try.prog 42 #[.agg #[.slice A0_0 l0_0.length c0_0]] w fun e w' => ∃ v0_ : Value, e = .returned (.agg #[v0_]) ∧ Kd.R k55 55 w' w.heap.size (fun _ => True) v0_ r ∧ Below w.heap.size w w' := by
  have hu28 := Try.underlying28
  have HR0_0 := Aside0.mk hr0_0
  have HC0_0 := Aside0.mk hc0_0
  clear hr0_0 hc0_0
  have HB := Aside0.mk (Below.refl w.heap.size w)
  have H : ((impl_Page_64.f l0_0).bind fun t183 => (some t183)) = some r := h
  clear h
  replace H := Option.bind_eq_some_iff.mp H
  obtain ⟨t183, A20, H⟩ := H
  replace H : (some t183) = some r := H
  have A2 := Aside0.mk A20
  clear A20
  obtain rfl := Option.some.inj H
  go_enter Try.func42, Try.ntmps42
  go_wp2_with (first | ((with_reducible refine gate_dst (N := 1) rfl ?_); refine box_event ?hg (N := 1) ?hd (cs := #[.slice A0_0 l0_0.length c0_0]) (t := 28) ?hr ?_; (case hd => rfl); (case hg => rfl); (case hr => first | (go_simp; done) | (go_simp; rfl)); intro gb181 hg w3 hbox hb; have n0_ := Aside0.mk (below_step (by repeat (first | (with_reducible first | exact HB.out | apply below_alloc | apply pw_below_drewN | apply below_drew1) | exact HB.out)) hb); have n1_ := Aside0.mk (hbox); have n2_ := Aside0.mk ((by rw [hg]; exact (below_size (by repeat (first | (with_reducible first | exact HB.out | apply below_alloc | apply pw_below_drewN | apply below_drew1) | exact HB.out))) : w.heap.size ≤ gb181)); have n3_ := Aside0.mk ((by rw [hg]; exact (below_size (by repeat (first | (with_reducible first | exact HB.out | apply below_alloc | apply pw_below_drewN | apply below_drew1) | exact HB.out))) : w.heap.size ≤ gb181)); clear HB; have HB := n0_; have BK181 := n1_; have GW181 := n2_; have GE181 := n3_; clear n0_ n1_ n2_ n3_; clear hb hbox hg) | ((with_reducible refine gate_dst (N := 2) rfl ?_); refine box_event ?hg (N := 2) ?hd (cs := #[.slice none 0 0]) (t := 28) ?hr ?_; (case hd => rfl); (case hg => rfl); (case hr => first | (go_simp; done) | (go_simp; rfl)); intro gb182 hg w4 hbox hb; have n0_ := Aside0.mk (blk_below (g := gb181) (o := .cells #[.slice A0_0 l0_0.length c0_0] 28 (0, 0)) (by (with_reducible repeat (first | refine blk_drewN ?_ _ | refine blk_drew ?_ | refine blk_alloc ?_ _)); exact BK181.out) hb); have n1_ := Aside0.mk (below_step (by repeat (first | (with_reducible first | exact HB.out | apply below_alloc | apply pw_below_drewN | apply below_drew1 | refine below_set ?_ GE181.out) | exact HB.out)) hb); have n2_ := Aside0.mk (hbox); have n3_ := Aside0.mk ((by rw [hg]; exact (below_size (by repeat (first | (with_reducible first | exact HB.out | apply below_alloc | apply pw_below_drewN | apply below_drew1 | refine below_set ?_ GE181.out) | exact HB.out))) : w.heap.size ≤ gb182)); have n4_ := Aside0.mk ((by rw [hg]; exact (below_size (by repeat (first | (with_reducible first | exact HB.out | apply below_alloc | apply pw_below_drewN | apply below_drew1 | refine below_set ?_ GE181.out) | exact HB.out))) : w.heap.size ≤ gb182)); have n5_ := Aside0.mk ((by rw [hg]; exact Nat.ne_of_lt (blk_lt (g := gb181) (o := .cells #[.slice A0_0 l0_0.length c0_0] 28 (0, 0)) (by (with_reducible repeat (first | refine blk_drewN ?_ _ | refine blk_drew ?_ | refine blk_alloc ?_ _)); exact BK181.out)) : gb181 ≠ gb182)); have n6_ := Aside0.mk ((by rw [hg]; exact Nat.ne_of_gt (blk_lt (g := gb181) (o := .cells #[.slice A0_0 l0_0.length c0_0] 28 (0, 0)) (by (with_reducible repeat (first | refine blk_drewN ?_ _ | refine blk_drew ?_ | refine blk_alloc ?_ _)); exact BK181.out)) : gb182 ≠ gb181)); clear BK181; clear HB; have BK181 := n0_; have HB := n1_; have BK182 := n2_; have GW182 := n3_; have GE182 := n4_; have NB181_182 := n5_; have NB182_181 := n6_; clear n0_ n1_ n2_ n3_ n4_ n5_ n6_; clear hb hbox hg; have hnb5 := NB181_182.out; have hnc5 := NB182_181.out; have hcz6_0 : w4.cell? ⟨gb181, 0, none⟩ = some (.slice A0_0 l0_0.length c0_0) := (blk_cell BK181.out 0).trans rfl; have hfz6_0 := blk_frozen BK181.out 0) | ((with_reducible refine gate_callee (f := 64) rfl ?_); refine goesL_ (some 5) rfl rfl Try.func64 (by kernel_rfl) rfl #[.slice A0_0 l0_0.length c0_0] rfl (by (try simp only [List.map_toArray, List.map_cons, List.map_nil]); first | done | rfl | (simp only [List.length_drop, List.length_take]; rfl)) ?_; (with_reducible refine (impl_Page_64.calls _ _ l0_0 t183 _ ?side1 ?side2 A2.out).mono ?_); (case side1 => repeat (first | exact (Kd.C_below HR0_0.out HB.out) | (with_reducible refine Kd.C_alloc ?_ _) | (with_reducible refine Kd.C_drewN ?_ _) | (with_reducible refine Kd.C_drew ?_))); (case side2 => exact HC0_0.out); rintro e w7 ⟨v184, rfl, ho0, hb⟩; refine ⟨_, rfl, ?_⟩; have n0_ := Aside0.mk (Kd.R_lower ho0 (below_size (by repeat (first | (with_reducible first | exact HB.out | apply below_alloc | apply pw_below_drewN | apply below_drew1 | refine below_set ?_ GE181.out | refine below_set ?_ GE182.out) | exact HB.out)))); have n1_ := Aside0.mk (blk_below (g := gb181) (o := .cells #[.slice A0_0 l0_0.length c0_0] 28 (0, 0)) (by (with_reducible repeat (first | refine blk_drewN ?_ _ | refine blk_drew ?_ | refine blk_alloc ?_ _)); exact BK181.out) hb); have n2_ := Aside0.mk (blk_below (g := gb182) (o := .cells #[.slice none 0 0] 28 (0, 0)) (by (with_reducible repeat (first | refine blk_drewN ?_ _ | refine blk_drew ?_ | refine blk_alloc ?_ _)); exact BK182.out) hb); have n3_ := Aside0.mk (below_step (by repeat (first | (with_reducible first | exact HB.out | apply below_alloc | apply pw_below_drewN | apply below_drew1 | refine below_set ?_ GE181.out | refine below_set ?_ GE182.out) | exact HB.out)) hb); clear BK181; clear BK182; clear HB; have HO185 := n0_; have BK181 := n1_; have BK182 := n2_; have HB := n3_; clear n0_ n1_ n2_ n3_; (try clear hb); (try clear hb2); (try clear hk); (try clear hi); (try clear ho0); obtain ⟨Ao8, co8, eo8⟩ := Kd.R_slice HO185.out; subst eo8; have hcz9_0 : w7.cell? ⟨gb182, 0, none⟩ = some (.slice none 0 0) := (blk_cell BK182.out 0).trans rfl; have hfz9_0 := blk_frozen BK182.out 0))
  refine bodyPost_ret (results_cell_row rfl _ _ gb182 28 #[.slice Ao8 t183.length co8] (0, 0) _ rfl (by (with_reducible repeat (first | refine blk_drewN ?_ _ | refine blk_drew ?_ | refine blk_alloc ?_ _)); refine blk_put (cs := #[.slice none 0 0]) ?_ 0 _ rfl; (with_reducible repeat (first | refine blk_drewN ?_ _ | refine blk_drew ?_ | refine blk_alloc ?_ _)); exact BK182.out) Try.underlying28 rfl (by kernel_rfl)) rfl ?_
  exact ⟨_, by first | rfl | (simp [errW_none, errW_some] <;> rfl) | (simp [*, errW_none, errW_some] <;> rfl), by (with_reducible repeat (first | apply Kd.R_alloc | apply Kd.R_drewN | apply Kd.R_drew)); exact Kd.R_mono (Kd.R_far (p := ⟨gb182, 0, none⟩) (Kd.R_types HO185.out BK182.out (by decide)) (fun _ hk => hk.2) (.slice Ao8 t183.length co8)) (fun _ hk => trivial), by repeat (first | (with_reducible first | exact HB.out | apply below_alloc | apply pw_below_drewN | apply below_drew1 | refine below_set ?_ GE181.out | refine below_set ?_ GE182.out) | exact HB.out)⟩

-- NOT PRINTED: function 76 (impl_Page_76)

/-! ### strings_Repeat: function 44 -/
/-- Short copies of a text. -/
def strings_Repeat.f (a0 : ByteArray) (a1 : Int) : Option (ByteArray) := if a0.size ≤ 1000 ∧ 0 ≤ a1 ∧ a1 ≤ 1000 then some ⟨(Lib.repeatL a0.data.toList a1.toNat).toArray⟩ else none
theorem strings_Repeat.calls (a0 : ByteArray) (a1 : Int) (r : ByteArray) (w : World) (h : strings_Repeat.f a0 a1 = some r) :
    Calls Try.prog 44 #[.string a0, .int .i64 a1] w fun e w' => e = .returned (.string r) ∧ Below w.heap.size w w' := by
  unfold strings_Repeat.f at h
  by_cases h0 : a0.size ≤ 1000 ∧ 0 ≤ a1 ∧ a1 ≤ 1000
  · rw [if_pos h0] at h
    obtain rfl := Option.some.inj h
    obtain ⟨h0, h1, h2⟩ := h0
    have e : a1 = (a1.toNat : Int) := (Int.toNat_of_nonneg h1).symm
    have hp : a0.size * a1.toNat ≤ 1000 * 1000 := Nat.mul_le_mul h0 (by omega)
    have hr := Try.strings_Repeat a0 a1.toNat w (by omega) (by omega)
    rw [← e] at hr
    exact hr
  · rw [if_neg h0] at h
    cases h
end Go.Proofs.Ytmldfchddccncaa.PFnExactAddPage
