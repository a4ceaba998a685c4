-- Written for this claim by the session's own program, out of the translation. Not trusted: Lean checks it.
import Derived.Test.YtmldfchddccncaaPFnExactPutBytesx0
import Derived.Test.YtmldfchddccncaaPFnExactPutBytesx1
import Derived.Test.YtmldfchddccncaaPFnExactPutBytesx2
import Derived.Test.YtmldfchddccncaaPFnExactPutBytesx4
import Derived.Test.YtmldfchddccncaaPFnExactPutBytesx5
namespace Go.Proofs.Ytmldfchddccncaa.PFnExactPutBytes
open Go.RowKit Go.Proofs.YtmldfchddccncaaW.PrintWords Go.Proofs.YtmldfchddccncaaW.PrintLast Go.Proofs.YtmldfchddccncaaW.PrintMore
attribute [local go_sem] max2_int min2_int max_two min_two max_three min_three max_four min_four   -- for this text's walks alone
set_option linter.unusedVariables false
set_option linter.unusedSimpArgs false

/-! ### laws_FnExactPutBytes: function 10 -/
mutual
def laws_FnExactPutBytes.j0 : Nat → Int → ByteArray → Int → Int → Bool → List (S66) → List (S55) → List (S55) → List (S55) → Option (Bool)
  | 0, _, _, _, _, _, _, _, _, _ => none
  | k + 1, x1, x2, x9, x12, x51, x194000, x203000, x207000, x212000 => if x51 = true then (some false) else ((laws_toMemory.f k x194000).bind fun t213 => ((laws_eqMemory.f k x207000 t213).bind fun t216 => (if t216 = true then ((laws_markMemory.f k x207000 1).bind fun bt217 => (if bt217.1 < 0 then (laws_FnExactPutBytes.j1 k x1 x2 x9 true x194000 x203000 x212000) else ((laws_eqMemory.f k x212000 x203000).bind fun t219 => (if t219 = true then (laws_FnExactPutBytes.j1 k x1 x2 x9 (x12 != x9) x194000 x203000 x212000) else (laws_FnExactPutBytes.j1 k x1 x2 x9 true x194000 x203000 x212000))))) else (some false))))
def laws_FnExactPutBytes.j1 : Nat → Int → ByteArray → Int → Bool → List (S66) → List (S55) → List (S55) → Option (Bool)
  | 0, _, _, _, _, _, _, _ => none
  | k + 1, x1, x2, x9, x72, x194000, x203000, x212000 => if x72 = true then (some false) else ((laws_markMemory.f k x212000 1).bind fun bt220 => ((laws_heldMemory.f k bt220.2 1).bind fun t222 => (if t222 < 0 then (some false) else (if t222 = bt220.1 then ((laws_toMemory.f k x194000).bind fun t223 => ((impl_PutBytes.f k t223 x1 x2).bind fun bt226 => ((laws_eqMemory.f k bt226.1 x203000).bind fun t231 => (if t231 = true then (laws_FnExactPutBytes.j2 k bt220.1 (bt226.2 != x9) bt220.2) else (laws_FnExactPutBytes.j2 k bt220.1 true bt220.2))))) else (some false)))))
def laws_FnExactPutBytes.j2 : Nat → Int → Bool → List (S55) → Option (Bool)
  | 0, _, _, _ => none
  | k + 1, x14, x100, x212000 => if x100 = true then (some false) else ((laws_heldMemory.f k x212000 1).bind fun t232 => (if t232 < 0 then (some false) else (if t232 = x14 then (some true) else (some false))))
end
def laws_FnExactPutBytes.f (k : Nat) (l0_0 : List (S66)) (a1 : Int) (a2 : ByteArray) : Option (Bool) := if (a2.size : Int) > 1048576 then (some true) else ((laws_szMemory.f k l0_0 1048576).bind fun t194 => (if t194 < 0 then (some true) else ((laws_toMemory.f k l0_0).bind fun t195 => ((spec_PutBytes.f k t195 a1 a2).bind fun bt198 => ((laws_toMemory.f k l0_0).bind fun t203 => ((impl_PutBytes.f k t203 a1 a2).bind fun bt207 => ((laws_eqMemory.f k bt207.1 bt198.1).bind fun t212 => (if t212 = true then (laws_FnExactPutBytes.j0 k a1 a2 bt198.2 bt207.2 (bt207.2 != bt198.2) l0_0 bt198.1 t203 bt207.1) else (laws_FnExactPutBytes.j0 k a1 a2 bt198.2 bt207.2 true l0_0 bt198.1 t203 bt207.1)))))))))
theorem laws_FnExactPutBytes.mono_l : ∀ k, (∀ y0 y1 y2 y3 y4 y5 y6 y7 y8, LeO (laws_FnExactPutBytes.j0 k y0 y1 y2 y3 y4 y5 y6 y7 y8) (laws_FnExactPutBytes.j0 (k + 1) y0 y1 y2 y3 y4 y5 y6 y7 y8)) ∧ (∀ y0 y1 y2 y3 y4 y5 y6, LeO (laws_FnExactPutBytes.j1 k y0 y1 y2 y3 y4 y5 y6) (laws_FnExactPutBytes.j1 (k + 1) y0 y1 y2 y3 y4 y5 y6)) ∧ (∀ y0 y1 y2, LeO (laws_FnExactPutBytes.j2 k y0 y1 y2) (laws_FnExactPutBytes.j2 (k + 1) y0 y1 y2))
  | 0 => ⟨fun _ _ _ _ _ _ _ _ _ r h => by simp [laws_FnExactPutBytes.j0] at h, fun _ _ _ _ _ _ _ r h => by simp [laws_FnExactPutBytes.j1] at h, fun _ _ _ r h => by simp [laws_FnExactPutBytes.j2] at h⟩
  | k + 1 => by
    obtain ⟨ih0, ih1, ih2⟩ := laws_FnExactPutBytes.mono_l k
    refine ⟨?_, ?_, ?_⟩
    · intro y0 y1 y2 y3 y4 y5 y6 y7 y8
      unfold laws_FnExactPutBytes.j0
      repeat' first
      | (with_reducible exact ih0 _ _ _ _ _ _ _ _ _)
      | (with_reducible exact ih1 _ _ _ _ _ _ _)
      | (with_reducible exact ih2 _ _ _)
      | (with_reducible exact impl_PutBytes.mono _ _ _ _)
      | (with_reducible exact laws_eqMemory.mono _ _ _)
      | (with_reducible exact laws_heldMemory.mono _ _ _)
      | (with_reducible exact laws_markMemory.mono _ _ _)
      | (with_reducible exact laws_szMemory.mono _ _ _)
      | (with_reducible exact laws_toMemory.mono _ _)
      | (with_reducible exact spec_PutBytes.mono _ _ _ _)
      | (with_reducible exact LeO.refl _)
      | (with_reducible exact LeO.none _)
      | (with_reducible refine LeO.ite ?_ ?_)
      | (with_reducible refine LeO.bind ?_ (fun _ => ?_))
      | exact ih0 _ _ _ _ _ _ _ _ _
      | exact ih1 _ _ _ _ _ _ _
      | exact ih2 _ _ _
      | exact impl_PutBytes.mono _ _ _ _
      | exact laws_eqMemory.mono _ _ _
      | exact laws_heldMemory.mono _ _ _
      | exact laws_markMemory.mono _ _ _
      | exact laws_szMemory.mono _ _ _
      | exact laws_toMemory.mono _ _
      | exact spec_PutBytes.mono _ _ _ _
      | exact LeO.none _
      | refine LeO.ite ?_ ?_
      | refine LeO.bind ?_ (fun _ => ?_)
    · intro y0 y1 y2 y3 y4 y5 y6
      unfold laws_FnExactPutBytes.j1
      repeat' first
      | (with_reducible exact ih0 _ _ _ _ _ _ _ _ _)
      | (with_reducible exact ih1 _ _ _ _ _ _ _)
      | (with_reducible exact ih2 _ _ _)
      | (with_reducible exact impl_PutBytes.mono _ _ _ _)
      | (with_reducible exact laws_eqMemory.mono _ _ _)
      | (with_reducible exact laws_heldMemory.mono _ _ _)
      | (with_reducible exact laws_markMemory.mono _ _ _)
      | (with_reducible exact laws_szMemory.mono _ _ _)
      | (with_reducible exact laws_toMemory.mono _ _)
      | (with_reducible exact spec_PutBytes.mono _ _ _ _)
      | (with_reducible exact LeO.refl _)
      | (with_reducible exact LeO.none _)
      | (with_reducible refine LeO.ite ?_ ?_)
      | (with_reducible refine LeO.bind ?_ (fun _ => ?_))
      | exact ih0 _ _ _ _ _ _ _ _ _
      | exact ih1 _ _ _ _ _ _ _
      | exact ih2 _ _ _
      | exact impl_PutBytes.mono _ _ _ _
      | exact laws_eqMemory.mono _ _ _
      | exact laws_heldMemory.mono _ _ _
      | exact laws_markMemory.mono _ _ _
      | exact laws_szMemory.mono _ _ _
      | exact laws_toMemory.mono _ _
      | exact spec_PutBytes.mono _ _ _ _
      | exact LeO.none _
      | refine LeO.ite ?_ ?_
      | refine LeO.bind ?_ (fun _ => ?_)
    · intro y0 y1 y2
      unfold laws_FnExactPutBytes.j2
      repeat' first
      | (with_reducible exact ih0 _ _ _ _ _ _ _ _ _)
      | (with_reducible exact ih1 _ _ _ _ _ _ _)
      | (with_reducible exact ih2 _ _ _)
      | (with_reducible exact impl_PutBytes.mono _ _ _ _)
      | (with_reducible exact laws_eqMemory.mono _ _ _)
      | (with_reducible exact laws_heldMemory.mono _ _ _)
      | (with_reducible exact laws_markMemory.mono _ _ _)
      | (with_reducible exact laws_szMemory.mono _ _ _)
      | (with_reducible exact laws_toMemory.mono _ _)
      | (with_reducible exact spec_PutBytes.mono _ _ _ _)
      | (with_reducible exact LeO.refl _)
      | (with_reducible exact LeO.none _)
      | (with_reducible refine LeO.ite ?_ ?_)
      | (with_reducible refine LeO.bind ?_ (fun _ => ?_))
      | exact ih0 _ _ _ _ _ _ _ _ _
      | exact ih1 _ _ _ _ _ _ _
      | exact ih2 _ _ _
      | exact impl_PutBytes.mono _ _ _ _
      | exact laws_eqMemory.mono _ _ _
      | exact laws_heldMemory.mono _ _ _
      | exact laws_markMemory.mono _ _ _
      | exact laws_szMemory.mono _ _ _
      | exact laws_toMemory.mono _ _
      | exact spec_PutBytes.mono _ _ _ _
      | exact LeO.none _
      | refine LeO.ite ?_ ?_
      | refine LeO.bind ?_ (fun _ => ?_)
theorem laws_FnExactPutBytes.mono : ∀ a0 a1 a2 k, LeO (laws_FnExactPutBytes.f k a0 a1 a2) (laws_FnExactPutBytes.f (k + 1) a0 a1 a2) := by
  intro a0 a1 a2 k
  obtain ⟨ih0, ih1, ih2⟩ := laws_FnExactPutBytes.mono_l k
  unfold laws_FnExactPutBytes.f
  repeat' first
      | (with_reducible exact ih0 _ _ _ _ _ _ _ _ _)
      | (with_reducible exact ih1 _ _ _ _ _ _ _)
      | (with_reducible exact ih2 _ _ _)
      | (with_reducible exact impl_PutBytes.mono _ _ _ _)
      | (with_reducible exact laws_eqMemory.mono _ _ _)
      | (with_reducible exact laws_heldMemory.mono _ _ _)
      | (with_reducible exact laws_markMemory.mono _ _ _)
      | (with_reducible exact laws_szMemory.mono _ _ _)
      | (with_reducible exact laws_toMemory.mono _ _)
      | (with_reducible exact spec_PutBytes.mono _ _ _ _)
      | (with_reducible exact LeO.refl _)
      | (with_reducible exact LeO.none _)
      | (with_reducible refine LeO.ite ?_ ?_)
      | (with_reducible refine LeO.bind ?_ (fun _ => ?_))
      | exact ih0 _ _ _ _ _ _ _ _ _
      | exact ih1 _ _ _ _ _ _ _
      | exact ih2 _ _ _
      | exact impl_PutBytes.mono _ _ _ _
      | exact laws_eqMemory.mono _ _ _
      | exact laws_heldMemory.mono _ _ _
      | exact laws_markMemory.mono _ _ _
      | exact laws_szMemory.mono _ _ _
      | exact laws_toMemory.mono _ _
      | exact spec_PutBytes.mono _ _ _ _
      | exact LeO.none _
      | refine LeO.ite ?_ ?_
      | refine LeO.bind ?_ (fun _ => ?_)
set_option maxHeartbeats 8000000 in
set_option maxRecDepth 100000 in
theorem laws_FnExactPutBytes.calls (k : Nat) (A0_0 : Option Addr) (c0_0 : Nat) (l0_0 : List (S66)) (a1 : Int) (a2 : ByteArray) (r : Bool) (w : World) (hr0_0 : Kd.C k66 w A0_0 l0_0.length l0_0) (hc0_0 : l0_0.length ≤ c0_0) (h : laws_FnExactPutBytes.f k l0_0 a1 a2 = some r) :
    Calls Try.prog 10 #[.agg #[.slice A0_0 l0_0.length c0_0], .int .i64 a1, .string a2] w fun e w' => e = .returned (.bool r) ∧ Below w.heap.size w w' := by
  have hu24 := Try.underlying24
  have hu28 := Try.underlying28
  have HR0_0 := Aside0.mk hr0_0
  have HC0_0 := Aside0.mk hc0_0
  clear hr0_0 hc0_0
  have HB := Aside0.mk (Below.refl w.heap.size w)
  have H : (if (a2.size : Int) > 1048576 then (some true) else ((laws_szMemory.f k l0_0 1048576).bind fun t194 => (if t194 < 0 then (some true) else ((laws_toMemory.f k l0_0).bind fun t195 => ((spec_PutBytes.f k t195 a1 a2).bind fun bt198 => ((laws_toMemory.f k l0_0).bind fun t203 => ((impl_PutBytes.f k t203 a1 a2).bind fun bt207 => ((laws_eqMemory.f k bt207.1 bt198.1).bind fun t212 => (if t212 = true then (laws_FnExactPutBytes.j0 k a1 a2 bt198.2 bt207.2 (bt207.2 != bt198.2) l0_0 bt198.1 t203 bt207.1) else (laws_FnExactPutBytes.j0 k a1 a2 bt198.2 bt207.2 true l0_0 bt198.1 t203 bt207.1)))))))))) = some r := h
  clear h
  by_cases c4 : (a2.size : Int) > 1048576
  · rw [if_pos c4] at H
    have c4b0 : decide (1048576 < (a2.size : Int)) = true := decide_eq_true c4
    have c4b1 : decide (1048576 < a2.size) = true := decide_eq_true (by omega)
    clear c4
    obtain rfl := Option.some.inj H
    go_enter Try.func10, Try.ntmps10
    go_wp2_with (first | ((with_reducible refine gate_dst (N := 3) rfl ?_); refine box_event ?hg (N := 3) ?hd (cs := #[.slice A0_0 l0_0.length c0_0]) (t := 24) ?hr ?_; (case hd => rfl); (case hg => rfl); (case hr => first | (go_simp; done) | (go_simp; rfl)); intro gb193 hg w5 hbox hb; have n0_ := Aside0.mk (below_step (by repeat (first | (with_reducible first | exact HB.out | apply below_alloc | apply pw_below_drewN | apply below_drew1) | exact HB.out)) hb); have n1_ := Aside0.mk (hbox); have n2_ := Aside0.mk ((by rw [hg]; exact (below_size (by repeat (first | (with_reducible first | exact HB.out | apply below_alloc | apply pw_below_drewN | apply below_drew1) | exact HB.out))) : w.heap.size ≤ gb193)); have n3_ := Aside0.mk ((by rw [hg]; exact (below_size (by repeat (first | (with_reducible first | exact HB.out | apply below_alloc | apply pw_below_drewN | apply below_drew1) | exact HB.out))) : w.heap.size ≤ gb193)); clear HB; have HB := n0_; have BK193 := n1_; have GW193 := n2_; have GE193 := n3_; clear n0_ n1_ n2_ n3_; clear hb hbox hg))
    go_ret
    exact ⟨by first | rfl | (simp [errW_none, errW_some] <;> rfl) | (simp [*, errW_none, errW_some] <;> rfl), by repeat (first | (with_reducible first | exact HB.out | apply below_alloc | apply pw_below_drewN | apply below_drew1 | refine below_set ?_ GE193.out) | exact HB.out)⟩
  · rw [if_neg c4] at H
    have c4b0 : decide (1048576 < (a2.size : Int)) = false := decide_eq_false c4
    have c4b1 : decide (1048576 < a2.size) = false := decide_eq_false (by omega)
    clear c4
    replace H := Option.bind_eq_some_iff.mp H
    obtain ⟨t194, A60, H⟩ := H
    replace H : (if t194 < 0 then (some true) else ((laws_toMemory.f k l0_0).bind fun t195 => ((spec_PutBytes.f k t195 a1 a2).bind fun bt198 => ((laws_toMemory.f k l0_0).bind fun t203 => ((impl_PutBytes.f k t203 a1 a2).bind fun bt207 => ((laws_eqMemory.f k bt207.1 bt198.1).bind fun t212 => (if t212 = true then (laws_FnExactPutBytes.j0 k a1 a2 bt198.2 bt207.2 (bt207.2 != bt198.2) l0_0 bt198.1 t203 bt207.1) else (laws_FnExactPutBytes.j0 k a1 a2 bt198.2 bt207.2 true l0_0 bt198.1 t203 bt207.1)))))))) = some r := H
    have A6 := Aside0.mk A60
    clear A60
    by_cases c7 : t194 < 0
    · rw [if_pos c7] at H
      have c7b0 : decide (t194 < 0) = true := decide_eq_true c7
      clear c7
      obtain rfl := Option.some.inj H
      go_enter Try.func10, Try.ntmps10
      go_wp2_with (first | ((with_reducible refine gate_dst (N := 3) rfl ?_); refine box_event ?hg (N := 3) ?hd (cs := #[.slice A0_0 l0_0.length c0_0]) (t := 24) ?hr ?_; (case hd => rfl); (case hg => rfl); (case hr => first | (go_simp; done) | (go_simp; rfl)); intro gb193 hg w8 hbox hb; have n0_ := Aside0.mk (below_step (by repeat (first | (with_reducible first | exact HB.out | apply below_alloc | apply pw_below_drewN | apply below_drew1) | exact HB.out)) hb); have n1_ := Aside0.mk (hbox); have n2_ := Aside0.mk ((by rw [hg]; exact (below_size (by repeat (first | (with_reducible first | exact HB.out | apply below_alloc | apply pw_below_drewN | apply below_drew1) | exact HB.out))) : w.heap.size ≤ gb193)); have n3_ := Aside0.mk ((by rw [hg]; exact (below_size (by repeat (first | (with_reducible first | exact HB.out | apply below_alloc | apply pw_below_drewN | apply below_drew1) | exact HB.out))) : w.heap.size ≤ gb193)); clear HB; have HB := n0_; have BK193 := n1_; have GW193 := n2_; have GE193 := n3_; clear n0_ n1_ n2_ n3_; clear hb hbox hg; have hcz9_0 : w8.cell? ⟨gb193, 0, none⟩ = some (.slice A0_0 l0_0.length c0_0) := (blk_cell BK193.out 0).trans rfl; have hfz9_0 := blk_frozen BK193.out 0) | ((with_reducible refine gate_callee (f := 11) rfl ?_); refine goesL_ (some 23) rfl rfl Try.func11 (by kernel_rfl) rfl #[.agg #[.slice A0_0 l0_0.length c0_0], .int .i64 1048576] rfl (by (try simp only [List.map_toArray, List.map_cons, List.map_nil]); first | done | rfl | (simp only [List.length_drop, List.length_take]; rfl)) ?_; (with_reducible refine (laws_szMemory.calls k _ _ l0_0 1048576 t194 _ ?side1 ?side2 A6.out).mono ?_); (case side1 => repeat (first | exact (Kd.C_below HR0_0.out HB.out) | (with_reducible refine Kd.C_alloc ?_ _) | (with_reducible refine Kd.C_drewN ?_ _) | (with_reducible refine Kd.C_drew ?_))); (case side2 => exact HC0_0.out); rintro e w10 ⟨rfl, hb⟩; refine ⟨_, rfl, ?_⟩; have n0_ := Aside0.mk (blk_below (g := gb193) (o := .cells #[.slice A0_0 l0_0.length c0_0] 24 (0, 0)) (by (with_reducible repeat (first | refine blk_drewN ?_ _ | refine blk_drew ?_ | refine blk_alloc ?_ _)); exact BK193.out) hb); have n1_ := Aside0.mk (below_step (by repeat (first | (with_reducible first | exact HB.out | apply below_alloc | apply pw_below_drewN | apply below_drew1 | refine below_set ?_ GE193.out) | exact HB.out)) hb); clear BK193; clear HB; have BK193 := n0_; have HB := n1_; clear n0_ n1_; (try clear hb); (try clear hb2); (try clear hk); (try clear hi)))
      go_ret
      exact ⟨by first | rfl | (simp [errW_none, errW_some] <;> rfl) | (simp [*, errW_none, errW_some] <;> rfl), by repeat (first | (with_reducible first | exact HB.out | apply below_alloc | apply pw_below_drewN | apply below_drew1 | refine below_set ?_ GE193.out) | exact HB.out)⟩
    · rw [if_neg c7] at H
      have c7b0 : decide (t194 < 0) = false := decide_eq_false c7
      clear c7
      replace H := Option.bind_eq_some_iff.mp H
      obtain ⟨t195, A110, H⟩ := H
      replace H : ((spec_PutBytes.f k t195 a1 a2).bind fun bt198 => ((laws_toMemory.f k l0_0).bind fun t203 => ((impl_PutBytes.f k t203 a1 a2).bind fun bt207 => ((laws_eqMemory.f k bt207.1 bt198.1).bind fun t212 => (if t212 = true then (laws_FnExactPutBytes.j0 k a1 a2 bt198.2 bt207.2 (bt207.2 != bt198.2) l0_0 bt198.1 t203 bt207.1) else (laws_FnExactPutBytes.j0 k a1 a2 bt198.2 bt207.2 true l0_0 bt198.1 t203 bt207.1)))))) = some r := H
      have A11 := Aside0.mk A110
      clear A110
      replace H := Option.bind_eq_some_iff.mp H
      obtain ⟨⟨t198, t201⟩, A120, H⟩ := H
      replace H : ((laws_toMemory.f k l0_0).bind fun t203 => ((impl_PutBytes.f k t203 a1 a2).bind fun bt207 => ((laws_eqMemory.f k bt207.1 t198).bind fun t212 => (if t212 = true then (laws_FnExactPutBytes.j0 k a1 a2 t201 bt207.2 (bt207.2 != t201) l0_0 t198 t203 bt207.1) else (laws_FnExactPutBytes.j0 k a1 a2 t201 bt207.2 true l0_0 t198 t203 bt207.1))))) = some r := H
      have A12 := Aside0.mk A120
      clear A120
      replace H := Option.bind_eq_some_iff.mp H
      obtain ⟨t203, A130, H⟩ := H
      replace H : ((impl_PutBytes.f k t203 a1 a2).bind fun bt207 => ((laws_eqMemory.f k bt207.1 t198).bind fun t212 => (if t212 = true then (laws_FnExactPutBytes.j0 k a1 a2 t201 bt207.2 (bt207.2 != t201) l0_0 t198 t203 bt207.1) else (laws_FnExactPutBytes.j0 k a1 a2 t201 bt207.2 true l0_0 t198 t203 bt207.1)))) = some r := H
      have A13 := Aside0.mk A130
      clear A130
      replace H := Option.bind_eq_some_iff.mp H
      obtain ⟨⟨t207, t210⟩, A140, H⟩ := H
      replace H : ((laws_eqMemory.f k t207 t198).bind fun t212 => (if t212 = true then (laws_FnExactPutBytes.j0 k a1 a2 t201 t210 (t210 != t201) l0_0 t198 t203 t207) else (laws_FnExactPutBytes.j0 k a1 a2 t201 t210 true l0_0 t198 t203 t207))) = some r := H
      have A14 := Aside0.mk A140
      clear A140
      have HC15 := Aside0.mk H
      clear H
      go_enter Try.func10, Try.ntmps10
      go_upto_region 10 with (first | ((with_reducible refine gate_dst (N := 3) rfl ?_); refine box_event ?hg (N := 3) ?hd (cs := #[.slice A0_0 l0_0.length c0_0]) (t := 24) ?hr ?_; (case hd => rfl); (case hg => rfl); (case hr => first | (go_simp; done) | (go_simp; rfl)); intro gb193 hg w16 hbox hb; have n0_ := Aside0.mk (below_step (by repeat (first | (with_reducible first | exact HB.out | apply below_alloc | apply pw_below_drewN | apply below_drew1) | exact HB.out)) hb); have n1_ := Aside0.mk (hbox); have n2_ := Aside0.mk ((by rw [hg]; exact (below_size (by repeat (first | (with_reducible first | exact HB.out | apply below_alloc | apply pw_below_drewN | apply below_drew1) | exact HB.out))) : w.heap.size ≤ gb193)); have n3_ := Aside0.mk ((by rw [hg]; exact (below_size (by repeat (first | (with_reducible first | exact HB.out | apply below_alloc | apply pw_below_drewN | apply below_drew1) | exact HB.out))) : w.heap.size ≤ gb193)); clear HB; have HB := n0_; have BK193 := n1_; have GW193 := n2_; have GE193 := n3_; clear n0_ n1_ n2_ n3_; clear hb hbox hg; have hcz17_0 : w16.cell? ⟨gb193, 0, none⟩ = some (.slice A0_0 l0_0.length c0_0) := (blk_cell BK193.out 0).trans rfl; have hfz17_0 := blk_frozen BK193.out 0) | ((with_reducible refine gate_callee (f := 11) rfl ?_); refine goesL_ (some 23) rfl rfl Try.func11 (by kernel_rfl) rfl #[.agg #[.slice A0_0 l0_0.length c0_0], .int .i64 1048576] rfl (by (try simp only [List.map_toArray, List.map_cons, List.map_nil]); first | done | rfl | (simp only [List.length_drop, List.length_take]; rfl)) ?_; (with_reducible refine (laws_szMemory.calls k _ _ l0_0 1048576 t194 _ ?side1 ?side2 A6.out).mono ?_); (case side1 => repeat (first | exact (Kd.C_below HR0_0.out HB.out) | (with_reducible refine Kd.C_alloc ?_ _) | (with_reducible refine Kd.C_drewN ?_ _) | (with_reducible refine Kd.C_drew ?_))); (case side2 => exact HC0_0.out); rintro e w18 ⟨rfl, hb⟩; refine ⟨_, rfl, ?_⟩; have n0_ := Aside0.mk (blk_below (g := gb193) (o := .cells #[.slice A0_0 l0_0.length c0_0] 24 (0, 0)) (by (with_reducible repeat (first | refine blk_drewN ?_ _ | refine blk_drew ?_ | refine blk_alloc ?_ _)); exact BK193.out) hb); have n1_ := Aside0.mk (below_step (by repeat (first | (with_reducible first | exact HB.out | apply below_alloc | apply pw_below_drewN | apply below_drew1 | refine below_set ?_ GE193.out) | exact HB.out)) hb); clear BK193; clear HB; have BK193 := n0_; have HB := n1_; clear n0_ n1_; (try clear hb); (try clear hb2); (try clear hk); (try clear hi); have hcz19_0 : w18.cell? ⟨gb193, 0, none⟩ = some (.slice A0_0 l0_0.length c0_0) := (blk_cell BK193.out 0).trans rfl; have hfz19_0 := blk_frozen BK193.out 0) | ((with_reducible refine gate_callee (f := 13) rfl ?_); refine goesL_ (some 28) rfl rfl Try.func13 (by kernel_rfl) rfl #[.agg #[.slice A0_0 l0_0.length c0_0]] rfl (by (try simp only [List.map_toArray, List.map_cons, List.map_nil]); first | done | rfl | (simp only [List.length_drop, List.length_take]; rfl)) ?_; (with_reducible refine (laws_toMemory.calls k _ _ l0_0 t195 _ ?side1 ?side2 A11.out).mono ?_); (case side1 => repeat (first | exact (Kd.C_below HR0_0.out HB.out) | (with_reducible refine Kd.C_alloc ?_ _) | (with_reducible refine Kd.C_drewN ?_ _) | (with_reducible refine Kd.C_drew ?_))); (case side2 => exact HC0_0.out); rintro e w20 ⟨v196, rfl, ho0, hb⟩; refine ⟨_, rfl, ?_⟩; have n0_ := Aside0.mk (Kd.R_lower ho0 (below_size (by repeat (first | (with_reducible first | exact HB.out | apply below_alloc | apply pw_below_drewN | apply below_drew1 | refine below_set ?_ GE193.out) | exact HB.out)))); have n1_ := Aside0.mk (blk_below (g := gb193) (o := .cells #[.slice A0_0 l0_0.length c0_0] 24 (0, 0)) (by (with_reducible repeat (first | refine blk_drewN ?_ _ | refine blk_drew ?_ | refine blk_alloc ?_ _)); exact BK193.out) hb); have n2_ := Aside0.mk (below_step (by repeat (first | (with_reducible first | exact HB.out | apply below_alloc | apply pw_below_drewN | apply below_drew1 | refine below_set ?_ GE193.out) | exact HB.out)) hb); clear BK193; clear HB; have HO197 := n0_; have BK193 := n1_; have HB := n2_; clear n0_ n1_ n2_; (try clear hb); (try clear hb2); (try clear hk); (try clear hi); (try clear ho0); obtain ⟨Ao21, co21, eo21⟩ := Kd.R_slice HO197.out; subst eo21) | ((with_reducible refine gate_callee (f := 30) rfl ?_); refine goesL_ (some 31) rfl rfl Try.func30 (by kernel_rfl) rfl #[.agg #[.slice Ao21 t195.length co21], .int .i64 a1, .string a2] rfl (by (try simp only [List.map_toArray, List.map_cons, List.map_nil]); first | done | rfl | (simp only [List.length_drop, List.length_take]; rfl)) ?_; (with_reducible refine (spec_PutBytes.calls k _ _ t195 a1 a2 t198 t201 _ ?side1 ?side2 A12.out).mono ?_); (case side1 => repeat (first | exact (Kd.R_reads' HO197.out).2.2 | (with_reducible refine Kd.C_alloc ?_ _) | (with_reducible refine Kd.C_drewN ?_ _) | (with_reducible refine Kd.C_drew ?_))); (case side2 => exact (Kd.R_reads' HO197.out).2.1); rintro e w22 ⟨v199, rfl, ho0, hb⟩; refine ⟨_, rfl, ?_⟩; have n0_ := Aside0.mk (Kd.R_elder' (by (with_reducible repeat (first | apply Kd.R_alloc | apply Kd.R_drewN | apply Kd.R_drew)); exact HO197.out) (Kd.R_base ho0) hb); have n1_ := Aside0.mk (Kd.R_lower (Kd.R_new' ho0 (Kd.R_lt (by (with_reducible repeat (first | apply Kd.R_alloc | apply Kd.R_drewN | apply Kd.R_drew)); exact HO197.out))) (below_size (by repeat (first | (with_reducible first | exact HB.out | apply below_alloc | apply pw_below_drewN | apply below_drew1 | refine below_set ?_ GE193.out) | exact HB.out)))); have n2_ := Aside0.mk (blk_below (g := gb193) (o := .cells #[.slice A0_0 l0_0.length c0_0] 24 (0, 0)) (by (with_reducible repeat (first | refine blk_drewN ?_ _ | refine blk_drew ?_ | refine blk_alloc ?_ _)); exact BK193.out) hb); have n3_ := Aside0.mk (below_step (by repeat (first | (with_reducible first | exact HB.out | apply below_alloc | apply pw_below_drewN | apply below_drew1 | refine below_set ?_ GE193.out) | exact HB.out)) hb); clear HO197; clear BK193; clear HB; have HO197 := n0_; have HO200 := n1_; have BK193 := n2_; have HB := n3_; clear n0_ n1_ n2_ n3_; (try clear hb); (try clear hb2); (try clear hk); (try clear hi); (try clear ho0)) | ((with_reducible refine gate_dst (N := 8) rfl ?_); refine box_event ?hg (N := 8) ?hd (cs := #[.slice none 0 0]) (t := 28) ?hr ?_; (case hd => rfl); (case hg => rfl); (case hr => first | (go_simp; done) | (go_simp; rfl)); intro gb202 hg w23 hbox hb; have n0_ := Aside0.mk (Kd.R_below (by (with_reducible repeat (first | apply Kd.R_alloc | apply Kd.R_drewN | apply Kd.R_drew)); exact HO197.out) hb); have n1_ := Aside0.mk (Kd.R_below (by (with_reducible repeat (first | apply Kd.R_alloc | apply Kd.R_drewN | apply Kd.R_drew)); exact HO200.out) hb); have n2_ := Aside0.mk (blk_below (g := gb193) (o := .cells #[.slice A0_0 l0_0.length c0_0] 24 (0, 0)) (by (with_reducible repeat (first | refine blk_drewN ?_ _ | refine blk_drew ?_ | refine blk_alloc ?_ _)); exact BK193.out) hb); have n3_ := Aside0.mk (below_step (by repeat (first | (with_reducible first | exact HB.out | apply below_alloc | apply pw_below_drewN | apply below_drew1 | refine below_set ?_ GE193.out) | exact HB.out)) hb); have n4_ := Aside0.mk (hbox); have n5_ := Aside0.mk ((by rw [hg]; exact (below_size (by repeat (first | (with_reducible first | exact HB.out | apply below_alloc | apply pw_below_drewN | apply below_drew1 | refine below_set ?_ GE193.out) | exact HB.out))) : w.heap.size ≤ gb202)); have n6_ := Aside0.mk ((by rw [hg]; exact (below_size (by repeat (first | (with_reducible first | exact HB.out | apply below_alloc | apply pw_below_drewN | apply below_drew1 | refine below_set ?_ GE193.out) | exact HB.out))) : w.heap.size ≤ gb202)); have n7_ := Aside0.mk ((by rw [hg]; exact Nat.ne_of_lt (blk_lt (g := gb193) (o := .cells #[.slice A0_0 l0_0.length c0_0] 24 (0, 0)) (by (with_reducible repeat (first | refine blk_drewN ?_ _ | refine blk_drew ?_ | refine blk_alloc ?_ _)); exact BK193.out)) : gb193 ≠ gb202)); have n8_ := Aside0.mk ((by rw [hg]; exact Nat.ne_of_gt (blk_lt (g := gb193) (o := .cells #[.slice A0_0 l0_0.length c0_0] 24 (0, 0)) (by (with_reducible repeat (first | refine blk_drewN ?_ _ | refine blk_drew ?_ | refine blk_alloc ?_ _)); exact BK193.out)) : gb202 ≠ gb193)); clear HO197; clear HO200; clear BK193; clear HB; have HO197 := n0_; have HO200 := n1_; have BK193 := n2_; have HB := n3_; have BK202 := n4_; have GW202 := n5_; have GE202 := n6_; have NB193_202 := n7_; have NB202_193 := n8_; clear n0_ n1_ n2_ n3_ n4_ n5_ n6_ n7_ n8_; clear hb hbox hg; obtain ⟨Ao24, co24, eo24⟩ := Kd.R_slice HO200.out; subst eo24; have hnb25 := NB202_193.out; have hnc25 := NB193_202.out; have hcz26_0 : w23.cell? ⟨gb202, 0, none⟩ = some (.slice none 0 0) := (blk_cell BK202.out 0).trans rfl; have hfz26_0 := blk_frozen BK202.out 0; have hcz27_0 : w23.cell? ⟨gb193, 0, none⟩ = some (.slice A0_0 l0_0.length c0_0) := (blk_cell BK193.out 0).trans rfl; have hfz27_0 := blk_frozen BK193.out 0) | ((with_reducible refine gate_callee (f := 13) rfl ?_); refine goesL_ (some 35) rfl rfl Try.func13 (by kernel_rfl) rfl #[.agg #[.slice A0_0 l0_0.length c0_0]] rfl (by (try simp only [List.map_toArray, List.map_cons, List.map_nil]); first | done | rfl | (simp only [List.length_drop, List.length_take]; rfl)) ?_; (with_reducible refine (laws_toMemory.calls k _ _ l0_0 t203 _ ?side1 ?side2 A13.out).mono ?_); (case side1 => exact Kd.C_below HR0_0.out (by repeat (first | (with_reducible first | exact HB.out | apply below_alloc | apply pw_below_drewN | apply below_drew1 | refine below_set ?_ GE193.out | refine below_set ?_ GE202.out) | exact HB.out))); (case side2 => exact HC0_0.out); rintro e w28 ⟨v204, rfl, ho0, hb⟩; refine ⟨_, rfl, ?_⟩; have n0_ := Aside0.mk (Kd.R_elder' (by (with_reducible repeat (first | apply Kd.R_alloc | apply Kd.R_drewN | apply Kd.R_drew)); exact (Kd.R_mono (Kd.R_far (p := ⟨gb202, 0, none⟩) (Kd.R_types HO197.out BK202.out (by decide)) (fun _ hk => hk.2) (.slice Ao24 t198.length co24)) (fun _ h_ => h_.1))) (Kd.R_base ho0) hb); have n1_ := Aside0.mk (Kd.R_elder' (by (with_reducible repeat (first | apply Kd.R_alloc | apply Kd.R_drewN | apply Kd.R_drew)); exact (Kd.R_mono (Kd.R_far (p := ⟨gb202, 0, none⟩) (Kd.R_types HO200.out BK202.out (by decide)) (fun _ hk => hk.2) (.slice Ao24 t198.length co24)) (fun _ h_ => h_.1))) (Kd.R_base ho0) hb); have n2_ := Aside0.mk (Kd.R_lower (Kd.R_new' (Kd.R_new' ho0 (Kd.R_lt (by (with_reducible repeat (first | apply Kd.R_alloc | apply Kd.R_drewN | apply Kd.R_drew)); exact (Kd.R_mono (Kd.R_far (p := ⟨gb202, 0, none⟩) (Kd.R_types HO197.out BK202.out (by decide)) (fun _ hk => hk.2) (.slice Ao24 t198.length co24)) (fun _ h_ => h_.1))))) (Kd.R_lt (by (with_reducible repeat (first | apply Kd.R_alloc | apply Kd.R_drewN | apply Kd.R_drew)); exact (Kd.R_mono (Kd.R_far (p := ⟨gb202, 0, none⟩) (Kd.R_types HO200.out BK202.out (by decide)) (fun _ hk => hk.2) (.slice Ao24 t198.length co24)) (fun _ h_ => h_.1))))) (below_size (by repeat (first | (with_reducible first | exact HB.out | apply below_alloc | apply pw_below_drewN | apply below_drew1 | refine below_set ?_ GE193.out | refine below_set ?_ GE202.out) | exact HB.out)))); have n3_ := Aside0.mk (blk_below (g := gb193) (o := .cells #[.slice A0_0 l0_0.length c0_0] 24 (0, 0)) (by (with_reducible repeat (first | refine blk_drewN ?_ _ | refine blk_drew ?_ | refine blk_alloc ?_ _)); refine blk_far ?_ NB193_202.out _; (with_reducible repeat (first | refine blk_drewN ?_ _ | refine blk_drew ?_ | refine blk_alloc ?_ _)); exact BK193.out) hb); have n4_ := Aside0.mk (blk_below (g := gb202) (o := .cells #[.slice Ao24 t198.length co24] 28 (0, 0)) (by (with_reducible repeat (first | refine blk_drewN ?_ _ | refine blk_drew ?_ | refine blk_alloc ?_ _)); refine blk_put (cs := #[.slice none 0 0]) ?_ 0 _ rfl; (with_reducible repeat (first | refine blk_drewN ?_ _ | refine blk_drew ?_ | refine blk_alloc ?_ _)); exact BK202.out) hb); have n5_ := Aside0.mk (below_step (by repeat (first | (with_reducible first | exact HB.out | apply below_alloc | apply pw_below_drewN | apply below_drew1 | refine below_set ?_ GE193.out | refine below_set ?_ GE202.out) | exact HB.out)) hb); clear HO197; clear HO200; clear BK193; clear BK202; clear HB; have HO197 := n0_; have HO200 := n1_; have HO205 := n2_; have BK193 := n3_; have BK202 := n4_; have HB := n5_; clear n0_ n1_ n2_ n3_ n4_ n5_; (try clear hb); (try clear hb2); (try clear hk); (try clear hi); (try clear ho0)) | ((with_reducible refine gate_dst (N := 10) rfl ?_); refine box_event ?hg (N := 10) ?hd (cs := #[.slice none 0 0]) (t := 28) ?hr ?_; (case hd => rfl); (case hg => rfl); (case hr => first | (go_simp; done) | (go_simp; rfl)); intro gb206 hg w29 hbox hb; have n0_ := Aside0.mk (Kd.R_below (by (with_reducible repeat (first | apply Kd.R_alloc | apply Kd.R_drewN | apply Kd.R_drew)); exact HO197.out) hb); have n1_ := Aside0.mk (Kd.R_below (by (with_reducible repeat (first | apply Kd.R_alloc | apply Kd.R_drewN | apply Kd.R_drew)); exact HO200.out) hb); have n2_ := Aside0.mk (Kd.R_below (by (with_reducible repeat (first | apply Kd.R_alloc | apply Kd.R_drewN | apply Kd.R_drew)); exact HO205.out) hb); have n3_ := Aside0.mk (blk_below (g := gb193) (o := .cells #[.slice A0_0 l0_0.length c0_0] 24 (0, 0)) (by (with_reducible repeat (first | refine blk_drewN ?_ _ | refine blk_drew ?_ | refine blk_alloc ?_ _)); exact BK193.out) hb); have n4_ := Aside0.mk (blk_below (g := gb202) (o := .cells #[.slice Ao24 t198.length co24] 28 (0, 0)) (by (with_reducible repeat (first | refine blk_drewN ?_ _ | refine blk_drew ?_ | refine blk_alloc ?_ _)); exact BK202.out) hb); have n5_ := Aside0.mk (below_step (by repeat (first | (with_reducible first | exact HB.out | apply below_alloc | apply pw_below_drewN | apply below_drew1 | refine below_set ?_ GE193.out | refine below_set ?_ GE202.out) | exact HB.out)) hb); have n6_ := Aside0.mk (hbox); have n7_ := Aside0.mk ((by rw [hg]; exact (below_size (by repeat (first | (with_reducible first | exact HB.out | apply below_alloc | apply pw_below_drewN | apply below_drew1 | refine below_set ?_ GE193.out | refine below_set ?_ GE202.out) | exact HB.out))) : w.heap.size ≤ gb206)); have n8_ := Aside0.mk ((by rw [hg]; exact (below_size (by repeat (first | (with_reducible first | exact HB.out | apply below_alloc | apply pw_below_drewN | apply below_drew1 | refine below_set ?_ GE193.out | refine below_set ?_ GE202.out) | exact HB.out))) : w.heap.size ≤ gb206)); have n9_ := Aside0.mk ((by rw [hg]; exact Nat.ne_of_lt (blk_lt (g := gb193) (o := .cells #[.slice A0_0 l0_0.length c0_0] 24 (0, 0)) (by (with_reducible repeat (first | refine blk_drewN ?_ _ | refine blk_drew ?_ | refine blk_alloc ?_ _)); exact BK193.out)) : gb193 ≠ gb206)); have n10_ := Aside0.mk ((by rw [hg]; exact Nat.ne_of_gt (blk_lt (g := gb193) (o := .cells #[.slice A0_0 l0_0.length c0_0] 24 (0, 0)) (by (with_reducible repeat (first | refine blk_drewN ?_ _ | refine blk_drew ?_ | refine blk_alloc ?_ _)); exact BK193.out)) : gb206 ≠ gb193)); have n11_ := Aside0.mk ((by rw [hg]; exact Nat.ne_of_lt (blk_lt (g := gb202) (o := .cells #[.slice Ao24 t198.length co24] 28 (0, 0)) (by (with_reducible repeat (first | refine blk_drewN ?_ _ | refine blk_drew ?_ | refine blk_alloc ?_ _)); exact BK202.out)) : gb202 ≠ gb206)); have n12_ := Aside0.mk ((by rw [hg]; exact Nat.ne_of_gt (blk_lt (g := gb202) (o := .cells #[.slice Ao24 t198.length co24] 28 (0, 0)) (by (with_reducible repeat (first | refine blk_drewN ?_ _ | refine blk_drew ?_ | refine blk_alloc ?_ _)); exact BK202.out)) : gb206 ≠ gb202)); clear HO197; clear HO200; clear HO205; clear BK193; clear BK202; clear HB; have HO197 := n0_; have HO200 := n1_; have HO205 := n2_; have BK193 := n3_; have BK202 := n4_; have HB := n5_; have BK206 := n6_; have GW206 := n7_; have GE206 := n8_; have NB193_206 := n9_; have NB206_193 := n10_; have NB202_206 := n11_; have NB206_202 := n12_; clear n0_ n1_ n2_ n3_ n4_ n5_ n6_ n7_ n8_ n9_ n10_ n11_ n12_; clear hb hbox hg; obtain ⟨Ao30, co30, eo30⟩ := Kd.R_slice HO205.out; subst eo30; have hnb31 := NB206_193.out; have hnc31 := NB193_206.out; have hnb32 := NB206_202.out; have hnc32 := NB202_206.out; have hcz33_0 : w29.cell? ⟨gb206, 0, none⟩ = some (.slice none 0 0) := (blk_cell BK206.out 0).trans rfl; have hfz33_0 := blk_frozen BK206.out 0) | ((with_reducible refine gate_callee (f := 31) rfl ?_); refine goesL_ (some 40) rfl rfl Try.func31 (by kernel_rfl) rfl #[.agg #[.slice Ao30 t203.length co30], .int .i64 a1, .string a2] rfl (by (try simp only [List.map_toArray, List.map_cons, List.map_nil]); first | done | rfl | (simp only [List.length_drop, List.length_take]; rfl)) ?_; (with_reducible refine (impl_PutBytes.calls k _ _ t203 a1 a2 t207 t210 _ ?side1 ?side2 A14.out).mono ?_); (case side1 => refine (Kd.R_reads' (e := 55) (base := w.heap.size) (ok := fun k_ => ((True ∧ some k_ ≠ (.slice Ao21 t195.length co21 : Value).ownBlock) ∧ some k_ ≠ (.slice Ao24 t198.length co24 : Value).ownBlock)) (n := t203.length) (c := co30) ?_).2.2; exact (by (with_reducible repeat (first | apply Kd.R_alloc | apply Kd.R_drewN | apply Kd.R_drew)); exact (Kd.R_mono (Kd.R_far (p := ⟨gb206, 0, none⟩) (Kd.R_types HO205.out BK206.out (by decide)) (fun _ hk => hk.2) (.slice Ao30 t203.length co30)) (fun _ h_ => h_.1)))); (case side2 => exact (Kd.R_reads' HO205.out).2.1); rintro e w34 ⟨v208, rfl, ho0, hb⟩; refine ⟨_, rfl, ?_⟩; have n0_ := Aside0.mk (Kd.R_elder' (by (with_reducible repeat (first | apply Kd.R_alloc | apply Kd.R_drewN | apply Kd.R_drew)); exact (Kd.R_mono (Kd.R_far (p := ⟨gb206, 0, none⟩) (Kd.R_types HO197.out BK206.out (by decide)) (fun _ hk => hk.2) (.slice Ao30 t203.length co30)) (fun _ h_ => h_.1))) (Kd.R_base ho0) hb); have n1_ := Aside0.mk (Kd.R_elder' (by (with_reducible repeat (first | apply Kd.R_alloc | apply Kd.R_drewN | apply Kd.R_drew)); exact (Kd.R_mono (Kd.R_far (p := ⟨gb206, 0, none⟩) (Kd.R_types HO200.out BK206.out (by decide)) (fun _ hk => hk.2) (.slice Ao30 t203.length co30)) (fun _ h_ => h_.1))) (Kd.R_base ho0) hb); have n2_ := Aside0.mk (Kd.R_elder' (by (with_reducible repeat (first | apply Kd.R_alloc | apply Kd.R_drewN | apply Kd.R_drew)); exact (Kd.R_mono (Kd.R_far (p := ⟨gb206, 0, none⟩) (Kd.R_types HO205.out BK206.out (by decide)) (fun _ hk => hk.2) (.slice Ao30 t203.length co30)) (fun _ h_ => h_.1))) (Kd.R_base ho0) hb); have n3_ := Aside0.mk (Kd.R_lower (Kd.R_new' (Kd.R_new' (Kd.R_new' ho0 (Kd.R_lt (by (with_reducible repeat (first | apply Kd.R_alloc | apply Kd.R_drewN | apply Kd.R_drew)); exact (Kd.R_mono (Kd.R_far (p := ⟨gb206, 0, none⟩) (Kd.R_types HO197.out BK206.out (by decide)) (fun _ hk => hk.2) (.slice Ao30 t203.length co30)) (fun _ h_ => h_.1))))) (Kd.R_lt (by (with_reducible repeat (first | apply Kd.R_alloc | apply Kd.R_drewN | apply Kd.R_drew)); exact (Kd.R_mono (Kd.R_far (p := ⟨gb206, 0, none⟩) (Kd.R_types HO200.out BK206.out (by decide)) (fun _ hk => hk.2) (.slice Ao30 t203.length co30)) (fun _ h_ => h_.1))))) (Kd.R_lt (by (with_reducible repeat (first | apply Kd.R_alloc | apply Kd.R_drewN | apply Kd.R_drew)); exact (Kd.R_mono (Kd.R_far (p := ⟨gb206, 0, none⟩) (Kd.R_types HO205.out BK206.out (by decide)) (fun _ hk => hk.2) (.slice Ao30 t203.length co30)) (fun _ h_ => h_.1))))) (below_size (by repeat (first | (with_reducible first | exact HB.out | apply below_alloc | apply pw_below_drewN | apply below_drew1 | refine below_set ?_ GE193.out | refine below_set ?_ GE202.out | refine below_set ?_ GE206.out) | exact HB.out)))); have n4_ := Aside0.mk (blk_below (g := gb193) (o := .cells #[.slice A0_0 l0_0.length c0_0] 24 (0, 0)) (by (with_reducible repeat (first | refine blk_drewN ?_ _ | refine blk_drew ?_ | refine blk_alloc ?_ _)); refine blk_far ?_ NB193_206.out _; (with_reducible repeat (first | refine blk_drewN ?_ _ | refine blk_drew ?_ | refine blk_alloc ?_ _)); exact BK193.out) hb); have n5_ := Aside0.mk (blk_below (g := gb202) (o := .cells #[.slice Ao24 t198.length co24] 28 (0, 0)) (by (with_reducible repeat (first | refine blk_drewN ?_ _ | refine blk_drew ?_ | refine blk_alloc ?_ _)); refine blk_far ?_ NB202_206.out _; (with_reducible repeat (first | refine blk_drewN ?_ _ | refine blk_drew ?_ | refine blk_alloc ?_ _)); exact BK202.out) hb); have n6_ := Aside0.mk (blk_below (g := gb206) (o := .cells #[.slice Ao30 t203.length co30] 28 (0, 0)) (by (with_reducible repeat (first | refine blk_drewN ?_ _ | refine blk_drew ?_ | refine blk_alloc ?_ _)); refine blk_put (cs := #[.slice none 0 0]) ?_ 0 _ rfl; (with_reducible repeat (first | refine blk_drewN ?_ _ | refine blk_drew ?_ | refine blk_alloc ?_ _)); exact BK206.out) hb); have n7_ := Aside0.mk (below_step (by repeat (first | (with_reducible first | exact HB.out | apply below_alloc | apply pw_below_drewN | apply below_drew1 | refine below_set ?_ GE193.out | refine below_set ?_ GE202.out | refine below_set ?_ GE206.out) | exact HB.out)) hb); clear HO197; clear HO200; clear HO205; clear BK193; clear BK202; clear BK206; clear HB; have HO197 := n0_; have HO200 := n1_; have HO205 := n2_; have HO209 := n3_; have BK193 := n4_; have BK202 := n5_; have BK206 := n6_; have HB := n7_; clear n0_ n1_ n2_ n3_ n4_ n5_ n6_ n7_; (try clear hb); (try clear hb2); (try clear hk); (try clear hi); (try clear ho0)) | ((with_reducible refine gate_dst (N := 11) rfl ?_); refine box_event ?hg (N := 11) ?hd (cs := #[.slice none 0 0]) (t := 28) ?hr ?_; (case hd => rfl); (case hg => rfl); (case hr => first | (go_simp; done) | (go_simp; rfl)); intro gb211 hg w35 hbox hb; have n0_ := Aside0.mk (Kd.R_below (by (with_reducible repeat (first | apply Kd.R_alloc | apply Kd.R_drewN | apply Kd.R_drew)); exact HO197.out) hb); have n1_ := Aside0.mk (Kd.R_below (by (with_reducible repeat (first | apply Kd.R_alloc | apply Kd.R_drewN | apply Kd.R_drew)); exact HO200.out) hb); have n2_ := Aside0.mk (Kd.R_below (by (with_reducible repeat (first | apply Kd.R_alloc | apply Kd.R_drewN | apply Kd.R_drew)); exact HO205.out) hb); have n3_ := Aside0.mk (Kd.R_below (by (with_reducible repeat (first | apply Kd.R_alloc | apply Kd.R_drewN | apply Kd.R_drew)); exact HO209.out) hb); have n4_ := Aside0.mk (blk_below (g := gb193) (o := .cells #[.slice A0_0 l0_0.length c0_0] 24 (0, 0)) (by (with_reducible repeat (first | refine blk_drewN ?_ _ | refine blk_drew ?_ | refine blk_alloc ?_ _)); exact BK193.out) hb); have n5_ := Aside0.mk (blk_below (g := gb202) (o := .cells #[.slice Ao24 t198.length co24] 28 (0, 0)) (by (with_reducible repeat (first | refine blk_drewN ?_ _ | refine blk_drew ?_ | refine blk_alloc ?_ _)); exact BK202.out) hb); have n6_ := Aside0.mk (blk_below (g := gb206) (o := .cells #[.slice Ao30 t203.length co30] 28 (0, 0)) (by (with_reducible repeat (first | refine blk_drewN ?_ _ | refine blk_drew ?_ | refine blk_alloc ?_ _)); exact BK206.out) hb); have n7_ := Aside0.mk (below_step (by repeat (first | (with_reducible first | exact HB.out | apply below_alloc | apply pw_below_drewN | apply below_drew1 | refine below_set ?_ GE193.out | refine below_set ?_ GE202.out | refine below_set ?_ GE206.out) | exact HB.out)) hb); have n8_ := Aside0.mk (hbox); have n9_ := Aside0.mk ((by rw [hg]; exact (below_size (by repeat (first | (with_reducible first | exact HB.out | apply below_alloc | apply pw_below_drewN | apply below_drew1 | refine below_set ?_ GE193.out | refine below_set ?_ GE202.out | refine below_set ?_ GE206.out) | exact HB.out))) : w.heap.size ≤ gb211)); have n10_ := Aside0.mk ((by rw [hg]; exact (below_size (by repeat (first | (with_reducible first | exact HB.out | apply below_alloc | apply pw_below_drewN | apply below_drew1 | refine below_set ?_ GE193.out | refine below_set ?_ GE202.out | refine below_set ?_ GE206.out) | exact HB.out))) : w.heap.size ≤ gb211)); have n11_ := Aside0.mk ((by rw [hg]; exact Nat.ne_of_lt (blk_lt (g := gb193) (o := .cells #[.slice A0_0 l0_0.length c0_0] 24 (0, 0)) (by (with_reducible repeat (first | refine blk_drewN ?_ _ | refine blk_drew ?_ | refine blk_alloc ?_ _)); exact BK193.out)) : gb193 ≠ gb211)); have n12_ := Aside0.mk ((by rw [hg]; exact Nat.ne_of_gt (blk_lt (g := gb193) (o := .cells #[.slice A0_0 l0_0.length c0_0] 24 (0, 0)) (by (with_reducible repeat (first | refine blk_drewN ?_ _ | refine blk_drew ?_ | refine blk_alloc ?_ _)); exact BK193.out)) : gb211 ≠ gb193)); have n13_ := Aside0.mk ((by rw [hg]; exact Nat.ne_of_lt (blk_lt (g := gb202) (o := .cells #[.slice Ao24 t198.length co24] 28 (0, 0)) (by (with_reducible repeat (first | refine blk_drewN ?_ _ | refine blk_drew ?_ | refine blk_alloc ?_ _)); exact BK202.out)) : gb202 ≠ gb211)); have n14_ := Aside0.mk ((by rw [hg]; exact Nat.ne_of_gt (blk_lt (g := gb202) (o := .cells #[.slice Ao24 t198.length co24] 28 (0, 0)) (by (with_reducible repeat (first | refine blk_drewN ?_ _ | refine blk_drew ?_ | refine blk_alloc ?_ _)); exact BK202.out)) : gb211 ≠ gb202)); have n15_ := Aside0.mk ((by rw [hg]; exact Nat.ne_of_lt (blk_lt (g := gb206) (o := .cells #[.slice Ao30 t203.length co30] 28 (0, 0)) (by (with_reducible repeat (first | refine blk_drewN ?_ _ | refine blk_drew ?_ | refine blk_alloc ?_ _)); exact BK206.out)) : gb206 ≠ gb211)); have n16_ := Aside0.mk ((by rw [hg]; exact Nat.ne_of_gt (blk_lt (g := gb206) (o := .cells #[.slice Ao30 t203.length co30] 28 (0, 0)) (by (with_reducible repeat (first | refine blk_drewN ?_ _ | refine blk_drew ?_ | refine blk_alloc ?_ _)); exact BK206.out)) : gb211 ≠ gb206)); clear HO197; clear HO200; clear HO205; clear HO209; clear BK193; clear BK202; clear BK206; clear HB; have HO197 := n0_; have HO200 := n1_; have HO205 := n2_; have HO209 := n3_; have BK193 := n4_; have BK202 := n5_; have BK206 := n6_; have HB := n7_; have BK211 := n8_; have GW211 := n9_; have GE211 := n10_; have NB193_211 := n11_; have NB211_193 := n12_; have NB202_211 := n13_; have NB211_202 := n14_; have NB206_211 := n15_; have NB211_206 := n16_; clear n0_ n1_ n2_ n3_ n4_ n5_ n6_ n7_ n8_ n9_ n10_ n11_ n12_ n13_ n14_ n15_ n16_; clear hb hbox hg; obtain ⟨Ao36, co36, eo36⟩ := Kd.R_slice HO209.out; subst eo36; have hnb37 := NB211_193.out; have hnc37 := NB193_211.out; have hnb38 := NB211_202.out; have hnc38 := NB202_211.out; have hnb39 := NB211_206.out; have hnc39 := NB206_211.out; have hcz40_0 : w35.cell? ⟨gb211, 0, none⟩ = some (.slice none 0 0) := (blk_cell BK211.out 0).trans rfl; have hfz40_0 := blk_frozen BK211.out 0))
      (try simp only [Act.put, List.setIfInBounds_toArray, List.set_cons_zero, List.set_cons_succ])
      go_cut [51] (fun v51 wc => ∃ (kq : Nat) (x51_14 : Bool), v51 = .bool x51_14 ∧ Aside0 (laws_FnExactPutBytes.j0 kq a1 a2 t201 t210 x51_14 l0_0 t198 t203 t207 = some r) ∧ Aside0 (kq ≤ k) ∧ Aside0 (Kd.R k55 55 wc w.heap.size (fun k_ => some k_ ≠ ((.slice Ao30 t203.length co30) : Value).ownBlock ∧ some k_ ≠ ((.slice Ao36 t207.length co36) : Value).ownBlock) (.slice Ao24 t198.length co24) t198) ∧ Aside0 (Kd.R k55 55 wc w.heap.size (fun k_ => some k_ ≠ ((.slice Ao24 t198.length co24) : Value).ownBlock ∧ some k_ ≠ ((.slice Ao36 t207.length co36) : Value).ownBlock) (.slice Ao30 t203.length co30) t203) ∧ Aside0 (Kd.R k55 55 wc w.heap.size (fun k_ => some k_ ≠ ((.slice Ao24 t198.length co24) : Value).ownBlock ∧ some k_ ≠ ((.slice Ao30 t203.length co30) : Value).ownBlock) (.slice Ao36 t207.length co36) t207) ∧ Aside0 (wc.heap[gb193]? = some (.cells #[(.slice A0_0 l0_0.length c0_0)] 24 (0, 0))) ∧ Aside0 (wc.heap[gb202]? = some (.cells #[(.slice Ao24 t198.length co24)] 28 (0, 0))) ∧ Aside0 (wc.heap[gb206]? = some (.cells #[(.slice Ao30 t203.length co30)] 28 (0, 0))) ∧ Aside0 (wc.heap[gb211]? = some (.cells #[(.slice Ao36 t207.length co36)] 28 (0, 0))) ∧ Aside0 (Below w.heap.size w wc))
      case first =>
        have H := HC15.out
        clear HC15
        replace H := Option.bind_eq_some_iff.mp H
        obtain ⟨t212, A410, H⟩ := H
        replace H : (if t212 = true then (laws_FnExactPutBytes.j0 k a1 a2 t201 t210 (t210 != t201) l0_0 t198 t203 t207) else (laws_FnExactPutBytes.j0 k a1 a2 t201 t210 true l0_0 t198 t203 t207)) = some r := H
        have A41 := Aside0.mk A410
        clear A410
        by_cases c42 : t212 = true
        · subst c42
          have H1 : (laws_FnExactPutBytes.j0 k a1 a2 t201 t210 (t210 != t201) l0_0 t198 t203 t207) = some r := by rw [if_pos rfl] at H; exact H
          clear H
          have H := H1
          clear H1
          have H' := Aside0.mk H
          clear H
          have hnb43 := NB211_193.out
          have hnc43 := NB193_211.out
          have hnb44 := NB211_202.out
          have hnc44 := NB202_211.out
          have hnb45 := NB211_206.out
          have hnc45 := NB206_211.out
          have hcz46_0 : w35.cell? ⟨gb211, 0, none⟩ = some (.slice none 0 0) := (blk_cell BK211.out 0).trans rfl
          have hfz46_0 := blk_frozen BK211.out 0
          have hnb47 := NB202_193.out
          have hnc47 := NB193_202.out
          have hnb48 := NB202_206.out
          have hnc48 := NB206_202.out
          have hcz49_0 : w35.cell? ⟨gb202, 0, none⟩ = some (.slice Ao24 t198.length co24) := (blk_cell BK202.out 0).trans rfl
          have hfz49_0 := blk_frozen BK202.out 0
          go_wp2_with (first | ((with_reducible refine gate_callee (f := 15) rfl ?_); refine goesL_ (some 45) rfl rfl Try.func15 (by kernel_rfl) rfl #[.agg #[.slice Ao36 t207.length co36], .agg #[.slice Ao24 t198.length co24]] rfl (by (try simp only [List.map_toArray, List.map_cons, List.map_nil]); first | done | rfl | (simp only [List.length_drop, List.length_take]; rfl)) ?_; (with_reducible refine (laws_eqMemory.calls k _ _ t207 _ _ t198 true _ ?side1 ?side2 ?side3 ?side4 A41.out).mono ?_); (case side1 => refine (Kd.R_reads' (e := 55) (base := w.heap.size) (ok := fun k_ => (((True ∧ some k_ ≠ (.slice Ao21 t195.length co21 : Value).ownBlock) ∧ some k_ ≠ (.slice Ao24 t198.length co24 : Value).ownBlock) ∧ some k_ ≠ (.slice Ao30 t203.length co30 : Value).ownBlock)) (n := t207.length) (c := co36) ?_).2.2; exact (by (with_reducible repeat (first | apply Kd.R_alloc | apply Kd.R_drewN | apply Kd.R_drew)); exact (Kd.R_mono (Kd.R_far (p := ⟨gb211, 0, none⟩) (Kd.R_types HO209.out BK211.out (by decide)) (fun _ hk => hk.2) (.slice Ao36 t207.length co36)) (fun _ h_ => h_.1)))); (case side2 => exact (Kd.R_reads' HO209.out).2.1); (case side3 => refine (Kd.R_reads' (e := 55) (base := w.heap.size) (ok := fun k_ => (((True ∧ some k_ ≠ (.slice Ao21 t195.length co21 : Value).ownBlock) ∧ some k_ ≠ (.slice Ao30 t203.length co30 : Value).ownBlock) ∧ some k_ ≠ (.slice Ao36 t207.length co36 : Value).ownBlock)) (n := t198.length) (c := co24) ?_).2.2; exact (by (with_reducible repeat (first | apply Kd.R_alloc | apply Kd.R_drewN | apply Kd.R_drew)); exact (Kd.R_mono (Kd.R_far (p := ⟨gb211, 0, none⟩) (Kd.R_types HO200.out BK211.out (by decide)) (fun _ hk => hk.2) (.slice Ao36 t207.length co36)) (fun _ h_ => h_.1)))); (case side4 => exact (Kd.R_reads' HO200.out).2.1); rintro e w50 ⟨rfl, hb⟩; refine ⟨_, rfl, ?_⟩; have n0_ := Aside0.mk (Kd.R_below (by (with_reducible repeat (first | apply Kd.R_alloc | apply Kd.R_drewN | apply Kd.R_drew)); exact (Kd.R_mono (Kd.R_far (p := ⟨gb211, 0, none⟩) (Kd.R_types HO197.out BK211.out (by decide)) (fun _ hk => hk.2) (.slice Ao36 t207.length co36)) (fun _ h_ => h_.1))) hb); have n1_ := Aside0.mk (Kd.R_below (by (with_reducible repeat (first | apply Kd.R_alloc | apply Kd.R_drewN | apply Kd.R_drew)); exact (Kd.R_mono (Kd.R_far (p := ⟨gb211, 0, none⟩) (Kd.R_types HO200.out BK211.out (by decide)) (fun _ hk => hk.2) (.slice Ao36 t207.length co36)) (fun _ h_ => h_.1))) hb); have n2_ := Aside0.mk (Kd.R_below (by (with_reducible repeat (first | apply Kd.R_alloc | apply Kd.R_drewN | apply Kd.R_drew)); exact (Kd.R_mono (Kd.R_far (p := ⟨gb211, 0, none⟩) (Kd.R_types HO205.out BK211.out (by decide)) (fun _ hk => hk.2) (.slice Ao36 t207.length co36)) (fun _ h_ => h_.1))) hb); have n3_ := Aside0.mk (Kd.R_below (by (with_reducible repeat (first | apply Kd.R_alloc | apply Kd.R_drewN | apply Kd.R_drew)); exact (Kd.R_mono (Kd.R_far (p := ⟨gb211, 0, none⟩) (Kd.R_types HO209.out BK211.out (by decide)) (fun _ hk => hk.2) (.slice Ao36 t207.length co36)) (fun _ h_ => h_.1))) hb); have n4_ := Aside0.mk (blk_below (g := gb193) (o := .cells #[.slice A0_0 l0_0.length c0_0] 24 (0, 0)) (by (with_reducible repeat (first | refine blk_drewN ?_ _ | refine blk_drew ?_ | refine blk_alloc ?_ _)); refine blk_far ?_ NB193_211.out _; (with_reducible repeat (first | refine blk_drewN ?_ _ | refine blk_drew ?_ | refine blk_alloc ?_ _)); exact BK193.out) hb); have n5_ := Aside0.mk (blk_below (g := gb202) (o := .cells #[.slice Ao24 t198.length co24] 28 (0, 0)) (by (with_reducible repeat (first | refine blk_drewN ?_ _ | refine blk_drew ?_ | refine blk_alloc ?_ _)); refine blk_far ?_ NB202_211.out _; (with_reducible repeat (first | refine blk_drewN ?_ _ | refine blk_drew ?_ | refine blk_alloc ?_ _)); exact BK202.out) hb); have n6_ := Aside0.mk (blk_below (g := gb206) (o := .cells #[.slice Ao30 t203.length co30] 28 (0, 0)) (by (with_reducible repeat (first | refine blk_drewN ?_ _ | refine blk_drew ?_ | refine blk_alloc ?_ _)); refine blk_far ?_ NB206_211.out _; (with_reducible repeat (first | refine blk_drewN ?_ _ | refine blk_drew ?_ | refine blk_alloc ?_ _)); exact BK206.out) hb); have n7_ := Aside0.mk (blk_below (g := gb211) (o := .cells #[.slice Ao36 t207.length co36] 28 (0, 0)) (by (with_reducible repeat (first | refine blk_drewN ?_ _ | refine blk_drew ?_ | refine blk_alloc ?_ _)); refine blk_put (cs := #[.slice none 0 0]) ?_ 0 _ rfl; (with_reducible repeat (first | refine blk_drewN ?_ _ | refine blk_drew ?_ | refine blk_alloc ?_ _)); exact BK211.out) hb); have n8_ := Aside0.mk (below_step (by repeat (first | (with_reducible first | exact HB.out | apply below_alloc | apply pw_below_drewN | apply below_drew1 | refine below_set ?_ GE193.out | refine below_set ?_ GE202.out | refine below_set ?_ GE206.out | refine below_set ?_ GE211.out) | exact HB.out)) hb); clear HO197; clear HO200; clear HO205; clear HO209; clear BK193; clear BK202; clear BK206; clear BK211; clear HB; have HO197 := n0_; have HO200 := n1_; have HO205 := n2_; have HO209 := n3_; have BK193 := n4_; have BK202 := n5_; have BK206 := n6_; have BK211 := n7_; have HB := n8_; clear n0_ n1_ n2_ n3_ n4_ n5_ n6_ n7_ n8_; (try clear hb); (try clear hb2); (try clear hk); (try clear hi)))
          go_meet
          case rel => exact ⟨_, ((t210 != t201)), (by first | rfl | (simp; done) | (simp [*]; done)), H', ⟨by first | omega | exact Nat.le_refl _⟩, ⟨by (with_reducible repeat (first | apply Kd.R_alloc | apply Kd.R_drewN | apply Kd.R_drew)); exact Kd.R_mono HO200.out (fun _ hk => ⟨hk.1.2, hk.2⟩)⟩, ⟨by (with_reducible repeat (first | apply Kd.R_alloc | apply Kd.R_drewN | apply Kd.R_drew)); exact Kd.R_mono HO205.out (fun _ hk => ⟨hk.1.2, hk.2⟩)⟩, ⟨by (with_reducible repeat (first | apply Kd.R_alloc | apply Kd.R_drewN | apply Kd.R_drew)); exact Kd.R_mono HO209.out (fun _ hk => ⟨hk.1.2, hk.2⟩)⟩, ⟨by (with_reducible repeat (first | refine blk_drewN ?_ _ | refine blk_drew ?_ | refine blk_alloc ?_ _)); exact BK193.out⟩, ⟨by (with_reducible repeat (first | refine blk_drewN ?_ _ | refine blk_drew ?_ | refine blk_alloc ?_ _)); exact BK202.out⟩, ⟨by (with_reducible repeat (first | refine blk_drewN ?_ _ | refine blk_drew ?_ | refine blk_alloc ?_ _)); exact BK206.out⟩, ⟨by (with_reducible repeat (first | refine blk_drewN ?_ _ | refine blk_drew ?_ | refine blk_alloc ?_ _)); exact BK211.out⟩, ⟨by repeat (first | (with_reducible first | exact HB.out | apply below_alloc | apply pw_below_drewN | apply below_drew1 | refine below_set ?_ GE193.out | refine below_set ?_ GE202.out | refine below_set ?_ GE206.out | refine below_set ?_ GE211.out) | exact HB.out)⟩⟩
        · replace c42 := Bool.eq_false_iff.mpr c42
          subst c42
          have H1 : (laws_FnExactPutBytes.j0 k a1 a2 t201 t210 true l0_0 t198 t203 t207) = some r := by rw [if_neg (show ¬ (false = true) by decide)] at H; exact H
          clear H
          have H := H1
          clear H1
          have H' := Aside0.mk H
          clear H
          have hnb51 := NB211_193.out
          have hnc51 := NB193_211.out
          have hnb52 := NB211_202.out
          have hnc52 := NB202_211.out
          have hnb53 := NB211_206.out
          have hnc53 := NB206_211.out
          have hcz54_0 : w35.cell? ⟨gb211, 0, none⟩ = some (.slice none 0 0) := (blk_cell BK211.out 0).trans rfl
          have hfz54_0 := blk_frozen BK211.out 0
          have hnb55 := NB202_193.out
          have hnc55 := NB193_202.out
          have hnb56 := NB202_206.out
          have hnc56 := NB206_202.out
          have hcz57_0 : w35.cell? ⟨gb202, 0, none⟩ = some (.slice Ao24 t198.length co24) := (blk_cell BK202.out 0).trans rfl
          have hfz57_0 := blk_frozen BK202.out 0
          go_wp2_with (first | ((with_reducible refine gate_callee (f := 15) rfl ?_); refine goesL_ (some 45) rfl rfl Try.func15 (by kernel_rfl) rfl #[.agg #[.slice Ao36 t207.length co36], .agg #[.slice Ao24 t198.length co24]] rfl (by (try simp only [List.map_toArray, List.map_cons, List.map_nil]); first | done | rfl | (simp only [List.length_drop, List.length_take]; rfl)) ?_; (with_reducible refine (laws_eqMemory.calls k _ _ t207 _ _ t198 false _ ?side1 ?side2 ?side3 ?side4 A41.out).mono ?_); (case side1 => refine (Kd.R_reads' (e := 55) (base := w.heap.size) (ok := fun k_ => (((True ∧ some k_ ≠ (.slice Ao21 t195.length co21 : Value).ownBlock) ∧ some k_ ≠ (.slice Ao24 t198.length co24 : Value).ownBlock) ∧ some k_ ≠ (.slice Ao30 t203.length co30 : Value).ownBlock)) (n := t207.length) (c := co36) ?_).2.2; exact (by (with_reducible repeat (first | apply Kd.R_alloc | apply Kd.R_drewN | apply Kd.R_drew)); exact (Kd.R_mono (Kd.R_far (p := ⟨gb211, 0, none⟩) (Kd.R_types HO209.out BK211.out (by decide)) (fun _ hk => hk.2) (.slice Ao36 t207.length co36)) (fun _ h_ => h_.1)))); (case side2 => exact (Kd.R_reads' HO209.out).2.1); (case side3 => refine (Kd.R_reads' (e := 55) (base := w.heap.size) (ok := fun k_ => (((True ∧ some k_ ≠ (.slice Ao21 t195.length co21 : Value).ownBlock) ∧ some k_ ≠ (.slice Ao30 t203.length co30 : Value).ownBlock) ∧ some k_ ≠ (.slice Ao36 t207.length co36 : Value).ownBlock)) (n := t198.length) (c := co24) ?_).2.2; exact (by (with_reducible repeat (first | apply Kd.R_alloc | apply Kd.R_drewN | apply Kd.R_drew)); exact (Kd.R_mono (Kd.R_far (p := ⟨gb211, 0, none⟩) (Kd.R_types HO200.out BK211.out (by decide)) (fun _ hk => hk.2) (.slice Ao36 t207.length co36)) (fun _ h_ => h_.1)))); (case side4 => exact (Kd.R_reads' HO200.out).2.1); rintro e w58 ⟨rfl, hb⟩; refine ⟨_, rfl, ?_⟩; have n0_ := Aside0.mk (Kd.R_below (by (with_reducible repeat (first | apply Kd.R_alloc | apply Kd.R_drewN | apply Kd.R_drew)); exact (Kd.R_mono (Kd.R_far (p := ⟨gb211, 0, none⟩) (Kd.R_types HO197.out BK211.out (by decide)) (fun _ hk => hk.2) (.slice Ao36 t207.length co36)) (fun _ h_ => h_.1))) hb); have n1_ := Aside0.mk (Kd.R_below (by (with_reducible repeat (first | apply Kd.R_alloc | apply Kd.R_drewN | apply Kd.R_drew)); exact (Kd.R_mono (Kd.R_far (p := ⟨gb211, 0, none⟩) (Kd.R_types HO200.out BK211.out (by decide)) (fun _ hk => hk.2) (.slice Ao36 t207.length co36)) (fun _ h_ => h_.1))) hb); have n2_ := Aside0.mk (Kd.R_below (by (with_reducible repeat (first | apply Kd.R_alloc | apply Kd.R_drewN | apply Kd.R_drew)); exact (Kd.R_mono (Kd.R_far (p := ⟨gb211, 0, none⟩) (Kd.R_types HO205.out BK211.out (by decide)) (fun _ hk => hk.2) (.slice Ao36 t207.length co36)) (fun _ h_ => h_.1))) hb); have n3_ := Aside0.mk (Kd.R_below (by (with_reducible repeat (first | apply Kd.R_alloc | apply Kd.R_drewN | apply Kd.R_drew)); exact (Kd.R_mono (Kd.R_far (p := ⟨gb211, 0, none⟩) (Kd.R_types HO209.out BK211.out (by decide)) (fun _ hk => hk.2) (.slice Ao36 t207.length co36)) (fun _ h_ => h_.1))) hb); have n4_ := Aside0.mk (blk_below (g := gb193) (o := .cells #[.slice A0_0 l0_0.length c0_0] 24 (0, 0)) (by (with_reducible repeat (first | refine blk_drewN ?_ _ | refine blk_drew ?_ | refine blk_alloc ?_ _)); refine blk_far ?_ NB193_211.out _; (with_reducible repeat (first | refine blk_drewN ?_ _ | refine blk_drew ?_ | refine blk_alloc ?_ _)); exact BK193.out) hb); have n5_ := Aside0.mk (blk_below (g := gb202) (o := .cells #[.slice Ao24 t198.length co24] 28 (0, 0)) (by (with_reducible repeat (first | refine blk_drewN ?_ _ | refine blk_drew ?_ | refine blk_alloc ?_ _)); refine blk_far ?_ NB202_211.out _; (with_reducible repeat (first | refine blk_drewN ?_ _ | refine blk_drew ?_ | refine blk_alloc ?_ _)); exact BK202.out) hb); have n6_ := Aside0.mk (blk_below (g := gb206) (o := .cells #[.slice Ao30 t203.length co30] 28 (0, 0)) (by (with_reducible repeat (first | refine blk_drewN ?_ _ | refine blk_drew ?_ | refine blk_alloc ?_ _)); refine blk_far ?_ NB206_211.out _; (with_reducible repeat (first | refine blk_drewN ?_ _ | refine blk_drew ?_ | refine blk_alloc ?_ _)); exact BK206.out) hb); have n7_ := Aside0.mk (blk_below (g := gb211) (o := .cells #[.slice Ao36 t207.length co36] 28 (0, 0)) (by (with_reducible repeat (first | refine blk_drewN ?_ _ | refine blk_drew ?_ | refine blk_alloc ?_ _)); refine blk_put (cs := #[.slice none 0 0]) ?_ 0 _ rfl; (with_reducible repeat (first | refine blk_drewN ?_ _ | refine blk_drew ?_ | refine blk_alloc ?_ _)); exact BK211.out) hb); have n8_ := Aside0.mk (below_step (by repeat (first | (with_reducible first | exact HB.out | apply below_alloc | apply pw_below_drewN | apply below_drew1 | refine below_set ?_ GE193.out | refine below_set ?_ GE202.out | refine below_set ?_ GE206.out | refine below_set ?_ GE211.out) | exact HB.out)) hb); clear HO197; clear HO200; clear HO205; clear HO209; clear BK193; clear BK202; clear BK206; clear BK211; clear HB; have HO197 := n0_; have HO200 := n1_; have HO205 := n2_; have HO209 := n3_; have BK193 := n4_; have BK202 := n5_; have BK206 := n6_; have BK211 := n7_; have HB := n8_; clear n0_ n1_ n2_ n3_ n4_ n5_ n6_ n7_ n8_; (try clear hb); (try clear hb2); (try clear hk); (try clear hi)))
          go_meet
          case rel => exact ⟨_, (true), (by first | rfl | (simp; done) | (simp [*]; done)), H', ⟨by first | omega | exact Nat.le_refl _⟩, ⟨by (with_reducible repeat (first | apply Kd.R_alloc | apply Kd.R_drewN | apply Kd.R_drew)); exact Kd.R_mono HO200.out (fun _ hk => ⟨hk.1.2, hk.2⟩)⟩, ⟨by (with_reducible repeat (first | apply Kd.R_alloc | apply Kd.R_drewN | apply Kd.R_drew)); exact Kd.R_mono HO205.out (fun _ hk => ⟨hk.1.2, hk.2⟩)⟩, ⟨by (with_reducible repeat (first | apply Kd.R_alloc | apply Kd.R_drewN | apply Kd.R_drew)); exact Kd.R_mono HO209.out (fun _ hk => ⟨hk.1.2, hk.2⟩)⟩, ⟨by (with_reducible repeat (first | refine blk_drewN ?_ _ | refine blk_drew ?_ | refine blk_alloc ?_ _)); exact BK193.out⟩, ⟨by (with_reducible repeat (first | refine blk_drewN ?_ _ | refine blk_drew ?_ | refine blk_alloc ?_ _)); exact BK202.out⟩, ⟨by (with_reducible repeat (first | refine blk_drewN ?_ _ | refine blk_drew ?_ | refine blk_alloc ?_ _)); exact BK206.out⟩, ⟨by (with_reducible repeat (first | refine blk_drewN ?_ _ | refine blk_drew ?_ | refine blk_alloc ?_ _)); exact BK211.out⟩, ⟨by repeat (first | (with_reducible first | exact HB.out | apply below_alloc | apply pw_below_drewN | apply below_drew1 | refine below_set ?_ GE193.out | refine below_set ?_ GE202.out | refine below_set ?_ GE206.out | refine below_set ?_ GE211.out) | exact HB.out)⟩⟩
      case rest =>
        clear HC15
        try clear c1
        try clear c2
        try clear p2
        try clear c3
        try clear c4
        try clear c4b0
        try clear c4b1
        try clear c5
        try clear c7
        try clear c7b0
        try clear c10
        try clear c11
        try clear c13
        try clear c15
        try clear c25
        try clear c30
        try clear c31
        try clear c32
        try clear c37
        try clear c38
        try clear c39
        try clear c42
        try clear c43
        try clear c44
        try clear c45
        try clear c47
        try clear c48
        try clear c51
        try clear c52
        try clear c53
        try clear c55
        try clear c56
        try clear hcz17_0
        try clear hcz19_0
        try clear hcz26_0
        try clear hcz27_0
        try clear hcz33_0
        try clear hcz40_0
        try clear hcz46_0
        try clear hcz49_0
        try clear hcz54_0
        try clear hcz57_0
        try clear hcz9_0
        try clear hfz17_0
        try clear hfz19_0
        try clear hfz26_0
        try clear hfz27_0
        try clear hfz33_0
        try clear hfz40_0
        try clear hfz46_0
        try clear hfz49_0
        try clear hfz54_0
        try clear hfz57_0
        try clear hfz9_0
        obtain ⟨kq, x51_14, rfl, HA, HJ14, HO_203000, HO_207000, HO_212000, BK193, BK202, BK206, BK211, HB⟩ := hcut
        cases kq with
        | zero => exact absurd HA.out (by simp [laws_FnExactPutBytes.j0])
        | succ kj14 =>
          have H := HA.out
          clear HA
          simp only [laws_FnExactPutBytes.j0] at H
          by_cases c59 : x51_14 = true
          · subst c59
            have H1 : (some false) = some r := by rw [if_pos rfl] at H; exact H
            clear H
            have H := H1
            clear H1
            obtain rfl := Option.some.inj H
            go_wp2
            go_ret
            exact ⟨by first | rfl | (simp [errW_none, errW_some] <;> rfl) | (simp [*, errW_none, errW_some] <;> rfl), by repeat (first | (with_reducible first | exact HB.out | apply below_alloc | apply pw_below_drewN | apply below_drew1 | refine below_set ?_ GE193.out | refine below_set ?_ GE202.out | refine below_set ?_ GE206.out | refine below_set ?_ GE211.out) | exact HB.out)⟩
          · replace c59 := Bool.eq_false_iff.mpr c59
            subst c59
            have H1 : ((laws_toMemory.f kj14 l0_0).bind fun t213 => ((laws_eqMemory.f kj14 t203 t213).bind fun t216 => (if t216 = true then ((laws_markMemory.f kj14 t203 1).bind fun bt217 => (if bt217.1 < 0 then (laws_FnExactPutBytes.j1 kj14 a1 a2 t201 true l0_0 t198 t207) else ((laws_eqMemory.f kj14 t207 t198).bind fun t219 => (if t219 = true then (laws_FnExactPutBytes.j1 kj14 a1 a2 t201 (t210 != t201) l0_0 t198 t207) else (laws_FnExactPutBytes.j1 kj14 a1 a2 t201 true l0_0 t198 t207))))) else (some false)))) = some r := by rw [if_neg (show ¬ (false = true) by decide)] at H; exact H
            clear H
            have H := H1
            clear H1
            replace H := Option.bind_eq_some_iff.mp H
            obtain ⟨t213, A600, H⟩ := H
            replace H : ((laws_eqMemory.f kj14 t203 t213).bind fun t216 => (if t216 = true then ((laws_markMemory.f kj14 t203 1).bind fun bt217 => (if bt217.1 < 0 then (laws_FnExactPutBytes.j1 kj14 a1 a2 t201 true l0_0 t198 t207) else ((laws_eqMemory.f kj14 t207 t198).bind fun t219 => (if t219 = true then (laws_FnExactPutBytes.j1 kj14 a1 a2 t201 (t210 != t201) l0_0 t198 t207) else (laws_FnExactPutBytes.j1 kj14 a1 a2 t201 true l0_0 t198 t207))))) else (some false))) = some r := H
            have A60 := Aside0.mk A600
            clear A600
            replace H := Option.bind_eq_some_iff.mp H
            obtain ⟨t216, A610, H⟩ := H
            replace H : (if t216 = true then ((laws_markMemory.f kj14 t203 1).bind fun bt217 => (if bt217.1 < 0 then (laws_FnExactPutBytes.j1 kj14 a1 a2 t201 true l0_0 t198 t207) else ((laws_eqMemory.f kj14 t207 t198).bind fun t219 => (if t219 = true then (laws_FnExactPutBytes.j1 kj14 a1 a2 t201 (t210 != t201) l0_0 t198 t207) else (laws_FnExactPutBytes.j1 kj14 a1 a2 t201 true l0_0 t198 t207))))) else (some false)) = some r := H
            have A61 := Aside0.mk A610
            clear A610
            by_cases c62 : t216 = true
            · subst c62
              have H1 : ((laws_markMemory.f kj14 t203 1).bind fun bt217 => (if bt217.1 < 0 then (laws_FnExactPutBytes.j1 kj14 a1 a2 t201 true l0_0 t198 t207) else ((laws_eqMemory.f kj14 t207 t198).bind fun t219 => (if t219 = true then (laws_FnExactPutBytes.j1 kj14 a1 a2 t201 (t210 != t201) l0_0 t198 t207) else (laws_FnExactPutBytes.j1 kj14 a1 a2 t201 true l0_0 t198 t207))))) = some r := by rw [if_pos rfl] at H; exact H
              clear H
              have H := H1
              clear H1
              replace H := Option.bind_eq_some_iff.mp H
              obtain ⟨⟨t217, t218⟩, A630, H⟩ := H
              replace H : (if t217 < 0 then (laws_FnExactPutBytes.j1 kj14 a1 a2 t201 true l0_0 t198 t207) else ((laws_eqMemory.f kj14 t207 t198).bind fun t219 => (if t219 = true then (laws_FnExactPutBytes.j1 kj14 a1 a2 t201 (t210 != t201) l0_0 t198 t207) else (laws_FnExactPutBytes.j1 kj14 a1 a2 t201 true l0_0 t198 t207)))) = some r := H
              have A63 := Aside0.mk A630
              clear A630
              have HC64 := Aside0.mk H
              clear H
              try go_wp2
              have n0_ := Aside0.mk (Kd.R_drew HO_203000.out)
              have n1_ := Aside0.mk (Kd.R_drew HO_207000.out)
              have n2_ := Aside0.mk (Kd.R_drew HO_212000.out)
              have n3_ := Aside0.mk (blk_drew BK193.out)
              have n4_ := Aside0.mk (blk_drew BK202.out)
              have n5_ := Aside0.mk (blk_drew BK206.out)
              have n6_ := Aside0.mk (blk_drew BK211.out)
              have n7_ := Aside0.mk (below_drew1 HB.out)
              clear HO_203000
              clear HO_207000
              clear HO_212000
              clear BK193
              clear BK202
              clear BK206
              clear BK211
              clear HB
              have HO_203000 := n0_
              have HO_207000 := n1_
              have HO_212000 := n2_
              have BK193 := n3_
              have BK202 := n4_
              have BK206 := n5_
              have BK211 := n6_
              have HB := n7_
              clear n0_ n1_ n2_ n3_ n4_ n5_ n6_ n7_
              refine start_ (n := 5) (S := fun w' => w'.cell? ⟨gb206, 0, none⟩ = some (.slice Ao30 t203.length co30) ∧ w'.cell? ⟨gb193, 0, none⟩ = some (.slice A0_0 l0_0.length c0_0)) (ds := []) #[false, false, false, false, false] (by kernel_rfl) rfl rfl ⟨(blk_cell BK206.out 0).trans rfl, (blk_cell BK193.out 0).trans rfl⟩ (fun hHeld => ?_)
              generalize wc.drew = w65 at HO_203000 HO_207000 HO_212000 BK193 BK202 BK206 BK211 HB hHeld ⊢
              refine take_ (i := 0) (N := some 52) (v := ?_) (a' := ?_) #[true, false, false, false, false] rfl rfl (by kernel_rfl) (fun _ _ _ h => h) (Or.inl ⟨by rfl, ?_⟩) hHeld ?_ ?_
              rotate_left
              · rintro w' ⟨s0, s1⟩
                go_simp
                with_reducible rfl
              rotate_left
              · simp only [Act.put, List.setIfInBounds_toArray, List.set_cons_zero, List.set_cons_succ, i64_w, i32_w]
                rfl
              refine take_ (i := 1) (N := some 53) (v := ?_) (a' := ?_) #[true, true, false, false, false] rfl rfl (by kernel_rfl) (fun _ _ _ h => h) (Or.inl ⟨by rfl, ?_⟩) hHeld ?_ ?_
              rotate_left
              · rintro w' ⟨s0, s1⟩
                go_simp
                with_reducible rfl
              rotate_left
              · simp only [Act.put, List.setIfInBounds_toArray, List.set_cons_zero, List.set_cons_succ, i64_w, i32_w]
                rfl
              refine one_ (i := 2) (N := some 54) #[true, true, true, false, false] rfl rfl (by kernel_rfl) (by decide) (fun K hK => ?_)
              refine goes_ Try.func13 (by kernel_rfl) rfl #[.agg #[.slice A0_0 l0_0.length c0_0]] (by rfl) rfl rfl (by (try simp only [List.map_toArray, List.map_cons, List.map_nil]); first | done | rfl | (simp only [List.length_drop, List.length_take]; rfl)) ?_
              with_reducible refine (laws_toMemory.calls kj14 _ _ l0_0 t213 _ ?side1 ?side2 A60.out).mono ?_
              (case side1 => repeat (first | exact (Kd.C_below HR0_0.out HB.out) | (with_reducible refine Kd.C_alloc ?_ _) | (with_reducible refine Kd.C_drewN ?_ _) | (with_reducible refine Kd.C_drew ?_)))
              (case side2 => exact HC0_0.out)
              rintro e w66 ⟨v214, rfl, ho0, hb⟩
              refine ⟨_, rfl, ?_⟩
              have n0_ := Aside0.mk (Kd.R_elder' (by (with_reducible repeat (first | apply Kd.R_alloc | apply Kd.R_drewN | apply Kd.R_drew)); exact HO_203000.out) (Kd.R_base ho0) hb)
              have n1_ := Aside0.mk (Kd.R_elder' (by (with_reducible repeat (first | apply Kd.R_alloc | apply Kd.R_drewN | apply Kd.R_drew)); exact HO_207000.out) (Kd.R_base ho0) hb)
              have n2_ := Aside0.mk (Kd.R_elder' (by (with_reducible repeat (first | apply Kd.R_alloc | apply Kd.R_drewN | apply Kd.R_drew)); exact HO_212000.out) (Kd.R_base ho0) hb)
              have n3_ := Aside0.mk (Kd.R_lower (Kd.R_new' (Kd.R_new' (Kd.R_new' ho0 (Kd.R_lt (by (with_reducible repeat (first | apply Kd.R_alloc | apply Kd.R_drewN | apply Kd.R_drew)); exact HO_203000.out))) (Kd.R_lt (by (with_reducible repeat (first | apply Kd.R_alloc | apply Kd.R_drewN | apply Kd.R_drew)); exact HO_207000.out))) (Kd.R_lt (by (with_reducible repeat (first | apply Kd.R_alloc | apply Kd.R_drewN | apply Kd.R_drew)); exact HO_212000.out))) (below_size (by repeat (first | (with_reducible first | exact HB.out | apply below_alloc | apply pw_below_drewN | apply below_drew1 | refine below_set ?_ GE193.out | refine below_set ?_ GE202.out | refine below_set ?_ GE206.out | refine below_set ?_ GE211.out) | exact HB.out))))
              have n4_ := Aside0.mk (blk_below (g := gb193) (o := .cells #[.slice A0_0 l0_0.length c0_0] 24 (0, 0)) (by (with_reducible repeat (first | refine blk_drewN ?_ _ | refine blk_drew ?_ | refine blk_alloc ?_ _)); exact BK193.out) hb)
              have n5_ := Aside0.mk (blk_below (g := gb202) (o := .cells #[.slice Ao24 t198.length co24] 28 (0, 0)) (by (with_reducible repeat (first | refine blk_drewN ?_ _ | refine blk_drew ?_ | refine blk_alloc ?_ _)); exact BK202.out) hb)
              have n6_ := Aside0.mk (blk_below (g := gb206) (o := .cells #[.slice Ao30 t203.length co30] 28 (0, 0)) (by (with_reducible repeat (first | refine blk_drewN ?_ _ | refine blk_drew ?_ | refine blk_alloc ?_ _)); exact BK206.out) hb)
              have n7_ := Aside0.mk (blk_below (g := gb211) (o := .cells #[.slice Ao36 t207.length co36] 28 (0, 0)) (by (with_reducible repeat (first | refine blk_drewN ?_ _ | refine blk_drew ?_ | refine blk_alloc ?_ _)); exact BK211.out) hb)
              have n8_ := Aside0.mk (below_step (by repeat (first | (with_reducible first | exact HB.out | apply below_alloc | apply pw_below_drewN | apply below_drew1 | refine below_set ?_ GE193.out | refine below_set ?_ GE202.out | refine below_set ?_ GE206.out | refine below_set ?_ GE211.out) | exact HB.out)) hb)
              clear HO_203000
              clear HO_207000
              clear HO_212000
              clear BK193
              clear BK202
              clear BK206
              clear BK211
              clear HB
              have HO_203000 := n0_
              have HO_207000 := n1_
              have HO_212000 := n2_
              have HO215 := n3_
              have BK193 := n4_
              have BK202 := n5_
              have BK206 := n6_
              have BK211 := n7_
              have HB := n8_
              clear n0_ n1_ n2_ n3_ n4_ n5_ n6_ n7_ n8_
              (try clear hb)
              (try clear hb2)
              (try clear hk)
              (try clear hi)
              (try clear ho0)
              obtain ⟨Ao67, co67, eo67⟩ := Kd.R_slice HO215.out
              (first | subst eo67 | (injection eo67 with f1_ f2_ f3_; have f4_ := f1_.symm; have f5_ := f3_.symm; clear f1_ f2_ f3_; subst f4_; subst f5_))
              refine hK.out _ _ ⟨(blk_cell BK206.out 0).trans rfl, (blk_cell BK193.out 0).trans rfl⟩ (fun hHeld => ?_)
              clear hK K
              refine norm_ (a' := ?_) ?_ ?_
              rotate_left
              · show Act.put _ (some 54) _ = _
                simp only [Act.put, List.setIfInBounds_toArray, List.set_cons_zero, List.set_cons_succ, i64_w, i32_w]
                rfl
              refine one_ (i := 3) (N := some 55) #[true, true, true, true, false] rfl rfl (by kernel_rfl) (by decide) (fun K hK => ?_)
              refine goes_ Try.func15 (by kernel_rfl) rfl #[.agg #[.slice Ao30 t203.length co30], .agg #[.slice Ao67 t213.length co67]] (by rfl) rfl rfl (by (try simp only [List.map_toArray, List.map_cons, List.map_nil]); first | done | rfl | (simp only [List.length_drop, List.length_take]; rfl)) ?_
              with_reducible refine (laws_eqMemory.calls kj14 _ _ t203 _ _ t213 true _ ?side1 ?side2 ?side3 ?side4 A61.out).mono ?_
              (case side1 => repeat (first | exact (Kd.R_reads' HO_207000.out).2.2 | (with_reducible refine Kd.C_alloc ?_ _) | (with_reducible refine Kd.C_drewN ?_ _) | (with_reducible refine Kd.C_drew ?_)))
              (case side2 => exact (Kd.R_reads' HO_207000.out).2.1)
              (case side3 => repeat (first | exact (Kd.R_reads' HO215.out).2.2 | (with_reducible refine Kd.C_alloc ?_ _) | (with_reducible refine Kd.C_drewN ?_ _) | (with_reducible refine Kd.C_drew ?_)))
              (case side4 => exact (Kd.R_reads' HO215.out).2.1)
              rintro e w68 ⟨rfl, hb⟩
              refine ⟨_, rfl, ?_⟩
              have n0_ := Aside0.mk (Kd.R_below (by (with_reducible repeat (first | apply Kd.R_alloc | apply Kd.R_drewN | apply Kd.R_drew)); exact HO_203000.out) hb)
              have n1_ := Aside0.mk (Kd.R_below (by (with_reducible repeat (first | apply Kd.R_alloc | apply Kd.R_drewN | apply Kd.R_drew)); exact HO_207000.out) hb)
              have n2_ := Aside0.mk (Kd.R_below (by (with_reducible repeat (first | apply Kd.R_alloc | apply Kd.R_drewN | apply Kd.R_drew)); exact HO_212000.out) hb)
              have n3_ := Aside0.mk (Kd.R_below (by (with_reducible repeat (first | apply Kd.R_alloc | apply Kd.R_drewN | apply Kd.R_drew)); exact HO215.out) hb)
              have n4_ := Aside0.mk (blk_below (g := gb193) (o := .cells #[.slice A0_0 l0_0.length c0_0] 24 (0, 0)) (by (with_reducible repeat (first | refine blk_drewN ?_ _ | refine blk_drew ?_ | refine blk_alloc ?_ _)); exact BK193.out) hb)
              have n5_ := Aside0.mk (blk_below (g := gb202) (o := .cells #[.slice Ao24 t198.length co24] 28 (0, 0)) (by (with_reducible repeat (first | refine blk_drewN ?_ _ | refine blk_drew ?_ | refine blk_alloc ?_ _)); exact BK202.out) hb)
              have n6_ := Aside0.mk (blk_below (g := gb206) (o := .cells #[.slice Ao30 t203.length co30] 28 (0, 0)) (by (with_reducible repeat (first | refine blk_drewN ?_ _ | refine blk_drew ?_ | refine blk_alloc ?_ _)); exact BK206.out) hb)
              have n7_ := Aside0.mk (blk_below (g := gb211) (o := .cells #[.slice Ao36 t207.length co36] 28 (0, 0)) (by (with_reducible repeat (first | refine blk_drewN ?_ _ | refine blk_drew ?_ | refine blk_alloc ?_ _)); exact BK211.out) hb)
              have n8_ := Aside0.mk (below_step (by repeat (first | (with_reducible first | exact HB.out | apply below_alloc | apply pw_below_drewN | apply below_drew1 | refine below_set ?_ GE193.out | refine below_set ?_ GE202.out | refine below_set ?_ GE206.out | refine below_set ?_ GE211.out) | exact HB.out)) hb)
              clear HO_203000
              clear HO_207000
              clear HO_212000
              clear HO215
              clear BK193
              clear BK202
              clear BK206
              clear BK211
              clear HB
              have HO_203000 := n0_
              have HO_207000 := n1_
              have HO_212000 := n2_
              have HO215 := n3_
              have BK193 := n4_
              have BK202 := n5_
              have BK206 := n6_
              have BK211 := n7_
              have HB := n8_
              clear n0_ n1_ n2_ n3_ n4_ n5_ n6_ n7_ n8_
              (try clear hb)
              (try clear hb2)
              (try clear hk)
              (try clear hi)
              refine hK.out _ _ ⟨(blk_cell BK206.out 0).trans rfl, (blk_cell BK193.out 0).trans rfl⟩ (fun hHeld => ?_)
              clear hK K
              refine norm_ (a' := ?_) ?_ ?_
              rotate_left
              · show Act.put _ (some 55) _ = _
                simp only [Act.put, List.setIfInBounds_toArray, List.set_cons_zero, List.set_cons_succ, i64_w, i32_w]
                rfl
              refine pure_ (i := 4) (N := some 56) (v := ?_) (a' := ?_) #[true, true, true, true, true] rfl rfl (by kernel_rfl) (fun _ _ _ h => h) (Or.inl ⟨by rfl, ?_⟩) ?_ ?_
              rotate_left
              · intro w'
                go_simp
                with_reducible rfl
              rotate_left
              · simp only [Act.put, List.setIfInBounds_toArray, List.set_cons_zero, List.set_cons_succ, i64_w, i32_w]
                rfl
              refine done_ (by kernel_rfl) ?_
              have hnb69 := NB206_193.out
              have hnc69 := NB193_206.out
              have hnb70 := NB206_202.out
              have hnc70 := NB202_206.out
              have hnb71 := NB206_211.out
              have hnc71 := NB211_206.out
              have hcz72_0 : w68.cell? ⟨gb206, 0, none⟩ = some (.slice Ao30 t203.length co30) := (blk_cell BK206.out 0).trans rfl
              have hfz72_0 := blk_frozen BK206.out 0
              go_upto_region 16 with (first | ((with_reducible refine gate_callee (f := 16) rfl ?_); refine goesL_ (some 59) rfl rfl Try.func16 (by kernel_rfl) rfl #[.agg #[.slice Ao30 t203.length co30], .int .i64 1] rfl (by (try simp only [List.map_toArray, List.map_cons, List.map_nil]); first | done | rfl | (simp only [List.length_drop, List.length_take]; rfl)) ?_; (with_reducible refine (laws_markMemory.calls kj14 (fun k_ => some k_ = (.slice Ao30 t203.length co30 : Value).ownBlock) (.slice Ao30 t203.length co30) t203 1 t217 t218 w _ ?side1 ?side2 A63.out).mono ?_); (case side1 => repeat (first | (with_reducible first | exact HB.out | apply below_alloc | apply pw_below_drewN | apply below_drew1 | refine below_set ?_ GE193.out | refine below_set ?_ GE202.out | refine below_set ?_ GE206.out | refine below_set ?_ GE211.out) | exact HB.out)); (case side2 => exact Kd.R_tight rfl HO_207000.out); rintro e w73 ⟨rfl, hy0, hb, hkp⟩; refine ⟨_, rfl, ?_⟩; have n0_ := Aside0.mk (Kd.R_mono (ok' := fun k_ => some k_ ≠ (.slice Ao30 t203.length co30 : Value).ownBlock ∧ some k_ ≠ (.slice Ao36 t207.length co36 : Value).ownBlock ∧ some k_ ≠ (.slice Ao67 t213.length co67 : Value).ownBlock) (Kd.R_keptB (HO_203000.out) hkp (fun k_ hk_ hs_ => (hk_.1.1) hs_)) (fun k_ hk_ => ⟨hk_.1.1.1, hk_.1.1.2, hk_.1.2⟩)); have n1_ := Aside0.mk (Kd.R_reok rfl hy0 (fun k_ e_ => HO_207000.out.1 k_ e_)); have n2_ := Aside0.mk (Kd.R_mono (ok' := fun k_ => some k_ ≠ (.slice Ao24 t198.length co24 : Value).ownBlock ∧ some k_ ≠ (.slice Ao30 t203.length co30 : Value).ownBlock ∧ some k_ ≠ (.slice Ao67 t213.length co67 : Value).ownBlock) (Kd.R_keptB (HO_212000.out) hkp (fun k_ hk_ hs_ => (hk_.1.2) hs_)) (fun k_ hk_ => ⟨hk_.1.1.1, hk_.1.1.2, hk_.1.2⟩)); have n3_ := Aside0.mk (blk_kept (by (with_reducible repeat (first | refine blk_drewN ?_ _ | refine blk_drew ?_ | refine blk_alloc ?_ _)); exact BK193.out) hkp (fun hs_ => (fun e_ => (Kd.R_ne HO_207000.out BK193.out (by decide)) e_) hs_)); have n4_ := Aside0.mk (blk_kept (by (with_reducible repeat (first | refine blk_drewN ?_ _ | refine blk_drew ?_ | refine blk_alloc ?_ _)); exact BK202.out) hkp (fun hs_ => (fun e_ => (Kd.R_ne HO_207000.out BK202.out (by decide)) e_) hs_)); have n5_ := Aside0.mk (blk_kept (by (with_reducible repeat (first | refine blk_drewN ?_ _ | refine blk_drew ?_ | refine blk_alloc ?_ _)); exact BK206.out) hkp (fun hs_ => (fun e_ => (Kd.R_ne HO_207000.out BK206.out (by decide)) e_) hs_)); have n6_ := Aside0.mk (blk_kept (by (with_reducible repeat (first | refine blk_drewN ?_ _ | refine blk_drew ?_ | refine blk_alloc ?_ _)); exact BK211.out) hkp (fun hs_ => (fun e_ => (Kd.R_ne HO_207000.out BK211.out (by decide)) e_) hs_)); have n7_ := Aside0.mk (Kd.R_mono (ok' := fun k_ => some k_ ≠ (.slice Ao24 t198.length co24 : Value).ownBlock ∧ some k_ ≠ (.slice Ao30 t203.length co30 : Value).ownBlock ∧ some k_ ≠ (.slice Ao36 t207.length co36 : Value).ownBlock) (Kd.R_keptB (HO215.out) hkp (fun k_ hk_ hs_ => (hk_.1.2) hs_)) (fun k_ hk_ => ⟨hk_.1.1.1.2, hk_.1.1.2, hk_.1.2⟩)); have n8_ := Aside0.mk (hb); clear HO_203000; clear HO_207000; clear HO_212000; clear BK193; clear BK202; clear BK206; clear BK211; clear HO215; clear HB; have HO_203000 := n0_; have HO_207000 := n1_; have HO_212000 := n2_; have BK193 := n3_; have BK202 := n4_; have BK206 := n5_; have BK211 := n6_; have HO215 := n7_; have HB := n8_; clear n0_ n1_ n2_ n3_ n4_ n5_ n6_ n7_ n8_; (try clear hb); (try clear hkp); (try clear hy0)))
              (try simp only [Act.put, List.setIfInBounds_toArray, List.set_cons_zero, List.set_cons_succ])
              go_cut [72] (fun v72 wc => ∃ (kq : Nat) (x72_63 : Bool), v72 = .bool x72_63 ∧ Aside0 (laws_FnExactPutBytes.j1 kq a1 a2 t201 x72_63 l0_0 t198 t207 = some r) ∧ Aside0 (kq ≤ kj14) ∧ Aside0 (Kd.R k55 55 wc w.heap.size (fun k_ => some k_ ≠ ((.slice Ao30 t203.length co30) : Value).ownBlock ∧ some k_ ≠ ((.slice Ao36 t207.length co36) : Value).ownBlock) (.slice Ao24 t198.length co24) t198) ∧ Aside0 (Kd.R k55 55 wc w.heap.size (fun k_ => some k_ ≠ ((.slice Ao24 t198.length co24) : Value).ownBlock ∧ some k_ ≠ ((.slice Ao36 t207.length co36) : Value).ownBlock) (.slice Ao30 t203.length co30) t218) ∧ Aside0 (Kd.R k55 55 wc w.heap.size (fun k_ => some k_ ≠ ((.slice Ao24 t198.length co24) : Value).ownBlock ∧ some k_ ≠ ((.slice Ao30 t203.length co30) : Value).ownBlock) (.slice Ao36 t207.length co36) t207) ∧ Aside0 (wc.heap[gb193]? = some (.cells #[(.slice A0_0 l0_0.length c0_0)] 24 (0, 0))) ∧ Aside0 (wc.heap[gb202]? = some (.cells #[(.slice Ao24 t198.length co24)] 28 (0, 0))) ∧ Aside0 (wc.heap[gb206]? = some (.cells #[(.slice Ao30 t203.length co30)] 28 (0, 0))) ∧ Aside0 (wc.heap[gb211]? = some (.cells #[(.slice Ao36 t207.length co36)] 28 (0, 0))) ∧ Aside0 (Below w.heap.size w wc))
              case first =>
                have H := HC64.out
                clear HC64
                by_cases c74 : t217 < 0
                · rw [if_pos c74] at H
                  have c74b0 : decide (t217 < 0) = true := decide_eq_true c74
                  clear c74
                  (first | rw [c74b0] | (simp only [i64_w, i32_w]; rw [c74b0]) | skip)
                  have H' := Aside0.mk H
                  clear H
                  go_wp2
                  go_meet
                  case rel => exact ⟨_, (true), (by first | rfl | (simp; done) | (simp [*]; done)), H', ⟨by have := HJ14.out; first | omega | exact Nat.le_refl _⟩, ⟨by (with_reducible repeat (first | apply Kd.R_alloc | apply Kd.R_drewN | apply Kd.R_drew)); exact Kd.R_mono HO_203000.out (fun _ hk => ⟨hk.1, hk.2.1⟩)⟩, ⟨by (with_reducible repeat (first | apply Kd.R_alloc | apply Kd.R_drewN | apply Kd.R_drew)); exact Kd.R_mono HO_207000.out (fun _ hk => ⟨hk.1.1, hk.1.2⟩)⟩, ⟨by (with_reducible repeat (first | apply Kd.R_alloc | apply Kd.R_drewN | apply Kd.R_drew)); exact Kd.R_mono HO_212000.out (fun _ hk => ⟨hk.1, hk.2.1⟩)⟩, ⟨by (with_reducible repeat (first | refine blk_drewN ?_ _ | refine blk_drew ?_ | refine blk_alloc ?_ _)); exact BK193.out⟩, ⟨by (with_reducible repeat (first | refine blk_drewN ?_ _ | refine blk_drew ?_ | refine blk_alloc ?_ _)); exact BK202.out⟩, ⟨by (with_reducible repeat (first | refine blk_drewN ?_ _ | refine blk_drew ?_ | refine blk_alloc ?_ _)); exact BK206.out⟩, ⟨by (with_reducible repeat (first | refine blk_drewN ?_ _ | refine blk_drew ?_ | refine blk_alloc ?_ _)); exact BK211.out⟩, ⟨by repeat (first | (with_reducible first | exact HB.out | apply below_alloc | apply pw_below_drewN | apply below_drew1 | refine below_set ?_ GE193.out | refine below_set ?_ GE202.out | refine below_set ?_ GE206.out | refine below_set ?_ GE211.out) | exact HB.out)⟩⟩
                · rw [if_neg c74] at H
                  have c74b0 : decide (t217 < 0) = false := decide_eq_false c74
                  clear c74
                  (first | rw [c74b0] | (simp only [i64_w, i32_w]; rw [c74b0]) | skip)
                  replace H := Option.bind_eq_some_iff.mp H
                  obtain ⟨t219, A750, H⟩ := H
                  replace H : (if t219 = true then (laws_FnExactPutBytes.j1 kj14 a1 a2 t201 (t210 != t201) l0_0 t198 t207) else (laws_FnExactPutBytes.j1 kj14 a1 a2 t201 true l0_0 t198 t207)) = some r := H
                  have A75 := Aside0.mk A750
                  clear A750
                  by_cases c76 : t219 = true
                  · subst c76
                    have H1 : (laws_FnExactPutBytes.j1 kj14 a1 a2 t201 (t210 != t201) l0_0 t198 t207) = some r := by rw [if_pos rfl] at H; exact H
                    clear H
                    have H := H1
                    clear H1
                    have H' := Aside0.mk H
                    clear H
                    have hnb77 := NB211_193.out
                    have hnc77 := NB193_211.out
                    have hnb78 := NB211_202.out
                    have hnc78 := NB202_211.out
                    have hnb79 := NB211_206.out
                    have hnc79 := NB206_211.out
                    have hcz80_0 : w73.cell? ⟨gb211, 0, none⟩ = some (.slice Ao36 t207.length co36) := (blk_cell BK211.out 0).trans rfl
                    have hfz80_0 := blk_frozen BK211.out 0
                    have hnb81 := NB202_193.out
                    have hnc81 := NB193_202.out
                    have hnb82 := NB202_206.out
                    have hnc82 := NB206_202.out
                    have hcz83_0 : w73.cell? ⟨gb202, 0, none⟩ = some (.slice Ao24 t198.length co24) := (blk_cell BK202.out 0).trans rfl
                    have hfz83_0 := blk_frozen BK202.out 0
                    go_wp2_with (first | (go_at_call 15; (with_reducible refine (laws_eqMemory.calls kj14 _ _ t207 _ _ t198 true _ ?side1 ?side2 ?side3 ?side4 A75.out).mono ?_); (case side1 => repeat (first | exact (Kd.R_reads' HO_212000.out).2.2 | (with_reducible refine Kd.C_alloc ?_ _) | (with_reducible refine Kd.C_drewN ?_ _) | (with_reducible refine Kd.C_drew ?_))); (case side2 => exact (Kd.R_reads' HO_212000.out).2.1); (case side3 => repeat (first | exact (Kd.R_reads' HO_203000.out).2.2 | (with_reducible refine Kd.C_alloc ?_ _) | (with_reducible refine Kd.C_drewN ?_ _) | (with_reducible refine Kd.C_drew ?_))); (case side4 => exact (Kd.R_reads' HO_203000.out).2.1); rintro e w84 ⟨rfl, hb⟩; have n0_ := Aside0.mk (Kd.R_below (by (with_reducible repeat (first | apply Kd.R_alloc | apply Kd.R_drewN | apply Kd.R_drew)); exact HO_203000.out) hb); have n1_ := Aside0.mk (Kd.R_below (by (with_reducible repeat (first | apply Kd.R_alloc | apply Kd.R_drewN | apply Kd.R_drew)); exact HO_207000.out) hb); have n2_ := Aside0.mk (Kd.R_below (by (with_reducible repeat (first | apply Kd.R_alloc | apply Kd.R_drewN | apply Kd.R_drew)); exact HO_212000.out) hb); have n3_ := Aside0.mk (Kd.R_below (by (with_reducible repeat (first | apply Kd.R_alloc | apply Kd.R_drewN | apply Kd.R_drew)); exact HO215.out) hb); have n4_ := Aside0.mk (blk_below (g := gb193) (o := .cells #[.slice A0_0 l0_0.length c0_0] 24 (0, 0)) (by (with_reducible repeat (first | refine blk_drewN ?_ _ | refine blk_drew ?_ | refine blk_alloc ?_ _)); exact BK193.out) hb); have n5_ := Aside0.mk (blk_below (g := gb202) (o := .cells #[.slice Ao24 t198.length co24] 28 (0, 0)) (by (with_reducible repeat (first | refine blk_drewN ?_ _ | refine blk_drew ?_ | refine blk_alloc ?_ _)); exact BK202.out) hb); have n6_ := Aside0.mk (blk_below (g := gb206) (o := .cells #[.slice Ao30 t203.length co30] 28 (0, 0)) (by (with_reducible repeat (first | refine blk_drewN ?_ _ | refine blk_drew ?_ | refine blk_alloc ?_ _)); exact BK206.out) hb); have n7_ := Aside0.mk (blk_below (g := gb211) (o := .cells #[.slice Ao36 t207.length co36] 28 (0, 0)) (by (with_reducible repeat (first | refine blk_drewN ?_ _ | refine blk_drew ?_ | refine blk_alloc ?_ _)); exact BK211.out) hb); have n8_ := Aside0.mk (below_step (by repeat (first | (with_reducible first | exact HB.out | apply below_alloc | apply pw_below_drewN | apply below_drew1 | refine below_set ?_ GE193.out | refine below_set ?_ GE202.out | refine below_set ?_ GE206.out | refine below_set ?_ GE211.out) | exact HB.out)) hb); clear HO_203000; clear HO_207000; clear HO_212000; clear HO215; clear BK193; clear BK202; clear BK206; clear BK211; clear HB; have HO_203000 := n0_; have HO_207000 := n1_; have HO_212000 := n2_; have HO215 := n3_; have BK193 := n4_; have BK202 := n5_; have BK206 := n6_; have BK211 := n7_; have HB := n8_; clear n0_ n1_ n2_ n3_ n4_ n5_ n6_ n7_ n8_; (try clear hb); (try clear hb2); (try clear hk); (try clear hi)))
                    go_meet
                    case rel => exact ⟨_, ((t210 != t201)), (by first | rfl | (simp; done) | (simp [*]; done)), H', ⟨by have := HJ14.out; first | omega | exact Nat.le_refl _⟩, ⟨by (with_reducible repeat (first | apply Kd.R_alloc | apply Kd.R_drewN | apply Kd.R_drew)); exact Kd.R_mono HO_203000.out (fun _ hk => ⟨hk.1, hk.2.1⟩)⟩, ⟨by (with_reducible repeat (first | apply Kd.R_alloc | apply Kd.R_drewN | apply Kd.R_drew)); exact Kd.R_mono HO_207000.out (fun _ hk => ⟨hk.1.1, hk.1.2⟩)⟩, ⟨by (with_reducible repeat (first | apply Kd.R_alloc | apply Kd.R_drewN | apply Kd.R_drew)); exact Kd.R_mono HO_212000.out (fun _ hk => ⟨hk.1, hk.2.1⟩)⟩, ⟨by (with_reducible repeat (first | refine blk_drewN ?_ _ | refine blk_drew ?_ | refine blk_alloc ?_ _)); exact BK193.out⟩, ⟨by (with_reducible repeat (first | refine blk_drewN ?_ _ | refine blk_drew ?_ | refine blk_alloc ?_ _)); exact BK202.out⟩, ⟨by (with_reducible repeat (first | refine blk_drewN ?_ _ | refine blk_drew ?_ | refine blk_alloc ?_ _)); exact BK206.out⟩, ⟨by (with_reducible repeat (first | refine blk_drewN ?_ _ | refine blk_drew ?_ | refine blk_alloc ?_ _)); exact BK211.out⟩, ⟨by repeat (first | (with_reducible first | exact HB.out | apply below_alloc | apply pw_below_drewN | apply below_drew1 | refine below_set ?_ GE193.out | refine below_set ?_ GE202.out | refine below_set ?_ GE206.out | refine below_set ?_ GE211.out) | exact HB.out)⟩⟩
                  · replace c76 := Bool.eq_false_iff.mpr c76
                    subst c76
                    have H1 : (laws_FnExactPutBytes.j1 kj14 a1 a2 t201 true l0_0 t198 t207) = some r := by rw [if_neg (show ¬ (false = true) by decide)] at H; exact H
                    clear H
                    have H := H1
                    clear H1
                    have H' := Aside0.mk H
                    clear H
                    have hnb85 := NB211_193.out
                    have hnc85 := NB193_211.out
                    have hnb86 := NB211_202.out
                    have hnc86 := NB202_211.out
                    have hnb87 := NB211_206.out
                    have hnc87 := NB206_211.out
                    have hcz88_0 : w73.cell? ⟨gb211, 0, none⟩ = some (.slice Ao36 t207.length co36) := (blk_cell BK211.out 0).trans rfl
                    have hfz88_0 := blk_frozen BK211.out 0
                    have hnb89 := NB202_193.out
                    have hnc89 := NB193_202.out
                    have hnb90 := NB202_206.out
                    have hnc90 := NB206_202.out
                    have hcz91_0 : w73.cell? ⟨gb202, 0, none⟩ = some (.slice Ao24 t198.length co24) := (blk_cell BK202.out 0).trans rfl
                    have hfz91_0 := blk_frozen BK202.out 0
                    go_wp2_with (first | (go_at_call 15; (with_reducible refine (laws_eqMemory.calls kj14 _ _ t207 _ _ t198 false _ ?side1 ?side2 ?side3 ?side4 A75.out).mono ?_); (case side1 => repeat (first | exact (Kd.R_reads' HO_212000.out).2.2 | (with_reducible refine Kd.C_alloc ?_ _) | (with_reducible refine Kd.C_drewN ?_ _) | (with_reducible refine Kd.C_drew ?_))); (case side2 => exact (Kd.R_reads' HO_212000.out).2.1); (case side3 => repeat (first | exact (Kd.R_reads' HO_203000.out).2.2 | (with_reducible refine Kd.C_alloc ?_ _) | (with_reducible refine Kd.C_drewN ?_ _) | (with_reducible refine Kd.C_drew ?_))); (case side4 => exact (Kd.R_reads' HO_203000.out).2.1); rintro e w92 ⟨rfl, hb⟩; have n0_ := Aside0.mk (Kd.R_below (by (with_reducible repeat (first | apply Kd.R_alloc | apply Kd.R_drewN | apply Kd.R_drew)); exact HO_203000.out) hb); have n1_ := Aside0.mk (Kd.R_below (by (with_reducible repeat (first | apply Kd.R_alloc | apply Kd.R_drewN | apply Kd.R_drew)); exact HO_207000.out) hb); have n2_ := Aside0.mk (Kd.R_below (by (with_reducible repeat (first | apply Kd.R_alloc | apply Kd.R_drewN | apply Kd.R_drew)); exact HO_212000.out) hb); have n3_ := Aside0.mk (Kd.R_below (by (with_reducible repeat (first | apply Kd.R_alloc | apply Kd.R_drewN | apply Kd.R_drew)); exact HO215.out) hb); have n4_ := Aside0.mk (blk_below (g := gb193) (o := .cells #[.slice A0_0 l0_0.length c0_0] 24 (0, 0)) (by (with_reducible repeat (first | refine blk_drewN ?_ _ | refine blk_drew ?_ | refine blk_alloc ?_ _)); exact BK193.out) hb); have n5_ := Aside0.mk (blk_below (g := gb202) (o := .cells #[.slice Ao24 t198.length co24] 28 (0, 0)) (by (with_reducible repeat (first | refine blk_drewN ?_ _ | refine blk_drew ?_ | refine blk_alloc ?_ _)); exact BK202.out) hb); have n6_ := Aside0.mk (blk_below (g := gb206) (o := .cells #[.slice Ao30 t203.length co30] 28 (0, 0)) (by (with_reducible repeat (first | refine blk_drewN ?_ _ | refine blk_drew ?_ | refine blk_alloc ?_ _)); exact BK206.out) hb); have n7_ := Aside0.mk (blk_below (g := gb211) (o := .cells #[.slice Ao36 t207.length co36] 28 (0, 0)) (by (with_reducible repeat (first | refine blk_drewN ?_ _ | refine blk_drew ?_ | refine blk_alloc ?_ _)); exact BK211.out) hb); have n8_ := Aside0.mk (below_step (by repeat (first | (with_reducible first | exact HB.out | apply below_alloc | apply pw_below_drewN | apply below_drew1 | refine below_set ?_ GE193.out | refine below_set ?_ GE202.out | refine below_set ?_ GE206.out | refine below_set ?_ GE211.out) | exact HB.out)) hb); clear HO_203000; clear HO_207000; clear HO_212000; clear HO215; clear BK193; clear BK202; clear BK206; clear BK211; clear HB; have HO_203000 := n0_; have HO_207000 := n1_; have HO_212000 := n2_; have HO215 := n3_; have BK193 := n4_; have BK202 := n5_; have BK206 := n6_; have BK211 := n7_; have HB := n8_; clear n0_ n1_ n2_ n3_ n4_ n5_ n6_ n7_ n8_; (try clear hb); (try clear hb2); (try clear hk); (try clear hi)))
                    go_meet
                    case rel => exact ⟨_, (true), (by first | rfl | (simp; done) | (simp [*]; done)), H', ⟨by have := HJ14.out; first | omega | exact Nat.le_refl _⟩, ⟨by (with_reducible repeat (first | apply Kd.R_alloc | apply Kd.R_drewN | apply Kd.R_drew)); exact Kd.R_mono HO_203000.out (fun _ hk => ⟨hk.1, hk.2.1⟩)⟩, ⟨by (with_reducible repeat (first | apply Kd.R_alloc | apply Kd.R_drewN | apply Kd.R_drew)); exact Kd.R_mono HO_207000.out (fun _ hk => ⟨hk.1.1, hk.1.2⟩)⟩, ⟨by (with_reducible repeat (first | apply Kd.R_alloc | apply Kd.R_drewN | apply Kd.R_drew)); exact Kd.R_mono HO_212000.out (fun _ hk => ⟨hk.1, hk.2.1⟩)⟩, ⟨by (with_reducible repeat (first | refine blk_drewN ?_ _ | refine blk_drew ?_ | refine blk_alloc ?_ _)); exact BK193.out⟩, ⟨by (with_reducible repeat (first | refine blk_drewN ?_ _ | refine blk_drew ?_ | refine blk_alloc ?_ _)); exact BK202.out⟩, ⟨by (with_reducible repeat (first | refine blk_drewN ?_ _ | refine blk_drew ?_ | refine blk_alloc ?_ _)); exact BK206.out⟩, ⟨by (with_reducible repeat (first | refine blk_drewN ?_ _ | refine blk_drew ?_ | refine blk_alloc ?_ _)); exact BK211.out⟩, ⟨by repeat (first | (with_reducible first | exact HB.out | apply below_alloc | apply pw_below_drewN | apply below_drew1 | refine below_set ?_ GE193.out | refine below_set ?_ GE202.out | refine below_set ?_ GE206.out | refine below_set ?_ GE211.out) | exact HB.out)⟩⟩
              case rest =>
                clear HC64
                try clear c1
                try clear c2
                try clear p2
                try clear c3
                try clear c4
                try clear c4b0
                try clear c4b1
                try clear c5
                try clear c6
                try clear c7
                try clear c7b0
                try clear c8
                try clear c9
                try clear c10
                try clear c11
                try clear c13
                try clear c15
                try clear c16
                try clear c25
                try clear c30
                try clear c31
                try clear c32
                try clear c37
                try clear c38
                try clear c39
                try clear c42
                try clear c43
                try clear c44
                try clear c45
                try clear c47
                try clear c48
                try clear c51
                try clear c52
                try clear c53
                try clear c55
                try clear c56
                try clear c59
                try clear c62
                try clear c69
                try clear c70
                try clear c71
                try clear c74
                try clear c74b0
                try clear c76
                try clear c77
                try clear c78
                try clear c79
                try clear c81
                try clear c82
                try clear c85
                try clear c86
                try clear c87
                try clear c89
                try clear c90
                try clear hcz17_0
                try clear hcz19_0
                try clear hcz26_0
                try clear hcz27_0
                try clear hcz33_0
                try clear hcz40_0
                try clear hcz46_0
                try clear hcz49_0
                try clear hcz54_0
                try clear hcz57_0
                try clear hcz72_0
                try clear hcz80_0
                try clear hcz83_0
                try clear hcz88_0
                try clear hcz91_0
                try clear hcz9_0
                try clear hfz17_0
                try clear hfz19_0
                try clear hfz26_0
                try clear hfz27_0
                try clear hfz33_0
                try clear hfz40_0
                try clear hfz46_0
                try clear hfz49_0
                try clear hfz54_0
                try clear hfz57_0
                try clear hfz72_0
                try clear hfz80_0
                try clear hfz83_0
                try clear hfz88_0
                try clear hfz91_0
                try clear hfz9_0
                try clear p2
                obtain ⟨kq, x72_63, rfl, HA, HJ63, HO_203000, HO_207000, HO_212000, BK193, BK202, BK206, BK211, HB⟩ := hcut
                have hl207000_63 := (Kd.R_reads' HO_207000.out).1
                rw [hl207000_63] at HO_207000
                (try simp only [hl207000_63])
                (try simp only [hl207000_63] at BK193)
                (try simp only [hl207000_63] at BK202)
                (try simp only [hl207000_63] at BK206)
                (try simp only [hl207000_63] at BK211)
                (try simp only [hl207000_63] at HO_203000)
                (try simp only [hl207000_63] at HO_212000)
                cases kq with
                | zero => exact absurd HA.out (by simp [laws_FnExactPutBytes.j1])
                | succ kj63 =>
                  have H := HA.out
                  clear HA
                  simp only [laws_FnExactPutBytes.j1] at H
                  by_cases c93 : x72_63 = true
                  · subst c93
                    have H1 : (some false) = some r := by rw [if_pos rfl] at H; exact H
                    clear H
                    have H := H1
                    clear H1
                    obtain rfl := Option.some.inj H
                    go_wp2
                    go_ret
                    exact ⟨by first | rfl | (simp [errW_none, errW_some] <;> rfl) | (simp [*, errW_none, errW_some] <;> rfl), by repeat (first | (with_reducible first | exact HB.out | apply below_alloc | apply pw_below_drewN | apply below_drew1 | refine below_set ?_ GE193.out | refine below_set ?_ GE202.out | refine below_set ?_ GE206.out | refine below_set ?_ GE211.out) | exact HB.out)⟩
                  · replace c93 := Bool.eq_false_iff.mpr c93
                    subst c93
                    have H1 : ((laws_markMemory.f kj63 t207 1).bind fun bt220 => ((laws_heldMemory.f kj63 bt220.2 1).bind fun t222 => (if t222 < 0 then (some false) else (if t222 = bt220.1 then ((laws_toMemory.f kj63 l0_0).bind fun t223 => ((impl_PutBytes.f kj63 t223 a1 a2).bind fun bt226 => ((laws_eqMemory.f kj63 bt226.1 t198).bind fun t231 => (if t231 = true then (laws_FnExactPutBytes.j2 kj63 bt220.1 (bt226.2 != t201) bt220.2) else (laws_FnExactPutBytes.j2 kj63 bt220.1 true bt220.2))))) else (some false))))) = some r := by rw [if_neg (show ¬ (false = true) by decide)] at H; exact H
                    clear H
                    have H := H1
                    clear H1
                    replace H := Option.bind_eq_some_iff.mp H
                    obtain ⟨⟨t220, t221⟩, A940, H⟩ := H
                    replace H : ((laws_heldMemory.f kj63 t221 1).bind fun t222 => (if t222 < 0 then (some false) else (if t222 = t220 then ((laws_toMemory.f kj63 l0_0).bind fun t223 => ((impl_PutBytes.f kj63 t223 a1 a2).bind fun bt226 => ((laws_eqMemory.f kj63 bt226.1 t198).bind fun t231 => (if t231 = true then (laws_FnExactPutBytes.j2 kj63 t220 (bt226.2 != t201) t221) else (laws_FnExactPutBytes.j2 kj63 t220 true t221))))) else (some false)))) = some r := H
                    have A94 := Aside0.mk A940
                    clear A940
                    replace H := Option.bind_eq_some_iff.mp H
                    obtain ⟨t222, A950, H⟩ := H
                    replace H : (if t222 < 0 then (some false) else (if t222 = t220 then ((laws_toMemory.f kj63 l0_0).bind fun t223 => ((impl_PutBytes.f kj63 t223 a1 a2).bind fun bt226 => ((laws_eqMemory.f kj63 bt226.1 t198).bind fun t231 => (if t231 = true then (laws_FnExactPutBytes.j2 kj63 t220 (bt226.2 != t201) t221) else (laws_FnExactPutBytes.j2 kj63 t220 true t221))))) else (some false))) = some r := H
                    have A95 := Aside0.mk A950
                    clear A950
                    by_cases c96 : t222 < 0
                    · rw [if_pos c96] at H
                      have c96b0 : decide (t222 < 0) = true := decide_eq_true c96
                      clear c96
                      obtain rfl := Option.some.inj H
                      have hnb97 := NB211_193.out
                      have hnc97 := NB193_211.out
                      have hnb98 := NB211_202.out
                      have hnc98 := NB202_211.out
                      have hnb99 := NB211_206.out
                      have hnc99 := NB206_211.out
                      have hcz100_0 : wc.cell? ⟨gb211, 0, none⟩ = some (.slice Ao36 t207.length co36) := (blk_cell BK211.out 0).trans rfl
                      have hfz100_0 := blk_frozen BK211.out 0
                      go_wp2_with (first | ((with_reducible refine gate_callee (f := 16) rfl ?_); refine goesL_ (some 75) rfl rfl Try.func16 (by kernel_rfl) rfl #[.agg #[.slice Ao36 t207.length co36], .int .i64 1] rfl (by (try simp only [List.map_toArray, List.map_cons, List.map_nil]); first | done | rfl | (simp only [List.length_drop, List.length_take]; rfl)) ?_; (with_reducible refine (laws_markMemory.calls kj63 (fun k_ => some k_ = (.slice Ao36 t207.length co36 : Value).ownBlock) (.slice Ao36 t207.length co36) t207 1 t220 t221 w _ ?side1 ?side2 A94.out).mono ?_); (case side1 => repeat (first | (with_reducible first | exact HB.out | apply below_alloc | apply pw_below_drewN | apply below_drew1 | refine below_set ?_ GE193.out | refine below_set ?_ GE202.out | refine below_set ?_ GE206.out | refine below_set ?_ GE211.out) | exact HB.out)); (case side2 => exact Kd.R_tight rfl HO_212000.out); rintro e w101 ⟨rfl, hy0, hb, hkp⟩; refine ⟨_, rfl, ?_⟩; have n0_ := Aside0.mk (Kd.R_mono (ok' := fun k_ => some k_ ≠ (.slice Ao30 t218.length co30 : Value).ownBlock ∧ some k_ ≠ (.slice Ao36 t207.length co36 : Value).ownBlock) (Kd.R_keptB (HO_203000.out) hkp (fun k_ hk_ hs_ => (hk_.2) hs_)) (fun k_ hk_ => ⟨hk_.1.1, hk_.1.2⟩)); have n1_ := Aside0.mk (Kd.R_mono (ok' := fun k_ => some k_ ≠ (.slice Ao24 t198.length co24 : Value).ownBlock ∧ some k_ ≠ (.slice Ao36 t207.length co36 : Value).ownBlock) (Kd.R_keptB (HO_207000.out) hkp (fun k_ hk_ hs_ => (hk_.2) hs_)) (fun k_ hk_ => ⟨hk_.1.1, hk_.1.2⟩)); have n2_ := Aside0.mk (Kd.R_reok rfl hy0 (fun k_ e_ => HO_212000.out.1 k_ e_)); have n3_ := Aside0.mk (blk_kept (by (with_reducible repeat (first | refine blk_drewN ?_ _ | refine blk_drew ?_ | refine blk_alloc ?_ _)); exact BK193.out) hkp (fun hs_ => (fun e_ => (Kd.R_ne HO_212000.out BK193.out (by decide)) e_) hs_)); have n4_ := Aside0.mk (blk_kept (by (with_reducible repeat (first | refine blk_drewN ?_ _ | refine blk_drew ?_ | refine blk_alloc ?_ _)); exact BK202.out) hkp (fun hs_ => (fun e_ => (Kd.R_ne HO_212000.out BK202.out (by decide)) e_) hs_)); have n5_ := Aside0.mk (blk_kept (by (with_reducible repeat (first | refine blk_drewN ?_ _ | refine blk_drew ?_ | refine blk_alloc ?_ _)); exact BK206.out) hkp (fun hs_ => (fun e_ => (Kd.R_ne HO_212000.out BK206.out (by decide)) e_) hs_)); have n6_ := Aside0.mk (blk_kept (by (with_reducible repeat (first | refine blk_drewN ?_ _ | refine blk_drew ?_ | refine blk_alloc ?_ _)); exact BK211.out) hkp (fun hs_ => (fun e_ => (Kd.R_ne HO_212000.out BK211.out (by decide)) e_) hs_)); have n7_ := Aside0.mk (hb); clear HO_203000; clear HO_207000; clear HO_212000; clear BK193; clear BK202; clear BK206; clear BK211; clear HB; have HO_203000 := n0_; have HO_207000 := n1_; have HO_212000 := n2_; have BK193 := n3_; have BK202 := n4_; have BK206 := n5_; have BK211 := n6_; have HB := n7_; clear n0_ n1_ n2_ n3_ n4_ n5_ n6_ n7_; (try clear hb); (try clear hkp); (try clear hy0); have hcz102_0 : w101.cell? ⟨gb211, 0, none⟩ = some (.slice Ao36 t207.length co36) := (blk_cell BK211.out 0).trans rfl; have hfz102_0 := blk_frozen BK211.out 0) | ((with_reducible refine gate_callee (f := 17) rfl ?_); refine goesL_ (some 78) rfl rfl Try.func17 (by kernel_rfl) rfl #[.agg #[.slice Ao36 t221.length co36], .int .i64 1] rfl (by (try simp only [List.map_toArray, List.map_cons, List.map_nil]); first | done | (rw [show t221.length = t207.length from (Kd.R_reads' HO_212000.out).1.symm] <;> rfl) | rfl | (simp only [List.length_drop, List.length_take]; rfl)) ?_; (with_reducible refine (laws_heldMemory.calls kj63 _ _ t221 1 t222 _ ?side1 ?side2 A95.out).mono ?_); (case side1 => repeat (first | exact (Kd.R_reads' HO_212000.out).2.2 | (with_reducible refine Kd.C_alloc ?_ _) | (with_reducible refine Kd.C_drewN ?_ _) | (with_reducible refine Kd.C_drew ?_))); (case side2 => rw [show t221.length = t207.length from (Kd.R_reads' HO_212000.out).1.symm]; exact (Kd.R_reads' HO_212000.out).2.1); rintro e w103 ⟨rfl, hb⟩; refine ⟨_, rfl, ?_⟩; have n0_ := Aside0.mk (Kd.R_below (by (with_reducible repeat (first | apply Kd.R_alloc | apply Kd.R_drewN | apply Kd.R_drew)); exact HO_203000.out) hb); have n1_ := Aside0.mk (Kd.R_below (by (with_reducible repeat (first | apply Kd.R_alloc | apply Kd.R_drewN | apply Kd.R_drew)); exact HO_207000.out) hb); have n2_ := Aside0.mk (Kd.R_below (by (with_reducible repeat (first | apply Kd.R_alloc | apply Kd.R_drewN | apply Kd.R_drew)); exact HO_212000.out) hb); have n3_ := Aside0.mk (blk_below (g := gb193) (o := .cells #[.slice A0_0 l0_0.length c0_0] 24 (0, 0)) (by (with_reducible repeat (first | refine blk_drewN ?_ _ | refine blk_drew ?_ | refine blk_alloc ?_ _)); exact BK193.out) hb); have n4_ := Aside0.mk (blk_below (g := gb202) (o := .cells #[.slice Ao24 t198.length co24] 28 (0, 0)) (by (with_reducible repeat (first | refine blk_drewN ?_ _ | refine blk_drew ?_ | refine blk_alloc ?_ _)); exact BK202.out) hb); have n5_ := Aside0.mk (blk_below (g := gb206) (o := .cells #[.slice Ao30 t218.length co30] 28 (0, 0)) (by (with_reducible repeat (first | refine blk_drewN ?_ _ | refine blk_drew ?_ | refine blk_alloc ?_ _)); exact BK206.out) hb); have n6_ := Aside0.mk (blk_below (g := gb211) (o := .cells #[.slice Ao36 t207.length co36] 28 (0, 0)) (by (with_reducible repeat (first | refine blk_drewN ?_ _ | refine blk_drew ?_ | refine blk_alloc ?_ _)); exact BK211.out) hb); have n7_ := Aside0.mk (below_step (by repeat (first | (with_reducible first | exact HB.out | apply below_alloc | apply pw_below_drewN | apply below_drew1 | refine below_set ?_ GE193.out | refine below_set ?_ GE202.out | refine below_set ?_ GE206.out | refine below_set ?_ GE211.out) | exact HB.out)) hb); clear HO_203000; clear HO_207000; clear HO_212000; clear BK193; clear BK202; clear BK206; clear BK211; clear HB; have HO_203000 := n0_; have HO_207000 := n1_; have HO_212000 := n2_; have BK193 := n3_; have BK202 := n4_; have BK206 := n5_; have BK211 := n6_; have HB := n7_; clear n0_ n1_ n2_ n3_ n4_ n5_ n6_ n7_; (try clear hb); (try clear hb2); (try clear hk); (try clear hi)))
                      go_ret
                      exact ⟨by first | rfl | (simp [errW_none, errW_some] <;> rfl) | (simp [*, errW_none, errW_some] <;> rfl), by repeat (first | (with_reducible first | exact HB.out | apply below_alloc | apply pw_below_drewN | apply below_drew1 | refine below_set ?_ GE193.out | refine below_set ?_ GE202.out | refine below_set ?_ GE206.out | refine below_set ?_ GE211.out) | exact HB.out)⟩
                    · rw [if_neg c96] at H
                      have c96b0 : decide (t222 < 0) = false := decide_eq_false c96
                      clear c96
                      by_cases c104 : t222 = t220
                      · rw [if_pos c104] at H
                        have c104b0 : (t222 == t220) = true := beq_iff_eq.mpr c104
                        have c104b1 : (t222 != t220) = false := bne_eq_false_iff_eq.mpr c104
                        clear c104
                        replace H := Option.bind_eq_some_iff.mp H
                        obtain ⟨t223, A1050, H⟩ := H
                        replace H : ((impl_PutBytes.f kj63 t223 a1 a2).bind fun bt226 => ((laws_eqMemory.f kj63 bt226.1 t198).bind fun t231 => (if t231 = true then (laws_FnExactPutBytes.j2 kj63 t220 (bt226.2 != t201) t221) else (laws_FnExactPutBytes.j2 kj63 t220 true t221)))) = some r := H
                        have A105 := Aside0.mk A1050
                        clear A1050
                        replace H := Option.bind_eq_some_iff.mp H
                        obtain ⟨⟨t226, t229⟩, A1060, H⟩ := H
                        replace H : ((laws_eqMemory.f kj63 t226 t198).bind fun t231 => (if t231 = true then (laws_FnExactPutBytes.j2 kj63 t220 (t229 != t201) t221) else (laws_FnExactPutBytes.j2 kj63 t220 true t221))) = some r := H
                        have A106 := Aside0.mk A1060
                        clear A1060
                        have HC107 := Aside0.mk H
                        clear H
                        have hnb108 := NB211_193.out
                        have hnc108 := NB193_211.out
                        have hnb109 := NB211_202.out
                        have hnc109 := NB202_211.out
                        have hnb110 := NB211_206.out
                        have hnc110 := NB206_211.out
                        have hcz111_0 : wc.cell? ⟨gb211, 0, none⟩ = some (.slice Ao36 t207.length co36) := (blk_cell BK211.out 0).trans rfl
                        have hfz111_0 := blk_frozen BK211.out 0
                        go_upto_region 27 with (first | ((with_reducible refine gate_callee (f := 16) rfl ?_); refine goesL_ (some 75) rfl rfl Try.func16 (by kernel_rfl) rfl #[.agg #[.slice Ao36 t207.length co36], .int .i64 1] rfl (by (try simp only [List.map_toArray, List.map_cons, List.map_nil]); first | done | rfl | (simp only [List.length_drop, List.length_take]; rfl)) ?_; (with_reducible refine (laws_markMemory.calls kj63 (fun k_ => some k_ = (.slice Ao36 t207.length co36 : Value).ownBlock) (.slice Ao36 t207.length co36) t207 1 t220 t221 w _ ?side1 ?side2 A94.out).mono ?_); (case side1 => repeat (first | (with_reducible first | exact HB.out | apply below_alloc | apply pw_below_drewN | apply below_drew1 | refine below_set ?_ GE193.out | refine below_set ?_ GE202.out | refine below_set ?_ GE206.out | refine below_set ?_ GE211.out) | exact HB.out)); (case side2 => exact Kd.R_tight rfl HO_212000.out); rintro e w112 ⟨rfl, hy0, hb, hkp⟩; refine ⟨_, rfl, ?_⟩; have n0_ := Aside0.mk (Kd.R_mono (ok' := fun k_ => some k_ ≠ (.slice Ao30 t218.length co30 : Value).ownBlock ∧ some k_ ≠ (.slice Ao36 t207.length co36 : Value).ownBlock) (Kd.R_keptB (HO_203000.out) hkp (fun k_ hk_ hs_ => (hk_.2) hs_)) (fun k_ hk_ => ⟨hk_.1.1, hk_.1.2⟩)); have n1_ := Aside0.mk (Kd.R_mono (ok' := fun k_ => some k_ ≠ (.slice Ao24 t198.length co24 : Value).ownBlock ∧ some k_ ≠ (.slice Ao36 t207.length co36 : Value).ownBlock) (Kd.R_keptB (HO_207000.out) hkp (fun k_ hk_ hs_ => (hk_.2) hs_)) (fun k_ hk_ => ⟨hk_.1.1, hk_.1.2⟩)); have n2_ := Aside0.mk (Kd.R_reok rfl hy0 (fun k_ e_ => HO_212000.out.1 k_ e_)); have n3_ := Aside0.mk (blk_kept (by (with_reducible repeat (first | refine blk_drewN ?_ _ | refine blk_drew ?_ | refine blk_alloc ?_ _)); exact BK193.out) hkp (fun hs_ => (fun e_ => (Kd.R_ne HO_212000.out BK193.out (by decide)) e_) hs_)); have n4_ := Aside0.mk (blk_kept (by (with_reducible repeat (first | refine blk_drewN ?_ _ | refine blk_drew ?_ | refine blk_alloc ?_ _)); exact BK202.out) hkp (fun hs_ => (fun e_ => (Kd.R_ne HO_212000.out BK202.out (by decide)) e_) hs_)); have n5_ := Aside0.mk (blk_kept (by (with_reducible repeat (first | refine blk_drewN ?_ _ | refine blk_drew ?_ | refine blk_alloc ?_ _)); exact BK206.out) hkp (fun hs_ => (fun e_ => (Kd.R_ne HO_212000.out BK206.out (by decide)) e_) hs_)); have n6_ := Aside0.mk (blk_kept (by (with_reducible repeat (first | refine blk_drewN ?_ _ | refine blk_drew ?_ | refine blk_alloc ?_ _)); exact BK211.out) hkp (fun hs_ => (fun e_ => (Kd.R_ne HO_212000.out BK211.out (by decide)) e_) hs_)); have n7_ := Aside0.mk (hb); clear HO_203000; clear HO_207000; clear HO_212000; clear BK193; clear BK202; clear BK206; clear BK211; clear HB; have HO_203000 := n0_; have HO_207000 := n1_; have HO_212000 := n2_; have BK193 := n3_; have BK202 := n4_; have BK206 := n5_; have BK211 := n6_; have HB := n7_; clear n0_ n1_ n2_ n3_ n4_ n5_ n6_ n7_; (try clear hb); (try clear hkp); (try clear hy0); have hcz113_0 : w112.cell? ⟨gb211, 0, none⟩ = some (.slice Ao36 t207.length co36) := (blk_cell BK211.out 0).trans rfl; have hfz113_0 := blk_frozen BK211.out 0) | ((with_reducible refine gate_callee (f := 17) rfl ?_); refine goesL_ (some 78) rfl rfl Try.func17 (by kernel_rfl) rfl #[.agg #[.slice Ao36 t221.length co36], .int .i64 1] rfl (by (try simp only [List.map_toArray, List.map_cons, List.map_nil]); first | done | (rw [show t221.length = t207.length from (Kd.R_reads' HO_212000.out).1.symm] <;> rfl) | rfl | (simp only [List.length_drop, List.length_take]; rfl)) ?_; (with_reducible refine (laws_heldMemory.calls kj63 _ _ t221 1 t222 _ ?side1 ?side2 A95.out).mono ?_); (case side1 => repeat (first | exact (Kd.R_reads' HO_212000.out).2.2 | (with_reducible refine Kd.C_alloc ?_ _) | (with_reducible refine Kd.C_drewN ?_ _) | (with_reducible refine Kd.C_drew ?_))); (case side2 => rw [show t221.length = t207.length from (Kd.R_reads' HO_212000.out).1.symm]; exact (Kd.R_reads' HO_212000.out).2.1); rintro e w114 ⟨rfl, hb⟩; refine ⟨_, rfl, ?_⟩; have n0_ := Aside0.mk (Kd.R_below (by (with_reducible repeat (first | apply Kd.R_alloc | apply Kd.R_drewN | apply Kd.R_drew)); exact HO_203000.out) hb); have n1_ := Aside0.mk (Kd.R_below (by (with_reducible repeat (first | apply Kd.R_alloc | apply Kd.R_drewN | apply Kd.R_drew)); exact HO_207000.out) hb); have n2_ := Aside0.mk (Kd.R_below (by (with_reducible repeat (first | apply Kd.R_alloc | apply Kd.R_drewN | apply Kd.R_drew)); exact HO_212000.out) hb); have n3_ := Aside0.mk (blk_below (g := gb193) (o := .cells #[.slice A0_0 l0_0.length c0_0] 24 (0, 0)) (by (with_reducible repeat (first | refine blk_drewN ?_ _ | refine blk_drew ?_ | refine blk_alloc ?_ _)); exact BK193.out) hb); have n4_ := Aside0.mk (blk_below (g := gb202) (o := .cells #[.slice Ao24 t198.length co24] 28 (0, 0)) (by (with_reducible repeat (first | refine blk_drewN ?_ _ | refine blk_drew ?_ | refine blk_alloc ?_ _)); exact BK202.out) hb); have n5_ := Aside0.mk (blk_below (g := gb206) (o := .cells #[.slice Ao30 t218.length co30] 28 (0, 0)) (by (with_reducible repeat (first | refine blk_drewN ?_ _ | refine blk_drew ?_ | refine blk_alloc ?_ _)); exact BK206.out) hb); have n6_ := Aside0.mk (blk_below (g := gb211) (o := .cells #[.slice Ao36 t207.length co36] 28 (0, 0)) (by (with_reducible repeat (first | refine blk_drewN ?_ _ | refine blk_drew ?_ | refine blk_alloc ?_ _)); exact BK211.out) hb); have n7_ := Aside0.mk (below_step (by repeat (first | (with_reducible first | exact HB.out | apply below_alloc | apply pw_below_drewN | apply below_drew1 | refine below_set ?_ GE193.out | refine below_set ?_ GE202.out | refine below_set ?_ GE206.out | refine below_set ?_ GE211.out) | exact HB.out)) hb); clear HO_203000; clear HO_207000; clear HO_212000; clear BK193; clear BK202; clear BK206; clear BK211; clear HB; have HO_203000 := n0_; have HO_207000 := n1_; have HO_212000 := n2_; have BK193 := n3_; have BK202 := n4_; have BK206 := n5_; have BK211 := n6_; have HB := n7_; clear n0_ n1_ n2_ n3_ n4_ n5_ n6_ n7_; (try clear hb); (try clear hb2); (try clear hk); (try clear hi); have hnb115 := NB193_202.out; have hnc115 := NB202_193.out; have hnb116 := NB193_206.out; have hnc116 := NB206_193.out; have hcz117_0 : w114.cell? ⟨gb193, 0, none⟩ = some (.slice A0_0 l0_0.length c0_0) := (blk_cell BK193.out 0).trans rfl; have hfz117_0 := blk_frozen BK193.out 0) | ((with_reducible refine gate_callee (f := 13) rfl ?_); refine goesL_ (some 86) rfl rfl Try.func13 (by kernel_rfl) rfl #[.agg #[.slice A0_0 l0_0.length c0_0]] rfl (by (try simp only [List.map_toArray, List.map_cons, List.map_nil]); first | done | rfl | (simp only [List.length_drop, List.length_take]; rfl)) ?_; (with_reducible refine (laws_toMemory.calls kj63 _ _ l0_0 t223 _ ?side1 ?side2 A105.out).mono ?_); (case side1 => repeat (first | exact (Kd.C_below HR0_0.out HB.out) | (with_reducible refine Kd.C_alloc ?_ _) | (with_reducible refine Kd.C_drewN ?_ _) | (with_reducible refine Kd.C_drew ?_))); (case side2 => exact HC0_0.out); rintro e w118 ⟨v224, rfl, ho0, hb⟩; refine ⟨_, rfl, ?_⟩; have n0_ := Aside0.mk (Kd.R_elder' (by (with_reducible repeat (first | apply Kd.R_alloc | apply Kd.R_drewN | apply Kd.R_drew)); exact HO_203000.out) (Kd.R_base ho0) hb); have n1_ := Aside0.mk (Kd.R_elder' (by (with_reducible repeat (first | apply Kd.R_alloc | apply Kd.R_drewN | apply Kd.R_drew)); exact HO_207000.out) (Kd.R_base ho0) hb); have n2_ := Aside0.mk (Kd.R_elder' (by (with_reducible repeat (first | apply Kd.R_alloc | apply Kd.R_drewN | apply Kd.R_drew)); exact HO_212000.out) (Kd.R_base ho0) hb); have n3_ := Aside0.mk (Kd.R_lower (Kd.R_new' (Kd.R_new' (Kd.R_new' ho0 (Kd.R_lt (by (with_reducible repeat (first | apply Kd.R_alloc | apply Kd.R_drewN | apply Kd.R_drew)); exact HO_203000.out))) (Kd.R_lt (by (with_reducible repeat (first | apply Kd.R_alloc | apply Kd.R_drewN | apply Kd.R_drew)); exact HO_207000.out))) (Kd.R_lt (by (with_reducible repeat (first | apply Kd.R_alloc | apply Kd.R_drewN | apply Kd.R_drew)); exact HO_212000.out))) (below_size (by repeat (first | (with_reducible first | exact HB.out | apply below_alloc | apply pw_below_drewN | apply below_drew1 | refine below_set ?_ GE193.out | refine below_set ?_ GE202.out | refine below_set ?_ GE206.out | refine below_set ?_ GE211.out) | exact HB.out)))); have n4_ := Aside0.mk (blk_below (g := gb193) (o := .cells #[.slice A0_0 l0_0.length c0_0] 24 (0, 0)) (by (with_reducible repeat (first | refine blk_drewN ?_ _ | refine blk_drew ?_ | refine blk_alloc ?_ _)); exact BK193.out) hb); have n5_ := Aside0.mk (blk_below (g := gb202) (o := .cells #[.slice Ao24 t198.length co24] 28 (0, 0)) (by (with_reducible repeat (first | refine blk_drewN ?_ _ | refine blk_drew ?_ | refine blk_alloc ?_ _)); exact BK202.out) hb); have n6_ := Aside0.mk (blk_below (g := gb206) (o := .cells #[.slice Ao30 t218.length co30] 28 (0, 0)) (by (with_reducible repeat (first | refine blk_drewN ?_ _ | refine blk_drew ?_ | refine blk_alloc ?_ _)); exact BK206.out) hb); have n7_ := Aside0.mk (blk_below (g := gb211) (o := .cells #[.slice Ao36 t207.length co36] 28 (0, 0)) (by (with_reducible repeat (first | refine blk_drewN ?_ _ | refine blk_drew ?_ | refine blk_alloc ?_ _)); exact BK211.out) hb); have n8_ := Aside0.mk (below_step (by repeat (first | (with_reducible first | exact HB.out | apply below_alloc | apply pw_below_drewN | apply below_drew1 | refine below_set ?_ GE193.out | refine below_set ?_ GE202.out | refine below_set ?_ GE206.out | refine below_set ?_ GE211.out) | exact HB.out)) hb); clear HO_203000; clear HO_207000; clear HO_212000; clear BK193; clear BK202; clear BK206; clear BK211; clear HB; have HO_203000 := n0_; have HO_207000 := n1_; have HO_212000 := n2_; have HO225 := n3_; have BK193 := n4_; have BK202 := n5_; have BK206 := n6_; have BK211 := n7_; have HB := n8_; clear n0_ n1_ n2_ n3_ n4_ n5_ n6_ n7_ n8_; (try clear hb); (try clear hb2); (try clear hk); (try clear hi); (try clear ho0); obtain ⟨Ao119, co119, eo119⟩ := Kd.R_slice HO225.out; subst eo119) | ((with_reducible refine gate_callee (f := 31) rfl ?_); refine goesL_ (some 89) rfl rfl Try.func31 (by kernel_rfl) rfl #[.agg #[.slice Ao119 t223.length co119], .int .i64 a1, .string a2] rfl (by (try simp only [List.map_toArray, List.map_cons, List.map_nil]); first | done | rfl | (simp only [List.length_drop, List.length_take]; rfl)) ?_; (with_reducible refine (impl_PutBytes.calls kj63 _ _ t223 a1 a2 t226 t229 _ ?side1 ?side2 A106.out).mono ?_); (case side1 => repeat (first | exact (Kd.R_reads' HO225.out).2.2 | (with_reducible refine Kd.C_alloc ?_ _) | (with_reducible refine Kd.C_drewN ?_ _) | (with_reducible refine Kd.C_drew ?_))); (case side2 => exact (Kd.R_reads' HO225.out).2.1); rintro e w120 ⟨v227, rfl, ho0, hb⟩; refine ⟨_, rfl, ?_⟩; have n0_ := Aside0.mk (Kd.R_elder' (by (with_reducible repeat (first | apply Kd.R_alloc | apply Kd.R_drewN | apply Kd.R_drew)); exact HO_203000.out) (Kd.R_base ho0) hb); have n1_ := Aside0.mk (Kd.R_elder' (by (with_reducible repeat (first | apply Kd.R_alloc | apply Kd.R_drewN | apply Kd.R_drew)); exact HO_207000.out) (Kd.R_base ho0) hb); have n2_ := Aside0.mk (Kd.R_elder' (by (with_reducible repeat (first | apply Kd.R_alloc | apply Kd.R_drewN | apply Kd.R_drew)); exact HO_212000.out) (Kd.R_base ho0) hb); have n3_ := Aside0.mk (Kd.R_elder' (by (with_reducible repeat (first | apply Kd.R_alloc | apply Kd.R_drewN | apply Kd.R_drew)); exact HO225.out) (Kd.R_base ho0) hb); have n4_ := Aside0.mk (Kd.R_lower (Kd.R_new' (Kd.R_new' (Kd.R_new' (Kd.R_new' ho0 (Kd.R_lt (by (with_reducible repeat (first | apply Kd.R_alloc | apply Kd.R_drewN | apply Kd.R_drew)); exact HO_203000.out))) (Kd.R_lt (by (with_reducible repeat (first | apply Kd.R_alloc | apply Kd.R_drewN | apply Kd.R_drew)); exact HO_207000.out))) (Kd.R_lt (by (with_reducible repeat (first | apply Kd.R_alloc | apply Kd.R_drewN | apply Kd.R_drew)); exact HO_212000.out))) (Kd.R_lt (by (with_reducible repeat (first | apply Kd.R_alloc | apply Kd.R_drewN | apply Kd.R_drew)); exact HO225.out))) (below_size (by repeat (first | (with_reducible first | exact HB.out | apply below_alloc | apply pw_below_drewN | apply below_drew1 | refine below_set ?_ GE193.out | refine below_set ?_ GE202.out | refine below_set ?_ GE206.out | refine below_set ?_ GE211.out) | exact HB.out)))); have n5_ := Aside0.mk (blk_below (g := gb193) (o := .cells #[.slice A0_0 l0_0.length c0_0] 24 (0, 0)) (by (with_reducible repeat (first | refine blk_drewN ?_ _ | refine blk_drew ?_ | refine blk_alloc ?_ _)); exact BK193.out) hb); have n6_ := Aside0.mk (blk_below (g := gb202) (o := .cells #[.slice Ao24 t198.length co24] 28 (0, 0)) (by (with_reducible repeat (first | refine blk_drewN ?_ _ | refine blk_drew ?_ | refine blk_alloc ?_ _)); exact BK202.out) hb); have n7_ := Aside0.mk (blk_below (g := gb206) (o := .cells #[.slice Ao30 t218.length co30] 28 (0, 0)) (by (with_reducible repeat (first | refine blk_drewN ?_ _ | refine blk_drew ?_ | refine blk_alloc ?_ _)); exact BK206.out) hb); have n8_ := Aside0.mk (blk_below (g := gb211) (o := .cells #[.slice Ao36 t207.length co36] 28 (0, 0)) (by (with_reducible repeat (first | refine blk_drewN ?_ _ | refine blk_drew ?_ | refine blk_alloc ?_ _)); exact BK211.out) hb); have n9_ := Aside0.mk (below_step (by repeat (first | (with_reducible first | exact HB.out | apply below_alloc | apply pw_below_drewN | apply below_drew1 | refine below_set ?_ GE193.out | refine below_set ?_ GE202.out | refine below_set ?_ GE206.out | refine below_set ?_ GE211.out) | exact HB.out)) hb); clear HO_203000; clear HO_207000; clear HO_212000; clear HO225; clear BK193; clear BK202; clear BK206; clear BK211; clear HB; have HO_203000 := n0_; have HO_207000 := n1_; have HO_212000 := n2_; have HO225 := n3_; have HO228 := n4_; have BK193 := n5_; have BK202 := n6_; have BK206 := n7_; have BK211 := n8_; have HB := n9_; clear n0_ n1_ n2_ n3_ n4_ n5_ n6_ n7_ n8_ n9_; (try clear hb); (try clear hb2); (try clear hk); (try clear hi); (try clear ho0)) | ((with_reducible refine gate_dst (N := 16) rfl ?_); refine box_event ?hg (N := 16) ?hd (cs := #[.slice none 0 0]) (t := 28) ?hr ?_; (case hd => rfl); (case hg => rfl); (case hr => first | (go_simp; done) | (go_simp; rfl)); intro gb230 hg w121 hbox hb; have n0_ := Aside0.mk (Kd.R_below (by (with_reducible repeat (first | apply Kd.R_alloc | apply Kd.R_drewN | apply Kd.R_drew)); exact HO_203000.out) hb); have n1_ := Aside0.mk (Kd.R_below (by (with_reducible repeat (first | apply Kd.R_alloc | apply Kd.R_drewN | apply Kd.R_drew)); exact HO_207000.out) hb); have n2_ := Aside0.mk (Kd.R_below (by (with_reducible repeat (first | apply Kd.R_alloc | apply Kd.R_drewN | apply Kd.R_drew)); exact HO_212000.out) hb); have n3_ := Aside0.mk (Kd.R_below (by (with_reducible repeat (first | apply Kd.R_alloc | apply Kd.R_drewN | apply Kd.R_drew)); exact HO225.out) hb); have n4_ := Aside0.mk (Kd.R_below (by (with_reducible repeat (first | apply Kd.R_alloc | apply Kd.R_drewN | apply Kd.R_drew)); exact HO228.out) hb); have n5_ := Aside0.mk (blk_below (g := gb193) (o := .cells #[.slice A0_0 l0_0.length c0_0] 24 (0, 0)) (by (with_reducible repeat (first | refine blk_drewN ?_ _ | refine blk_drew ?_ | refine blk_alloc ?_ _)); exact BK193.out) hb); have n6_ := Aside0.mk (blk_below (g := gb202) (o := .cells #[.slice Ao24 t198.length co24] 28 (0, 0)) (by (with_reducible repeat (first | refine blk_drewN ?_ _ | refine blk_drew ?_ | refine blk_alloc ?_ _)); exact BK202.out) hb); have n7_ := Aside0.mk (blk_below (g := gb206) (o := .cells #[.slice Ao30 t218.length co30] 28 (0, 0)) (by (with_reducible repeat (first | refine blk_drewN ?_ _ | refine blk_drew ?_ | refine blk_alloc ?_ _)); exact BK206.out) hb); have n8_ := Aside0.mk (blk_below (g := gb211) (o := .cells #[.slice Ao36 t207.length co36] 28 (0, 0)) (by (with_reducible repeat (first | refine blk_drewN ?_ _ | refine blk_drew ?_ | refine blk_alloc ?_ _)); exact BK211.out) hb); have n9_ := Aside0.mk (below_step (by repeat (first | (with_reducible first | exact HB.out | apply below_alloc | apply pw_below_drewN | apply below_drew1 | refine below_set ?_ GE193.out | refine below_set ?_ GE202.out | refine below_set ?_ GE206.out | refine below_set ?_ GE211.out) | exact HB.out)) hb); have n10_ := Aside0.mk (hbox); have n11_ := Aside0.mk ((by rw [hg]; exact (below_size (by repeat (first | (with_reducible first | exact HB.out | apply below_alloc | apply pw_below_drewN | apply below_drew1 | refine below_set ?_ GE193.out | refine below_set ?_ GE202.out | refine below_set ?_ GE206.out | refine below_set ?_ GE211.out) | exact HB.out))) : w.heap.size ≤ gb230)); have n12_ := Aside0.mk ((by rw [hg]; exact (below_size (by repeat (first | (with_reducible first | exact HB.out | apply below_alloc | apply pw_below_drewN | apply below_drew1 | refine below_set ?_ GE193.out | refine below_set ?_ GE202.out | refine below_set ?_ GE206.out | refine below_set ?_ GE211.out) | exact HB.out))) : w.heap.size ≤ gb230)); have n13_ := Aside0.mk ((by rw [hg]; exact Nat.ne_of_lt (blk_lt (g := gb193) (o := .cells #[.slice A0_0 l0_0.length c0_0] 24 (0, 0)) (by (with_reducible repeat (first | refine blk_drewN ?_ _ | refine blk_drew ?_ | refine blk_alloc ?_ _)); exact BK193.out)) : gb193 ≠ gb230)); have n14_ := Aside0.mk ((by rw [hg]; exact Nat.ne_of_gt (blk_lt (g := gb193) (o := .cells #[.slice A0_0 l0_0.length c0_0] 24 (0, 0)) (by (with_reducible repeat (first | refine blk_drewN ?_ _ | refine blk_drew ?_ | refine blk_alloc ?_ _)); exact BK193.out)) : gb230 ≠ gb193)); have n15_ := Aside0.mk ((by rw [hg]; exact Nat.ne_of_lt (blk_lt (g := gb202) (o := .cells #[.slice Ao24 t198.length co24] 28 (0, 0)) (by (with_reducible repeat (first | refine blk_drewN ?_ _ | refine blk_drew ?_ | refine blk_alloc ?_ _)); exact BK202.out)) : gb202 ≠ gb230)); have n16_ := Aside0.mk ((by rw [hg]; exact Nat.ne_of_gt (blk_lt (g := gb202) (o := .cells #[.slice Ao24 t198.length co24] 28 (0, 0)) (by (with_reducible repeat (first | refine blk_drewN ?_ _ | refine blk_drew ?_ | refine blk_alloc ?_ _)); exact BK202.out)) : gb230 ≠ gb202)); have n17_ := Aside0.mk ((by rw [hg]; exact Nat.ne_of_lt (blk_lt (g := gb206) (o := .cells #[.slice Ao30 t218.length co30] 28 (0, 0)) (by (with_reducible repeat (first | refine blk_drewN ?_ _ | refine blk_drew ?_ | refine blk_alloc ?_ _)); exact BK206.out)) : gb206 ≠ gb230)); have n18_ := Aside0.mk ((by rw [hg]; exact Nat.ne_of_gt (blk_lt (g := gb206) (o := .cells #[.slice Ao30 t218.length co30] 28 (0, 0)) (by (with_reducible repeat (first | refine blk_drewN ?_ _ | refine blk_drew ?_ | refine blk_alloc ?_ _)); exact BK206.out)) : gb230 ≠ gb206)); have n19_ := Aside0.mk ((by rw [hg]; exact Nat.ne_of_lt (blk_lt (g := gb211) (o := .cells #[.slice Ao36 t207.length co36] 28 (0, 0)) (by (with_reducible repeat (first | refine blk_drewN ?_ _ | refine blk_drew ?_ | refine blk_alloc ?_ _)); exact BK211.out)) : gb211 ≠ gb230)); have n20_ := Aside0.mk ((by rw [hg]; exact Nat.ne_of_gt (blk_lt (g := gb211) (o := .cells #[.slice Ao36 t207.length co36] 28 (0, 0)) (by (with_reducible repeat (first | refine blk_drewN ?_ _ | refine blk_drew ?_ | refine blk_alloc ?_ _)); exact BK211.out)) : gb230 ≠ gb211)); clear HO_203000; clear HO_207000; clear HO_212000; clear HO225; clear HO228; clear BK193; clear BK202; clear BK206; clear BK211; clear HB; have HO_203000 := n0_; have HO_207000 := n1_; have HO_212000 := n2_; have HO225 := n3_; have HO228 := n4_; have BK193 := n5_; have BK202 := n6_; have BK206 := n7_; have BK211 := n8_; have HB := n9_; have BK230 := n10_; have GW230 := n11_; have GE230 := n12_; have NB193_230 := n13_; have NB230_193 := n14_; have NB202_230 := n15_; have NB230_202 := n16_; have NB206_230 := n17_; have NB230_206 := n18_; have NB211_230 := n19_; have NB230_211 := n20_; clear n0_ n1_ n2_ n3_ n4_ n5_ n6_ n7_ n8_ n9_ n10_ n11_ n12_ n13_ n14_ n15_ n16_ n17_ n18_ n19_ n20_; clear hb hbox hg; obtain ⟨Ao122, co122, eo122⟩ := Kd.R_slice HO228.out; subst eo122; have hnb123 := NB230_193.out; have hnc123 := NB193_230.out; have hnb124 := NB230_202.out; have hnc124 := NB202_230.out; have hnb125 := NB230_206.out; have hnc125 := NB206_230.out; have hnb126 := NB230_211.out; have hnc126 := NB211_230.out; have hcz127_0 : w121.cell? ⟨gb230, 0, none⟩ = some (.slice none 0 0) := (blk_cell BK230.out 0).trans rfl; have hfz127_0 := blk_frozen BK230.out 0))
                        (try simp only [Act.put, List.setIfInBounds_toArray, List.set_cons_zero, List.set_cons_succ])
                        go_cut [100] (fun v100 wc => ∃ (kq : Nat) (x100_106 : Bool), v100 = .bool x100_106 ∧ Aside0 (laws_FnExactPutBytes.j2 kq t220 x100_106 t221 = some r) ∧ Aside0 (kq ≤ kj63) ∧ Aside0 (Kd.R k55 55 wc w.heap.size (fun k_ => some k_ ≠ ((.slice Ao30 t218.length co30) : Value).ownBlock ∧ some k_ ≠ ((.slice Ao36 t207.length co36) : Value).ownBlock ∧ some k_ ≠ ((.slice Ao122 t226.length co122) : Value).ownBlock) (.slice Ao24 t198.length co24) t198) ∧ Aside0 (Kd.R k55 55 wc w.heap.size (fun k_ => some k_ ≠ ((.slice Ao24 t198.length co24) : Value).ownBlock ∧ some k_ ≠ ((.slice Ao36 t207.length co36) : Value).ownBlock ∧ some k_ ≠ ((.slice Ao122 t226.length co122) : Value).ownBlock) (.slice Ao30 t218.length co30) t218) ∧ Aside0 (Kd.R k55 55 wc w.heap.size (fun k_ => some k_ ≠ ((.slice Ao24 t198.length co24) : Value).ownBlock ∧ some k_ ≠ ((.slice Ao30 t218.length co30) : Value).ownBlock ∧ some k_ ≠ ((.slice Ao122 t226.length co122) : Value).ownBlock) (.slice Ao36 t207.length co36) t221) ∧ Aside0 (Kd.R k55 55 wc w.heap.size (fun k_ => some k_ ≠ ((.slice Ao24 t198.length co24) : Value).ownBlock ∧ some k_ ≠ ((.slice Ao30 t218.length co30) : Value).ownBlock ∧ some k_ ≠ ((.slice Ao36 t207.length co36) : Value).ownBlock) (.slice Ao122 t226.length co122) t226) ∧ Aside0 (wc.heap[gb193]? = some (.cells #[(.slice A0_0 l0_0.length c0_0)] 24 (0, 0))) ∧ Aside0 (wc.heap[gb202]? = some (.cells #[(.slice Ao24 t198.length co24)] 28 (0, 0))) ∧ Aside0 (wc.heap[gb206]? = some (.cells #[(.slice Ao30 t218.length co30)] 28 (0, 0))) ∧ Aside0 (wc.heap[gb211]? = some (.cells #[(.slice Ao36 t207.length co36)] 28 (0, 0))) ∧ Aside0 (wc.heap[gb230]? = some (.cells #[(.slice Ao122 t226.length co122)] 28 (0, 0))) ∧ Aside0 (Below w.heap.size w wc))
                        case first =>
                          have H := HC107.out
                          clear HC107
                          replace H := Option.bind_eq_some_iff.mp H
                          obtain ⟨t231, A1280, H⟩ := H
                          replace H : (if t231 = true then (laws_FnExactPutBytes.j2 kj63 t220 (t229 != t201) t221) else (laws_FnExactPutBytes.j2 kj63 t220 true t221)) = some r := H
                          have A128 := Aside0.mk A1280
                          clear A1280
                          by_cases c129 : t231 = true
                          · subst c129
                            have H1 : (laws_FnExactPutBytes.j2 kj63 t220 (t229 != t201) t221) = some r := by rw [if_pos rfl] at H; exact H
                            clear H
                            have H := H1
                            clear H1
                            have H' := Aside0.mk H
                            clear H
                            have hnb130 := NB230_193.out
                            have hnc130 := NB193_230.out
                            have hnb131 := NB230_202.out
                            have hnc131 := NB202_230.out
                            have hnb132 := NB230_206.out
                            have hnc132 := NB206_230.out
                            have hnb133 := NB230_211.out
                            have hnc133 := NB211_230.out
                            have hcz134_0 : w121.cell? ⟨gb230, 0, none⟩ = some (.slice none 0 0) := (blk_cell BK230.out 0).trans rfl
                            have hfz134_0 := blk_frozen BK230.out 0
                            have hnb135 := NB202_193.out
                            have hnc135 := NB193_202.out
                            have hnb136 := NB202_206.out
                            have hnc136 := NB206_202.out
                            have hnb137 := NB202_211.out
                            have hnc137 := NB211_202.out
                            have hcz138_0 : w121.cell? ⟨gb202, 0, none⟩ = some (.slice Ao24 t198.length co24) := (blk_cell BK202.out 0).trans rfl
                            have hfz138_0 := blk_frozen BK202.out 0
                            go_wp2_with (first | ((with_reducible refine gate_callee (f := 15) rfl ?_); refine goesL_ (some 94) rfl rfl Try.func15 (by kernel_rfl) rfl #[.agg #[.slice Ao122 t226.length co122], .agg #[.slice Ao24 t198.length co24]] rfl (by (try simp only [List.map_toArray, List.map_cons, List.map_nil]); first | done | rfl | (simp only [List.length_drop, List.length_take]; rfl)) ?_; (with_reducible refine (laws_eqMemory.calls kj63 _ _ t226 _ _ t198 true _ ?side1 ?side2 ?side3 ?side4 A128.out).mono ?_); (case side1 => refine (Kd.R_reads' (e := 55) (base := w.heap.size) (ok := fun k_ => ((((True ∧ some k_ ≠ (.slice Ao24 t198.length co24 : Value).ownBlock) ∧ some k_ ≠ (.slice Ao30 t218.length co30 : Value).ownBlock) ∧ some k_ ≠ (.slice Ao36 t207.length co36 : Value).ownBlock) ∧ some k_ ≠ (.slice Ao119 t223.length co119 : Value).ownBlock)) (n := t226.length) (c := co122) ?_).2.2; exact (by (with_reducible repeat (first | apply Kd.R_alloc | apply Kd.R_drewN | apply Kd.R_drew)); exact (Kd.R_mono (Kd.R_far (p := ⟨gb230, 0, none⟩) (Kd.R_types HO228.out BK230.out (by decide)) (fun _ hk => hk.2) (.slice Ao122 t226.length co122)) (fun _ h_ => h_.1)))); (case side2 => exact (Kd.R_reads' HO228.out).2.1); (case side3 => refine (Kd.R_reads' (e := 55) (base := w.heap.size) (ok := fun k_ => (((some k_ ≠ (.slice Ao30 t218.length co30 : Value).ownBlock ∧ some k_ ≠ (.slice Ao36 t207.length co36 : Value).ownBlock) ∧ some k_ ≠ (.slice Ao119 t223.length co119 : Value).ownBlock) ∧ some k_ ≠ (.slice Ao122 t226.length co122 : Value).ownBlock)) (n := t198.length) (c := co24) ?_).2.2; exact (by (with_reducible repeat (first | apply Kd.R_alloc | apply Kd.R_drewN | apply Kd.R_drew)); exact (Kd.R_mono (Kd.R_far (p := ⟨gb230, 0, none⟩) (Kd.R_types HO_203000.out BK230.out (by decide)) (fun _ hk => hk.2) (.slice Ao122 t226.length co122)) (fun _ h_ => h_.1)))); (case side4 => exact (Kd.R_reads' HO_203000.out).2.1); rintro e w139 ⟨rfl, hb⟩; refine ⟨_, rfl, ?_⟩; have n0_ := Aside0.mk (Kd.R_below (by (with_reducible repeat (first | apply Kd.R_alloc | apply Kd.R_drewN | apply Kd.R_drew)); exact (Kd.R_mono (Kd.R_far (p := ⟨gb230, 0, none⟩) (Kd.R_types HO_203000.out BK230.out (by decide)) (fun _ hk => hk.2) (.slice Ao122 t226.length co122)) (fun _ h_ => h_.1))) hb); have n1_ := Aside0.mk (Kd.R_below (by (with_reducible repeat (first | apply Kd.R_alloc | apply Kd.R_drewN | apply Kd.R_drew)); exact (Kd.R_mono (Kd.R_far (p := ⟨gb230, 0, none⟩) (Kd.R_types HO_207000.out BK230.out (by decide)) (fun _ hk => hk.2) (.slice Ao122 t226.length co122)) (fun _ h_ => h_.1))) hb); have n2_ := Aside0.mk (Kd.R_below (by (with_reducible repeat (first | apply Kd.R_alloc | apply Kd.R_drewN | apply Kd.R_drew)); exact (Kd.R_mono (Kd.R_far (p := ⟨gb230, 0, none⟩) (Kd.R_types HO_212000.out BK230.out (by decide)) (fun _ hk => hk.2) (.slice Ao122 t226.length co122)) (fun _ h_ => h_.1))) hb); have n3_ := Aside0.mk (Kd.R_below (by (with_reducible repeat (first | apply Kd.R_alloc | apply Kd.R_drewN | apply Kd.R_drew)); exact (Kd.R_mono (Kd.R_far (p := ⟨gb230, 0, none⟩) (Kd.R_types HO225.out BK230.out (by decide)) (fun _ hk => hk.2) (.slice Ao122 t226.length co122)) (fun _ h_ => h_.1))) hb); have n4_ := Aside0.mk (Kd.R_below (by (with_reducible repeat (first | apply Kd.R_alloc | apply Kd.R_drewN | apply Kd.R_drew)); exact (Kd.R_mono (Kd.R_far (p := ⟨gb230, 0, none⟩) (Kd.R_types HO228.out BK230.out (by decide)) (fun _ hk => hk.2) (.slice Ao122 t226.length co122)) (fun _ h_ => h_.1))) hb); have n5_ := Aside0.mk (blk_below (g := gb193) (o := .cells #[.slice A0_0 l0_0.length c0_0] 24 (0, 0)) (by (with_reducible repeat (first | refine blk_drewN ?_ _ | refine blk_drew ?_ | refine blk_alloc ?_ _)); refine blk_far ?_ NB193_230.out _; (with_reducible repeat (first | refine blk_drewN ?_ _ | refine blk_drew ?_ | refine blk_alloc ?_ _)); exact BK193.out) hb); have n6_ := Aside0.mk (blk_below (g := gb202) (o := .cells #[.slice Ao24 t198.length co24] 28 (0, 0)) (by (with_reducible repeat (first | refine blk_drewN ?_ _ | refine blk_drew ?_ | refine blk_alloc ?_ _)); refine blk_far ?_ NB202_230.out _; (with_reducible repeat (first | refine blk_drewN ?_ _ | refine blk_drew ?_ | refine blk_alloc ?_ _)); exact BK202.out) hb); have n7_ := Aside0.mk (blk_below (g := gb206) (o := .cells #[.slice Ao30 t218.length co30] 28 (0, 0)) (by (with_reducible repeat (first | refine blk_drewN ?_ _ | refine blk_drew ?_ | refine blk_alloc ?_ _)); refine blk_far ?_ NB206_230.out _; (with_reducible repeat (first | refine blk_drewN ?_ _ | refine blk_drew ?_ | refine blk_alloc ?_ _)); exact BK206.out) hb); have n8_ := Aside0.mk (blk_below (g := gb211) (o := .cells #[.slice Ao36 t207.length co36] 28 (0, 0)) (by (with_reducible repeat (first | refine blk_drewN ?_ _ | refine blk_drew ?_ | refine blk_alloc ?_ _)); refine blk_far ?_ NB211_230.out _; (with_reducible repeat (first | refine blk_drewN ?_ _ | refine blk_drew ?_ | refine blk_alloc ?_ _)); exact BK211.out) hb); have n9_ := Aside0.mk (blk_below (g := gb230) (o := .cells #[.slice Ao122 t226.length co122] 28 (0, 0)) (by (with_reducible repeat (first | refine blk_drewN ?_ _ | refine blk_drew ?_ | refine blk_alloc ?_ _)); refine blk_put (cs := #[.slice none 0 0]) ?_ 0 _ rfl; (with_reducible repeat (first | refine blk_drewN ?_ _ | refine blk_drew ?_ | refine blk_alloc ?_ _)); exact BK230.out) hb); have n10_ := Aside0.mk (below_step (by repeat (first | (with_reducible first | exact HB.out | apply below_alloc | apply pw_below_drewN | apply below_drew1 | refine below_set ?_ GE193.out | refine below_set ?_ GE202.out | refine below_set ?_ GE206.out | refine below_set ?_ GE211.out | refine below_set ?_ GE230.out) | exact HB.out)) hb); clear HO_203000; clear HO_207000; clear HO_212000; clear HO225; clear HO228; clear BK193; clear BK202; clear BK206; clear BK211; clear BK230; clear HB; have HO_203000 := n0_; have HO_207000 := n1_; have HO_212000 := n2_; have HO225 := n3_; have HO228 := n4_; have BK193 := n5_; have BK202 := n6_; have BK206 := n7_; have BK211 := n8_; have BK230 := n9_; have HB := n10_; clear n0_ n1_ n2_ n3_ n4_ n5_ n6_ n7_ n8_ n9_ n10_; (try clear hb); (try clear hb2); (try clear hk); (try clear hi)))
                            (first | go_meet | ((try simp only [c104b0] at *); (try simp only [c104b1] at *); go_meet))
                            case rel => (try rw [c104b0]); (try rw [c104b0] at H'); (try rw [c104b1]); (try rw [c104b1] at H'); exact ⟨_, ((t229 != t201)), (by first | rfl | (simp; done) | (simp [*]; done)), H', ⟨by have := HJ14.out; have := HJ63.out; first | omega | exact Nat.le_refl _⟩, ⟨by (try simp only [hl207000_63]); (with_reducible repeat (first | apply Kd.R_alloc | apply Kd.R_drewN | apply Kd.R_drew)); exact Kd.R_mono HO_203000.out (fun _ hk => ⟨hk.1.1.1, ⟨hk.1.1.2, hk.2⟩⟩)⟩, ⟨by (try simp only [hl207000_63]); (with_reducible repeat (first | apply Kd.R_alloc | apply Kd.R_drewN | apply Kd.R_drew)); exact Kd.R_mono HO_207000.out (fun _ hk => ⟨hk.1.1.1, ⟨hk.1.1.2, hk.2⟩⟩)⟩, ⟨by (try simp only [hl207000_63]); (with_reducible repeat (first | apply Kd.R_alloc | apply Kd.R_drewN | apply Kd.R_drew)); exact Kd.R_mono HO_212000.out (fun _ hk => ⟨hk.1.1.1, ⟨hk.1.1.2, hk.2⟩⟩)⟩, ⟨by (try simp only [hl207000_63]); (with_reducible repeat (first | apply Kd.R_alloc | apply Kd.R_drewN | apply Kd.R_drew)); exact Kd.R_mono HO228.out (fun _ hk => ⟨hk.1.1.1.2, ⟨hk.1.1.2, hk.1.2⟩⟩)⟩, ⟨by (try simp only [hl207000_63]); (with_reducible repeat (first | refine blk_drewN ?_ _ | refine blk_drew ?_ | refine blk_alloc ?_ _)); exact BK193.out⟩, ⟨by (try simp only [hl207000_63]); (with_reducible repeat (first | refine blk_drewN ?_ _ | refine blk_drew ?_ | refine blk_alloc ?_ _)); exact BK202.out⟩, ⟨by (try simp only [hl207000_63]); (with_reducible repeat (first | refine blk_drewN ?_ _ | refine blk_drew ?_ | refine blk_alloc ?_ _)); exact BK206.out⟩, ⟨by (try simp only [hl207000_63]); (with_reducible repeat (first | refine blk_drewN ?_ _ | refine blk_drew ?_ | refine blk_alloc ?_ _)); exact BK211.out⟩, ⟨by (try simp only [hl207000_63]); (with_reducible repeat (first | refine blk_drewN ?_ _ | refine blk_drew ?_ | refine blk_alloc ?_ _)); exact BK230.out⟩, ⟨by repeat (first | (with_reducible first | exact HB.out | apply below_alloc | apply pw_below_drewN | apply below_drew1 | refine below_set ?_ GE193.out | refine below_set ?_ GE202.out | refine below_set ?_ GE206.out | refine below_set ?_ GE211.out | refine below_set ?_ GE230.out) | exact HB.out)⟩⟩
                          · replace c129 := Bool.eq_false_iff.mpr c129
                            subst c129
                            have H1 : (laws_FnExactPutBytes.j2 kj63 t220 true t221) = some r := by rw [if_neg (show ¬ (false = true) by decide)] at H; exact H
                            clear H
                            have H := H1
                            clear H1
                            have H' := Aside0.mk H
                            clear H
                            have hnb140 := NB230_193.out
                            have hnc140 := NB193_230.out
                            have hnb141 := NB230_202.out
                            have hnc141 := NB202_230.out
                            have hnb142 := NB230_206.out
                            have hnc142 := NB206_230.out
                            have hnb143 := NB230_211.out
                            have hnc143 := NB211_230.out
                            have hcz144_0 : w121.cell? ⟨gb230, 0, none⟩ = some (.slice none 0 0) := (blk_cell BK230.out 0).trans rfl
                            have hfz144_0 := blk_frozen BK230.out 0
                            have hnb145 := NB202_193.out
                            have hnc145 := NB193_202.out
                            have hnb146 := NB202_206.out
                            have hnc146 := NB206_202.out
                            have hnb147 := NB202_211.out
                            have hnc147 := NB211_202.out
                            have hcz148_0 : w121.cell? ⟨gb202, 0, none⟩ = some (.slice Ao24 t198.length co24) := (blk_cell BK202.out 0).trans rfl
                            have hfz148_0 := blk_frozen BK202.out 0
                            go_wp2_with (first | ((with_reducible refine gate_callee (f := 15) rfl ?_); refine goesL_ (some 94) rfl rfl Try.func15 (by kernel_rfl) rfl #[.agg #[.slice Ao122 t226.length co122], .agg #[.slice Ao24 t198.length co24]] rfl (by (try simp only [List.map_toArray, List.map_cons, List.map_nil]); first | done | rfl | (simp only [List.length_drop, List.length_take]; rfl)) ?_; (with_reducible refine (laws_eqMemory.calls kj63 _ _ t226 _ _ t198 false _ ?side1 ?side2 ?side3 ?side4 A128.out).mono ?_); (case side1 => refine (Kd.R_reads' (e := 55) (base := w.heap.size) (ok := fun k_ => ((((True ∧ some k_ ≠ (.slice Ao24 t198.length co24 : Value).ownBlock) ∧ some k_ ≠ (.slice Ao30 t218.length co30 : Value).ownBlock) ∧ some k_ ≠ (.slice Ao36 t207.length co36 : Value).ownBlock) ∧ some k_ ≠ (.slice Ao119 t223.length co119 : Value).ownBlock)) (n := t226.length) (c := co122) ?_).2.2; exact (by (with_reducible repeat (first | apply Kd.R_alloc | apply Kd.R_drewN | apply Kd.R_drew)); exact (Kd.R_mono (Kd.R_far (p := ⟨gb230, 0, none⟩) (Kd.R_types HO228.out BK230.out (by decide)) (fun _ hk => hk.2) (.slice Ao122 t226.length co122)) (fun _ h_ => h_.1)))); (case side2 => exact (Kd.R_reads' HO228.out).2.1); (case side3 => refine (Kd.R_reads' (e := 55) (base := w.heap.size) (ok := fun k_ => (((some k_ ≠ (.slice Ao30 t218.length co30 : Value).ownBlock ∧ some k_ ≠ (.slice Ao36 t207.length co36 : Value).ownBlock) ∧ some k_ ≠ (.slice Ao119 t223.length co119 : Value).ownBlock) ∧ some k_ ≠ (.slice Ao122 t226.length co122 : Value).ownBlock)) (n := t198.length) (c := co24) ?_).2.2; exact (by (with_reducible repeat (first | apply Kd.R_alloc | apply Kd.R_drewN | apply Kd.R_drew)); exact (Kd.R_mono (Kd.R_far (p := ⟨gb230, 0, none⟩) (Kd.R_types HO_203000.out BK230.out (by decide)) (fun _ hk => hk.2) (.slice Ao122 t226.length co122)) (fun _ h_ => h_.1)))); (case side4 => exact (Kd.R_reads' HO_203000.out).2.1); rintro e w149 ⟨rfl, hb⟩; refine ⟨_, rfl, ?_⟩; have n0_ := Aside0.mk (Kd.R_below (by (with_reducible repeat (first | apply Kd.R_alloc | apply Kd.R_drewN | apply Kd.R_drew)); exact (Kd.R_mono (Kd.R_far (p := ⟨gb230, 0, none⟩) (Kd.R_types HO_203000.out BK230.out (by decide)) (fun _ hk => hk.2) (.slice Ao122 t226.length co122)) (fun _ h_ => h_.1))) hb); have n1_ := Aside0.mk (Kd.R_below (by (with_reducible repeat (first | apply Kd.R_alloc | apply Kd.R_drewN | apply Kd.R_drew)); exact (Kd.R_mono (Kd.R_far (p := ⟨gb230, 0, none⟩) (Kd.R_types HO_207000.out BK230.out (by decide)) (fun _ hk => hk.2) (.slice Ao122 t226.length co122)) (fun _ h_ => h_.1))) hb); have n2_ := Aside0.mk (Kd.R_below (by (with_reducible repeat (first | apply Kd.R_alloc | apply Kd.R_drewN | apply Kd.R_drew)); exact (Kd.R_mono (Kd.R_far (p := ⟨gb230, 0, none⟩) (Kd.R_types HO_212000.out BK230.out (by decide)) (fun _ hk => hk.2) (.slice Ao122 t226.length co122)) (fun _ h_ => h_.1))) hb); have n3_ := Aside0.mk (Kd.R_below (by (with_reducible repeat (first | apply Kd.R_alloc | apply Kd.R_drewN | apply Kd.R_drew)); exact (Kd.R_mono (Kd.R_far (p := ⟨gb230, 0, none⟩) (Kd.R_types HO225.out BK230.out (by decide)) (fun _ hk => hk.2) (.slice Ao122 t226.length co122)) (fun _ h_ => h_.1))) hb); have n4_ := Aside0.mk (Kd.R_below (by (with_reducible repeat (first | apply Kd.R_alloc | apply Kd.R_drewN | apply Kd.R_drew)); exact (Kd.R_mono (Kd.R_far (p := ⟨gb230, 0, none⟩) (Kd.R_types HO228.out BK230.out (by decide)) (fun _ hk => hk.2) (.slice Ao122 t226.length co122)) (fun _ h_ => h_.1))) hb); have n5_ := Aside0.mk (blk_below (g := gb193) (o := .cells #[.slice A0_0 l0_0.length c0_0] 24 (0, 0)) (by (with_reducible repeat (first | refine blk_drewN ?_ _ | refine blk_drew ?_ | refine blk_alloc ?_ _)); refine blk_far ?_ NB193_230.out _; (with_reducible repeat (first | refine blk_drewN ?_ _ | refine blk_drew ?_ | refine blk_alloc ?_ _)); exact BK193.out) hb); have n6_ := Aside0.mk (blk_below (g := gb202) (o := .cells #[.slice Ao24 t198.length co24] 28 (0, 0)) (by (with_reducible repeat (first | refine blk_drewN ?_ _ | refine blk_drew ?_ | refine blk_alloc ?_ _)); refine blk_far ?_ NB202_230.out _; (with_reducible repeat (first | refine blk_drewN ?_ _ | refine blk_drew ?_ | refine blk_alloc ?_ _)); exact BK202.out) hb); have n7_ := Aside0.mk (blk_below (g := gb206) (o := .cells #[.slice Ao30 t218.length co30] 28 (0, 0)) (by (with_reducible repeat (first | refine blk_drewN ?_ _ | refine blk_drew ?_ | refine blk_alloc ?_ _)); refine blk_far ?_ NB206_230.out _; (with_reducible repeat (first | refine blk_drewN ?_ _ | refine blk_drew ?_ | refine blk_alloc ?_ _)); exact BK206.out) hb); have n8_ := Aside0.mk (blk_below (g := gb211) (o := .cells #[.slice Ao36 t207.length co36] 28 (0, 0)) (by (with_reducible repeat (first | refine blk_drewN ?_ _ | refine blk_drew ?_ | refine blk_alloc ?_ _)); refine blk_far ?_ NB211_230.out _; (with_reducible repeat (first | refine blk_drewN ?_ _ | refine blk_drew ?_ | refine blk_alloc ?_ _)); exact BK211.out) hb); have n9_ := Aside0.mk (blk_below (g := gb230) (o := .cells #[.slice Ao122 t226.length co122] 28 (0, 0)) (by (with_reducible repeat (first | refine blk_drewN ?_ _ | refine blk_drew ?_ | refine blk_alloc ?_ _)); refine blk_put (cs := #[.slice none 0 0]) ?_ 0 _ rfl; (with_reducible repeat (first | refine blk_drewN ?_ _ | refine blk_drew ?_ | refine blk_alloc ?_ _)); exact BK230.out) hb); have n10_ := Aside0.mk (below_step (by repeat (first | (with_reducible first | exact HB.out | apply below_alloc | apply pw_below_drewN | apply below_drew1 | refine below_set ?_ GE193.out | refine below_set ?_ GE202.out | refine below_set ?_ GE206.out | refine below_set ?_ GE211.out | refine below_set ?_ GE230.out) | exact HB.out)) hb); clear HO_203000; clear HO_207000; clear HO_212000; clear HO225; clear HO228; clear BK193; clear BK202; clear BK206; clear BK211; clear BK230; clear HB; have HO_203000 := n0_; have HO_207000 := n1_; have HO_212000 := n2_; have HO225 := n3_; have HO228 := n4_; have BK193 := n5_; have BK202 := n6_; have BK206 := n7_; have BK211 := n8_; have BK230 := n9_; have HB := n10_; clear n0_ n1_ n2_ n3_ n4_ n5_ n6_ n7_ n8_ n9_ n10_; (try clear hb); (try clear hb2); (try clear hk); (try clear hi)))
                            (first | go_meet | ((try simp only [c104b0] at *); (try simp only [c104b1] at *); go_meet))
                            case rel => (try rw [c104b0]); (try rw [c104b0] at H'); (try rw [c104b1]); (try rw [c104b1] at H'); exact ⟨_, (true), (by first | rfl | (simp; done) | (simp [*]; done)), H', ⟨by have := HJ14.out; have := HJ63.out; first | omega | exact Nat.le_refl _⟩, ⟨by (try simp only [hl207000_63]); (with_reducible repeat (first | apply Kd.R_alloc | apply Kd.R_drewN | apply Kd.R_drew)); exact Kd.R_mono HO_203000.out (fun _ hk => ⟨hk.1.1.1, ⟨hk.1.1.2, hk.2⟩⟩)⟩, ⟨by (try simp only [hl207000_63]); (with_reducible repeat (first | apply Kd.R_alloc | apply Kd.R_drewN | apply Kd.R_drew)); exact Kd.R_mono HO_207000.out (fun _ hk => ⟨hk.1.1.1, ⟨hk.1.1.2, hk.2⟩⟩)⟩, ⟨by (try simp only [hl207000_63]); (with_reducible repeat (first | apply Kd.R_alloc | apply Kd.R_drewN | apply Kd.R_drew)); exact Kd.R_mono HO_212000.out (fun _ hk => ⟨hk.1.1.1, ⟨hk.1.1.2, hk.2⟩⟩)⟩, ⟨by (try simp only [hl207000_63]); (with_reducible repeat (first | apply Kd.R_alloc | apply Kd.R_drewN | apply Kd.R_drew)); exact Kd.R_mono HO228.out (fun _ hk => ⟨hk.1.1.1.2, ⟨hk.1.1.2, hk.1.2⟩⟩)⟩, ⟨by (try simp only [hl207000_63]); (with_reducible repeat (first | refine blk_drewN ?_ _ | refine blk_drew ?_ | refine blk_alloc ?_ _)); exact BK193.out⟩, ⟨by (try simp only [hl207000_63]); (with_reducible repeat (first | refine blk_drewN ?_ _ | refine blk_drew ?_ | refine blk_alloc ?_ _)); exact BK202.out⟩, ⟨by (try simp only [hl207000_63]); (with_reducible repeat (first | refine blk_drewN ?_ _ | refine blk_drew ?_ | refine blk_alloc ?_ _)); exact BK206.out⟩, ⟨by (try simp only [hl207000_63]); (with_reducible repeat (first | refine blk_drewN ?_ _ | refine blk_drew ?_ | refine blk_alloc ?_ _)); exact BK211.out⟩, ⟨by (try simp only [hl207000_63]); (with_reducible repeat (first | refine blk_drewN ?_ _ | refine blk_drew ?_ | refine blk_alloc ?_ _)); exact BK230.out⟩, ⟨by repeat (first | (with_reducible first | exact HB.out | apply below_alloc | apply pw_below_drewN | apply below_drew1 | refine below_set ?_ GE193.out | refine below_set ?_ GE202.out | refine below_set ?_ GE206.out | refine below_set ?_ GE211.out | refine below_set ?_ GE230.out) | exact HB.out)⟩⟩
                        case rest =>
                          clear HC107
                          try clear c1
                          try clear c2
                          try clear p2
                          try clear c3
                          try clear c4
                          try clear c4b0
                          try clear c4b1
                          try clear c5
                          try clear c6
                          try clear c7
                          try clear c7b0
                          try clear c8
                          try clear c9
                          try clear c10
                          try clear c11
                          try clear c12
                          try clear c13
                          try clear c14
                          try clear c15
                          try clear c16
                          try clear c17
                          try clear c25
                          try clear c30
                          try clear c31
                          try clear c32
                          try clear c37
                          try clear c38
                          try clear c39
                          try clear c42
                          try clear c43
                          try clear c44
                          try clear c45
                          try clear c47
                          try clear c48
                          try clear c51
                          try clear c52
                          try clear c53
                          try clear c55
                          try clear c56
                          try clear c59
                          try clear c62
                          try clear c69
                          try clear c70
                          try clear c71
                          try clear c74
                          try clear c74b0
                          try clear c76
                          try clear c77
                          try clear c78
                          try clear c79
                          try clear c81
                          try clear c82
                          try clear c85
                          try clear c86
                          try clear c87
                          try clear c89
                          try clear c90
                          try clear c93
                          try clear c96
                          try clear c96b0
                          try clear c97
                          try clear c98
                          try clear c99
                          try clear c104
                          try clear c104b0
                          try clear c104b1
                          try clear c108
                          try clear c109
                          try clear c110
                          try clear c115
                          try clear c116
                          try clear c123
                          try clear c124
                          try clear c125
                          try clear c126
                          try clear c129
                          try clear c130
                          try clear c131
                          try clear c132
                          try clear c133
                          try clear c135
                          try clear c136
                          try clear c137
                          try clear c140
                          try clear c141
                          try clear c142
                          try clear c143
                          try clear c145
                          try clear c146
                          try clear c147
                          try clear hcz100_0
                          try clear hcz102_0
                          try clear hcz111_0
                          try clear hcz113_0
                          try clear hcz117_0
                          try clear hcz127_0
                          try clear hcz134_0
                          try clear hcz138_0
                          try clear hcz144_0
                          try clear hcz148_0
                          try clear hcz17_0
                          try clear hcz19_0
                          try clear hcz26_0
                          try clear hcz27_0
                          try clear hcz33_0
                          try clear hcz40_0
                          try clear hcz46_0
                          try clear hcz49_0
                          try clear hcz54_0
                          try clear hcz57_0
                          try clear hcz72_0
                          try clear hcz80_0
                          try clear hcz83_0
                          try clear hcz88_0
                          try clear hcz91_0
                          try clear hcz9_0
                          try clear hfz100_0
                          try clear hfz102_0
                          try clear hfz111_0
                          try clear hfz113_0
                          try clear hfz117_0
                          try clear hfz127_0
                          try clear hfz134_0
                          try clear hfz138_0
                          try clear hfz144_0
                          try clear hfz148_0
                          try clear hfz17_0
                          try clear hfz19_0
                          try clear hfz26_0
                          try clear hfz27_0
                          try clear hfz33_0
                          try clear hfz40_0
                          try clear hfz46_0
                          try clear hfz49_0
                          try clear hfz54_0
                          try clear hfz57_0
                          try clear hfz72_0
                          try clear hfz80_0
                          try clear hfz83_0
                          try clear hfz88_0
                          try clear hfz91_0
                          try clear hfz9_0
                          try clear p2
                          obtain ⟨kq, x100_106, rfl, HA, HJ106, HO_203000, HO_207000, HO_212000, HO_231000, BK193, BK202, BK206, BK211, BK230, HB⟩ := hcut
                          have hl212000_106 := (Kd.R_reads' HO_212000.out).1
                          rw [hl212000_106] at HO_212000
                          (try simp only [hl212000_106])
                          (try simp only [hl212000_106] at BK193)
                          (try simp only [hl212000_106] at BK202)
                          (try simp only [hl212000_106] at BK206)
                          (try simp only [hl212000_106] at BK211)
                          (try simp only [hl212000_106] at BK230)
                          (try simp only [hl212000_106] at HO_203000)
                          (try simp only [hl212000_106] at HO_207000)
                          (try simp only [hl212000_106] at HO_231000)
                          cases kq with
                          | zero => exact absurd HA.out (by simp [laws_FnExactPutBytes.j2])
                          | succ kj106 =>
                            have H := HA.out
                            clear HA
                            simp only [laws_FnExactPutBytes.j2] at H
                            by_cases c150 : x100_106 = true
                            · subst c150
                              have H1 : (some false) = some r := by rw [if_pos rfl] at H; exact H
                              clear H
                              have H := H1
                              clear H1
                              obtain rfl := Option.some.inj H
                              go_wp2
                              go_ret
                              exact ⟨by first | rfl | (simp [errW_none, errW_some] <;> rfl) | (simp [*, errW_none, errW_some] <;> rfl), by repeat (first | (with_reducible first | exact HB.out | apply below_alloc | apply pw_below_drewN | apply below_drew1 | refine below_set ?_ GE193.out | refine below_set ?_ GE202.out | refine below_set ?_ GE206.out | refine below_set ?_ GE211.out | refine below_set ?_ GE230.out) | exact HB.out)⟩
                            · replace c150 := Bool.eq_false_iff.mpr c150
                              subst c150
                              have H1 : ((laws_heldMemory.f kj106 t221 1).bind fun t232 => (if t232 < 0 then (some false) else (if t232 = t220 then (some true) else (some false)))) = some r := by rw [if_neg (show ¬ (false = true) by decide)] at H; exact H
                              clear H
                              have H := H1
                              clear H1
                              replace H := Option.bind_eq_some_iff.mp H
                              obtain ⟨t232, A1510, H⟩ := H
                              replace H : (if t232 < 0 then (some false) else (if t232 = t220 then (some true) else (some false))) = some r := H
                              have A151 := Aside0.mk A1510
                              clear A1510
                              by_cases c152 : t232 < 0
                              · rw [if_pos c152] at H
                                have c152b0 : decide (t232 < 0) = true := decide_eq_true c152
                                clear c152
                                obtain rfl := Option.some.inj H
                                have hnb153 := NB211_193.out
                                have hnc153 := NB193_211.out
                                have hnb154 := NB211_202.out
                                have hnc154 := NB202_211.out
                                have hnb155 := NB211_206.out
                                have hnc155 := NB206_211.out
                                have hnb156 := NB211_230.out
                                have hnc156 := NB230_211.out
                                have hcz157_0 : wc.cell? ⟨gb211, 0, none⟩ = some (.slice Ao36 t221.length co36) := (blk_cell BK211.out 0).trans rfl
                                have hfz157_0 := blk_frozen BK211.out 0
                                go_wp2_with (first | ((with_reducible refine gate_callee (f := 17) rfl ?_); refine goesL_ (some 103) rfl rfl Try.func17 (by kernel_rfl) rfl #[.agg #[.slice Ao36 t221.length co36], .int .i64 1] rfl (by (try simp only [List.map_toArray, List.map_cons, List.map_nil]); first | done | rfl | (simp only [List.length_drop, List.length_take]; rfl)) ?_; (with_reducible refine (laws_heldMemory.calls kj106 _ _ t221 1 t232 _ ?side1 ?side2 A151.out).mono ?_); (case side1 => repeat (first | exact (Kd.R_reads' HO_212000.out).2.2 | (with_reducible refine Kd.C_alloc ?_ _) | (with_reducible refine Kd.C_drewN ?_ _) | (with_reducible refine Kd.C_drew ?_))); (case side2 => exact (Kd.R_reads' HO_212000.out).2.1); rintro e w158 ⟨rfl, hb⟩; refine ⟨_, rfl, ?_⟩; have n0_ := Aside0.mk (Kd.R_below (by (with_reducible repeat (first | apply Kd.R_alloc | apply Kd.R_drewN | apply Kd.R_drew)); exact HO_203000.out) hb); have n1_ := Aside0.mk (Kd.R_below (by (with_reducible repeat (first | apply Kd.R_alloc | apply Kd.R_drewN | apply Kd.R_drew)); exact HO_207000.out) hb); have n2_ := Aside0.mk (Kd.R_below (by (with_reducible repeat (first | apply Kd.R_alloc | apply Kd.R_drewN | apply Kd.R_drew)); exact HO_212000.out) hb); have n3_ := Aside0.mk (Kd.R_below (by (with_reducible repeat (first | apply Kd.R_alloc | apply Kd.R_drewN | apply Kd.R_drew)); exact HO_231000.out) hb); have n4_ := Aside0.mk (blk_below (g := gb193) (o := .cells #[.slice A0_0 l0_0.length c0_0] 24 (0, 0)) (by (with_reducible repeat (first | refine blk_drewN ?_ _ | refine blk_drew ?_ | refine blk_alloc ?_ _)); exact BK193.out) hb); have n5_ := Aside0.mk (blk_below (g := gb202) (o := .cells #[.slice Ao24 t198.length co24] 28 (0, 0)) (by (with_reducible repeat (first | refine blk_drewN ?_ _ | refine blk_drew ?_ | refine blk_alloc ?_ _)); exact BK202.out) hb); have n6_ := Aside0.mk (blk_below (g := gb206) (o := .cells #[.slice Ao30 t218.length co30] 28 (0, 0)) (by (with_reducible repeat (first | refine blk_drewN ?_ _ | refine blk_drew ?_ | refine blk_alloc ?_ _)); exact BK206.out) hb); have n7_ := Aside0.mk (blk_below (g := gb211) (o := .cells #[.slice Ao36 t221.length co36] 28 (0, 0)) (by (with_reducible repeat (first | refine blk_drewN ?_ _ | refine blk_drew ?_ | refine blk_alloc ?_ _)); exact BK211.out) hb); have n8_ := Aside0.mk (blk_below (g := gb230) (o := .cells #[.slice Ao122 t226.length co122] 28 (0, 0)) (by (with_reducible repeat (first | refine blk_drewN ?_ _ | refine blk_drew ?_ | refine blk_alloc ?_ _)); exact BK230.out) hb); have n9_ := Aside0.mk (below_step (by repeat (first | (with_reducible first | exact HB.out | apply below_alloc | apply pw_below_drewN | apply below_drew1 | refine below_set ?_ GE193.out | refine below_set ?_ GE202.out | refine below_set ?_ GE206.out | refine below_set ?_ GE211.out | refine below_set ?_ GE230.out) | exact HB.out)) hb); clear HO_203000; clear HO_207000; clear HO_212000; clear HO_231000; clear BK193; clear BK202; clear BK206; clear BK211; clear BK230; clear HB; have HO_203000 := n0_; have HO_207000 := n1_; have HO_212000 := n2_; have HO_231000 := n3_; have BK193 := n4_; have BK202 := n5_; have BK206 := n6_; have BK211 := n7_; have BK230 := n8_; have HB := n9_; clear n0_ n1_ n2_ n3_ n4_ n5_ n6_ n7_ n8_ n9_; (try clear hb); (try clear hb2); (try clear hk); (try clear hi)))
                                go_ret
                                exact ⟨by first | rfl | (simp [errW_none, errW_some] <;> rfl) | (simp [*, errW_none, errW_some] <;> rfl), by repeat (first | (with_reducible first | exact HB.out | apply below_alloc | apply pw_below_drewN | apply below_drew1 | refine below_set ?_ GE193.out | refine below_set ?_ GE202.out | refine below_set ?_ GE206.out | refine below_set ?_ GE211.out | refine below_set ?_ GE230.out) | exact HB.out)⟩
                              · rw [if_neg c152] at H
                                have c152b0 : decide (t232 < 0) = false := decide_eq_false c152
                                clear c152
                                by_cases c159 : t232 = t220
                                · rw [if_pos c159] at H
                                  have c159b0 : (t232 == t220) = true := beq_iff_eq.mpr c159
                                  have c159b1 : (t232 != t220) = false := bne_eq_false_iff_eq.mpr c159
                                  clear c159
                                  obtain rfl := Option.some.inj H
                                  have hnb160 := NB211_193.out
                                  have hnc160 := NB193_211.out
                                  have hnb161 := NB211_202.out
                                  have hnc161 := NB202_211.out
                                  have hnb162 := NB211_206.out
                                  have hnc162 := NB206_211.out
                                  have hnb163 := NB211_230.out
                                  have hnc163 := NB230_211.out
                                  have hcz164_0 : wc.cell? ⟨gb211, 0, none⟩ = some (.slice Ao36 t221.length co36) := (blk_cell BK211.out 0).trans rfl
                                  have hfz164_0 := blk_frozen BK211.out 0
                                  go_wp2_with (first | ((with_reducible refine gate_callee (f := 17) rfl ?_); refine goesL_ (some 103) rfl rfl Try.func17 (by kernel_rfl) rfl #[.agg #[.slice Ao36 t221.length co36], .int .i64 1] rfl (by (try simp only [List.map_toArray, List.map_cons, List.map_nil]); first | done | rfl | (simp only [List.length_drop, List.length_take]; rfl)) ?_; (with_reducible refine (laws_heldMemory.calls kj106 _ _ t221 1 t232 _ ?side1 ?side2 A151.out).mono ?_); (case side1 => repeat (first | exact (Kd.R_reads' HO_212000.out).2.2 | (with_reducible refine Kd.C_alloc ?_ _) | (with_reducible refine Kd.C_drewN ?_ _) | (with_reducible refine Kd.C_drew ?_))); (case side2 => exact (Kd.R_reads' HO_212000.out).2.1); rintro e w165 ⟨rfl, hb⟩; refine ⟨_, rfl, ?_⟩; have n0_ := Aside0.mk (Kd.R_below (by (with_reducible repeat (first | apply Kd.R_alloc | apply Kd.R_drewN | apply Kd.R_drew)); exact HO_203000.out) hb); have n1_ := Aside0.mk (Kd.R_below (by (with_reducible repeat (first | apply Kd.R_alloc | apply Kd.R_drewN | apply Kd.R_drew)); exact HO_207000.out) hb); have n2_ := Aside0.mk (Kd.R_below (by (with_reducible repeat (first | apply Kd.R_alloc | apply Kd.R_drewN | apply Kd.R_drew)); exact HO_212000.out) hb); have n3_ := Aside0.mk (Kd.R_below (by (with_reducible repeat (first | apply Kd.R_alloc | apply Kd.R_drewN | apply Kd.R_drew)); exact HO_231000.out) hb); have n4_ := Aside0.mk (blk_below (g := gb193) (o := .cells #[.slice A0_0 l0_0.length c0_0] 24 (0, 0)) (by (with_reducible repeat (first | refine blk_drewN ?_ _ | refine blk_drew ?_ | refine blk_alloc ?_ _)); exact BK193.out) hb); have n5_ := Aside0.mk (blk_below (g := gb202) (o := .cells #[.slice Ao24 t198.length co24] 28 (0, 0)) (by (with_reducible repeat (first | refine blk_drewN ?_ _ | refine blk_drew ?_ | refine blk_alloc ?_ _)); exact BK202.out) hb); have n6_ := Aside0.mk (blk_below (g := gb206) (o := .cells #[.slice Ao30 t218.length co30] 28 (0, 0)) (by (with_reducible repeat (first | refine blk_drewN ?_ _ | refine blk_drew ?_ | refine blk_alloc ?_ _)); exact BK206.out) hb); have n7_ := Aside0.mk (blk_below (g := gb211) (o := .cells #[.slice Ao36 t221.length co36] 28 (0, 0)) (by (with_reducible repeat (first | refine blk_drewN ?_ _ | refine blk_drew ?_ | refine blk_alloc ?_ _)); exact BK211.out) hb); have n8_ := Aside0.mk (blk_below (g := gb230) (o := .cells #[.slice Ao122 t226.length co122] 28 (0, 0)) (by (with_reducible repeat (first | refine blk_drewN ?_ _ | refine blk_drew ?_ | refine blk_alloc ?_ _)); exact BK230.out) hb); have n9_ := Aside0.mk (below_step (by repeat (first | (with_reducible first | exact HB.out | apply below_alloc | apply pw_below_drewN | apply below_drew1 | refine below_set ?_ GE193.out | refine below_set ?_ GE202.out | refine below_set ?_ GE206.out | refine below_set ?_ GE211.out | refine below_set ?_ GE230.out) | exact HB.out)) hb); clear HO_203000; clear HO_207000; clear HO_212000; clear HO_231000; clear BK193; clear BK202; clear BK206; clear BK211; clear BK230; clear HB; have HO_203000 := n0_; have HO_207000 := n1_; have HO_212000 := n2_; have HO_231000 := n3_; have BK193 := n4_; have BK202 := n5_; have BK206 := n6_; have BK211 := n7_; have BK230 := n8_; have HB := n9_; clear n0_ n1_ n2_ n3_ n4_ n5_ n6_ n7_ n8_ n9_; (try clear hb); (try clear hb2); (try clear hk); (try clear hi)))
                                  go_ret
                                  exact ⟨by first | rfl | (simp [errW_none, errW_some] <;> rfl) | (simp [*, errW_none, errW_some] <;> rfl), by repeat (first | (with_reducible first | exact HB.out | apply below_alloc | apply pw_below_drewN | apply below_drew1 | refine below_set ?_ GE193.out | refine below_set ?_ GE202.out | refine below_set ?_ GE206.out | refine below_set ?_ GE211.out | refine below_set ?_ GE230.out) | exact HB.out)⟩
                                · rw [if_neg c159] at H
                                  have c159b0 : (t232 == t220) = false := beq_eq_false_iff_ne.mpr c159
                                  have c159b1 : (t232 != t220) = true := bne_iff_ne.mpr c159
                                  obtain rfl := Option.some.inj H
                                  have hnb166 := NB211_193.out
                                  have hnc166 := NB193_211.out
                                  have hnb167 := NB211_202.out
                                  have hnc167 := NB202_211.out
                                  have hnb168 := NB211_206.out
                                  have hnc168 := NB206_211.out
                                  have hnb169 := NB211_230.out
                                  have hnc169 := NB230_211.out
                                  have hcz170_0 : wc.cell? ⟨gb211, 0, none⟩ = some (.slice Ao36 t221.length co36) := (blk_cell BK211.out 0).trans rfl
                                  have hfz170_0 := blk_frozen BK211.out 0
                                  go_wp2_with (first | ((with_reducible refine gate_callee (f := 17) rfl ?_); refine goesL_ (some 103) rfl rfl Try.func17 (by kernel_rfl) rfl #[.agg #[.slice Ao36 t221.length co36], .int .i64 1] rfl (by (try simp only [List.map_toArray, List.map_cons, List.map_nil]); first | done | rfl | (simp only [List.length_drop, List.length_take]; rfl)) ?_; (with_reducible refine (laws_heldMemory.calls kj106 _ _ t221 1 t232 _ ?side1 ?side2 A151.out).mono ?_); (case side1 => repeat (first | exact (Kd.R_reads' HO_212000.out).2.2 | (with_reducible refine Kd.C_alloc ?_ _) | (with_reducible refine Kd.C_drewN ?_ _) | (with_reducible refine Kd.C_drew ?_))); (case side2 => exact (Kd.R_reads' HO_212000.out).2.1); rintro e w171 ⟨rfl, hb⟩; refine ⟨_, rfl, ?_⟩; have n0_ := Aside0.mk (Kd.R_below (by (with_reducible repeat (first | apply Kd.R_alloc | apply Kd.R_drewN | apply Kd.R_drew)); exact HO_203000.out) hb); have n1_ := Aside0.mk (Kd.R_below (by (with_reducible repeat (first | apply Kd.R_alloc | apply Kd.R_drewN | apply Kd.R_drew)); exact HO_207000.out) hb); have n2_ := Aside0.mk (Kd.R_below (by (with_reducible repeat (first | apply Kd.R_alloc | apply Kd.R_drewN | apply Kd.R_drew)); exact HO_212000.out) hb); have n3_ := Aside0.mk (Kd.R_below (by (with_reducible repeat (first | apply Kd.R_alloc | apply Kd.R_drewN | apply Kd.R_drew)); exact HO_231000.out) hb); have n4_ := Aside0.mk (blk_below (g := gb193) (o := .cells #[.slice A0_0 l0_0.length c0_0] 24 (0, 0)) (by (with_reducible repeat (first | refine blk_drewN ?_ _ | refine blk_drew ?_ | refine blk_alloc ?_ _)); exact BK193.out) hb); have n5_ := Aside0.mk (blk_below (g := gb202) (o := .cells #[.slice Ao24 t198.length co24] 28 (0, 0)) (by (with_reducible repeat (first | refine blk_drewN ?_ _ | refine blk_drew ?_ | refine blk_alloc ?_ _)); exact BK202.out) hb); have n6_ := Aside0.mk (blk_below (g := gb206) (o := .cells #[.slice Ao30 t218.length co30] 28 (0, 0)) (by (with_reducible repeat (first | refine blk_drewN ?_ _ | refine blk_drew ?_ | refine blk_alloc ?_ _)); exact BK206.out) hb); have n7_ := Aside0.mk (blk_below (g := gb211) (o := .cells #[.slice Ao36 t221.length co36] 28 (0, 0)) (by (with_reducible repeat (first | refine blk_drewN ?_ _ | refine blk_drew ?_ | refine blk_alloc ?_ _)); exact BK211.out) hb); have n8_ := Aside0.mk (blk_below (g := gb230) (o := .cells #[.slice Ao122 t226.length co122] 28 (0, 0)) (by (with_reducible repeat (first | refine blk_drewN ?_ _ | refine blk_drew ?_ | refine blk_alloc ?_ _)); exact BK230.out) hb); have n9_ := Aside0.mk (below_step (by repeat (first | (with_reducible first | exact HB.out | apply below_alloc | apply pw_below_drewN | apply below_drew1 | refine below_set ?_ GE193.out | refine below_set ?_ GE202.out | refine below_set ?_ GE206.out | refine below_set ?_ GE211.out | refine below_set ?_ GE230.out) | exact HB.out)) hb); clear HO_203000; clear HO_207000; clear HO_212000; clear HO_231000; clear BK193; clear BK202; clear BK206; clear BK211; clear BK230; clear HB; have HO_203000 := n0_; have HO_207000 := n1_; have HO_212000 := n2_; have HO_231000 := n3_; have BK193 := n4_; have BK202 := n5_; have BK206 := n6_; have BK211 := n7_; have BK230 := n8_; have HB := n9_; clear n0_ n1_ n2_ n3_ n4_ n5_ n6_ n7_ n8_ n9_; (try clear hb); (try clear hb2); (try clear hk); (try clear hi)))
                                  go_ret
                                  exact ⟨by first | rfl | (simp [errW_none, errW_some] <;> rfl) | (simp [*, errW_none, errW_some] <;> rfl), by repeat (first | (with_reducible first | exact HB.out | apply below_alloc | apply pw_below_drewN | apply below_drew1 | refine below_set ?_ GE193.out | refine below_set ?_ GE202.out | refine below_set ?_ GE206.out | refine below_set ?_ GE211.out | refine below_set ?_ GE230.out) | exact HB.out)⟩
                      · rw [if_neg c104] at H
                        have c104b0 : (t222 == t220) = false := beq_eq_false_iff_ne.mpr c104
                        have c104b1 : (t222 != t220) = true := bne_iff_ne.mpr c104
                        obtain rfl := Option.some.inj H
                        have hnb172 := NB211_193.out
                        have hnc172 := NB193_211.out
                        have hnb173 := NB211_202.out
                        have hnc173 := NB202_211.out
                        have hnb174 := NB211_206.out
                        have hnc174 := NB206_211.out
                        have hcz175_0 : wc.cell? ⟨gb211, 0, none⟩ = some (.slice Ao36 t207.length co36) := (blk_cell BK211.out 0).trans rfl
                        have hfz175_0 := blk_frozen BK211.out 0
                        go_wp2_with (first | ((with_reducible refine gate_callee (f := 16) rfl ?_); refine goesL_ (some 75) rfl rfl Try.func16 (by kernel_rfl) rfl #[.agg #[.slice Ao36 t207.length co36], .int .i64 1] rfl (by (try simp only [List.map_toArray, List.map_cons, List.map_nil]); first | done | rfl | (simp only [List.length_drop, List.length_take]; rfl)) ?_; (with_reducible refine (laws_markMemory.calls kj63 (fun k_ => some k_ = (.slice Ao36 t207.length co36 : Value).ownBlock) (.slice Ao36 t207.length co36) t207 1 t220 t221 w _ ?side1 ?side2 A94.out).mono ?_); (case side1 => repeat (first | (with_reducible first | exact HB.out | apply below_alloc | apply pw_below_drewN | apply below_drew1 | refine below_set ?_ GE193.out | refine below_set ?_ GE202.out | refine below_set ?_ GE206.out | refine below_set ?_ GE211.out) | exact HB.out)); (case side2 => exact Kd.R_tight rfl HO_212000.out); rintro e w176 ⟨rfl, hy0, hb, hkp⟩; refine ⟨_, rfl, ?_⟩; have n0_ := Aside0.mk (Kd.R_mono (ok' := fun k_ => some k_ ≠ (.slice Ao30 t218.length co30 : Value).ownBlock ∧ some k_ ≠ (.slice Ao36 t207.length co36 : Value).ownBlock) (Kd.R_keptB (HO_203000.out) hkp (fun k_ hk_ hs_ => (hk_.2) hs_)) (fun k_ hk_ => ⟨hk_.1.1, hk_.1.2⟩)); have n1_ := Aside0.mk (Kd.R_mono (ok' := fun k_ => some k_ ≠ (.slice Ao24 t198.length co24 : Value).ownBlock ∧ some k_ ≠ (.slice Ao36 t207.length co36 : Value).ownBlock) (Kd.R_keptB (HO_207000.out) hkp (fun k_ hk_ hs_ => (hk_.2) hs_)) (fun k_ hk_ => ⟨hk_.1.1, hk_.1.2⟩)); have n2_ := Aside0.mk (Kd.R_reok rfl hy0 (fun k_ e_ => HO_212000.out.1 k_ e_)); have n3_ := Aside0.mk (blk_kept (by (with_reducible repeat (first | refine blk_drewN ?_ _ | refine blk_drew ?_ | refine blk_alloc ?_ _)); exact BK193.out) hkp (fun hs_ => (fun e_ => (Kd.R_ne HO_212000.out BK193.out (by decide)) e_) hs_)); have n4_ := Aside0.mk (blk_kept (by (with_reducible repeat (first | refine blk_drewN ?_ _ | refine blk_drew ?_ | refine blk_alloc ?_ _)); exact BK202.out) hkp (fun hs_ => (fun e_ => (Kd.R_ne HO_212000.out BK202.out (by decide)) e_) hs_)); have n5_ := Aside0.mk (blk_kept (by (with_reducible repeat (first | refine blk_drewN ?_ _ | refine blk_drew ?_ | refine blk_alloc ?_ _)); exact BK206.out) hkp (fun hs_ => (fun e_ => (Kd.R_ne HO_212000.out BK206.out (by decide)) e_) hs_)); have n6_ := Aside0.mk (blk_kept (by (with_reducible repeat (first | refine blk_drewN ?_ _ | refine blk_drew ?_ | refine blk_alloc ?_ _)); exact BK211.out) hkp (fun hs_ => (fun e_ => (Kd.R_ne HO_212000.out BK211.out (by decide)) e_) hs_)); have n7_ := Aside0.mk (hb); clear HO_203000; clear HO_207000; clear HO_212000; clear BK193; clear BK202; clear BK206; clear BK211; clear HB; have HO_203000 := n0_; have HO_207000 := n1_; have HO_212000 := n2_; have BK193 := n3_; have BK202 := n4_; have BK206 := n5_; have BK211 := n6_; have HB := n7_; clear n0_ n1_ n2_ n3_ n4_ n5_ n6_ n7_; (try clear hb); (try clear hkp); (try clear hy0); have hcz177_0 : w176.cell? ⟨gb211, 0, none⟩ = some (.slice Ao36 t207.length co36) := (blk_cell BK211.out 0).trans rfl; have hfz177_0 := blk_frozen BK211.out 0) | ((with_reducible refine gate_callee (f := 17) rfl ?_); refine goesL_ (some 78) rfl rfl Try.func17 (by kernel_rfl) rfl #[.agg #[.slice Ao36 t221.length co36], .int .i64 1] rfl (by (try simp only [List.map_toArray, List.map_cons, List.map_nil]); first | done | (rw [show t221.length = t207.length from (Kd.R_reads' HO_212000.out).1.symm] <;> rfl) | rfl | (simp only [List.length_drop, List.length_take]; rfl)) ?_; (with_reducible refine (laws_heldMemory.calls kj63 _ _ t221 1 t222 _ ?side1 ?side2 A95.out).mono ?_); (case side1 => repeat (first | exact (Kd.R_reads' HO_212000.out).2.2 | (with_reducible refine Kd.C_alloc ?_ _) | (with_reducible refine Kd.C_drewN ?_ _) | (with_reducible refine Kd.C_drew ?_))); (case side2 => rw [show t221.length = t207.length from (Kd.R_reads' HO_212000.out).1.symm]; exact (Kd.R_reads' HO_212000.out).2.1); rintro e w178 ⟨rfl, hb⟩; refine ⟨_, rfl, ?_⟩; have n0_ := Aside0.mk (Kd.R_below (by (with_reducible repeat (first | apply Kd.R_alloc | apply Kd.R_drewN | apply Kd.R_drew)); exact HO_203000.out) hb); have n1_ := Aside0.mk (Kd.R_below (by (with_reducible repeat (first | apply Kd.R_alloc | apply Kd.R_drewN | apply Kd.R_drew)); exact HO_207000.out) hb); have n2_ := Aside0.mk (Kd.R_below (by (with_reducible repeat (first | apply Kd.R_alloc | apply Kd.R_drewN | apply Kd.R_drew)); exact HO_212000.out) hb); have n3_ := Aside0.mk (blk_below (g := gb193) (o := .cells #[.slice A0_0 l0_0.length c0_0] 24 (0, 0)) (by (with_reducible repeat (first | refine blk_drewN ?_ _ | refine blk_drew ?_ | refine blk_alloc ?_ _)); exact BK193.out) hb); have n4_ := Aside0.mk (blk_below (g := gb202) (o := .cells #[.slice Ao24 t198.length co24] 28 (0, 0)) (by (with_reducible repeat (first | refine blk_drewN ?_ _ | refine blk_drew ?_ | refine blk_alloc ?_ _)); exact BK202.out) hb); have n5_ := Aside0.mk (blk_below (g := gb206) (o := .cells #[.slice Ao30 t218.length co30] 28 (0, 0)) (by (with_reducible repeat (first | refine blk_drewN ?_ _ | refine blk_drew ?_ | refine blk_alloc ?_ _)); exact BK206.out) hb); have n6_ := Aside0.mk (blk_below (g := gb211) (o := .cells #[.slice Ao36 t207.length co36] 28 (0, 0)) (by (with_reducible repeat (first | refine blk_drewN ?_ _ | refine blk_drew ?_ | refine blk_alloc ?_ _)); exact BK211.out) hb); have n7_ := Aside0.mk (below_step (by repeat (first | (with_reducible first | exact HB.out | apply below_alloc | apply pw_below_drewN | apply below_drew1 | refine below_set ?_ GE193.out | refine below_set ?_ GE202.out | refine below_set ?_ GE206.out | refine below_set ?_ GE211.out) | exact HB.out)) hb); clear HO_203000; clear HO_207000; clear HO_212000; clear BK193; clear BK202; clear BK206; clear BK211; clear HB; have HO_203000 := n0_; have HO_207000 := n1_; have HO_212000 := n2_; have BK193 := n3_; have BK202 := n4_; have BK206 := n5_; have BK211 := n6_; have HB := n7_; clear n0_ n1_ n2_ n3_ n4_ n5_ n6_ n7_; (try clear hb); (try clear hb2); (try clear hk); (try clear hi)))
                        go_ret
                        exact ⟨by first | rfl | (simp [errW_none, errW_some] <;> rfl) | (simp [*, errW_none, errW_some] <;> rfl), by repeat (first | (with_reducible first | exact HB.out | apply below_alloc | apply pw_below_drewN | apply below_drew1 | refine below_set ?_ GE193.out | refine below_set ?_ GE202.out | refine below_set ?_ GE206.out | refine below_set ?_ GE211.out) | exact HB.out)⟩
            · replace c62 := Bool.eq_false_iff.mpr c62
              subst c62
              have H1 : (some false) = some r := by rw [if_neg (show ¬ (false = true) by decide)] at H; exact H
              clear H
              have H := H1
              clear H1
              obtain rfl := Option.some.inj H
              try go_wp2
              have n0_ := Aside0.mk (Kd.R_drew HO_203000.out)
              have n1_ := Aside0.mk (Kd.R_drew HO_207000.out)
              have n2_ := Aside0.mk (Kd.R_drew HO_212000.out)
              have n3_ := Aside0.mk (blk_drew BK193.out)
              have n4_ := Aside0.mk (blk_drew BK202.out)
              have n5_ := Aside0.mk (blk_drew BK206.out)
              have n6_ := Aside0.mk (blk_drew BK211.out)
              have n7_ := Aside0.mk (below_drew1 HB.out)
              clear HO_203000
              clear HO_207000
              clear HO_212000
              clear BK193
              clear BK202
              clear BK206
              clear BK211
              clear HB
              have HO_203000 := n0_
              have HO_207000 := n1_
              have HO_212000 := n2_
              have BK193 := n3_
              have BK202 := n4_
              have BK206 := n5_
              have BK211 := n6_
              have HB := n7_
              clear n0_ n1_ n2_ n3_ n4_ n5_ n6_ n7_
              refine start_ (n := 5) (S := fun w' => w'.cell? ⟨gb206, 0, none⟩ = some (.slice Ao30 t203.length co30) ∧ w'.cell? ⟨gb193, 0, none⟩ = some (.slice A0_0 l0_0.length c0_0)) (ds := []) #[false, false, false, false, false] (by kernel_rfl) rfl rfl ⟨(blk_cell BK206.out 0).trans rfl, (blk_cell BK193.out 0).trans rfl⟩ (fun hHeld => ?_)
              generalize wc.drew = w179 at HO_203000 HO_207000 HO_212000 BK193 BK202 BK206 BK211 HB hHeld ⊢
              refine take_ (i := 0) (N := some 52) (v := ?_) (a' := ?_) #[true, false, false, false, false] rfl rfl (by kernel_rfl) (fun _ _ _ h => h) (Or.inl ⟨by rfl, ?_⟩) hHeld ?_ ?_
              rotate_left
              · rintro w' ⟨s0, s1⟩
                go_simp
                with_reducible rfl
              rotate_left
              · simp only [Act.put, List.setIfInBounds_toArray, List.set_cons_zero, List.set_cons_succ, i64_w, i32_w]
                rfl
              refine take_ (i := 1) (N := some 53) (v := ?_) (a' := ?_) #[true, true, false, false, false] rfl rfl (by kernel_rfl) (fun _ _ _ h => h) (Or.inl ⟨by rfl, ?_⟩) hHeld ?_ ?_
              rotate_left
              · rintro w' ⟨s0, s1⟩
                go_simp
                with_reducible rfl
              rotate_left
              · simp only [Act.put, List.setIfInBounds_toArray, List.set_cons_zero, List.set_cons_succ, i64_w, i32_w]
                rfl
              refine one_ (i := 2) (N := some 54) #[true, true, true, false, false] rfl rfl (by kernel_rfl) (by decide) (fun K hK => ?_)
              refine goes_ Try.func13 (by kernel_rfl) rfl #[.agg #[.slice A0_0 l0_0.length c0_0]] (by rfl) rfl rfl (by (try simp only [List.map_toArray, List.map_cons, List.map_nil]); first | done | rfl | (simp only [List.length_drop, List.length_take]; rfl)) ?_
              with_reducible refine (laws_toMemory.calls kj14 _ _ l0_0 t213 _ ?side1 ?side2 A60.out).mono ?_
              (case side1 => repeat (first | exact (Kd.C_below HR0_0.out HB.out) | (with_reducible refine Kd.C_alloc ?_ _) | (with_reducible refine Kd.C_drewN ?_ _) | (with_reducible refine Kd.C_drew ?_)))
              (case side2 => exact HC0_0.out)
              rintro e w180 ⟨v214, rfl, ho0, hb⟩
              refine ⟨_, rfl, ?_⟩
              have n0_ := Aside0.mk (Kd.R_elder' (by (with_reducible repeat (first | apply Kd.R_alloc | apply Kd.R_drewN | apply Kd.R_drew)); exact HO_203000.out) (Kd.R_base ho0) hb)
              have n1_ := Aside0.mk (Kd.R_elder' (by (with_reducible repeat (first | apply Kd.R_alloc | apply Kd.R_drewN | apply Kd.R_drew)); exact HO_207000.out) (Kd.R_base ho0) hb)
              have n2_ := Aside0.mk (Kd.R_elder' (by (with_reducible repeat (first | apply Kd.R_alloc | apply Kd.R_drewN | apply Kd.R_drew)); exact HO_212000.out) (Kd.R_base ho0) hb)
              have n3_ := Aside0.mk (Kd.R_lower (Kd.R_new' (Kd.R_new' (Kd.R_new' ho0 (Kd.R_lt (by (with_reducible repeat (first | apply Kd.R_alloc | apply Kd.R_drewN | apply Kd.R_drew)); exact HO_203000.out))) (Kd.R_lt (by (with_reducible repeat (first | apply Kd.R_alloc | apply Kd.R_drewN | apply Kd.R_drew)); exact HO_207000.out))) (Kd.R_lt (by (with_reducible repeat (first | apply Kd.R_alloc | apply Kd.R_drewN | apply Kd.R_drew)); exact HO_212000.out))) (below_size (by repeat (first | (with_reducible first | exact HB.out | apply below_alloc | apply pw_below_drewN | apply below_drew1 | refine below_set ?_ GE193.out | refine below_set ?_ GE202.out | refine below_set ?_ GE206.out | refine below_set ?_ GE211.out) | exact HB.out))))
              have n4_ := Aside0.mk (blk_below (g := gb193) (o := .cells #[.slice A0_0 l0_0.length c0_0] 24 (0, 0)) (by (with_reducible repeat (first | refine blk_drewN ?_ _ | refine blk_drew ?_ | refine blk_alloc ?_ _)); exact BK193.out) hb)
              have n5_ := Aside0.mk (blk_below (g := gb202) (o := .cells #[.slice Ao24 t198.length co24] 28 (0, 0)) (by (with_reducible repeat (first | refine blk_drewN ?_ _ | refine blk_drew ?_ | refine blk_alloc ?_ _)); exact BK202.out) hb)
              have n6_ := Aside0.mk (blk_below (g := gb206) (o := .cells #[.slice Ao30 t203.length co30] 28 (0, 0)) (by (with_reducible repeat (first | refine blk_drewN ?_ _ | refine blk_drew ?_ | refine blk_alloc ?_ _)); exact BK206.out) hb)
              have n7_ := Aside0.mk (blk_below (g := gb211) (o := .cells #[.slice Ao36 t207.length co36] 28 (0, 0)) (by (with_reducible repeat (first | refine blk_drewN ?_ _ | refine blk_drew ?_ | refine blk_alloc ?_ _)); exact BK211.out) hb)
              have n8_ := Aside0.mk (below_step (by repeat (first | (with_reducible first | exact HB.out | apply below_alloc | apply pw_below_drewN | apply below_drew1 | refine below_set ?_ GE193.out | refine below_set ?_ GE202.out | refine below_set ?_ GE206.out | refine below_set ?_ GE211.out) | exact HB.out)) hb)
              clear HO_203000
              clear HO_207000
              clear HO_212000
              clear BK193
              clear BK202
              clear BK206
              clear BK211
              clear HB
              have HO_203000 := n0_
              have HO_207000 := n1_
              have HO_212000 := n2_
              have HO215 := n3_
              have BK193 := n4_
              have BK202 := n5_
              have BK206 := n6_
              have BK211 := n7_
              have HB := n8_
              clear n0_ n1_ n2_ n3_ n4_ n5_ n6_ n7_ n8_
              (try clear hb)
              (try clear hb2)
              (try clear hk)
              (try clear hi)
              (try clear ho0)
              obtain ⟨Ao181, co181, eo181⟩ := Kd.R_slice HO215.out
              (first | subst eo181 | (injection eo181 with f1_ f2_ f3_; have f4_ := f1_.symm; have f5_ := f3_.symm; clear f1_ f2_ f3_; subst f4_; subst f5_))
              refine hK.out _ _ ⟨(blk_cell BK206.out 0).trans rfl, (blk_cell BK193.out 0).trans rfl⟩ (fun hHeld => ?_)
              clear hK K
              refine norm_ (a' := ?_) ?_ ?_
              rotate_left
              · show Act.put _ (some 54) _ = _
                simp only [Act.put, List.setIfInBounds_toArray, List.set_cons_zero, List.set_cons_succ, i64_w, i32_w]
                rfl
              refine one_ (i := 3) (N := some 55) #[true, true, true, true, false] rfl rfl (by kernel_rfl) (by decide) (fun K hK => ?_)
              refine goes_ Try.func15 (by kernel_rfl) rfl #[.agg #[.slice Ao30 t203.length co30], .agg #[.slice Ao181 t213.length co181]] (by rfl) rfl rfl (by (try simp only [List.map_toArray, List.map_cons, List.map_nil]); first | done | rfl | (simp only [List.length_drop, List.length_take]; rfl)) ?_
              with_reducible refine (laws_eqMemory.calls kj14 _ _ t203 _ _ t213 false _ ?side1 ?side2 ?side3 ?side4 A61.out).mono ?_
              (case side1 => repeat (first | exact (Kd.R_reads' HO_207000.out).2.2 | (with_reducible refine Kd.C_alloc ?_ _) | (with_reducible refine Kd.C_drewN ?_ _) | (with_reducible refine Kd.C_drew ?_)))
              (case side2 => exact (Kd.R_reads' HO_207000.out).2.1)
              (case side3 => repeat (first | exact (Kd.R_reads' HO215.out).2.2 | (with_reducible refine Kd.C_alloc ?_ _) | (with_reducible refine Kd.C_drewN ?_ _) | (with_reducible refine Kd.C_drew ?_)))
              (case side4 => exact (Kd.R_reads' HO215.out).2.1)
              rintro e w182 ⟨rfl, hb⟩
              refine ⟨_, rfl, ?_⟩
              have n0_ := Aside0.mk (Kd.R_below (by (with_reducible repeat (first | apply Kd.R_alloc | apply Kd.R_drewN | apply Kd.R_drew)); exact HO_203000.out) hb)
              have n1_ := Aside0.mk (Kd.R_below (by (with_reducible repeat (first | apply Kd.R_alloc | apply Kd.R_drewN | apply Kd.R_drew)); exact HO_207000.out) hb)
              have n2_ := Aside0.mk (Kd.R_below (by (with_reducible repeat (first | apply Kd.R_alloc | apply Kd.R_drewN | apply Kd.R_drew)); exact HO_212000.out) hb)
              have n3_ := Aside0.mk (Kd.R_below (by (with_reducible repeat (first | apply Kd.R_alloc | apply Kd.R_drewN | apply Kd.R_drew)); exact HO215.out) hb)
              have n4_ := Aside0.mk (blk_below (g := gb193) (o := .cells #[.slice A0_0 l0_0.length c0_0] 24 (0, 0)) (by (with_reducible repeat (first | refine blk_drewN ?_ _ | refine blk_drew ?_ | refine blk_alloc ?_ _)); exact BK193.out) hb)
              have n5_ := Aside0.mk (blk_below (g := gb202) (o := .cells #[.slice Ao24 t198.length co24] 28 (0, 0)) (by (with_reducible repeat (first | refine blk_drewN ?_ _ | refine blk_drew ?_ | refine blk_alloc ?_ _)); exact BK202.out) hb)
              have n6_ := Aside0.mk (blk_below (g := gb206) (o := .cells #[.slice Ao30 t203.length co30] 28 (0, 0)) (by (with_reducible repeat (first | refine blk_drewN ?_ _ | refine blk_drew ?_ | refine blk_alloc ?_ _)); exact BK206.out) hb)
              have n7_ := Aside0.mk (blk_below (g := gb211) (o := .cells #[.slice Ao36 t207.length co36] 28 (0, 0)) (by (with_reducible repeat (first | refine blk_drewN ?_ _ | refine blk_drew ?_ | refine blk_alloc ?_ _)); exact BK211.out) hb)
              have n8_ := Aside0.mk (below_step (by repeat (first | (with_reducible first | exact HB.out | apply below_alloc | apply pw_below_drewN | apply below_drew1 | refine below_set ?_ GE193.out | refine below_set ?_ GE202.out | refine below_set ?_ GE206.out | refine below_set ?_ GE211.out) | exact HB.out)) hb)
              clear HO_203000
              clear HO_207000
              clear HO_212000
              clear HO215
              clear BK193
              clear BK202
              clear BK206
              clear BK211
              clear HB
              have HO_203000 := n0_
              have HO_207000 := n1_
              have HO_212000 := n2_
              have HO215 := n3_
              have BK193 := n4_
              have BK202 := n5_
              have BK206 := n6_
              have BK211 := n7_
              have HB := n8_
              clear n0_ n1_ n2_ n3_ n4_ n5_ n6_ n7_ n8_
              (try clear hb)
              (try clear hb2)
              (try clear hk)
              (try clear hi)
              refine hK.out _ _ ⟨(blk_cell BK206.out 0).trans rfl, (blk_cell BK193.out 0).trans rfl⟩ (fun hHeld => ?_)
              clear hK K
              refine norm_ (a' := ?_) ?_ ?_
              rotate_left
              · show Act.put _ (some 55) _ = _
                simp only [Act.put, List.setIfInBounds_toArray, List.set_cons_zero, List.set_cons_succ, i64_w, i32_w]
                rfl
              refine pure_ (i := 4) (N := some 56) (v := ?_) (a' := ?_) #[true, true, true, true, true] rfl rfl (by kernel_rfl) (fun _ _ _ h => h) (Or.inl ⟨by rfl, ?_⟩) ?_ ?_
              rotate_left
              · intro w'
                go_simp
                with_reducible rfl
              rotate_left
              · simp only [Act.put, List.setIfInBounds_toArray, List.set_cons_zero, List.set_cons_succ, i64_w, i32_w]
                rfl
              refine done_ (by kernel_rfl) ?_
              try go_wp2
              go_ret
              exact ⟨by first | rfl | (simp [errW_none, errW_some] <;> rfl) | (simp [*, errW_none, errW_some] <;> rfl), by repeat (first | (with_reducible first | exact HB.out | apply below_alloc | apply pw_below_drewN | apply below_drew1 | refine below_set ?_ GE193.out | refine below_set ?_ GE202.out | refine below_set ?_ GE206.out | refine below_set ?_ GE211.out) | exact HB.out)⟩

end Go.Proofs.Ytmldfchddccncaa.PFnExactPutBytes
