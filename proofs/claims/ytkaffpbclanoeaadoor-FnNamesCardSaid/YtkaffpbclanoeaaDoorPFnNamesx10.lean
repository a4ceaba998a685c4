-- Written for this claim by the session's own program, out of the translation. Not trusted: Lean checks it.
import Derived.Test.YtkaffpbclanoeaaDoorPFnNamesx0
import Derived.Test.YtkaffpbclanoeaaDoorPFnNamesx1
import Derived.Test.YtkaffpbclanoeaaDoorPFnNamesx3
import Derived.Test.YtkaffpbclanoeaaDoorPFnNamesx4
import Derived.Test.YtkaffpbclanoeaaDoorPFnNamesx6
import Derived.Test.YtkaffpbclanoeaaDoorPFnNamesx8
import Derived.Test.YtkaffpbclanoeaaDoorPFnNamesx9
namespace Go.Proofs.YtkaffpbclanoeaaDoor.PFnNames
open Go.RowKit Go.Proofs.YtkaffpbclanoeaaDoorW.PrintWords Go.Proofs.YtkaffpbclanoeaaDoorW.PrintLast Go.Proofs.YtkaffpbclanoeaaDoorW.PrintMore
attribute [local go_sem] max2_int min2_int max_two min_two max_three min_three max_four min_four   -- for this text's walks alone
set_option linter.unusedVariables false
set_option linter.unusedSimpArgs false

attribute [local go_sem high] eqA33
/-! ### laws_FnNames: function 5 -/
mutual
def laws_FnNames.j0 : Nat → List Int → List Int → Bool → Option (Bool)
  | 0, _, _, _ => none
  | k + 1, x0, x1, x31 => if x31 = true then (some true) else ((laws_at.f x1 0 44).bind fun t308 => ((laws_at.f x1 1 16).bind fun t309 => ((laws_sizeAt.f x1 2).bind fun t310 => ((laws_at.f x1 3 16).bind fun t311 => (if t310 = 1 then ((laws_at.f x0 0 3).bind fun t312 => (laws_FnNames.j1 k x0 (wrap64 (1 + t308)) t309 t310 t311 (t312 == 0))) else (laws_FnNames.j1 k x0 (wrap64 (1 + t308)) t309 t310 t311 false))))))
def laws_FnNames.j1 : Nat → List Int → Int → Int → Int → Int → Bool → Option (Bool)
  | 0, _, _, _, _, _, _ => none
  | k + 1, x0, x5, x6, x7, x8, x47 => if x47 = true then ((laws_at.f x0 1 4).bind fun t313 => (laws_FnNames.j2 k x0 x5 x6 x7 (wrap64 (16 + t313)))) else (laws_FnNames.j2 k x0 x5 x6 x7 x8)
def laws_FnNames.j2 : Nat → List Int → Int → Int → Int → Int → Option (Bool)
  | 0, _, _, _, _, _ => none
  | k + 1, x0, x5, x6, x7, x8 => (impl_RegName.f k x8 x7).bind fun t314 => ((impl_RegOf.f k t314).bind fun bt315 => ((impl_ClassOf.f k x5).bind fun bt318 => ((spec_ClassOf.f k x5).bind fun bt320 => ((laws_at.f x0 2 2).bind fun t322 => ((laws_at.f x0 3 256).bind fun t323 => ((impl_ShapeOf.f k (t322 == 1) t323).bind fun bt324 => ((laws_at.f x0 2 2).bind fun t331 => ((laws_at.f x0 3 256).bind fun t332 => ((spec_ShapeOf.f (t331 == 1) t332).bind fun bt333 => (if (!(bt324.1 == bt333.1) || (!(bt324.2.1 == bt333.2.1) || (!(bt324.2.2.1 == bt333.2.2.1) || (!(bt324.2.2.2.1 == bt333.2.2.2.1) || (!(bt324.2.2.2.2.1 == bt333.2.2.2.2.1)))))) = true then (laws_FnNames.j3 k x0 x5 x6 x7 x8 bt315.1 bt315.2.1 bt315.2.2 bt318.1 bt318.2 bt320.1 bt324.2.2.2.2.2 true bt324.1 bt324.2.1 bt324.2.2.1 bt324.2.2.2.1 bt324.2.2.2.2.1) else (laws_FnNames.j3 k x0 x5 x6 x7 x8 bt315.1 bt315.2.1 bt315.2.2 bt318.1 bt318.2 bt320.1 bt324.2.2.2.2.2 (bt324.2.2.2.2.2 != bt333.2.2.2.2.2) bt324.1 bt324.2.1 bt324.2.2.1 bt324.2.2.2.1 bt324.2.2.2.2.1)))))))))))
def laws_FnNames.j3 : Nat → List Int → Int → Int → Int → Int → Int → Int → Int → Int → Int → Int → Int → Bool → Int → Int → Int → Bool → Int → Option (Bool)
  | 0, _, _, _, _, _, _, _, _, _, _, _, _, _, _, _, _, _, _ => none
  | k + 1, x0, x5, x6, x7, x8, x9, x10, x11, x12, x13, x14, x17, x94, x331000, x331001, x331002, x331003, x331004 => if x94 = true then (some false) else (if x17 = 0 then (laws_FnNames.j4 k x0 x5 x6 x7 x8 x9 x10 x11 x12 x13 x14 (decide (x331002 > 0)) x331000 x331001 x331002 x331003 x331004) else (laws_FnNames.j4 k x0 x5 x6 x7 x8 x9 x10 x11 x12 x13 x14 false x331000 x331001 x331002 x331003 x331004))
def laws_FnNames.j4 : Nat → List Int → Int → Int → Int → Int → Int → Int → Int → Int → Int → Int → Bool → Int → Int → Int → Bool → Int → Option (Bool)
  | 0, _, _, _, _, _, _, _, _, _, _, _, _, _, _, _, _, _ => none
  | k + 1, x0, x5, x6, x7, x8, x9, x10, x11, x12, x13, x14, x101, x331000, x331001, x331002, x331003, x331004 => if x101 = true then ((laws_at.f x0 4 8).bind fun t340 => ((impl_GroupOp.f k x331002 t340).bind fun bt341 => ((laws_at.f x0 4 8).bind fun t343 => ((spec_GroupOp.f k x331002 t343).bind fun bt344 => (if bt341.1 = bt344.1 then (if bt341.2 = bt344.2 then (laws_FnNames.j5 k x5 x6 x7 x8 x9 x10 x11 x12 x13 x14) else (some false)) else (some false)))))) else (laws_FnNames.j5 k x5 x6 x7 x8 x9 x10 x11 x12 x13 x14)
def laws_FnNames.j5 : Nat → Int → Int → Int → Int → Int → Int → Int → Int → Int → Int → Option (Bool)
  | 0, _, _, _, _, _, _, _, _, _, _ => none
  | k + 1, x5, x6, x7, x8, x9, x10, x11, x12, x13, x14 => (impl_OpName.f x5).bind fun t346 => ((impl_OpOf.f k t346).bind fun t347 => (if t347 = x5 then ((impl_OpName.f x5).bind fun t348 => ((spec_OpName.f x5).bind fun t349 => (if t348.toList = t349.toList then ((impl_CondName.f x6).bind fun t350 => ((impl_CondOf.f k t350).bind fun t351 => (if t351 = x6 then ((impl_CondName.f x6).bind fun t352 => ((spec_CondName.f x6).bind fun t353 => (if t352.toList = t353.toList then (if x11 = 0 then (if x9 = x8 then (if x10 = x7 then (if x13 = 0 then (some (x12 == x14)) else (some false)) else (some false)) else (some false)) else (some false)) else (some false)))) else (some false)))) else (some false)))) else (some false)))
end
def laws_FnNames.f (k : Nat) (l0 : List Int) (l1 : List Int) : Option (Bool) := if (l0.length : Int) > 1048576 then (laws_FnNames.j0 k l0 l1 true) else (laws_FnNames.j0 k l0 l1 (decide ((l1.length : Int) > 1048576)))
theorem laws_FnNames.mono_l : ∀ k, (∀ y0 y1 y2, LeO (laws_FnNames.j0 k y0 y1 y2) (laws_FnNames.j0 (k + 1) y0 y1 y2)) ∧ (∀ y0 y1 y2 y3 y4 y5, LeO (laws_FnNames.j1 k y0 y1 y2 y3 y4 y5) (laws_FnNames.j1 (k + 1) y0 y1 y2 y3 y4 y5)) ∧ (∀ y0 y1 y2 y3 y4, LeO (laws_FnNames.j2 k y0 y1 y2 y3 y4) (laws_FnNames.j2 (k + 1) y0 y1 y2 y3 y4)) ∧ (∀ y0 y1 y2 y3 y4 y5 y6 y7 y8 y9 y10 y11 y12 y13 y14 y15 y16 y17, LeO (laws_FnNames.j3 k y0 y1 y2 y3 y4 y5 y6 y7 y8 y9 y10 y11 y12 y13 y14 y15 y16 y17) (laws_FnNames.j3 (k + 1) y0 y1 y2 y3 y4 y5 y6 y7 y8 y9 y10 y11 y12 y13 y14 y15 y16 y17)) ∧ (∀ y0 y1 y2 y3 y4 y5 y6 y7 y8 y9 y10 y11 y12 y13 y14 y15 y16, LeO (laws_FnNames.j4 k y0 y1 y2 y3 y4 y5 y6 y7 y8 y9 y10 y11 y12 y13 y14 y15 y16) (laws_FnNames.j4 (k + 1) y0 y1 y2 y3 y4 y5 y6 y7 y8 y9 y10 y11 y12 y13 y14 y15 y16)) ∧ (∀ y0 y1 y2 y3 y4 y5 y6 y7 y8 y9, LeO (laws_FnNames.j5 k y0 y1 y2 y3 y4 y5 y6 y7 y8 y9) (laws_FnNames.j5 (k + 1) y0 y1 y2 y3 y4 y5 y6 y7 y8 y9))
  | 0 => ⟨fun _ _ _ r h => by simp [laws_FnNames.j0] at h, fun _ _ _ _ _ _ r h => by simp [laws_FnNames.j1] at h, fun _ _ _ _ _ r h => by simp [laws_FnNames.j2] at h, fun _ _ _ _ _ _ _ _ _ _ _ _ _ _ _ _ _ _ r h => by simp [laws_FnNames.j3] at h, fun _ _ _ _ _ _ _ _ _ _ _ _ _ _ _ _ _ r h => by simp [laws_FnNames.j4] at h, fun _ _ _ _ _ _ _ _ _ _ r h => by simp [laws_FnNames.j5] at h⟩
  | k + 1 => by
    obtain ⟨ih0, ih1, ih2, ih3, ih4, ih5⟩ := laws_FnNames.mono_l k
    refine ⟨?_, ?_, ?_, ?_, ?_, ?_⟩
    · intro y0 y1 y2
      unfold laws_FnNames.j0
      repeat' first
      | (with_reducible exact ih0 _ _ _)
      | (with_reducible exact ih1 _ _ _ _ _ _)
      | (with_reducible exact ih2 _ _ _ _ _)
      | (with_reducible exact ih3 _ _ _ _ _ _ _ _ _ _ _ _ _ _ _ _ _ _)
      | (with_reducible exact ih4 _ _ _ _ _ _ _ _ _ _ _ _ _ _ _ _ _)
      | (with_reducible exact ih5 _ _ _ _ _ _ _ _ _ _)
      | (with_reducible exact impl_ClassOf.mono _ _)
      | (with_reducible exact impl_CondOf.mono _ _)
      | (with_reducible exact impl_GroupOp.mono _ _ _)
      | (with_reducible exact impl_OpOf.mono _ _)
      | (with_reducible exact impl_RegName.mono _ _ _)
      | (with_reducible exact impl_RegOf.mono _ _)
      | (with_reducible exact impl_ShapeOf.mono _ _ _)
      | (with_reducible exact spec_ClassOf.mono _ _)
      | (with_reducible exact spec_GroupOp.mono _ _ _)
      | (with_reducible exact LeO.refl _)
      | (with_reducible exact LeO.none _)
      | (with_reducible refine LeO.ite ?_ ?_)
      | (with_reducible refine LeO.bind ?_ (fun _ => ?_))
      | exact ih0 _ _ _
      | exact ih1 _ _ _ _ _ _
      | exact ih2 _ _ _ _ _
      | exact ih3 _ _ _ _ _ _ _ _ _ _ _ _ _ _ _ _ _ _
      | exact ih4 _ _ _ _ _ _ _ _ _ _ _ _ _ _ _ _ _
      | exact ih5 _ _ _ _ _ _ _ _ _ _
      | exact impl_ClassOf.mono _ _
      | exact impl_CondOf.mono _ _
      | exact impl_GroupOp.mono _ _ _
      | exact impl_OpOf.mono _ _
      | exact impl_RegName.mono _ _ _
      | exact impl_RegOf.mono _ _
      | exact impl_ShapeOf.mono _ _ _
      | exact spec_ClassOf.mono _ _
      | exact spec_GroupOp.mono _ _ _
      | exact LeO.none _
      | refine LeO.ite ?_ ?_
      | refine LeO.bind ?_ (fun _ => ?_)
    · intro y0 y1 y2 y3 y4 y5
      unfold laws_FnNames.j1
      repeat' first
      | (with_reducible exact ih0 _ _ _)
      | (with_reducible exact ih1 _ _ _ _ _ _)
      | (with_reducible exact ih2 _ _ _ _ _)
      | (with_reducible exact ih3 _ _ _ _ _ _ _ _ _ _ _ _ _ _ _ _ _ _)
      | (with_reducible exact ih4 _ _ _ _ _ _ _ _ _ _ _ _ _ _ _ _ _)
      | (with_reducible exact ih5 _ _ _ _ _ _ _ _ _ _)
      | (with_reducible exact impl_ClassOf.mono _ _)
      | (with_reducible exact impl_CondOf.mono _ _)
      | (with_reducible exact impl_GroupOp.mono _ _ _)
      | (with_reducible exact impl_OpOf.mono _ _)
      | (with_reducible exact impl_RegName.mono _ _ _)
      | (with_reducible exact impl_RegOf.mono _ _)
      | (with_reducible exact impl_ShapeOf.mono _ _ _)
      | (with_reducible exact spec_ClassOf.mono _ _)
      | (with_reducible exact spec_GroupOp.mono _ _ _)
      | (with_reducible exact LeO.refl _)
      | (with_reducible exact LeO.none _)
      | (with_reducible refine LeO.ite ?_ ?_)
      | (with_reducible refine LeO.bind ?_ (fun _ => ?_))
      | exact ih0 _ _ _
      | exact ih1 _ _ _ _ _ _
      | exact ih2 _ _ _ _ _
      | exact ih3 _ _ _ _ _ _ _ _ _ _ _ _ _ _ _ _ _ _
      | exact ih4 _ _ _ _ _ _ _ _ _ _ _ _ _ _ _ _ _
      | exact ih5 _ _ _ _ _ _ _ _ _ _
      | exact impl_ClassOf.mono _ _
      | exact impl_CondOf.mono _ _
      | exact impl_GroupOp.mono _ _ _
      | exact impl_OpOf.mono _ _
      | exact impl_RegName.mono _ _ _
      | exact impl_RegOf.mono _ _
      | exact impl_ShapeOf.mono _ _ _
      | exact spec_ClassOf.mono _ _
      | exact spec_GroupOp.mono _ _ _
      | exact LeO.none _
      | refine LeO.ite ?_ ?_
      | refine LeO.bind ?_ (fun _ => ?_)
    · intro y0 y1 y2 y3 y4
      unfold laws_FnNames.j2
      repeat' first
      | (with_reducible exact ih0 _ _ _)
      | (with_reducible exact ih1 _ _ _ _ _ _)
      | (with_reducible exact ih2 _ _ _ _ _)
      | (with_reducible exact ih3 _ _ _ _ _ _ _ _ _ _ _ _ _ _ _ _ _ _)
      | (with_reducible exact ih4 _ _ _ _ _ _ _ _ _ _ _ _ _ _ _ _ _)
      | (with_reducible exact ih5 _ _ _ _ _ _ _ _ _ _)
      | (with_reducible exact impl_ClassOf.mono _ _)
      | (with_reducible exact impl_CondOf.mono _ _)
      | (with_reducible exact impl_GroupOp.mono _ _ _)
      | (with_reducible exact impl_OpOf.mono _ _)
      | (with_reducible exact impl_RegName.mono _ _ _)
      | (with_reducible exact impl_RegOf.mono _ _)
      | (with_reducible exact impl_ShapeOf.mono _ _ _)
      | (with_reducible exact spec_ClassOf.mono _ _)
      | (with_reducible exact spec_GroupOp.mono _ _ _)
      | (with_reducible exact LeO.refl _)
      | (with_reducible exact LeO.none _)
      | (with_reducible refine LeO.ite ?_ ?_)
      | (with_reducible refine LeO.bind ?_ (fun _ => ?_))
      | exact ih0 _ _ _
      | exact ih1 _ _ _ _ _ _
      | exact ih2 _ _ _ _ _
      | exact ih3 _ _ _ _ _ _ _ _ _ _ _ _ _ _ _ _ _ _
      | exact ih4 _ _ _ _ _ _ _ _ _ _ _ _ _ _ _ _ _
      | exact ih5 _ _ _ _ _ _ _ _ _ _
      | exact impl_ClassOf.mono _ _
      | exact impl_CondOf.mono _ _
      | exact impl_GroupOp.mono _ _ _
      | exact impl_OpOf.mono _ _
      | exact impl_RegName.mono _ _ _
      | exact impl_RegOf.mono _ _
      | exact impl_ShapeOf.mono _ _ _
      | exact spec_ClassOf.mono _ _
      | exact spec_GroupOp.mono _ _ _
      | exact LeO.none _
      | refine LeO.ite ?_ ?_
      | refine LeO.bind ?_ (fun _ => ?_)
    · intro y0 y1 y2 y3 y4 y5 y6 y7 y8 y9 y10 y11 y12 y13 y14 y15 y16 y17
      unfold laws_FnNames.j3
      repeat' first
      | (with_reducible exact ih0 _ _ _)
      | (with_reducible exact ih1 _ _ _ _ _ _)
      | (with_reducible exact ih2 _ _ _ _ _)
      | (with_reducible exact ih3 _ _ _ _ _ _ _ _ _ _ _ _ _ _ _ _ _ _)
      | (with_reducible exact ih4 _ _ _ _ _ _ _ _ _ _ _ _ _ _ _ _ _)
      | (with_reducible exact ih5 _ _ _ _ _ _ _ _ _ _)
      | (with_reducible exact impl_ClassOf.mono _ _)
      | (with_reducible exact impl_CondOf.mono _ _)
      | (with_reducible exact impl_GroupOp.mono _ _ _)
      | (with_reducible exact impl_OpOf.mono _ _)
      | (with_reducible exact impl_RegName.mono _ _ _)
      | (with_reducible exact impl_RegOf.mono _ _)
      | (with_reducible exact impl_ShapeOf.mono _ _ _)
      | (with_reducible exact spec_ClassOf.mono _ _)
      | (with_reducible exact spec_GroupOp.mono _ _ _)
      | (with_reducible exact LeO.refl _)
      | (with_reducible exact LeO.none _)
      | (with_reducible refine LeO.ite ?_ ?_)
      | (with_reducible refine LeO.bind ?_ (fun _ => ?_))
      | exact ih0 _ _ _
      | exact ih1 _ _ _ _ _ _
      | exact ih2 _ _ _ _ _
      | exact ih3 _ _ _ _ _ _ _ _ _ _ _ _ _ _ _ _ _ _
      | exact ih4 _ _ _ _ _ _ _ _ _ _ _ _ _ _ _ _ _
      | exact ih5 _ _ _ _ _ _ _ _ _ _
      | exact impl_ClassOf.mono _ _
      | exact impl_CondOf.mono _ _
      | exact impl_GroupOp.mono _ _ _
      | exact impl_OpOf.mono _ _
      | exact impl_RegName.mono _ _ _
      | exact impl_RegOf.mono _ _
      | exact impl_ShapeOf.mono _ _ _
      | exact spec_ClassOf.mono _ _
      | exact spec_GroupOp.mono _ _ _
      | exact LeO.none _
      | refine LeO.ite ?_ ?_
      | refine LeO.bind ?_ (fun _ => ?_)
    · intro y0 y1 y2 y3 y4 y5 y6 y7 y8 y9 y10 y11 y12 y13 y14 y15 y16
      unfold laws_FnNames.j4
      repeat' first
      | (with_reducible exact ih0 _ _ _)
      | (with_reducible exact ih1 _ _ _ _ _ _)
      | (with_reducible exact ih2 _ _ _ _ _)
      | (with_reducible exact ih3 _ _ _ _ _ _ _ _ _ _ _ _ _ _ _ _ _ _)
      | (with_reducible exact ih4 _ _ _ _ _ _ _ _ _ _ _ _ _ _ _ _ _)
      | (with_reducible exact ih5 _ _ _ _ _ _ _ _ _ _)
      | (with_reducible exact impl_ClassOf.mono _ _)
      | (with_reducible exact impl_CondOf.mono _ _)
      | (with_reducible exact impl_GroupOp.mono _ _ _)
      | (with_reducible exact impl_OpOf.mono _ _)
      | (with_reducible exact impl_RegName.mono _ _ _)
      | (with_reducible exact impl_RegOf.mono _ _)
      | (with_reducible exact impl_ShapeOf.mono _ _ _)
      | (with_reducible exact spec_ClassOf.mono _ _)
      | (with_reducible exact spec_GroupOp.mono _ _ _)
      | (with_reducible exact LeO.refl _)
      | (with_reducible exact LeO.none _)
      | (with_reducible refine LeO.ite ?_ ?_)
      | (with_reducible refine LeO.bind ?_ (fun _ => ?_))
      | exact ih0 _ _ _
      | exact ih1 _ _ _ _ _ _
      | exact ih2 _ _ _ _ _
      | exact ih3 _ _ _ _ _ _ _ _ _ _ _ _ _ _ _ _ _ _
      | exact ih4 _ _ _ _ _ _ _ _ _ _ _ _ _ _ _ _ _
      | exact ih5 _ _ _ _ _ _ _ _ _ _
      | exact impl_ClassOf.mono _ _
      | exact impl_CondOf.mono _ _
      | exact impl_GroupOp.mono _ _ _
      | exact impl_OpOf.mono _ _
      | exact impl_RegName.mono _ _ _
      | exact impl_RegOf.mono _ _
      | exact impl_ShapeOf.mono _ _ _
      | exact spec_ClassOf.mono _ _
      | exact spec_GroupOp.mono _ _ _
      | exact LeO.none _
      | refine LeO.ite ?_ ?_
      | refine LeO.bind ?_ (fun _ => ?_)
    · intro y0 y1 y2 y3 y4 y5 y6 y7 y8 y9
      unfold laws_FnNames.j5
      repeat' first
      | (with_reducible exact ih0 _ _ _)
      | (with_reducible exact ih1 _ _ _ _ _ _)
      | (with_reducible exact ih2 _ _ _ _ _)
      | (with_reducible exact ih3 _ _ _ _ _ _ _ _ _ _ _ _ _ _ _ _ _ _)
      | (with_reducible exact ih4 _ _ _ _ _ _ _ _ _ _ _ _ _ _ _ _ _)
      | (with_reducible exact ih5 _ _ _ _ _ _ _ _ _ _)
      | (with_reducible exact impl_ClassOf.mono _ _)
      | (with_reducible exact impl_CondOf.mono _ _)
      | (with_reducible exact impl_GroupOp.mono _ _ _)
      | (with_reducible exact impl_OpOf.mono _ _)
      | (with_reducible exact impl_RegName.mono _ _ _)
      | (with_reducible exact impl_RegOf.mono _ _)
      | (with_reducible exact impl_ShapeOf.mono _ _ _)
      | (with_reducible exact spec_ClassOf.mono _ _)
      | (with_reducible exact spec_GroupOp.mono _ _ _)
      | (with_reducible exact LeO.refl _)
      | (with_reducible exact LeO.none _)
      | (with_reducible refine LeO.ite ?_ ?_)
      | (with_reducible refine LeO.bind ?_ (fun _ => ?_))
      | exact ih0 _ _ _
      | exact ih1 _ _ _ _ _ _
      | exact ih2 _ _ _ _ _
      | exact ih3 _ _ _ _ _ _ _ _ _ _ _ _ _ _ _ _ _ _
      | exact ih4 _ _ _ _ _ _ _ _ _ _ _ _ _ _ _ _ _
      | exact ih5 _ _ _ _ _ _ _ _ _ _
      | exact impl_ClassOf.mono _ _
      | exact impl_CondOf.mono _ _
      | exact impl_GroupOp.mono _ _ _
      | exact impl_OpOf.mono _ _
      | exact impl_RegName.mono _ _ _
      | exact impl_RegOf.mono _ _
      | exact impl_ShapeOf.mono _ _ _
      | exact spec_ClassOf.mono _ _
      | exact spec_GroupOp.mono _ _ _
      | exact LeO.none _
      | refine LeO.ite ?_ ?_
      | refine LeO.bind ?_ (fun _ => ?_)
theorem laws_FnNames.mono : ∀ a0 a1 k, LeO (laws_FnNames.f k a0 a1) (laws_FnNames.f (k + 1) a0 a1) := by
  intro a0 a1 k
  obtain ⟨ih0, ih1, ih2, ih3, ih4, ih5⟩ := laws_FnNames.mono_l k
  unfold laws_FnNames.f
  repeat' first
      | (with_reducible exact ih0 _ _ _)
      | (with_reducible exact ih1 _ _ _ _ _ _)
      | (with_reducible exact ih2 _ _ _ _ _)
      | (with_reducible exact ih3 _ _ _ _ _ _ _ _ _ _ _ _ _ _ _ _ _ _)
      | (with_reducible exact ih4 _ _ _ _ _ _ _ _ _ _ _ _ _ _ _ _ _)
      | (with_reducible exact ih5 _ _ _ _ _ _ _ _ _ _)
      | (with_reducible exact impl_ClassOf.mono _ _)
      | (with_reducible exact impl_CondOf.mono _ _)
      | (with_reducible exact impl_GroupOp.mono _ _ _)
      | (with_reducible exact impl_OpOf.mono _ _)
      | (with_reducible exact impl_RegName.mono _ _ _)
      | (with_reducible exact impl_RegOf.mono _ _)
      | (with_reducible exact impl_ShapeOf.mono _ _ _)
      | (with_reducible exact spec_ClassOf.mono _ _)
      | (with_reducible exact spec_GroupOp.mono _ _ _)
      | (with_reducible exact LeO.refl _)
      | (with_reducible exact LeO.none _)
      | (with_reducible refine LeO.ite ?_ ?_)
      | (with_reducible refine LeO.bind ?_ (fun _ => ?_))
      | exact ih0 _ _ _
      | exact ih1 _ _ _ _ _ _
      | exact ih2 _ _ _ _ _
      | exact ih3 _ _ _ _ _ _ _ _ _ _ _ _ _ _ _ _ _ _
      | exact ih4 _ _ _ _ _ _ _ _ _ _ _ _ _ _ _ _ _
      | exact ih5 _ _ _ _ _ _ _ _ _ _
      | exact impl_ClassOf.mono _ _
      | exact impl_CondOf.mono _ _
      | exact impl_GroupOp.mono _ _ _
      | exact impl_OpOf.mono _ _
      | exact impl_RegName.mono _ _ _
      | exact impl_RegOf.mono _ _
      | exact impl_ShapeOf.mono _ _ _
      | exact spec_ClassOf.mono _ _
      | exact spec_GroupOp.mono _ _ _
      | exact LeO.none _
      | refine LeO.ite ?_ ?_
      | refine LeO.bind ?_ (fun _ => ?_)
def laws_FnNames.T17 : Bool × List (List Nat × List Nat) := (true, [([], []), ([0], [0]), ([], []), ([2], [2]), ([1, 3, 3], [1, 3]), ([4], [4]), ([5], [5]), ([5], [5]), ([6, 4, 0, 1, 2, 3, 4, 5, 6], [6]), ([7, 8, 0, 1, 2, 3, 4, 5, 6, 7, 8], [7])])
def laws_FnNames.B17 : List Nat := [0, 1, 0, 4, 15, 31, 63, 63, 127, 511]
theorem laws_FnNames.tab17 : rtab .any (opsOf Tryd.f5 17) = laws_FnNames.T17 := by kernel_rfl
theorem laws_FnNames.bits17 : waitsOk laws_FnNames.T17.2 laws_FnNames.B17 = true := by kernel_rfl
def laws_FnNames.T18 : Bool × List (List Nat × List Nat) := (true, [([], []), ([0], [0]), ([], []), ([2], [2]), ([1, 3, 3], [1, 3]), ([4], [4]), ([5], [5]), ([5], [5]), ([6, 4, 0, 1, 2, 3, 4, 5, 6], [6]), ([7, 8, 0, 1, 2, 3, 4, 5, 6, 7, 8], [7])])
def laws_FnNames.B18 : List Nat := [0, 1, 0, 4, 15, 31, 63, 63, 127, 511]
theorem laws_FnNames.tab18 : rtab .any (opsOf Tryd.f5 18) = laws_FnNames.T18 := by kernel_rfl
theorem laws_FnNames.bits18 : waitsOk laws_FnNames.T18.2 laws_FnNames.B18 = true := by kernel_rfl
set_option maxHeartbeats 8000000 in
set_option maxRecDepth 100000 in
theorem laws_FnNames.calls (k : Nat) (A0 : Option Addr) (c0 : Nat) (l0 : List Int) (A1 : Option Addr) (c1 : Nat) (l1 : List Int) (w : World) (hr0 : Kd.C (Kd.int .u8) w A0 l0.length l0) (hc0 : l0.length ≤ c0) (hr1 : Kd.C (Kd.int .u8) w A1 l1.length l1) (hc1 : l1.length ≤ c1) (h : laws_FnNames.f k l0 l1 = some true) :
    Calls Tryd.prog 5 #[.slice A0 l0.length c0, .slice A1 l1.length c1] w fun e w' => e = .returned (.bool true) ∧ Below w.heap.size w w' := by
  have hu33 := Tryd.underlying33
  have HR0 := Aside0.mk hr0
  have HC0 := Aside0.mk hc0
  clear hr0 hc0
  have HR1 := Aside0.mk hr1
  have HC1 := Aside0.mk hc1
  clear hr1 hc1
  have HB := Aside0.mk (Below.refl w.heap.size w)
  have H : (if (l0.length : Int) > 1048576 then (laws_FnNames.j0 k l0 l1 true) else (laws_FnNames.j0 k l0 l1 (decide ((l1.length : Int) > 1048576)))) = some true := h
  clear h
  have HC3 := Aside0.mk H
  clear H
  go_enter Tryd.func5, Tryd.ntmps5
  go_upto_region 1 with (fail)
  go_cut [31] (fun v31 wc => ∃ (kq : Nat) (x31_2 : Bool), v31 = .bool x31_2 ∧ Aside0 (laws_FnNames.j0 kq l0 l1 x31_2 = some true) ∧ Aside0 (kq ≤ k) ∧ Aside0 (Below w.heap.size w wc))
  case first =>
    have H := HC3.out
    clear HC3
    by_cases c4 : (l0.length : Int) > 1048576
    · rw [if_pos c4] at H
      have c4b0 : decide (1048576 < (l0.length : Int)) = true := decide_eq_true c4
      have c4b1 : decide (1048576 < l0.length) = true := decide_eq_true (by omega)
      clear c4
      (first | rw [c4b0] | (simp only [i64_w, i32_w]; rw [c4b0]) | skip)
      have H' := Aside0.mk H
      clear H
      go_wp2
      go_meet
      case rel => exact ⟨_, (true), (by first | rfl | (simp; done) | (simp [*]; done)), H', ⟨by first | omega | exact Nat.le_refl _⟩, ⟨by repeat (first | (with_reducible first | exact HB.out | apply below_alloc | apply pw_below_drewN | apply below_drew1) | exact HB.out)⟩⟩
    · rw [if_neg c4] at H
      have c4b0 : decide (1048576 < (l0.length : Int)) = false := decide_eq_false c4
      have c4b1 : decide (1048576 < l0.length) = false := decide_eq_false (by omega)
      clear c4
      (first | rw [c4b0] | (simp only [i64_w, i32_w]; rw [c4b0]) | skip)
      have H' := Aside0.mk H
      clear H
      go_wp2
      go_meet
      case rel => exact ⟨_, (decide ((l1.length : Int) > 1048576)), (by first | rfl | (simp; done) | (simp [*]; done)), H', ⟨by first | omega | exact Nat.le_refl _⟩, ⟨by repeat (first | (with_reducible first | exact HB.out | apply below_alloc | apply pw_below_drewN | apply below_drew1) | exact HB.out)⟩⟩
  case rest =>
    clear HC3
    try clear c1
    try clear p2
    try clear c4
    try clear c4b0
    try clear c4b1
    obtain ⟨kq, x31_2, rfl, HA, HJ2, HB⟩ := hcut
    cases kq with
    | zero => exact absurd HA.out (by simp [laws_FnNames.j0])
    | succ kj2 =>
      have H := HA.out
      clear HA
      simp only [laws_FnNames.j0] at H
      by_cases c5 : x31_2 = true
      · subst c5
        have H1 : (some true : Option Bool) = some true := rfl
        clear H
        have H := H1
        clear H1
        clear H
        go_wp2
        go_ret
        exact ⟨by first | rfl | (simp [errW_none, errW_some] <;> rfl) | (simp [*, errW_none, errW_some] <;> rfl), by repeat (first | (with_reducible first | exact HB.out | apply below_alloc | apply pw_below_drewN | apply below_drew1) | exact HB.out)⟩
      · replace c5 := Bool.eq_false_iff.mpr c5
        subst c5
        have H1 : ((laws_at.f l1 0 44).bind fun t308 => ((laws_at.f l1 1 16).bind fun t309 => ((laws_sizeAt.f l1 2).bind fun t310 => ((laws_at.f l1 3 16).bind fun t311 => (if t310 = 1 then ((laws_at.f l0 0 3).bind fun t312 => (laws_FnNames.j1 kj2 l0 (wrap64 (1 + t308)) t309 t310 t311 (t312 == 0))) else (laws_FnNames.j1 kj2 l0 (wrap64 (1 + t308)) t309 t310 t311 false)))))) = some true := by rw [if_neg (show ¬ (false = true) by decide)] at H; exact H
        clear H
        have H := H1
        clear H1
        replace H := Option.bind_eq_some_iff.mp H
        obtain ⟨t308, A60, H⟩ := H
        replace H : ((laws_at.f l1 1 16).bind fun t309 => ((laws_sizeAt.f l1 2).bind fun t310 => ((laws_at.f l1 3 16).bind fun t311 => (if t310 = 1 then ((laws_at.f l0 0 3).bind fun t312 => (laws_FnNames.j1 kj2 l0 (wrap64 (1 + t308)) t309 t310 t311 (t312 == 0))) else (laws_FnNames.j1 kj2 l0 (wrap64 (1 + t308)) t309 t310 t311 false))))) = some true := H
        have A6 := Aside0.mk A60
        clear A60
        replace H := Option.bind_eq_some_iff.mp H
        obtain ⟨t309, A70, H⟩ := H
        replace H : ((laws_sizeAt.f l1 2).bind fun t310 => ((laws_at.f l1 3 16).bind fun t311 => (if t310 = 1 then ((laws_at.f l0 0 3).bind fun t312 => (laws_FnNames.j1 kj2 l0 (wrap64 (1 + t308)) t309 t310 t311 (t312 == 0))) else (laws_FnNames.j1 kj2 l0 (wrap64 (1 + t308)) t309 t310 t311 false)))) = some true := H
        have A7 := Aside0.mk A70
        clear A70
        replace H := Option.bind_eq_some_iff.mp H
        obtain ⟨t310, A80, H⟩ := H
        replace H : ((laws_at.f l1 3 16).bind fun t311 => (if t310 = 1 then ((laws_at.f l0 0 3).bind fun t312 => (laws_FnNames.j1 kj2 l0 (wrap64 (1 + t308)) t309 t310 t311 (t312 == 0))) else (laws_FnNames.j1 kj2 l0 (wrap64 (1 + t308)) t309 t310 t311 false))) = some true := H
        have A8 := Aside0.mk A80
        clear A80
        replace H := Option.bind_eq_some_iff.mp H
        obtain ⟨t311, A90, H⟩ := H
        replace H : (if t310 = 1 then ((laws_at.f l0 0 3).bind fun t312 => (laws_FnNames.j1 kj2 l0 (wrap64 (1 + t308)) t309 t310 t311 (t312 == 0))) else (laws_FnNames.j1 kj2 l0 (wrap64 (1 + t308)) t309 t310 t311 false)) = some true := H
        have A9 := Aside0.mk A90
        clear A90
        have HC10 := Aside0.mk H
        clear H
        go_upto_region 7 with (first | ((with_reducible refine gate_callee (f := 10) rfl ?_); refine goesL_ (some 33) rfl rfl Tryd.func10 (by kernel_rfl) rfl #[.slice A1 l1.length c1, .int .i64 0, .int .i64 44] rfl (by (try simp only [List.map_toArray, List.map_cons, List.map_nil]); first | done | rfl | (simp only [List.length_drop, List.length_take]; rfl)) ?_; (with_reducible refine (laws_at.calls _ _ l1 0 44 t308 _ ?side1 ?side2 A6.out).mono ?_); (case side1 => repeat (first | exact (Kd.C_below HR1.out HB.out) | (with_reducible refine Kd.C_alloc ?_ _) | (with_reducible refine Kd.C_drewN ?_ _) | (with_reducible refine Kd.C_drew ?_))); (case side2 => exact HC1.out); rintro e w' ⟨rfl, ⟨nd, rfl⟩⟩; refine ⟨_, rfl, ?_⟩) | ((with_reducible refine gate_callee (f := 10) rfl ?_); refine goesL_ (some 36) rfl rfl Tryd.func10 (by kernel_rfl) rfl #[.slice A1 l1.length c1, .int .i64 1, .int .i64 16] rfl (by (try simp only [List.map_toArray, List.map_cons, List.map_nil]); first | done | rfl | (simp only [List.length_drop, List.length_take]; rfl)) ?_; (with_reducible refine (laws_at.calls _ _ l1 1 16 t309 _ ?side1 ?side2 A7.out).mono ?_); (case side1 => repeat (first | exact (Kd.C_below HR1.out (by repeat (first | (with_reducible first | exact HB.out | apply below_alloc | apply pw_below_drewN | apply below_drew1) | exact HB.out))) | (with_reducible refine Kd.C_alloc ?_ _) | (with_reducible refine Kd.C_drewN ?_ _) | (with_reducible refine Kd.C_drew ?_))); (case side2 => exact HC1.out); rintro e w' ⟨rfl, ⟨nd, rfl⟩⟩; refine ⟨_, rfl, ?_⟩) | ((with_reducible refine gate_callee (f := 11) rfl ?_); refine goesL_ (some 38) rfl rfl Tryd.func11 (by kernel_rfl) rfl #[.slice A1 l1.length c1, .int .i64 2] rfl (by (try simp only [List.map_toArray, List.map_cons, List.map_nil]); first | done | rfl | (simp only [List.length_drop, List.length_take]; rfl)) ?_; (with_reducible refine (laws_sizeAt.calls _ _ l1 2 t310 _ ?side1 ?side2 A8.out).mono ?_); (case side1 => repeat (first | exact (Kd.C_below HR1.out (by repeat (first | (with_reducible first | exact HB.out | apply below_alloc | apply pw_below_drewN | apply below_drew1) | exact HB.out))) | (with_reducible refine Kd.C_alloc ?_ _) | (with_reducible refine Kd.C_drewN ?_ _) | (with_reducible refine Kd.C_drew ?_))); (case side2 => exact HC1.out); rintro e w11 ⟨rfl, hb⟩; refine ⟨_, rfl, ?_⟩; have n0_ := Aside0.mk (below_step (by repeat (first | (with_reducible first | exact HB.out | apply below_alloc | apply pw_below_drewN | apply below_drew1) | exact HB.out)) hb); clear HB; have HB := n0_; clear n0_; (try clear hb); (try clear hb2); (try clear hk); (try clear hi)) | ((with_reducible refine gate_callee (f := 10) rfl ?_); refine goesL_ (some 40) rfl rfl Tryd.func10 (by kernel_rfl) rfl #[.slice A1 l1.length c1, .int .i64 3, .int .i64 16] rfl (by (try simp only [List.map_toArray, List.map_cons, List.map_nil]); first | done | rfl | (simp only [List.length_drop, List.length_take]; rfl)) ?_; (with_reducible refine (laws_at.calls _ _ l1 3 16 t311 _ ?side1 ?side2 A9.out).mono ?_); (case side1 => repeat (first | exact (Kd.C_below HR1.out HB.out) | (with_reducible refine Kd.C_alloc ?_ _) | (with_reducible refine Kd.C_drewN ?_ _) | (with_reducible refine Kd.C_drew ?_))); (case side2 => exact HC1.out); rintro e w' ⟨rfl, ⟨nd, rfl⟩⟩; refine ⟨_, rfl, ?_⟩))
        (try simp only [Act.put, List.setIfInBounds_toArray, List.set_cons_zero, List.set_cons_succ])
        go_cut [47] (fun v47 wc => ∃ (kq : Nat) (x47_9 : Bool), v47 = .bool x47_9 ∧ Aside0 (laws_FnNames.j1 kq l0 (wrap64 (1 + t308)) t309 t310 t311 x47_9 = some true) ∧ Aside0 (kq ≤ kj2) ∧ Aside0 (Below w.heap.size w wc))
        case first =>
          have H := HC10.out
          clear HC10
          by_cases c12 : t310 = 1
          · rw [if_pos c12] at H
            have c12b0 : (t310 == 1) = true := beq_iff_eq.mpr c12
            have c12b1 : (t310 != 1) = false := bne_eq_false_iff_eq.mpr c12
            clear c12
            (first | rw [c12b0] | (simp only [i64_w, i32_w]; rw [c12b0]) | skip)
            replace H := Option.bind_eq_some_iff.mp H
            obtain ⟨t312, A130, H⟩ := H
            replace H : (laws_FnNames.j1 kj2 l0 (wrap64 (1 + t308)) t309 t310 t311 (t312 == 0)) = some true := H
            have A13 := Aside0.mk A130
            clear A130
            have H' := Aside0.mk H
            clear H
            go_wp2_with (first | (go_at_call 10; (with_reducible refine (laws_at.calls _ _ l0 0 3 t312 _ ?side1 ?side2 A13.out).mono ?_); (case side1 => repeat (first | exact (Kd.C_below HR0.out HB.out) | (with_reducible refine Kd.C_alloc ?_ _) | (with_reducible refine Kd.C_drewN ?_ _) | (with_reducible refine Kd.C_drew ?_))); (case side2 => exact HC0.out); rintro e w' ⟨rfl, ⟨nd, rfl⟩⟩))
            (first | go_meet | ((try simp only [c12b0] at *); (try simp only [c12b1] at *); go_meet))
            case rel => (try rw [c12b0]); (try rw [c12b0] at H'); (try rw [c12b1]); (try rw [c12b1] at H'); exact ⟨_, ((t312 == 0)), (by first | rfl | (simp; done) | (simp [*]; done)), H', ⟨by have := HJ2.out; first | omega | exact Nat.le_refl _⟩, ⟨by repeat (first | (with_reducible first | exact HB.out | apply below_alloc | apply pw_below_drewN | apply below_drew1) | exact HB.out)⟩⟩
          · rw [if_neg c12] at H
            have c12b0 : (t310 == 1) = false := beq_eq_false_iff_ne.mpr c12
            have c12b1 : (t310 != 1) = true := bne_iff_ne.mpr c12
            (first | rw [c12b0] | (simp only [i64_w, i32_w]; rw [c12b0]) | skip)
            have H' := Aside0.mk H
            clear H
            go_wp2
            (first | go_meet | ((try simp only [c12b0] at *); (try simp only [c12b1] at *); go_meet))
            case rel => (try rw [c12b0]); (try rw [c12b0] at H'); (try rw [c12b1]); (try rw [c12b1] at H'); exact ⟨_, (false), (by first | rfl | (simp; done) | (simp [*]; done)), H', ⟨by have := HJ2.out; first | omega | exact Nat.le_refl _⟩, ⟨by repeat (first | (with_reducible first | exact HB.out | apply below_alloc | apply pw_below_drewN | apply below_drew1) | exact HB.out)⟩⟩
        case rest =>
          clear HC10
          try clear c1
          try clear p2
          try clear c4
          try clear c4b0
          try clear c4b1
          try clear c5
          try clear p6
          try clear c10
          try clear c11
          try clear c12
          try clear c12b0
          try clear c12b1
          try clear p2
          obtain ⟨kq, x47_9, rfl, HA, HJ9, HB⟩ := hcut
          cases kq with
          | zero => exact absurd HA.out (by simp [laws_FnNames.j1])
          | succ kj9 =>
            have H := HA.out
            clear HA
            simp only [laws_FnNames.j1] at H
            have HC14 := Aside0.mk H
            clear H
            go_upto_if 47 with (fail)
            go_cut [8] (fun v8 wc => ∃ (kq : Nat) (x8_13 : Int), v8 = .int .i64 x8_13 ∧ Aside0 (laws_FnNames.j2 kq l0 (wrap64 (1 + t308)) t309 t310 x8_13 = some true) ∧ Aside0 (kq ≤ kj9) ∧ Aside0 (Below w.heap.size w wc))
            case first =>
              have H := HC14.out
              clear HC14
              by_cases c15 : x47_9 = true
              · subst c15
                have H1 : ((laws_at.f l0 1 4).bind fun t313 => (laws_FnNames.j2 kj9 l0 (wrap64 (1 + t308)) t309 t310 (wrap64 (16 + t313)))) = some true := by rw [if_pos rfl] at H; exact H
                clear H
                have H := H1
                clear H1
                replace H := Option.bind_eq_some_iff.mp H
                obtain ⟨t313, A160, H⟩ := H
                replace H : (laws_FnNames.j2 kj9 l0 (wrap64 (1 + t308)) t309 t310 (wrap64 (16 + t313))) = some true := H
                have A16 := Aside0.mk A160
                clear A160
                have H' := Aside0.mk H
                clear H
                go_wp2_with (first | ((with_reducible refine gate_callee (f := 10) rfl ?_); refine goesL_ (some 49) rfl rfl Tryd.func10 (by kernel_rfl) rfl #[.slice A0 l0.length c0, .int .i64 1, .int .i64 4] rfl (by (try simp only [List.map_toArray, List.map_cons, List.map_nil]); first | done | rfl | (simp only [List.length_drop, List.length_take]; rfl)) ?_; (with_reducible refine (laws_at.calls _ _ l0 1 4 t313 _ ?side1 ?side2 A16.out).mono ?_); (case side1 => repeat (first | exact (Kd.C_below HR0.out HB.out) | (with_reducible refine Kd.C_alloc ?_ _) | (with_reducible refine Kd.C_drewN ?_ _) | (with_reducible refine Kd.C_drew ?_))); (case side2 => exact HC0.out); rintro e w' ⟨rfl, ⟨nd, rfl⟩⟩; refine ⟨_, rfl, ?_⟩))
                (first | go_meet | ((try simp only [c12b0] at *); (try simp only [c12b1] at *); go_meet))
                case rel => (try rw [c12b0]); (try rw [c12b0] at H'); (try rw [c12b1]); (try rw [c12b1] at H'); exact ⟨_, (wrap64 (16 + t313)), (by first | rfl | (simp; done) | (simp [*]; done)), H', ⟨by have := HJ2.out; have := HJ9.out; first | omega | exact Nat.le_refl _⟩, ⟨by repeat (first | (with_reducible first | exact HB.out | apply below_alloc | apply pw_below_drewN | apply below_drew1) | exact HB.out)⟩⟩
              · replace c15 := Bool.eq_false_iff.mpr c15
                subst c15
                have H1 : (laws_FnNames.j2 kj9 l0 (wrap64 (1 + t308)) t309 t310 t311) = some true := by rw [if_neg (show ¬ (false = true) by decide)] at H; exact H
                clear H
                have H := H1
                clear H1
                have H' := Aside0.mk H
                clear H
                go_wp2
                (first | go_meet | ((try simp only [c12b0] at *); (try simp only [c12b1] at *); go_meet))
                case rel => (try rw [c12b0]); (try rw [c12b0] at H'); (try rw [c12b1]); (try rw [c12b1] at H'); exact ⟨_, (t311), (by first | rfl | (simp; done) | (simp [*]; done)), H', ⟨by have := HJ2.out; have := HJ9.out; first | omega | exact Nat.le_refl _⟩, ⟨by repeat (first | (with_reducible first | exact HB.out | apply below_alloc | apply pw_below_drewN | apply below_drew1) | exact HB.out)⟩⟩
            case rest =>
              clear HC14
              try clear c1
              try clear p2
              try clear c4
              try clear c4b0
              try clear c4b1
              try clear c5
              try clear p6
              try clear c10
              try clear c11
              try clear c12
              try clear c12b0
              try clear c12b1
              try clear c15
              try clear p2
              try clear p6
              obtain ⟨kq, x8_13, rfl, HA, HJ13, HB⟩ := hcut
              cases kq with
              | zero => exact absurd HA.out (by simp [laws_FnNames.j2])
              | succ kj13 =>
                have H := HA.out
                clear HA
                simp only [laws_FnNames.j2] at H
                replace H := Option.bind_eq_some_iff.mp H
                obtain ⟨t314, A170, H⟩ := H
                replace H : ((impl_RegOf.f kj13 t314).bind fun bt315 => ((impl_ClassOf.f kj13 (wrap64 (1 + t308))).bind fun bt318 => ((spec_ClassOf.f kj13 (wrap64 (1 + t308))).bind fun bt320 => ((laws_at.f l0 2 2).bind fun t322 => ((laws_at.f l0 3 256).bind fun t323 => ((impl_ShapeOf.f kj13 (t322 == 1) t323).bind fun bt324 => ((laws_at.f l0 2 2).bind fun t331 => ((laws_at.f l0 3 256).bind fun t332 => ((spec_ShapeOf.f (t331 == 1) t332).bind fun bt333 => (if (!(bt324.1 == bt333.1) || (!(bt324.2.1 == bt333.2.1) || (!(bt324.2.2.1 == bt333.2.2.1) || (!(bt324.2.2.2.1 == bt333.2.2.2.1) || (!(bt324.2.2.2.2.1 == bt333.2.2.2.2.1)))))) = true then (laws_FnNames.j3 kj13 l0 (wrap64 (1 + t308)) t309 t310 x8_13 bt315.1 bt315.2.1 bt315.2.2 bt318.1 bt318.2 bt320.1 bt324.2.2.2.2.2 true bt324.1 bt324.2.1 bt324.2.2.1 bt324.2.2.2.1 bt324.2.2.2.2.1) else (laws_FnNames.j3 kj13 l0 (wrap64 (1 + t308)) t309 t310 x8_13 bt315.1 bt315.2.1 bt315.2.2 bt318.1 bt318.2 bt320.1 bt324.2.2.2.2.2 (bt324.2.2.2.2.2 != bt333.2.2.2.2.2) bt324.1 bt324.2.1 bt324.2.2.1 bt324.2.2.2.1 bt324.2.2.2.2.1))))))))))) = some true := H
                have A17 := Aside0.mk A170
                clear A170
                replace H := Option.bind_eq_some_iff.mp H
                obtain ⟨⟨t315, t316, t317⟩, A180, H⟩ := H
                replace H : ((impl_ClassOf.f kj13 (wrap64 (1 + t308))).bind fun bt318 => ((spec_ClassOf.f kj13 (wrap64 (1 + t308))).bind fun bt320 => ((laws_at.f l0 2 2).bind fun t322 => ((laws_at.f l0 3 256).bind fun t323 => ((impl_ShapeOf.f kj13 (t322 == 1) t323).bind fun bt324 => ((laws_at.f l0 2 2).bind fun t331 => ((laws_at.f l0 3 256).bind fun t332 => ((spec_ShapeOf.f (t331 == 1) t332).bind fun bt333 => (if (!(bt324.1 == bt333.1) || (!(bt324.2.1 == bt333.2.1) || (!(bt324.2.2.1 == bt333.2.2.1) || (!(bt324.2.2.2.1 == bt333.2.2.2.1) || (!(bt324.2.2.2.2.1 == bt333.2.2.2.2.1)))))) = true then (laws_FnNames.j3 kj13 l0 (wrap64 (1 + t308)) t309 t310 x8_13 t315 t316 t317 bt318.1 bt318.2 bt320.1 bt324.2.2.2.2.2 true bt324.1 bt324.2.1 bt324.2.2.1 bt324.2.2.2.1 bt324.2.2.2.2.1) else (laws_FnNames.j3 kj13 l0 (wrap64 (1 + t308)) t309 t310 x8_13 t315 t316 t317 bt318.1 bt318.2 bt320.1 bt324.2.2.2.2.2 (bt324.2.2.2.2.2 != bt333.2.2.2.2.2) bt324.1 bt324.2.1 bt324.2.2.1 bt324.2.2.2.1 bt324.2.2.2.2.1)))))))))) = some true := H
                have A18 := Aside0.mk A180
                clear A180
                replace H := Option.bind_eq_some_iff.mp H
                obtain ⟨⟨t318, t319⟩, A190, H⟩ := H
                replace H : ((spec_ClassOf.f kj13 (wrap64 (1 + t308))).bind fun bt320 => ((laws_at.f l0 2 2).bind fun t322 => ((laws_at.f l0 3 256).bind fun t323 => ((impl_ShapeOf.f kj13 (t322 == 1) t323).bind fun bt324 => ((laws_at.f l0 2 2).bind fun t331 => ((laws_at.f l0 3 256).bind fun t332 => ((spec_ShapeOf.f (t331 == 1) t332).bind fun bt333 => (if (!(bt324.1 == bt333.1) || (!(bt324.2.1 == bt333.2.1) || (!(bt324.2.2.1 == bt333.2.2.1) || (!(bt324.2.2.2.1 == bt333.2.2.2.1) || (!(bt324.2.2.2.2.1 == bt333.2.2.2.2.1)))))) = true then (laws_FnNames.j3 kj13 l0 (wrap64 (1 + t308)) t309 t310 x8_13 t315 t316 t317 t318 t319 bt320.1 bt324.2.2.2.2.2 true bt324.1 bt324.2.1 bt324.2.2.1 bt324.2.2.2.1 bt324.2.2.2.2.1) else (laws_FnNames.j3 kj13 l0 (wrap64 (1 + t308)) t309 t310 x8_13 t315 t316 t317 t318 t319 bt320.1 bt324.2.2.2.2.2 (bt324.2.2.2.2.2 != bt333.2.2.2.2.2) bt324.1 bt324.2.1 bt324.2.2.1 bt324.2.2.2.1 bt324.2.2.2.2.1))))))))) = some true := H
                have A19 := Aside0.mk A190
                clear A190
                replace H := Option.bind_eq_some_iff.mp H
                obtain ⟨⟨t320, t321⟩, A200, H⟩ := H
                replace H : ((laws_at.f l0 2 2).bind fun t322 => ((laws_at.f l0 3 256).bind fun t323 => ((impl_ShapeOf.f kj13 (t322 == 1) t323).bind fun bt324 => ((laws_at.f l0 2 2).bind fun t331 => ((laws_at.f l0 3 256).bind fun t332 => ((spec_ShapeOf.f (t331 == 1) t332).bind fun bt333 => (if (!(bt324.1 == bt333.1) || (!(bt324.2.1 == bt333.2.1) || (!(bt324.2.2.1 == bt333.2.2.1) || (!(bt324.2.2.2.1 == bt333.2.2.2.1) || (!(bt324.2.2.2.2.1 == bt333.2.2.2.2.1)))))) = true then (laws_FnNames.j3 kj13 l0 (wrap64 (1 + t308)) t309 t310 x8_13 t315 t316 t317 t318 t319 t320 bt324.2.2.2.2.2 true bt324.1 bt324.2.1 bt324.2.2.1 bt324.2.2.2.1 bt324.2.2.2.2.1) else (laws_FnNames.j3 kj13 l0 (wrap64 (1 + t308)) t309 t310 x8_13 t315 t316 t317 t318 t319 t320 bt324.2.2.2.2.2 (bt324.2.2.2.2.2 != bt333.2.2.2.2.2) bt324.1 bt324.2.1 bt324.2.2.1 bt324.2.2.2.1 bt324.2.2.2.2.1)))))))) = some true := H
                have A20 := Aside0.mk A200
                clear A200
                replace H := Option.bind_eq_some_iff.mp H
                obtain ⟨t322, A210, H⟩ := H
                replace H : ((laws_at.f l0 3 256).bind fun t323 => ((impl_ShapeOf.f kj13 (t322 == 1) t323).bind fun bt324 => ((laws_at.f l0 2 2).bind fun t331 => ((laws_at.f l0 3 256).bind fun t332 => ((spec_ShapeOf.f (t331 == 1) t332).bind fun bt333 => (if (!(bt324.1 == bt333.1) || (!(bt324.2.1 == bt333.2.1) || (!(bt324.2.2.1 == bt333.2.2.1) || (!(bt324.2.2.2.1 == bt333.2.2.2.1) || (!(bt324.2.2.2.2.1 == bt333.2.2.2.2.1)))))) = true then (laws_FnNames.j3 kj13 l0 (wrap64 (1 + t308)) t309 t310 x8_13 t315 t316 t317 t318 t319 t320 bt324.2.2.2.2.2 true bt324.1 bt324.2.1 bt324.2.2.1 bt324.2.2.2.1 bt324.2.2.2.2.1) else (laws_FnNames.j3 kj13 l0 (wrap64 (1 + t308)) t309 t310 x8_13 t315 t316 t317 t318 t319 t320 bt324.2.2.2.2.2 (bt324.2.2.2.2.2 != bt333.2.2.2.2.2) bt324.1 bt324.2.1 bt324.2.2.1 bt324.2.2.2.1 bt324.2.2.2.2.1))))))) = some true := H
                have A21 := Aside0.mk A210
                clear A210
                replace H := Option.bind_eq_some_iff.mp H
                obtain ⟨t323, A220, H⟩ := H
                replace H : ((impl_ShapeOf.f kj13 (t322 == 1) t323).bind fun bt324 => ((laws_at.f l0 2 2).bind fun t331 => ((laws_at.f l0 3 256).bind fun t332 => ((spec_ShapeOf.f (t331 == 1) t332).bind fun bt333 => (if (!(bt324.1 == bt333.1) || (!(bt324.2.1 == bt333.2.1) || (!(bt324.2.2.1 == bt333.2.2.1) || (!(bt324.2.2.2.1 == bt333.2.2.2.1) || (!(bt324.2.2.2.2.1 == bt333.2.2.2.2.1)))))) = true then (laws_FnNames.j3 kj13 l0 (wrap64 (1 + t308)) t309 t310 x8_13 t315 t316 t317 t318 t319 t320 bt324.2.2.2.2.2 true bt324.1 bt324.2.1 bt324.2.2.1 bt324.2.2.2.1 bt324.2.2.2.2.1) else (laws_FnNames.j3 kj13 l0 (wrap64 (1 + t308)) t309 t310 x8_13 t315 t316 t317 t318 t319 t320 bt324.2.2.2.2.2 (bt324.2.2.2.2.2 != bt333.2.2.2.2.2) bt324.1 bt324.2.1 bt324.2.2.1 bt324.2.2.2.1 bt324.2.2.2.2.1)))))) = some true := H
                have A22 := Aside0.mk A220
                clear A220
                replace H := Option.bind_eq_some_iff.mp H
                obtain ⟨⟨t324, t325, t326, t327, t328, t329⟩, A230, H⟩ := H
                replace H : ((laws_at.f l0 2 2).bind fun t331 => ((laws_at.f l0 3 256).bind fun t332 => ((spec_ShapeOf.f (t331 == 1) t332).bind fun bt333 => (if (!(t324 == bt333.1) || (!(t325 == bt333.2.1) || (!(t326 == bt333.2.2.1) || (!(t327 == bt333.2.2.2.1) || (!(t328 == bt333.2.2.2.2.1)))))) = true then (laws_FnNames.j3 kj13 l0 (wrap64 (1 + t308)) t309 t310 x8_13 t315 t316 t317 t318 t319 t320 t329 true t324 t325 t326 t327 t328) else (laws_FnNames.j3 kj13 l0 (wrap64 (1 + t308)) t309 t310 x8_13 t315 t316 t317 t318 t319 t320 t329 (t329 != bt333.2.2.2.2.2) t324 t325 t326 t327 t328))))) = some true := H
                have A23 := Aside0.mk A230
                clear A230
                replace H := Option.bind_eq_some_iff.mp H
                obtain ⟨t331, A240, H⟩ := H
                replace H : ((laws_at.f l0 3 256).bind fun t332 => ((spec_ShapeOf.f (t331 == 1) t332).bind fun bt333 => (if (!(t324 == bt333.1) || (!(t325 == bt333.2.1) || (!(t326 == bt333.2.2.1) || (!(t327 == bt333.2.2.2.1) || (!(t328 == bt333.2.2.2.2.1)))))) = true then (laws_FnNames.j3 kj13 l0 (wrap64 (1 + t308)) t309 t310 x8_13 t315 t316 t317 t318 t319 t320 t329 true t324 t325 t326 t327 t328) else (laws_FnNames.j3 kj13 l0 (wrap64 (1 + t308)) t309 t310 x8_13 t315 t316 t317 t318 t319 t320 t329 (t329 != bt333.2.2.2.2.2) t324 t325 t326 t327 t328)))) = some true := H
                have A24 := Aside0.mk A240
                clear A240
                replace H := Option.bind_eq_some_iff.mp H
                obtain ⟨t332, A250, H⟩ := H
                replace H : ((spec_ShapeOf.f (t331 == 1) t332).bind fun bt333 => (if (!(t324 == bt333.1) || (!(t325 == bt333.2.1) || (!(t326 == bt333.2.2.1) || (!(t327 == bt333.2.2.2.1) || (!(t328 == bt333.2.2.2.2.1)))))) = true then (laws_FnNames.j3 kj13 l0 (wrap64 (1 + t308)) t309 t310 x8_13 t315 t316 t317 t318 t319 t320 t329 true t324 t325 t326 t327 t328) else (laws_FnNames.j3 kj13 l0 (wrap64 (1 + t308)) t309 t310 x8_13 t315 t316 t317 t318 t319 t320 t329 (t329 != bt333.2.2.2.2.2) t324 t325 t326 t327 t328))) = some true := H
                have A25 := Aside0.mk A250
                clear A250
                replace H := Option.bind_eq_some_iff.mp H
                obtain ⟨⟨t333, t334, t335, t336, t337, t338⟩, A260, H⟩ := H
                replace H : (if (!(t324 == t333) || (!(t325 == t334) || (!(t326 == t335) || (!(t327 == t336) || (!(t328 == t337)))))) = true then (laws_FnNames.j3 kj13 l0 (wrap64 (1 + t308)) t309 t310 x8_13 t315 t316 t317 t318 t319 t320 t329 true t324 t325 t326 t327 t328) else (laws_FnNames.j3 kj13 l0 (wrap64 (1 + t308)) t309 t310 x8_13 t315 t316 t317 t318 t319 t320 t329 (t329 != t338) t324 t325 t326 t327 t328)) = some true := H
                have A26 := Aside0.mk A260
                clear A260
                have HC27 := Aside0.mk H
                clear H
                go_upto_region 14 with (first | ((with_reducible refine gate_callee (f := 7) rfl ?_); refine goesL_ (some 54) rfl rfl Tryd.func7 (by kernel_rfl) rfl #[.int .i64 x8_13, .int .i64 t310] rfl (by (try simp only [List.map_toArray, List.map_cons, List.map_nil]); first | done | rfl | (simp only [List.length_drop, List.length_take]; rfl)) ?_; (with_reducible refine (impl_RegName.calls kj13 x8_13 t310 t314 _ A17.out).mono ?_); rintro e w28 ⟨rfl, hb⟩; refine ⟨_, rfl, ?_⟩; have n0_ := Aside0.mk (below_step (by repeat (first | (with_reducible first | exact HB.out | apply below_alloc | apply pw_below_drewN | apply below_drew1) | exact HB.out)) hb); clear HB; have HB := n0_; clear n0_; (try clear hb); (try clear hb2); (try clear hk); (try clear hi)) | ((with_reducible refine gate_callee (f := 9) rfl ?_); refine goesL_ (some 55) rfl rfl Tryd.func9 (by kernel_rfl) rfl #[.string t314] rfl (by (try simp only [List.map_toArray, List.map_cons, List.map_nil]); first | done | rfl | (simp only [List.length_drop, List.length_take]; rfl)) ?_; (with_reducible refine (impl_RegOf.calls kj13 t314 t315 t316 t317 _ A18.out).mono ?_); rintro e w29 ⟨rfl, hb⟩; refine ⟨_, rfl, ?_⟩; have n0_ := Aside0.mk (below_step (by repeat (first | (with_reducible first | exact HB.out | apply below_alloc | apply pw_below_drewN | apply below_drew1) | exact HB.out)) hb); clear HB; have HB := n0_; clear n0_; (try clear hb); (try clear hb2); (try clear hk); (try clear hi)) | ((with_reducible refine gate_callee (f := 12) rfl ?_); refine goesL_ (some 61) rfl rfl Tryd.func12 (by kernel_rfl) rfl #[.int .i64 (wrap64 (1 + t308))] rfl (by (try simp only [List.map_toArray, List.map_cons, List.map_nil]); first | done | rfl | (simp only [List.length_drop, List.length_take]; rfl)) ?_; (with_reducible refine (impl_ClassOf.calls kj13 (wrap64 (1 + t308)) t318 t319 _ A19.out).mono ?_); rintro e w' ⟨rfl, ⟨nd, rfl⟩⟩; refine ⟨_, rfl, ?_⟩; (try (rw [drewN_self w29]; generalize hq_ : World.drewN w29 _ = w29; have n0_ : Aside0 (Below w.heap.size w w29) := ⟨by rw [← hq_]; exact (by repeat (first | (with_reducible first | exact HB.out | apply below_alloc | apply pw_below_drewN | apply below_drew1) | exact HB.out))⟩; clear HB hq_; have HB := n0_; clear n0_))) | ((with_reducible refine gate_callee (f := 13) rfl ?_); refine goesL_ (some 66) rfl rfl Tryd.func13 (by kernel_rfl) rfl #[.int .i64 (wrap64 (1 + t308))] rfl (by (try simp only [List.map_toArray, List.map_cons, List.map_nil]); first | done | rfl | (simp only [List.length_drop, List.length_take]; rfl)) ?_; (with_reducible refine (spec_ClassOf.calls kj13 (wrap64 (1 + t308)) t320 t321 _ A20.out).mono ?_); rintro e w' ⟨rfl, ⟨nd, rfl⟩⟩; refine ⟨_, rfl, ?_⟩; (try (rw [drewN_self w29]; generalize hq_ : World.drewN w29 _ = w29; have n0_ : Aside0 (Below w.heap.size w w29) := ⟨by rw [← hq_]; exact (by repeat (first | (with_reducible first | exact HB.out | apply below_alloc | apply pw_below_drewN | apply below_drew1) | exact HB.out))⟩; clear HB hq_; have HB := n0_; clear n0_))) | ((with_reducible refine gate_callee (f := 10) rfl ?_); refine goesL_ (some 71) rfl rfl Tryd.func10 (by kernel_rfl) rfl #[.slice A0 l0.length c0, .int .i64 2, .int .i64 2] rfl (by (try simp only [List.map_toArray, List.map_cons, List.map_nil]); first | done | rfl | (simp only [List.length_drop, List.length_take]; rfl)) ?_; (with_reducible refine (laws_at.calls _ _ l0 2 2 t322 _ ?side1 ?side2 A21.out).mono ?_); (case side1 => repeat (first | exact (Kd.C_below HR0.out HB.out) | (with_reducible refine Kd.C_alloc ?_ _) | (with_reducible refine Kd.C_drewN ?_ _) | (with_reducible refine Kd.C_drew ?_))); (case side2 => exact HC0.out); rintro e w' ⟨rfl, ⟨nd, rfl⟩⟩; refine ⟨_, rfl, ?_⟩; (try (rw [drewN_self w29]; generalize hq_ : World.drewN w29 _ = w29; have n0_ : Aside0 (Below w.heap.size w w29) := ⟨by rw [← hq_]; exact (by repeat (first | (with_reducible first | exact HB.out | apply below_alloc | apply pw_below_drewN | apply below_drew1) | exact HB.out))⟩; clear HB hq_; have HB := n0_; clear n0_))) | ((with_reducible refine gate_callee (f := 10) rfl ?_); refine goesL_ (some 74) rfl rfl Tryd.func10 (by kernel_rfl) rfl #[.slice A0 l0.length c0, .int .i64 3, .int .i64 256] rfl (by (try simp only [List.map_toArray, List.map_cons, List.map_nil]); first | done | rfl | (simp only [List.length_drop, List.length_take]; rfl)) ?_; (with_reducible refine (laws_at.calls _ _ l0 3 256 t323 _ ?side1 ?side2 A22.out).mono ?_); (case side1 => repeat (first | exact (Kd.C_below HR0.out HB.out) | (with_reducible refine Kd.C_alloc ?_ _) | (with_reducible refine Kd.C_drewN ?_ _) | (with_reducible refine Kd.C_drew ?_))); (case side2 => exact HC0.out); rintro e w' ⟨rfl, ⟨nd, rfl⟩⟩; refine ⟨_, rfl, ?_⟩; (try (rw [drewN_self w29]; generalize hq_ : World.drewN w29 _ = w29; have n0_ : Aside0 (Below w.heap.size w w29) := ⟨by rw [← hq_]; exact (by repeat (first | (with_reducible first | exact HB.out | apply below_alloc | apply pw_below_drewN | apply below_drew1) | exact HB.out))⟩; clear HB hq_; have HB := n0_; clear n0_))) | ((with_reducible refine gate_callee (f := 14) rfl ?_); refine goesL_ (some 75) rfl rfl Tryd.func14 (by kernel_rfl) rfl #[.bool (t322 == 1), .int .i64 t323] rfl (by (try simp only [List.map_toArray, List.map_cons, List.map_nil]); first | done | rfl | (simp only [List.length_drop, List.length_take]; rfl)) ?_; (with_reducible refine (impl_ShapeOf.calls kj13 (t322 == 1) t323 t324 t325 t326 t327 t328 t329 _ A23.out).mono ?_); rintro e w30 ⟨rfl, hb⟩; refine ⟨_, rfl, ?_⟩; have n0_ := Aside0.mk (below_step (by repeat (first | (with_reducible first | exact HB.out | apply below_alloc | apply pw_below_drewN | apply below_drew1) | exact HB.out)) hb); clear HB; have HB := n0_; clear n0_; (try clear hb); (try clear hb2); (try clear hk); (try clear hi)) | ((with_reducible refine gate_dst (N := 16) rfl ?_); (try (refine gate_guard (by rfl) ?_; dsimp only)); refine box_event ?hg (N := 16) ?hd (cs := #[.int .i64 0, .int .i64 0, .int .i64 0, .bool false, .int .i64 0]) (t := 33) ?hr ?_; (case hd => rfl); (case hg => rfl); (case hr => first | (go_simp; done) | (go_simp; rfl)); intro gb330 hg w31 hbox hb; have n0_ := Aside0.mk (below_step (by repeat (first | (with_reducible first | exact HB.out | apply below_alloc | apply pw_below_drewN | apply below_drew1) | exact HB.out)) hb); have n1_ := Aside0.mk (hbox); have n2_ := Aside0.mk ((by rw [hg]; exact (below_size (by repeat (first | (with_reducible first | exact HB.out | apply below_alloc | apply pw_below_drewN | apply below_drew1) | exact HB.out))) : w.heap.size ≤ gb330)); have n3_ := Aside0.mk ((by rw [hg]; exact (below_size (by repeat (first | (with_reducible first | exact HB.out | apply below_alloc | apply pw_below_drewN | apply below_drew1) | exact HB.out))) : w.heap.size ≤ gb330)); clear HB; have HB := n0_; have BK330 := n1_; have GW330 := n2_; have GE330 := n3_; clear n0_ n1_ n2_ n3_; clear hb hbox hg; have hcz32_0 : w31.cell? ⟨gb330, 0, none⟩ = some (.int .i64 0) := (blk_cell BK330.out 0).trans rfl; have hcz32_1 : w31.cell? ⟨gb330, 1, none⟩ = some (.int .i64 0) := (blk_cell BK330.out 1).trans rfl; have hcz32_2 : w31.cell? ⟨gb330, 2, none⟩ = some (.int .i64 0) := (blk_cell BK330.out 2).trans rfl; have hcz32_3 : w31.cell? ⟨gb330, 3, none⟩ = some (.bool false) := (blk_cell BK330.out 3).trans rfl; have hcz32_4 : w31.cell? ⟨gb330, 4, none⟩ = some (.int .i64 0) := (blk_cell BK330.out 4).trans rfl; have hfz32_0 := blk_frozen BK330.out 0; have hfz32_1 := blk_frozen BK330.out 1; have hfz32_2 := blk_frozen BK330.out 2; have hfz32_3 := blk_frozen BK330.out 3; have hfz32_4 := blk_frozen BK330.out 4) | ((with_reducible refine gate_callee (f := 10) rfl ?_); refine goesL_ (some 80) rfl rfl Tryd.func10 (by kernel_rfl) rfl #[.slice A0 l0.length c0, .int .i64 2, .int .i64 2] rfl (by (try simp only [List.map_toArray, List.map_cons, List.map_nil]); first | done | rfl | (simp only [List.length_drop, List.length_take]; rfl)) ?_; (with_reducible refine (laws_at.calls _ _ l0 2 2 t331 _ ?side1 ?side2 A24.out).mono ?_); (case side1 => exact Kd.C_below HR0.out (by repeat (first | (with_reducible first | exact HB.out | apply below_alloc | apply pw_below_drewN | apply below_drew1 | refine below_set ?_ GE330.out) | exact HB.out))); (case side2 => exact HC0.out); rintro e w' ⟨rfl, ⟨nd, rfl⟩⟩; refine ⟨_, rfl, ?_⟩) | ((with_reducible refine gate_callee (f := 10) rfl ?_); refine goesL_ (some 83) rfl rfl Tryd.func10 (by kernel_rfl) rfl #[.slice A0 l0.length c0, .int .i64 3, .int .i64 256] rfl (by (try simp only [List.map_toArray, List.map_cons, List.map_nil]); first | done | rfl | (simp only [List.length_drop, List.length_take]; rfl)) ?_; (with_reducible refine (laws_at.calls _ _ l0 3 256 t332 _ ?side1 ?side2 A25.out).mono ?_); (case side1 => exact Kd.C_below HR0.out (by repeat (first | (with_reducible first | exact HB.out | apply below_alloc | apply pw_below_drewN | apply below_drew1 | refine below_set ?_ GE330.out) | exact HB.out))); (case side2 => exact HC0.out); rintro e w' ⟨rfl, ⟨nd, rfl⟩⟩; refine ⟨_, rfl, ?_⟩) | ((with_reducible refine gate_callee (f := 15) rfl ?_); refine goesL_ (some 84) rfl rfl Tryd.func15 (by kernel_rfl) rfl #[.bool (t331 == 1), .int .i64 t332] rfl (by (try simp only [List.map_toArray, List.map_cons, List.map_nil]); first | done | rfl | (simp only [List.length_drop, List.length_take]; rfl)) ?_; (with_reducible refine (spec_ShapeOf.calls (t331 == 1) t332 t333 t334 t335 t336 t337 t338 _ A26.out).mono ?_); rintro e w33 ⟨rfl, hb⟩; refine ⟨_, rfl, ?_⟩; have n0_ := Aside0.mk (blk_below (g := gb330) (o := .cells #[.int .i64 t324, .int .i64 t325, .int .i64 t326, .bool t327, .int .i64 t328] 33 (0, 0)) (by (with_reducible repeat (first | refine blk_drewN ?_ _ | refine blk_drew ?_ | refine blk_alloc ?_ _)); refine blk_put (cs := #[.int .i64 t324, .int .i64 t325, .int .i64 t326, .bool t327, .int .i64 0]) ?_ 4 _ rfl; (with_reducible repeat (first | refine blk_drewN ?_ _ | refine blk_drew ?_ | refine blk_alloc ?_ _)); refine blk_put (cs := #[.int .i64 t324, .int .i64 t325, .int .i64 t326, .bool false, .int .i64 0]) ?_ 3 _ rfl; (with_reducible repeat (first | refine blk_drewN ?_ _ | refine blk_drew ?_ | refine blk_alloc ?_ _)); refine blk_put (cs := #[.int .i64 t324, .int .i64 t325, .int .i64 0, .bool false, .int .i64 0]) ?_ 2 _ rfl; (with_reducible repeat (first | refine blk_drewN ?_ _ | refine blk_drew ?_ | refine blk_alloc ?_ _)); refine blk_put (cs := #[.int .i64 t324, .int .i64 0, .int .i64 0, .bool false, .int .i64 0]) ?_ 1 _ rfl; (with_reducible repeat (first | refine blk_drewN ?_ _ | refine blk_drew ?_ | refine blk_alloc ?_ _)); refine blk_put (cs := #[.int .i64 0, .int .i64 0, .int .i64 0, .bool false, .int .i64 0]) ?_ 0 _ rfl; (with_reducible repeat (first | refine blk_drewN ?_ _ | refine blk_drew ?_ | refine blk_alloc ?_ _)); exact BK330.out) hb); have n1_ := Aside0.mk (below_step (by repeat (first | (with_reducible first | exact HB.out | apply below_alloc | apply pw_below_drewN | apply below_drew1 | refine below_set ?_ GE330.out) | exact HB.out)) hb); clear BK330; clear HB; have BK330 := n0_; have HB := n1_; clear n0_ n1_; (try clear hb); (try clear hb2); (try clear hk); (try clear hi)) | ((with_reducible refine gate_dst (N := 18) rfl ?_); (try (refine gate_guard (by rfl) ?_; dsimp only)); refine box_event ?hg (N := 18) ?hd (cs := #[.int .i64 0, .int .i64 0, .int .i64 0, .bool false, .int .i64 0]) (t := 33) ?hr ?_; (case hd => rfl); (case hg => rfl); (case hr => first | (go_simp; done) | (go_simp; rfl)); intro gb339 hg w34 hbox hb; have n0_ := Aside0.mk (blk_below (g := gb330) (o := .cells #[.int .i64 t324, .int .i64 t325, .int .i64 t326, .bool t327, .int .i64 t328] 33 (0, 0)) (by (with_reducible repeat (first | refine blk_drewN ?_ _ | refine blk_drew ?_ | refine blk_alloc ?_ _)); exact BK330.out) hb); have n1_ := Aside0.mk (below_step (by repeat (first | (with_reducible first | exact HB.out | apply below_alloc | apply pw_below_drewN | apply below_drew1 | refine below_set ?_ GE330.out) | exact HB.out)) hb); have n2_ := Aside0.mk (hbox); have n3_ := Aside0.mk ((by rw [hg]; exact (below_size (by repeat (first | (with_reducible first | exact HB.out | apply below_alloc | apply pw_below_drewN | apply below_drew1 | refine below_set ?_ GE330.out) | exact HB.out))) : w.heap.size ≤ gb339)); have n4_ := Aside0.mk ((by rw [hg]; exact (below_size (by repeat (first | (with_reducible first | exact HB.out | apply below_alloc | apply pw_below_drewN | apply below_drew1 | refine below_set ?_ GE330.out) | exact HB.out))) : w.heap.size ≤ gb339)); have n5_ := Aside0.mk ((by rw [hg]; exact Nat.ne_of_lt (blk_lt (g := gb330) (o := .cells #[.int .i64 t324, .int .i64 t325, .int .i64 t326, .bool t327, .int .i64 t328] 33 (0, 0)) (by (with_reducible repeat (first | refine blk_drewN ?_ _ | refine blk_drew ?_ | refine blk_alloc ?_ _)); exact BK330.out)) : gb330 ≠ gb339)); have n6_ := Aside0.mk ((by rw [hg]; exact Nat.ne_of_gt (blk_lt (g := gb330) (o := .cells #[.int .i64 t324, .int .i64 t325, .int .i64 t326, .bool t327, .int .i64 t328] 33 (0, 0)) (by (with_reducible repeat (first | refine blk_drewN ?_ _ | refine blk_drew ?_ | refine blk_alloc ?_ _)); exact BK330.out)) : gb339 ≠ gb330)); clear BK330; clear HB; have BK330 := n0_; have HB := n1_; have BK339 := n2_; have GW339 := n3_; have GE339 := n4_; have NB330_339 := n5_; have NB339_330 := n6_; clear n0_ n1_ n2_ n3_ n4_ n5_ n6_; clear hb hbox hg; have hnb35 := NB339_330.out; have hnc35 := NB330_339.out; have hcz36_0 : w34.cell? ⟨gb339, 0, none⟩ = some (.int .i64 0) := (blk_cell BK339.out 0).trans rfl; have hcz36_1 : w34.cell? ⟨gb339, 1, none⟩ = some (.int .i64 0) := (blk_cell BK339.out 1).trans rfl; have hcz36_2 : w34.cell? ⟨gb339, 2, none⟩ = some (.int .i64 0) := (blk_cell BK339.out 2).trans rfl; have hcz36_3 : w34.cell? ⟨gb339, 3, none⟩ = some (.bool false) := (blk_cell BK339.out 3).trans rfl; have hcz36_4 : w34.cell? ⟨gb339, 4, none⟩ = some (.int .i64 0) := (blk_cell BK339.out 4).trans rfl; have hfz36_0 := blk_frozen BK339.out 0; have hfz36_1 := blk_frozen BK339.out 1; have hfz36_2 := blk_frozen BK339.out 2; have hfz36_3 := blk_frozen BK339.out 3; have hfz36_4 := blk_frozen BK339.out 4))
                (try simp only [Act.put, List.setIfInBounds_toArray, List.set_cons_zero, List.set_cons_succ])
                go_cut [94] (fun v94 wc => ∃ (kq : Nat) (x94_26 : Bool), v94 = .bool x94_26 ∧ Aside0 (laws_FnNames.j3 kq l0 (wrap64 (1 + t308)) t309 t310 x8_13 t315 t316 t317 t318 t319 t320 t329 x94_26 t324 t325 t326 t327 t328 = some true) ∧ Aside0 (kq ≤ kj13) ∧ Aside0 (wc.heap[gb330]? = some (.cells #[.int .i64 t324, .int .i64 t325, .int .i64 t326, .bool t327, .int .i64 t328] 33 (0, 0))) ∧ Aside0 (wc.heap[gb339]? = some (.cells #[.int .i64 t333, .int .i64 t334, .int .i64 t335, .bool t336, .int .i64 t337] 33 (0, 0))) ∧ Aside0 (Below w.heap.size w wc))
                case first =>
                  have H := HC27.out
                  clear HC27
                  by_cases c37 : (!(t324 == t333) || (!(t325 == t334) || (!(t326 == t335) || (!(t327 == t336) || (!(t328 == t337)))))) = true
                  · rw [if_pos c37] at H
                    have c37b0 : (!(t324 == t333) || (!(t325 == t334) || (!(t326 == t335) || (!(t327 == t336) || (!(t328 == t337)))))) = true := c37
                    clear c37
                    (first | rw [c37b0] | (simp only [i64_w, i32_w]; rw [c37b0]) | skip)
                    have H' := Aside0.mk H
                    clear H
                    have hnb38 := NB330_339.out
                    have hnc38 := NB339_330.out
                    have hcz39_0 : w34.cell? ⟨gb330, 0, none⟩ = some (.int .i64 t324) := (blk_cell BK330.out 0).trans rfl
                    have hcz39_1 : w34.cell? ⟨gb330, 1, none⟩ = some (.int .i64 t325) := (blk_cell BK330.out 1).trans rfl
                    have hcz39_2 : w34.cell? ⟨gb330, 2, none⟩ = some (.int .i64 t326) := (blk_cell BK330.out 2).trans rfl
                    have hcz39_3 : w34.cell? ⟨gb330, 3, none⟩ = some (.bool t327) := (blk_cell BK330.out 3).trans rfl
                    have hcz39_4 : w34.cell? ⟨gb330, 4, none⟩ = some (.int .i64 t328) := (blk_cell BK330.out 4).trans rfl
                    have hfz39_0 := blk_frozen BK330.out 0
                    have hfz39_1 := blk_frozen BK330.out 1
                    have hfz39_2 := blk_frozen BK330.out 2
                    have hfz39_3 := blk_frozen BK330.out 3
                    have hfz39_4 := blk_frozen BK330.out 4
                    have hcz40_0 : w34.cell? ⟨gb339, 0, none⟩ = some (.int .i64 0) := (blk_cell BK339.out 0).trans rfl
                    have hcz40_1 : w34.cell? ⟨gb339, 1, none⟩ = some (.int .i64 0) := (blk_cell BK339.out 1).trans rfl
                    have hcz40_2 : w34.cell? ⟨gb339, 2, none⟩ = some (.int .i64 0) := (blk_cell BK339.out 2).trans rfl
                    have hcz40_3 : w34.cell? ⟨gb339, 3, none⟩ = some (.bool false) := (blk_cell BK339.out 3).trans rfl
                    have hcz40_4 : w34.cell? ⟨gb339, 4, none⟩ = some (.int .i64 0) := (blk_cell BK339.out 4).trans rfl
                    have hfz40_0 := blk_frozen BK339.out 0
                    have hfz40_1 := blk_frozen BK339.out 1
                    have hfz40_2 := blk_frozen BK339.out 2
                    have hfz40_3 := blk_frozen BK339.out 3
                    have hfz40_4 := blk_frozen BK339.out 4
                    go_wp2
                    (first | go_meet | ((try simp only [c12b0] at *); (try simp only [c12b1] at *); (try simp only [c37b0] at *); go_meet))
                    case rel => (try rw [c12b0]); (try rw [c12b0] at H'); (try rw [c12b1]); (try rw [c12b1] at H'); (try rw [c37b0]); (try rw [c37b0] at H'); exact ⟨_, (true), (by first | rfl | (simp; done) | (simp [*]; done)), H', ⟨by have := HJ2.out; have := HJ9.out; have := HJ13.out; first | omega | exact Nat.le_refl _⟩, ⟨by (with_reducible repeat (first | refine blk_drewN ?_ _ | refine blk_drew ?_ | refine blk_alloc ?_ _)); refine blk_far ?_ NB330_339.out _; (with_reducible repeat (first | refine blk_drewN ?_ _ | refine blk_drew ?_ | refine blk_alloc ?_ _)); refine blk_far ?_ NB330_339.out _; (with_reducible repeat (first | refine blk_drewN ?_ _ | refine blk_drew ?_ | refine blk_alloc ?_ _)); refine blk_far ?_ NB330_339.out _; (with_reducible repeat (first | refine blk_drewN ?_ _ | refine blk_drew ?_ | refine blk_alloc ?_ _)); refine blk_far ?_ NB330_339.out _; (with_reducible repeat (first | refine blk_drewN ?_ _ | refine blk_drew ?_ | refine blk_alloc ?_ _)); refine blk_far ?_ NB330_339.out _; (with_reducible repeat (first | refine blk_drewN ?_ _ | refine blk_drew ?_ | refine blk_alloc ?_ _)); exact BK330.out⟩, ⟨by (with_reducible repeat (first | refine blk_drewN ?_ _ | refine blk_drew ?_ | refine blk_alloc ?_ _)); refine blk_put (cs := #[.int .i64 t333, .int .i64 t334, .int .i64 t335, .bool t336, .int .i64 0]) ?_ 4 _ rfl; (with_reducible repeat (first | refine blk_drewN ?_ _ | refine blk_drew ?_ | refine blk_alloc ?_ _)); refine blk_put (cs := #[.int .i64 t333, .int .i64 t334, .int .i64 t335, .bool false, .int .i64 0]) ?_ 3 _ rfl; (with_reducible repeat (first | refine blk_drewN ?_ _ | refine blk_drew ?_ | refine blk_alloc ?_ _)); refine blk_put (cs := #[.int .i64 t333, .int .i64 t334, .int .i64 0, .bool false, .int .i64 0]) ?_ 2 _ rfl; (with_reducible repeat (first | refine blk_drewN ?_ _ | refine blk_drew ?_ | refine blk_alloc ?_ _)); refine blk_put (cs := #[.int .i64 t333, .int .i64 0, .int .i64 0, .bool false, .int .i64 0]) ?_ 1 _ rfl; (with_reducible repeat (first | refine blk_drewN ?_ _ | refine blk_drew ?_ | refine blk_alloc ?_ _)); refine blk_put (cs := #[.int .i64 0, .int .i64 0, .int .i64 0, .bool false, .int .i64 0]) ?_ 0 _ rfl; (with_reducible repeat (first | refine blk_drewN ?_ _ | refine blk_drew ?_ | refine blk_alloc ?_ _)); exact BK339.out⟩, ⟨by repeat (first | (with_reducible first | exact HB.out | apply below_alloc | apply pw_below_drewN | apply below_drew1 | refine below_set ?_ GE330.out | refine below_set ?_ GE339.out) | exact HB.out)⟩⟩
                  · rw [if_neg c37] at H
                    have c37b0 : (!(t324 == t333) || (!(t325 == t334) || (!(t326 == t335) || (!(t327 == t336) || (!(t328 == t337)))))) = false := by simpa using c37
                    clear c37
                    (first | rw [c37b0] | (simp only [i64_w, i32_w]; rw [c37b0]) | skip)
                    have H' := Aside0.mk H
                    clear H
                    have hnb41 := NB330_339.out
                    have hnc41 := NB339_330.out
                    have hcz42_0 : w34.cell? ⟨gb330, 0, none⟩ = some (.int .i64 t324) := (blk_cell BK330.out 0).trans rfl
                    have hcz42_1 : w34.cell? ⟨gb330, 1, none⟩ = some (.int .i64 t325) := (blk_cell BK330.out 1).trans rfl
                    have hcz42_2 : w34.cell? ⟨gb330, 2, none⟩ = some (.int .i64 t326) := (blk_cell BK330.out 2).trans rfl
                    have hcz42_3 : w34.cell? ⟨gb330, 3, none⟩ = some (.bool t327) := (blk_cell BK330.out 3).trans rfl
                    have hcz42_4 : w34.cell? ⟨gb330, 4, none⟩ = some (.int .i64 t328) := (blk_cell BK330.out 4).trans rfl
                    have hfz42_0 := blk_frozen BK330.out 0
                    have hfz42_1 := blk_frozen BK330.out 1
                    have hfz42_2 := blk_frozen BK330.out 2
                    have hfz42_3 := blk_frozen BK330.out 3
                    have hfz42_4 := blk_frozen BK330.out 4
                    have hcz43_0 : w34.cell? ⟨gb339, 0, none⟩ = some (.int .i64 0) := (blk_cell BK339.out 0).trans rfl
                    have hcz43_1 : w34.cell? ⟨gb339, 1, none⟩ = some (.int .i64 0) := (blk_cell BK339.out 1).trans rfl
                    have hcz43_2 : w34.cell? ⟨gb339, 2, none⟩ = some (.int .i64 0) := (blk_cell BK339.out 2).trans rfl
                    have hcz43_3 : w34.cell? ⟨gb339, 3, none⟩ = some (.bool false) := (blk_cell BK339.out 3).trans rfl
                    have hcz43_4 : w34.cell? ⟨gb339, 4, none⟩ = some (.int .i64 0) := (blk_cell BK339.out 4).trans rfl
                    have hfz43_0 := blk_frozen BK339.out 0
                    have hfz43_1 := blk_frozen BK339.out 1
                    have hfz43_2 := blk_frozen BK339.out 2
                    have hfz43_3 := blk_frozen BK339.out 3
                    have hfz43_4 := blk_frozen BK339.out 4
                    go_wp2
                    (first | go_meet | ((try simp only [c12b0] at *); (try simp only [c12b1] at *); (try simp only [c37b0] at *); go_meet))
                    case rel => (try rw [c12b0]); (try rw [c12b0] at H'); (try rw [c12b1]); (try rw [c12b1] at H'); (try rw [c37b0]); (try rw [c37b0] at H'); exact ⟨_, ((t329 != t338)), (by first | rfl | (simp; done) | (simp [*]; done)), H', ⟨by have := HJ2.out; have := HJ9.out; have := HJ13.out; first | omega | exact Nat.le_refl _⟩, ⟨by (with_reducible repeat (first | refine blk_drewN ?_ _ | refine blk_drew ?_ | refine blk_alloc ?_ _)); refine blk_far ?_ NB330_339.out _; (with_reducible repeat (first | refine blk_drewN ?_ _ | refine blk_drew ?_ | refine blk_alloc ?_ _)); refine blk_far ?_ NB330_339.out _; (with_reducible repeat (first | refine blk_drewN ?_ _ | refine blk_drew ?_ | refine blk_alloc ?_ _)); refine blk_far ?_ NB330_339.out _; (with_reducible repeat (first | refine blk_drewN ?_ _ | refine blk_drew ?_ | refine blk_alloc ?_ _)); refine blk_far ?_ NB330_339.out _; (with_reducible repeat (first | refine blk_drewN ?_ _ | refine blk_drew ?_ | refine blk_alloc ?_ _)); refine blk_far ?_ NB330_339.out _; (with_reducible repeat (first | refine blk_drewN ?_ _ | refine blk_drew ?_ | refine blk_alloc ?_ _)); exact BK330.out⟩, ⟨by (with_reducible repeat (first | refine blk_drewN ?_ _ | refine blk_drew ?_ | refine blk_alloc ?_ _)); refine blk_put (cs := #[.int .i64 t333, .int .i64 t334, .int .i64 t335, .bool t336, .int .i64 0]) ?_ 4 _ rfl; (with_reducible repeat (first | refine blk_drewN ?_ _ | refine blk_drew ?_ | refine blk_alloc ?_ _)); refine blk_put (cs := #[.int .i64 t333, .int .i64 t334, .int .i64 t335, .bool false, .int .i64 0]) ?_ 3 _ rfl; (with_reducible repeat (first | refine blk_drewN ?_ _ | refine blk_drew ?_ | refine blk_alloc ?_ _)); refine blk_put (cs := #[.int .i64 t333, .int .i64 t334, .int .i64 0, .bool false, .int .i64 0]) ?_ 2 _ rfl; (with_reducible repeat (first | refine blk_drewN ?_ _ | refine blk_drew ?_ | refine blk_alloc ?_ _)); refine blk_put (cs := #[.int .i64 t333, .int .i64 0, .int .i64 0, .bool false, .int .i64 0]) ?_ 1 _ rfl; (with_reducible repeat (first | refine blk_drewN ?_ _ | refine blk_drew ?_ | refine blk_alloc ?_ _)); refine blk_put (cs := #[.int .i64 0, .int .i64 0, .int .i64 0, .bool false, .int .i64 0]) ?_ 0 _ rfl; (with_reducible repeat (first | refine blk_drewN ?_ _ | refine blk_drew ?_ | refine blk_alloc ?_ _)); exact BK339.out⟩, ⟨by repeat (first | (with_reducible first | exact HB.out | apply below_alloc | apply pw_below_drewN | apply below_drew1 | refine below_set ?_ GE330.out | refine below_set ?_ GE339.out) | exact HB.out)⟩⟩
                case rest =>
                  clear HC27
                  try clear c1
                  try clear p2
                  try clear c3
                  try clear c4
                  try clear c4b0
                  try clear c4b1
                  try clear c5
                  try clear p6
                  try clear c7
                  try clear c9
                  try clear c10
                  try clear c11
                  try clear c12
                  try clear c12b0
                  try clear c12b1
                  try clear c13
                  try clear c14
                  try clear c15
                  try clear c35
                  try clear c37
                  try clear c37b0
                  try clear c38
                  try clear c41
                  try clear hcz32_0
                  try clear hcz32_1
                  try clear hcz32_2
                  try clear hcz32_3
                  try clear hcz32_4
                  try clear hcz36_0
                  try clear hcz36_1
                  try clear hcz36_2
                  try clear hcz36_3
                  try clear hcz36_4
                  try clear hcz39_0
                  try clear hcz39_1
                  try clear hcz39_2
                  try clear hcz39_3
                  try clear hcz39_4
                  try clear hcz40_0
                  try clear hcz40_1
                  try clear hcz40_2
                  try clear hcz40_3
                  try clear hcz40_4
                  try clear hcz42_0
                  try clear hcz42_1
                  try clear hcz42_2
                  try clear hcz42_3
                  try clear hcz42_4
                  try clear hcz43_0
                  try clear hcz43_1
                  try clear hcz43_2
                  try clear hcz43_3
                  try clear hcz43_4
                  try clear hfz32_0
                  try clear hfz32_1
                  try clear hfz32_2
                  try clear hfz32_3
                  try clear hfz32_4
                  try clear hfz36_0
                  try clear hfz36_1
                  try clear hfz36_2
                  try clear hfz36_3
                  try clear hfz36_4
                  try clear hfz39_0
                  try clear hfz39_1
                  try clear hfz39_2
                  try clear hfz39_3
                  try clear hfz39_4
                  try clear hfz40_0
                  try clear hfz40_1
                  try clear hfz40_2
                  try clear hfz40_3
                  try clear hfz40_4
                  try clear hfz42_0
                  try clear hfz42_1
                  try clear hfz42_2
                  try clear hfz42_3
                  try clear hfz42_4
                  try clear hfz43_0
                  try clear hfz43_1
                  try clear hfz43_2
                  try clear hfz43_3
                  try clear hfz43_4
                  try clear p2
                  try clear p6
                  obtain ⟨kq, x94_26, rfl, HA, HJ26, BK330, BK339, HB⟩ := hcut
                  cases kq with
                  | zero => exact absurd HA.out (by simp [laws_FnNames.j3])
                  | succ kj26 =>
                    have H := HA.out
                    clear HA
                    simp only [laws_FnNames.j3] at H
                    by_cases c44 : x94_26 = true
                    · subst c44
                      have H1 : (some false) = some true := by rw [if_pos rfl] at H; exact H
                      clear H
                      have H := H1
                      clear H1
                      exact absurd H (by decide)
                    · replace c44 := Bool.eq_false_iff.mpr c44
                      subst c44
                      have H1 : (if t329 = 0 then (laws_FnNames.j4 kj26 l0 (wrap64 (1 + t308)) t309 t310 x8_13 t315 t316 t317 t318 t319 t320 (decide (t326 > 0)) t324 t325 t326 t327 t328) else (laws_FnNames.j4 kj26 l0 (wrap64 (1 + t308)) t309 t310 x8_13 t315 t316 t317 t318 t319 t320 false t324 t325 t326 t327 t328)) = some true := by rw [if_neg (show ¬ (false = true) by decide)] at H; exact H
                      clear H
                      have H := H1
                      clear H1
                      have HC45 := Aside0.mk H
                      clear H
                      go_upto_region 16 with (fail)
                      go_cut [101] (fun v101 wc => ∃ (kq : Nat) (x101_44 : Bool), v101 = .bool x101_44 ∧ Aside0 (laws_FnNames.j4 kq l0 (wrap64 (1 + t308)) t309 t310 x8_13 t315 t316 t317 t318 t319 t320 x101_44 t324 t325 t326 t327 t328 = some true) ∧ Aside0 (kq ≤ kj26) ∧ Aside0 (wc.heap[gb330]? = some (.cells #[.int .i64 t324, .int .i64 t325, .int .i64 t326, .bool t327, .int .i64 t328] 33 (0, 0))) ∧ Aside0 (wc.heap[gb339]? = some (.cells #[.int .i64 t333, .int .i64 t334, .int .i64 t335, .bool t336, .int .i64 t337] 33 (0, 0))) ∧ Aside0 (Below w.heap.size w wc))
                      case first =>
                        have H := HC45.out
                        clear HC45
                        by_cases c46 : t329 = 0
                        · rw [if_pos c46] at H
                          have c46b0 : (t329 == 0) = true := beq_iff_eq.mpr c46
                          have c46b1 : (t329 != 0) = false := bne_eq_false_iff_eq.mpr c46
                          clear c46
                          (first | rw [c46b0] | (simp only [i64_w, i32_w]; rw [c46b0]) | skip)
                          have H' := Aside0.mk H
                          clear H
                          have hnb47 := NB330_339.out
                          have hnc47 := NB339_330.out
                          have hcz48_0 : wc.cell? ⟨gb330, 0, none⟩ = some (.int .i64 t324) := (blk_cell BK330.out 0).trans rfl
                          have hcz48_1 : wc.cell? ⟨gb330, 1, none⟩ = some (.int .i64 t325) := (blk_cell BK330.out 1).trans rfl
                          have hcz48_2 : wc.cell? ⟨gb330, 2, none⟩ = some (.int .i64 t326) := (blk_cell BK330.out 2).trans rfl
                          have hcz48_3 : wc.cell? ⟨gb330, 3, none⟩ = some (.bool t327) := (blk_cell BK330.out 3).trans rfl
                          have hcz48_4 : wc.cell? ⟨gb330, 4, none⟩ = some (.int .i64 t328) := (blk_cell BK330.out 4).trans rfl
                          have hfz48_0 := blk_frozen BK330.out 0
                          have hfz48_1 := blk_frozen BK330.out 1
                          have hfz48_2 := blk_frozen BK330.out 2
                          have hfz48_3 := blk_frozen BK330.out 3
                          have hfz48_4 := blk_frozen BK330.out 4
                          go_wp2
                          (first | go_meet | ((try simp only [c12b0] at *); (try simp only [c12b1] at *); (try simp only [c37b0] at *); (try simp only [c46b0] at *); (try simp only [c46b1] at *); go_meet))
                          case rel => (try rw [c12b0]); (try rw [c12b0] at H'); (try rw [c12b1]); (try rw [c12b1] at H'); (try rw [c37b0]); (try rw [c37b0] at H'); (try rw [c46b0]); (try rw [c46b0] at H'); (try rw [c46b1]); (try rw [c46b1] at H'); exact ⟨_, (decide (t326 > 0)), (by first | rfl | (simp; done) | (simp [*]; done)), H', ⟨by have := HJ2.out; have := HJ9.out; have := HJ13.out; have := HJ26.out; first | omega | exact Nat.le_refl _⟩, ⟨by (with_reducible repeat (first | refine blk_drewN ?_ _ | refine blk_drew ?_ | refine blk_alloc ?_ _)); exact BK330.out⟩, ⟨by (with_reducible repeat (first | refine blk_drewN ?_ _ | refine blk_drew ?_ | refine blk_alloc ?_ _)); exact BK339.out⟩, ⟨by repeat (first | (with_reducible first | exact HB.out | apply below_alloc | apply pw_below_drewN | apply below_drew1 | refine below_set ?_ GE330.out | refine below_set ?_ GE339.out) | exact HB.out)⟩⟩
                        · rw [if_neg c46] at H
                          have c46b0 : (t329 == 0) = false := beq_eq_false_iff_ne.mpr c46
                          have c46b1 : (t329 != 0) = true := bne_iff_ne.mpr c46
                          (first | rw [c46b0] | (simp only [i64_w, i32_w]; rw [c46b0]) | skip)
                          have H' := Aside0.mk H
                          clear H
                          go_wp2
                          (first | go_meet | ((try simp only [c12b0] at *); (try simp only [c12b1] at *); (try simp only [c37b0] at *); (try simp only [c46b0] at *); (try simp only [c46b1] at *); go_meet))
                          case rel => (try rw [c12b0]); (try rw [c12b0] at H'); (try rw [c12b1]); (try rw [c12b1] at H'); (try rw [c37b0]); (try rw [c37b0] at H'); (try rw [c46b0]); (try rw [c46b0] at H'); (try rw [c46b1]); (try rw [c46b1] at H'); exact ⟨_, (false), (by first | rfl | (simp; done) | (simp [*]; done)), H', ⟨by have := HJ2.out; have := HJ9.out; have := HJ13.out; have := HJ26.out; first | omega | exact Nat.le_refl _⟩, ⟨by (with_reducible repeat (first | refine blk_drewN ?_ _ | refine blk_drew ?_ | refine blk_alloc ?_ _)); exact BK330.out⟩, ⟨by (with_reducible repeat (first | refine blk_drewN ?_ _ | refine blk_drew ?_ | refine blk_alloc ?_ _)); exact BK339.out⟩, ⟨by repeat (first | (with_reducible first | exact HB.out | apply below_alloc | apply pw_below_drewN | apply below_drew1 | refine below_set ?_ GE330.out | refine below_set ?_ GE339.out) | exact HB.out)⟩⟩
                      case rest =>
                        clear HC45
                        try clear c1
                        try clear p2
                        try clear c3
                        try clear c4
                        try clear c4b0
                        try clear c4b1
                        try clear c5
                        try clear p6
                        try clear c7
                        try clear c9
                        try clear c10
                        try clear c11
                        try clear c12
                        try clear c12b0
                        try clear c12b1
                        try clear c13
                        try clear c14
                        try clear c15
                        try clear c35
                        try clear c37
                        try clear c37b0
                        try clear c38
                        try clear c41
                        try clear c44
                        try clear c46
                        try clear c46b0
                        try clear c46b1
                        try clear c47
                        try clear hcz32_0
                        try clear hcz32_1
                        try clear hcz32_2
                        try clear hcz32_3
                        try clear hcz32_4
                        try clear hcz36_0
                        try clear hcz36_1
                        try clear hcz36_2
                        try clear hcz36_3
                        try clear hcz36_4
                        try clear hcz39_0
                        try clear hcz39_1
                        try clear hcz39_2
                        try clear hcz39_3
                        try clear hcz39_4
                        try clear hcz40_0
                        try clear hcz40_1
                        try clear hcz40_2
                        try clear hcz40_3
                        try clear hcz40_4
                        try clear hcz42_0
                        try clear hcz42_1
                        try clear hcz42_2
                        try clear hcz42_3
                        try clear hcz42_4
                        try clear hcz43_0
                        try clear hcz43_1
                        try clear hcz43_2
                        try clear hcz43_3
                        try clear hcz43_4
                        try clear hcz48_0
                        try clear hcz48_1
                        try clear hcz48_2
                        try clear hcz48_3
                        try clear hcz48_4
                        try clear hfz32_0
                        try clear hfz32_1
                        try clear hfz32_2
                        try clear hfz32_3
                        try clear hfz32_4
                        try clear hfz36_0
                        try clear hfz36_1
                        try clear hfz36_2
                        try clear hfz36_3
                        try clear hfz36_4
                        try clear hfz39_0
                        try clear hfz39_1
                        try clear hfz39_2
                        try clear hfz39_3
                        try clear hfz39_4
                        try clear hfz40_0
                        try clear hfz40_1
                        try clear hfz40_2
                        try clear hfz40_3
                        try clear hfz40_4
                        try clear hfz42_0
                        try clear hfz42_1
                        try clear hfz42_2
                        try clear hfz42_3
                        try clear hfz42_4
                        try clear hfz43_0
                        try clear hfz43_1
                        try clear hfz43_2
                        try clear hfz43_3
                        try clear hfz43_4
                        try clear hfz48_0
                        try clear hfz48_1
                        try clear hfz48_2
                        try clear hfz48_3
                        try clear hfz48_4
                        try clear p2
                        try clear p6
                        obtain ⟨kq, x101_44, rfl, HA, HJ44, BK330, BK339, HB⟩ := hcut
                        cases kq with
                        | zero => exact absurd HA.out (by simp [laws_FnNames.j4])
                        | succ kj44 =>
                          have H := HA.out
                          clear HA
                          simp only [laws_FnNames.j4] at H
                          have HC49 := Aside0.mk H
                          clear H
                          go_upto_if 101 with (fail)
                          go_cut [] (fun wc => ∃ (kq : Nat), Aside0 (laws_FnNames.j5 kq (wrap64 (1 + t308)) t309 t310 x8_13 t315 t316 t317 t318 t319 t320 = some true) ∧ Aside0 (kq ≤ kj44) ∧ Aside0 (wc.heap[gb330]? = some (.cells #[.int .i64 t324, .int .i64 t325, .int .i64 t326, .bool t327, .int .i64 t328] 33 (0, 0))) ∧ Aside0 (wc.heap[gb339]? = some (.cells #[.int .i64 t333, .int .i64 t334, .int .i64 t335, .bool t336, .int .i64 t337] 33 (0, 0))) ∧ Aside0 (Below w.heap.size w wc))
                          case first =>
                            have H := HC49.out
                            clear HC49
                            by_cases c50 : x101_44 = true
                            · subst c50
                              have H1 : ((laws_at.f l0 4 8).bind fun t340 => ((impl_GroupOp.f kj44 t326 t340).bind fun bt341 => ((laws_at.f l0 4 8).bind fun t343 => ((spec_GroupOp.f kj44 t326 t343).bind fun bt344 => (if bt341.1 = bt344.1 then (if bt341.2 = bt344.2 then (laws_FnNames.j5 kj44 (wrap64 (1 + t308)) t309 t310 x8_13 t315 t316 t317 t318 t319 t320) else (some false)) else (some false)))))) = some true := by rw [if_pos rfl] at H; exact H
                              clear H
                              have H := H1
                              clear H1
                              replace H := Option.bind_eq_some_iff.mp H
                              obtain ⟨t340, A510, H⟩ := H
                              replace H : ((impl_GroupOp.f kj44 t326 t340).bind fun bt341 => ((laws_at.f l0 4 8).bind fun t343 => ((spec_GroupOp.f kj44 t326 t343).bind fun bt344 => (if bt341.1 = bt344.1 then (if bt341.2 = bt344.2 then (laws_FnNames.j5 kj44 (wrap64 (1 + t308)) t309 t310 x8_13 t315 t316 t317 t318 t319 t320) else (some false)) else (some false))))) = some true := H
                              have A51 := Aside0.mk A510
                              clear A510
                              replace H := Option.bind_eq_some_iff.mp H
                              obtain ⟨⟨t341, t342⟩, A520, H⟩ := H
                              replace H : ((laws_at.f l0 4 8).bind fun t343 => ((spec_GroupOp.f kj44 t326 t343).bind fun bt344 => (if t341 = bt344.1 then (if t342 = bt344.2 then (laws_FnNames.j5 kj44 (wrap64 (1 + t308)) t309 t310 x8_13 t315 t316 t317 t318 t319 t320) else (some false)) else (some false)))) = some true := H
                              have A52 := Aside0.mk A520
                              clear A520
                              replace H := Option.bind_eq_some_iff.mp H
                              obtain ⟨t343, A530, H⟩ := H
                              replace H : ((spec_GroupOp.f kj44 t326 t343).bind fun bt344 => (if t341 = bt344.1 then (if t342 = bt344.2 then (laws_FnNames.j5 kj44 (wrap64 (1 + t308)) t309 t310 x8_13 t315 t316 t317 t318 t319 t320) else (some false)) else (some false))) = some true := H
                              have A53 := Aside0.mk A530
                              clear A530
                              replace H := Option.bind_eq_some_iff.mp H
                              obtain ⟨⟨t344, t345⟩, A540, H⟩ := H
                              replace H : (if t341 = t344 then (if t342 = t345 then (laws_FnNames.j5 kj44 (wrap64 (1 + t308)) t309 t310 x8_13 t315 t316 t317 t318 t319 t320) else (some false)) else (some false)) = some true := H
                              have A54 := Aside0.mk A540
                              clear A540
                              by_cases c55 : t341 = t344
                              · rw [if_pos c55] at H
                                have c55b0 : (t341 == t344) = true := beq_iff_eq.mpr c55
                                have c55b1 : (t341 != t344) = false := bne_eq_false_iff_eq.mpr c55
                                clear c55
                                (first | rw [c55b0] | (simp only [i64_w, i32_w]; rw [c55b0]) | skip)
                                by_cases c56 : t342 = t345
                                · rw [if_pos c56] at H
                                  have c56b0 : (t342 == t345) = true := beq_iff_eq.mpr c56
                                  have c56b1 : (t342 != t345) = false := bne_eq_false_iff_eq.mpr c56
                                  clear c56
                                  have H' := Aside0.mk H
                                  clear H
                                  try go_wp2
                                  have n0_ := Aside0.mk (blk_drew BK330.out)
                                  have n1_ := Aside0.mk (blk_drew BK339.out)
                                  have n2_ := Aside0.mk (below_drew1 HB.out)
                                  clear BK330
                                  clear BK339
                                  clear HB
                                  have BK330 := n0_
                                  have BK339 := n1_
                                  have HB := n2_
                                  clear n0_ n1_ n2_
                                  refine start_ (n := 10) (S := fun w' => w'.cell? ⟨gb330, 0, none⟩ = some (.int .i64 t324) ∧ w'.cell? ⟨gb330, 1, none⟩ = some (.int .i64 t325) ∧ w'.cell? ⟨gb330, 2, none⟩ = some (.int .i64 t326) ∧ w'.cell? ⟨gb330, 3, none⟩ = some (.bool t327) ∧ w'.cell? ⟨gb330, 4, none⟩ = some (.int .i64 t328)) (ds := []) #[false, false, false, false, false, false, false, false, false, false] (by kernel_rfl) rfl rfl ⟨(blk_cell BK330.out 0).trans rfl, (blk_cell BK330.out 1).trans rfl, (blk_cell BK330.out 2).trans rfl, (blk_cell BK330.out 3).trans rfl, (blk_cell BK330.out 4).trans rfl⟩ (fun hHeld => ?_); refine with_tabW laws_FnNames.tab17 laws_FnNames.bits17 (fun HT_ HW_ => ?_)
                                  generalize wc.drew = w57 at BK330 BK339 HB hHeld ⊢
                                  refine pure_ (i := 0) (N := some 103) (v := ?_) (a' := ?_) #[true, false, false, false, false, false, false, false, false, false] rfl rfl (any_of HT_.out (by kernel_rfl)) (fun _ _ _ h => h) (Or.inl ⟨by rfl, ?_⟩) ?_ ?_
                                  rotate_left
                                  · intro w'
                                    go_simp
                                    with_reducible rfl
                                  rotate_left
                                  · simp only [Act.put, List.setIfInBounds_toArray, List.set_cons_zero, List.set_cons_succ, i64_w, i32_w]
                                    rfl
                                  refine pure_ (i := 2) (N := some 105) (v := ?_) (a' := ?_) #[true, false, true, false, false, false, false, false, false, false] rfl rfl (any_of HT_.out (by kernel_rfl)) (fun _ _ _ h => h) (Or.inl ⟨by rfl, ?_⟩) ?_ ?_
                                  rotate_left
                                  · intro w'
                                    go_simp
                                    with_reducible rfl
                                  rotate_left
                                  · simp only [Act.put, List.setIfInBounds_toArray, List.set_cons_zero, List.set_cons_succ, i64_w, i32_w]
                                    rfl
                                  refine take_ (i := 1) (N := some 104) (v := ?_) (a' := ?_) #[true, true, true, false, false, false, false, false, false, false] rfl rfl (take_ofW HT_.out HW_.out (by kernel_rfl)) (fun _ _ _ h => h) (Or.inl ⟨by rfl, ?_⟩) hHeld ?_ ?_
                                  rotate_left
                                  · rintro w' ⟨s0, s1, s2, s3, s4⟩
                                    go_simp
                                    with_reducible rfl
                                  rotate_left
                                  · simp only [Act.put, List.setIfInBounds_toArray, List.set_cons_zero, List.set_cons_succ, i64_w, i32_w]
                                    rfl
                                  refine one_ (i := 3) (N := some 106) #[true, true, true, true, false, false, false, false, false, false] rfl rfl (one_of HT_.out (by kernel_rfl)) (by decide) (fun K hK => ?_)
                                  refine goes_ Tryd.func10 (by kernel_rfl) rfl #[.slice A0 l0.length c0, .int .i64 4, .int .i64 8] (by rfl) rfl rfl (by (try simp only [List.map_toArray, List.map_cons, List.map_nil]); first | done | rfl | (simp only [List.length_drop, List.length_take]; rfl)) ?_
                                  with_reducible refine (laws_at.calls _ _ l0 4 8 t340 _ ?side1 ?side2 A51.out).mono ?_
                                  (case side1 => repeat (first | exact (Kd.C_below HR0.out HB.out) | (with_reducible refine Kd.C_alloc ?_ _) | (with_reducible refine Kd.C_drewN ?_ _) | (with_reducible refine Kd.C_drew ?_)))
                                  (case side2 => exact HC0.out)
                                  rintro e w' ⟨rfl, ⟨nd, rfl⟩⟩
                                  refine ⟨_, rfl, ?_⟩
                                  refine hK.out _ _ ⟨(blk_cell BK330.out 0).trans rfl, (blk_cell BK330.out 1).trans rfl, (blk_cell BK330.out 2).trans rfl, (blk_cell BK330.out 3).trans rfl, (blk_cell BK330.out 4).trans rfl⟩ (fun hHeld => ?_)
                                  clear hK K
                                  refine norm_ (a' := ?_) ?_ ?_
                                  rotate_left
                                  · show Act.put _ (some 106) _ = _
                                    simp only [Act.put, List.setIfInBounds_toArray, List.set_cons_zero, List.set_cons_succ, i64_w, i32_w]
                                    rfl
                                  refine one_ (i := 4) (N := some 107) #[true, true, true, true, true, false, false, false, false, false] rfl rfl (one_of HT_.out (by kernel_rfl)) (by decide) (fun K hK => ?_)
                                  refine goes_ Tryd.func16 (by kernel_rfl) rfl #[.int .i64 t326, .int .i64 t340] (by rfl) rfl rfl (by (try simp only [List.map_toArray, List.map_cons, List.map_nil]); first | done | rfl | (simp only [List.length_drop, List.length_take]; rfl)) ?_
                                  with_reducible refine (impl_GroupOp.calls kj44 t326 t340 t341 t342 _ A52.out).mono ?_
                                  rintro e w58 ⟨rfl, hb⟩
                                  refine ⟨_, rfl, ?_⟩
                                  have n0_ := Aside0.mk (blk_below (g := gb330) (o := .cells #[.int .i64 t324, .int .i64 t325, .int .i64 t326, .bool t327, .int .i64 t328] 33 (0, 0)) (by (with_reducible repeat (first | refine blk_drewN ?_ _ | refine blk_drew ?_ | refine blk_alloc ?_ _)); exact BK330.out) hb)
                                  have n1_ := Aside0.mk (blk_below (g := gb339) (o := .cells #[.int .i64 t333, .int .i64 t334, .int .i64 t335, .bool t336, .int .i64 t337] 33 (0, 0)) (by (with_reducible repeat (first | refine blk_drewN ?_ _ | refine blk_drew ?_ | refine blk_alloc ?_ _)); exact BK339.out) hb)
                                  have n2_ := Aside0.mk (below_step (by repeat (first | (with_reducible first | exact HB.out | apply below_alloc | apply pw_below_drewN | apply below_drew1 | refine below_set ?_ GE330.out | refine below_set ?_ GE339.out) | exact HB.out)) hb)
                                  clear BK330
                                  clear BK339
                                  clear HB
                                  have BK330 := n0_
                                  have BK339 := n1_
                                  have HB := n2_
                                  clear n0_ n1_ n2_
                                  (try clear hb)
                                  (try clear hb2)
                                  (try clear hk)
                                  (try clear hi)
                                  refine hK.out _ _ ⟨(blk_cell BK330.out 0).trans rfl, (blk_cell BK330.out 1).trans rfl, (blk_cell BK330.out 2).trans rfl, (blk_cell BK330.out 3).trans rfl, (blk_cell BK330.out 4).trans rfl⟩ (fun hHeld => ?_)
                                  clear hK K
                                  refine norm_ (a' := ?_) ?_ ?_
                                  rotate_left
                                  · show Act.put _ (some 107) _ = _
                                    simp only [Act.put, List.setIfInBounds_toArray, List.set_cons_zero, List.set_cons_succ, i64_w, i32_w]
                                    rfl
                                  refine pure_ (i := 5) (N := some 102) (v := ?_) (a' := ?_) #[true, true, true, true, true, true, false, false, false, false] rfl rfl (any_of HT_.out (by kernel_rfl)) (fun _ _ _ h => h) (Or.inl ⟨by rfl, ?_⟩) ?_ ?_
                                  rotate_left
                                  · intro w'
                                    go_simp
                                    with_reducible rfl
                                  rotate_left
                                  · simp only [Act.put, List.setIfInBounds_toArray, List.set_cons_zero, List.set_cons_succ, i64_w, i32_w]
                                    rfl
                                  refine pure_ (i := 6) (N := some 108) (v := ?_) (a' := ?_) #[true, true, true, true, true, true, true, false, false, false] rfl rfl (any_of HT_.out (by kernel_rfl)) (fun _ _ _ h => h) (Or.inl ⟨by rfl, ?_⟩) ?_ ?_
                                  rotate_left
                                  · intro w'
                                    go_simp
                                    with_reducible rfl
                                  rotate_left
                                  · simp only [Act.put, List.setIfInBounds_toArray, List.set_cons_zero, List.set_cons_succ, i64_w, i32_w]
                                    rfl
                                  refine pure_ (i := 7) (N := some 109) (v := ?_) (a' := ?_) #[true, true, true, true, true, true, true, true, false, false] rfl rfl (any_of HT_.out (by kernel_rfl)) (fun _ _ _ h => h) (Or.inl ⟨by rfl, ?_⟩) ?_ ?_
                                  rotate_left
                                  · intro w'
                                    go_simp
                                    with_reducible rfl
                                  rotate_left
                                  · simp only [Act.put, List.setIfInBounds_toArray, List.set_cons_zero, List.set_cons_succ, i64_w, i32_w]
                                    rfl
                                  refine pure_ (i := 8) (N := some 20) (v := ?_) (a' := ?_) #[true, true, true, true, true, true, true, true, true, false] rfl rfl (any_of HT_.out (by kernel_rfl)) (fun _ _ _ h => h) (Or.inl ⟨by rfl, ?_⟩) ?_ ?_
                                  rotate_left
                                  · intro w'
                                    go_simp
                                    with_reducible rfl
                                  rotate_left
                                  · simp only [Act.put, List.setIfInBounds_toArray, List.set_cons_zero, List.set_cons_succ, i64_w, i32_w]
                                    rfl
                                  refine pure_ (i := 9) (N := some 21) (v := ?_) (a' := ?_) #[true, true, true, true, true, true, true, true, true, true] rfl rfl (any_of HT_.out (by kernel_rfl)) (fun _ _ _ h => h) (Or.inl ⟨by rfl, ?_⟩) ?_ ?_
                                  rotate_left
                                  · intro w'
                                    go_simp
                                    with_reducible rfl
                                  rotate_left
                                  · simp only [Act.put, List.setIfInBounds_toArray, List.set_cons_zero, List.set_cons_succ, i64_w, i32_w]
                                    rfl
                                  refine done_ (done_of HT_.out (by kernel_rfl)) ?_
                                  try go_wp2
                                  have n0_ := Aside0.mk (blk_drew BK330.out)
                                  have n1_ := Aside0.mk (blk_drew BK339.out)
                                  have n2_ := Aside0.mk (below_drew1 HB.out)
                                  clear BK330
                                  clear BK339
                                  clear HB
                                  have BK330 := n0_
                                  have BK339 := n1_
                                  have HB := n2_
                                  clear n0_ n1_ n2_
                                  refine start_ (n := 10) (S := fun w' => w'.cell? ⟨gb330, 0, none⟩ = some (.int .i64 t324) ∧ w'.cell? ⟨gb330, 1, none⟩ = some (.int .i64 t325) ∧ w'.cell? ⟨gb330, 2, none⟩ = some (.int .i64 t326) ∧ w'.cell? ⟨gb330, 3, none⟩ = some (.bool t327) ∧ w'.cell? ⟨gb330, 4, none⟩ = some (.int .i64 t328)) (ds := []) #[false, false, false, false, false, false, false, false, false, false] (by kernel_rfl) rfl rfl ⟨(blk_cell BK330.out 0).trans rfl, (blk_cell BK330.out 1).trans rfl, (blk_cell BK330.out 2).trans rfl, (blk_cell BK330.out 3).trans rfl, (blk_cell BK330.out 4).trans rfl⟩ (fun hHeld => ?_); refine with_tabW laws_FnNames.tab18 laws_FnNames.bits18 (fun HT_ HW_ => ?_)
                                  generalize w58.drew = w59 at BK330 BK339 HB hHeld ⊢
                                  refine pure_ (i := 0) (N := some 111) (v := ?_) (a' := ?_) #[true, false, false, false, false, false, false, false, false, false] rfl rfl (any_of HT_.out (by kernel_rfl)) (fun _ _ _ h => h) (Or.inl ⟨by rfl, ?_⟩) ?_ ?_
                                  rotate_left
                                  · intro w'
                                    go_simp
                                    with_reducible rfl
                                  rotate_left
                                  · simp only [Act.put, List.setIfInBounds_toArray, List.set_cons_zero, List.set_cons_succ, i64_w, i32_w]
                                    rfl
                                  refine pure_ (i := 2) (N := some 113) (v := ?_) (a' := ?_) #[true, false, true, false, false, false, false, false, false, false] rfl rfl (any_of HT_.out (by kernel_rfl)) (fun _ _ _ h => h) (Or.inl ⟨by rfl, ?_⟩) ?_ ?_
                                  rotate_left
                                  · intro w'
                                    go_simp
                                    with_reducible rfl
                                  rotate_left
                                  · simp only [Act.put, List.setIfInBounds_toArray, List.set_cons_zero, List.set_cons_succ, i64_w, i32_w]
                                    rfl
                                  refine take_ (i := 1) (N := some 112) (v := ?_) (a' := ?_) #[true, true, true, false, false, false, false, false, false, false] rfl rfl (take_ofW HT_.out HW_.out (by kernel_rfl)) (fun _ _ _ h => h) (Or.inl ⟨by rfl, ?_⟩) hHeld ?_ ?_
                                  rotate_left
                                  · rintro w' ⟨s0, s1, s2, s3, s4⟩
                                    go_simp
                                    with_reducible rfl
                                  rotate_left
                                  · simp only [Act.put, List.setIfInBounds_toArray, List.set_cons_zero, List.set_cons_succ, i64_w, i32_w]
                                    rfl
                                  refine one_ (i := 3) (N := some 114) #[true, true, true, true, false, false, false, false, false, false] rfl rfl (one_of HT_.out (by kernel_rfl)) (by decide) (fun K hK => ?_)
                                  refine goes_ Tryd.func10 (by kernel_rfl) rfl #[.slice A0 l0.length c0, .int .i64 4, .int .i64 8] (by rfl) rfl rfl (by (try simp only [List.map_toArray, List.map_cons, List.map_nil]); first | done | rfl | (simp only [List.length_drop, List.length_take]; rfl)) ?_
                                  with_reducible refine (laws_at.calls _ _ l0 4 8 t343 _ ?side1 ?side2 A53.out).mono ?_
                                  (case side1 => repeat (first | exact (Kd.C_below HR0.out HB.out) | (with_reducible refine Kd.C_alloc ?_ _) | (with_reducible refine Kd.C_drewN ?_ _) | (with_reducible refine Kd.C_drew ?_)))
                                  (case side2 => exact HC0.out)
                                  rintro e w' ⟨rfl, ⟨nd, rfl⟩⟩
                                  refine ⟨_, rfl, ?_⟩
                                  refine hK.out _ _ ⟨(blk_cell BK330.out 0).trans rfl, (blk_cell BK330.out 1).trans rfl, (blk_cell BK330.out 2).trans rfl, (blk_cell BK330.out 3).trans rfl, (blk_cell BK330.out 4).trans rfl⟩ (fun hHeld => ?_)
                                  clear hK K
                                  refine norm_ (a' := ?_) ?_ ?_
                                  rotate_left
                                  · show Act.put _ (some 114) _ = _
                                    simp only [Act.put, List.setIfInBounds_toArray, List.set_cons_zero, List.set_cons_succ, i64_w, i32_w]
                                    rfl
                                  refine one_ (i := 4) (N := some 115) #[true, true, true, true, true, false, false, false, false, false] rfl rfl (one_of HT_.out (by kernel_rfl)) (by decide) (fun K hK => ?_)
                                  refine goes_ Tryd.func17 (by kernel_rfl) rfl #[.int .i64 t326, .int .i64 t343] (by rfl) rfl rfl (by (try simp only [List.map_toArray, List.map_cons, List.map_nil]); first | done | rfl | (simp only [List.length_drop, List.length_take]; rfl)) ?_
                                  with_reducible refine (spec_GroupOp.calls kj44 t326 t343 t344 t345 _ A54.out).mono ?_
                                  rintro e w60 ⟨rfl, hb⟩
                                  refine ⟨_, rfl, ?_⟩
                                  have n0_ := Aside0.mk (blk_below (g := gb330) (o := .cells #[.int .i64 t324, .int .i64 t325, .int .i64 t326, .bool t327, .int .i64 t328] 33 (0, 0)) (by (with_reducible repeat (first | refine blk_drewN ?_ _ | refine blk_drew ?_ | refine blk_alloc ?_ _)); exact BK330.out) hb)
                                  have n1_ := Aside0.mk (blk_below (g := gb339) (o := .cells #[.int .i64 t333, .int .i64 t334, .int .i64 t335, .bool t336, .int .i64 t337] 33 (0, 0)) (by (with_reducible repeat (first | refine blk_drewN ?_ _ | refine blk_drew ?_ | refine blk_alloc ?_ _)); exact BK339.out) hb)
                                  have n2_ := Aside0.mk (below_step (by repeat (first | (with_reducible first | exact HB.out | apply below_alloc | apply pw_below_drewN | apply below_drew1 | refine below_set ?_ GE330.out | refine below_set ?_ GE339.out) | exact HB.out)) hb)
                                  clear BK330
                                  clear BK339
                                  clear HB
                                  have BK330 := n0_
                                  have BK339 := n1_
                                  have HB := n2_
                                  clear n0_ n1_ n2_
                                  (try clear hb)
                                  (try clear hb2)
                                  (try clear hk)
                                  (try clear hi)
                                  refine hK.out _ _ ⟨(blk_cell BK330.out 0).trans rfl, (blk_cell BK330.out 1).trans rfl, (blk_cell BK330.out 2).trans rfl, (blk_cell BK330.out 3).trans rfl, (blk_cell BK330.out 4).trans rfl⟩ (fun hHeld => ?_)
                                  clear hK K
                                  refine norm_ (a' := ?_) ?_ ?_
                                  rotate_left
                                  · show Act.put _ (some 115) _ = _
                                    simp only [Act.put, List.setIfInBounds_toArray, List.set_cons_zero, List.set_cons_succ, i64_w, i32_w]
                                    rfl
                                  refine pure_ (i := 5) (N := some 110) (v := ?_) (a' := ?_) #[true, true, true, true, true, true, false, false, false, false] rfl rfl (any_of HT_.out (by kernel_rfl)) (fun _ _ _ h => h) (Or.inl ⟨by rfl, ?_⟩) ?_ ?_
                                  rotate_left
                                  · intro w'
                                    go_simp
                                    with_reducible rfl
                                  rotate_left
                                  · simp only [Act.put, List.setIfInBounds_toArray, List.set_cons_zero, List.set_cons_succ, i64_w, i32_w]
                                    rfl
                                  refine pure_ (i := 6) (N := some 116) (v := ?_) (a' := ?_) #[true, true, true, true, true, true, true, false, false, false] rfl rfl (any_of HT_.out (by kernel_rfl)) (fun _ _ _ h => h) (Or.inl ⟨by rfl, ?_⟩) ?_ ?_
                                  rotate_left
                                  · intro w'
                                    go_simp
                                    with_reducible rfl
                                  rotate_left
                                  · simp only [Act.put, List.setIfInBounds_toArray, List.set_cons_zero, List.set_cons_succ, i64_w, i32_w]
                                    rfl
                                  refine pure_ (i := 7) (N := some 117) (v := ?_) (a' := ?_) #[true, true, true, true, true, true, true, true, false, false] rfl rfl (any_of HT_.out (by kernel_rfl)) (fun _ _ _ h => h) (Or.inl ⟨by rfl, ?_⟩) ?_ ?_
                                  rotate_left
                                  · intro w'
                                    go_simp
                                    with_reducible rfl
                                  rotate_left
                                  · simp only [Act.put, List.setIfInBounds_toArray, List.set_cons_zero, List.set_cons_succ, i64_w, i32_w]
                                    rfl
                                  refine pure_ (i := 8) (N := some 22) (v := ?_) (a' := ?_) #[true, true, true, true, true, true, true, true, true, false] rfl rfl (any_of HT_.out (by kernel_rfl)) (fun _ _ _ h => h) (Or.inl ⟨by rfl, ?_⟩) ?_ ?_
                                  rotate_left
                                  · intro w'
                                    go_simp
                                    with_reducible rfl
                                  rotate_left
                                  · simp only [Act.put, List.setIfInBounds_toArray, List.set_cons_zero, List.set_cons_succ, i64_w, i32_w]
                                    rfl
                                  refine pure_ (i := 9) (N := some 23) (v := ?_) (a' := ?_) #[true, true, true, true, true, true, true, true, true, true] rfl rfl (any_of HT_.out (by kernel_rfl)) (fun _ _ _ h => h) (Or.inl ⟨by rfl, ?_⟩) ?_ ?_
                                  rotate_left
                                  · intro w'
                                    go_simp
                                    with_reducible rfl
                                  rotate_left
                                  · simp only [Act.put, List.setIfInBounds_toArray, List.set_cons_zero, List.set_cons_succ, i64_w, i32_w]
                                    rfl
                                  refine done_ (done_of HT_.out (by kernel_rfl)) ?_
                                  try go_wp2
                                  (first | go_meet | ((try simp only [c12b0] at *); (try simp only [c12b1] at *); (try simp only [c37b0] at *); (try simp only [c46b0] at *); (try simp only [c46b1] at *); (try simp only [c55b0] at *); (try simp only [c55b1] at *); (try simp only [c56b0] at *); (try simp only [c56b1] at *); go_meet))
                                  case rel => (try rw [c12b0]); (try rw [c12b0] at H'); (try rw [c12b1]); (try rw [c12b1] at H'); (try rw [c37b0]); (try rw [c37b0] at H'); (try rw [c46b0]); (try rw [c46b0] at H'); (try rw [c46b1]); (try rw [c46b1] at H'); (try rw [c55b0]); (try rw [c55b0] at H'); (try rw [c55b1]); (try rw [c55b1] at H'); (try rw [c56b0]); (try rw [c56b0] at H'); (try rw [c56b1]); (try rw [c56b1] at H'); exact ⟨_, H', ⟨by have := HJ2.out; have := HJ9.out; have := HJ13.out; have := HJ26.out; have := HJ44.out; first | omega | exact Nat.le_refl _⟩, ⟨by (with_reducible repeat (first | refine blk_drewN ?_ _ | refine blk_drew ?_ | refine blk_alloc ?_ _)); exact BK330.out⟩, ⟨by (with_reducible repeat (first | refine blk_drewN ?_ _ | refine blk_drew ?_ | refine blk_alloc ?_ _)); exact BK339.out⟩, ⟨by repeat (first | (with_reducible first | exact HB.out | apply below_alloc | apply pw_below_drewN | apply below_drew1 | refine below_set ?_ GE330.out | refine below_set ?_ GE339.out) | exact HB.out)⟩⟩
                                · rw [if_neg c56] at H
                                  have c56b0 : (t342 == t345) = false := beq_eq_false_iff_ne.mpr c56
                                  have c56b1 : (t342 != t345) = true := bne_iff_ne.mpr c56
                                  exact absurd H (by decide)
                              · rw [if_neg c55] at H
                                have c55b0 : (t341 == t344) = false := beq_eq_false_iff_ne.mpr c55
                                have c55b1 : (t341 != t344) = true := bne_iff_ne.mpr c55
                                (first | rw [c55b0] | (simp only [i64_w, i32_w]; rw [c55b0]) | skip)
                                exact absurd H (by decide)
                            · replace c50 := Bool.eq_false_iff.mpr c50
                              subst c50
                              have H1 : (laws_FnNames.j5 kj44 (wrap64 (1 + t308)) t309 t310 x8_13 t315 t316 t317 t318 t319 t320) = some true := by rw [if_neg (show ¬ (false = true) by decide)] at H; exact H
                              clear H
                              have H := H1
                              clear H1
                              have H' := Aside0.mk H
                              clear H
                              go_wp2
                              (first | go_meet | ((try simp only [c12b0] at *); (try simp only [c12b1] at *); (try simp only [c37b0] at *); (try simp only [c46b0] at *); (try simp only [c46b1] at *); (try simp only [c55b0] at *); (try simp only [c55b1] at *); (try simp only [c56b0] at *); (try simp only [c56b1] at *); go_meet))
                              case rel => (try rw [c12b0]); (try rw [c12b0] at H'); (try rw [c12b1]); (try rw [c12b1] at H'); (try rw [c37b0]); (try rw [c37b0] at H'); (try rw [c46b0]); (try rw [c46b0] at H'); (try rw [c46b1]); (try rw [c46b1] at H'); (try rw [c55b0]); (try rw [c55b0] at H'); (try rw [c55b1]); (try rw [c55b1] at H'); (try rw [c56b0]); (try rw [c56b0] at H'); (try rw [c56b1]); (try rw [c56b1] at H'); exact ⟨_, H', ⟨by have := HJ2.out; have := HJ9.out; have := HJ13.out; have := HJ26.out; have := HJ44.out; first | omega | exact Nat.le_refl _⟩, ⟨by (with_reducible repeat (first | refine blk_drewN ?_ _ | refine blk_drew ?_ | refine blk_alloc ?_ _)); exact BK330.out⟩, ⟨by (with_reducible repeat (first | refine blk_drewN ?_ _ | refine blk_drew ?_ | refine blk_alloc ?_ _)); exact BK339.out⟩, ⟨by repeat (first | (with_reducible first | exact HB.out | apply below_alloc | apply pw_below_drewN | apply below_drew1 | refine below_set ?_ GE330.out | refine below_set ?_ GE339.out) | exact HB.out)⟩⟩
                          case rest =>
                            clear HC49
                            try clear c1
                            try clear p2
                            try clear c5
                            try clear p6
                            try clear c10
                            try clear c16
                            try clear c17
                            try clear c50
                            try clear c55
                            try clear c55b0
                            try clear c55b1
                            try clear c56
                            try clear c56b0
                            try clear c56b1
                            try clear p64
                            obtain ⟨kq, HA, HJ48, BK330, BK339, HB⟩ := hcut
                            cases kq with
                            | zero => exact absurd HA.out (by simp [laws_FnNames.j5])
                            | succ kj48 =>
                              have H := HA.out
                              clear HA
                              simp only [laws_FnNames.j5] at H
                              replace H := Option.bind_eq_some_iff.mp H
                              obtain ⟨t346, A690, H⟩ := H
                              replace H : ((impl_OpOf.f kj48 t346).bind fun t347 => (if t347 = (wrap64 (1 + t308)) then ((impl_OpName.f (wrap64 (1 + t308))).bind fun t348 => ((spec_OpName.f (wrap64 (1 + t308))).bind fun t349 => (if t348.toList = t349.toList then ((impl_CondName.f t309).bind fun t350 => ((impl_CondOf.f kj48 t350).bind fun t351 => (if t351 = t309 then ((impl_CondName.f t309).bind fun t352 => ((spec_CondName.f t309).bind fun t353 => (if t352.toList = t353.toList then (if t317 = 0 then (if t315 = x8_13 then (if t316 = t310 then (if t319 = 0 then (some (t318 == t320)) else (some false)) else (some false)) else (some false)) else (some false)) else (some false)))) else (some false)))) else (some false)))) else (some false))) = some true := H
                              have A69 := Aside0.mk A690
                              clear A690
                              replace H := Option.bind_eq_some_iff.mp H
                              obtain ⟨t347, A700, H⟩ := H
                              replace H : (if t347 = (wrap64 (1 + t308)) then ((impl_OpName.f (wrap64 (1 + t308))).bind fun t348 => ((spec_OpName.f (wrap64 (1 + t308))).bind fun t349 => (if t348.toList = t349.toList then ((impl_CondName.f t309).bind fun t350 => ((impl_CondOf.f kj48 t350).bind fun t351 => (if t351 = t309 then ((impl_CondName.f t309).bind fun t352 => ((spec_CondName.f t309).bind fun t353 => (if t352.toList = t353.toList then (if t317 = 0 then (if t315 = x8_13 then (if t316 = t310 then (if t319 = 0 then (some (t318 == t320)) else (some false)) else (some false)) else (some false)) else (some false)) else (some false)))) else (some false)))) else (some false)))) else (some false)) = some true := H
                              have A70 := Aside0.mk A700
                              clear A700
                              by_cases c71 : t347 = (wrap64 (1 + t308))
                              · rw [if_pos c71] at H
                                have c71b0 : (t347 == (wrap64 (1 + t308))) = true := beq_iff_eq.mpr c71
                                have c71b1 : (t347 != (wrap64 (1 + t308))) = false := bne_eq_false_iff_eq.mpr c71
                                clear c71
                                replace H := Option.bind_eq_some_iff.mp H
                                obtain ⟨t348, A720, H⟩ := H
                                replace H : ((spec_OpName.f (wrap64 (1 + t308))).bind fun t349 => (if t348.toList = t349.toList then ((impl_CondName.f t309).bind fun t350 => ((impl_CondOf.f kj48 t350).bind fun t351 => (if t351 = t309 then ((impl_CondName.f t309).bind fun t352 => ((spec_CondName.f t309).bind fun t353 => (if t352.toList = t353.toList then (if t317 = 0 then (if t315 = x8_13 then (if t316 = t310 then (if t319 = 0 then (some (t318 == t320)) else (some false)) else (some false)) else (some false)) else (some false)) else (some false)))) else (some false)))) else (some false))) = some true := H
                                have A72 := Aside0.mk A720
                                clear A720
                                replace H := Option.bind_eq_some_iff.mp H
                                obtain ⟨t349, A730, H⟩ := H
                                replace H : (if t348.toList = t349.toList then ((impl_CondName.f t309).bind fun t350 => ((impl_CondOf.f kj48 t350).bind fun t351 => (if t351 = t309 then ((impl_CondName.f t309).bind fun t352 => ((spec_CondName.f t309).bind fun t353 => (if t352.toList = t353.toList then (if t317 = 0 then (if t315 = x8_13 then (if t316 = t310 then (if t319 = 0 then (some (t318 == t320)) else (some false)) else (some false)) else (some false)) else (some false)) else (some false)))) else (some false)))) else (some false)) = some true := H
                                have A73 := Aside0.mk A730
                                clear A730
                                by_cases c74 : t348.toList = t349.toList
                                · rw [if_pos c74] at H
                                  have c74b0 : (t348.toList == t349.toList) = true := beq_iff_eq.mpr c74
                                  have c74b1 : (t348.toList != t349.toList) = false := bne_eq_false_iff_eq.mpr c74
                                  have c74b2 : (t346.toList == t349.toList) = true := by rw [Option.some.inj (A69.out.symm.trans A72.out)]; exact c74b0
                                  have c74b3 : (t346.toList != t349.toList) = false := by rw [Option.some.inj (A69.out.symm.trans A72.out)]; exact c74b1
                                  clear c74
                                  replace H := Option.bind_eq_some_iff.mp H
                                  obtain ⟨t350, A750, H⟩ := H
                                  replace H : ((impl_CondOf.f kj48 t350).bind fun t351 => (if t351 = t309 then ((impl_CondName.f t309).bind fun t352 => ((spec_CondName.f t309).bind fun t353 => (if t352.toList = t353.toList then (if t317 = 0 then (if t315 = x8_13 then (if t316 = t310 then (if t319 = 0 then (some (t318 == t320)) else (some false)) else (some false)) else (some false)) else (some false)) else (some false)))) else (some false))) = some true := H
                                  have A75 := Aside0.mk A750
                                  clear A750
                                  replace H := Option.bind_eq_some_iff.mp H
                                  obtain ⟨t351, A760, H⟩ := H
                                  replace H : (if t351 = t309 then ((impl_CondName.f t309).bind fun t352 => ((spec_CondName.f t309).bind fun t353 => (if t352.toList = t353.toList then (if t317 = 0 then (if t315 = x8_13 then (if t316 = t310 then (if t319 = 0 then (some (t318 == t320)) else (some false)) else (some false)) else (some false)) else (some false)) else (some false)))) else (some false)) = some true := H
                                  have A76 := Aside0.mk A760
                                  clear A760
                                  by_cases c77 : t351 = t309
                                  · rw [if_pos c77] at H
                                    have c77b0 : (t351 == t309) = true := beq_iff_eq.mpr c77
                                    have c77b1 : (t351 != t309) = false := bne_eq_false_iff_eq.mpr c77
                                    clear c77
                                    replace H := Option.bind_eq_some_iff.mp H
                                    obtain ⟨t352, A780, H⟩ := H
                                    replace H : ((spec_CondName.f t309).bind fun t353 => (if t352.toList = t353.toList then (if t317 = 0 then (if t315 = x8_13 then (if t316 = t310 then (if t319 = 0 then (some (t318 == t320)) else (some false)) else (some false)) else (some false)) else (some false)) else (some false))) = some true := H
                                    have A78 := Aside0.mk A780
                                    clear A780
                                    replace H := Option.bind_eq_some_iff.mp H
                                    obtain ⟨t353, A790, H⟩ := H
                                    replace H : (if t352.toList = t353.toList then (if t317 = 0 then (if t315 = x8_13 then (if t316 = t310 then (if t319 = 0 then (some (t318 == t320)) else (some false)) else (some false)) else (some false)) else (some false)) else (some false)) = some true := H
                                    have A79 := Aside0.mk A790
                                    clear A790
                                    by_cases c80 : t352.toList = t353.toList
                                    · rw [if_pos c80] at H
                                      have c80b0 : (t352.toList == t353.toList) = true := beq_iff_eq.mpr c80
                                      have c80b1 : (t352.toList != t353.toList) = false := bne_eq_false_iff_eq.mpr c80
                                      have c80b2 : (t350.toList == t353.toList) = true := by rw [Option.some.inj (A75.out.symm.trans A78.out)]; exact c80b0
                                      have c80b3 : (t350.toList != t353.toList) = false := by rw [Option.some.inj (A75.out.symm.trans A78.out)]; exact c80b1
                                      clear c80
                                      by_cases c81 : t317 = 0
                                      · rw [if_pos c81] at H
                                        have c81b0 : (t317 == 0) = true := beq_iff_eq.mpr c81
                                        have c81b1 : (t317 != 0) = false := bne_eq_false_iff_eq.mpr c81
                                        clear c81
                                        by_cases c82 : t315 = x8_13
                                        · rw [if_pos c82] at H
                                          have c82b0 : (t315 == x8_13) = true := beq_iff_eq.mpr c82
                                          have c82b1 : (t315 != x8_13) = false := bne_eq_false_iff_eq.mpr c82
                                          clear c82
                                          by_cases c83 : t316 = t310
                                          · rw [if_pos c83] at H
                                            have c83b0 : (t316 == t310) = true := beq_iff_eq.mpr c83
                                            have c83b1 : (t316 != t310) = false := bne_eq_false_iff_eq.mpr c83
                                            clear c83
                                            by_cases c84 : t319 = 0
                                            · rw [if_pos c84] at H
                                              have c84b0 : (t319 == 0) = true := beq_iff_eq.mpr c84
                                              have c84b1 : (t319 != 0) = false := bne_eq_false_iff_eq.mpr c84
                                              clear c84
                                              have hE := Aside0.mk (Option.some.inj H)
                                              clear H
                                              go_wp2_with (first | ((with_reducible refine gate_callee (f := 19) rfl ?_); refine goesL_ (some 127) rfl rfl Tryd.func19 (by kernel_rfl) rfl #[.int .i64 (wrap64 (1 + t308))] rfl (by (try simp only [List.map_toArray, List.map_cons, List.map_nil]); first | done | rfl | (simp only [List.length_drop, List.length_take]; rfl)) ?_; (with_reducible refine (impl_OpName.calls (wrap64 (1 + t308)) t346 _ A69.out).mono ?_); rintro e w85 ⟨rfl, hb⟩; refine ⟨_, rfl, ?_⟩; have n0_ := Aside0.mk (blk_below (g := gb330) (o := .cells #[.int .i64 t324, .int .i64 t325, .int .i64 t326, .bool t327, .int .i64 t328] 33 (0, 0)) (by (with_reducible repeat (first | refine blk_drewN ?_ _ | refine blk_drew ?_ | refine blk_alloc ?_ _)); exact BK330.out) hb); have n1_ := Aside0.mk (blk_below (g := gb339) (o := .cells #[.int .i64 t333, .int .i64 t334, .int .i64 t335, .bool t336, .int .i64 t337] 33 (0, 0)) (by (with_reducible repeat (first | refine blk_drewN ?_ _ | refine blk_drew ?_ | refine blk_alloc ?_ _)); exact BK339.out) hb); have n2_ := Aside0.mk (below_step (by repeat (first | (with_reducible first | exact HB.out | apply below_alloc | apply pw_below_drewN | apply below_drew1 | refine below_set ?_ GE330.out | refine below_set ?_ GE339.out) | exact HB.out)) hb); clear BK330; clear BK339; clear HB; have BK330 := n0_; have BK339 := n1_; have HB := n2_; clear n0_ n1_ n2_; (try clear hb); (try clear hb2); (try clear hk); (try clear hi)) | ((with_reducible refine gate_callee (f := 18) rfl ?_); refine goesL_ (some 128) rfl rfl Tryd.func18 (by kernel_rfl) rfl #[.string t346] rfl (by (try simp only [List.map_toArray, List.map_cons, List.map_nil]); first | done | rfl | (simp only [List.length_drop, List.length_take]; rfl)) ?_; (with_reducible refine (impl_OpOf.calls kj48 t346 t347 _ A70.out).mono ?_); rintro e w86 ⟨rfl, hb⟩; refine ⟨_, rfl, ?_⟩; have n0_ := Aside0.mk (blk_below (g := gb330) (o := .cells #[.int .i64 t324, .int .i64 t325, .int .i64 t326, .bool t327, .int .i64 t328] 33 (0, 0)) (by (with_reducible repeat (first | refine blk_drewN ?_ _ | refine blk_drew ?_ | refine blk_alloc ?_ _)); exact BK330.out) hb); have n1_ := Aside0.mk (blk_below (g := gb339) (o := .cells #[.int .i64 t333, .int .i64 t334, .int .i64 t335, .bool t336, .int .i64 t337] 33 (0, 0)) (by (with_reducible repeat (first | refine blk_drewN ?_ _ | refine blk_drew ?_ | refine blk_alloc ?_ _)); exact BK339.out) hb); have n2_ := Aside0.mk (below_step (by repeat (first | (with_reducible first | exact HB.out | apply below_alloc | apply pw_below_drewN | apply below_drew1 | refine below_set ?_ GE330.out | refine below_set ?_ GE339.out) | exact HB.out)) hb); clear BK330; clear BK339; clear HB; have BK330 := n0_; have BK339 := n1_; have HB := n2_; clear n0_ n1_ n2_; (try clear hb); (try clear hb2); (try clear hk); (try clear hi)) | (go_at_call 19; (with_reducible refine (impl_OpName.calls (wrap64 (1 + t308)) t348 _ A72.out).mono ?_); rintro e w87 ⟨rfl, hb⟩; have n0_ := Aside0.mk (blk_below (g := gb330) (o := .cells #[.int .i64 t324, .int .i64 t325, .int .i64 t326, .bool t327, .int .i64 t328] 33 (0, 0)) (by (with_reducible repeat (first | refine blk_drewN ?_ _ | refine blk_drew ?_ | refine blk_alloc ?_ _)); exact BK330.out) hb); have n1_ := Aside0.mk (blk_below (g := gb339) (o := .cells #[.int .i64 t333, .int .i64 t334, .int .i64 t335, .bool t336, .int .i64 t337] 33 (0, 0)) (by (with_reducible repeat (first | refine blk_drewN ?_ _ | refine blk_drew ?_ | refine blk_alloc ?_ _)); exact BK339.out) hb); have n2_ := Aside0.mk (below_step (by repeat (first | (with_reducible first | exact HB.out | apply below_alloc | apply pw_below_drewN | apply below_drew1 | refine below_set ?_ GE330.out | refine below_set ?_ GE339.out) | exact HB.out)) hb); clear BK330; clear BK339; clear HB; have BK330 := n0_; have BK339 := n1_; have HB := n2_; clear n0_ n1_ n2_; (try clear hb); (try clear hb2); (try clear hk); (try clear hi)) | (go_at_call 20; (with_reducible refine (spec_OpName.calls (wrap64 (1 + t308)) t349 _ A73.out).mono ?_); rintro e w88 ⟨rfl, hb⟩; have n0_ := Aside0.mk (blk_below (g := gb330) (o := .cells #[.int .i64 t324, .int .i64 t325, .int .i64 t326, .bool t327, .int .i64 t328] 33 (0, 0)) (by (with_reducible repeat (first | refine blk_drewN ?_ _ | refine blk_drew ?_ | refine blk_alloc ?_ _)); exact BK330.out) hb); have n1_ := Aside0.mk (blk_below (g := gb339) (o := .cells #[.int .i64 t333, .int .i64 t334, .int .i64 t335, .bool t336, .int .i64 t337] 33 (0, 0)) (by (with_reducible repeat (first | refine blk_drewN ?_ _ | refine blk_drew ?_ | refine blk_alloc ?_ _)); exact BK339.out) hb); have n2_ := Aside0.mk (below_step (by repeat (first | (with_reducible first | exact HB.out | apply below_alloc | apply pw_below_drewN | apply below_drew1 | refine below_set ?_ GE330.out | refine below_set ?_ GE339.out) | exact HB.out)) hb); clear BK330; clear BK339; clear HB; have BK330 := n0_; have BK339 := n1_; have HB := n2_; clear n0_ n1_ n2_; (try clear hb); (try clear hb2); (try clear hk); (try clear hi)) | (go_at_call 22; (with_reducible refine (impl_CondName.calls t309 t350 _ A75.out).mono ?_); rintro e w89 ⟨rfl, hb⟩; have n0_ := Aside0.mk (blk_below (g := gb330) (o := .cells #[.int .i64 t324, .int .i64 t325, .int .i64 t326, .bool t327, .int .i64 t328] 33 (0, 0)) (by (with_reducible repeat (first | refine blk_drewN ?_ _ | refine blk_drew ?_ | refine blk_alloc ?_ _)); exact BK330.out) hb); have n1_ := Aside0.mk (blk_below (g := gb339) (o := .cells #[.int .i64 t333, .int .i64 t334, .int .i64 t335, .bool t336, .int .i64 t337] 33 (0, 0)) (by (with_reducible repeat (first | refine blk_drewN ?_ _ | refine blk_drew ?_ | refine blk_alloc ?_ _)); exact BK339.out) hb); have n2_ := Aside0.mk (below_step (by repeat (first | (with_reducible first | exact HB.out | apply below_alloc | apply pw_below_drewN | apply below_drew1 | refine below_set ?_ GE330.out | refine below_set ?_ GE339.out) | exact HB.out)) hb); clear BK330; clear BK339; clear HB; have BK330 := n0_; have BK339 := n1_; have HB := n2_; clear n0_ n1_ n2_; (try clear hb); (try clear hb2); (try clear hk); (try clear hi)) | (go_at_call 21; (with_reducible refine (impl_CondOf.calls kj48 t350 t351 _ A76.out).mono ?_); rintro e w90 ⟨rfl, hb⟩; have n0_ := Aside0.mk (blk_below (g := gb330) (o := .cells #[.int .i64 t324, .int .i64 t325, .int .i64 t326, .bool t327, .int .i64 t328] 33 (0, 0)) (by (with_reducible repeat (first | refine blk_drewN ?_ _ | refine blk_drew ?_ | refine blk_alloc ?_ _)); exact BK330.out) hb); have n1_ := Aside0.mk (blk_below (g := gb339) (o := .cells #[.int .i64 t333, .int .i64 t334, .int .i64 t335, .bool t336, .int .i64 t337] 33 (0, 0)) (by (with_reducible repeat (first | refine blk_drewN ?_ _ | refine blk_drew ?_ | refine blk_alloc ?_ _)); exact BK339.out) hb); have n2_ := Aside0.mk (below_step (by repeat (first | (with_reducible first | exact HB.out | apply below_alloc | apply pw_below_drewN | apply below_drew1 | refine below_set ?_ GE330.out | refine below_set ?_ GE339.out) | exact HB.out)) hb); clear BK330; clear BK339; clear HB; have BK330 := n0_; have BK339 := n1_; have HB := n2_; clear n0_ n1_ n2_; (try clear hb); (try clear hb2); (try clear hk); (try clear hi)) | (go_at_call 22; (with_reducible refine (impl_CondName.calls t309 t352 _ A78.out).mono ?_); rintro e w91 ⟨rfl, hb⟩; have n0_ := Aside0.mk (blk_below (g := gb330) (o := .cells #[.int .i64 t324, .int .i64 t325, .int .i64 t326, .bool t327, .int .i64 t328] 33 (0, 0)) (by (with_reducible repeat (first | refine blk_drewN ?_ _ | refine blk_drew ?_ | refine blk_alloc ?_ _)); exact BK330.out) hb); have n1_ := Aside0.mk (blk_below (g := gb339) (o := .cells #[.int .i64 t333, .int .i64 t334, .int .i64 t335, .bool t336, .int .i64 t337] 33 (0, 0)) (by (with_reducible repeat (first | refine blk_drewN ?_ _ | refine blk_drew ?_ | refine blk_alloc ?_ _)); exact BK339.out) hb); have n2_ := Aside0.mk (below_step (by repeat (first | (with_reducible first | exact HB.out | apply below_alloc | apply pw_below_drewN | apply below_drew1 | refine below_set ?_ GE330.out | refine below_set ?_ GE339.out) | exact HB.out)) hb); clear BK330; clear BK339; clear HB; have BK330 := n0_; have BK339 := n1_; have HB := n2_; clear n0_ n1_ n2_; (try clear hb); (try clear hb2); (try clear hk); (try clear hi)) | (go_at_call 23; (with_reducible refine (spec_CondName.calls t309 t353 _ A79.out).mono ?_); rintro e w92 ⟨rfl, hb⟩; have n0_ := Aside0.mk (blk_below (g := gb330) (o := .cells #[.int .i64 t324, .int .i64 t325, .int .i64 t326, .bool t327, .int .i64 t328] 33 (0, 0)) (by (with_reducible repeat (first | refine blk_drewN ?_ _ | refine blk_drew ?_ | refine blk_alloc ?_ _)); exact BK330.out) hb); have n1_ := Aside0.mk (blk_below (g := gb339) (o := .cells #[.int .i64 t333, .int .i64 t334, .int .i64 t335, .bool t336, .int .i64 t337] 33 (0, 0)) (by (with_reducible repeat (first | refine blk_drewN ?_ _ | refine blk_drew ?_ | refine blk_alloc ?_ _)); exact BK339.out) hb); have n2_ := Aside0.mk (below_step (by repeat (first | (with_reducible first | exact HB.out | apply below_alloc | apply pw_below_drewN | apply below_drew1 | refine below_set ?_ GE330.out | refine below_set ?_ GE339.out) | exact HB.out)) hb); clear BK330; clear BK339; clear HB; have BK330 := n0_; have BK339 := n1_; have HB := n2_; clear n0_ n1_ n2_; (try clear hb); (try clear hb2); (try clear hk); (try clear hi)))
                                              go_ret
                                              exact ⟨by first | (rw [hE.out]; rfl) | rfl | (simp [errW_none, errW_some] <;> rfl) | (simp [*, errW_none, errW_some] <;> rfl), by repeat (first | (with_reducible first | exact HB.out | apply below_alloc | apply pw_below_drewN | apply below_drew1 | refine below_set ?_ GE330.out | refine below_set ?_ GE339.out) | exact HB.out)⟩
                                            · rw [if_neg c84] at H
                                              have c84b0 : (t319 == 0) = false := beq_eq_false_iff_ne.mpr c84
                                              have c84b1 : (t319 != 0) = true := bne_iff_ne.mpr c84
                                              exact absurd H (by decide)
                                          · rw [if_neg c83] at H
                                            have c83b0 : (t316 == t310) = false := beq_eq_false_iff_ne.mpr c83
                                            have c83b1 : (t316 != t310) = true := bne_iff_ne.mpr c83
                                            exact absurd H (by decide)
                                        · rw [if_neg c82] at H
                                          have c82b0 : (t315 == x8_13) = false := beq_eq_false_iff_ne.mpr c82
                                          have c82b1 : (t315 != x8_13) = true := bne_iff_ne.mpr c82
                                          exact absurd H (by decide)
                                      · rw [if_neg c81] at H
                                        have c81b0 : (t317 == 0) = false := beq_eq_false_iff_ne.mpr c81
                                        have c81b1 : (t317 != 0) = true := bne_iff_ne.mpr c81
                                        exact absurd H (by decide)
                                    · rw [if_neg c80] at H
                                      have c80b0 : (t352.toList == t353.toList) = false := beq_eq_false_iff_ne.mpr c80
                                      have c80b1 : (t352.toList != t353.toList) = true := bne_iff_ne.mpr c80
                                      have c80b2 : (t350.toList == t353.toList) = false := by rw [Option.some.inj (A75.out.symm.trans A78.out)]; exact c80b0
                                      have c80b3 : (t350.toList != t353.toList) = true := by rw [Option.some.inj (A75.out.symm.trans A78.out)]; exact c80b1
                                      exact absurd H (by decide)
                                  · rw [if_neg c77] at H
                                    have c77b0 : (t351 == t309) = false := beq_eq_false_iff_ne.mpr c77
                                    have c77b1 : (t351 != t309) = true := bne_iff_ne.mpr c77
                                    exact absurd H (by decide)
                                · rw [if_neg c74] at H
                                  have c74b0 : (t348.toList == t349.toList) = false := beq_eq_false_iff_ne.mpr c74
                                  have c74b1 : (t348.toList != t349.toList) = true := bne_iff_ne.mpr c74
                                  have c74b2 : (t346.toList == t349.toList) = false := by rw [Option.some.inj (A69.out.symm.trans A72.out)]; exact c74b0
                                  have c74b3 : (t346.toList != t349.toList) = true := by rw [Option.some.inj (A69.out.symm.trans A72.out)]; exact c74b1
                                  exact absurd H (by decide)
                              · rw [if_neg c71] at H
                                have c71b0 : (t347 == (wrap64 (1 + t308))) = false := beq_eq_false_iff_ne.mpr c71
                                have c71b1 : (t347 != (wrap64 (1 + t308))) = true := bne_iff_ne.mpr c71
                                exact absurd H (by decide)

/-- THE ONE PURE STATEMENT of laws_FnNames: yours. -/
def laws_FnNames.Pure : Prop := ∀ (l0 : List Int) (l1 : List Int), l0.length ≤ maxLen → l0.length * 1 ≤ 140737488351232 → (∀ x ∈ l0, (Lit.int .u8 x).wf = true) → l1.length ≤ maxLen → l1.length * 1 ≤ 140737488351232 → (∀ x ∈ l1, (Lit.int .u8 x).wf = true) → ∃ k, laws_FnNames.f k l0 l1 = some true
theorem laws_FnNames.walk (P : laws_FnNames.Pure) (a0 : Option Addr) (len0 cap0 : Nat) (z0 : List Int) (a1 : Option Addr) (len1 cap1 : Nat) (z1 : List Int) (w : World) (w0 : (a0 = none ∧ len0 = 0 ∧ cap0 = 0 ∧ z0 = []) ∨ ∃ x, a0 = some x ∧ len0 ≤ cap0 ∧ cap0 ≤ maxLen ∧ z0.length = cap0 ∧ (∀ i, i < z0.length → w.cell? (x.add i) = some (.int .u8 (z0.getD i 0))) ∧ ∀ n ∈ z0, (Lit.int .u8 n).wf = true) (y0 : len0 * 1 ≤ 140737488351232) (w1 : (a1 = none ∧ len1 = 0 ∧ cap1 = 0 ∧ z1 = []) ∨ ∃ x, a1 = some x ∧ len1 ≤ cap1 ∧ cap1 ≤ maxLen ∧ z1.length = cap1 ∧ (∀ i, i < z1.length → w.cell? (x.add i) = some (.int .u8 (z1.getD i 0))) ∧ ∀ n ∈ z1, (Lit.int .u8 n).wf = true) (y1 : len1 * 1 ≤ 140737488351232) :
    Calls Tryd.prog 5 #[.slice a0 len0 cap0, .slice a1 len1 cap1] w fun e w' => e = .returned (.bool true) ∧ Below w.heap.size w w' := by
  obtain ⟨l0, rfl, hr0, hm0, hw0, hc0⟩ := ReadsInt.ofRowC w0
  obtain ⟨l1, rfl, hr1, hm1, hw1, hc1⟩ := ReadsInt.ofRowC w1
  obtain ⟨k, h⟩ := P l0 l1 hm0 y0 hw0 hm1 y1 hw1
  refine (laws_FnNames.calls k _ _ l0 _ _ l1 w (Kd.C_of_reads (d := (0 : Int)) (h1 := fun _ => rfl) hr0) hc0 (Kd.C_of_reads (d := (0 : Int)) (h1 := fun _ => rfl) hr1) hc1 h).mono ?_
  rintro e w' ⟨rfl, hd⟩
  exact ⟨rfl, hd⟩

end Go.Proofs.YtkaffpbclanoeaaDoor.PFnNames
