/- The program's ShapeOf answers as the reference's at every byte and flag. -/
import Derived.Test.YtkaffpbclanoeaaPFnExactShapeOfx6
namespace Go.Proofs.Ytkaffpbclanoeaa.Pure
open Go.RowKit Go.Proofs.Ytkaffpbclanoeaa.PFnExactShapeOf Go.Proofs.YtkaffpbclanoeaaW.PrintWords Go.Proofs.YtkaffpbclanoeaaW.PrintLast Go.Proofs.YtkaffpbclanoeaaW.PrintMore
set_option linter.unusedVariables false

theorem shape_all : ∀ (s : Bool) (b : Fin 256), laws_FnExactShapeOf.f 5 s (b.val : Int) = some true := by decide +kernel
theorem in_out {n : Int} (h : ¬ (0 ≤ n ∧ n ≤ 255)) : spec_l01In.f n 0 255 = some false := by
  unfold spec_l01In.f
  by_cases a : n ≥ 0 <;> by_cases c : n ≤ 255 <;> simp [a, c] <;> omega
theorem within_out {n : Int} (h : ¬ (0 ≤ n ∧ n ≤ 255)) : impl_within.f n 0 255 = some false := by
  unfold impl_within.f
  by_cases a : n ≥ 0 <;> by_cases c : n ≤ 255 <;> simp [a, c] <;> omega
theorem shape_tells (s : Bool) (b : Int) : laws_FnExactShapeOf.f 5 s b = some true := by
  by_cases h : 0 ≤ b ∧ b ≤ 255
  · have t := shape_all s ⟨b.toNat, by omega⟩
    simp only [show ((b.toNat : Nat) : Int) = b by omega] at t
    exact t
  · have e1 : spec_ShapeOf.f s b = some (0, 0, 0, false, 0, 4) := by
      unfold spec_ShapeOf.f
      rw [in_out h]
      rfl
    have e2 : impl_ShapeOf.f 5 s b = some (0, 0, 0, false, 0, 4) := by
      unfold impl_ShapeOf.f impl_isByte.f
      rw [within_out h]
      rfl
    unfold laws_FnExactShapeOf.f
    rw [e1, e2]
    rfl
theorem FnExactShapeOf : laws_FnExactShapeOf.Pure := fun s b _ => ⟨5, shape_tells s b⟩

end Go.Proofs.Ytkaffpbclanoeaa.Pure
