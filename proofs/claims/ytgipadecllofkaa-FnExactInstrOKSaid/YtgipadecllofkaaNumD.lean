import Derived.Test.YtgipadecllofkaaNumC
namespace Go.Proofs.Ytgipadecllofkaa.Num
open Go.RowKit Go.Proofs.YtgipadecllofkaaW.PrintWords Go.Proofs.YtgipadecllofkaaW.PrintMore
set_option linter.unusedVariables false

/-- Byte i of a number. -/
def lowByte (a : Int) (i : Nat) : Int := a / 2 ^ (8 * i) % 256
/-- Its lowest n bytes, the lowest one first. -/
def lowBytes (a : Int) : Nat → List Int
  | 0 => []
  | n + 1 => lowBytes a n ++ [lowByte a n]
theorem lowBytes_length (a : Int) : ∀ n, (lowBytes a n).length = n
  | 0 => rfl
  | n + 1 => by simp [lowBytes, lowBytes_length a n]
theorem lowByte_shr {a : Int} {i : Nat} (hi : i < 8) : shr .i64 a (8 * (i : Int)) % 256 = lowByte a i := by
  unfold shr lowByte
  rw [show min (8 * (i : Int)).toNat IntKind.i64.bits = 8 * i by simp [IntKind.bits]; omega]
theorem lowByte_un {a : Int} {i : Nat} (hi : i < 8) : shr .u64 (IntKind.u64.wrap a) (IntKind.u64.wrap (8 * (i : Int))) % 256 = lowByte a i := by
  rw [u64_in (n := 8 * (i : Int)) (by omega) (by omega), IntKind.wrap_u64]
  unfold shr lowByte
  rw [show min (8 * (i : Int)).toNat IntKind.u64.bits = 8 * i by simp [IntKind.bits]; omega]
  have h : i = 0 ∨ i = 1 ∨ i = 2 ∨ i = 3 ∨ i = 4 ∨ i = 5 ∨ i = 6 ∨ i = 7 := by omega
  rcases h with rfl | rfl | rfl | rfl | rfl | rfl | rfl | rfl <;> simp <;> omega
theorem set_next (xs : List Int) (m : Nat) (v : Int) : (xs ++ List.replicate (m + 1) 0).set xs.length v = xs ++ [v] ++ List.replicate m 0 := by
  rw [List.set_append_right _ _ (Nat.le_refl _), Nat.sub_self, List.replicate_succ]
  simp
end Go.Proofs.Ytgipadecllofkaa.Num
