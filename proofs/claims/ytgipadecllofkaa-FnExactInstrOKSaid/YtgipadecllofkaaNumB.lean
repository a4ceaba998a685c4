import Derived.Test.YtgipadecllofkaaNum
namespace Go.Proofs.Ytgipadecllofkaa.Num
open Go.RowKit Go.Proofs.YtgipadecllofkaaW.PrintWords Go.Proofs.YtgipadecllofkaaW.PrintMore
set_option linter.unusedVariables false

theorem and_u64 (x : Int) (h0 : 0 ≤ x) (h1 : x ≤ 18446744073709551615) : Go.bits .and .u64 x 4294967295 = x % 4294967296 :=
  bits_mask .u64 64 (by decide) (fun n h0 h1 => u64_in h0 (by omega)) 32 (by decide) x h0 (by omega)
theorem wide_step {a b j h l : Nat} (ha : a < 18446744073709551616) (hb : b < 18446744073709551616) (hp : 18446744073709551616 * h + l = a * (b / 2 ^ (j + 1))) (hl : l < 18446744073709551616) :
    (b / 2 ^ j % 2 = 0 → 18446744073709551616 * (h * 2 + l / 9223372036854775808) + l * 2 % 18446744073709551616 = a * (b / 2 ^ j)) ∧
    (b / 2 ^ j % 2 = 1 → 18446744073709551616 * (h * 2 + l / 9223372036854775808) + l * 2 % 18446744073709551616 + a = a * (b / 2 ^ j)) ∧ a * (b / 2 ^ j) < 340282366920938463463374607431768211456 := by
  have h1 := half_step b j
  have h2 : b / 2 ^ j ≤ b := Nat.div_le_self _ _
  have h3 : a * (b / 2 ^ j) ≤ 18446744073709551615 * 18446744073709551615 := Nat.mul_le_mul (by omega) (by omega)
  have e : a * (b / 2 ^ j) = 2 * (a * (b / 2 ^ (j + 1))) + a * (b / 2 ^ j % 2) := by
    generalize b / 2 ^ (j + 1) = q at *
    generalize b / 2 ^ j = r at *
    generalize r % 2 = t at *
    subst h1
    rw [Nat.mul_add, ← Nat.mul_assoc, Nat.mul_comm 2]
  generalize b / 2 ^ (j + 1) = q at *
  generalize b / 2 ^ j = r at *
  generalize a * q = p at *
  generalize a * r = s at *
  have h6 : 18446744073709551616 * (l / 9223372036854775808) + l * 2 % 18446744073709551616 = l * 2 := by omega
  generalize l / 9223372036854775808 = u at *
  generalize l * 2 % 18446744073709551616 = v at *
  clear h1 h2
  refine ⟨fun h0 => ?_, fun h0 => ?_, by omega⟩
  · rw [h0, Nat.mul_zero] at e
    clear h3 h0
    omega
  · rw [h0, Nat.mul_one] at e
    clear h3 h0
    omega
theorem mul_parts (a b : Nat) : a * b = 18446744073709551616 * (a / 4294967296 * (b / 4294967296)) + 4294967296 * (a / 4294967296 * (b % 4294967296) + a % 4294967296 * (b / 4294967296)) + a % 4294967296 * (b % 4294967296) := by
  have ea : a = 4294967296 * (a / 4294967296) + a % 4294967296 := by omega
  have eb : b = 4294967296 * (b / 4294967296) + b % 4294967296 := by omega
  generalize a / 4294967296 = a1 at *
  generalize a % 4294967296 = a0 at *
  generalize b / 4294967296 = b1 at *
  generalize b % 4294967296 = b0 at *
  subst ea eb
  rw [Nat.add_mul, Nat.mul_add, Nat.mul_add, Nat.mul_assoc 4294967296 a1, ← Nat.mul_assoc a1 4294967296, Nat.mul_comm a1 4294967296, Nat.mul_assoc 4294967296 a1 b1, Nat.mul_assoc 4294967296 a1 b0, ← Nat.mul_assoc a0 4294967296, Nat.mul_comm a0 4294967296, Nat.mul_assoc 4294967296 a0 b1]
  generalize a1 * b1 = p
  generalize a1 * b0 = q
  generalize a0 * b1 = r
  generalize a0 * b0 = s
  omega
end Go.Proofs.Ytgipadecllofkaa.Num
