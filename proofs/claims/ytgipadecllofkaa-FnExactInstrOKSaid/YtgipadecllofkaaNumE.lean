import Derived.Test.YtgipadecllofkaaNumB
namespace Go.Proofs.Ytgipadecllofkaa.Num
open Go.RowKit Go.Proofs.YtgipadecllofkaaW.PrintWords Go.Proofs.YtgipadecllofkaaW.PrintMore
set_option linter.unusedVariables false

/-! Long division, a digit of 32 bits. y = a * 2^32 + b; u < y; n = u * 2^32 + d. -/
section
variable {y a b u d q r n : Nat}
theorem dig_test (hy : y = 4294967296 * a + b) (hq : q * a + r = u) (hn : n = 4294967296 * u + d) : (q * b > 4294967296 * r + d) ↔ n < q * y := by
  have e : q * y = 4294967296 * (q * a) + q * b := by rw [hy, Nat.mul_add, ← Nat.mul_assoc, Nat.mul_comm q, Nat.mul_assoc]
  rw [e, hn, ← hq]; generalize q * a = A; generalize q * b = B; omega
theorem dig_small (hu : u < y) (hn : n = 4294967296 * u + d) (hd : d < 4294967296) : n / y < 4294967296 := by
  rw [Nat.div_lt_iff_lt_mul (by omega)]; omega
/-- The loop's question is whether q is too great. -/
theorem dig_ask (hy : y = 4294967296 * a + b) (hu : u < y) (hd : d < 4294967296) (hq : q * a + r = u) (hn : n = 4294967296 * u + d) :
    (q ≥ 4294967296 ∨ q * b > 4294967296 * r + d) ↔ n / y < q := by
  have h1 := dig_small hu hn hd
  rw [dig_test hy hq hn, Nat.div_lt_iff_lt_mul (by omega)]
  constructor
  · rintro (h | h)
    · rw [← Nat.div_lt_iff_lt_mul (by omega)]; omega
    · exact h
  · intro h; exact .inr h
theorem dig_stop (hy : y = 4294967296 * a + b) (hb : b < 4294967296) (hu : u < y) (hq : q * a + r = u) (hn : n = 4294967296 * u + d) (hr : r ≥ 4294967296) (hq1 : q ≤ 4294967296) (hl : n / y ≤ q) : q = n / y := by
  apply Nat.le_antisymm _ hl
  rw [Nat.le_div_iff_mul_le (by omega)]
  have h := dig_test hy hq hn
  have : q * b ≤ 4294967296 * 4294967295 := Nat.mul_le_mul hq1 (by omega)
  omega
theorem dig_first_le (hy : y = 4294967296 * a + b) (ha : 2147483648 ≤ a) (hb : b < 4294967296) (hu : u < y) : u / a ≤ 4294967297 := by
  have : u < a * 4294967298 := by omega
  have := Nat.div_lt_of_lt_mul this
  omega
theorem dig_first_ge (hy : y = 4294967296 * a + b) (ha : 0 < a) (hn : n = 4294967296 * u + d) (hd : d < 4294967296) : n / y ≤ u / a := by
  have h1 : n / y ≤ n / (4294967296 * a) := Nat.div_le_div_left (by omega) (by omega)
  have h2 : n / (4294967296 * a) = n / 4294967296 / a := (Nat.div_div_eq_div_mul _ _ _).symm
  have h3 : n / 4294967296 = u := by omega
  rw [h2, h3] at h1
  exact h1
end
theorem u64_emod {n : Int} : IntKind.u64.wrap n = n % 18446744073709551616 := IntKind.wrap_u64 n
/-- What the lowest 64 bits of a difference are, where the difference is small. -/
theorem rest_wrap {A d B v : Nat} (h : 4294967296 * A + d = B + v) (hv : v < 18446744073709551616) (hd : d < 4294967296) :
    IntKind.u64.wrap (IntKind.u64.wrap (IntKind.u64.wrap ((A : Int) * 4294967296) + (d : Int)) - IntKind.u64.wrap ((B : Nat) : Int)) = (v : Int) := by
  simp only [u64_emod]
  omega
theorem tdiv_nat (a b : Nat) : Int.tdiv (a : Int) (b : Int) = ((a / b : Nat) : Int) := by
  rw [Int.tdiv_eq_ediv_of_nonneg (Int.natCast_nonneg _)]; rfl
theorem tmod_nat (a b : Nat) : Int.tmod (a : Int) (b : Int) = ((a % b : Nat) : Int) := by
  rw [Int.tmod_eq_emod_of_nonneg (Int.natCast_nonneg _)]; rfl
/-- One bit more of a division by hand. -/
theorem div_bit {q r D N b : Nat} (h : q * D + r = N) : (2 * q + 1) * D + (2 * r + b - D) = 2 * N + b ∨ 2 * r + b < D := by
  by_cases hc : 2 * r + b < D
  · exact .inr hc
  · left
    have e : (2 * q + 1) * D = 2 * (q * D) + D := by rw [Nat.add_mul, Nat.mul_assoc, Nat.one_mul]
    rw [e]; omega
theorem div_bit0 {q r D N b : Nat} (h : q * D + r = N) : 2 * q * D + (2 * r + b) = 2 * N + b := by
  rw [Nat.mul_assoc]; omega
theorem quo_lt {q r D H L : Nat} (h : q * D + r ≤ 18446744073709551616 * H + L) (hH : H < D) (hL : L < 18446744073709551616) : q < 18446744073709551616 := by
  rcases Nat.lt_or_ge q 18446744073709551616 with h1 | h1
  · exact h1
  · have h2 : 18446744073709551616 * D ≤ q * D := Nat.mul_le_mul_right _ h1
    omega
theorem shr_step {L j : Nat} (H : Nat) (hj : j < 64) : H * 2 ^ (64 - j) + L / 2 ^ j = 2 * (H * 2 ^ (64 - (j + 1)) + L / 2 ^ (j + 1)) + L / 2 ^ j % 2 := by
  have h1 := half_step L j
  have e : 64 - j = 64 - (j + 1) + 1 := by omega
  rw [e, Nat.pow_succ, ← Nat.mul_assoc]
  omega
/-- A number whose head is b, of t bits, has m bits more. -/
theorem bits_of_head {x m t : Nat} (ht : 1 ≤ t) (h0 : 2 ^ (t - 1) ≤ x / 2 ^ m) (h1 : x / 2 ^ m < 2 ^ t) : 2 ^ (m + t - 1) ≤ x ∧ x < 2 ^ (m + t) := by
  have hp := Nat.two_pow_pos m
  rw [Nat.le_div_iff_mul_le hp, ← Nat.pow_add] at h0
  rw [Nat.div_lt_iff_lt_mul hp, ← Nat.pow_add] at h1
  exact ⟨by rwa [show m + t - 1 = t - 1 + m by omega], by rwa [Nat.add_comm]⟩
end Go.Proofs.Ytgipadecllofkaa.Num
