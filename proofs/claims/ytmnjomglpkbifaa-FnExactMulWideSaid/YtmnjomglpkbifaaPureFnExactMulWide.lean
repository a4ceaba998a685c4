/- The program's MulWide answers as the reference's at every two numbers. -/
import Derived.Test.YtmnjomglpkbifaaPFnExactMulWidex1
import Derived.Test.YtmnjomglpkbifaaNumB
namespace Go.Proofs.Ytmnjomglpkbifaa.Pure
open Go.RowKit Go.Proofs.Ytmnjomglpkbifaa.PFnExactMulWide Go.Proofs.YtmnjomglpkbifaaW.PrintWords Go.Proofs.YtmnjomglpkbifaaW.PrintLast Go.Proofs.YtmnjomglpkbifaaW.PrintMore Go.Proofs.Ytmnjomglpkbifaa.Num

theorem wide_loop {a b : Nat} (ha : a < 18446744073709551616) (hb : b < 18446744073709551616) : ∀ (j k h l : Nat), j ≤ 64 → j < k → l < 18446744073709551616 → 18446744073709551616 * h + l = a * (b / 2 ^ j) →
    spec_l01Wide.l0 k (a : Int) (b : Int) (h : Int) (l : Int) ((j : Int) - 1) = some (((a * b / 18446744073709551616 : Nat) : Int), ((a * b % 18446744073709551616 : Nat) : Int))
  | j, 0, _, _, _, hk, _, _ => by omega
  | 0, k + 1, h, l, _, _, hl, hp => by
    simp only [spec_l01Wide.l0]
    rw [if_neg (by omega)]
    simp only [Nat.pow_zero, Nat.div_one] at hp
    rw [show a * b / 18446744073709551616 = h by omega, show a * b % 18446744073709551616 = l by omega]
  | j + 1, k + 1, h, l, hj, hk, hl, hp => by
    simp only [spec_l01Wide.l0]
    obtain ⟨s0, s1, s2⟩ := wide_step ha hb hp hl
    have hi : IntKind.u64.wrap ((j : Int)) = (j : Int) := u64_in (by omega) (by omega)
    have e : Int.tmod ((b / 2 ^ j : Nat) : Int) 2 = ((b / 2 ^ j % 2 : Nat) : Int) := by rw [Int.tmod_eq_emod_of_nonneg (Int.natCast_nonneg _)]; rfl
    have hs : shr .u64 (b : Int) (j : Int) = ((b / 2 ^ j : Nat) : Int) := by rw [shr_u64 _ _ (by omega) (by omega) (by omega)]; simp
    rw [if_pos (by omega), show ((j + 1 : Nat) : Int) - 1 = (j : Int) by omega, hi, if_pos (by omega), hs, e, show wrap64 ((j : Int) - 1) = (j : Int) - 1 from w64_in (by omega) (by omega)]
    have hm : IntKind.u64.wrap ((l : Int) * 2) = ((l * 2 % 18446744073709551616 : Nat) : Int) := by rw [IntKind.wrap_u64]; omega
    rw [hm]
    rcases Nat.mod_two_eq_zero_or_one (b / 2 ^ j) with h0 | h0
    · have s := s0 h0
      rw [h0, if_neg (by omega)]
      have hh : IntKind.u64.wrap (IntKind.u64.wrap ((h : Int) * 2) + (l : Int) / 9223372036854775808) = ((h * 2 + l / 9223372036854775808 : Nat) : Int) := by
        rw [u64_in (n := (h : Int) * 2) (by omega) (by omega), u64_in (by omega) (by omega)]; omega
      rw [hh]
      exact wide_loop ha hb j k _ _ (by omega) (by omega) (by omega) s
    · have s := s1 h0
      rw [h0, if_pos (by omega)]
      have hh : IntKind.u64.wrap (IntKind.u64.wrap ((h : Int) * 2) + (l : Int) / 9223372036854775808) = ((h * 2 + l / 9223372036854775808 : Nat) : Int) := by
        rw [u64_in (n := (h : Int) * 2) (by omega) (by omega), u64_in (by omega) (by omega)]; omega
      have ha2 : IntKind.u64.wrap (((l * 2 % 18446744073709551616 : Nat) : Int) + (a : Int)) = (((l * 2 % 18446744073709551616 + a) % 18446744073709551616 : Nat) : Int) := by rw [IntKind.wrap_u64]; omega
      rw [hh, ha2]
      by_cases c : (((l * 2 % 18446744073709551616 + a) % 18446744073709551616 : Nat) : Int) < ((l * 2 % 18446744073709551616 : Nat) : Int)
      · rw [if_pos c]
        have hc : IntKind.u64.wrap (((h * 2 + l / 9223372036854775808 : Nat) : Int) + 1) = ((h * 2 + l / 9223372036854775808 + 1 : Nat) : Int) := by rw [u64_in (by omega) (by omega)]; omega
        rw [hc]
        exact wide_loop ha hb j k _ _ (by omega) (by omega) (by omega) (by omega)
      · rw [if_neg c]
        exact wide_loop ha hb j k _ _ (by omega) (by omega) (by omega) (by omega)
theorem wide_spec {a b : Nat} (ha : a < 18446744073709551616) (hb : b < 18446744073709551616) {k : Nat} (hk : 64 < k) :
    spec_l01Wide.f k (a : Int) (b : Int) = some (((a * b / 18446744073709551616 : Nat) : Int), ((a * b % 18446744073709551616 : Nat) : Int)) := by
  unfold spec_l01Wide.f
  refine wide_loop ha hb 64 k 0 0 (by omega) hk (by omega) ?_
  rw [Nat.div_eq_of_lt (by omega)]; rfl
theorem mul64_tells {a b : Nat} (ha : a < 18446744073709551616) (hb : b < 18446744073709551616) :
    bits_Mul64.f (a : Int) (b : Int) = some (((a * b / 18446744073709551616 : Nat) : Int), ((a * b % 18446744073709551616 : Nat) : Int)) := by
  unfold bits_Mul64.f
  rw [and_u64 _ (by omega) (by omega), and_u64 _ (by omega) (by omega)]
  have e := mul_parts a b
  have b1 : a / 4294967296 * (b / 4294967296) ≤ 4294967295 * 4294967295 := Nat.mul_le_mul (by omega) (by omega)
  have b2 : a / 4294967296 * (b % 4294967296) ≤ 4294967295 * 4294967295 := Nat.mul_le_mul (by omega) (by omega)
  have b3 : a % 4294967296 * (b / 4294967296) ≤ 4294967295 * 4294967295 := Nat.mul_le_mul (by omega) (by omega)
  have b4 : a % 4294967296 * (b % 4294967296) ≤ 4294967295 * 4294967295 := Nat.mul_le_mul (by omega) (by omega)
  have c1 : ((a : Int) / 4294967296) * ((b : Int) / 4294967296) = ((a / 4294967296 * (b / 4294967296) : Nat) : Int) := by simp
  have c2 : ((a : Int) / 4294967296) * ((b : Int) % 4294967296) = ((a / 4294967296 * (b % 4294967296) : Nat) : Int) := by simp
  have c3 : ((a : Int) % 4294967296) * ((b : Int) / 4294967296) = ((a % 4294967296 * (b / 4294967296) : Nat) : Int) := by simp
  have c4 : ((a : Int) % 4294967296) * ((b : Int) % 4294967296) = ((a % 4294967296 * (b % 4294967296) : Nat) : Int) := by simp
  have c5 : (a : Int) * (b : Int) = ((a * b : Nat) : Int) := by simp
  rw [c1, c2, c3, c4, c5]
  generalize a * b = p at *
  generalize a / 4294967296 * (b / 4294967296) = p1 at *
  generalize a / 4294967296 * (b % 4294967296) = p2 at *
  generalize a % 4294967296 * (b / 4294967296) = p3 at *
  generalize a % 4294967296 * (b % 4294967296) = p4 at *
  rw [u64_in (n := (p4 : Int)) (by omega) (by omega), u64_in (n := (p2 : Int)) (by omega) (by omega), u64_in (n := (p1 : Int)) (by omega) (by omega), u64_in (n := (p3 : Int)) (by omega) (by omega)]
  rw [u64_in (n := (p2 : Int) + (p4 : Int) / 4294967296) (by omega) (by omega), and_u64 _ (by omega) (by omega)]
  rw [u64_in (n := (p1 : Int) + _) (by omega) (by omega), u64_in (n := _ + (p3 : Int)) (by omega) (by omega), u64_in (n := (p1 : Int) + _ + _) (by omega) (by omega), IntKind.wrap_u64]
  congr 2 <;> omega
theorem mulWide_spec (a b : Int) {k : Nat} (hk : 64 < k) : spec_MulWide.f k a b = some (wrap64 ((un a * un b / 18446744073709551616 : Nat) : Int), wrap64 ((un a * un b % 18446744073709551616 : Nat) : Int)) := by
  unfold spec_MulWide.f
  have ha : IntKind.u64.wrap a = (un a : Int) := by rw [IntKind.wrap_u64, un_eq]
  have hb : IntKind.u64.wrap b = (un b : Int) := by rw [IntKind.wrap_u64, un_eq]
  rw [ha, hb, wide_spec (un_lt' a) (un_lt' b) hk]
  rfl
theorem mulWide_impl (a b : Int) : impl_MulWide.f a b = some (wrap64 ((un a * un b / 18446744073709551616 : Nat) : Int), wrap64 ((un a * un b % 18446744073709551616 : Nat) : Int)) := by
  unfold impl_MulWide.f
  have ha : IntKind.u64.wrap a = (un a : Int) := by rw [IntKind.wrap_u64, un_eq]
  have hb : IntKind.u64.wrap b = (un b : Int) := by rw [IntKind.wrap_u64, un_eq]
  rw [ha, hb, mul64_tells (un_lt' a) (un_lt' b)]
  rfl
theorem both {k : Nat} {a b : Int} {p : Int × Int} (h1 : spec_MulWide.f k a b = some p) (h2 : impl_MulWide.f a b = some p) : laws_FnExactMulWide.f k a b = some true := by
  unfold laws_FnExactMulWide.f
  rw [h1, h2]
  simp only [Option.bind_some, if_true]
theorem FnExactMulWide : laws_FnExactMulWide.Pure := fun a b _ _ => ⟨65, both (mulWide_spec a b (by omega)) (mulWide_impl a b)⟩

end Go.Proofs.Ytmnjomglpkbifaa.Pure
