/- The program's ZeroOf answers as the reference's at every two numbers. -/
import Derived.Test.YtmnjomglpkbifaaPFnExactZeroOfx1
import Derived.Test.YtmnjomglpkbifaaNum
namespace Go.Proofs.Ytmnjomglpkbifaa.Pure
open Go.RowKit Go.Proofs.Ytmnjomglpkbifaa.PFnExactZeroOf Go.Proofs.YtmnjomglpkbifaaW.PrintWords Go.Proofs.YtmnjomglpkbifaaW.PrintLast Go.Proofs.YtmnjomglpkbifaaW.PrintMore Go.Proofs.Ytmnjomglpkbifaa.Num

theorem size_spec (s : Int) : spec_l01Size.f s = some (decide (Sz s)) := by
  unfold spec_l01Size.f Sz
  by_cases h1 : s = 1 <;> by_cases h2 : s = 2 <;> by_cases h4 : s = 4 <;> by_cases h8 : s = 8 <;> simp_all
theorem size_impl (s : Int) : impl_isSize.f s = some (decide (Sz s)) := size_spec s
theorem bit_spec (a i : Int) (h0 : 0 ≤ i) (h1 : i < 64) : spec_l01Bit.f a i = some (bit a i) := by
  unfold spec_l01Bit.f
  have hi : IntKind.u64.wrap i = i := u64_in h0 (by omega)
  have ha : IntKind.u64.wrap a = (un a : Int) := by rw [IntKind.wrap_u64, un_eq]
  rw [hi, if_pos h0, ha, shr_u64 _ _ (by omega) h0 h1, Int.toNat_natCast]
  unfold bit
  have e : Int.tmod ((un a / 2 ^ i.toNat : Nat) : Int) 2 = ((un a / 2 ^ i.toNat % 2 : Nat) : Int) := by
    rw [Int.tmod_eq_emod_of_nonneg (Int.natCast_nonneg _)]; rfl
  rw [e]
  rcases Nat.mod_two_eq_zero_or_one (un a / 2 ^ i.toNat) with h | h <;> rw [h] <;> simp
theorem zero_loop (a : Int) (n : Nat) (hn : n ≤ 64) : ∀ (j k : Nat), j ≤ n → j < k →
    spec_l01Zero.l0 k a ((un a % 2 ^ n / 2 ^ j : Nat) : Int) ((j : Int) - 1) = some (wrap64 ((un a % 2 ^ n : Nat) : Int))
  | j, 0, _, hk => by omega
  | 0, k + 1, _, _ => by
    simp only [spec_l01Zero.l0]
    rw [if_neg (by omega)]
    simp
  | j + 1, k + 1, hj, hk => by
    simp only [spec_l01Zero.l0]
    rw [if_pos (by omega), show ((j + 1 : Nat) : Int) - 1 = (j : Int) by omega, bit_spec _ _ (by omega) (by omega)]
    simp only [Option.bind_some]
    have hl := un_lt' a
    have h2 : un a % 2 ^ n ≤ un a := Nat.mod_le _ _
    have h3 := half_step (un a % 2 ^ n) j
    have h4 := mod_bit (un a) n j (by omega)
    have h5 : un a % 2 ^ n / 2 ^ j ≤ un a % 2 ^ n := Nat.div_le_self _ _
    have e : IntKind.u64.wrap (IntKind.u64.wrap (2 * ((un a % 2 ^ n / 2 ^ (j + 1) : Nat) : Int)) + IntKind.u64.wrap (bit a (j : Int))) = ((un a % 2 ^ n / 2 ^ j : Nat) : Int) := by
      unfold bit
      rw [Int.toNat_natCast, ← h4]
      rw [u64_in (n := 2 * _) (by omega) (by omega), u64_in (n := ((un a % 2 ^ n / 2 ^ j % 2 : Nat) : Int)) (by omega) (by omega), u64_in (by omega) (by omega)]
      omega
    rw [e, show wrap64 ((j : Int) - 1) = (j : Int) - 1 from w64_in (by omega) (by omega)]
    exact zero_loop a n hn j k (by omega) (by omega)
theorem zero_spec {k : Nat} {a s : Int} (hs : Sz s) (ha : -9223372036854775808 ≤ a ∧ a ≤ 9223372036854775807) (hk : 64 < k) : spec_l01Zero.f k a s = some (zeroZ a s) := by
  unfold spec_l01Zero.f
  have h8 : 0 ≤ 8 * s ∧ 8 * s ≤ 64 := by rcases hs with rfl | rfl | rfl | rfl <;> omega
  rw [w64_in (n := 8 * s) (by omega) (by omega), w64_in (by omega) (by omega), ← zeroZ_un hs ha]
  have h := zero_loop a (8 * s).toNat (by omega) (8 * s).toNat k (by omega) (by omega)
  rw [show un a % 2 ^ (8 * s).toNat / 2 ^ (8 * s).toNat = 0 from Nat.div_eq_of_lt (Nat.mod_lt _ (Nat.two_pow_pos _)), show (((8 * s).toNat : Nat) : Int) = 8 * s by omega] at h
  exact h
theorem zero_impl {a s : Int} (hs : Sz s) : impl_zero.f a s = some (zeroZ a s) := by
  unfold impl_zero.f
  rcases hs with rfl | rfl | rfl | rfl
  · rw [if_neg (by omega), if_pos (by unfold wrap64; omega), show wrap64 (shl .i64 1 (wrap64 (8 * 1)) - 1) = 2 ^ 8 - 1 by decide +kernel, and_mask _ _ (by decide)]; rfl
  · rw [if_neg (by omega), if_pos (by unfold wrap64; omega), show wrap64 (shl .i64 1 (wrap64 (8 * 2)) - 1) = 2 ^ 16 - 1 by decide +kernel, and_mask _ _ (by decide)]; rfl
  · rw [if_neg (by omega), if_pos (by unfold wrap64; omega), show wrap64 (shl .i64 1 (wrap64 (8 * 4)) - 1) = 2 ^ 32 - 1 by decide +kernel, and_mask _ _ (by decide)]; rfl
  · rw [if_pos rfl]; rfl
theorem FnExactZeroOf : laws_FnExactZeroOf.Pure := by
  intro a s ha _
  refine ⟨65, ?_⟩
  unfold laws_FnExactZeroOf.f spec_ZeroOf.f impl_ZeroOf.f
  rw [size_spec, size_impl]
  by_cases hs : Sz s
  · simp only [hs, decide_true, Option.bind_some, if_true]
    rw [zero_spec hs (wf_i64 ha) (by omega), zero_impl hs]
    simp
  · simp [hs]

end Go.Proofs.Ytmnjomglpkbifaa.Pure
