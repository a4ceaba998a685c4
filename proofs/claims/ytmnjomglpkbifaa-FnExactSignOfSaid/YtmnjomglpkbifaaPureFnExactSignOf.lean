/- The program's SignOf answers as the reference's at every two numbers. -/
import Derived.Test.YtmnjomglpkbifaaPFnExactSignOfx1
import Derived.Test.YtmnjomglpkbifaaNum
namespace Go.Proofs.Ytmnjomglpkbifaa.Pure
open Go.RowKit Go.Proofs.Ytmnjomglpkbifaa.PFnExactSignOf Go.Proofs.YtmnjomglpkbifaaW.PrintWords Go.Proofs.YtmnjomglpkbifaaW.PrintLast Go.Proofs.YtmnjomglpkbifaaW.PrintMore Go.Proofs.Ytmnjomglpkbifaa.Num

theorem size_spec (s : Int) : spec_l01Size.f s = some (decide (Sz s)) := by
  unfold spec_l01Size.f Sz
  by_cases h1 : s = 1 <;> by_cases h2 : s = 2 <;> by_cases h4 : s = 4 <;> by_cases h8 : s = 8 <;> simp_all
theorem size_impl (s : Int) : impl_isSize.f s = some (decide (Sz s)) := size_spec s
theorem bit_spec (a i : Int) (h0 : 0 ≤ i) (h1 : i < 64) : spec_l01Bit.f a i = some (bit a i) := by
  unfold spec_l01Bit.f
  have hi : IntKind.u64.wrap i = i := u64_in h0 (by omega)
  have ha : IntKind.u64.wrap a = (un a : Int) := by rw [IntKind.wrap_u64, un_eq]
  rw [hi, if_pos h0, ha, shr_u64 _ _ (by omega) h0 h1, Int.toNat_natCast]
  unfold bit
  have e : Int.tmod ((un a / 2 ^ i.toNat : Nat) : Int) 2 = ((un a / 2 ^ i.toNat % 2 : Nat) : Int) := by
    rw [Int.tmod_eq_emod_of_nonneg (Int.natCast_nonneg _)]; rfl
  rw [e]
  rcases Nat.mod_two_eq_zero_or_one (un a / 2 ^ i.toNat) with h | h <;> rw [h] <;> simp
theorem sign_loop (a s : Int) (hs : Sz s) : ∀ (j k : Nat), j ≤ 64 → j < k →
    spec_l01Sign.l0 k a s ((sgn (8 * s).toNat (un a) / 2 ^ j : Nat) : Int) ((j : Int) - 1) = some (wrap64 ((sgn (8 * s).toNat (un a) : Nat) : Int))
  | j, 0, _, hk => by omega
  | 0, k + 1, _, _ => by
    simp only [spec_l01Sign.l0]
    rw [if_neg (by omega)]
    simp
  | j + 1, k + 1, hj, hk => by
    simp only [spec_l01Sign.l0]
    have h8 : 8 ≤ 8 * s ∧ 8 * s ≤ 64 := by rcases hs with rfl | rfl | rfl | rfl <;> omega
    have hm : mn (j : Int) (wrap64 (wrap64 (8 * s) - 1)) = ((min j ((8 * s).toNat - 1) : Nat) : Int) := by
      rw [w64_in (n := 8 * s) (by omega) (by omega), w64_in (by omega) (by omega)]
      unfold mn
      split <;> omega
    rw [if_pos (by omega), show ((j + 1 : Nat) : Int) - 1 = (j : Int) by omega, hm, bit_spec _ _ (by omega) (by omega)]
    simp only [Option.bind_some]
    have hl := sgn_lt (8 * s).toNat (un a) (by omega) (by omega)
    have h3 := half_step (sgn (8 * s).toNat (un a)) j
    have h4 := sgn_bit (8 * s).toNat (un a) j (by omega) (by omega) (by omega)
    have h5 : sgn (8 * s).toNat (un a) / 2 ^ j ≤ sgn (8 * s).toNat (un a) := Nat.div_le_self _ _
    have e : IntKind.u64.wrap (IntKind.u64.wrap (2 * ((sgn (8 * s).toNat (un a) / 2 ^ (j + 1) : Nat) : Int)) + IntKind.u64.wrap (bit a ((min j ((8 * s).toNat - 1) : Nat) : Int))) = ((sgn (8 * s).toNat (un a) / 2 ^ j : Nat) : Int) := by
      unfold bit
      rw [Int.toNat_natCast, ← h4]
      rw [u64_in (n := 2 * _) (by omega) (by omega), u64_in (n := ((sgn (8 * s).toNat (un a) / 2 ^ j % 2 : Nat) : Int)) (by omega) (by omega), u64_in (by omega) (by omega)]
      omega
    rw [e, show wrap64 ((j : Int) - 1) = (j : Int) - 1 from w64_in (by omega) (by omega)]
    exact sign_loop a s hs j k (by omega) (by omega)
theorem sign_spec {k : Nat} {a s : Int} (hs : Sz s) (ha : -9223372036854775808 ≤ a ∧ a ≤ 9223372036854775807) (hk : 64 < k) : spec_l01Sign.f k a s = some (signZ a s) := by
  unfold spec_l01Sign.f
  have h8 : 8 ≤ 8 * s ∧ 8 * s ≤ 64 := by rcases hs with rfl | rfl | rfl | rfl <;> omega
  rw [← signZ_sgn hs ha]
  have h := sign_loop a s hs 64 k (by omega) (by omega)
  rw [Nat.div_eq_of_lt (sgn_lt _ _ (by omega) (by omega))] at h
  exact h
theorem sign_impl {a s : Int} (hs : Sz s) (ha : -9223372036854775808 ≤ a ∧ a ≤ 9223372036854775807) : impl_sign.f a s = some (signZ a s) := by
  unfold impl_sign.f shl shr signZ
  rcases hs with rfl | rfl | rfl | rfl
  · rw [show wrap64 (64 - wrap64 (8 * 1)) = 56 by decide +kernel]
    simp only [i64_wrap, IntKind.bits, show min (Int.toNat 56) 64 = 56 from rfl]
    unfold wrap64
    simp
    omega
  · rw [show wrap64 (64 - wrap64 (8 * 2)) = 48 by decide +kernel]
    simp only [i64_wrap, IntKind.bits, show min (Int.toNat 48) 64 = 48 from rfl]
    unfold wrap64
    simp
    omega
  · rw [show wrap64 (64 - wrap64 (8 * 4)) = 32 by decide +kernel]
    simp only [i64_wrap, IntKind.bits, show min (Int.toNat 32) 64 = 32 from rfl]
    unfold wrap64
    simp
    omega
  · rw [show wrap64 (64 - wrap64 (8 * 8)) = 0 by decide +kernel]
    simp only [i64_wrap, IntKind.bits, show min (Int.toNat 0) 64 = 0 from rfl]
    unfold wrap64
    simp
    omega
theorem FnExactSignOf : laws_FnExactSignOf.Pure := by
  intro a s ha _
  refine ⟨65, ?_⟩
  unfold laws_FnExactSignOf.f spec_SignOf.f impl_SignOf.f
  rw [size_spec, size_impl]
  by_cases hs : Sz s
  · simp only [hs, decide_true, Option.bind_some, if_true]
    rw [sign_spec hs (wf_i64 ha) (by omega), sign_impl hs (wf_i64 ha)]
    simp
  · simp [hs]

end Go.Proofs.Ytmnjomglpkbifaa.Pure
