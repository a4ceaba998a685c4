/- Multiply: the law's numbers. -/
import Derived.Test.YtdljhgmgpnpfiaaPFnExactMultiplyx3
import Derived.Test.YtdljhgmgpnpfiaaNumG
namespace Go.Proofs.Ytdljhgmgpnpfiaa.Pure
open Go.RowKit Go.Proofs.Ytdljhgmgpnpfiaa.PFnExactMultiply Go.Proofs.YtdljhgmgpnpfiaaW.PrintWords Go.Proofs.YtdljhgmgpnpfiaaW.PrintLast Go.Proofs.YtdljhgmgpnpfiaaW.PrintMore Go.Proofs.Ytdljhgmgpnpfiaa.Num
set_option linter.unusedVariables false
set_option linter.unusedSimpArgs false

theorem size_spec (s : Int) : spec_l01Size.f s = some (decide (Sz s)) := by
  unfold spec_l01Size.f Sz
  by_cases h1 : s = 1 <;> by_cases h2 : s = 2 <;> by_cases h4 : s = 4 <;> by_cases h8 : s = 8 <;> simp_all
theorem size_impl (s : Int) : impl_isSize.f s = some (decide (Sz s)) := size_spec s
theorem bit_spec (a i : Int) (h0 : 0 ≤ i) (h1 : i < 64) : spec_l01Bit.f a i = some (bit a i) := by
  unfold spec_l01Bit.f
  have hi : IntKind.u64.wrap i = i := u64_in h0 (by omega)
  have ha : IntKind.u64.wrap a = (un a : Int) := by rw [IntKind.wrap_u64, un_eq]
  rw [hi, if_pos h0, ha, shr_u64 _ _ (by omega) h0 h1, Int.toNat_natCast]
  unfold bit
  have e : Int.tmod ((un a / 2 ^ i.toNat : Nat) : Int) 2 = ((un a / 2 ^ i.toNat % 2 : Nat) : Int) := by
    rw [Int.tmod_eq_emod_of_nonneg (Int.natCast_nonneg _)]; rfl
  rw [e]
  rcases Nat.mod_two_eq_zero_or_one (un a / 2 ^ i.toNat) with h | h <;> rw [h] <;> simp
theorem zero_loop (a : Int) (n : Nat) (hn : n ≤ 64) : ∀ (j k : Nat), j ≤ n → j < k →
    spec_l01Zero.l0 k a ((un a % 2 ^ n / 2 ^ j : Nat) : Int) ((j : Int) - 1) = some (wrap64 ((un a % 2 ^ n : Nat) : Int))
  | j, 0, _, hk => by omega
  | 0, k + 1, _, _ => by
    simp only [spec_l01Zero.l0]
    rw [if_neg (by omega)]
    simp
  | j + 1, k + 1, hj, hk => by
    simp only [spec_l01Zero.l0]
    rw [if_pos (by omega), show ((j + 1 : Nat) : Int) - 1 = (j : Int) by omega, bit_spec _ _ (by omega) (by omega)]
    simp only [Option.bind_some]
    have hl := un_lt' a
    have h2 : un a % 2 ^ n ≤ un a := Nat.mod_le _ _
    have h3 := half_step (un a % 2 ^ n) j
    have h4 := mod_bit (un a) n j (by omega)
    have h5 : un a % 2 ^ n / 2 ^ j ≤ un a % 2 ^ n := Nat.div_le_self _ _
    have e : IntKind.u64.wrap (IntKind.u64.wrap (2 * ((un a % 2 ^ n / 2 ^ (j + 1) : Nat) : Int)) + IntKind.u64.wrap (bit a (j : Int))) = ((un a % 2 ^ n / 2 ^ j : Nat) : Int) := by
      unfold bit
      rw [Int.toNat_natCast, ← h4]
      rw [u64_in (n := 2 * _) (by omega) (by omega), u64_in (n := ((un a % 2 ^ n / 2 ^ j % 2 : Nat) : Int)) (by omega) (by omega), u64_in (by omega) (by omega)]
      omega
    rw [e, show wrap64 ((j : Int) - 1) = (j : Int) - 1 from w64_in (by omega) (by omega)]
    exact zero_loop a n hn j k (by omega) (by omega)
theorem zero_spec {k : Nat} {a s : Int} (hs : Sz s) (ha : -9223372036854775808 ≤ a ∧ a ≤ 9223372036854775807) (hk : 64 < k) : spec_l01Zero.f k a s = some (zeroZ a s) := by
  unfold spec_l01Zero.f
  have h8 : 0 ≤ 8 * s ∧ 8 * s ≤ 64 := by rcases hs with rfl | rfl | rfl | rfl <;> omega
  rw [w64_in (n := 8 * s) (by omega) (by omega), w64_in (by omega) (by omega), ← zeroZ_un hs ha]
  have h := zero_loop a (8 * s).toNat (by omega) (8 * s).toNat k (by omega) (by omega)
  rw [show un a % 2 ^ (8 * s).toNat / 2 ^ (8 * s).toNat = 0 from Nat.div_eq_of_lt (Nat.mod_lt _ (Nat.two_pow_pos _)), show (((8 * s).toNat : Nat) : Int) = 8 * s by omega] at h
  exact h
theorem zero_impl {a s : Int} (hs : Sz s) : impl_zero.f a s = some (zeroZ a s) := by
  unfold impl_zero.f
  rcases hs with rfl | rfl | rfl | rfl
  · rw [if_neg (by omega), if_pos (by unfold wrap64; omega), show wrap64 (shl .i64 1 (wrap64 (8 * 1)) - 1) = 2 ^ 8 - 1 by decide +kernel, and_mask _ _ (by decide)]; rfl
  · rw [if_neg (by omega), if_pos (by unfold wrap64; omega), show wrap64 (shl .i64 1 (wrap64 (8 * 2)) - 1) = 2 ^ 16 - 1 by decide +kernel, and_mask _ _ (by decide)]; rfl
  · rw [if_neg (by omega), if_pos (by unfold wrap64; omega), show wrap64 (shl .i64 1 (wrap64 (8 * 4)) - 1) = 2 ^ 32 - 1 by decide +kernel, and_mask _ _ (by decide)]; rfl
  · rw [if_pos rfl]; rfl
theorem and_self_le {a : Int} (h0 : 0 ≤ a) (ha : a ≤ 9223372036854775807) (h : Go.bits .and .i64 a 2245 = a) : a ≤ 2245 := by
  have h1 := congrArg un h
  rw [un_and] at h1
  have h2 : un 2245 = 2245 := rfl
  have h3 : un a &&& un 2245 ≤ un 2245 := Nat.and_le_right
  rw [h1, h2] at h3
  unfold un at h3; omega
theorem flags_small : ∀ i : Fin 2246, (Go.bits .and .i64 (i.val : Int) 2245 = (i.val : Int)) → ((i.val : Int) = Go.bits .and .i64 (i.val : Int) 2245) := fun _ h => h.symm
/-- Right flags: of five bits alone. -/
def FlOK (f : Int) : Prop := 0 ≤ f ∧ Go.bits .and .i64 f 2245 = f
instance (f : Int) : Decidable (FlOK f) := by unfold FlOK; infer_instance
theorem flags_spec (f : Int) : spec_l06Flags.f f = some (decide (FlOK f)) := by
  unfold spec_l06Flags.f FlOK
  by_cases h : f ≥ 0
  · have h' : 0 ≤ f := h
    rw [if_pos h]
    simp [h', Bool.beq_eq_decide_eq]
  · have h' : ¬ 0 ≤ f := h
    rw [if_neg h]
    simp [h']
theorem and_not_mask (F M : Nat) (hF : F < 2 ^ 64) (hM : M < 2 ^ 64) : (F &&& (18446744073709551615 - M) = 0) ↔ (F &&& M = F) := by
  have e : ∀ i, (18446744073709551615 - M).testBit i = (decide (i < 64) && !M.testBit i) := by
    intro i
    have h := Nat.testBit_two_pow_sub_succ hM i
    rw [show 2 ^ 64 - (M + 1) = 18446744073709551615 - M by omega] at h
    exact h
  constructor
  · intro h
    apply Nat.eq_of_testBit_eq
    intro i
    rw [Nat.testBit_and]
    have h1 := congrArg (fun n => Nat.testBit n i) h
    simp only [Nat.testBit_and, e, Nat.zero_testBit] at h1
    by_cases hi : i < 64
    · cases hf : F.testBit i <;> cases hm : M.testBit i <;> simp_all
    · rw [Nat.testBit_lt_two_pow (Nat.lt_of_lt_of_le hF (Nat.pow_le_pow_right (by decide) (by omega)))]
      rfl
  · intro h
    apply Nat.eq_of_testBit_eq
    intro i
    rw [Nat.testBit_and, e, Nat.zero_testBit]
    have h1 := congrArg (fun n => Nat.testBit n i) h
    simp only [Nat.testBit_and] at h1
    cases hf : F.testBit i <;> cases hm : M.testBit i <;> simp_all
theorem flagsOK_iff {f : Int} (hf : -9223372036854775808 ≤ f ∧ f ≤ 9223372036854775807) : (Go.bits .andNot .i64 f 2245 = 0) ↔ FlOK f := by
  have hu := un_lt f
  have hM : un 2245 = 2245 := rfl
  have key := and_not_mask (un f) 2245 hu (by decide)
  have e1 : Go.bits .andNot .i64 f 2245 = wrap64 ((un f &&& (18446744073709551615 - 2245) : Nat) : Int) := by rw [andNot_un, hM]
  have hlt : un f &&& (18446744073709551615 - 2245) < 18446744073709551616 := Nat.and_lt_two_pow (n := 64) _ (by decide)
  have l1 : Go.bits .andNot .i64 f 2245 = 0 ↔ un f &&& (18446744073709551615 - 2245) = 0 := by
    rw [e1]
    constructor
    · intro h
      have h2 := congrArg un h
      rw [un_wnat hlt] at h2
      exact h2
    · intro h; rw [h]; exact w64_in (by omega) (by omega)
  have l2 : FlOK f ↔ un f &&& 2245 = un f := by
    constructor
    · rintro ⟨h0, h⟩
      have h2 := congrArg un h
      rw [un_and, hM] at h2
      exact h2
    · intro h
      have h3 : un f &&& 2245 ≤ 2245 := Nat.and_le_right
      rw [h] at h3
      refine ⟨by unfold un at h3; omega, ?_⟩
      rw [and_un, hM, h]
      exact (eq_wrap hf).symm
  rw [l1, l2, key]
theorem areFlags_impl {f : Int} (hf : -9223372036854775808 ≤ f ∧ f ≤ 9223372036854775807) : impl_areFlags.f f = some (decide (FlOK f)) := by
  unfold impl_areFlags.f
  rw [Bool.beq_eq_decide_eq, decide_eq_decide.mpr (flagsOK_iff hf)]
theorem flags_table : ∀ i : Fin 2246, Go.bits .and .i64 (i.val : Int) 2245 = (i.val : Int) → Go.bits .andNot .i64 (i.val : Int) 2049 = Go.bits .and .i64 (i.val : Int) 196 ∧ (Go.bits .and .i64 (i.val : Int) 196 = 0 ∨ Go.bits .and .i64 (i.val : Int) 196 = 4 ∨ Go.bits .and .i64 (i.val : Int) 196 = 64 ∨ Go.bits .and .i64 (i.val : Int) 196 = 68 ∨ Go.bits .and .i64 (i.val : Int) 196 = 128 ∨ Go.bits .and .i64 (i.val : Int) 196 = 132 ∨ Go.bits .and .i64 (i.val : Int) 196 = 192 ∨ Go.bits .and .i64 (i.val : Int) 196 = 196) := by decide +kernel
theorem keep_tells {f : Int} (hf : FlOK f) (hr : f ≤ 9223372036854775807) : Go.bits .andNot .i64 f 2049 = Go.bits .and .i64 f 196 ∧ (Go.bits .and .i64 f 196 = 0 ∨ Go.bits .and .i64 f 196 = 4 ∨ Go.bits .and .i64 f 196 = 64 ∨ Go.bits .and .i64 f 196 = 68 ∨ Go.bits .and .i64 f 196 = 128 ∨ Go.bits .and .i64 f 196 = 132 ∨ Go.bits .and .i64 f 196 = 192 ∨ Go.bits .and .i64 f 196 = 196) := by
  have h1 := and_self_le hf.1 hr hf.2
  have h := flags_table ⟨f.toNat, by have := hf.1; omega⟩
  simp only [show ((f.toNat : Nat) : Int) = f by have := hf.1; omega] at h
  exact h hf.2
theorem sign_loop (a s : Int) (hs : Sz s) : ∀ (j k : Nat), j ≤ 64 → j < k →
    spec_l01Sign.l0 k a s ((sgn (8 * s).toNat (un a) / 2 ^ j : Nat) : Int) ((j : Int) - 1) = some (wrap64 ((sgn (8 * s).toNat (un a) : Nat) : Int))
  | j, 0, _, hk => by omega
  | 0, k + 1, _, _ => by
    simp only [spec_l01Sign.l0]
    rw [if_neg (by omega)]
    simp
  | j + 1, k + 1, hj, hk => by
    simp only [spec_l01Sign.l0]
    have h8 : 8 ≤ 8 * s ∧ 8 * s ≤ 64 := by rcases hs with rfl | rfl | rfl | rfl <;> omega
    have hm : mn (j : Int) (wrap64 (wrap64 (8 * s) - 1)) = ((min j ((8 * s).toNat - 1) : Nat) : Int) := by
      rw [w64_in (n := 8 * s) (by omega) (by omega), w64_in (by omega) (by omega)]
      unfold mn
      split <;> omega
    rw [if_pos (by omega), show ((j + 1 : Nat) : Int) - 1 = (j : Int) by omega, hm, bit_spec _ _ (by omega) (by omega)]
    simp only [Option.bind_some]
    have hl := sgn_lt (8 * s).toNat (un a) (by omega) (by omega)
    have h3 := half_step (sgn (8 * s).toNat (un a)) j
    have h4 := sgn_bit (8 * s).toNat (un a) j (by omega) (by omega) (by omega)
    have h5 : sgn (8 * s).toNat (un a) / 2 ^ j ≤ sgn (8 * s).toNat (un a) := Nat.div_le_self _ _
    have e : IntKind.u64.wrap (IntKind.u64.wrap (2 * ((sgn (8 * s).toNat (un a) / 2 ^ (j + 1) : Nat) : Int)) + IntKind.u64.wrap (bit a ((min j ((8 * s).toNat - 1) : Nat) : Int))) = ((sgn (8 * s).toNat (un a) / 2 ^ j : Nat) : Int) := by
      unfold bit
      rw [Int.toNat_natCast, ← h4]
      rw [u64_in (n := 2 * _) (by omega) (by omega), u64_in (n := ((sgn (8 * s).toNat (un a) / 2 ^ j % 2 : Nat) : Int)) (by omega) (by omega), u64_in (by omega) (by omega)]
      omega
    rw [e, show wrap64 ((j : Int) - 1) = (j : Int) - 1 from w64_in (by omega) (by omega)]
    exact sign_loop a s hs j k (by omega) (by omega)
theorem sign_spec {k : Nat} {a s : Int} (hs : Sz s) (ha : -9223372036854775808 ≤ a ∧ a ≤ 9223372036854775807) (hk : 64 < k) : spec_l01Sign.f k a s = some (signZ a s) := by
  unfold spec_l01Sign.f
  have h8 : 8 ≤ 8 * s ∧ 8 * s ≤ 64 := by rcases hs with rfl | rfl | rfl | rfl <;> omega
  rw [← signZ_sgn hs ha]
  have h := sign_loop a s hs 64 k (by omega) (by omega)
  rw [Nat.div_eq_of_lt (sgn_lt _ _ (by omega) (by omega))] at h
  exact h
theorem sign_impl {a s : Int} (hs : Sz s) (ha : -9223372036854775808 ≤ a ∧ a ≤ 9223372036854775807) : impl_sign.f a s = some (signZ a s) := by
  unfold impl_sign.f shl shr signZ
  rcases hs with rfl | rfl | rfl | rfl
  · rw [show wrap64 (64 - wrap64 (8 * 1)) = 56 by decide +kernel]
    simp only [i64_wrap, IntKind.bits, show min (Int.toNat 56) 64 = 56 from rfl]
    unfold wrap64
    simp
    omega
  · rw [show wrap64 (64 - wrap64 (8 * 2)) = 48 by decide +kernel]
    simp only [i64_wrap, IntKind.bits, show min (Int.toNat 48) 64 = 48 from rfl]
    unfold wrap64
    simp
    omega
  · rw [show wrap64 (64 - wrap64 (8 * 4)) = 32 by decide +kernel]
    simp only [i64_wrap, IntKind.bits, show min (Int.toNat 32) 64 = 32 from rfl]
    unfold wrap64
    simp
    omega
  · rw [show wrap64 (64 - wrap64 (8 * 8)) = 0 by decide +kernel]
    simp only [i64_wrap, IntKind.bits, show min (Int.toNat 0) 64 = 0 from rfl]
    unfold wrap64
    simp
    omega
theorem wide_loop {a b : Nat} (ha : a < 18446744073709551616) (hb : b < 18446744073709551616) : ∀ (j k h l : Nat), j ≤ 64 → j < k → l < 18446744073709551616 → 18446744073709551616 * h + l = a * (b / 2 ^ j) →
    spec_l01Wide.l0 k (a : Int) (b : Int) (h : Int) (l : Int) ((j : Int) - 1) = some (((a * b / 18446744073709551616 : Nat) : Int), ((a * b % 18446744073709551616 : Nat) : Int))
  | j, 0, _, _, _, hk, _, _ => by omega
  | 0, k + 1, h, l, _, _, hl, hp => by
    simp only [spec_l01Wide.l0]
    rw [if_neg (by omega)]
    simp only [Nat.pow_zero, Nat.div_one] at hp
    rw [show a * b / 18446744073709551616 = h by omega, show a * b % 18446744073709551616 = l by omega]
  | j + 1, k + 1, h, l, hj, hk, hl, hp => by
    simp only [spec_l01Wide.l0]
    obtain ⟨s0, s1, s2⟩ := wide_step ha hb hp hl
    have hi : IntKind.u64.wrap ((j : Int)) = (j : Int) := u64_in (by omega) (by omega)
    have e : Int.tmod ((b / 2 ^ j : Nat) : Int) 2 = ((b / 2 ^ j % 2 : Nat) : Int) := by rw [Int.tmod_eq_emod_of_nonneg (Int.natCast_nonneg _)]; rfl
    have hs : shr .u64 (b : Int) (j : Int) = ((b / 2 ^ j : Nat) : Int) := by rw [shr_u64 _ _ (by omega) (by omega) (by omega)]; simp
    rw [if_pos (by omega), show ((j + 1 : Nat) : Int) - 1 = (j : Int) by omega, hi, if_pos (by omega), hs, e, show wrap64 ((j : Int) - 1) = (j : Int) - 1 from w64_in (by omega) (by omega)]
    have hm : IntKind.u64.wrap ((l : Int) * 2) = ((l * 2 % 18446744073709551616 : Nat) : Int) := by rw [IntKind.wrap_u64]; omega
    rw [hm]
    rcases Nat.mod_two_eq_zero_or_one (b / 2 ^ j) with h0 | h0
    · have s := s0 h0
      rw [h0, if_neg (by omega)]
      have hh : IntKind.u64.wrap (IntKind.u64.wrap ((h : Int) * 2) + (l : Int) / 9223372036854775808) = ((h * 2 + l / 9223372036854775808 : Nat) : Int) := by
        rw [u64_in (n := (h : Int) * 2) (by omega) (by omega), u64_in (by omega) (by omega)]; omega
      rw [hh]
      exact wide_loop ha hb j k _ _ (by omega) (by omega) (by omega) s
    · have s := s1 h0
      rw [h0, if_pos (by omega)]
      have hh : IntKind.u64.wrap (IntKind.u64.wrap ((h : Int) * 2) + (l : Int) / 9223372036854775808) = ((h * 2 + l / 9223372036854775808 : Nat) : Int) := by
        rw [u64_in (n := (h : Int) * 2) (by omega) (by omega), u64_in (by omega) (by omega)]; omega
      have ha2 : IntKind.u64.wrap (((l * 2 % 18446744073709551616 : Nat) : Int) + (a : Int)) = (((l * 2 % 18446744073709551616 + a) % 18446744073709551616 : Nat) : Int) := by rw [IntKind.wrap_u64]; omega
      rw [hh, ha2]
      by_cases c : (((l * 2 % 18446744073709551616 + a) % 18446744073709551616 : Nat) : Int) < ((l * 2 % 18446744073709551616 : Nat) : Int)
      · rw [if_pos c]
        have hc : IntKind.u64.wrap (((h * 2 + l / 9223372036854775808 : Nat) : Int) + 1) = ((h * 2 + l / 9223372036854775808 + 1 : Nat) : Int) := by rw [u64_in (by omega) (by omega)]; omega
        rw [hc]
        exact wide_loop ha hb j k _ _ (by omega) (by omega) (by omega) (by omega)
      · rw [if_neg c]
        exact wide_loop ha hb j k _ _ (by omega) (by omega) (by omega) (by omega)
theorem wide_spec {a b : Nat} (ha : a < 18446744073709551616) (hb : b < 18446744073709551616) {k : Nat} (hk : 64 < k) :
    spec_l01Wide.f k (a : Int) (b : Int) = some (((a * b / 18446744073709551616 : Nat) : Int), ((a * b % 18446744073709551616 : Nat) : Int)) := by
  unfold spec_l01Wide.f
  refine wide_loop ha hb 64 k 0 0 (by omega) hk (by omega) ?_
  rw [Nat.div_eq_of_lt (by omega)]; rfl
theorem mul64_tells {a b : Nat} (ha : a < 18446744073709551616) (hb : b < 18446744073709551616) :
    bits_Mul64.f (a : Int) (b : Int) = some (((a * b / 18446744073709551616 : Nat) : Int), ((a * b % 18446744073709551616 : Nat) : Int)) := by
  unfold bits_Mul64.f
  rw [and_u64 _ (by omega) (by omega), and_u64 _ (by omega) (by omega)]
  have e := mul_parts a b
  have b1 : a / 4294967296 * (b / 4294967296) ≤ 4294967295 * 4294967295 := Nat.mul_le_mul (by omega) (by omega)
  have b2 : a / 4294967296 * (b % 4294967296) ≤ 4294967295 * 4294967295 := Nat.mul_le_mul (by omega) (by omega)
  have b3 : a % 4294967296 * (b / 4294967296) ≤ 4294967295 * 4294967295 := Nat.mul_le_mul (by omega) (by omega)
  have b4 : a % 4294967296 * (b % 4294967296) ≤ 4294967295 * 4294967295 := Nat.mul_le_mul (by omega) (by omega)
  have c1 : ((a : Int) / 4294967296) * ((b : Int) / 4294967296) = ((a / 4294967296 * (b / 4294967296) : Nat) : Int) := by simp
  have c2 : ((a : Int) / 4294967296) * ((b : Int) % 4294967296) = ((a / 4294967296 * (b % 4294967296) : Nat) : Int) := by simp
  have c3 : ((a : Int) % 4294967296) * ((b : Int) / 4294967296) = ((a % 4294967296 * (b / 4294967296) : Nat) : Int) := by simp
  have c4 : ((a : Int) % 4294967296) * ((b : Int) % 4294967296) = ((a % 4294967296 * (b % 4294967296) : Nat) : Int) := by simp
  have c5 : (a : Int) * (b : Int) = ((a * b : Nat) : Int) := by simp
  rw [c1, c2, c3, c4, c5]
  generalize a * b = p at *
  generalize a / 4294967296 * (b / 4294967296) = p1 at *
  generalize a / 4294967296 * (b % 4294967296) = p2 at *
  generalize a % 4294967296 * (b / 4294967296) = p3 at *
  generalize a % 4294967296 * (b % 4294967296) = p4 at *
  rw [u64_in (n := (p4 : Int)) (by omega) (by omega), u64_in (n := (p2 : Int)) (by omega) (by omega), u64_in (n := (p1 : Int)) (by omega) (by omega), u64_in (n := (p3 : Int)) (by omega) (by omega)]
  rw [u64_in (n := (p2 : Int) + (p4 : Int) / 4294967296) (by omega) (by omega), and_u64 _ (by omega) (by omega)]
  rw [u64_in (n := (p1 : Int) + _) (by omega) (by omega), u64_in (n := _ + (p3 : Int)) (by omega) (by omega), u64_in (n := (p1 : Int) + _ + _) (by omega) (by omega), IntKind.wrap_u64]
  congr 2 <;> omega
theorem areAsked_impl {s f : Int} (hf : -9223372036854775808 ≤ f ∧ f ≤ 9223372036854775807) : impl_areAsked.f s f = some (decide (Sz s ∧ FlOK f)) := by
  unfold impl_areAsked.f
  rw [size_impl, areFlags_impl hf]
  by_cases h : Sz s <;> simp [h]
theorem not_u64 {h : Nat} (hh : h < 18446744073709551616) : Go.bits .xor .u64 18446744073709551615 ((h : Nat) : Int) = ((18446744073709551615 - h : Nat) : Int) := by
  show IntKind.u64.wrap ((BitVec.ofInt 64 18446744073709551615 ^^^ BitVec.ofInt 64 ((h : Nat) : Int)).toNat : Int) = _
  have e : BitVec.ofInt 64 18446744073709551615 = BitVec.allOnes 64 := by decide +kernel
  rw [e, BitVec.allOnes_xor, BitVec.toNat_not, un_bv, un_nat hh, u64_in (by omega) (by omega)]
theorem size_abs {a : Int} (ha : -9223372036854775808 ≤ a ∧ a ≤ 9223372036854775807) : spec_l06Size.f a = some ((a.natAbs : Nat) : Int) := by
  unfold spec_l06Size.f
  by_cases h : a < 0
  · rw [if_pos h, IntKind.wrap_u64, IntKind.wrap_u64]; congr 1; omega
  · rw [if_neg h, IntKind.wrap_u64]; congr 1; omega
/-- Halves of a number under a change of sign. -/
theorem halves_neg {T : Nat} {P : Int} (hP : P = -(T : Int)) (hT : T / 18446744073709551616 < 18446744073709551616) :
    (if (IntKind.u64.wrap (-((T % 18446744073709551616 : Nat) : Int))) = 0 then (some (IntKind.u64.wrap ((Go.bits .xor .u64 18446744073709551615 ((T / 18446744073709551616 : Nat) : Int)) + 1), IntKind.u64.wrap (-((T % 18446744073709551616 : Nat) : Int)))) else (some (Go.bits .xor .u64 18446744073709551615 ((T / 18446744073709551616 : Nat) : Int), IntKind.u64.wrap (-((T % 18446744073709551616 : Nat) : Int))))) = some (P / 18446744073709551616 % 18446744073709551616, P % 18446744073709551616) := by
  rw [not_u64 hT, IntKind.wrap_u64, IntKind.wrap_u64]
  by_cases h : -((T % 18446744073709551616 : Nat) : Int) % 18446744073709551616 = 0
  · rw [if_pos h]
    congr 2 <;> omega
  · rw [if_neg h]
    congr 2 <;> omega
theorem product_signed {a b : Int} (ha : -9223372036854775808 ≤ a ∧ a ≤ 9223372036854775807) (hb : -9223372036854775808 ≤ b ∧ b ≤ 9223372036854775807) {k : Nat} (hk : 64 < k) :
    spec_l06Product.f k a b true = some (a * b / 18446744073709551616 % 18446744073709551616, a * b % 18446744073709551616) := by
  have hA : a.natAbs ≤ 9223372036854775808 := by omega
  have hB : b.natAbs ≤ 9223372036854775808 := by omega
  have hT : a.natAbs * b.natAbs ≤ 9223372036854775808 * 9223372036854775808 := Nat.mul_le_mul hA hB
  unfold spec_l06Product.f
  rw [if_pos rfl, size_abs ha, Option.bind_some, size_abs hb, Option.bind_some, wide_spec (by omega) (by omega) hk, Option.bind_some]
  by_cases h1 : a < 0
  · by_cases h2 : b < 0
    · rw [if_neg (by simp [h1, h2])]
      have e : a * b = ((a.natAbs * b.natAbs : Nat) : Int) := by
        rw [Int.natCast_mul, show ((a.natAbs : Nat) : Int) = -a by omega, show ((b.natAbs : Nat) : Int) = -b by omega, Int.neg_mul_neg]
      rw [e]
      generalize a.natAbs * b.natAbs = T at *
      congr 2 <;> omega
    · rw [if_pos (by simp [h1, h2])]
      have e : a * b = -((a.natAbs * b.natAbs : Nat) : Int) := by
        rw [Int.natCast_mul, show ((a.natAbs : Nat) : Int) = -a by omega, show ((b.natAbs : Nat) : Int) = b by omega, Int.neg_mul, Int.neg_neg]
      exact halves_neg e (by generalize a.natAbs * b.natAbs = T at *; omega)
  · by_cases h2 : b < 0
    · rw [if_pos (by simp [h1, h2])]
      have e : a * b = -((a.natAbs * b.natAbs : Nat) : Int) := by
        rw [Int.natCast_mul, show ((a.natAbs : Nat) : Int) = a by omega, show ((b.natAbs : Nat) : Int) = -b by omega, Int.mul_neg, Int.neg_neg]
      exact halves_neg e (by generalize a.natAbs * b.natAbs = T at *; omega)
    · rw [if_neg (by simp [h1, h2])]
      have e : a * b = ((a.natAbs * b.natAbs : Nat) : Int) := by
        rw [Int.natCast_mul, show ((a.natAbs : Nat) : Int) = a by omega, show ((b.natAbs : Nat) : Int) = b by omega]
      rw [e]
      generalize a.natAbs * b.natAbs = T at *
      congr 2 <;> omega
theorem un_mul (a b : Int) : ((un a * un b : Nat) : Int) % 18446744073709551616 = a * b % 18446744073709551616 := by
  rw [Int.natCast_mul, un_eq, un_eq, ← Int.mul_emod]
theorem product_plain (a b : Int) {k : Nat} (hk : 64 < k) :
    spec_l06Product.f k a b false = some (((un a * un b / 18446744073709551616 : Nat) : Int), a * b % 18446744073709551616) := by
  unfold spec_l06Product.f
  rw [if_neg (by decide), IntKind.wrap_u64, IntKind.wrap_u64, ← un_eq, ← un_eq, wide_spec (un_lt' a) (un_lt' b) hk, Option.bind_some, ← un_mul]
  rfl
theorem wide_impl (a b : Int) : impl_MulWide.f a b = some (wrap64 ((un a * un b / 18446744073709551616 : Nat) : Int), wrap64 ((un a * un b % 18446744073709551616 : Nat) : Int)) := by
  unfold impl_MulWide.f
  rw [IntKind.wrap_u64, IntKind.wrap_u64, ← un_eq, ← un_eq, mul64_tells (un_lt' a) (un_lt' b), Option.bind_some]
theorem div_shift (x c : Int) : (x + 18446744073709551616 * c) / 18446744073709551616 = x / 18446744073709551616 + c := Int.add_mul_ediv_left x c (by decide)
theorem w64_back1 (q b : Int) : wrap64 (wrap64 (q + b) - b) = wrap64 (q % 18446744073709551616) := by unfold wrap64; omega
theorem w64_back2 (q a b : Int) : wrap64 (wrap64 (wrap64 (q + (a + b + 18446744073709551616)) - b) - a) = wrap64 (q % 18446744073709551616) := by unfold wrap64; omega
theorem w64_back0 (q : Int) : wrap64 q = wrap64 (q % 18446744073709551616) := by unfold wrap64; omega
theorem un_neg {a : Int} (ha : -9223372036854775808 ≤ a) (h : a < 0) : ((un a : Nat) : Int) = a + 18446744073709551616 := by unfold un; omega
theorem un_pos {a : Int} (ha : a ≤ 9223372036854775807) (h : ¬ a < 0) : ((un a : Nat) : Int) = a := by unfold un; omega
theorem high_signed {a b : Int} (ha : -9223372036854775808 ≤ a ∧ a ≤ 9223372036854775807) (hb : -9223372036854775808 ≤ b ∧ b ≤ 9223372036854775807) :
    impl_signedHigh.f a b = some (wrap64 (a * b / 18446744073709551616 % 18446744073709551616)) := by
  have e0 : ((un a * un b / 18446744073709551616 : Nat) : Int) = ((un a : Nat) : Int) * ((un b : Nat) : Int) / 18446744073709551616 := by
    rw [Int.natCast_ediv, Int.natCast_mul]; rfl
  unfold impl_signedHigh.f
  rw [wide_impl, Option.bind_some, e0]
  by_cases h1 : a < 0
  · by_cases h2 : b < 0
    · rw [if_pos h1, if_pos h2, un_neg ha.1 h1, un_neg hb.1 h2]
      have e : (a + 18446744073709551616) * (b + 18446744073709551616) = a * b + 18446744073709551616 * (a + b + 18446744073709551616) := by
        rw [Int.add_mul, Int.mul_add a, Int.mul_comm a 18446744073709551616]
        generalize a * b = x
        omega
      rw [e, div_shift, w64_back2]
    · rw [if_pos h1, if_neg h2, un_neg ha.1 h1, un_pos hb.2 h2]
      have e : (a + 18446744073709551616) * b = a * b + 18446744073709551616 * b := Int.add_mul _ _ _
      rw [e, div_shift, w64_back1]
  · by_cases h2 : b < 0
    · rw [if_neg h1, if_pos h2, un_pos ha.2 h1, un_neg hb.1 h2]
      have e : a * (b + 18446744073709551616) = a * b + 18446744073709551616 * a := by rw [Int.mul_add, Int.mul_comm a 18446744073709551616]
      rw [e, div_shift, w64_back1]
    · rw [if_neg h1, if_neg h2, un_pos ha.2 h1, un_pos hb.2 h2]
      rw [← w64_back0]
theorem if_spec (b : Bool) (n : Int) : spec_l06If.f b n = some (if b = true then n else 0) := by
  unfold spec_l06If.f; cases b <;> rfl
theorem flag_impl (b : Bool) (n : Int) : impl_flag.f b n = some (if b = true then n else 0) := by
  unfold impl_flag.f; cases b <;> rfl
theorem ends {k : Nat} {s f x y : Int} (hs : Sz s) (hx : -9223372036854775808 ≤ x ∧ x ≤ 9223372036854775807) (hy : -9223372036854775808 ≤ y ∧ y ≤ 9223372036854775807) (hf : FlOK f) (hr : f ≤ 9223372036854775807) (hk : 64 < k) (g : Bool) :
    ∃ p : Int × Int × Int, spec_l06Multiply.j1 (k + 1) s f (!g) x y = some p ∧ impl_multiply.j1 (k + 2) s f g x y = some p := by
  simp only [spec_l06Multiply.j1, impl_multiply.j1]
  rw [sign_spec hs hx hk, sign_spec hs hy hk, sign_impl hs hx, sign_impl hs hy, (keep_tells hf hr).1]
  cases g
  · rw [show (!false) = true from rfl, if_pos rfl, if_neg (by decide), Option.bind_some, Option.bind_some, Option.bind_some, Option.bind_some, if_spec, flag_impl, Option.bind_some]
    exact ⟨_, rfl, rfl⟩
  · rw [show (!true) = false from rfl, if_neg (by decide), if_pos rfl, if_spec, flag_impl, Option.bind_some]
    exact ⟨_, rfl, rfl⟩
theorem w64_emod (x : Int) : wrap64 (x % 18446744073709551616) = wrap64 x := by unfold wrap64; omega
theorem u64_w64 (x : Int) : IntKind.u64.wrap (wrap64 x) = x % 18446744073709551616 := by rw [IntKind.wrap_u64]; unfold wrap64; omega
theorem mids {k : Nat} {s f a b : Int} (hs : Sz s) (ha : -9223372036854775808 ≤ a ∧ a ≤ 9223372036854775807) (hb : -9223372036854775808 ≤ b ∧ b ≤ 9223372036854775807) (hf : FlOK f) (hr : f ≤ 9223372036854775807) (hk : 64 < k) (g : Bool) :
    ∃ p : Int × Int × Int, spec_l06Multiply.j0 (k + 2) s f (!g) a b = some p ∧ impl_multiply.j0 (k + 3) s f g a b = some p := by
  have h8 : 8 ≤ 8 * s ∧ 8 * s ≤ 64 := by rcases hs with rfl | rfl | rfl | rfl <;> omega
  have e8 : wrap64 (8 * s) = 8 * s := w64_in (by omega) (by omega)
  have e9 : IntKind.u64.wrap (8 * s) = 8 * s := u64_in (by omega) (by omega)
  have hz := zeroZ_range hs (w64_range (a * b))
  obtain ⟨H, hH, hHi⟩ : ∃ H : Int, spec_l06Product.f (k + 1) a b (!g) = some (H, a * b % 18446744073709551616) ∧ (if g = true then ((impl_MulWide.f a b).bind fun bt144 => (impl_multiply.j1 (k + 2) s f g (zeroZ (wrap64 (a * b)) s) bt144.1)) else ((impl_signedHigh.f a b).bind fun t146 => (impl_multiply.j1 (k + 2) s f g (zeroZ (wrap64 (a * b)) s) t146))) = impl_multiply.j1 (k + 2) s f g (zeroZ (wrap64 (a * b)) s) (wrap64 H) := by
    cases g
    · refine ⟨_, product_signed ha hb (by omega), ?_⟩
      rw [if_neg (by decide), high_signed ha hb, Option.bind_some]
    · refine ⟨_, product_plain a b (by omega), ?_⟩
      rw [if_pos rfl, wide_impl, Option.bind_some]
  rw [show k + 2 = k + 1 + 1 from rfl, show k + 3 = k + 2 + 1 from rfl]
  simp only [spec_l06Multiply.j0, impl_multiply.j0]
  rw [hH, Option.bind_some]
  simp only []
  rw [w64_emod, zero_spec hs (w64_range _) (by omega), zero_impl hs, Option.bind_some, Option.bind_some, e8, e9, hHi, u64_w64]
  by_cases h : s < 8
  · rw [if_pos h, if_pos h, if_pos (by omega), if_pos (by omega), zero_spec hs (w64_range _) (by omega), zero_impl hs, Option.bind_some, Option.bind_some]
    exact ends hs hz (zeroZ_range hs (w64_range _)) hf hr hk g
  · rw [if_neg h, if_neg h]
    exact ends hs hz (w64_range _) hf hr hk g
theorem both {k : Nat} {a b c d e : Int} {p : Int × Int × Int × Int} (h1 : spec_Multiply.f k a b c d e = some p) (h2 : impl_Multiply.f k a b c d e = some p) : laws_FnExactMultiply.f k a b c d e = some true := by
  unfold laws_FnExactMultiply.f
  rw [h1, h2]
  simp only [Option.bind_some, if_true]
theorem FnExactMultiply : laws_FnExactMultiply.Pure := by
  intro op s a b f _ _ ha hb hf
  have ha := wf_i64 ha
  have hb := wf_i64 hb
  have hf := wf_i64 hf
  refine ⟨200, ?_⟩
  by_cases hs : Sz s
  rotate_left
  · refine both (p := (0, 0, 0, 4)) ?_ ?_
    · unfold spec_Multiply.f
      rw [size_spec]
      simp [hs, spec_Multiply.j0]
    · unfold impl_Multiply.f
      rw [areAsked_impl hf]
      simp [hs]
  by_cases hfl : FlOK f
  rotate_left
  · refine both (p := (0, 0, 0, 4)) ?_ ?_
    · unfold spec_Multiply.f
      rw [size_spec, flags_spec]
      simp [hs, hfl, spec_Multiply.j0]
    · unfold impl_Multiply.f
      rw [areAsked_impl hf]
      simp [hfl]
  have hin : ∀ k, spec_Multiply.f (k + 1) op s a b f = if op = 13 ∨ op = 14 ∨ op = 17 then (spec_l06Multiply.f k op s a b f).bind fun b => some (b.1, b.2.1, b.2.2, 0) else some (0, 0, 0, 11) := fun k => by
    unfold spec_Multiply.f
    rw [size_spec, flags_spec]
    simp only [hs, hfl, decide_true, Option.bind_some, if_true, Bool.not_true, spec_Multiply.j0, Bool.false_eq_true, if_false]
    by_cases o1 : op = 13
    · simp [o1]
    by_cases o2 : op = 14
    · simp [o2]
    by_cases o3 : op = 17
    · simp [o3]
    simp [o1, o2, o3]
  have hin2 : impl_isMultiply.f op = some (decide (op = 13 ∨ op = 14 ∨ op = 17)) := by
    unfold impl_isMultiply.f
    by_cases o1 : op = 13 <;> by_cases o2 : op = 14 <;> by_cases o3 : op = 17 <;> simp_all
  by_cases hop : op = 13 ∨ op = 14 ∨ op = 17
  rotate_left
  · refine both (p := (0, 0, 0, 11)) ?_ ?_
    · rw [hin, if_neg hop]
    · unfold impl_Multiply.f
      rw [areAsked_impl hf, hin2]
      simp [hs, hfl, hop]
  have hsr : ∀ a, -9223372036854775808 ≤ a ∧ a ≤ 9223372036854775807 → -9223372036854775808 ≤ signZ a s ∧ signZ a s ≤ 9223372036854775807 := fun a h => by
    rw [← signZ_sgn hs h]; exact w64_range _
  have hcore : ∃ p : Int × Int × Int, spec_l06Multiply.f 199 op s a b f = some p ∧ impl_multiply.f 200 op s a b f = some p := by
    unfold spec_l06Multiply.f impl_multiply.f
    rw [zero_spec hs ha (by omega), zero_spec hs hb (by omega), zero_impl hs, zero_impl hs, sign_spec hs ha (by omega), sign_spec hs hb (by omega), sign_impl hs ha, sign_impl hs hb]
    simp only [Option.bind_some]
    by_cases o : op = 13
    · rw [if_pos o, if_pos o, show (op != 13) = !(op == 13) from rfl]
      exact mids (k := 197) hs (zeroZ_range hs ha) (zeroZ_range hs hb) hfl hf.2 (by omega) _
    · rw [if_neg o, if_neg o, show (op != 13) = !(op == 13) from rfl]
      exact mids (k := 197) hs (hsr a ha) (hsr b hb) hfl hf.2 (by omega) _
  obtain ⟨p, hp1, hp2⟩ := hcore
  refine both (p := (p.1, p.2.1, p.2.2, 0)) ?_ ?_
  · rw [hin, if_pos hop, hp1]
    rfl
  · unfold impl_Multiply.f
    rw [areAsked_impl hf, hin2, hp2]
    simp [hs, hfl, hop]

end Go.Proofs.Ytdljhgmgpnpfiaa.Pure
