/- Divide: the law's numbers. -/
import Derived.Test.YtdljhgmgpnpfiaaPFnExactDividex6
import Derived.Test.YtdljhgmgpnpfiaaNumH
namespace Go.Proofs.Ytdljhgmgpnpfiaa.Pure
open Go.RowKit Go.Proofs.Ytdljhgmgpnpfiaa.PFnExactDivide Go.Proofs.YtdljhgmgpnpfiaaW.PrintWords Go.Proofs.YtdljhgmgpnpfiaaW.PrintLast Go.Proofs.YtdljhgmgpnpfiaaW.PrintMore Go.Proofs.Ytdljhgmgpnpfiaa.Num
set_option linter.unusedVariables false
set_option linter.unusedSimpArgs false

theorem size_spec (s : Int) : spec_l01Size.f s = some (decide (Sz s)) := by
  unfold spec_l01Size.f Sz
  by_cases h1 : s = 1 <;> by_cases h2 : s = 2 <;> by_cases h4 : s = 4 <;> by_cases h8 : s = 8 <;> simp_all
theorem size_impl (s : Int) : impl_isSize.f s = some (decide (Sz s)) := size_spec s
theorem bit_spec (a i : Int) (h0 : 0 ≤ i) (h1 : i < 64) : spec_l01Bit.f a i = some (bit a i) := by
  unfold spec_l01Bit.f
  have hi : IntKind.u64.wrap i = i := u64_in h0 (by omega)
  have ha : IntKind.u64.wrap a = (un a : Int) := by rw [IntKind.wrap_u64, un_eq]
  rw [hi, if_pos h0, ha, shr_u64 _ _ (by omega) h0 h1, Int.toNat_natCast]
  unfold bit
  have e : Int.tmod ((un a / 2 ^ i.toNat : Nat) : Int) 2 = ((un a / 2 ^ i.toNat % 2 : Nat) : Int) := by
    rw [Int.tmod_eq_emod_of_nonneg (Int.natCast_nonneg _)]; rfl
  rw [e]
  rcases Nat.mod_two_eq_zero_or_one (un a / 2 ^ i.toNat) with h | h <;> rw [h] <;> simp
theorem zero_loop (a : Int) (n : Nat) (hn : n ≤ 64) : ∀ (j k : Nat), j ≤ n → j < k →
    spec_l01Zero.l0 k a ((un a % 2 ^ n / 2 ^ j : Nat) : Int) ((j : Int) - 1) = some (wrap64 ((un a % 2 ^ n : Nat) : Int))
  | j, 0, _, hk => by omega
  | 0, k + 1, _, _ => by
    simp only [spec_l01Zero.l0]
    rw [if_neg (by omega)]
    simp
  | j + 1, k + 1, hj, hk => by
    simp only [spec_l01Zero.l0]
    rw [if_pos (by omega), show ((j + 1 : Nat) : Int) - 1 = (j : Int) by omega, bit_spec _ _ (by omega) (by omega)]
    simp only [Option.bind_some]
    have hl := un_lt' a
    have h2 : un a % 2 ^ n ≤ un a := Nat.mod_le _ _
    have h3 := half_step (un a % 2 ^ n) j
    have h4 := mod_bit (un a) n j (by omega)
    have h5 : un a % 2 ^ n / 2 ^ j ≤ un a % 2 ^ n := Nat.div_le_self _ _
    have e : IntKind.u64.wrap (IntKind.u64.wrap (2 * ((un a % 2 ^ n / 2 ^ (j + 1) : Nat) : Int)) + IntKind.u64.wrap (bit a (j : Int))) = ((un a % 2 ^ n / 2 ^ j : Nat) : Int) := by
      unfold bit
      rw [Int.toNat_natCast, ← h4]
      rw [u64_in (n := 2 * _) (by omega) (by omega), u64_in (n := ((un a % 2 ^ n / 2 ^ j % 2 : Nat) : Int)) (by omega) (by omega), u64_in (by omega) (by omega)]
      omega
    rw [e, show wrap64 ((j : Int) - 1) = (j : Int) - 1 from w64_in (by omega) (by omega)]
    exact zero_loop a n hn j k (by omega) (by omega)
theorem zero_spec {k : Nat} {a s : Int} (hs : Sz s) (ha : -9223372036854775808 ≤ a ∧ a ≤ 9223372036854775807) (hk : 64 < k) : spec_l01Zero.f k a s = some (zeroZ a s) := by
  unfold spec_l01Zero.f
  have h8 : 0 ≤ 8 * s ∧ 8 * s ≤ 64 := by rcases hs with rfl | rfl | rfl | rfl <;> omega
  rw [w64_in (n := 8 * s) (by omega) (by omega), w64_in (by omega) (by omega), ← zeroZ_un hs ha]
  have h := zero_loop a (8 * s).toNat (by omega) (8 * s).toNat k (by omega) (by omega)
  rw [show un a % 2 ^ (8 * s).toNat / 2 ^ (8 * s).toNat = 0 from Nat.div_eq_of_lt (Nat.mod_lt _ (Nat.two_pow_pos _)), show (((8 * s).toNat : Nat) : Int) = 8 * s by omega] at h
  exact h
theorem zero_impl {a s : Int} (hs : Sz s) : impl_zero.f a s = some (zeroZ a s) := by
  unfold impl_zero.f
  rcases hs with rfl | rfl | rfl | rfl
  · rw [if_neg (by omega), if_pos (by unfold wrap64; omega), show wrap64 (shl .i64 1 (wrap64 (8 * 1)) - 1) = 2 ^ 8 - 1 by decide +kernel, and_mask _ _ (by decide)]; rfl
  · rw [if_neg (by omega), if_pos (by unfold wrap64; omega), show wrap64 (shl .i64 1 (wrap64 (8 * 2)) - 1) = 2 ^ 16 - 1 by decide +kernel, and_mask _ _ (by decide)]; rfl
  · rw [if_neg (by omega), if_pos (by unfold wrap64; omega), show wrap64 (shl .i64 1 (wrap64 (8 * 4)) - 1) = 2 ^ 32 - 1 by decide +kernel, and_mask _ _ (by decide)]; rfl
  · rw [if_pos rfl]; rfl
theorem sign_loop (a s : Int) (hs : Sz s) : ∀ (j k : Nat), j ≤ 64 → j < k →
    spec_l01Sign.l0 k a s ((sgn (8 * s).toNat (un a) / 2 ^ j : Nat) : Int) ((j : Int) - 1) = some (wrap64 ((sgn (8 * s).toNat (un a) : Nat) : Int))
  | j, 0, _, hk => by omega
  | 0, k + 1, _, _ => by
    simp only [spec_l01Sign.l0]
    rw [if_neg (by omega)]
    simp
  | j + 1, k + 1, hj, hk => by
    simp only [spec_l01Sign.l0]
    have h8 : 8 ≤ 8 * s ∧ 8 * s ≤ 64 := by rcases hs with rfl | rfl | rfl | rfl <;> omega
    have hm : mn (j : Int) (wrap64 (wrap64 (8 * s) - 1)) = ((min j ((8 * s).toNat - 1) : Nat) : Int) := by
      rw [w64_in (n := 8 * s) (by omega) (by omega), w64_in (by omega) (by omega)]
      unfold mn
      split <;> omega
    rw [if_pos (by omega), show ((j + 1 : Nat) : Int) - 1 = (j : Int) by omega, hm, bit_spec _ _ (by omega) (by omega)]
    simp only [Option.bind_some]
    have hl := sgn_lt (8 * s).toNat (un a) (by omega) (by omega)
    have h3 := half_step (sgn (8 * s).toNat (un a)) j
    have h4 := sgn_bit (8 * s).toNat (un a) j (by omega) (by omega) (by omega)
    have h5 : sgn (8 * s).toNat (un a) / 2 ^ j ≤ sgn (8 * s).toNat (un a) := Nat.div_le_self _ _
    have e : IntKind.u64.wrap (IntKind.u64.wrap (2 * ((sgn (8 * s).toNat (un a) / 2 ^ (j + 1) : Nat) : Int)) + IntKind.u64.wrap (bit a ((min j ((8 * s).toNat - 1) : Nat) : Int))) = ((sgn (8 * s).toNat (un a) / 2 ^ j : Nat) : Int) := by
      unfold bit
      rw [Int.toNat_natCast, ← h4]
      rw [u64_in (n := 2 * _) (by omega) (by omega), u64_in (n := ((sgn (8 * s).toNat (un a) / 2 ^ j % 2 : Nat) : Int)) (by omega) (by omega), u64_in (by omega) (by omega)]
      omega
    rw [e, show wrap64 ((j : Int) - 1) = (j : Int) - 1 from w64_in (by omega) (by omega)]
    exact sign_loop a s hs j k (by omega) (by omega)
theorem sign_spec {k : Nat} {a s : Int} (hs : Sz s) (ha : -9223372036854775808 ≤ a ∧ a ≤ 9223372036854775807) (hk : 64 < k) : spec_l01Sign.f k a s = some (signZ a s) := by
  unfold spec_l01Sign.f
  have h8 : 8 ≤ 8 * s ∧ 8 * s ≤ 64 := by rcases hs with rfl | rfl | rfl | rfl <;> omega
  rw [← signZ_sgn hs ha]
  have h := sign_loop a s hs 64 k (by omega) (by omega)
  rw [Nat.div_eq_of_lt (sgn_lt _ _ (by omega) (by omega))] at h
  exact h
theorem sign_impl {a s : Int} (hs : Sz s) (ha : -9223372036854775808 ≤ a ∧ a ≤ 9223372036854775807) : impl_sign.f a s = some (signZ a s) := by
  unfold impl_sign.f shl shr signZ
  rcases hs with rfl | rfl | rfl | rfl
  · rw [show wrap64 (64 - wrap64 (8 * 1)) = 56 by decide +kernel]
    simp only [i64_wrap, IntKind.bits, show min (Int.toNat 56) 64 = 56 from rfl]
    unfold wrap64
    simp
    omega
  · rw [show wrap64 (64 - wrap64 (8 * 2)) = 48 by decide +kernel]
    simp only [i64_wrap, IntKind.bits, show min (Int.toNat 48) 64 = 48 from rfl]
    unfold wrap64
    simp
    omega
  · rw [show wrap64 (64 - wrap64 (8 * 4)) = 32 by decide +kernel]
    simp only [i64_wrap, IntKind.bits, show min (Int.toNat 32) 64 = 32 from rfl]
    unfold wrap64
    simp
    omega
  · rw [show wrap64 (64 - wrap64 (8 * 8)) = 0 by decide +kernel]
    simp only [i64_wrap, IntKind.bits, show min (Int.toNat 0) 64 = 0 from rfl]
    unfold wrap64
    simp
    omega
theorem divs_loop {H L D : Nat} (hH : H < D) (hL : L < 18446744073709551616) (hD : D < 18446744073709551616) : ∀ (j k q r : Nat), j ≤ 64 → j < k → r < D → q * D + r = H * 2 ^ (64 - j) + L / 2 ^ j →
    spec_l01Divide.l0 k (L : Int) (D : Int) (q : Int) (r : Int) ((j : Int) - 1) = some ((((18446744073709551616 * H + L) / D : Nat) : Int), (((18446744073709551616 * H + L) % D : Nat) : Int))
  | j, 0, _, _, _, hk, _, _ => by omega
  | 0, k + 1, q, r, _, _, hr, hp => by
    simp only [spec_l01Divide.l0]
    rw [if_neg (by omega)]
    simp only [Nat.sub_zero, Nat.pow_zero, Nat.div_one] at hp
    have e : 18446744073709551616 * H + L = r + D * q := by rw [Nat.mul_comm D]; omega
    rw [e, Nat.add_mul_div_left _ _ (by omega), Nat.add_mul_mod_self_left, Nat.div_eq_of_lt hr, Nat.mod_eq_of_lt hr, Nat.zero_add]
  | j + 1, k + 1, q, r, hj, hk, hr, hp => by
    simp only [spec_l01Divide.l0]
    have hst := shr_step (L := L) H (show j < 64 by omega)
    rw [← hp] at hst
    have hi : IntKind.u64.wrap ((j : Int)) = (j : Int) := u64_in (by omega) (by omega)
    have e : Int.tmod (shr .u64 (L : Int) (j : Int)) 2 = ((L / 2 ^ j % 2 : Nat) : Int) := by
      rw [shr_u64 _ _ (by omega) (by omega) (by omega)]
      simpa using tmod_nat (L / 2 ^ j) 2
    have hb2 : L / 2 ^ j % 2 < 2 := Nat.mod_lt _ (by omega)
    have hpow : 2 ^ (64 - j) ≤ 2 ^ 64 := Nat.pow_le_pow_right (by decide) (by omega)
    have hN : H * 2 ^ (64 - j) + L / 2 ^ j ≤ 18446744073709551616 * H + L := by
      have h1 : H * 2 ^ (64 - j) ≤ H * 2 ^ 64 := Nat.mul_le_mul_left _ hpow
      have h2 : L / 2 ^ j ≤ L := Nat.div_le_self _ _
      omega
    rw [if_pos (by omega), show ((j + 1 : Nat) : Int) - 1 = (j : Int) by omega, hi, if_pos (by omega), e, show wrap64 ((j : Int) - 1) = (j : Int) - 1 from w64_in (by omega) (by omega)]
    have g0 := div_bit0 (b := L / 2 ^ j % 2) hp
    have g1 := div_bit (b := L / 2 ^ j % 2) hp
    rw [← hp] at g0 g1
    rw [hst] at hN
    generalize L / 2 ^ j % 2 = b at *
    by_cases hc : 2 * r + b < D
    · have hq : 2 * q < 18446744073709551616 := quo_lt (q := 2 * q) (r := 2 * r + b) (by omega) hH hL
      have hr2 : IntKind.u64.wrap (IntKind.u64.wrap ((r : Int) * 2) + (b : Int)) = ((2 * r + b : Nat) : Int) := by
        rw [u64_in (n := (r : Int) * 2) (by omega) (by omega), u64_in (by omega) (by omega)]; omega
      have hq2 : IntKind.u64.wrap ((q : Int) * 2) = ((2 * q : Nat) : Int) := by rw [u64_in (by omega) (by omega)]; omega
      rw [if_neg (by omega), hr2, if_neg (by omega), hq2]
      exact divs_loop hH hL hD j k (2 * q) (2 * r + b) (by omega) (by omega) hc (by omega)
    · have g2 := g1.resolve_right hc
      have hq : 2 * q + 1 < 18446744073709551616 := quo_lt (q := 2 * q + 1) (r := 2 * r + b - D) (by omega) hH hL
      have hq2 : IntKind.u64.wrap (IntKind.u64.wrap ((q : Int) * 2) + 1) = ((2 * q + 1 : Nat) : Int) := by
        rw [u64_in (n := (q : Int) * 2) (by omega) (by omega), u64_in (by omega) (by omega)]; omega
      have hr2 : IntKind.u64.wrap (IntKind.u64.wrap (IntKind.u64.wrap ((r : Int) * 2) + (b : Int)) - (D : Int)) = ((2 * r + b - D : Nat) : Int) := by
        simp only [u64_emod]; omega
      have done := divs_loop hH hL hD j k (2 * q + 1) (2 * r + b - D) (by omega) (by omega) (by omega) (by omega)
      rw [hq2, hr2]
      by_cases ht : (r : Int) / 9223372036854775808 = 1
      · rw [if_pos ht]; exact done
      · rw [if_neg ht, if_pos (by rw [u64_in (n := (r : Int) * 2) (by omega) (by omega), u64_in (by omega) (by omega)]; omega)]; exact done
theorem divs_tells {H L D : Nat} (hH : H < D) (hL : L < 18446744073709551616) (hD : D < 18446744073709551616) {k : Nat} (hk : 64 < k) :
    spec_l01Divide.f k (H : Int) (L : Int) (D : Int) = some ((((18446744073709551616 * H + L) / D : Nat) : Int), (((18446744073709551616 * H + L) % D : Nat) : Int)) := by
  unfold spec_l01Divide.f
  refine divs_loop hH hL hD 64 k 0 H (by omega) hk hH ?_
  rw [Nat.div_eq_of_lt (by omega)]
  simp
theorem len8 : ∀ b : Fin 256, 0 < b.val → ∃ t : Nat, bt (⟨#[0, 1, 2, 2, 3, 3, 3, 3, 4, 4, 4, 4, 4, 4, 4, 4, 5, 5, 5, 5, 5, 5, 5, 5, 5, 5, 5, 5, 5, 5, 5, 5, 6, 6, 6, 6, 6, 6, 6, 6, 6, 6, 6, 6, 6, 6, 6, 6, 6, 6, 6, 6, 6, 6, 6, 6, 6, 6, 6, 6, 6, 6, 6, 6, 7, 7, 7, 7, 7, 7, 7, 7, 7, 7, 7, 7, 7, 7, 7, 7, 7, 7, 7, 7, 7, 7, 7, 7, 7, 7, 7, 7, 7, 7, 7, 7, 7, 7, 7, 7, 7, 7, 7, 7, 7, 7, 7, 7, 7, 7, 7, 7, 7, 7, 7, 7, 7, 7, 7, 7, 7, 7, 7, 7, 7, 7, 7, 7, 8, 8, 8, 8, 8, 8, 8, 8, 8, 8, 8, 8, 8, 8, 8, 8, 8, 8, 8, 8, 8, 8, 8, 8, 8, 8, 8, 8, 8, 8, 8, 8, 8, 8, 8, 8, 8, 8, 8, 8, 8, 8, 8, 8, 8, 8, 8, 8, 8, 8, 8, 8, 8, 8, 8, 8, 8, 8, 8, 8, 8, 8, 8, 8, 8, 8, 8, 8, 8, 8, 8, 8, 8, 8, 8, 8, 8, 8, 8, 8, 8, 8, 8, 8, 8, 8, 8, 8, 8, 8, 8, 8, 8, 8, 8, 8, 8, 8, 8, 8, 8, 8, 8, 8, 8, 8, 8, 8, 8, 8, 8, 8, 8, 8, 8, 8, 8, 8, 8, 8, 8, 8, 8, 8, 8, 8, 8, 8]⟩ : ByteArray) (b.val : Int) = (t : Int) ∧ 1 ≤ t ∧ t ≤ 8 ∧ 2 ^ (t - 1) ≤ b.val ∧ b.val < 2 ^ t := by
  intro b hb
  have h : ∀ b : Fin 256, 0 < b.val → (let t := (bt (⟨#[0, 1, 2, 2, 3, 3, 3, 3, 4, 4, 4, 4, 4, 4, 4, 4, 5, 5, 5, 5, 5, 5, 5, 5, 5, 5, 5, 5, 5, 5, 5, 5, 6, 6, 6, 6, 6, 6, 6, 6, 6, 6, 6, 6, 6, 6, 6, 6, 6, 6, 6, 6, 6, 6, 6, 6, 6, 6, 6, 6, 6, 6, 6, 6, 7, 7, 7, 7, 7, 7, 7, 7, 7, 7, 7, 7, 7, 7, 7, 7, 7, 7, 7, 7, 7, 7, 7, 7, 7, 7, 7, 7, 7, 7, 7, 7, 7, 7, 7, 7, 7, 7, 7, 7, 7, 7, 7, 7, 7, 7, 7, 7, 7, 7, 7, 7, 7, 7, 7, 7, 7, 7, 7, 7, 7, 7, 7, 7, 8, 8, 8, 8, 8, 8, 8, 8, 8, 8, 8, 8, 8, 8, 8, 8, 8, 8, 8, 8, 8, 8, 8, 8, 8, 8, 8, 8, 8, 8, 8, 8, 8, 8, 8, 8, 8, 8, 8, 8, 8, 8, 8, 8, 8, 8, 8, 8, 8, 8, 8, 8, 8, 8, 8, 8, 8, 8, 8, 8, 8, 8, 8, 8, 8, 8, 8, 8, 8, 8, 8, 8, 8, 8, 8, 8, 8, 8, 8, 8, 8, 8, 8, 8, 8, 8, 8, 8, 8, 8, 8, 8, 8, 8, 8, 8, 8, 8, 8, 8, 8, 8, 8, 8, 8, 8, 8, 8, 8, 8, 8, 8, 8, 8, 8, 8, 8, 8, 8, 8, 8, 8, 8, 8, 8, 8, 8, 8]⟩ : ByteArray) (b.val : Int)).toNat; 1 ≤ t ∧ t ≤ 8 ∧ 2 ^ (t - 1) ≤ b.val ∧ b.val < 2 ^ t) := by decide +kernel
  exact ⟨_, by have := bt_range (⟨#[0, 1, 2, 2, 3, 3, 3, 3, 4, 4, 4, 4, 4, 4, 4, 4, 5, 5, 5, 5, 5, 5, 5, 5, 5, 5, 5, 5, 5, 5, 5, 5, 6, 6, 6, 6, 6, 6, 6, 6, 6, 6, 6, 6, 6, 6, 6, 6, 6, 6, 6, 6, 6, 6, 6, 6, 6, 6, 6, 6, 6, 6, 6, 6, 7, 7, 7, 7, 7, 7, 7, 7, 7, 7, 7, 7, 7, 7, 7, 7, 7, 7, 7, 7, 7, 7, 7, 7, 7, 7, 7, 7, 7, 7, 7, 7, 7, 7, 7, 7, 7, 7, 7, 7, 7, 7, 7, 7, 7, 7, 7, 7, 7, 7, 7, 7, 7, 7, 7, 7, 7, 7, 7, 7, 7, 7, 7, 7, 8, 8, 8, 8, 8, 8, 8, 8, 8, 8, 8, 8, 8, 8, 8, 8, 8, 8, 8, 8, 8, 8, 8, 8, 8, 8, 8, 8, 8, 8, 8, 8, 8, 8, 8, 8, 8, 8, 8, 8, 8, 8, 8, 8, 8, 8, 8, 8, 8, 8, 8, 8, 8, 8, 8, 8, 8, 8, 8, 8, 8, 8, 8, 8, 8, 8, 8, 8, 8, 8, 8, 8, 8, 8, 8, 8, 8, 8, 8, 8, 8, 8, 8, 8, 8, 8, 8, 8, 8, 8, 8, 8, 8, 8, 8, 8, 8, 8, 8, 8, 8, 8, 8, 8, 8, 8, 8, 8, 8, 8, 8, 8, 8, 8, 8, 8, 8, 8, 8, 8, 8, 8, 8, 8, 8, 8, 8, 8]⟩ : ByteArray) (b.val : Int); rw [Int.toNat_of_nonneg this.1], h b hb⟩
/-- A head of one byte, found in the table. -/
theorem len_head {x m : Nat} (h0 : 0 < x / 2 ^ m) (h1 : x / 2 ^ m < 256) {c : Int} (hc : c = ((x / 2 ^ m : Nat) : Int)) {tab : ByteArray} (ht : ∀ b : Fin 256, 0 < b.val → ∃ t : Nat, bt tab (b.val : Int) = (t : Int) ∧ 1 ≤ t ∧ t ≤ 8 ∧ 2 ^ (t - 1) ≤ b.val ∧ b.val < 2 ^ t) :
    ∃ t : Nat, bt tab c = (t : Int) ∧ 1 ≤ t ∧ t ≤ 8 ∧ 2 ^ (m + t - 1) ≤ x ∧ x < 2 ^ (m + t) := by
  obtain ⟨t, e, t1, t8, b0, b1⟩ := ht ⟨x / 2 ^ m, h1⟩ h0
  subst hc
  exact ⟨t, e, t1, t8, bits_of_head t1 b0 b1⟩
set_option maxRecDepth 100000 in
theorem len_low {x : Nat} (h0 : 0 < x) (h1 : x < 4294967296) (n : Nat) (hn : n ≤ 32) (k : Nat) : ∃ t : Nat, bits_Len64.j0 (k + 1) (x : Int) (n : Int) = some ((n + t : Nat) : Int) ∧ 1 ≤ t ∧ t ≤ 32 ∧ 2 ^ (t - 1) ≤ x ∧ x < 2 ^ t := by
  rw [bits_Len64.j0]
  by_cases c1 : (x : Int) ≥ 65536
  · rw [if_pos c1]
    by_cases c2 : (x : Int) / 65536 ≥ 256
    · rw [if_pos c2, if_pos (by omega), if_pos (by omega)]
      obtain ⟨t, e, t1, t8, b0, b1⟩ := len_head (x := x) (m := 24) (by omega) (by omega) (c := (x : Int) / 65536 / 256 % 256) (by omega) len8
      refine ⟨24 + t, ?_, by omega, by omega, b0, b1⟩
      rw [e, w64_in (n := (t : Int)) (by omega) (by omega), w64_in (n := (n : Int) + 16) (by omega) (by omega), w64_in (n := (n : Int) + 16 + 8) (by omega) (by omega), w64_in (by omega) (by omega)]
      congr 1; omega
    · rw [if_neg c2, if_pos (by omega), if_pos (by omega)]
      obtain ⟨t, e, t1, t8, b0, b1⟩ := len_head (x := x) (m := 16) (by omega) (by omega) (c := (x : Int) / 65536 % 256) (by omega) len8
      refine ⟨16 + t, ?_, by omega, by omega, b0, b1⟩
      rw [e, w64_in (n := (t : Int)) (by omega) (by omega), w64_in (n := (n : Int) + 16) (by omega) (by omega), w64_in (by omega) (by omega)]
      congr 1; omega
  · rw [if_neg c1]
    by_cases c2 : (x : Int) ≥ 256
    · rw [if_pos c2, if_pos (by omega), if_pos (by omega)]
      obtain ⟨t, e, t1, t8, b0, b1⟩ := len_head (x := x) (m := 8) (by omega) (by omega) (c := (x : Int) / 256 % 256) (by omega) len8
      refine ⟨8 + t, ?_, by omega, by omega, b0, b1⟩
      rw [e, w64_in (n := (t : Int)) (by omega) (by omega), w64_in (n := (n : Int) + 8) (by omega) (by omega), w64_in (by omega) (by omega)]
      congr 1; omega
    · rw [if_neg c2, if_pos (by omega), if_pos (by omega)]
      obtain ⟨t, e, t1, t8, b0, b1⟩ := len_head (x := x) (m := 0) (by omega) (by omega) (c := (x : Int) % 256) (by omega) len8
      refine ⟨0 + t, ?_, by omega, by omega, b0, b1⟩
      rw [e, w64_in (n := (t : Int)) (by omega) (by omega), w64_in (by omega) (by omega)]
      congr 1; omega
theorem lead_tells {x : Nat} (h0 : 0 < x) (h1 : x < 18446744073709551616) (k : Nat) : ∃ s : Nat, bits_LeadingZeros64.f (k + 1) (x : Int) = some (s : Int) ∧ s < 64 ∧ 9223372036854775808 ≤ x * 2 ^ s ∧ x * 2 ^ s < 18446744073709551616 := by
  have key : ∃ t : Nat, bits_Len64.f (k + 1) (x : Int) = some (t : Int) ∧ 1 ≤ t ∧ t ≤ 64 ∧ 2 ^ (t - 1) ≤ x ∧ x < 2 ^ t := by
    unfold bits_Len64.f
    by_cases c : (x : Int) ≥ 4294967296
    · rw [if_pos c]
      have hd : (x : Int) / 4294967296 = ((x / 2 ^ 32 : Nat) : Int) := by omega
      obtain ⟨t, e, t1, t2, b0, b1⟩ := len_low (x := x / 2 ^ 32) (by omega) (by omega) 32 (by omega) k
      have hb := bits_of_head t1 b0 b1
      exact ⟨32 + t, by rw [hd]; exact e, by omega, by omega, hb.1, hb.2⟩
    · rw [if_neg c]
      obtain ⟨t, e, t1, t2, b0, b1⟩ := len_low (x := x) h0 (by omega) 0 (by omega) k
      exact ⟨t, by rw [Nat.zero_add] at e; exact e, t1, by omega, b0, b1⟩
  obtain ⟨t, e, t1, t64, b0, b1⟩ := key
  refine ⟨64 - t, ?_, by omega, ?_, ?_⟩
  · unfold bits_LeadingZeros64.f
    rw [e]
    simp only [Option.bind_some]
    rw [w64_in (by omega) (by omega)]
    congr 1; omega
  · have h := Nat.mul_le_mul_right (2 ^ (64 - t)) b0
    rw [← Nat.pow_add, show t - 1 + (64 - t) = 63 by omega] at h
    exact h
  · have h := Nat.mul_lt_mul_of_pos_right b1 (Nat.two_pow_pos (64 - t))
    rw [← Nat.pow_add, show t + (64 - t) = 64 by omega] at h
    exact h
theorem dig1 {y a b u d n e s : Nat} (hy : y = 4294967296 * a + b) (ha : 2147483648 ≤ a) (hb : b < 4294967296) (hyl : y < 18446744073709551616) (hu : u < y) (hd : d < 4294967296) (hn : n = 4294967296 * u + d) : ∀ (t k q r : Nat), q ≤ 4294967297 → n / y ≤ q → q * a + r = u → r < 4294967296 → 4294967296 ≤ r + t * 2147483648 → 2 * t + 2 ≤ k →
    ∃ k', k ≤ k' + 2 * t + 2 ∧ bits_Div64.l0 k (y : Int) (s : Int) (a : Int) (b : Int) (u : Int) (d : Int) (e : Int) (q : Int) (r : Int) = bits_Div64.j2 k' (y : Int) (s : Int) (a : Int) (b : Int) (u : Int) (d : Int) (e : Int) ((n / y : Nat) : Int)
  | 0, k, q, r, _, _, _, hr, ht, _ => by omega
  | t + 1, k, q, r, hq, hl, hqr, hr, ht, hk => by
    obtain ⟨k, rfl⟩ : ∃ m, k = m + 1 + 1 := ⟨k - 2, by omega⟩
    have ask := dig_ask hy hu hd hqr hn
    have stop : ¬ n / y < q → ∃ k', k + 1 + 1 ≤ k' + 2 * (t + 1) + 2 ∧ bits_Div64.j1 (k + 1) (y : Int) (s : Int) (a : Int) (b : Int) (u : Int) (d : Int) (e : Int) (q : Int) (r : Int) false = bits_Div64.j2 k' (y : Int) (s : Int) (a : Int) (b : Int) (u : Int) (d : Int) (e : Int) ((n / y : Nat) : Int) := fun h => by
      refine ⟨k, by omega, ?_⟩
      rw [bits_Div64.j1, if_neg (by simp), show n / y = q by omega]
    have go : n / y < q → ∃ k', k + 1 + 1 ≤ k' + 2 * (t + 1) + 2 ∧ bits_Div64.j1 (k + 1) (y : Int) (s : Int) (a : Int) (b : Int) (u : Int) (d : Int) (e : Int) (q : Int) (r : Int) true = bits_Div64.j2 k' (y : Int) (s : Int) (a : Int) (b : Int) (u : Int) (d : Int) (e : Int) ((n / y : Nat) : Int) := fun h => by
      have hq0 : 1 ≤ q := Nat.lt_of_le_of_lt (Nat.zero_le _) h
      have ha2 : q * a ≥ a := Nat.le_mul_of_pos_left _ (by omega)
      have hq1 : (q - 1) * a + (r + a) = u := by
        have : q * a = (q - 1) * a + a := by rw [← Nat.succ_mul]; congr 1; omega
        omega
      rw [bits_Div64.j1, if_pos rfl]
      have h1 : IntKind.u64.wrap ((q : Int) - 1) = ((q - 1 : Nat) : Int) := by rw [u64_in (by omega) (by omega)]; omega
      rw [h1]
      have h2 : IntKind.u64.wrap ((r : Int) + (a : Int)) = ((r + a : Nat) : Int) := by rw [u64_in (by omega) (by omega)]; omega
      rw [h2]
      by_cases c : r + a ≥ 4294967296
      · rw [if_pos (by omega)]
        refine ⟨k, by omega, ?_⟩
        rw [dig_stop hy hb hu hq1 hn c (by omega) (by omega)]
      · rw [if_neg (by omega)]
        obtain ⟨k', hk', e'⟩ := dig1 (e := e) (s := s) hy ha hb hyl hu hd hn t k (q - 1) (r + a) (by omega) (by omega) hq1 (by omega) (by omega) (by omega)
        exact ⟨k', by omega, e'⟩
    rw [bits_Div64.l0]
    by_cases c : (q : Int) ≥ 4294967296
    · rw [if_pos c]
      exact go (ask.mp (.inl (by omega)))
    · rw [if_neg c]
      have hbq : q * b ≤ 4294967295 * 4294967295 := Nat.mul_le_mul (by omega) (by omega)
      have h1 : IntKind.u64.wrap ((q : Int) * (b : Int)) = ((q * b : Nat) : Int) := by
        rw [← Int.natCast_mul, u64_in (by omega) (by omega)]
      have h2 : IntKind.u64.wrap (IntKind.u64.wrap (4294967296 * (r : Int)) + (d : Int)) = ((4294967296 * r + d : Nat) : Int) := by
        rw [u64_in (n := 4294967296 * (r : Int)) (by omega) (by omega), u64_in (by omega) (by omega)]; omega
      rw [h1, h2]
      by_cases c2 : q * b > 4294967296 * r + d
      · rw [show decide (((q * b : Nat) : Int) > ((4294967296 * r + d : Nat) : Int)) = true by simp only [decide_eq_true_eq]; omega]
        exact go (ask.mp (.inr c2))
      · rw [show decide (((q * b : Nat) : Int) > ((4294967296 * r + d : Nat) : Int)) = false by simp only [decide_eq_false_iff_not]; omega]
        exact stop (fun h => by have := ask.mpr h; omega)
theorem dig2 {y a b u d n p s : Nat} (hy : y = 4294967296 * a + b) (ha : 2147483648 ≤ a) (hb : b < 4294967296) (hyl : y < 18446744073709551616) (hu : u < y) (hd : d < 4294967296) (hn : n = 4294967296 * u + d) : ∀ (t k q r : Nat), p < 4294967296 → s < 64 → q ≤ 4294967297 → n / y ≤ q → q * a + r = u → r < 4294967296 → 4294967296 ≤ r + t * 2147483648 → 2 * t + 2 ≤ k →
    bits_Div64.l1 k (y : Int) (s : Int) (a : Int) (b : Int) (d : Int) (p : Int) (r : Int) (u : Int) (q : Int) = some (((4294967296 * p + n / y : Nat) : Int), ((n % y / 2 ^ s : Nat) : Int))
  | 0, k, q, r, _, _, _, _, _, hr, ht, _ => by omega
  | t + 1, k, q, r, hp, hs, hq, hl, hqr, hr, ht, hk => by
    obtain ⟨k, rfl⟩ : ∃ m, k = m + 1 + 1 := ⟨k - 2, by omega⟩
    have ask := dig_ask hy hu hd hqr hn
    have hz := dig_small hu hn hd
    have hlast : n / y = q → some (IntKind.u64.wrap (IntKind.u64.wrap ((p : Int) * 4294967296) + (q : Int)), shr .u64 (IntKind.u64.wrap (IntKind.u64.wrap (IntKind.u64.wrap ((u : Int) * 4294967296) + (d : Int)) - IntKind.u64.wrap ((q : Int) * (y : Int)))) (s : Int)) = some (((4294967296 * p + n / y : Nat) : Int), ((n % y / 2 ^ s : Nat) : Int)) := fun h => by
      have e1 : 4294967296 * u + d = q * y + n % y := by rw [← hn, ← h, Nat.mul_comm]; exact (Nat.div_add_mod n y).symm
      have hm : n % y < y := Nat.mod_lt _ (by omega)
      rw [← Int.natCast_mul, rest_wrap e1 (by omega) hd, shr_u64 _ _ (by omega) (by omega) (by omega), u64_in (n := (p : Int) * 4294967296) (by omega) (by omega), u64_in (by omega) (by omega), ← h]
      simp only [Int.toNat_natCast]
      congr 2
      generalize n / y = z
      omega
    have stop : ¬ n / y < q → bits_Div64.j4 (k + 1) (y : Int) (s : Int) (a : Int) (b : Int) (d : Int) (p : Int) (r : Int) (u : Int) (q : Int) false = some (((4294967296 * p + n / y : Nat) : Int), ((n % y / 2 ^ s : Nat) : Int)) := fun h => by
      rw [bits_Div64.j4, if_neg (by simp), if_pos (by omega)]
      exact hlast (by omega)
    have go : n / y < q → bits_Div64.j4 (k + 1) (y : Int) (s : Int) (a : Int) (b : Int) (d : Int) (p : Int) (r : Int) (u : Int) (q : Int) true = some (((4294967296 * p + n / y : Nat) : Int), ((n % y / 2 ^ s : Nat) : Int)) := fun h => by
      have hq0 : 1 ≤ q := Nat.lt_of_le_of_lt (Nat.zero_le _) h
      have ha2 : q * a ≥ a := Nat.le_mul_of_pos_left _ (by omega)
      have hq1 : (q - 1) * a + (r + a) = u := by
        have : q * a = (q - 1) * a + a := by rw [← Nat.succ_mul]; congr 1; omega
        omega
      rw [bits_Div64.j4, if_pos rfl]
      have h1 : IntKind.u64.wrap ((q : Int) - 1) = ((q - 1 : Nat) : Int) := by rw [u64_in (by omega) (by omega)]; omega
      rw [h1]
      have h2 : IntKind.u64.wrap ((r : Int) + (a : Int)) = ((r + a : Nat) : Int) := by rw [u64_in (by omega) (by omega)]; omega
      rw [h2]
      by_cases c : r + a ≥ 4294967296
      · rw [if_pos (by omega), if_pos (by omega)]
        have e2 := dig_stop hy hb hu hq1 hn c (by omega) (by omega)
        have e1 : 4294967296 * u + d = (q - 1) * y + n % y := by rw [← hn, e2, Nat.mul_comm]; exact (Nat.div_add_mod n y).symm
        have hm : n % y < y := Nat.mod_lt _ (by omega)
        rw [← Int.natCast_mul, rest_wrap e1 (by omega) hd, shr_u64 _ _ (by omega) (by omega) (by omega), u64_in (n := (p : Int) * 4294967296) (by omega) (by omega), u64_in (by omega) (by omega), ← e2]
        simp only [Int.toNat_natCast]
        congr 2
        generalize q - 1 = z
        omega
      · rw [if_neg (by omega)]
        exact dig2 hy ha hb hyl hu hd hn t k (q - 1) (r + a) hp hs (by omega) (by omega) hq1 (by omega) (by omega) (by omega)
    rw [bits_Div64.l1]
    by_cases c : (q : Int) ≥ 4294967296
    · rw [if_pos c]
      exact go (ask.mp (.inl (by omega)))
    · rw [if_neg c]
      have hbq : q * b ≤ 4294967295 * 4294967295 := Nat.mul_le_mul (by omega) (by omega)
      have h1 : IntKind.u64.wrap ((q : Int) * (b : Int)) = ((q * b : Nat) : Int) := by
        rw [← Int.natCast_mul, u64_in (by omega) (by omega)]
      have h2 : IntKind.u64.wrap (IntKind.u64.wrap (4294967296 * (r : Int)) + (d : Int)) = ((4294967296 * r + d : Nat) : Int) := by
        rw [u64_in (n := 4294967296 * (r : Int)) (by omega) (by omega), u64_in (by omega) (by omega)]; omega
      rw [h1, h2]
      by_cases c2 : q * b > 4294967296 * r + d
      · rw [show decide (((q * b : Nat) : Int) > ((4294967296 * r + d : Nat) : Int)) = true by simp only [decide_eq_true_eq]; omega]
        exact go (ask.mp (.inr c2))
      · rw [show decide (((q * b : Nat) : Int) > ((4294967296 * r + d : Nat) : Int)) = false by simp only [decide_eq_false_iff_not]; omega]
        exact stop (fun h => by have := ask.mpr h; omega)
theorem div64_tells {H L D : Nat} (hH : H < D) (hL : L < 18446744073709551616) (hD : D < 18446744073709551616) {k : Nat} (hk : 20 ≤ k) :
    bits_Div64.f k (H : Int) (L : Int) (D : Int) = some ((((18446744073709551616 * H + L) / D : Nat) : Int), (((18446744073709551616 * H + L) % D : Nat) : Int)) := by
  unfold bits_Div64.f
  rw [if_neg (by omega), if_neg (by omega)]
  by_cases h0 : (H : Int) = 0
  · obtain rfl : H = 0 := by omega
    have h1 : L / D ≤ L := Nat.div_le_self _ _
    rw [if_pos h0, tdiv_nat, tmod_nat, Nat.mul_zero, Nat.zero_add]
    generalize L / D = z at *
    rw [u64_in (by omega) (by omega)]
  · rw [if_neg h0]
    obtain ⟨k1, rfl⟩ : ∃ m, k = m + 1 := ⟨k - 1, by omega⟩
    obtain ⟨s, hs, hs64, hy0, hy1⟩ := lead_tells (x := D) (by omega) hD k1
    have h64 : IntKind.u64.wrap (64 - (s : Int)) = ((64 - s : Nat) : Int) := by rw [u64_in (by omega) (by omega)]; omega
    have hps := Nat.two_pow_pos s
    have hL2 : L / 2 ^ (64 - s) < 2 ^ s := by
      rw [Nat.div_lt_iff_lt_mul (Nat.two_pow_pos _), ← Nat.pow_add, show s + (64 - s) = 64 by omega]
      exact hL
    have hHs : (H + 1) * 2 ^ s ≤ D * 2 ^ s := Nat.mul_le_mul_right _ hH
    rw [Nat.add_mul, Nat.one_mul] at hHs
    have eD : shl .u64 (D : Int) (s : Int) = ((D * 2 ^ s : Nat) : Int) := by
      unfold shl
      rw [show min ((s : Int)).toNat IntKind.u64.bits = s by simp [IntKind.bits]; omega, show ((D : Int)) * 2 ^ s = ((D * 2 ^ s : Nat) : Int) by simp, u64_in (by omega) (by omega)]
    have eH : shl .u64 (H : Int) (s : Int) = ((H * 2 ^ s : Nat) : Int) := by
      unfold shl
      rw [show min ((s : Int)).toNat IntKind.u64.bits = s by simp [IntKind.bits]; omega, show ((H : Int)) * 2 ^ s = ((H * 2 ^ s : Nat) : Int) by simp, u64_in (by omega) (by omega)]
    have eL : shl .u64 (L : Int) (s : Int) = ((L * 2 ^ s % 18446744073709551616 : Nat) : Int) := by
      unfold shl
      rw [show min ((s : Int)).toNat IntKind.u64.bits = s by simp [IntKind.bits]; omega, show ((L : Int)) * 2 ^ s = ((L * 2 ^ s : Nat) : Int) by simp, u64_emod]
      rfl
    have eR : shr .u64 (L : Int) ((64 - s : Nat) : Int) = ((L / 2 ^ (64 - s) : Nat) : Int) := by
      unfold shr
      rw [show min (((64 - s : Nat) : Int)).toNat IntKind.u64.bits = 64 - s by simp [IntKind.bits]]
      simp
    have eO : Go.bits .or .u64 ((H * 2 ^ s : Nat) : Int) ((L / 2 ^ (64 - s) : Nat) : Int) = ((H * 2 ^ s + L / 2 ^ (64 - s) : Nat) : Int) := by
      rw [u64_or_nat _ _ (by omega) (by omega)]
      have := Nat.two_pow_add_eq_or_of_lt hL2 H
      rw [Nat.mul_comm (2 ^ s)] at this
      rw [this]
    rw [hs]
    simp only [Option.bind_some]
    rw [u64_in (n := (s : Int)) (by omega) (by omega), h64, if_pos (by omega), if_pos (by omega), eD, eH, eL, eR, eO]
    have hsplit : L * 2 ^ s = 18446744073709551616 * (L / 2 ^ (64 - s)) + L * 2 ^ s % 18446744073709551616 := by
      have e1 : L * 2 ^ s / 18446744073709551616 = L / 2 ^ (64 - s) := by
        rw [show (18446744073709551616 : Nat) = 2 ^ (64 - s) * 2 ^ s by rw [← Nat.pow_add, show 64 - s + s = 64 by omega]]
        exact Nat.mul_div_mul_right _ _ hps
      rw [← e1]; exact (Nat.div_add_mod _ _).symm
    have hN : (18446744073709551616 * H + L) * 2 ^ s = 18446744073709551616 * (H * 2 ^ s + L / 2 ^ (64 - s)) + L * 2 ^ s % 18446744073709551616 := by
      rw [Nat.add_mul, Nat.mul_assoc]; omega
    have hfin : ∀ q r : Nat, 18446744073709551616 * (H * 2 ^ s + L / 2 ^ (64 - s)) + L * 2 ^ s % 18446744073709551616 = q * (D * 2 ^ s) + r → r < D * 2 ^ s → q = (18446744073709551616 * H + L) / D ∧ r / 2 ^ s = (18446744073709551616 * H + L) % D := fun q r h1 h2 => by
      rw [← hN] at h1
      have e1 : (18446744073709551616 * H + L) * 2 ^ s / (D * 2 ^ s) = q := by
        rw [h1, Nat.mul_comm q, Nat.mul_add_div (by omega), Nat.div_eq_of_lt h2, Nat.add_zero]
      have e2 : (18446744073709551616 * H + L) * 2 ^ s % (D * 2 ^ s) = r := by
        rw [h1, Nat.mul_comm q, Nat.mul_add_mod, Nat.mod_eq_of_lt h2]
      rw [Nat.mul_div_mul_right _ _ hps] at e1
      rw [Nat.mul_mod_mul_right] at e2
      refine ⟨e1.symm, ?_⟩
      rw [← e2, Nat.mul_div_cancel _ hps]
    have hu : H * 2 ^ s + L / 2 ^ (64 - s) < D * 2 ^ s := by omega
    have hlow : L * 2 ^ s % 18446744073709551616 < 18446744073709551616 := Nat.mod_lt _ (by omega)
    clear eD eH eL eR eO hsplit hN hHs hL2 h64
    generalize H * 2 ^ s + L / 2 ^ (64 - s) = u at *
    generalize L * 2 ^ s % 18446744073709551616 = w at *
    generalize D * 2 ^ s = y at *
    have ey : (y : Int) / 4294967296 = ((y / 4294967296 : Nat) : Int) := by omega
    have ew : (w : Int) / 4294967296 = ((w / 4294967296 : Nat) : Int) := by omega
    have my : Go.bits .and .u64 (y : Int) 4294967295 = ((y % 4294967296 : Nat) : Int) := by rw [and_u64 _ (by omega) (by omega)]; omega
    have mw : Go.bits .and .u64 (w : Int) 4294967295 = ((w % 4294967296 : Nat) : Int) := by rw [and_u64 _ (by omega) (by omega)]; omega
    rw [ey, ew, my, mw]
    have hy : y = 4294967296 * (y / 4294967296) + y % 4294967296 := by omega
    have ha : 2147483648 ≤ y / 4294967296 := by omega
    have hb : y % 4294967296 < 4294967296 := by omega
    have hd1 : w / 4294967296 < 4294967296 := by omega
    have hd0 : w % 4294967296 < 4294967296 := by omega
    have hw : w = 4294967296 * (w / 4294967296) + w % 4294967296 := by omega
    generalize y / 4294967296 = a at *
    generalize y % 4294967296 = b at *
    generalize w / 4294967296 = d1 at *
    generalize w % 4294967296 = d0 at *
    have first : ∀ v : Nat, v < y → IntKind.u64.wrap (Int.tdiv (v : Int) (a : Int)) = ((v / a : Nat) : Int) ∧ IntKind.u64.wrap ((v : Int) - IntKind.u64.wrap (((v / a : Nat) : Int) * (a : Int))) = ((v % a : Nat) : Int) := fun v hv => by
      have h1 : v / a ≤ v := Nat.div_le_self _ _
      have h2 : v / a * a + v % a = v := by rw [Nat.mul_comm]; exact Nat.div_add_mod v a
      rw [tdiv_nat, ← Int.natCast_mul]
      generalize v / a * a = m at *
      generalize v % a = o at *
      generalize v / a = z at *
      refine ⟨by rw [u64_in (by omega) (by omega)], ?_⟩
      rw [u64_in (n := ((m : Nat) : Int)) (by omega) (by omega), u64_in (by omega) (by omega)]
      omega
    obtain ⟨f1, f2⟩ := first u hu
    rw [if_neg (by omega), f1, f2]
    have hua : u % a < a := Nat.mod_lt _ (by omega)
    have hual : a < 4294967296 := by omega
    obtain ⟨k2, hk2, e2⟩ := dig1 (e := d0) (s := s) hy ha hb hy1 hu hd1 rfl 2 (k1 + 1) (u / a) (u % a) (dig_first_le hy ha hb hu) (dig_first_ge hy (by omega) rfl hd1) (by rw [Nat.mul_comm]; exact Nat.div_add_mod u a) (by omega) (by omega) (by omega)
    rw [e2]
    obtain ⟨k3, rfl⟩ : ∃ m, k2 = m + 1 := ⟨k2 - 1, by omega⟩
    rw [bits_Div64.j2, if_neg (by omega)]
    have hz := dig_small hu (n := 4294967296 * u + d1) rfl hd1
    have hm1 : (4294967296 * u + d1) % y < y := Nat.mod_lt _ (by omega)
    have r1 : 4294967296 * u + d1 = (4294967296 * u + d1) / y * y + (4294967296 * u + d1) % y := by rw [Nat.mul_comm _ y]; exact (Nat.div_add_mod _ y).symm
    have rw1 := rest_wrap r1 (by omega) hd1
    rw [← Int.natCast_mul, rw1]
    obtain ⟨g1, g2⟩ := first _ hm1
    rw [g1, g2]
    generalize (4294967296 * u + d1) % y = u2 at *
    generalize (4294967296 * u + d1) / y = q1 at *
    have hua2 : u2 % a < a := Nat.mod_lt _ (by omega)
    rw [dig2 hy ha hb hy1 hm1 hd0 rfl 2 k3 (u2 / a) (u2 % a) hz hs64 (dig_first_le hy ha hb hm1) (dig_first_ge hy (by omega) rfl hd0) (by rw [Nat.mul_comm]; exact Nat.div_add_mod u2 a) (by omega) (by omega) (by omega)]
    have r2 : 4294967296 * u2 + d0 = (4294967296 * u2 + d0) / y * y + (4294967296 * u2 + d0) % y := by rw [Nat.mul_comm _ y]; exact (Nat.div_add_mod _ y).symm
    have hm2 : (4294967296 * u2 + d0) % y < y := Nat.mod_lt _ (by omega)
    generalize (4294967296 * u2 + d0) % y = r at *
    generalize (4294967296 * u2 + d0) / y = q0 at *
    have last := hfin (4294967296 * q1 + q0) r (by
      rw [Nat.add_mul, Nat.mul_assoc]
      omega) hm2
    rw [last.1, last.2]
theorem join_u64 {i t z : Nat} (hz : z < 2 ^ i) (hi : i < 64) (hl : 2 ^ i * t + z < 18446744073709551616) : Go.bits .or .u64 (shl .u64 ((t : Nat) : Int) ((i : Nat) : Int)) ((z : Nat) : Int) = ((2 ^ i * t + z : Nat) : Int) := by
  have h := Nat.two_pow_add_eq_or_of_lt hz t
  have e : shl .u64 ((t : Nat) : Int) ((i : Nat) : Int) = ((2 ^ i * t : Nat) : Int) := by
    unfold shl
    rw [show min ((i : Nat) : Int).toNat IntKind.u64.bits = i by simp [IntKind.bits]; omega]
    rw [show ((t : Nat) : Int) * 2 ^ i = ((2 ^ i * t : Nat) : Int) by rw [Int.natCast_mul, Int.natCast_pow, Int.mul_comm]; rfl]
    exact u64_in (by omega) (by omega)
  rw [e]
  show IntKind.u64.wrap ((BitVec.ofInt 64 ((2 ^ i * t : Nat) : Int) ||| BitVec.ofInt 64 ((z : Nat) : Int)).toNat : Int) = _
  rw [BitVec.toNat_or, un_bv, un_bv, un_nat (by omega), un_nat (by omega), ← h]
  exact u64_in (by omega) (by omega)
theorem join_i64 {i t z : Nat} (hz : z < 2 ^ i) (hi : i < 64) (hl : 2 ^ i * t + z < 18446744073709551616) : Go.bits .or .i64 (shl .i64 ((t : Nat) : Int) ((i : Nat) : Int)) ((z : Nat) : Int) = wrap64 ((2 ^ i * t + z : Nat) : Int) := by
  have h := Nat.two_pow_add_eq_or_of_lt hz t
  have e : shl .i64 ((t : Nat) : Int) ((i : Nat) : Int) = wrap64 ((2 ^ i * t : Nat) : Int) := by
    unfold shl
    rw [i64_wrap, show min ((i : Nat) : Int).toNat IntKind.i64.bits = i by simp [IntKind.bits]; omega]
    rw [show ((t : Nat) : Int) * 2 ^ i = ((2 ^ i * t : Nat) : Int) by rw [Int.natCast_mul, Int.natCast_pow, Int.mul_comm]; rfl]
  rw [e, or_un, un_wnat (by omega), un_nat (by omega), ← h]
theorem ones_u64 {i : Nat} (hi : i < 64) {x : Nat} (hx : x < 2 ^ i) : Go.bits .or .u64 ((x : Nat) : Int) (shl .u64 18446744073709551615 ((i : Nat) : Int)) = ((x + (18446744073709551616 - 2 ^ i) : Nat) : Int) := by
  have hp : 2 ^ i ≤ 2 ^ 63 := Nat.pow_le_pow_right (by decide) (by omega)
  have hp0 := Nat.two_pow_pos i
  have hd : 2 ^ i * 2 ^ (64 - i) = 18446744073709551616 := by rw [← Nat.pow_add, show i + (64 - i) = 64 by omega]
  have h := Nat.two_pow_add_eq_or_of_lt hx (2 ^ (64 - i) - 1)
  have e2 : 2 ^ i * (2 ^ (64 - i) - 1) = 18446744073709551616 - 2 ^ i := by rw [Nat.mul_sub, hd, Nat.mul_one]
  rw [e2] at h
  have e : shl .u64 18446744073709551615 ((i : Nat) : Int) = ((18446744073709551616 - 2 ^ i : Nat) : Int) := by
    unfold shl
    rw [show min ((i : Nat) : Int).toNat IntKind.u64.bits = i by simp [IntKind.bits]; omega]
    rw [IntKind.wrap_u64]
    have hq : (2 : Int) ^ i = ((2 ^ i : Nat) : Int) := by rw [Int.natCast_pow]; rfl
    rw [hq]
    generalize 2 ^ i = q at *
    omega
  rw [e]
  show IntKind.u64.wrap ((BitVec.ofInt 64 ((x : Nat) : Int) ||| BitVec.ofInt 64 ((18446744073709551616 - 2 ^ i : Nat) : Int)).toNat : Int) = _
  rw [BitVec.toNat_or, un_bv, un_bv, un_nat (by omega), un_nat (by omega), Nat.or_comm, ← h, u64_in (by omega) (by omega)]
  omega
theorem zero_nat {a s : Int} (hs : s = 1 ∨ s = 2 ∨ s = 4) : zeroZ a s = ((un a % 2 ^ (8 * s).toNat : Nat) : Int) := by
  rcases hs with rfl | rfl | rfl
  · rw [zeroZ_one, show (8 * 1 : Int).toNat = 8 from rfl]; unfold un; omega
  · rw [zeroZ_two, show (8 * 2 : Int).toNat = 16 from rfl]; unfold un; omega
  · rw [zeroZ_four, show (8 * 4 : Int).toNat = 32 from rfl]; unfold un; omega
theorem hi_arith {s : Int} {i t z : Nat} (hii : (i = 8 ∧ s = 1) ∨ (i = 16 ∧ s = 2)) (ht : t < 2 ^ i) (hz : z < 2 ^ i) (c : tb t (i - 1) = 1) :
    signZ (wrap64 ((2 ^ i * t + z : Nat) : Int)) (2 * s) = wrap64 ((2 ^ i * t + z + (18446744073709551616 - 2 ^ (2 * i)) : Nat) : Int) ∧ signZ (wrap64 ((2 ^ i * t + z : Nat) : Int)) (2 * s) / 9223372036854775808 = wrap64 ((18446744073709551615 : Nat) : Int) := by
  unfold tb at c
  rcases hii with ⟨rfl, rfl⟩ | ⟨rfl, rfl⟩
  · simp only [show (2 : Nat) ^ 8 = 256 from rfl, show (2 : Nat) ^ (2 * 8) = 65536 from rfl, show (2 : Nat) ^ (8 - 1) = 128 from rfl] at *
    unfold signZ
    rw [if_neg (by decide), if_pos (by decide)]
    unfold wrap64
    omega
  · simp only [show (2 : Nat) ^ 16 = 65536 from rfl, show (2 : Nat) ^ (2 * 16) = 4294967296 from rfl, show (2 : Nat) ^ (16 - 1) = 32768 from rfl] at *
    unfold signZ
    rw [if_neg (by decide), if_neg (by decide), if_pos (by decide)]
    unfold wrap64
    omega
theorem hi_arith4 {t z : Nat} (ht : t < 2 ^ 32) (hz : z < 2 ^ 32) (c : tb t (32 - 1) = 1) :
    signZ (wrap64 ((2 ^ 32 * t + z : Nat) : Int)) (2 * 4) = wrap64 ((2 ^ 32 * t + z : Nat) : Int) ∧ signZ (wrap64 ((2 ^ 32 * t + z : Nat) : Int)) (2 * 4) / 9223372036854775808 = wrap64 ((18446744073709551615 : Nat) : Int) := by
  unfold tb at c
  simp only [show (2 : Nat) ^ 32 = 4294967296 from rfl, show (2 : Nat) ^ (32 - 1) = 2147483648 from rfl] at *
  unfold signZ
  rw [if_neg (by decide), if_neg (by decide), if_neg (by decide)]
  unfold wrap64
  omega
theorem lo_arith {s : Int} {i t z : Nat} (hii : (i = 8 ∧ s = 1) ∨ (i = 16 ∧ s = 2) ∨ (i = 32 ∧ s = 4)) (ht : t < 2 ^ i) (hz : z < 2 ^ i) (c : ¬ tb t (i - 1) = 1) :
    signZ (wrap64 ((2 ^ i * t + z : Nat) : Int)) (2 * s) = wrap64 ((2 ^ i * t + z : Nat) : Int) ∧ signZ (wrap64 ((2 ^ i * t + z : Nat) : Int)) (2 * s) / 9223372036854775808 = wrap64 ((0 : Nat) : Int) := by
  unfold tb at c
  rcases hii with ⟨rfl, rfl⟩ | ⟨rfl, rfl⟩ | ⟨rfl, rfl⟩
  · simp only [show (2 : Nat) ^ 8 = 256 from rfl, show (2 : Nat) ^ (8 - 1) = 128 from rfl] at *
    unfold signZ
    rw [if_neg (by decide), if_pos (by decide)]
    unfold wrap64
    omega
  · simp only [show (2 : Nat) ^ 16 = 65536 from rfl, show (2 : Nat) ^ (16 - 1) = 32768 from rfl] at *
    unfold signZ
    rw [if_neg (by decide), if_neg (by decide), if_pos (by decide)]
    unfold wrap64
    omega
  · simp only [show (2 : Nat) ^ 32 = 4294967296 from rfl, show (2 : Nat) ^ (32 - 1) = 2147483648 from rfl] at *
    unfold signZ
    rw [if_neg (by decide), if_neg (by decide), if_neg (by decide)]
    unfold wrap64
    omega
theorem halves_small {s a b : Int} (hs : s = 1 ∨ s = 2 ∨ s = 4) (ha : -9223372036854775808 ≤ a ∧ a ≤ 9223372036854775807) (hb : -9223372036854775808 ≤ b ∧ b ≤ 9223372036854775807) (g : Bool) {k : Nat} (hk : 66 < k) :
    ∃ H L : Nat, H < 18446744073709551616 ∧ L < 18446744073709551616 ∧ spec_l06Join.f k s a b g = some (((H : Nat) : Int), ((L : Nat) : Int)) ∧ impl_halves.f s a b g = some (wrap64 ((H : Nat) : Int), wrap64 ((L : Nat) : Int)) := by
  have hsz : Sz s := by unfold Sz; omega
  have hs2 : Sz (2 * s) := by unfold Sz; omega
  obtain ⟨i, hi⟩ : ∃ i : Nat, (8 * s).toNat = i := ⟨_, rfl⟩
  have hii : (i = 8 ∧ s = 1) ∨ (i = 16 ∧ s = 2) ∨ (i = 32 ∧ s = 4) := by rcases hs with rfl | rfl | rfl <;> omega
  have e8 : wrap64 (8 * s) = ((i : Nat) : Int) := by rw [w64_in (by omega) (by omega)]; omega
  have e16 : wrap64 (16 * s) = ((2 * i : Nat) : Int) := by rw [w64_in (by omega) (by omega)]; omega
  have e2 : wrap64 (2 * s) = 2 * s := w64_in (by omega) (by omega)
  have e9 : wrap64 (((i : Nat) : Int) - 1) = ((i - 1 : Nat) : Int) := by rw [w64_in (by omega) (by omega)]; omega
  have u8 : IntKind.u64.wrap ((i : Nat) : Int) = ((i : Nat) : Int) := u64_in (by omega) (by omega)
  have u16 : IntKind.u64.wrap ((2 * i : Nat) : Int) = ((2 * i : Nat) : Int) := u64_in (by omega) (by omega)
  have ht : un a % 2 ^ i < 2 ^ i := Nat.mod_lt _ (Nat.two_pow_pos _)
  have hz : un b % 2 ^ i < 2 ^ i := Nat.mod_lt _ (Nat.two_pow_pos _)
  have hbit : spec_l01Bit.f a ((i - 1 : Nat) : Int) = some ((tb (un a) (i - 1) : Nat) : Int) := by rw [bit_spec _ _ (by omega) (by omega), bit_tb]
  have htb : tb (un a) (i - 1) = tb (un a % 2 ^ i) (i - 1) := (tb_mod _ _ _ (by omega)).symm
  rw [htb] at hbit
  unfold spec_l06Join.f impl_halves.f
  have h0i : (0 : Int) ≤ ((i : Nat) : Int) := by omega
  rw [if_neg (by omega), if_neg (by omega), zero_spec hsz ha (by omega), zero_spec hsz hb (by omega), zero_impl hsz, zero_impl hsz, zero_nat hs, zero_nat hs, e8, u8, hi, e9, hbit, e2]
  simp only [Option.bind_some]
  rw [if_pos h0i, if_pos h0i]
  clear htb
  generalize un a % 2 ^ i = t at *
  generalize un b % 2 ^ i = z at *
  clear hbit
  have hX : 2 ^ i * t + z < 2 ^ (2 * i) := by
    have h1 : 2 ^ i * (t + 1) ≤ 2 ^ i * 2 ^ i := Nat.mul_le_mul_left _ ht
    rw [Nat.mul_add, ← Nat.pow_add] at h1
    rw [show 2 * i = i + i by omega]
    omega
  have hp : 2 ^ (2 * i) ≤ 2 ^ 64 := Nat.pow_le_pow_right (by decide) (by omega)
  have hi64 : i < 64 := by omega
  have hj : IntKind.u64.wrap ((t : Nat) : Int) = ((t : Nat) : Int) := by
    have : 2 ^ i ≤ 2 ^ 32 := Nat.pow_le_pow_right (by decide) (by omega)
    exact u64_in (by omega) (by omega)
  have hjz : IntKind.u64.wrap ((z : Nat) : Int) = ((z : Nat) : Int) := by
    have : 2 ^ i ≤ 2 ^ 32 := Nat.pow_le_pow_right (by decide) (by omega)
    exact u64_in (by omega) (by omega)
  rw [hj, hjz, join_u64 hz hi64 (by omega), join_i64 hz hi64 (by omega)]
  obtain ⟨k, rfl⟩ : ∃ k', k = k' + 1 := ⟨k - 1, by omega⟩
  have plain : spec_l06Join.j0 (k + 1) s ((2 ^ i * t + z : Nat) : Int) false = some (0, ((2 ^ i * t + z : Nat) : Int)) := by
    rw [spec_l06Join.j0, if_neg (by decide)]
  cases g
  · rw [if_neg (by decide), if_neg (by decide), plain]
    exact ⟨0, _, by decide, by omega, rfl, by rw [show wrap64 ((0 : Nat) : Int) = 0 from w64_in (by omega) (by omega)]⟩
  · rw [if_pos rfl, if_pos rfl, beq_one, sign_impl hs2 (w64_range _), Option.bind_some]
    by_cases c : tb t (i - 1) = 1
    · rw [decide_eq_true c, spec_l06Join.j0, if_pos rfl]
      by_cases h4 : s < 4
      · have h := hi_arith (s := s) (by omega) ht hz c
        have hq : (2 ^ i * t + z) + (18446744073709551616 - 2 ^ (2 * i)) < 18446744073709551616 := by omega
        rw [if_pos h4, e16, u16, if_pos (by omega), ones_u64 (by omega) hX, h.2, h.1]
        exact ⟨18446744073709551615, _, by decide, hq, rfl, rfl⟩
      · obtain ⟨rfl, rfl⟩ : i = 32 ∧ s = 4 := by omega
        have h := hi_arith4 ht hz c
        rw [if_neg h4, h.2, h.1]
        exact ⟨18446744073709551615, _, by decide, by omega, rfl, rfl⟩
    · have h := lo_arith hii ht hz c
      rw [decide_eq_false c, plain, h.2, h.1]
      exact ⟨0, _, by decide, by omega, rfl, rfl⟩
/-- The number of two halves. -/
theorem halves_tell {s a b : Int} (hs : Sz s) (ha : -9223372036854775808 ≤ a ∧ a ≤ 9223372036854775807) (hb : -9223372036854775808 ≤ b ∧ b ≤ 9223372036854775807) (g : Bool) {k : Nat} (hk : 66 < k) :
    ∃ H L : Nat, H < 18446744073709551616 ∧ L < 18446744073709551616 ∧ spec_l06Join.f k s a b g = some (((H : Nat) : Int), ((L : Nat) : Int)) ∧ impl_halves.f s a b g = some (wrap64 ((H : Nat) : Int), wrap64 ((L : Nat) : Int)) := by
  by_cases h8 : s = 8
  · refine ⟨un a, un b, un_lt' a, un_lt' b, ?_, ?_⟩
    · unfold spec_l06Join.f
      rw [if_pos h8, IntKind.wrap_u64, IntKind.wrap_u64, ← un_eq, ← un_eq]
    · unfold impl_halves.f
      rw [if_pos h8, ← eq_wrap ha, ← eq_wrap hb]
  · exact halves_small (by unfold Sz at hs; omega) ha hb g hk
theorem below_impl (a b : Int) : impl_BelowU.f a b = some (decide (un a < un b)) := by
  unfold impl_BelowU.f
  rw [IntKind.wrap_u64, IntKind.wrap_u64, ← un_eq, ← un_eq]
  congr 1
  rw [decide_eq_decide]
  omega
theorem divideWide_impl {k : Nat} (hk : 20 ≤ k) (h l d : Int) : impl_DivideWide.f k h l d = some (if un h < un d then (wrap64 (((18446744073709551616 * un h + un l) / un d : Nat) : Int), wrap64 (((18446744073709551616 * un h + un l) % un d : Nat) : Int), 0) else (0, 0, 16)) := by
  unfold impl_DivideWide.f
  rw [below_impl, Option.bind_some, IntKind.wrap_u64, IntKind.wrap_u64, IntKind.wrap_u64, ← un_eq, ← un_eq, ← un_eq]
  by_cases c : un h < un d
  · rw [if_pos (decide_eq_true c), if_pos c, div64_tells c (un_lt' l) (un_lt' d) hk, Option.bind_some]
  · rw [if_neg (by simp [c]), if_neg c]
theorem quot_lt {h a D : Nat} (hh : h < D) (ha : a < 18446744073709551616) : (18446744073709551616 * h + a) / D < 18446744073709551616 := by
  rw [Nat.div_lt_iff_lt_mul (by omega)]
  have : 18446744073709551616 * (h + 1) ≤ 18446744073709551616 * D := Nat.mul_le_mul_left _ hh
  omega
theorem zeroZ_wrap {s : Int} (hs : Sz s) {V : Nat} (hV : V < 2 ^ (8 * s).toNat) : zeroZ (wrap64 ((V : Nat) : Int)) s = wrap64 ((V : Nat) : Int) := by
  obtain ⟨m', hm', h64, _⟩ := pow_size hs
  have hp : 2 ^ (8 * s).toNat ≤ 2 ^ 64 := Nat.pow_le_pow_right (by decide) (by omega)
  rw [zeroZ_eq hs (w64_range _), un_wnat (by omega), Nat.mod_eq_of_lt hV]
theorem fits {s : Int} (hs : Sz s) {q : Nat} (hq : q < 18446744073709551616) : (zeroZ (wrap64 ((q : Nat) : Int)) s == wrap64 ((q : Nat) : Int)) = decide (q < 2 ^ (8 * s).toNat) := by
  by_cases c : q < 2 ^ (8 * s).toNat
  · rw [zeroZ_wrap hs c, decide_eq_true c]; simp
  · rw [decide_eq_false c]
    apply Bool.eq_false_iff.mpr
    intro h
    have h2 := congrArg un (eq_of_beq h)
    rw [un_zeroZ hs, un_wnat hq] at h2
    have h3 := Nat.mod_lt q (Nat.two_pow_pos (8 * s).toNat)
    omega
theorem neg_w (q : Nat) : wrap64 (IntKind.u64.wrap (-((q : Nat) : Int))) = wrap64 (-(wrap64 ((q : Nat) : Int))) := by
  rw [IntKind.wrap_u64]; unfold wrap64; omega
theorem shl_one {m : Nat} (hm : m < 64) : shl .i64 1 ((m : Nat) : Int) = wrap64 ((2 ^ m : Nat) : Int) := by
  unfold shl
  rw [i64_wrap, show min ((m : Nat) : Int).toNat IntKind.i64.bits = m by simp [IntKind.bits]; omega]
  congr 1
  rw [Int.natCast_pow]; simp
theorem shl_one_u {m : Nat} (hm : m < 64) : shl .u64 1 ((m : Nat) : Int) = ((2 ^ m : Nat) : Int) := by
  have hp : 2 ^ m ≤ 2 ^ 63 := Nat.pow_le_pow_right (by decide) (by omega)
  unfold shl
  rw [show min ((m : Nat) : Int).toNat IntKind.u64.bits = m by simp [IntKind.bits]; omega, Int.one_mul, show (2 : Int) ^ m = ((2 ^ m : Nat) : Int) by rw [Int.natCast_pow]; rfl]
  generalize 2 ^ m = q at *
  exact u64_in (by omega) (by omega)
/-- Alike: the same third, and all alike where it is on. -/
def Alike (p1 p2 : Int × Int × Bool) : Prop := p1.2.2 = p2.2.2 ∧ (p1.2.2 = true → p1 = p2)
theorem ends {k k2 : Nat} {s : Int} (hs : Sz s) (m : Bool) {x19 y16 : Int} {r : Nat} (hq : wrap64 x19 = y16) (hr : r < 18446744073709551616) (hk : 64 < k) :
    ∃ p : Int × Int × Bool, spec_l06Divide.j3 (k + 1) s m x19 ((r : Nat) : Int) = some p ∧ impl_divide.j5 (k2 + 1) s m y16 (wrap64 ((r : Nat) : Int)) = some p := by
  simp only [spec_l06Divide.j3, impl_divide.j5]
  rw [hq]
  have hy : -9223372036854775808 ≤ y16 ∧ y16 ≤ 9223372036854775807 := by rw [← hq]; exact w64_range _
  rw [neg_w, zero_spec hs hy hk, zero_spec hs (w64_range _) hk, zero_spec hs (w64_range _) hk, zero_impl hs, zero_impl hs, zero_impl hs]
  simp only [Option.bind_some]
  cases m
  · exact ⟨_, rfl, rfl⟩
  · exact ⟨_, rfl, rfl⟩
theorem core {k k2 : Nat} {s d : Int} (hs : Sz s) {H L D : Nat} (hH : H < 18446744073709551616) (hL : L < 18446744073709551616) (hD : un d = D) (g m u : Bool) (hg : g = false → D < 2 ^ (8 * s).toNat) (hk : 70 < k) (hk2 : 20 < k2) :
    ∃ p1 p2 : Int × Int × Bool, spec_l06Divide.j1 (k + 3) s g ((H : Nat) : Int) ((L : Nat) : Int) ((D : Nat) : Int) m (m != u) = some p1 ∧ impl_divide.j4 (k2 + 2) s (wrap64 ((H : Nat) : Int)) (wrap64 ((L : Nat) : Int)) d g m u = some p2 ∧ Alike p1 p2 := by
  have hDl : D < 18446744073709551616 := by rw [← hD]; exact un_lt' d
  obtain ⟨m', hm', h64, hm2⟩ := pow_size hs
  rw [show k + 3 = k + 2 + 1 from rfl, show k2 + 2 = k2 + 1 + 1 from rfl, spec_l06Divide.j1, impl_divide.j4, divideWide_impl (by omega), un_wnat hH, un_wnat hL, hD]
  by_cases c : H < D
  rotate_left
  · rw [if_pos (by omega), if_neg c, Option.bind_some]
    exact ⟨_, _, rfl, rfl, rfl, fun h => rfl⟩
  have hq := quot_lt c hL
  have hr : (18446744073709551616 * H + L) % D < D := Nat.mod_lt _ (by omega)
  rw [if_neg (by omega), if_pos c, Option.bind_some, divs_tells c hL hDl (by omega), Option.bind_some]
  simp only []
  generalize (18446744073709551616 * H + L) / D = q at *
  generalize (18446744073709551616 * H + L) % D = r at *
  have e81 : wrap64 (wrap64 (8 * s) - 1) = ((m' : Nat) : Int) := by
    rw [w64_in (n := 8 * s) (by omega) (by omega), hm2, w64_in (by omega) (by omega)]
  have hu8 : IntKind.u64.wrap (wrap64 (8 * s)) = ((m' + 1 : Nat) : Int) := by
    rw [w64_in (n := 8 * s) (by omega) (by omega), u64_in (by omega) (by omega)]; omega
  have hum : IntKind.u64.wrap ((m' : Nat) : Int) = ((m' : Nat) : Int) := u64_in (by omega) (by omega)
  have hp : 2 ^ m' ≤ 2 ^ 63 := Nat.pow_le_pow_right (by decide) (by omega)
  have hrl : r < 18446744073709551616 := by omega
  have h0m : (0 : Int) ≤ ((m' : Nat) : Int) := by omega
  have hm64 : m' < 64 := by omega
  rw [if_pos trivial]
  cases g
  · have hr2 : r < 2 ^ (8 * s).toNat := by have := hg rfl; omega
    rw [if_neg (show ¬ (false = true) by decide), if_neg (show ¬ (false = true) by decide), zero_impl hs, zero_impl hs, Option.bind_some, Option.bind_some, Option.bind_some, fits hs hq, zeroZ_wrap hs hr2]
    by_cases h8 : s = 8
    · have hq8 : q < 2 ^ (8 * s).toNat := by rw [h8]; exact hq
      rw [if_pos h8, zeroZ_wrap hs hq8, decide_eq_true hq8]
      exact ⟨_, _, rfl, rfl, rfl, fun h => rfl⟩
    · rw [if_neg h8, hu8, if_pos (by omega), shr_u64 _ _ (by omega) (by omega) (by unfold Sz at hs; omega), Int.toNat_natCast, Int.toNat_natCast, hm']
      by_cases hq8 : q < 2 ^ (m' + 1)
      · rw [Nat.div_eq_of_lt hq8, decide_eq_true hq8, zeroZ_wrap hs (by rw [hm']; exact hq8)]
        exact ⟨_, _, rfl, rfl, rfl, fun h => rfl⟩
      · rw [decide_eq_false hq8]
        have h1 : 1 ≤ q / 2 ^ (m' + 1) := by rw [Nat.le_div_iff_mul_le (Nat.two_pow_pos _)]; omega
        rw [show ((((q / 2 ^ (m' + 1) : Nat) : Int)) == 0) = false by simp only [beq_eq_false_iff_ne, ne_eq]; omega]
        exact ⟨_, _, rfl, rfl, rfl, fun h => absurd h Bool.false_ne_true⟩
  · rw [if_pos (show (true = true) from rfl), if_pos (show (true = true) from rfl), e81, hum, if_pos h0m, if_pos h0m, shl_one_u hm64, shl_one hm64, below_impl, below_impl, un_wnat hq, un_wnat (by omega)]
    have j2t : ∀ tn, spec_l06Divide.j2 (k + 2) s m tn ((q : Nat) : Int) ((r : Nat) : Int) true = some (0, 0, false) := fun tn => by
      rw [spec_l06Divide.j2, if_pos rfl]
    cases hmu : (m != u)
    · rw [if_neg (show ¬ (false = true) by decide), Option.bind_some]
      have j2f : spec_l06Divide.j2 (k + 2) s m false ((q : Nat) : Int) ((r : Nat) : Int) false = spec_l06Divide.j3 (k + 1) s m ((q : Nat) : Int) ((r : Nat) : Int) := by
        rw [spec_l06Divide.j2, if_neg (by decide), if_neg (by decide)]
      by_cases c1 : q < 2 ^ m'
      · rw [if_neg (by omega), if_neg (by omega), if_pos (decide_eq_true c1), j2f]
        obtain ⟨p, h1, h2⟩ := ends (k := k) (k2 := k2) hs m (x19 := ((q : Nat) : Int)) rfl hrl (by omega)
        exact ⟨p, p, h1, h2, rfl, fun _ => rfl⟩
      · rw [if_neg (show ¬ (decide (q < 2 ^ m') = true) by simp only [decide_eq_true_eq]; exact c1)]
        by_cases c2 : ((q : Nat) : Int) > ((2 ^ m' : Nat) : Int)
        · rw [if_pos c2, j2t]
          exact ⟨_, _, rfl, rfl, rfl, fun h => rfl⟩
        · rw [if_neg c2, if_pos (by omega), Bool.not_false, j2t]
          exact ⟨_, _, rfl, rfl, rfl, fun h => rfl⟩
    · rw [if_pos (show (true = true) from rfl), Option.bind_some]
      have j2f : spec_l06Divide.j2 (k + 2) s m true ((q : Nat) : Int) ((r : Nat) : Int) false = spec_l06Divide.j3 (k + 1) s m (IntKind.u64.wrap (-((q : Nat) : Int))) ((r : Nat) : Int) := by
        rw [spec_l06Divide.j2, if_neg (by decide), if_pos rfl]
      by_cases c1 : 2 ^ m' < q
      · rw [if_pos (by omega), j2t, if_pos (decide_eq_true c1)]
        exact ⟨_, _, rfl, rfl, rfl, fun h => rfl⟩
      · rw [if_neg (by omega), Bool.not_true, ite_self, j2f, if_neg (by simp; omega)]
        obtain ⟨p, h1, h2⟩ := ends (k := k) (k2 := k2) hs m (x19 := IntKind.u64.wrap (-((q : Nat) : Int))) (neg_w q) hrl (by omega)
        exact ⟨p, p, h1, h2, rfl, fun _ => rfl⟩
theorem not_u64 {h : Nat} (hh : h < 18446744073709551616) : Go.bits .xor .u64 18446744073709551615 ((h : Nat) : Int) = ((18446744073709551615 - h : Nat) : Int) := by
  show IntKind.u64.wrap ((BitVec.ofInt 64 18446744073709551615 ^^^ BitVec.ofInt 64 ((h : Nat) : Int)).toNat : Int) = _
  have e : BitVec.ofInt 64 18446744073709551615 = BitVec.allOnes 64 := by decide +kernel
  rw [e, BitVec.allOnes_xor, BitVec.toNat_not, un_bv, un_nat hh, u64_in (by omega) (by omega)]
theorem size_abs {a : Int} (ha : -9223372036854775808 ≤ a ∧ a ≤ 9223372036854775807) : spec_l06Size.f a = some ((a.natAbs : Nat) : Int) := by
  unfold spec_l06Size.f
  by_cases h : a < 0
  · rw [if_pos h, IntKind.wrap_u64, IntKind.wrap_u64]; congr 1; omega
  · rw [if_neg h, IntKind.wrap_u64]; congr 1; omega
theorem sign_zero {d s : Int} (hs : Sz s) : signZ (zeroZ d s) s = signZ d s := by
  rcases hs with rfl | rfl | rfl | rfl
  · rw [zeroZ_one]; unfold signZ; rw [if_pos rfl, if_pos rfl]; omega
  · rw [zeroZ_two]; unfold signZ; rw [if_neg (by decide), if_pos rfl, if_neg (by decide), if_pos rfl]; omega
  · rw [zeroZ_four]; unfold signZ; rw [if_neg (by decide), if_neg (by decide), if_pos rfl, if_neg (by decide), if_neg (by decide), if_pos rfl]; omega
  · rw [zeroZ_eight]
theorem sub_tells {b c : Int} (hb : 0 ≤ b ∧ b < 18446744073709551616) (hc : 0 ≤ c ∧ c ≤ 1) : bits_Sub64.f 0 b c = some ((0 - b - c) % 18446744073709551616, if 0 < b + c then 1 else 0) := by
  unfold bits_Sub64.f
  rw [if_pos (show (0 : Int) ≤ 0 by omega), if_pos hb, if_pos hc.1, if_pos hc.2]
/-- The opposite pair. -/
theorem turned_pair {k : Nat} {s : Int} {H L : Nat} (hH : H < 18446744073709551616) (hL : L < 18446744073709551616) (g : Bool) (D : Int) (u : Bool) :
    ∃ H' L' : Nat, H' < 18446744073709551616 ∧ L' < 18446744073709551616 ∧ spec_l06Divide.j0 (k + 1) s g ((H : Nat) : Int) ((L : Nat) : Int) D true u = spec_l06Divide.j1 k s g ((H' : Nat) : Int) ((L' : Nat) : Int) D true u ∧ impl_opposite.f (wrap64 ((H : Nat) : Int)) (wrap64 ((L : Nat) : Int)) = some (wrap64 ((H' : Nat) : Int), wrap64 ((L' : Nat) : Int)) := by
  have hl : IntKind.u64.wrap (-((L : Nat) : Int)) = (((18446744073709551616 - L) % 18446744073709551616 : Nat) : Int) := by rw [IntKind.wrap_u64]; omega
  have uw : ∀ X : Nat, X < 18446744073709551616 → IntKind.u64.wrap (wrap64 ((X : Nat) : Int)) = ((X : Nat) : Int) := fun X hX => by rw [IntKind.wrap_u64, ← un_eq, un_wnat hX]
  rw [spec_l06Divide.j0, if_pos rfl, hl, not_u64 hH]
  unfold impl_opposite.f
  rw [uw L hL, uw H hH, sub_tells (b := ((L : Nat) : Int)) (by omega) (by omega), Option.bind_some]
  simp only []
  by_cases c : L = 0
  · subst c
    refine ⟨(18446744073709551616 - H) % 18446744073709551616, 0, Nat.mod_lt _ (by decide), by decide, ?_, ?_⟩
    · rw [if_pos (by decide)]
      congr 1
      rw [IntKind.wrap_u64]; omega
    · rw [show (if (0 : Int) < ((0 : Nat) : Int) + 0 then (1 : Int) else 0) = 0 from rfl, sub_tells (by omega) (by omega), Option.bind_some]
      congr 2 <;> congr 1 <;> omega
  · refine ⟨18446744073709551615 - H, 18446744073709551616 - L, by omega, by omega, ?_, ?_⟩
    · rw [if_neg (by omega)]
      congr 1
      omega
    · rw [if_pos (show (0 : Int) < ((L : Nat) : Int) + 0 by omega), sub_tells (by omega) (by omega), Option.bind_some]
      congr 2 <;> congr 1 <;> omega
theorem minus_tells {H : Nat} (hH : H < 18446744073709551616) : (((H : Nat) : Int) / 9223372036854775808 == 1) = decide (wrap64 ((H : Nat) : Int) < 0) := by
  by_cases c : wrap64 ((H : Nat) : Int) < 0
  · rw [decide_eq_true c, beq_iff_eq]; unfold wrap64 at c; omega
  · rw [decide_eq_false c, beq_eq_false_iff_ne]; unfold wrap64 at c; omega
theorem both {k : Nat} {a b c d e : Int} {p : Int × Int × Int} (h1 : spec_Divide.f k a b c d e = some p) (h2 : impl_Divide.f k a b c d e = some p) : laws_FnExactDivide.f k a b c d e = some true := by
  unfold laws_FnExactDivide.f
  rw [h1, h2]
  simp only [Option.bind_some, if_true]
theorem divide_alike {op s h l d : Int} (hs : Sz s) (hh : -9223372036854775808 ≤ h ∧ h ≤ 9223372036854775807) (hl : -9223372036854775808 ≤ l ∧ l ≤ 9223372036854775807) (hd : -9223372036854775808 ≤ d ∧ d ≤ 9223372036854775807) :
    ∃ p1 p2 : Int × Int × Bool, spec_l06Divide.f 199 op s h l d = some p1 ∧ impl_divide.f 199 op s h l d = some p2 ∧ Alike p1 p2 := by
  obtain ⟨H, L, hH, hL, e1, e2⟩ := halves_tell hs hh hl (op == 16) (k := 199) (by omega)
  have hzr := zeroZ_range hs hd
  have hsr : -9223372036854775808 ≤ signZ d s ∧ signZ d s ≤ 9223372036854775807 := by rw [← signZ_sgn hs hd]; exact w64_range _
  unfold spec_l06Divide.f impl_divide.f
  rw [e1, e2, Option.bind_some, Option.bind_some, zero_spec hs hd (by omega), zero_impl hs, Option.bind_some, Option.bind_some, sign_spec hs hd (by omega), sign_impl hs hzr, sign_zero hs]
  by_cases o : op = 16
  rotate_left
  · rw [if_neg o, if_neg o, show (op == 16) = false by simp [o], impl_divide.j0, if_neg (show ¬ (false = true) by decide), impl_divide.j1, if_neg (show ¬ (false = true) by decide), impl_divide.j2, if_neg (show ¬ (false = true) by decide), impl_divide.j3, if_neg (show ¬ (false = true) by decide), spec_l06Divide.j0, if_neg (show ¬ (false = true) by decide), IntKind.wrap_u64, ← un_eq]
    exact core (k := 195) (k2 := 193) hs hH hL rfl false false false (fun _ => by rw [un_zeroZ hs]; exact Nat.mod_lt _ (Nat.two_pow_pos _)) (by omega) (by omega)
  · rw [if_pos o, if_pos o, show (op == 16) = true by simp [o]]
    rw [Option.bind_some, Option.bind_some, size_abs hsr, Option.bind_some, Option.bind_some]
    have hmt := minus_tells hH
    show ∃ p1 p2 : Int × Int × Bool, spec_l06Divide.j0 199 s true ((H : Nat) : Int) ((L : Nat) : Int) (((signZ d s).natAbs : Nat) : Int) (((H : Nat) : Int) / 9223372036854775808 == 1) ((((H : Nat) : Int) / 9223372036854775808 == 1) != decide (signZ d s < 0)) = some p1 ∧ impl_divide.j0 199 s (wrap64 ((H : Nat) : Int)) (wrap64 ((L : Nat) : Int)) (signZ d s) true = some p2 ∧ Alike p1 p2
    rw [hmt]
    have tail : ∀ (H' L' : Nat) (m : Bool), H' < 18446744073709551616 → L' < 18446744073709551616 → ∃ p1 p2 : Int × Int × Bool, spec_l06Divide.j1 198 s true ((H' : Nat) : Int) ((L' : Nat) : Int) (((signZ d s).natAbs : Nat) : Int) m (m != decide (signZ d s < 0)) = some p1 ∧ impl_divide.j2 197 s (wrap64 ((H' : Nat) : Int)) (wrap64 ((L' : Nat) : Int)) (signZ d s) true m false = some p2 ∧ Alike p1 p2 := fun H' L' m hH' hL' => by
      rw [impl_divide.j2, if_pos rfl, impl_divide.j3]
      by_cases c : signZ d s < 0
      · rw [decide_eq_true c, if_pos rfl]
        exact core (k := 195) (k2 := 193) hs hH' hL' (by rw [un_w64]; unfold un; omega) true m true (fun h => absurd h (by decide)) (by omega) (by omega)
      · rw [decide_eq_false c, if_neg (by decide)]
        exact core (k := 195) (k2 := 193) hs hH' hL' (by unfold un; omega) true m false (fun h => absurd h (by decide)) (by omega) (by omega)
    rw [impl_divide.j0, if_pos rfl, impl_divide.j1]
    by_cases c : wrap64 ((H : Nat) : Int) < 0
    · rw [decide_eq_true c, if_pos rfl]
      obtain ⟨H', L', h1, h2, h3, h4⟩ := turned_pair (k := 198) (s := s) hH hL true (((signZ d s).natAbs : Nat) : Int) (true != decide (signZ d s < 0))
      rw [h3, h4, Option.bind_some]
      exact tail H' L' true h1 h2
    · rw [decide_eq_false c, if_neg (by decide), spec_l06Divide.j0, if_neg (by decide)]
      exact tail H L false hH hL
theorem FnExactDivide : laws_FnExactDivide.Pure := by
  intro op s h l d _ _ hh hl hd
  have hh := wf_i64 hh
  have hl := wf_i64 hl
  have hd := wf_i64 hd
  refine ⟨200, ?_⟩
  have hsi : impl_isSize.f s = some (decide (Sz s)) := size_spec s
  by_cases hs : Sz s
  rotate_left
  · refine both (p := (0, 0, 4)) ?_ ?_
    · unfold spec_Divide.f
      rw [size_spec]
      simp [hs]
    · unfold impl_Divide.f
      rw [hsi]
      simp [hs]
  obtain ⟨p1, p2, h1, h2, a1, a2⟩ := divide_alike (op := op) hs hh hl hd
  have j1 : ∀ b, spec_Divide.j0 200 op s h l d b = if b = true then some (0, 0, 11) else if p1.2.2 = true then some (p1.1, p1.2.1, 0) else some (0, 0, 16) := fun b => by
    rw [spec_Divide.j0, h1, Option.bind_some]
  have j2 : ∀ b, impl_Divide.j0 200 op s h l d b = if b = true then some (0, 0, 11) else if p1.2.2 = true then some (p1.1, p1.2.1, 0) else some (0, 0, 16) := fun b => by
    rw [impl_Divide.j0, h2, Option.bind_some, ← a1]
    by_cases c : p1.2.2 = true
    · rw [← a2 c]
    · rw [if_neg c, if_neg c]
  obtain ⟨p, hp⟩ : ∃ p, (if op = 15 then (if false = true then some ((0 : Int), (0 : Int), (11 : Int)) else if p1.2.2 = true then some (p1.1, p1.2.1, 0) else some (0, 0, 16)) else (if (op != 16) = true then some (0, 0, 11) else if p1.2.2 = true then some (p1.1, p1.2.1, 0) else some (0, 0, 16))) = some p := by
    split <;> split <;> (try split) <;> exact ⟨_, rfl⟩
  refine both (p := p) ?_ ?_
  · unfold spec_Divide.f
    rw [size_spec, decide_eq_true hs, Option.bind_some, if_pos rfl, j1, j1]
    exact hp
  · unfold impl_Divide.f
    rw [hsi, decide_eq_true hs, Option.bind_some, if_pos rfl, j2, j2]
    exact hp

end Go.Proofs.Ytdljhgmgpnpfiaa.Pure
