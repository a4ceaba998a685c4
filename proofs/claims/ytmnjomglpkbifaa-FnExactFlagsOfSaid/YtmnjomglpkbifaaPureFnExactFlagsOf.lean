/- The program's FlagsOf answers as the reference's at every two numbers. -/
import Derived.Test.YtmnjomglpkbifaaPFnExactFlagsOfx1
import Derived.Test.YtmnjomglpkbifaaNum
namespace Go.Proofs.Ytmnjomglpkbifaa.Pure
open Go.RowKit Go.Proofs.Ytmnjomglpkbifaa.PFnExactFlagsOf Go.Proofs.YtmnjomglpkbifaaW.PrintWords Go.Proofs.YtmnjomglpkbifaaW.PrintLast Go.Proofs.YtmnjomglpkbifaaW.PrintMore Go.Proofs.Ytmnjomglpkbifaa.Num

theorem size_spec (s : Int) : spec_l01Size.f s = some (decide (Sz s)) := by
  unfold spec_l01Size.f Sz
  by_cases h1 : s = 1 <;> by_cases h2 : s = 2 <;> by_cases h4 : s = 4 <;> by_cases h8 : s = 8 <;> simp_all
theorem size_impl (s : Int) : impl_isSize.f s = some (decide (Sz s)) := size_spec s
theorem bit_spec (a i : Int) (h0 : 0 ≤ i) (h1 : i < 64) : spec_l01Bit.f a i = some (bit a i) := by
  unfold spec_l01Bit.f
  have hi : IntKind.u64.wrap i = i := u64_in h0 (by omega)
  have ha : IntKind.u64.wrap a = (un a : Int) := by rw [IntKind.wrap_u64, un_eq]
  rw [hi, if_pos h0, ha, shr_u64 _ _ (by omega) h0 h1, Int.toNat_natCast]
  unfold bit
  have e : Int.tmod ((un a / 2 ^ i.toNat : Nat) : Int) 2 = ((un a / 2 ^ i.toNat % 2 : Nat) : Int) := by
    rw [Int.tmod_eq_emod_of_nonneg (Int.natCast_nonneg _)]; rfl
  rw [e]
  rcases Nat.mod_two_eq_zero_or_one (un a / 2 ^ i.toNat) with h | h <;> rw [h] <;> simp
theorem zero_loop (a : Int) (n : Nat) (hn : n ≤ 64) : ∀ (j k : Nat), j ≤ n → j < k →
    spec_l01Zero.l0 k a ((un a % 2 ^ n / 2 ^ j : Nat) : Int) ((j : Int) - 1) = some (wrap64 ((un a % 2 ^ n : Nat) : Int))
  | j, 0, _, hk => by omega
  | 0, k + 1, _, _ => by
    simp only [spec_l01Zero.l0]
    rw [if_neg (by omega)]
    simp
  | j + 1, k + 1, hj, hk => by
    simp only [spec_l01Zero.l0]
    rw [if_pos (by omega), show ((j + 1 : Nat) : Int) - 1 = (j : Int) by omega, bit_spec _ _ (by omega) (by omega)]
    simp only [Option.bind_some]
    have hl := un_lt' a
    have h2 : un a % 2 ^ n ≤ un a := Nat.mod_le _ _
    have h3 := half_step (un a % 2 ^ n) j
    have h4 := mod_bit (un a) n j (by omega)
    have h5 : un a % 2 ^ n / 2 ^ j ≤ un a % 2 ^ n := Nat.div_le_self _ _
    have e : IntKind.u64.wrap (IntKind.u64.wrap (2 * ((un a % 2 ^ n / 2 ^ (j + 1) : Nat) : Int)) + IntKind.u64.wrap (bit a (j : Int))) = ((un a % 2 ^ n / 2 ^ j : Nat) : Int) := by
      unfold bit
      rw [Int.toNat_natCast, ← h4]
      rw [u64_in (n := 2 * _) (by omega) (by omega), u64_in (n := ((un a % 2 ^ n / 2 ^ j % 2 : Nat) : Int)) (by omega) (by omega), u64_in (by omega) (by omega)]
      omega
    rw [e, show wrap64 ((j : Int) - 1) = (j : Int) - 1 from w64_in (by omega) (by omega)]
    exact zero_loop a n hn j k (by omega) (by omega)
theorem zero_spec {k : Nat} {a s : Int} (hs : Sz s) (ha : -9223372036854775808 ≤ a ∧ a ≤ 9223372036854775807) (hk : 64 < k) : spec_l01Zero.f k a s = some (zeroZ a s) := by
  unfold spec_l01Zero.f
  have h8 : 0 ≤ 8 * s ∧ 8 * s ≤ 64 := by rcases hs with rfl | rfl | rfl | rfl <;> omega
  rw [w64_in (n := 8 * s) (by omega) (by omega), w64_in (by omega) (by omega), ← zeroZ_un hs ha]
  have h := zero_loop a (8 * s).toNat (by omega) (8 * s).toNat k (by omega) (by omega)
  rw [show un a % 2 ^ (8 * s).toNat / 2 ^ (8 * s).toNat = 0 from Nat.div_eq_of_lt (Nat.mod_lt _ (Nat.two_pow_pos _)), show (((8 * s).toNat : Nat) : Int) = 8 * s by omega] at h
  exact h
theorem zero_impl {a s : Int} (hs : Sz s) : impl_zero.f a s = some (zeroZ a s) := by
  unfold impl_zero.f
  rcases hs with rfl | rfl | rfl | rfl
  · rw [if_neg (by omega), if_pos (by unfold wrap64; omega), show wrap64 (shl .i64 1 (wrap64 (8 * 1)) - 1) = 2 ^ 8 - 1 by decide +kernel, and_mask _ _ (by decide)]; rfl
  · rw [if_neg (by omega), if_pos (by unfold wrap64; omega), show wrap64 (shl .i64 1 (wrap64 (8 * 2)) - 1) = 2 ^ 16 - 1 by decide +kernel, and_mask _ _ (by decide)]; rfl
  · rw [if_neg (by omega), if_pos (by unfold wrap64; omega), show wrap64 (shl .i64 1 (wrap64 (8 * 4)) - 1) = 2 ^ 32 - 1 by decide +kernel, and_mask _ _ (by decide)]; rfl
  · rw [if_pos rfl]; rfl
/-- How many of the lowest i bits of v are on. -/
def ones (v : Int) : Nat → Int
  | 0 => 0
  | i + 1 => ones v i + bit v i
theorem ones_range (v : Int) : ∀ i : Nat, 0 ≤ ones v i ∧ ones v i ≤ i
  | 0 => by simp [ones]
  | i + 1 => by
    have := ones_range v i
    have := bit_or v i
    simp only [ones]
    omega
/-- The flags of sign, nought and parity. -/
def szp (s v : Int) : Int :=
  Go.bits .or .i64 (Go.bits .or .i64 (if bit v (8 * s - 1) = 1 then 128 else 0) (if zeroZ v s = 0 then 64 else 0)) (if ones v 8 % 2 = 0 then 4 else 0)
theorem szp_loop {s v : Int} (hs : Sz s) (hv : -9223372036854775808 ≤ v ∧ v ≤ 9223372036854775807) : ∀ (j k i : Nat), i + j = 8 → j + 65 < k →
    spec_l06Szp.l0 k s v (ones v i) (i : Int) = some (szp s v)
  | j, 0, i, _, hk => by omega
  | 0, k + 1, i, hj, hk => by
    simp only [spec_l06Szp.l0]
    obtain rfl : i = 8 := by omega
    have h8 : 8 ≤ 8 * s ∧ 8 * s ≤ 64 := by rcases hs with rfl | rfl | rfl | rfl <;> omega
    rw [if_neg (by omega), w64_in (n := 8 * s) (by omega) (by omega), w64_in (n := 8 * s - 1) (by omega) (by omega), bit_spec _ _ (by omega) (by omega), zero_spec hs hv (by omega)]
    have ho := ones_range v 8
    rw [Int.tmod_eq_emod_of_nonneg ho.1]
    unfold spec_l06If.f szp
    simp only [Option.bind_some, beq_iff_eq]
    by_cases a : bit v (8 * s - 1) = 1 <;> by_cases b : zeroZ v s = 0 <;> by_cases c : ones v 8 % 2 = 0 <;> simp [a, b, c]
  | j + 1, k + 1, i, hj, hk => by
    simp only [spec_l06Szp.l0]
    have h1 := ones_range v i
    have h2 := bit_or v i
    rw [if_pos (by omega), bit_spec _ _ (by omega) (by omega)]
    simp only [Option.bind_some]
    rw [w64_in (n := ones v i + bit v i) (by omega) (by omega), w64_in (by omega) (by omega)]
    have h := szp_loop hs hv j k (i + 1) (by omega) (by omega)
    simpa only [ones, Int.natCast_add, Int.natCast_one] using h
theorem szp_spec {k : Nat} {s v : Int} (hs : Sz s) (hv : -9223372036854775808 ≤ v ∧ v ≤ 9223372036854775807) (hk : 73 < k) : spec_l06Szp.f k s v = some (szp s v) := by
  unfold spec_l06Szp.f
  exact szp_loop hs hv 8 k 0 rfl (by omega)
theorem ones_mod (v : Int) : ones v 8 = ones (v % 256) 8 := by
  simp only [ones, bit, un]
  have e : ∀ i : Nat, i < 8 → (v % 18446744073709551616).toNat / 2 ^ i % 2 = (v % 256 % 18446744073709551616).toNat / 2 ^ i % 2 := by
    intro i hi
    have h1 := mod_bit (v % 18446744073709551616).toNat 8 i hi
    have h2 : (v % 256 % 18446744073709551616).toNat = (v % 18446744073709551616).toNat % 2 ^ 8 := by omega
    rw [h2, h1]
  simp only [Int.toNat_natCast]
  rw [e 0 (by omega), e 1 (by omega), e 2 (by omega), e 3 (by omega), e 4 (by omega), e 5 (by omega), e 6 (by omega), e 7 (by omega)]
theorem ones_table : ∀ i : Fin 256, bits_OnesCount8.f (i.val : Int) = some (ones (i.val : Int) 8) := by decide +kernel
theorem ones_impl (v : Int) : bits_OnesCount8.f (v % 256) = some (ones v 8) := by
  have h := ones_table ⟨(v % 256).toNat, by omega⟩
  simp only at h
  rwa [show (((v % 256).toNat : Nat) : Int) = v % 256 by omega, ← ones_mod] at h
/-- The highest bit. -/
theorem top_impl {s v : Int} (hs : Sz s) (hv : -9223372036854775808 ≤ v ∧ v ≤ 9223372036854775807) : impl_top.f v s = some (bit v (8 * s - 1) == 1) := by
  unfold impl_top.f
  have h8 : 8 ≤ 8 * s ∧ 8 * s ≤ 64 := by rcases hs with rfl | rfl | rfl | rfl <;> omega
  rw [w64_in (n := 8 * s) (by omega) (by omega), w64_in (n := 8 * s - 1) (by omega) (by omega), if_pos (by omega)]
  have e : Go.bits .and .i64 (shr .i64 v (8 * s - 1)) 1 = bit v (8 * s - 1) := by
    rw [show (1 : Int) = 2 ^ 1 - 1 from rfl, and_mask _ 1 (by decide)]
    unfold shr bit un
    rcases hs with rfl | rfl | rfl | rfl <;> simp [IntKind.bits] <;> omega
  rw [e]
theorem flags_impl {s v : Int} (hs : Sz s) (hv : -9223372036854775808 ≤ v ∧ v ≤ 9223372036854775807) : impl_flagsOf.f s v = some (szp s v) := by
  unfold impl_flagsOf.f
  have ho := ones_range v 8
  rw [top_impl hs hv, zero_impl hs, ones_impl]
  simp only [Option.bind_some]
  rw [Int.tmod_eq_emod_of_nonneg ho.1]
  unfold impl_flag.f szp
  simp only [beq_iff_eq]
  by_cases a : bit v (8 * s - 1) = 1 <;> by_cases b : zeroZ v s = 0 <;> by_cases c : ones v 8 % 2 = 0 <;> simp [a, b, c]
theorem FnExactFlagsOf : laws_FnExactFlagsOf.Pure := by
  intro s v _ hv
  refine ⟨74, ?_⟩
  unfold laws_FnExactFlagsOf.f spec_FlagsOf.f impl_FlagsOf.f
  rw [size_spec, size_impl]
  by_cases hs : Sz s
  · simp only [hs, decide_true, Option.bind_some, if_true]
    rw [szp_spec hs (wf_i64 hv) (by omega), flags_impl hs (wf_i64 hv)]
    simp
  · simp [hs]

end Go.Proofs.Ytmnjomglpkbifaa.Pure
