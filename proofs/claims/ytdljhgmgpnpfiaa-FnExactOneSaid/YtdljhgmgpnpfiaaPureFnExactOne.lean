/- The program's One answers as the reference's at every four numbers. -/
import Derived.Test.YtdljhgmgpnpfiaaPFnExactOnex2
import Derived.Test.YtdljhgmgpnpfiaaNumF
namespace Go.Proofs.Ytdljhgmgpnpfiaa.Pure
open Go.RowKit Go.Proofs.Ytdljhgmgpnpfiaa.PFnExactOne Go.Proofs.YtdljhgmgpnpfiaaW.PrintWords Go.Proofs.YtdljhgmgpnpfiaaW.PrintLast Go.Proofs.YtdljhgmgpnpfiaaW.PrintMore Go.Proofs.Ytdljhgmgpnpfiaa.Num
set_option linter.unusedVariables false
set_option linter.unusedSimpArgs false

theorem size_spec (s : Int) : spec_l01Size.f s = some (decide (Sz s)) := by
  unfold spec_l01Size.f Sz
  by_cases h1 : s = 1 <;> by_cases h2 : s = 2 <;> by_cases h4 : s = 4 <;> by_cases h8 : s = 8 <;> simp_all
theorem size_impl (s : Int) : impl_isSize.f s = some (decide (Sz s)) := size_spec s
theorem bit_spec (a i : Int) (h0 : 0 ≤ i) (h1 : i < 64) : spec_l01Bit.f a i = some (bit a i) := by
  unfold spec_l01Bit.f
  have hi : IntKind.u64.wrap i = i := u64_in h0 (by omega)
  have ha : IntKind.u64.wrap a = (un a : Int) := by rw [IntKind.wrap_u64, un_eq]
  rw [hi, if_pos h0, ha, shr_u64 _ _ (by omega) h0 h1, Int.toNat_natCast]
  unfold bit
  have e : Int.tmod ((un a / 2 ^ i.toNat : Nat) : Int) 2 = ((un a / 2 ^ i.toNat % 2 : Nat) : Int) := by
    rw [Int.tmod_eq_emod_of_nonneg (Int.natCast_nonneg _)]; rfl
  rw [e]
  rcases Nat.mod_two_eq_zero_or_one (un a / 2 ^ i.toNat) with h | h <;> rw [h] <;> simp
theorem zero_loop (a : Int) (n : Nat) (hn : n ≤ 64) : ∀ (j k : Nat), j ≤ n → j < k →
    spec_l01Zero.l0 k a ((un a % 2 ^ n / 2 ^ j : Nat) : Int) ((j : Int) - 1) = some (wrap64 ((un a % 2 ^ n : Nat) : Int))
  | j, 0, _, hk => by omega
  | 0, k + 1, _, _ => by
    simp only [spec_l01Zero.l0]
    rw [if_neg (by omega)]
    simp
  | j + 1, k + 1, hj, hk => by
    simp only [spec_l01Zero.l0]
    rw [if_pos (by omega), show ((j + 1 : Nat) : Int) - 1 = (j : Int) by omega, bit_spec _ _ (by omega) (by omega)]
    simp only [Option.bind_some]
    have hl := un_lt' a
    have h2 : un a % 2 ^ n ≤ un a := Nat.mod_le _ _
    have h3 := half_step (un a % 2 ^ n) j
    have h4 := mod_bit (un a) n j (by omega)
    have h5 : un a % 2 ^ n / 2 ^ j ≤ un a % 2 ^ n := Nat.div_le_self _ _
    have e : IntKind.u64.wrap (IntKind.u64.wrap (2 * ((un a % 2 ^ n / 2 ^ (j + 1) : Nat) : Int)) + IntKind.u64.wrap (bit a (j : Int))) = ((un a % 2 ^ n / 2 ^ j : Nat) : Int) := by
      unfold bit
      rw [Int.toNat_natCast, ← h4]
      rw [u64_in (n := 2 * _) (by omega) (by omega), u64_in (n := ((un a % 2 ^ n / 2 ^ j % 2 : Nat) : Int)) (by omega) (by omega), u64_in (by omega) (by omega)]
      omega
    rw [e, show wrap64 ((j : Int) - 1) = (j : Int) - 1 from w64_in (by omega) (by omega)]
    exact zero_loop a n hn j k (by omega) (by omega)
theorem zero_spec {k : Nat} {a s : Int} (hs : Sz s) (ha : -9223372036854775808 ≤ a ∧ a ≤ 9223372036854775807) (hk : 64 < k) : spec_l01Zero.f k a s = some (zeroZ a s) := by
  unfold spec_l01Zero.f
  have h8 : 0 ≤ 8 * s ∧ 8 * s ≤ 64 := by rcases hs with rfl | rfl | rfl | rfl <;> omega
  rw [w64_in (n := 8 * s) (by omega) (by omega), w64_in (by omega) (by omega), ← zeroZ_un hs ha]
  have h := zero_loop a (8 * s).toNat (by omega) (8 * s).toNat k (by omega) (by omega)
  rw [show un a % 2 ^ (8 * s).toNat / 2 ^ (8 * s).toNat = 0 from Nat.div_eq_of_lt (Nat.mod_lt _ (Nat.two_pow_pos _)), show (((8 * s).toNat : Nat) : Int) = 8 * s by omega] at h
  exact h
theorem zero_impl {a s : Int} (hs : Sz s) : impl_zero.f a s = some (zeroZ a s) := by
  unfold impl_zero.f
  rcases hs with rfl | rfl | rfl | rfl
  · rw [if_neg (by omega), if_pos (by unfold wrap64; omega), show wrap64 (shl .i64 1 (wrap64 (8 * 1)) - 1) = 2 ^ 8 - 1 by decide +kernel, and_mask _ _ (by decide)]; rfl
  · rw [if_neg (by omega), if_pos (by unfold wrap64; omega), show wrap64 (shl .i64 1 (wrap64 (8 * 2)) - 1) = 2 ^ 16 - 1 by decide +kernel, and_mask _ _ (by decide)]; rfl
  · rw [if_neg (by omega), if_pos (by unfold wrap64; omega), show wrap64 (shl .i64 1 (wrap64 (8 * 4)) - 1) = 2 ^ 32 - 1 by decide +kernel, and_mask _ _ (by decide)]; rfl
  · rw [if_pos rfl]; rfl
/-- How many of the lowest i bits of v are on. -/
def ones (v : Int) : Nat → Int
  | 0 => 0
  | i + 1 => ones v i + bit v i
theorem ones_range (v : Int) : ∀ i : Nat, 0 ≤ ones v i ∧ ones v i ≤ i
  | 0 => by simp [ones]
  | i + 1 => by
    have := ones_range v i
    have := bit_or v i
    simp only [ones]
    omega
/-- The flags of sign, nought and parity. -/
def szp (s v : Int) : Int :=
  Go.bits .or .i64 (Go.bits .or .i64 (if bit v (8 * s - 1) = 1 then 128 else 0) (if zeroZ v s = 0 then 64 else 0)) (if ones v 8 % 2 = 0 then 4 else 0)
theorem szp_loop {s v : Int} (hs : Sz s) (hv : -9223372036854775808 ≤ v ∧ v ≤ 9223372036854775807) : ∀ (j k i : Nat), i + j = 8 → j + 65 < k →
    spec_l06Szp.l0 k s v (ones v i) (i : Int) = some (szp s v)
  | j, 0, i, _, hk => by omega
  | 0, k + 1, i, hj, hk => by
    simp only [spec_l06Szp.l0]
    obtain rfl : i = 8 := by omega
    have h8 : 8 ≤ 8 * s ∧ 8 * s ≤ 64 := by rcases hs with rfl | rfl | rfl | rfl <;> omega
    rw [if_neg (by omega), w64_in (n := 8 * s) (by omega) (by omega), w64_in (n := 8 * s - 1) (by omega) (by omega), bit_spec _ _ (by omega) (by omega), zero_spec hs hv (by omega)]
    have ho := ones_range v 8
    rw [Int.tmod_eq_emod_of_nonneg ho.1]
    unfold spec_l06If.f szp
    simp only [Option.bind_some, beq_iff_eq]
    by_cases a : bit v (8 * s - 1) = 1 <;> by_cases b : zeroZ v s = 0 <;> by_cases c : ones v 8 % 2 = 0 <;> simp [a, b, c]
  | j + 1, k + 1, i, hj, hk => by
    simp only [spec_l06Szp.l0]
    have h1 := ones_range v i
    have h2 := bit_or v i
    rw [if_pos (by omega), bit_spec _ _ (by omega) (by omega)]
    simp only [Option.bind_some]
    rw [w64_in (n := ones v i + bit v i) (by omega) (by omega), w64_in (by omega) (by omega)]
    have h := szp_loop hs hv j k (i + 1) (by omega) (by omega)
    simpa only [ones, Int.natCast_add, Int.natCast_one] using h
theorem szp_spec {k : Nat} {s v : Int} (hs : Sz s) (hv : -9223372036854775808 ≤ v ∧ v ≤ 9223372036854775807) (hk : 73 < k) : spec_l06Szp.f k s v = some (szp s v) := by
  unfold spec_l06Szp.f
  exact szp_loop hs hv 8 k 0 rfl (by omega)
theorem ones_mod (v : Int) : ones v 8 = ones (v % 256) 8 := by
  simp only [ones, bit, un]
  have e : ∀ i : Nat, i < 8 → (v % 18446744073709551616).toNat / 2 ^ i % 2 = (v % 256 % 18446744073709551616).toNat / 2 ^ i % 2 := by
    intro i hi
    have h1 := mod_bit (v % 18446744073709551616).toNat 8 i hi
    have h2 : (v % 256 % 18446744073709551616).toNat = (v % 18446744073709551616).toNat % 2 ^ 8 := by omega
    rw [h2, h1]
  simp only [Int.toNat_natCast]
  rw [e 0 (by omega), e 1 (by omega), e 2 (by omega), e 3 (by omega), e 4 (by omega), e 5 (by omega), e 6 (by omega), e 7 (by omega)]
theorem ones_table : ∀ i : Fin 256, bits_OnesCount8.f (i.val : Int) = some (ones (i.val : Int) 8) := by decide +kernel
theorem ones_impl (v : Int) : bits_OnesCount8.f (v % 256) = some (ones v 8) := by
  have h := ones_table ⟨(v % 256).toNat, by omega⟩
  simp only at h
  rwa [show (((v % 256).toNat : Nat) : Int) = v % 256 by omega, ← ones_mod] at h
/-- The highest bit. -/
theorem top_impl {s v : Int} (hs : Sz s) (hv : -9223372036854775808 ≤ v ∧ v ≤ 9223372036854775807) : impl_top.f v s = some (bit v (8 * s - 1) == 1) := by
  unfold impl_top.f
  have h8 : 8 ≤ 8 * s ∧ 8 * s ≤ 64 := by rcases hs with rfl | rfl | rfl | rfl <;> omega
  rw [w64_in (n := 8 * s) (by omega) (by omega), w64_in (n := 8 * s - 1) (by omega) (by omega), if_pos (by omega)]
  have e : Go.bits .and .i64 (shr .i64 v (8 * s - 1)) 1 = bit v (8 * s - 1) := by
    rw [show (1 : Int) = 2 ^ 1 - 1 from rfl, and_mask _ 1 (by decide)]
    unfold shr bit un
    rcases hs with rfl | rfl | rfl | rfl <;> simp [IntKind.bits] <;> omega
  rw [e]
theorem flags_impl {s v : Int} (hs : Sz s) (hv : -9223372036854775808 ≤ v ∧ v ≤ 9223372036854775807) : impl_flagsOf.f s v = some (szp s v) := by
  unfold impl_flagsOf.f
  have ho := ones_range v 8
  rw [top_impl hs hv, zero_impl hs, ones_impl]
  simp only [Option.bind_some]
  rw [Int.tmod_eq_emod_of_nonneg ho.1]
  unfold impl_flag.f szp
  simp only [beq_iff_eq]
  by_cases a : bit v (8 * s - 1) = 1 <;> by_cases b : zeroZ v s = 0 <;> by_cases c : ones v 8 % 2 = 0 <;> simp [a, b, c]
theorem flag_if (p : Prop) [Decidable p] (c : Int) (b : Bool) (h : b = decide p) : spec_l06If.f b c = some (if p then c else 0) := by
  unfold spec_l06If.f
  subst h
  by_cases hp : p <;> simp [hp]
/-- What an addition comes to: the number and the flags. -/
def added (s : Int) (A B c : Nat) : Int × Int :=
  (wrap64 ((so A B c (8 * s).toNat : Nat) : Int), Go.bits .or .i64 (Go.bits .or .i64 (szp s (wrap64 ((so A B c (8 * s).toNat : Nat) : Int))) (if cr A B c (8 * s).toNat = 1 then 1 else 0)) (if cr A B c (8 * s).toNat ≠ cr A B c ((8 * s).toNat - 1) then 2048 else 0))
/-- What a subtraction comes to. -/
def taken (s : Int) (A B c : Nat) : Int × Int :=
  (wrap64 ((df A B c (8 * s).toNat : Nat) : Int), Go.bits .or .i64 (Go.bits .or .i64 (szp s (wrap64 ((df A B c (8 * s).toNat : Nat) : Int))) (if bw A B c (8 * s).toNat = 1 then 1 else 0)) (if bw A B c (8 * s).toNat ≠ bw A B c ((8 * s).toNat - 1) then 2048 else 0))
theorem add_loop {s a b : Int} (hs : Sz s) {c : Nat} (hc : c ≤ 1) : ∀ (d k i : Nat), i + d = (8 * s).toNat → d + 75 < k →
    spec_l06Add.l0 k s a b false ((so (un a) (un b) c i : Nat) : Int) ((cr (un a) (un b) c i : Nat) : Int) (if i = 0 then 0 else ((cr (un a) (un b) c (i - 1) : Nat) : Int)) (i : Int) = some (added s (un a) (un b) c)
  | d, 0, i, _, hk => by omega
  | 0, k + 1, i, hi, hk => by
    obtain ⟨m, hm, hm64, _⟩ := pow_size hs
    simp only [spec_l06Add.l0]
    have hlt := so_lt (A := un a) (B := un b) (c := c) i
    have hp : 2 ^ i ≤ 2 ^ 64 := Nat.pow_le_pow_right (by decide) (by omega)
    have h8 : (i : Int) = 8 * s := by omega
    rw [h8, w64_in (n := 8 * s) (by omega) (by omega), if_neg (by omega), szp_spec hs (w64_range _) (by omega), if_neg (by omega)]
    obtain rfl : i = (8 * s).toNat := by omega
    rw [flag_if (cr (un a) (un b) c (8 * s).toNat = 1) 1 _ (beq_one _), flag_if (cr (un a) (un b) c (8 * s).toNat ≠ cr (un a) (un b) c ((8 * s).toNat - 1)) 2048 _ (bne_nat _ _)]
    rfl
  | d + 1, k + 1, i, hi, hk => by
    obtain ⟨m, hm, hm64, _⟩ := pow_size hs
    simp only [spec_l06Add.l0]
    have hlt := so_lt (A := un a) (B := un b) (c := c) i
    have hp : 2 ^ i ≤ 2 ^ 64 := Nat.pow_le_pow_right (by decide) (by omega)
    have hcr := cr_le (A := un a) (B := un b) hc i
    have ta := tb_le (un a) i
    have tbb := tb_le (un b) i
    rw [w64_in (n := 8 * s) (by omega) (by omega), if_pos (by omega), bit_spec _ _ (by omega) (by omega), bit_spec _ _ (by omega) (by omega), bit_tb, bit_tb]
    simp only [Option.bind_some, Bool.false_eq_true, if_false]
    rw [w64_in (n := ((tb (un a) i : Nat) : Int) + ((tb (un b) i : Nat) : Int)) (by omega) (by omega), w64_in (n := ((tb (un a) i : Nat) : Int) + ((tb (un b) i : Nat) : Int) + ((cr (un a) (un b) c i : Nat) : Int)) (by omega) (by omega)]
    have e1 : Int.tmod (((tb (un a) i : Nat) : Int) + ((tb (un b) i : Nat) : Int) + ((cr (un a) (un b) c i : Nat) : Int)) 2 = (((tb (un a) i + tb (un b) i + cr (un a) (un b) c i) % 2 : Nat) : Int) := by
      rw [Int.tmod_eq_emod_of_nonneg (by omega)]; omega
    have e2 : Int.tdiv (((tb (un a) i : Nat) : Int) + ((tb (un b) i : Nat) : Int) + ((cr (un a) (un b) c i : Nat) : Int)) 2 = (((tb (un a) i + tb (un b) i + cr (un a) (un b) c i) / 2 : Nat) : Int) := by
      rw [Int.tdiv_eq_ediv_of_nonneg (by omega)]; omega
    rw [u64_in (n := (i : Int)) (by omega) (by omega), if_pos (by omega), e1, e2, u64_in (n := (((tb (un a) i + tb (un b) i + cr (un a) (un b) c i) % 2 : Nat) : Int)) (by omega) (by omega), w64_in (n := (((tb (un a) i + tb (un b) i + cr (un a) (un b) c i) / 2 : Nat) : Int)) (by omega) (by omega), w64_in (n := (i : Int) + 1) (by omega) (by omega), or_bit hlt (by omega) (by omega)]
    have h := add_loop (a := a) (b := b) hs hc d k (i + 1) (by omega) (by omega)
    rw [if_neg (by omega)] at h
    exact h
theorem add_spec {s a b : Int} (hs : Sz s) {c : Nat} (hc : c ≤ 1) {k : Nat} (hk : 140 < k) : spec_l06Add.f k s a b (c : Int) false = some (added s (un a) (un b) c) := by
  unfold spec_l06Add.f
  obtain ⟨m, hm, hm64, _⟩ := pow_size hs
  have h := add_loop (a := a) (b := b) hs hc (8 * s).toNat k 0 (by omega) (by omega)
  exact h
theorem take_away {s a b : Int} (hs : Sz s) {c : Nat} (hc : c ≤ 1) : ∀ (d k i : Nat), i + d = (8 * s).toNat → d + 75 < k →
    spec_l06Add.l0 k s a b true ((df (un a) (un b) c i : Nat) : Int) ((bw (un a) (un b) c i : Nat) : Int) (if i = 0 then 0 else ((bw (un a) (un b) c (i - 1) : Nat) : Int)) (i : Int) = some (taken s (un a) (un b) c)
  | d, 0, i, _, hk => by omega
  | 0, k + 1, i, hi, hk => by
    obtain ⟨m, hm, hm64, _⟩ := pow_size hs
    simp only [spec_l06Add.l0]
    have hlt := df_lt (A := un a) (B := un b) (c := c) i
    have hp : 2 ^ i ≤ 2 ^ 64 := Nat.pow_le_pow_right (by decide) (by omega)
    have h8 : (i : Int) = 8 * s := by omega
    rw [h8, w64_in (n := 8 * s) (by omega) (by omega), if_neg (by omega), szp_spec hs (w64_range _) (by omega), if_neg (by omega)]
    obtain rfl : i = (8 * s).toNat := by omega
    rw [flag_if (bw (un a) (un b) c (8 * s).toNat = 1) 1 _ (beq_one _), flag_if (bw (un a) (un b) c (8 * s).toNat ≠ bw (un a) (un b) c ((8 * s).toNat - 1)) 2048 _ (bne_nat _ _)]
    rfl
  | d + 1, k + 1, i, hi, hk => by
    obtain ⟨m, hm, hm64, _⟩ := pow_size hs
    simp only [spec_l06Add.l0]
    have hlt := df_lt (A := un a) (B := un b) (c := c) i
    have hp : 2 ^ i ≤ 2 ^ 64 := Nat.pow_le_pow_right (by decide) (by omega)
    have hcr := bw_le (A := un a) (B := un b) hc i
    have ta := tb_le (un a) i
    have tbb := tb_le (un b) i
    rw [w64_in (n := 8 * s) (by omega) (by omega), if_pos (by omega), bit_spec _ _ (by omega) (by omega), bit_spec _ _ (by omega) (by omega), bit_tb, bit_tb]
    simp only [Option.bind_some, if_true]
    rw [w64_in (n := ((tb (un a) i : Nat) : Int) - ((tb (un b) i : Nat) : Int)) (by omega) (by omega), w64_in (n := ((tb (un a) i : Nat) : Int) - ((tb (un b) i : Nat) : Int) - ((bw (un a) (un b) c i : Nat) : Int)) (by omega) (by omega), w64_in (n := ((tb (un a) i : Nat) : Int) - ((tb (un b) i : Nat) : Int) - ((bw (un a) (un b) c i : Nat) : Int) + 2) (by omega) (by omega)]
    have e1 : Int.tmod (((tb (un a) i : Nat) : Int) - ((tb (un b) i : Nat) : Int) - ((bw (un a) (un b) c i : Nat) : Int) + 2) 2 = (((tb (un a) i + tb (un b) i + bw (un a) (un b) c i) % 2 : Nat) : Int) := by
      rw [Int.tmod_eq_emod_of_nonneg (by omega)]; omega
    have e2 : spec_l06Bit.f (decide (((tb (un a) i : Nat) : Int) - ((tb (un b) i : Nat) : Int) - ((bw (un a) (un b) c i : Nat) : Int) + 2 < 2)) = some ((bw (un a) (un b) c (i + 1) : Nat) : Int) := by
      unfold spec_l06Bit.f
      simp only [bw]
      by_cases h : tb (un a) i < tb (un b) i + bw (un a) (un b) c i
      · rw [if_pos h, if_pos (by rw [decide_eq_true_eq]; omega)]; rfl
      · rw [if_neg h, if_neg (by rw [decide_eq_true_eq]; omega)]; rfl
    rw [e2]
    simp only [Option.bind_some]
    rw [u64_in (n := (i : Int)) (by omega) (by omega), if_pos (by omega), e1, u64_in (n := (((tb (un a) i + tb (un b) i + bw (un a) (un b) c i) % 2 : Nat) : Int)) (by omega) (by omega), w64_in (n := (i : Int) + 1) (by omega) (by omega), or_bit hlt (by omega) (by omega)]
    have h := take_away (a := a) (b := b) hs hc d k (i + 1) (by omega) (by omega)
    rw [if_neg (by omega)] at h
    exact h
theorem sub_spec {s a b : Int} (hs : Sz s) {c : Nat} (hc : c ≤ 1) {k : Nat} (hk : 140 < k) : spec_l06Add.f k s a b (c : Int) true = some (taken s (un a) (un b) c) := by
  unfold spec_l06Add.f
  obtain ⟨m, hm, hm64, _⟩ := pow_size hs
  have h := take_away (a := a) (b := b) hs hc (8 * s).toNat k 0 (by omega) (by omega)
  exact h
theorem flagi_if (p : Prop) [Decidable p] (c : Int) (b : Bool) (h : b = decide p) : impl_flag.f b c = some (if p then c else 0) := by
  unfold impl_flag.f
  subst h
  by_cases hp : p <;> simp [hp]
theorem un_wrap (a : Int) : IntKind.u64.wrap a = (un a : Int) := by rw [IntKind.wrap_u64, un_eq]
theorem so_mod (A B c n : Nat) : ∀ i, i ≤ n → so (A % 2 ^ n) (B % 2 ^ n) c i = so A B c i ∧ cr (A % 2 ^ n) (B % 2 ^ n) c i = cr A B c i
  | 0, _ => ⟨rfl, rfl⟩
  | i + 1, hi => by
    obtain ⟨h1, h2⟩ := so_mod A B c n i (by omega)
    constructor
    · simp only [so, h1, h2, tb_mod _ _ _ (show i < n by omega)]
    · simp only [cr, h1, h2, tb_mod _ _ _ (show i < n by omega)]
theorem df_mod (A B c n : Nat) : ∀ i, i ≤ n → df (A % 2 ^ n) (B % 2 ^ n) c i = df A B c i ∧ bw (A % 2 ^ n) (B % 2 ^ n) c i = bw A B c i
  | 0, _ => ⟨rfl, rfl⟩
  | i + 1, hi => by
    obtain ⟨h1, h2⟩ := df_mod A B c n i (by omega)
    constructor
    · simp only [df, h1, h2, tb_mod _ _ _ (show i < n by omega)]
    · simp only [bw, h1, h2, tb_mod _ _ _ (show i < n by omega)]
theorem so_zero {a b : Int} {s : Int} (hs : Sz s) (c : Nat) (i : Nat) (hi : i ≤ (8 * s).toNat) : so (un (zeroZ a s)) (un (zeroZ b s)) c i = so (un a) (un b) c i ∧ cr (un (zeroZ a s)) (un (zeroZ b s)) c i = cr (un a) (un b) c i := by
  rw [un_zeroZ hs, un_zeroZ hs]; exact so_mod _ _ c _ i hi
theorem df_zero {a b : Int} {s : Int} (hs : Sz s) (c : Nat) (i : Nat) (hi : i ≤ (8 * s).toNat) : df (un (zeroZ a s)) (un (zeroZ b s)) c i = df (un a) (un b) c i ∧ bw (un (zeroZ a s)) (un (zeroZ b s)) c i = bw (un a) (un b) c i := by
  rw [un_zeroZ hs, un_zeroZ hs]; exact df_mod _ _ c _ i hi
theorem over_add {x y z : Nat} (hx : x ≤ 1) (hy : y ≤ 1) (hz : z ≤ 1) : (decide (x ≠ (x + y + z) % 2) && decide (y ≠ (x + y + z) % 2)) = decide ((x + y + z) / 2 ≠ z) := by
  have hx : x = 0 ∨ x = 1 := by omega
  have hy : y = 0 ∨ y = 1 := by omega
  have hz : z = 0 ∨ z = 1 := by omega
  rcases hx with rfl | rfl <;> rcases hy with rfl | rfl <;> rcases hz with rfl | rfl <;> rfl
theorem over_sub {x y z : Nat} (hx : x ≤ 1) (hy : y ≤ 1) (hz : z ≤ 1) : (decide (x ≠ y) && decide (x ≠ (x + y + z) % 2)) = decide ((if x < y + z then 1 else 0) ≠ z) := by
  have hx : x = 0 ∨ x = 1 := by omega
  have hy : y = 0 ∨ y = 1 := by omega
  have hz : z = 0 ∨ z = 1 := by omega
  rcases hx with rfl | rfl <;> rcases hy with rfl | rfl <;> rcases hz with rfl | rfl <;> rfl
/-- The three last parts of a sum: its number, its flags, whether it goes over. -/
theorem sum_end {s a b : Int} (hs : Sz s) (ha : un a < 2 ^ (8 * s).toNat) (hb : un b < 2 ^ (8 * s).toNat) {c : Nat} (hc : c ≤ 1) (k : Nat) (r : Int) (hr : un (wrap64 r) % 2 ^ (8 * s).toNat = so (un a) (un b) c (8 * s).toNat) (f : Bool) (hf : f = decide (cr (un a) (un b) c (8 * s).toNat = 1)) :
    impl_sum.j0 (k + 1) s a b r f = some (added s (un a) (un b) c) := by
  rw [impl_sum.j0]
  obtain ⟨m, hm, hm64, hm2⟩ := pow_size hs
  have hlt := so_lt (A := un a) (B := un b) (c := c) (m + 1)
  have hp : 2 ^ (m + 1) ≤ 2 ^ 64 := Nat.pow_le_pow_right (by decide) hm64
  have hcr := cr_le (A := un a) (B := un b) hc m
  rw [zero_impl hs, zeroZ_eq hs (w64_range _), hr]
  simp only [Option.bind_some]
  rw [flags_impl hs (w64_range _), flagi_if _ _ _ hf, top_impl hs (and_range _ _ _), hm2, top_two, un_wnat (by rw [hm]; omega)]
  simp only [Option.bind_some]
  rw [flagi_if (cr (un a) (un b) c (8 * s).toNat ≠ cr (un a) (un b) c ((8 * s).toNat - 1)) 2048 _ ?_]
  · rfl
  · rw [hm, so_top, Nat.add_sub_cancel]
    exact over_add (tb_le _ _) (tb_le _ _) hcr
theorem and_one_u64 (x : Nat) (h : x < 18446744073709551616) : Go.bits .and .u64 (x : Int) 1 = ((x % 2 : Nat) : Int) := by
  have h2 := bits_mask .u64 64 (by decide) (fun n h0 h1 => u64_in h0 (by omega)) 1 (by decide) (x : Int) (by omega) (by omega)
  rw [show ((2 : Int) ^ 1 - 1) = 1 from rfl] at h2
  rw [h2]
  rfl
theorem sum_impl {s a b : Int} (hs : Sz s) (ha : un a < 2 ^ (8 * s).toNat) (hb : un b < 2 ^ (8 * s).toNat) {c : Nat} (hc : c ≤ 1) (k : Nat) : impl_sum.f (k + 1) s a b (c : Int) = some (added s (un a) (un b) c) := by
  unfold impl_sum.f bits_Add64.f
  rw [un_wrap, un_wrap, u64_in (n := (c : Int)) (by omega) (by omega), if_pos (by omega), if_pos (by omega), if_pos (by omega), if_pos (by omega)]
  simp only [Option.bind_some]
  obtain ⟨m, hm, hm64, hm2⟩ := pow_size hs
  have hsp := so_split (A := un a) (B := un b) (c := c) (8 * s).toNat
  rw [Nat.mod_eq_of_lt ha, Nat.mod_eq_of_lt hb] at hsp
  have hlt := so_lt (A := un a) (B := un b) (c := c) (8 * s).toNat
  have hcr := cr_le (A := un a) (B := un b) hc (8 * s).toNat
  have hA := un_lt' a
  have hB := un_lt' b
  have hq : (un a + un b + c) / 2 ^ (8 * s).toNat = cr (un a) (un b) c (8 * s).toNat := by
    rw [← hsp, Nat.add_mul_div_left _ _ (Nat.two_pow_pos _), Nat.div_eq_of_lt hlt, Nat.zero_add]
  have hr : (un a + un b + c) % 2 ^ (8 * s).toNat = so (un a) (un b) c (8 * s).toNat := by
    rw [← hsp, Nat.add_mul_mod_self_left, Nat.mod_eq_of_lt hlt]
  by_cases h8 : s < 8
  · rw [if_pos h8, w64_in (n := 8 * s) (by omega) (by omega), if_pos (by omega)]
    have hp : 2 ^ (8 * s).toNat ≤ 2 ^ 32 := Nat.pow_le_pow_right (by decide) (by rcases hs with rfl | rfl | rfl | rfl <;> simp at *)
    have e3 : (((un a : Nat) : Int) + ((un b : Nat) : Int) + (c : Int)) % 18446744073709551616 = ((un a + un b + c : Nat) : Int) := by omega
    rw [e3]
    refine sum_end hs ha hb hc k _ ?_ _ ?_
    · rw [un_wnat (by omega), hr]
    · rw [shr_u64 _ _ (by omega) (by omega) (by omega), Int.toNat_natCast, hq, and_one_u64 _ (by omega), beq_one, decide_eq_decide]
      omega
  · obtain rfl : s = 8 := by rcases hs with rfl | rfl | rfl | rfl <;> omega
    rw [if_neg h8]
    have e64 : (2 : Nat) ^ (8 * (8 : Int)).toNat = 18446744073709551616 := rfl
    rw [e64] at hq hr
    have e3 : (((un a : Nat) : Int) + ((un b : Nat) : Int) + (c : Int)) % 18446744073709551616 = (((un a + un b + c) % 18446744073709551616 : Nat) : Int) := by omega
    have e4 : (((un a : Nat) : Int) + ((un b : Nat) : Int) + (c : Int)) / 18446744073709551616 = (((un a + un b + c) / 18446744073709551616 : Nat) : Int) := by omega
    rw [e3, e4]
    refine sum_end hs ha hb hc k _ ?_ _ ?_
    · rw [un_wnat (Nat.mod_lt _ (by omega)), e64, Nat.mod_mod, hr]
    · rw [hq, beq_one]
theorem difference_impl {s a b : Int} (hs : Sz s) (ha : un a < 2 ^ (8 * s).toNat) (hb : un b < 2 ^ (8 * s).toNat) {c : Nat} (hc : c ≤ 1) : impl_difference.f s a b (c : Int) = some (taken s (un a) (un b) c) := by
  unfold impl_difference.f bits_Sub64.f
  have hA := un_lt' a
  have hB := un_lt' b
  rw [un_wrap, un_wrap, u64_in (n := (c : Int)) (by omega) (by omega), if_pos (by omega), if_pos (by omega), if_pos (by omega), if_pos (by omega)]
  simp only [Option.bind_some]
  obtain ⟨m, hm, hm64, hm2⟩ := pow_size hs
  have hsp := df_split (A := un a) (B := un b) hc (8 * s).toNat
  rw [Nat.mod_eq_of_lt ha, Nat.mod_eq_of_lt hb] at hsp
  have hlt := df_lt (A := un a) (B := un b) (c := c) (8 * s).toNat
  have hbw := bw_le (A := un a) (B := un b) hc (8 * s).toNat
  have hbm := bw_le (A := un a) (B := un b) hc m
  have hp : 2 ^ (8 * s).toNat ≤ 2 ^ 64 := Nat.pow_le_pow_right (by decide) (by omega)
  have hdvd : (2 : Nat) ^ (8 * s).toNat ∣ 18446744073709551616 := ⟨2 ^ (64 - (8 * s).toNat), by rw [← Nat.pow_add, show (8 * s).toNat + (64 - (8 * s).toNat) = 64 by omega]⟩
  have hr : un (wrap64 ((((un a : Nat) : Int) - ((un b : Nat) : Int) - (c : Int)) % 18446744073709551616)) % 2 ^ (8 * s).toNat = df (un a) (un b) c (8 * s).toNat := by
    have e1 : un (wrap64 ((((un a : Nat) : Int) - ((un b : Nat) : Int) - (c : Int)) % 18446744073709551616)) = (un a + (36893488147419103232 - un b - c)) % 18446744073709551616 := by
      rw [un_w64]; show ((_ % 18446744073709551616) % 18446744073709551616 : Int).toNat = _; omega
    rw [e1, Nat.mod_mod_of_dvd _ hdvd]
    have hx : bw (un a) (un b) c (8 * s).toNat = 0 ∨ bw (un a) (un b) c (8 * s).toNat = 1 := by omega
    obtain ⟨q, hqe⟩ := hdvd
    rcases hx with hx | hx
    · rw [hx, Nat.mul_zero, Nat.add_zero] at hsp
      have e2 : un a + (36893488147419103232 - un b - c) = df (un a) (un b) c (8 * s).toNat + 2 ^ (8 * s).toNat * (2 * q) := by
        rw [Nat.mul_left_comm, ← hqe]; omega
      rw [e2, Nat.add_mul_mod_self_left, Nat.mod_eq_of_lt hlt]
    · rw [hx, Nat.mul_one] at hsp
      have hq1 : 1 ≤ q := by rcases q with _ | q <;> omega
      have e3 : 2 ^ (8 * s).toNat * (2 * q - 1) + 2 ^ (8 * s).toNat = 2 ^ (8 * s).toNat * (2 * q) := by
        rw [← Nat.mul_succ]; congr 1; omega
      have e4 : 2 ^ (8 * s).toNat * (2 * q) = 36893488147419103232 := by rw [Nat.mul_left_comm, ← hqe]
      have e2 : un a + (36893488147419103232 - un b - c) = df (un a) (un b) c (8 * s).toNat + 2 ^ (8 * s).toNat * (2 * q - 1) := by omega
      rw [e2, Nat.add_mul_mod_self_left, Nat.mod_eq_of_lt hlt]
  have hf : (((if ((un a : Nat) : Int) < ((un b : Nat) : Int) + (c : Int) then (1 : Int) else 0) == 1)) = decide (bw (un a) (un b) c (8 * s).toNat = 1) := by
    have hx : bw (un a) (un b) c (8 * s).toNat = 0 ∨ bw (un a) (un b) c (8 * s).toNat = 1 := by omega
    rcases hx with hx | hx
    · rw [hx, Nat.mul_zero] at hsp
      rw [if_neg (by omega), hx]; rfl
    · rw [hx, Nat.mul_one] at hsp
      rw [if_pos (by omega), hx]; rfl
  rw [zero_impl hs, zeroZ_eq hs (w64_range _), hr]
  simp only [Option.bind_some]
  rw [flags_impl hs (w64_range _), flagi_if _ _ _ hf, top_impl hs (and_range _ _ _), hm2, top_two', un_wnat (by omega)]
  simp only [Option.bind_some]
  rw [flagi_if (bw (un a) (un b) c (8 * s).toNat ≠ bw (un a) (un b) c ((8 * s).toNat - 1)) 2048 _ ?_]
  · rfl
  · rw [hm, df_top, Nat.add_sub_cancel]
    exact over_sub (tb_le _ _) (tb_le _ _) hbm
theorem and_self_le {a : Int} (h0 : 0 ≤ a) (ha : a ≤ 9223372036854775807) (h : Go.bits .and .i64 a 2245 = a) : a ≤ 2245 := by
  have h1 := congrArg un h
  rw [un_and] at h1
  have h2 : un 2245 = 2245 := rfl
  have h3 : un a &&& un 2245 ≤ un 2245 := Nat.and_le_right
  rw [h1, h2] at h3
  unfold un at h3; omega
theorem flags_small : ∀ i : Fin 2246, (Go.bits .and .i64 (i.val : Int) 2245 = (i.val : Int)) → ((i.val : Int) = Go.bits .and .i64 (i.val : Int) 2245) := fun _ h => h.symm
/-- Right flags: of five bits alone. -/
def FlOK (f : Int) : Prop := 0 ≤ f ∧ Go.bits .and .i64 f 2245 = f
instance (f : Int) : Decidable (FlOK f) := by unfold FlOK; infer_instance
theorem flags_spec (f : Int) : spec_l06Flags.f f = some (decide (FlOK f)) := by
  unfold spec_l06Flags.f FlOK
  by_cases h : f ≥ 0
  · have h' : 0 ≤ f := h
    rw [if_pos h]
    simp [h', Bool.beq_eq_decide_eq]
  · have h' : ¬ 0 ≤ f := h
    rw [if_neg h]
    simp [h']
theorem and_not_mask (F M : Nat) (hF : F < 2 ^ 64) (hM : M < 2 ^ 64) : (F &&& (18446744073709551615 - M) = 0) ↔ (F &&& M = F) := by
  have e : ∀ i, (18446744073709551615 - M).testBit i = (decide (i < 64) && !M.testBit i) := by
    intro i
    have h := Nat.testBit_two_pow_sub_succ hM i
    rw [show 2 ^ 64 - (M + 1) = 18446744073709551615 - M by omega] at h
    exact h
  constructor
  · intro h
    apply Nat.eq_of_testBit_eq
    intro i
    rw [Nat.testBit_and]
    have h1 := congrArg (fun n => Nat.testBit n i) h
    simp only [Nat.testBit_and, e, Nat.zero_testBit] at h1
    by_cases hi : i < 64
    · cases hf : F.testBit i <;> cases hm : M.testBit i <;> simp_all
    · rw [Nat.testBit_lt_two_pow (Nat.lt_of_lt_of_le hF (Nat.pow_le_pow_right (by decide) (by omega)))]
      rfl
  · intro h
    apply Nat.eq_of_testBit_eq
    intro i
    rw [Nat.testBit_and, e, Nat.zero_testBit]
    have h1 := congrArg (fun n => Nat.testBit n i) h
    simp only [Nat.testBit_and] at h1
    cases hf : F.testBit i <;> cases hm : M.testBit i <;> simp_all
theorem flagsOK_iff {f : Int} (hf : -9223372036854775808 ≤ f ∧ f ≤ 9223372036854775807) : (Go.bits .andNot .i64 f 2245 = 0) ↔ FlOK f := by
  have hu := un_lt f
  have hM : un 2245 = 2245 := rfl
  have key := and_not_mask (un f) 2245 hu (by decide)
  have e1 : Go.bits .andNot .i64 f 2245 = wrap64 ((un f &&& (18446744073709551615 - 2245) : Nat) : Int) := by rw [andNot_un, hM]
  have hlt : un f &&& (18446744073709551615 - 2245) < 18446744073709551616 := Nat.and_lt_two_pow (n := 64) _ (by decide)
  have l1 : Go.bits .andNot .i64 f 2245 = 0 ↔ un f &&& (18446744073709551615 - 2245) = 0 := by
    rw [e1]
    constructor
    · intro h
      have h2 := congrArg un h
      rw [un_wnat hlt] at h2
      exact h2
    · intro h; rw [h]; exact w64_in (by omega) (by omega)
  have l2 : FlOK f ↔ un f &&& 2245 = un f := by
    constructor
    · rintro ⟨h0, h⟩
      have h2 := congrArg un h
      rw [un_and, hM] at h2
      exact h2
    · intro h
      have h3 : un f &&& 2245 ≤ 2245 := Nat.and_le_right
      rw [h] at h3
      refine ⟨by unfold un at h3; omega, ?_⟩
      rw [and_un, hM, h]
      exact (eq_wrap hf).symm
  rw [l1, l2, key]
theorem areFlags_impl {f : Int} (hf : -9223372036854775808 ≤ f ∧ f ≤ 9223372036854775807) : impl_areFlags.f f = some (decide (FlOK f)) := by
  unfold impl_areFlags.f
  rw [Bool.beq_eq_decide_eq, decide_eq_decide.mpr (flagsOK_iff hf)]
theorem carry_of {f : Int} (hf : FlOK f) : ∃ c : Nat, c ≤ 1 ∧ Go.bits .and .i64 f 1 = (c : Int) := by
  refine ⟨(f % 2).toNat, by omega, ?_⟩
  have h := and_mask f 1 (by decide)
  rw [show ((2 : Int) ^ 1 - 1) = 1 from rfl] at h
  rw [h]
  show f % 2 = _
  omega
theorem areAsked_impl {s f : Int} (hf : -9223372036854775808 ≤ f ∧ f ≤ 9223372036854775807) : impl_areAsked.f s f = some (decide (Sz s ∧ FlOK f)) := by
  unfold impl_areAsked.f
  rw [size_impl, areFlags_impl hf]
  by_cases h : Sz s <;> simp [h]
theorem un_zero_lt {a s : Int} (hs : Sz s) : un (zeroZ a s) < 2 ^ (8 * s).toNat := by rw [un_zeroZ hs]; exact Nat.mod_lt _ (Nat.two_pow_pos _)
theorem un_small {c s : Int} (hs : Sz s) (h0 : 0 ≤ c) (h1 : c ≤ 1) : un c < 2 ^ (8 * s).toNat ∧ un c = c.toNat := by
  have h8 : 8 ≤ (8 * s).toNat := by rcases hs with rfl | rfl | rfl | rfl <;> decide
  have hp : 2 ^ 8 ≤ 2 ^ (8 * s).toNat := Nat.pow_le_pow_right (by decide) h8
  unfold un
  constructor <;> omega
theorem added_left {a b s : Int} (hs : Sz s) (c : Nat) (hb : un b < 2 ^ (8 * s).toNat) : added s (un (zeroZ a s)) (un b) c = added s (un a) (un b) c := by
  have h : ∀ i, i ≤ (8 * s).toNat → so (un (zeroZ a s)) (un b) c i = so (un a) (un b) c i ∧ cr (un (zeroZ a s)) (un b) c i = cr (un a) (un b) c i := fun i hi => by
    have h := so_mod (un a) (un b) c (8 * s).toNat i hi
    rw [Nat.mod_eq_of_lt hb, ← un_zeroZ hs] at h
    exact h
  unfold added
  rw [(h _ (Nat.le_refl _)).1, (h _ (Nat.le_refl _)).2, (h ((8 * s).toNat - 1) (by omega)).2]
theorem taken_left {a b s : Int} (hs : Sz s) (c : Nat) (hb : un b < 2 ^ (8 * s).toNat) : taken s (un (zeroZ a s)) (un b) c = taken s (un a) (un b) c := by
  have h : ∀ i, i ≤ (8 * s).toNat → df (un (zeroZ a s)) (un b) c i = df (un a) (un b) c i ∧ bw (un (zeroZ a s)) (un b) c i = bw (un a) (un b) c i := fun i hi => by
    have h := df_mod (un a) (un b) c (8 * s).toNat i hi
    rw [Nat.mod_eq_of_lt hb, ← un_zeroZ hs] at h
    exact h
  unfold taken
  rw [(h _ (Nat.le_refl _)).1, (h _ (Nat.le_refl _)).2, (h ((8 * s).toNat - 1) (by omega)).2]
theorem taken_right {a b s : Int} (hs : Sz s) (c : Nat) (ha : un a < 2 ^ (8 * s).toNat) : taken s (un a) (un (zeroZ b s)) c = taken s (un a) (un b) c := by
  have h : ∀ i, i ≤ (8 * s).toNat → df (un a) (un (zeroZ b s)) c i = df (un a) (un b) c i ∧ bw (un a) (un (zeroZ b s)) c i = bw (un a) (un b) c i := fun i hi => by
    have h := df_mod (un a) (un b) c (8 * s).toNat i hi
    rw [Nat.mod_eq_of_lt ha, ← un_zeroZ hs] at h
    exact h
  unfold taken
  rw [(h _ (Nat.le_refl _)).1, (h _ (Nat.le_refl _)).2, (h ((8 * s).toNat - 1) (by omega)).2]
theorem zero_not {a s : Int} (hs : Sz s) : zeroZ (Go.bits .xor .i64 (-1) (zeroZ a s)) s = zeroZ (Go.bits .xor .i64 (-1) a) s := by
  apply un_inj (zeroZ_range hs (and_range _ _ _)) (zeroZ_range hs (and_range _ _ _))
  rw [un_zeroZ hs, un_zeroZ hs, un_xor, un_xor, un_zeroZ hs]
  apply Nat.eq_of_testBit_eq; intro i
  simp only [Nat.testBit_mod_two_pow, Nat.testBit_xor]
  cases decide (i < (8 * s).toNat) <;> simp
theorem both {k : Nat} {a b c d : Int} {p : Int × Int × Int} (h1 : spec_One.f k a b c d = some p) (h2 : impl_One.f k a b c d = some p) : laws_FnExactOne.f k a b c d = some true := by
  unfold laws_FnExactOne.f
  rw [h1, h2]
  simp only [Option.bind_some, if_true]
theorem FnExactOne : laws_FnExactOne.Pure := by
  intro op s a f _ _ ha hf
  have ha := wf_i64 ha
  have hf := wf_i64 hf
  refine ⟨150, ?_⟩
  by_cases hs : Sz s
  rotate_left
  · refine both (p := (0, 0, 4)) ?_ ?_
    · unfold spec_One.f
      rw [size_spec]
      simp [hs, spec_One.j0]
    · unfold impl_One.f
      rw [areAsked_impl hf]
      simp [hs]
  by_cases hfl : FlOK f
  rotate_left
  · refine both (p := (0, 0, 4)) ?_ ?_
    · unfold spec_One.f
      rw [size_spec, flags_spec]
      simp [hs, hfl, spec_One.j0]
    · unfold impl_One.f
      rw [areAsked_impl hf]
      simp [hfl]
  have hisOne : impl_isOne.f op = some (decide (op = 11 ∨ op = 12 ∨ op = 18 ∨ op = 19)) := by
    unfold impl_isOne.f
    by_cases o1 : op = 11 <;> by_cases o2 : op = 12 <;> by_cases o3 : op = 18 <;> by_cases o4 : op = 19 <;> simp_all
  have hspec : ∀ k, spec_One.f (k + 1) op s a f = if op = 11 ∨ op = 12 ∨ op = 18 ∨ op = 19 then (spec_l06One.f k op s a f).bind fun b => some (b.1, b.2, 0) else some (0, 0, 11) := fun k => by
    unfold spec_One.f
    rw [size_spec, flags_spec]
    simp only [hs, hfl, decide_true, Option.bind_some, if_true, Bool.not_true, spec_One.j0, Bool.false_eq_true, if_false]
    by_cases o1 : op = 11
    · simp [o1]
    by_cases o2 : op = 12
    · simp [o2]
    by_cases o3 : op = 18
    · simp [o3]
    by_cases o4 : op = 19
    · simp [o4]
    simp [o1, o2, o3, o4]
  by_cases hop : op = 11 ∨ op = 12 ∨ op = 18 ∨ op = 19
  rotate_left
  · refine both (p := (0, 0, 11)) ?_ ?_
    · rw [hspec, if_neg hop]
    · unfold impl_One.f
      rw [areAsked_impl hf, hisOne]
      simp [hs, hfl, hop]
  obtain ⟨l0, e0⟩ := un_small (c := 0) hs (by omega) (by omega)
  obtain ⟨l1, e1⟩ := un_small (c := 1) hs (by omega) (by omega)
  have h0 : (0 : Int) = ((0 : Nat) : Int) := rfl
  have hcore : ∃ p : Int × Int, spec_l06One.f 149 op s a f = some p ∧ impl_one.f 150 op s a f = some p := by
    unfold spec_l06One.f impl_one.f
    rw [zero_impl hs, zero_spec hs (and_range _ _ _) (by omega)]
    simp only [Option.bind_some]
    rw [zero_impl hs, zero_not hs]
    by_cases o1 : op = 11
    · rw [if_pos o1, if_pos o1]; exact ⟨_, rfl, rfl⟩
    rw [if_neg o1, if_neg o1]
    by_cases o2 : op = 12
    · rw [if_pos o2, if_pos o2]
      have g1 := sub_spec (a := 0) (b := a) hs (c := 0) (by omega) (k := 149) (by omega)
      have g2 := difference_impl (a := 0) (b := zeroZ a s) hs l0 (un_zero_lt hs) (c := 0) (by omega)
      rw [taken_right hs 0 l0] at g2
      rw [show ((0 : Nat) : Int) = 0 from rfl] at g1 g2
      rw [g1, g2]
      exact ⟨_, rfl, rfl⟩
    rw [if_neg o2, if_neg o2]
    have g3 := sum_impl (a := zeroZ a s) (b := 1) hs (un_zero_lt hs) l1 (c := 0) (by omega) 149
    rw [added_left hs 0 l1] at g3
    have g4 := difference_impl (a := zeroZ a s) (b := 1) hs (un_zero_lt hs) l1 (c := 0) (by omega)
    rw [taken_left hs 0 l1] at g4
    have g5 := add_spec (a := a) (b := 1) hs (c := 0) (by omega) (k := 149) (by omega)
    have g6 := sub_spec (a := a) (b := 1) hs (c := 0) (by omega) (k := 149) (by omega)
    rw [show ((0 : Nat) : Int) = 0 from rfl] at g3 g4 g5 g6
    rw [g3]
    simp only [Option.bind_some]
    by_cases o4 : op = 19
    · rw [if_pos o4, show (op == 19) = true by simp [o4], g6, g4]
      exact ⟨_, rfl, rfl⟩
    · rw [if_neg o4, show (op == 19) = false by simp [o4], g5]
      exact ⟨_, rfl, rfl⟩
  obtain ⟨p, hp1, hp2⟩ := hcore
  refine both (p := (p.1, p.2, 0)) ?_ ?_
  · rw [hspec, if_pos hop, hp1]
    rfl
  · unfold impl_One.f
    rw [areAsked_impl hf, hisOne, hp2]
    simp [hs, hfl, hop]

end Go.Proofs.Ytdljhgmgpnpfiaa.Pure
