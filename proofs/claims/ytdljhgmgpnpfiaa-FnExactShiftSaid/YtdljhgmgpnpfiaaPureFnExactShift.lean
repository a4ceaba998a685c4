/- Shift: the law's numbers. -/
import Derived.Test.YtdljhgmgpnpfiaaPFnExactShiftx3
import Derived.Test.YtdljhgmgpnpfiaaNumF
namespace Go.Proofs.Ytdljhgmgpnpfiaa.Pure
open Go.RowKit Go.Proofs.Ytdljhgmgpnpfiaa.PFnExactShift Go.Proofs.YtdljhgmgpnpfiaaW.PrintWords Go.Proofs.YtdljhgmgpnpfiaaW.PrintLast Go.Proofs.YtdljhgmgpnpfiaaW.PrintMore Go.Proofs.Ytdljhgmgpnpfiaa.Num
set_option linter.unusedVariables false
set_option linter.unusedSimpArgs false

theorem size_spec (s : Int) : spec_l01Size.f s = some (decide (Sz s)) := by
  unfold spec_l01Size.f Sz
  by_cases h1 : s = 1 <;> by_cases h2 : s = 2 <;> by_cases h4 : s = 4 <;> by_cases h8 : s = 8 <;> simp_all
theorem size_impl (s : Int) : impl_isSize.f s = some (decide (Sz s)) := size_spec s
theorem bit_spec (a i : Int) (h0 : 0 ≤ i) (h1 : i < 64) : spec_l01Bit.f a i = some (bit a i) := by
  unfold spec_l01Bit.f
  have hi : IntKind.u64.wrap i = i := u64_in h0 (by omega)
  have ha : IntKind.u64.wrap a = (un a : Int) := by rw [IntKind.wrap_u64, un_eq]
  rw [hi, if_pos h0, ha, shr_u64 _ _ (by omega) h0 h1, Int.toNat_natCast]
  unfold bit
  have e : Int.tmod ((un a / 2 ^ i.toNat : Nat) : Int) 2 = ((un a / 2 ^ i.toNat % 2 : Nat) : Int) := by
    rw [Int.tmod_eq_emod_of_nonneg (Int.natCast_nonneg _)]; rfl
  rw [e]
  rcases Nat.mod_two_eq_zero_or_one (un a / 2 ^ i.toNat) with h | h <;> rw [h] <;> simp
theorem zero_loop (a : Int) (n : Nat) (hn : n ≤ 64) : ∀ (j k : Nat), j ≤ n → j < k →
    spec_l01Zero.l0 k a ((un a % 2 ^ n / 2 ^ j : Nat) : Int) ((j : Int) - 1) = some (wrap64 ((un a % 2 ^ n : Nat) : Int))
  | j, 0, _, hk => by omega
  | 0, k + 1, _, _ => by
    simp only [spec_l01Zero.l0]
    rw [if_neg (by omega)]
    simp
  | j + 1, k + 1, hj, hk => by
    simp only [spec_l01Zero.l0]
    rw [if_pos (by omega), show ((j + 1 : Nat) : Int) - 1 = (j : Int) by omega, bit_spec _ _ (by omega) (by omega)]
    simp only [Option.bind_some]
    have hl := un_lt' a
    have h2 : un a % 2 ^ n ≤ un a := Nat.mod_le _ _
    have h3 := half_step (un a % 2 ^ n) j
    have h4 := mod_bit (un a) n j (by omega)
    have h5 : un a % 2 ^ n / 2 ^ j ≤ un a % 2 ^ n := Nat.div_le_self _ _
    have e : IntKind.u64.wrap (IntKind.u64.wrap (2 * ((un a % 2 ^ n / 2 ^ (j + 1) : Nat) : Int)) + IntKind.u64.wrap (bit a (j : Int))) = ((un a % 2 ^ n / 2 ^ j : Nat) : Int) := by
      unfold bit
      rw [Int.toNat_natCast, ← h4]
      rw [u64_in (n := 2 * _) (by omega) (by omega), u64_in (n := ((un a % 2 ^ n / 2 ^ j % 2 : Nat) : Int)) (by omega) (by omega), u64_in (by omega) (by omega)]
      omega
    rw [e, show wrap64 ((j : Int) - 1) = (j : Int) - 1 from w64_in (by omega) (by omega)]
    exact zero_loop a n hn j k (by omega) (by omega)
theorem zero_spec {k : Nat} {a s : Int} (hs : Sz s) (ha : -9223372036854775808 ≤ a ∧ a ≤ 9223372036854775807) (hk : 64 < k) : spec_l01Zero.f k a s = some (zeroZ a s) := by
  unfold spec_l01Zero.f
  have h8 : 0 ≤ 8 * s ∧ 8 * s ≤ 64 := by rcases hs with rfl | rfl | rfl | rfl <;> omega
  rw [w64_in (n := 8 * s) (by omega) (by omega), w64_in (by omega) (by omega), ← zeroZ_un hs ha]
  have h := zero_loop a (8 * s).toNat (by omega) (8 * s).toNat k (by omega) (by omega)
  rw [show un a % 2 ^ (8 * s).toNat / 2 ^ (8 * s).toNat = 0 from Nat.div_eq_of_lt (Nat.mod_lt _ (Nat.two_pow_pos _)), show (((8 * s).toNat : Nat) : Int) = 8 * s by omega] at h
  exact h
theorem zero_impl {a s : Int} (hs : Sz s) : impl_zero.f a s = some (zeroZ a s) := by
  unfold impl_zero.f
  rcases hs with rfl | rfl | rfl | rfl
  · rw [if_neg (by omega), if_pos (by unfold wrap64; omega), show wrap64 (shl .i64 1 (wrap64 (8 * 1)) - 1) = 2 ^ 8 - 1 by decide +kernel, and_mask _ _ (by decide)]; rfl
  · rw [if_neg (by omega), if_pos (by unfold wrap64; omega), show wrap64 (shl .i64 1 (wrap64 (8 * 2)) - 1) = 2 ^ 16 - 1 by decide +kernel, and_mask _ _ (by decide)]; rfl
  · rw [if_neg (by omega), if_pos (by unfold wrap64; omega), show wrap64 (shl .i64 1 (wrap64 (8 * 4)) - 1) = 2 ^ 32 - 1 by decide +kernel, and_mask _ _ (by decide)]; rfl
  · rw [if_pos rfl]; rfl
/-- How many of the lowest i bits of v are on. -/
def ones (v : Int) : Nat → Int
  | 0 => 0
  | i + 1 => ones v i + bit v i
theorem ones_range (v : Int) : ∀ i : Nat, 0 ≤ ones v i ∧ ones v i ≤ i
  | 0 => by simp [ones]
  | i + 1 => by
    have := ones_range v i
    have := bit_or v i
    simp only [ones]
    omega
/-- The flags of sign, nought and parity. -/
def szp (s v : Int) : Int :=
  Go.bits .or .i64 (Go.bits .or .i64 (if bit v (8 * s - 1) = 1 then 128 else 0) (if zeroZ v s = 0 then 64 else 0)) (if ones v 8 % 2 = 0 then 4 else 0)
theorem szp_loop {s v : Int} (hs : Sz s) (hv : -9223372036854775808 ≤ v ∧ v ≤ 9223372036854775807) : ∀ (j k i : Nat), i + j = 8 → j + 65 < k →
    spec_l06Szp.l0 k s v (ones v i) (i : Int) = some (szp s v)
  | j, 0, i, _, hk => by omega
  | 0, k + 1, i, hj, hk => by
    simp only [spec_l06Szp.l0]
    obtain rfl : i = 8 := by omega
    have h8 : 8 ≤ 8 * s ∧ 8 * s ≤ 64 := by rcases hs with rfl | rfl | rfl | rfl <;> omega
    rw [if_neg (by omega), w64_in (n := 8 * s) (by omega) (by omega), w64_in (n := 8 * s - 1) (by omega) (by omega), bit_spec _ _ (by omega) (by omega), zero_spec hs hv (by omega)]
    have ho := ones_range v 8
    rw [Int.tmod_eq_emod_of_nonneg ho.1]
    unfold spec_l06If.f szp
    simp only [Option.bind_some, beq_iff_eq]
    by_cases a : bit v (8 * s - 1) = 1 <;> by_cases b : zeroZ v s = 0 <;> by_cases c : ones v 8 % 2 = 0 <;> simp [a, b, c]
  | j + 1, k + 1, i, hj, hk => by
    simp only [spec_l06Szp.l0]
    have h1 := ones_range v i
    have h2 := bit_or v i
    rw [if_pos (by omega), bit_spec _ _ (by omega) (by omega)]
    simp only [Option.bind_some]
    rw [w64_in (n := ones v i + bit v i) (by omega) (by omega), w64_in (by omega) (by omega)]
    have h := szp_loop hs hv j k (i + 1) (by omega) (by omega)
    simpa only [ones, Int.natCast_add, Int.natCast_one] using h
theorem szp_spec {k : Nat} {s v : Int} (hs : Sz s) (hv : -9223372036854775808 ≤ v ∧ v ≤ 9223372036854775807) (hk : 73 < k) : spec_l06Szp.f k s v = some (szp s v) := by
  unfold spec_l06Szp.f
  exact szp_loop hs hv 8 k 0 rfl (by omega)
theorem ones_mod (v : Int) : ones v 8 = ones (v % 256) 8 := by
  simp only [ones, bit, un]
  have e : ∀ i : Nat, i < 8 → (v % 18446744073709551616).toNat / 2 ^ i % 2 = (v % 256 % 18446744073709551616).toNat / 2 ^ i % 2 := by
    intro i hi
    have h1 := mod_bit (v % 18446744073709551616).toNat 8 i hi
    have h2 : (v % 256 % 18446744073709551616).toNat = (v % 18446744073709551616).toNat % 2 ^ 8 := by omega
    rw [h2, h1]
  simp only [Int.toNat_natCast]
  rw [e 0 (by omega), e 1 (by omega), e 2 (by omega), e 3 (by omega), e 4 (by omega), e 5 (by omega), e 6 (by omega), e 7 (by omega)]
theorem ones_table : ∀ i : Fin 256, bits_OnesCount8.f (i.val : Int) = some (ones (i.val : Int) 8) := by decide +kernel
theorem ones_impl (v : Int) : bits_OnesCount8.f (v % 256) = some (ones v 8) := by
  have h := ones_table ⟨(v % 256).toNat, by omega⟩
  simp only at h
  rwa [show (((v % 256).toNat : Nat) : Int) = v % 256 by omega, ← ones_mod] at h
/-- The highest bit. -/
theorem top_impl {s v : Int} (hs : Sz s) (hv : -9223372036854775808 ≤ v ∧ v ≤ 9223372036854775807) : impl_top.f v s = some (bit v (8 * s - 1) == 1) := by
  unfold impl_top.f
  have h8 : 8 ≤ 8 * s ∧ 8 * s ≤ 64 := by rcases hs with rfl | rfl | rfl | rfl <;> omega
  rw [w64_in (n := 8 * s) (by omega) (by omega), w64_in (n := 8 * s - 1) (by omega) (by omega), if_pos (by omega)]
  have e : Go.bits .and .i64 (shr .i64 v (8 * s - 1)) 1 = bit v (8 * s - 1) := by
    rw [show (1 : Int) = 2 ^ 1 - 1 from rfl, and_mask _ 1 (by decide)]
    unfold shr bit un
    rcases hs with rfl | rfl | rfl | rfl <;> simp [IntKind.bits] <;> omega
  rw [e]
theorem flags_impl {s v : Int} (hs : Sz s) (hv : -9223372036854775808 ≤ v ∧ v ≤ 9223372036854775807) : impl_flagsOf.f s v = some (szp s v) := by
  unfold impl_flagsOf.f
  have ho := ones_range v 8
  rw [top_impl hs hv, zero_impl hs, ones_impl]
  simp only [Option.bind_some]
  rw [Int.tmod_eq_emod_of_nonneg ho.1]
  unfold impl_flag.f szp
  simp only [beq_iff_eq]
  by_cases a : bit v (8 * s - 1) = 1 <;> by_cases b : zeroZ v s = 0 <;> by_cases c : ones v 8 % 2 = 0 <;> simp [a, b, c]
theorem and_self_le {a : Int} (h0 : 0 ≤ a) (ha : a ≤ 9223372036854775807) (h : Go.bits .and .i64 a 2245 = a) : a ≤ 2245 := by
  have h1 := congrArg un h
  rw [un_and] at h1
  have h2 : un 2245 = 2245 := rfl
  have h3 : un a &&& un 2245 ≤ un 2245 := Nat.and_le_right
  rw [h1, h2] at h3
  unfold un at h3; omega
theorem flags_small : ∀ i : Fin 2246, (Go.bits .and .i64 (i.val : Int) 2245 = (i.val : Int)) → ((i.val : Int) = Go.bits .and .i64 (i.val : Int) 2245) := fun _ h => h.symm
/-- Right flags: of five bits alone. -/
def FlOK (f : Int) : Prop := 0 ≤ f ∧ Go.bits .and .i64 f 2245 = f
instance (f : Int) : Decidable (FlOK f) := by unfold FlOK; infer_instance
theorem flags_spec (f : Int) : spec_l06Flags.f f = some (decide (FlOK f)) := by
  unfold spec_l06Flags.f FlOK
  by_cases h : f ≥ 0
  · have h' : 0 ≤ f := h
    rw [if_pos h]
    simp [h', Bool.beq_eq_decide_eq]
  · have h' : ¬ 0 ≤ f := h
    rw [if_neg h]
    simp [h']
theorem and_not_mask (F M : Nat) (hF : F < 2 ^ 64) (hM : M < 2 ^ 64) : (F &&& (18446744073709551615 - M) = 0) ↔ (F &&& M = F) := by
  have e : ∀ i, (18446744073709551615 - M).testBit i = (decide (i < 64) && !M.testBit i) := by
    intro i
    have h := Nat.testBit_two_pow_sub_succ hM i
    rw [show 2 ^ 64 - (M + 1) = 18446744073709551615 - M by omega] at h
    exact h
  constructor
  · intro h
    apply Nat.eq_of_testBit_eq
    intro i
    rw [Nat.testBit_and]
    have h1 := congrArg (fun n => Nat.testBit n i) h
    simp only [Nat.testBit_and, e, Nat.zero_testBit] at h1
    by_cases hi : i < 64
    · cases hf : F.testBit i <;> cases hm : M.testBit i <;> simp_all
    · rw [Nat.testBit_lt_two_pow (Nat.lt_of_lt_of_le hF (Nat.pow_le_pow_right (by decide) (by omega)))]
      rfl
  · intro h
    apply Nat.eq_of_testBit_eq
    intro i
    rw [Nat.testBit_and, e, Nat.zero_testBit]
    have h1 := congrArg (fun n => Nat.testBit n i) h
    simp only [Nat.testBit_and] at h1
    cases hf : F.testBit i <;> cases hm : M.testBit i <;> simp_all
theorem flagsOK_iff {f : Int} (hf : -9223372036854775808 ≤ f ∧ f ≤ 9223372036854775807) : (Go.bits .andNot .i64 f 2245 = 0) ↔ FlOK f := by
  have hu := un_lt f
  have hM : un 2245 = 2245 := rfl
  have key := and_not_mask (un f) 2245 hu (by decide)
  have e1 : Go.bits .andNot .i64 f 2245 = wrap64 ((un f &&& (18446744073709551615 - 2245) : Nat) : Int) := by rw [andNot_un, hM]
  have hlt : un f &&& (18446744073709551615 - 2245) < 18446744073709551616 := Nat.and_lt_two_pow (n := 64) _ (by decide)
  have l1 : Go.bits .andNot .i64 f 2245 = 0 ↔ un f &&& (18446744073709551615 - 2245) = 0 := by
    rw [e1]
    constructor
    · intro h
      have h2 := congrArg un h
      rw [un_wnat hlt] at h2
      exact h2
    · intro h; rw [h]; exact w64_in (by omega) (by omega)
  have l2 : FlOK f ↔ un f &&& 2245 = un f := by
    constructor
    · rintro ⟨h0, h⟩
      have h2 := congrArg un h
      rw [un_and, hM] at h2
      exact h2
    · intro h
      have h3 : un f &&& 2245 ≤ 2245 := Nat.and_le_right
      rw [h] at h3
      refine ⟨by unfold un at h3; omega, ?_⟩
      rw [and_un, hM, h]
      exact (eq_wrap hf).symm
  rw [l1, l2, key]
theorem areFlags_impl {f : Int} (hf : -9223372036854775808 ≤ f ∧ f ≤ 9223372036854775807) : impl_areFlags.f f = some (decide (FlOK f)) := by
  unfold impl_areFlags.f
  rw [Bool.beq_eq_decide_eq, decide_eq_decide.mpr (flagsOK_iff hf)]
theorem carry_of {f : Int} (hf : FlOK f) : ∃ c : Nat, c ≤ 1 ∧ Go.bits .and .i64 f 1 = (c : Int) := by
  refine ⟨(f % 2).toNat, by omega, ?_⟩
  have h := and_mask f 1 (by decide)
  rw [show ((2 : Int) ^ 1 - 1) = 1 from rfl] at h
  rw [h]
  show f % 2 = _
  omega
/-- The number behind one shift; V has n = m + 1 bits. -/
def sval (op : Int) (m V : Nat) : Nat :=
  if op = 20 then 2 * V % 2 ^ (m + 1) + V / 2 ^ m else if op = 22 then 2 * V % 2 ^ (m + 1) else if op = 21 then V / 2 + 2 ^ m * (V % 2) else if op = 23 then V / 2 else V / 2 + 2 ^ m * (V / 2 ^ m)
/-- What goes out. -/
def sout (op : Int) (m V : Nat) : Nat := if op = 20 ∨ op = 22 then V / 2 ^ m else V % 2
/-- Whether it goes over. -/
def sover (op : Int) (m V : Nat) : Bool :=
  if op = 20 ∨ op = 22 then decide (tb (sval op m V) m ≠ V / 2 ^ m) else if op = 21 then decide (tb (sval op m V) m ≠ tb (sval op m V) (m - 1)) else if op = 23 then decide (V / 2 ^ m = 1) else false
/-- The flags behind one shift. -/
def sflag (op s : Int) (m V : Nat) (f : Int) : Int :=
  Go.bits .or .i64 (Go.bits .or .i64 (if op = 20 ∨ op = 21 then Go.bits .and .i64 f 196 else szp s (wrap64 ((sval op m V : Nat) : Int))) (if sout op m V = 1 then 1 else 0)) (if sover op m V = true then 2048 else 0)
section
variable {op : Int} {m V : Nat}
theorem high_le (hV : V < 2 ^ (m + 1)) : V / 2 ^ m ≤ 1 := by
  have : V / 2 ^ m < 2 := by rw [Nat.div_lt_iff_lt_mul (Nat.two_pow_pos m), Nat.mul_comm, ← Nat.pow_succ]; exact hV
  omega
theorem double_mod (hV : V < 2 ^ (m + 1)) : 2 * V % 2 ^ (m + 1) + 2 ^ (m + 1) * (V / 2 ^ m) = 2 * V := by
  have h1 := Nat.div_add_mod (2 * V) (2 ^ (m + 1))
  have h2 : 2 * V / 2 ^ (m + 1) = V / 2 ^ m := by
    rw [Nat.pow_succ, Nat.mul_comm (2 ^ m) 2, Nat.mul_div_mul_left _ _ (by decide)]
  rw [h2] at h1
  omega
theorem double_even (V m : Nat) : 2 * V % 2 ^ (m + 1) % 2 = 0 := by
  rw [Nat.mod_mod_of_dvd _ ⟨2 ^ m, by rw [Nat.pow_succ, Nat.mul_comm]⟩]; omega
theorem sval_lt (hV : V < 2 ^ (m + 1)) : sval op m V < 2 ^ (m + 1) := by
  have hp := Nat.two_pow_pos m
  have e : 2 ^ (m + 1) = 2 * 2 ^ m := by rw [Nat.pow_succ, Nat.mul_comm]
  have hh := high_le hV
  have hd := double_mod hV
  have hlt : 2 * V % 2 ^ (m + 1) < 2 ^ (m + 1) := Nat.mod_lt _ (Nat.two_pow_pos _)
  have h01 : V / 2 ^ m = 0 ∨ V / 2 ^ m = 1 := by
    generalize V / 2 ^ m = q at *
    omega
  have hV2 : V % 2 = 0 ∨ V % 2 = 1 := by omega
  unfold sval
  split
  · have h2 := double_even V m
    generalize V / 2 ^ m = q at *
    generalize 2 * V % 2 ^ (m + 1) = w at *
    generalize 2 ^ (m + 1) = P at *
    generalize 2 ^ m = R at *
    clear hd
    omega
  · split
    · exact hlt
    · split
      · rcases hV2 with h | h <;> rw [h] <;> omega
      · split
        · omega
        · rcases h01 with h | h <;> rw [h] <;> omega
theorem tb_high (hV : V < 2 ^ (m + 1)) : tb V m = V / 2 ^ m := by
  have := high_le hV
  unfold tb
  generalize V / 2 ^ m = q at *
  omega
theorem tb_low : tb V 0 = V % 2 := by unfold tb; simp
end
theorem flags_table : ∀ i : Fin 2246, Go.bits .and .i64 (i.val : Int) 2245 = (i.val : Int) → Go.bits .andNot .i64 (i.val : Int) 2049 = Go.bits .and .i64 (i.val : Int) 196 ∧ (Go.bits .and .i64 (i.val : Int) 196 = 0 ∨ Go.bits .and .i64 (i.val : Int) 196 = 4 ∨ Go.bits .and .i64 (i.val : Int) 196 = 64 ∨ Go.bits .and .i64 (i.val : Int) 196 = 68 ∨ Go.bits .and .i64 (i.val : Int) 196 = 128 ∨ Go.bits .and .i64 (i.val : Int) 196 = 132 ∨ Go.bits .and .i64 (i.val : Int) 196 = 192 ∨ Go.bits .and .i64 (i.val : Int) 196 = 196) := by decide +kernel
theorem keep_tells {f : Int} (hf : FlOK f) (hr : f ≤ 9223372036854775807) : Go.bits .andNot .i64 f 2049 = Go.bits .and .i64 f 196 ∧ (Go.bits .and .i64 f 196 = 0 ∨ Go.bits .and .i64 f 196 = 4 ∨ Go.bits .and .i64 f 196 = 64 ∨ Go.bits .and .i64 f 196 = 68 ∨ Go.bits .and .i64 f 196 = 128 ∨ Go.bits .and .i64 f 196 = 132 ∨ Go.bits .and .i64 f 196 = 192 ∨ Go.bits .and .i64 f 196 = 196) := by
  have h1 := and_self_le hf.1 hr hf.2
  have h := flags_table ⟨f.toNat, by have := hf.1; omega⟩
  simp only [show ((f.toNat : Nat) : Int) = f by have := hf.1; omega] at h
  exact h hf.2
theorem szp_tells (s v : Int) : Go.bits .andNot .i64 (szp s v) 2049 = szp s v ∧ (szp s v = 0 ∨ szp s v = 4 ∨ szp s v = 64 ∨ szp s v = 68 ∨ szp s v = 128 ∨ szp s v = 132 ∨ szp s v = 192 ∨ szp s v = 196) := by
  unfold szp
  by_cases a : bit v (8 * s - 1) = 1 <;> by_cases b : zeroZ v s = 0 <;> by_cases c : ones v 8 % 2 = 0 <;> simp only [a, b, c, if_true, if_false] <;> decide +kernel
theorem FlOK_made {x y z : Int} (hx : x = 0 ∨ x = 4 ∨ x = 64 ∨ x = 68 ∨ x = 128 ∨ x = 132 ∨ x = 192 ∨ x = 196) (hy : y = 0 ∨ y = 1) (hz : z = 0 ∨ z = 2048) : FlOK (Go.bits .or .i64 (Go.bits .or .i64 x y) z) := by
  rcases hx with rfl | rfl | rfl | rfl | rfl | rfl | rfl | rfl <;> rcases hy with rfl | rfl <;> rcases hz with rfl | rfl <;> decide +kernel
theorem sflag_ok {op s : Int} {m V : Nat} {f : Int} (hf : FlOK f) (hr : f ≤ 9223372036854775807) : FlOK (sflag op s m V f) := by
  unfold sflag
  apply FlOK_made
  · split
    · exact (keep_tells hf hr).2
    · exact (szp_tells _ _).2
  · split <;> simp
  · split <;> simp
theorem zeroZ_wrap {s : Int} (hs : Sz s) {m V : Nat} (hm : (8 * s).toNat = m + 1) (hV : V < 2 ^ (m + 1)) : zeroZ (wrap64 ((V : Nat) : Int)) s = wrap64 ((V : Nat) : Int) ∧ un (wrap64 ((V : Nat) : Int)) = V := by
  obtain ⟨m', hm', h64, _⟩ := pow_size hs
  have hp : 2 ^ (m + 1) ≤ 2 ^ 64 := Nat.pow_le_pow_right (by decide) (by omega)
  have hu : un (wrap64 ((V : Nat) : Int)) = V := un_wnat (by omega)
  refine ⟨?_, hu⟩
  rw [zeroZ_eq hs (w64_range _), hu, hm, Nat.mod_eq_of_lt hV]
theorem or_one {x t : Nat} (hx : x % 2 = 0) (ht : t ≤ 1) : x ||| t = x + t := by
  have h := Nat.two_pow_add_eq_or_of_lt (i := 1) (b := t) (by omega) (x / 2)
  rw [show 2 ^ 1 * (x / 2) = x by omega] at h
  exact h.symm
theorem or_one_w {x t : Nat} (hx : x % 2 = 0) (hl : x < 18446744073709551616) (ht : t ≤ 1) : Go.bits .or .i64 (wrap64 ((x : Nat) : Int)) ((t : Nat) : Int) = wrap64 ((x + t : Nat) : Int) := by
  rw [or_un, un_wnat hl, un_nat (by omega), or_one hx ht]
theorem or_top_w {x t m : Nat} (hx : x < 2 ^ m) (hm : m < 64) (ht : t ≤ 1) : Go.bits .or .i64 (wrap64 ((x : Nat) : Int)) (wrap64 ((2 ^ m * t : Nat) : Int)) = wrap64 ((x + 2 ^ m * t : Nat) : Int) := by
  have hp : 2 ^ m ≤ 2 ^ 63 := Nat.pow_le_pow_right (by decide) (by omega)
  have hp2 : 2 ^ m * t ≤ 2 ^ m * 1 := Nat.mul_le_mul_left _ ht
  rw [or_un, un_wnat (by omega), un_wnat (by omega)]
  have h := Nat.two_pow_add_eq_or_of_lt hx t
  rw [Nat.or_comm, ← h, Nat.add_comm]
theorem u64_w {V : Nat} (hV : V < 18446744073709551616) : IntKind.u64.wrap (wrap64 ((V : Nat) : Int)) = ((V : Nat) : Int) := by
  rw [IntKind.wrap_u64, ← un_eq, un_wnat hV]
theorem half_w {V : Nat} (hV : V < 18446744073709551616) : IntKind.u64.wrap (wrap64 ((V : Nat) : Int)) / 2 = ((V / 2 : Nat) : Int) := by
  rw [u64_w hV]; rfl
theorem bit_w {V i : Nat} (hV : V < 18446744073709551616) : bit (wrap64 ((V : Nat) : Int)) ((i : Nat) : Int) = ((tb V i : Nat) : Int) := by
  rw [bit_tb, un_wnat hV]
theorem un_mod (a : Int) (j : Nat) (hj : j ≤ 64) {b : Int} (h : a % 18446744073709551616 = b % 18446744073709551616) : un a % 2 ^ j = un b % 2 ^ j := by
  unfold un; rw [h]
theorem double_zero {s : Int} (hs : Sz s) {m V : Nat} (hm : (8 * s).toNat = m + 1) {a : Int} (ha : -9223372036854775808 ≤ a ∧ a ≤ 9223372036854775807) (h : a % 18446744073709551616 = ((2 * V : Nat) : Int) % 18446744073709551616) : zeroZ a s = wrap64 ((2 * V % 2 ^ (m + 1) : Nat) : Int) := by
  obtain ⟨m', hm', h64, _⟩ := pow_size hs
  obtain rfl : m' = m := by omega
  rw [zeroZ_eq hs ha, hm, un_mod a (m' + 1) h64 h]
  congr 2
  unfold un
  have e : (((2 * V : Nat) : Int) % 18446744073709551616).toNat = 2 * V % 2 ^ 64 := by omega
  rw [e]
  exact Nat.mod_mod_of_dvd _ (Nat.pow_dvd_pow 2 h64)
theorem if_spec (b : Bool) (n : Int) : spec_l06If.f b n = some (if b = true then n else 0) := by
  unfold spec_l06If.f; cases b <;> rfl
theorem flag_impl (b : Bool) (n : Int) : impl_flag.f b n = some (if b = true then n else 0) := by
  unfold impl_flag.f; cases b <;> rfl
theorem xor_bits {a b : Nat} (ha : a ≤ 1) (hb : b ≤ 1) : (Go.bits .xor .i64 ((a : Nat) : Int) ((b : Nat) : Int) == 1) = decide (a ≠ b) := by
  obtain rfl | rfl : a = 0 ∨ a = 1 := by omega
  · obtain rfl | rfl : b = 0 ∨ b = 1 := by omega
    · decide +kernel
    · decide +kernel
  · obtain rfl | rfl : b = 0 ∨ b = 1 := by omega
    · decide +kernel
    · decide +kernel
theorem u64_bit {q : Nat} (h : q ≤ 1) : IntKind.u64.wrap ((q : Nat) : Int) = ((q : Nat) : Int) := u64_in (by omega) (by omega)
theorem double_u {V : Nat} (hV : V < 18446744073709551616) : wrap64 (IntKind.u64.wrap (IntKind.u64.wrap (wrap64 ((V : Nat) : Int)) * 2)) % 18446744073709551616 = ((2 * V : Nat) : Int) % 18446744073709551616 := by
  rw [u64_w hV, IntKind.wrap_u64]
  generalize e : ((V : Nat) : Int) * 2 = x
  rw [show ((2 * V : Nat) : Int) = x by omega]
  unfold wrap64; omega
theorem double_i (V : Nat) : wrap64 (wrap64 ((V : Nat) : Int) * 2) % 18446744073709551616 = ((2 * V : Nat) : Int) % 18446744073709551616 := by
  unfold wrap64; omega
theorem sval_20 (m V : Nat) : sval 20 m V = 2 * V % 2 ^ (m + 1) + V / 2 ^ m := by unfold sval; rw [if_pos rfl]
theorem sval_22 (m V : Nat) : sval 22 m V = 2 * V % 2 ^ (m + 1) := by unfold sval; rw [if_neg (by decide), if_pos rfl]
theorem sval_21 (m V : Nat) : sval 21 m V = V / 2 + 2 ^ m * (V % 2) := by unfold sval; rw [if_neg (by decide), if_neg (by decide), if_pos rfl]
theorem sval_23 (m V : Nat) : sval 23 m V = V / 2 := by unfold sval; rw [if_neg (by decide), if_neg (by decide), if_neg (by decide), if_pos rfl]
theorem sval_24 (m V : Nat) : sval 24 m V = V / 2 + 2 ^ m * (V / 2 ^ m) := by unfold sval; rw [if_neg (by decide), if_neg (by decide), if_neg (by decide), if_neg (by decide)]
theorem sout_l {op : Int} (h : op = 20 ∨ op = 22) (m V : Nat) : sout op m V = V / 2 ^ m := by unfold sout; rw [if_pos h]
theorem sout_r {op : Int} (h : ¬ (op = 20 ∨ op = 22)) (m V : Nat) : sout op m V = V % 2 := by unfold sout; rw [if_neg h]
theorem sover_l {op : Int} (h : op = 20 ∨ op = 22) (m V : Nat) : sover op m V = decide (tb (sval op m V) m ≠ V / 2 ^ m) := by unfold sover; rw [if_pos h]
theorem sover_21 (m V : Nat) : sover 21 m V = decide (tb (sval 21 m V) m ≠ tb (sval 21 m V) (m - 1)) := by unfold sover; rw [if_neg (by decide), if_pos rfl]
theorem sover_23 (m V : Nat) : sover 23 m V = decide (V / 2 ^ m = 1) := by unfold sover; rw [if_neg (by decide), if_neg (by decide), if_pos rfl]
theorem sover_24 (m V : Nat) : sover 24 m V = false := by unfold sover; rw [if_neg (by decide), if_neg (by decide), if_neg (by decide)]
/-- The flags out of what goes out and over. -/
def mkfl (op s W f : Int) (o x : Bool) : Int := Go.bits .or .i64 (Go.bits .or .i64 (if op = 20 ∨ op = 21 then Go.bits .and .i64 f 196 else szp s W) (if o = true then 1 else 0)) (if x = true then 2048 else 0)
theorem sflag_mk (op s : Int) (m V : Nat) (f : Int) : sflag op s m V f = mkfl op s (wrap64 ((sval op m V : Nat) : Int)) f (decide (sout op m V = 1)) (sover op m V) := by
  unfold sflag mkfl
  simp only [decide_eq_true_eq]
theorem shr_low {s : Int} (hs : Sz s) {m W : Nat} (hm : (8 * s).toNat = m + 1) (hW : W < 18446744073709551616) : (Go.bits .and .i64 (shr .i64 (wrap64 ((W : Nat) : Int)) ((m - 1 : Nat) : Int)) 1 == 1) = decide (tb W (m - 1) = 1) := by
  have h := and_mask (shr .i64 (wrap64 ((W : Nat) : Int)) ((m - 1 : Nat) : Int)) 1 (by decide)
  rw [show ((2 : Int) ^ 1 - 1) = 1 from rfl] at h
  rw [h]
  have h2 := bit_w (V := W) (i := m - 1) hW
  have e : shr .i64 (wrap64 ((W : Nat) : Int)) ((m - 1 : Nat) : Int) % 2 ^ 1 = bit (wrap64 ((W : Nat) : Int)) ((m - 1 : Nat) : Int) := by
    have hm1 : m = 7 ∨ m = 15 ∨ m = 31 ∨ m = 63 := by
      rcases hs with rfl | rfl | rfl | rfl
      · left; omega
      · right; left; omega
      · right; right; left; omega
      · right; right; right; omega
    generalize wrap64 ((W : Nat) : Int) = w at *
    clear h h2
    unfold shr bit un
    rcases hm1 with rfl | rfl | rfl | rfl <;> simp [IntKind.bits] <;> omega
  rw [e, h2, beq_one]
theorem pick_one {t : Nat} (ht : t ≤ 1) : (if decide (t = 1) = true then (1 : Int) else 0) = ((t : Nat) : Int) := by
  obtain rfl | rfl : t = 0 ∨ t = 1 := by omega
  · rfl
  · rfl
theorem pick_top {t m : Nat} (ht : t ≤ 1) : (if decide (t = 1) = true then wrap64 ((2 ^ m : Nat) : Int) else 0) = wrap64 ((2 ^ m * t : Nat) : Int) := by
  obtain rfl | rfl : t = 0 ∨ t = 1 := by omega
  · rw [if_neg (by decide), Nat.mul_zero]; exact (w64_in (by omega) (by omega)).symm
  · rw [if_pos (by decide), Nat.mul_one]
theorem bne_bits {a b : Nat} (ha : a ≤ 1) (hb : b ≤ 1) : (decide (a = 1) != decide (b = 1)) = decide (a ≠ b) := by
  obtain rfl | rfl : a = 0 ∨ a = 1 := by omega
  · obtain rfl | rfl : b = 0 ∨ b = 1 := by omega
    · decide
    · decide
  · obtain rfl | rfl : b = 0 ∨ b = 1 := by omega
    · decide
    · decide
theorem shl_one {m : Nat} (hm : m < 64) : shl .i64 1 ((m : Nat) : Int) = wrap64 ((2 ^ m : Nat) : Int) := by
  unfold shl
  rw [i64_wrap, show min ((m : Nat) : Int).toNat IntKind.i64.bits = m by simp [IntKind.bits]; omega]
  congr 1
  rw [Int.natCast_pow]; simp
theorem div_u64 {V m : Nat} (hV : V < 2 ^ (m + 1)) : IntKind.u64.wrap ((V / 2 ^ m : Nat) : Int) = ((V / 2 ^ m : Nat) : Int) := u64_bit (high_le hV)
theorem once_end {op s f W : Int} (hs : Sz s) (hW : -9223372036854775808 ≤ W ∧ W ≤ 9223372036854775807) {o : Nat} {x : Int} {k : Nat} (hk : 73 < k) :
    spec_l06Once.j0 (k + 2) op s f W ((o : Nat) : Int) x = some (W, mkfl op s W f (decide (o = 1)) (x == 1)) := by
  unfold mkfl
  simp only [spec_l06Once.j0, spec_l06Once.j1, if_spec, szp_spec hs hW hk, Option.bind_some, beq_one]
  by_cases h1 : op = 20
  · subst h1; simp
  · by_cases h2 : op = 21
    · subst h2; simp
    · simp [h1, h2]
theorem sval_w {s : Int} (hs : Sz s) {op : Int} {m V : Nat} (hm : (8 * s).toNat = m + 1) (hV : V < 2 ^ (m + 1)) : sval op m V < 18446744073709551616 := by
  obtain ⟨m', hm', h64, _⟩ := pow_size hs
  have hp : 2 ^ (m + 1) ≤ 2 ^ 64 := Nat.pow_le_pow_right (by decide) (by omega)
  have := sval_lt (op := op) hV
  omega
theorem once_spec {op s f : Int} (hs : Sz s) {m V : Nat} (hm : (8 * s).toNat = m + 1) (hV : V < 2 ^ (m + 1)) (hop : op = 20 ∨ op = 21 ∨ op = 22 ∨ op = 23 ∨ op = 24) {k : Nat} (hk : 80 < k) :
    spec_l06Once.f k op s (wrap64 ((V : Nat) : Int)) f = some (wrap64 ((sval op m V : Nat) : Int), sflag op s m V f) := by
  obtain ⟨m', hm', h64, hm2⟩ := pow_size hs
  obtain rfl : m' = m := by omega
  have hm8 : 8 ≤ m' + 1 := by rw [← hm]; rcases hs with rfl | rfl | rfl | rfl <;> decide
  have hp : 2 ^ (m' + 1) ≤ 2 ^ 64 := Nat.pow_le_pow_right (by decide) h64
  obtain ⟨hz, hu⟩ := zeroZ_wrap hs hm hV
  have hVl : V < 18446744073709551616 := by omega
  have hl2 : V % 2 ≤ 1 := by omega
  have hh := high_le hV
  have hsw : ∀ op, sval op m' V < 18446744073709551616 := fun op => sval_w hs hm hV
  have hpe : 2 ^ (m' + 1) = 2 * 2 ^ m' := by rw [Nat.pow_succ, Nat.mul_comm]
  have e81 : wrap64 (wrap64 (8 * s) - 1) = ((m' : Nat) : Int) := by
    rw [w64_in (n := 8 * s) (by omega) (by omega), hm2, w64_in (by omega) (by omega)]
  have e82 : wrap64 (((m' : Nat) : Int) - 1) = ((m' - 1 : Nat) : Int) := by
    rw [w64_in (by omega) (by omega)]; omega
  have hb1 : spec_l01Bit.f (wrap64 ((V : Nat) : Int)) ((m' : Nat) : Int) = some ((V / 2 ^ m' : Nat) : Int) := by
    rw [bit_spec _ _ (by omega) (by omega), bit_w hVl, tb_high hV]
  have hb0 : spec_l01Bit.f (wrap64 ((V : Nat) : Int)) 0 = some ((V % 2 : Nat) : Int) := by
    rw [bit_spec _ _ (by omega) (by omega), show (0 : Int) = ((0 : Nat) : Int) from rfl, bit_w hVl, tb_low]
  have hdz : spec_l01Zero.f k (wrap64 (IntKind.u64.wrap (IntKind.u64.wrap (wrap64 ((V : Nat) : Int)) * 2))) s = some (wrap64 ((2 * V % 2 ^ (m' + 1) : Nat) : Int)) := by
    rw [zero_spec hs (w64_range _) (by omega), double_zero hs hm (w64_range _)]
    exact double_u hVl
  have hzz : spec_l01Zero.f k (wrap64 ((V : Nat) : Int)) s = some (wrap64 ((V : Nat) : Int)) := by
    rw [zero_spec hs (w64_range _) (by omega), hz]
  have hum : IntKind.u64.wrap ((m' : Nat) : Int) = ((m' : Nat) : Int) := u64_in (by omega) (by omega)
  have hu0 : IntKind.u64.wrap ((V % 2 : Nat) : Int) = ((V % 2 : Nat) : Int) := u64_bit hl2
  have hu1 : IntKind.u64.wrap ((V / 2 ^ m' : Nat) : Int) = ((V / 2 ^ m' : Nat) : Int) := div_u64 hV
  have hdl : 2 * V % 2 ^ (m' + 1) < 18446744073709551616 := by have := Nat.mod_lt (2 * V) (Nat.two_pow_pos (m' + 1)); omega
  have hhalf : V / 2 < 2 ^ m' := by omega
  unfold spec_l06Once.f
  have hbt : ∀ op, spec_l01Bit.f (wrap64 ((sval op m' V : Nat) : Int)) ((m' : Nat) : Int) = some ((tb (sval op m' V) m' : Nat) : Int) := fun op => by
    rw [bit_spec _ _ (by omega) (by omega), bit_w (hsw op)]
  have hbt1 : ∀ op, spec_l01Bit.f (wrap64 ((sval op m' V : Nat) : Int)) ((m' - 1 : Nat) : Int) = some ((tb (sval op m' V) (m' - 1) : Nat) : Int) := fun op => by
    rw [bit_spec _ _ (by omega) (by omega), bit_w (hsw op)]
  obtain ⟨k', rfl⟩ : ∃ k', k = k' + 2 := ⟨k - 2, by omega⟩
  rw [sflag_mk]
  rw [e81, hb1, Option.bind_some, hb0, Option.bind_some]
  have b1 : ∀ (x : Nat) (g : Int → Option (Int × Int)), (some ((x : Nat) : Int)).bind g = g ((x : Nat) : Int) := fun _ _ => rfl
  have o1 := or_bit hhalf hl2 (by omega : m' < 64)
  have o2 := or_bit hhalf hh (by omega : m' < 64)
  have o3 := or_one_w (double_even V m') hdl hh
  have hh2 := half_w hVl
  rcases hop with rfl | rfl | rfl | rfl | rfl
  · have h1 := hbt 20
    rw [sval_20] at h1
    rw [if_pos rfl, hdz, Option.bind_some, o3, h1, Option.bind_some, once_end hs (w64_range _) (by omega), xor_bits (tb_le _ _) hh, sout_l (.inl rfl), sover_l (.inl rfl), sval_20]
  · have h1 := hbt 21
    have h2 := hbt1 21
    rw [sval_21] at h1 h2
    rw [if_neg (by decide), if_neg (by decide), if_pos rfl, hzz, Option.bind_some, hum, hu0, hh2, o1, if_pos (by omega), h1, Option.bind_some, e82, h2, Option.bind_some, once_end hs (w64_range _) (by omega), xor_bits (tb_le _ _) (tb_le _ _), sout_r (by decide), sover_21, sval_21]
  · have h1 := hbt 22
    rw [sval_22] at h1
    rw [if_neg (by decide), if_pos rfl, hdz, Option.bind_some, h1, Option.bind_some, once_end hs (w64_range _) (by omega), xor_bits (tb_le _ _) hh, sout_l (.inr rfl), sover_l (.inr rfl), sval_22]
  · rw [if_neg (by decide), if_neg (by decide), if_neg (by decide), if_pos rfl, hzz, Option.bind_some, hh2, once_end hs (w64_range _) (by omega), beq_one, sout_r (by decide), sover_23, sval_23]
  · rw [if_neg (by decide), if_neg (by decide), if_neg (by decide), if_neg (by decide), hzz, Option.bind_some, hum, hu1, hh2, o2, if_pos (by omega), once_end hs (w64_range _) (by omega), sout_r (by decide), sover_24, sval_24, show ((0 : Int) == 1) = false from rfl]
theorem once_end_impl {op s f W : Int} (hs : Sz s) (hW : -9223372036854775808 ≤ W ∧ W ≤ 9223372036854775807) (hop : op = 20 ∨ op = 21 ∨ op = 22 ∨ op = 23 ∨ op = 24) (hf : FlOK f) (hr : f ≤ 9223372036854775807) {o x : Bool} {k : Nat} :
    impl_shiftOnce.j1 (k + 2) op s f W o x = some (W, mkfl op s W f o x) := by
  unfold mkfl
  simp only [impl_shiftOnce.j1, impl_shiftOnce.j2, flag_impl, flags_impl hs hW, Option.bind_some, (szp_tells s W).1, (keep_tells hf hr).1]
  rcases hop with rfl | rfl | rfl | rfl | rfl <;> simp
theorem low_and {V : Nat} (hV : V < 18446744073709551616) : (Go.bits .and .i64 (wrap64 ((V : Nat) : Int)) 1 == 1) = decide (V % 2 = 1) := by
  have h := and_mask (wrap64 ((V : Nat) : Int)) 1 (by decide)
  rw [show ((2 : Int) ^ 1 - 1) = 1 from rfl] at h
  rw [h, show wrap64 ((V : Nat) : Int) % 2 ^ 1 = ((V % 2 : Nat) : Int) by unfold wrap64; omega, beq_one]
theorem once_impl {op s f : Int} (hs : Sz s) {m V : Nat} (hm : (8 * s).toNat = m + 1) (hV : V < 2 ^ (m + 1)) (hop : op = 20 ∨ op = 21 ∨ op = 22 ∨ op = 23 ∨ op = 24) (hf : FlOK f) (hr : f ≤ 9223372036854775807) {k : Nat} (hk : 3 ≤ k) :
    impl_shiftOnce.f k op s (wrap64 ((V : Nat) : Int)) f = some (wrap64 ((sval op m V : Nat) : Int), sflag op s m V f) := by
  obtain ⟨m', hm', h64, hm2⟩ := pow_size hs
  obtain rfl : m' = m := by omega
  have hm8 : 8 ≤ m' + 1 := by rw [← hm]; rcases hs with rfl | rfl | rfl | rfl <;> decide
  have hp : 2 ^ (m' + 1) ≤ 2 ^ 64 := Nat.pow_le_pow_right (by decide) h64
  obtain ⟨hz, hu⟩ := zeroZ_wrap hs hm hV
  have hVl : V < 18446744073709551616 := by omega
  have hl2 : V % 2 ≤ 1 := by omega
  have hh := high_le hV
  have hsw : ∀ op, sval op m' V < 18446744073709551616 := fun op => sval_w hs hm hV
  have hpe : 2 ^ (m' + 1) = 2 * 2 ^ m' := by rw [Nat.pow_succ, Nat.mul_comm]
  have e81 : wrap64 (wrap64 (8 * s) - 1) = ((m' : Nat) : Int) := by
    rw [w64_in (n := 8 * s) (by omega) (by omega), hm2, w64_in (by omega) (by omega)]
  have e82 : wrap64 (wrap64 (8 * s) - 2) = ((m' - 1 : Nat) : Int) := by
    rw [w64_in (n := 8 * s) (by omega) (by omega), w64_in (by omega) (by omega)]; omega
  have htop : ∀ W : Nat, W < 18446744073709551616 → impl_top.f (wrap64 ((W : Nat) : Int)) s = some (decide (tb W m' = 1)) := fun W hW => by
    rw [top_impl hs (w64_range _), hm2, bit_w hW, beq_one]
  have htV := htop V hVl
  rw [tb_high hV] at htV
  have hdz : impl_zero.f (wrap64 (wrap64 ((V : Nat) : Int) * 2)) s = some (wrap64 ((2 * V % 2 ^ (m' + 1) : Nat) : Int)) := by
    rw [zero_impl hs, double_zero hs hm (w64_range _)]
    exact double_i V
  have hshl : shl .i64 1 ((m' : Nat) : Int) = wrap64 ((2 ^ m' : Nat) : Int) := shl_one (by omega)
  have hdl : 2 * V % 2 ^ (m' + 1) < 18446744073709551616 := by have := Nat.mod_lt (2 * V) (Nat.two_pow_pos (m' + 1)); omega
  have hhalf : V / 2 < 2 ^ m' := by omega
  have hf1 : ∀ t : Nat, t ≤ 1 → (if decide (t = 1) = true then (1 : Int) else 0) = ((t : Nat) : Int) := fun t ht => pick_one ht
  have hf2 : ∀ t : Nat, t ≤ 1 → (if decide (t = 1) = true then wrap64 ((2 ^ m' : Nat) : Int) else 0) = wrap64 ((2 ^ m' * t : Nat) : Int) := fun t ht => pick_top ht
  have hbn : ∀ a b : Nat, a ≤ 1 → b ≤ 1 → (decide (a = 1) != decide (b = 1)) = decide (a ≠ b) := fun a b ha hb => bne_bits ha hb
  have hshr : ∀ W : Nat, W < 18446744073709551616 → (Go.bits .and .i64 (shr .i64 (wrap64 ((W : Nat) : Int)) ((m' - 1 : Nat) : Int)) 1 == 1) = decide (tb W (m' - 1) = 1) := fun W hW => shr_low hs hm hW
  obtain ⟨k', rfl⟩ : ∃ k', k = k' + 2 + 1 := ⟨k - 3, by omega⟩
  rw [sflag_mk]
  unfold impl_shiftOnce.f
  have z1 := low_and hVl
  have o1 := or_top_w hhalf (by omega : m' < 64) hl2
  have o2 := or_top_w hhalf (by omega : m' < 64) hh
  have o3 := or_one_w (double_even V m') hdl hh
  have hh2 := half_w hVl
  have g1 := hf1 _ hh
  have g2 := hf2 _ hh
  have g3 := hf2 _ hl2
  rw [htV, Option.bind_some, e81, if_pos (by omega), z1, hshl]
  rcases hop with rfl | rfl | rfl | rfl | rfl
  · have h1 := htop _ (hsw 20)
    rw [sval_20] at h1
    rw [if_neg (by decide), show ((20 : Int) == 20) = true from rfl, impl_shiftOnce.j0, if_pos rfl, hdz, Option.bind_some, if_pos rfl, flag_impl, Option.bind_some, g1, o3, h1, Option.bind_some, once_end_impl hs (w64_range _) (by decide) hf hr, hbn _ _ (tb_le _ _) hh, sout_l (.inl rfl), sover_l (.inl rfl), sval_20]
  · have h1 := htop _ (hsw 21)
    have h2 := hshr _ (hsw 21)
    rw [sval_21] at h1 h2
    rw [if_neg (by decide), show ((21 : Int) == 20) = false from rfl, impl_shiftOnce.j0, if_neg (by decide), if_neg (by decide), if_neg (by decide), flag_impl, Option.bind_some, g3, hh2, o1, h1, Option.bind_some, e82, if_pos (by omega), h2, once_end_impl hs (w64_range _) (by decide) hf hr, hbn _ _ (tb_le _ _) (tb_le _ _), sout_r (by decide), sover_21, sval_21]
  · have h1 := htop _ (hsw 22)
    rw [sval_22] at h1
    rw [if_pos rfl, show ((22 : Int) == 22) = true from rfl, impl_shiftOnce.j0, if_pos rfl, hdz, Option.bind_some, if_neg (by decide), h1, Option.bind_some, once_end_impl hs (w64_range _) (by decide) hf hr, hbn _ _ (tb_le _ _) hh, sout_l (.inr rfl), sover_l (.inr rfl), sval_22]
  · rw [if_neg (by decide), show ((23 : Int) == 20) = false from rfl, impl_shiftOnce.j0, if_neg (by decide), if_pos rfl, hh2, once_end_impl hs (w64_range _) (by decide) hf hr, sout_r (by decide), sover_23, sval_23]
  · rw [if_neg (by decide), show ((24 : Int) == 20) = false from rfl, impl_shiftOnce.j0, if_neg (by decide), if_neg (by decide), if_pos rfl, flag_impl, Option.bind_some, g2, hh2, o2, once_end_impl hs (w64_range _) (by decide) hf hr, sout_r (by decide), sover_24, sval_24]
theorem sflag_range (op s : Int) (m V : Nat) (f : Int) : sflag op s m V f ≤ 9223372036854775807 := by
  unfold sflag; exact (and_range _ _ _).2
theorem once_both {op s f : Int} (hs : Sz s) {m V : Nat} (hm : (8 * s).toNat = m + 1) (hV : V < 2 ^ (m + 1)) (hop : op = 20 ∨ op = 21 ∨ op = 22 ∨ op = 23 ∨ op = 24) (hf : FlOK f) (hr : f ≤ 9223372036854775807) {k k2 : Nat} (hk : 80 < k) (hk2 : 3 ≤ k2) :
    ∃ (V' : Nat) (f' : Int), V' < 2 ^ (m + 1) ∧ FlOK f' ∧ f' ≤ 9223372036854775807 ∧ spec_l06Once.f k op s (wrap64 ((V : Nat) : Int)) f = some (wrap64 ((V' : Nat) : Int), f') ∧ impl_shiftOnce.f k2 op s (wrap64 ((V : Nat) : Int)) f = some (wrap64 ((V' : Nat) : Int), f') :=
  ⟨_, _, sval_lt hV, sflag_ok hf hr, sflag_range _ _ _ _ _, once_spec hs hm hV hop hk, once_impl hs hm hV hop hf hr hk2⟩
theorem step_spec {k : Nat} {op s f n W i W' f' : Int} (h : i < n) (e : spec_l06Once.f k op s W f = some (W', f')) : spec_l06Shift.l0 (k + 1) op s f n W i = spec_l06Shift.l0 k op s f' n W' (wrap64 (i + 1)) := by
  simp only [spec_l06Shift.l0]
  rw [if_pos h, e, Option.bind_some]
theorem step_impl {k : Nat} {op s f n W i W' f' : Int} (h : i < n) (e : impl_shiftOnce.f k op s W f = some (W', f')) : impl_shift.l0 (k + 1) op s W f n i = impl_shift.l0 k op s W' f' n (wrap64 (i + 1)) := by
  simp only [impl_shift.l0]
  rw [if_pos h, e, Option.bind_some]
theorem stop_both {k k2 : Nat} {op s f n W i : Int} (h : ¬ i < n) : spec_l06Shift.l0 (k + 1) op s f n W i = some (W, f) ∧ impl_shift.l0 (k2 + 1) op s W f n i = some (W, f) := by
  simp only [spec_l06Shift.l0, impl_shift.l0, if_neg h, and_self]
theorem loops {op s : Int} (hs : Sz s) {m : Nat} (hm : (8 * s).toNat = m + 1) (hop : op = 20 ∨ op = 21 ∨ op = 22 ∨ op = 23 ∨ op = 24) (n : Nat) (hn : n ≤ 64) : ∀ (j i V k : Nat) (f : Int), i + j = n → j + 82 < k → V < 2 ^ (m + 1) → FlOK f → f ≤ 9223372036854775807 →
    ∃ p : Int × Int, spec_l06Shift.l0 k op s f ((n : Nat) : Int) (wrap64 ((V : Nat) : Int)) ((i : Nat) : Int) = some p ∧ impl_shift.l0 (k + 2) op s (wrap64 ((V : Nat) : Int)) f ((n : Nat) : Int) ((i : Nat) : Int) = some p := by
  intro j
  induction j with
  | zero =>
    intro i V k f hi hk hV hf hr
    obtain ⟨k, rfl⟩ : ∃ k', k = k' + 1 := ⟨k - 1, by omega⟩
    have h := stop_both (k := k) (k2 := k + 2) (op := op) (s := s) (f := f) (n := ((n : Nat) : Int)) (W := wrap64 ((V : Nat) : Int)) (i := ((i : Nat) : Int)) (by omega)
    exact ⟨_, h.1, h.2⟩
  | succ j ih =>
    intro i V k f hi hk hV hf hr
    obtain ⟨k, rfl⟩ : ∃ k', k = k' + 1 := ⟨k - 1, by omega⟩
    obtain ⟨V', f', h1, h2, h3, h4, h5⟩ := once_both hs hm hV hop hf hr (k := k) (k2 := k + 2) (by omega) (by omega)
    have e1 := step_spec (n := ((n : Nat) : Int)) (i := ((i : Nat) : Int)) (by omega) h4
    have e2 := step_impl (n := ((n : Nat) : Int)) (i := ((i : Nat) : Int)) (by omega) h5
    have e3 : wrap64 (((i : Nat) : Int) + 1) = ((i + 1 : Nat) : Int) := by rw [w64_in (by omega) (by omega)]; rfl
    rw [e3] at e1 e2
    obtain ⟨p, hp1, hp2⟩ := ih (i + 1) V' k f' (by omega) (by omega) h1 h2 h3
    exact ⟨p, e1.trans hp1, e2.trans hp2⟩
theorem areAsked_impl {s f : Int} (hf : -9223372036854775808 ≤ f ∧ f ≤ 9223372036854775807) : impl_areAsked.f s f = some (decide (Sz s ∧ FlOK f)) := by
  unfold impl_areAsked.f
  rw [size_impl, areFlags_impl hf]
  by_cases h : Sz s <;> simp [h]
theorem both {k : Nat} {a b c d e : Int} {p : Int × Int × Int} (h1 : spec_Shift.f k a b c d e = some p) (h2 : impl_Shift.f k a b c d e = some p) : laws_FnExactShift.f k a b c d e = some true := by
  unfold laws_FnExactShift.f
  rw [h1, h2]
  simp only [Option.bind_some, if_true]
theorem FnExactShift : laws_FnExactShift.Pure := by
  intro op s a b f _ _ ha hb hf
  have ha := wf_i64 ha
  have hb := wf_i64 hb
  have hf := wf_i64 hf
  refine ⟨200, ?_⟩
  by_cases hs : Sz s
  rotate_left
  · refine both (p := (0, 0, 4)) ?_ ?_
    · unfold spec_Shift.f
      rw [size_spec]
      simp [hs, spec_Shift.j0]
    · unfold impl_Shift.f
      rw [areAsked_impl hf]
      simp [hs]
  by_cases hfl : FlOK f
  rotate_left
  · refine both (p := (0, 0, 4)) ?_ ?_
    · unfold spec_Shift.f
      rw [size_spec, flags_spec]
      simp [hs, hfl, spec_Shift.j0]
    · unfold impl_Shift.f
      rw [areAsked_impl hf]
      simp [hfl]
  have hin : ∀ k, spec_Shift.f (k + 1) op s a b f = if 20 ≤ op ∧ op ≤ 24 then (spec_l06Shift.f k op s a b f).bind fun b => some (b.1, b.2, 0) else some (0, 0, 11) := fun k => by
    unfold spec_Shift.f
    rw [size_spec, flags_spec]
    simp only [hs, hfl, decide_true, Option.bind_some, if_true, Bool.not_true, spec_Shift.j0, Bool.false_eq_true, if_false]
    unfold spec_l01In.f
    by_cases h1 : op ≥ 20
    · by_cases h2 : op ≤ 24
      · simp [h1, h2, show (20 : Int) ≤ op from h1]
      · simp [h1, h2]
    · simp [h1, show ¬ (20 : Int) ≤ op from h1]
  have hin2 : impl_isShift.f op = some (decide (20 ≤ op ∧ op ≤ 24)) := by
    unfold impl_isShift.f impl_within.f
    by_cases h1 : op ≥ 20
    · by_cases h2 : op ≤ 24
      · simp [h1, h2, show (20 : Int) ≤ op from h1]
      · simp [h1, h2]
    · simp [h1, show ¬ (20 : Int) ≤ op from h1]
  by_cases hop : 20 ≤ op ∧ op ≤ 24
  rotate_left
  · refine both (p := (0, 0, 11)) ?_ ?_
    · rw [hin, if_neg hop]
    · unfold impl_Shift.f
      rw [areAsked_impl hf, hin2]
      simp [hs, hfl, hop]
  have hop5 : op = 20 ∨ op = 21 ∨ op = 22 ∨ op = 23 ∨ op = 24 := by omega
  obtain ⟨m, hm, h64, hm2⟩ := pow_size hs
  have hcore : ∃ p : Int × Int, spec_l06Shift.f 199 op s a b f = some p ∧ impl_shift.f 200 op s a b f = some p := by
    have hV : un a % 2 ^ (m + 1) < 2 ^ (m + 1) := Nat.mod_lt _ (Nat.two_pow_pos _)
    have hza : zeroZ a s = wrap64 ((un a % 2 ^ (m + 1) : Nat) : Int) := by rw [zeroZ_eq hs ha, hm]
    unfold impl_shift.f spec_l06Shift.f
    rw [zero_impl hs, flag_impl]
    simp only [Option.bind_some, spec_l06Shift.j0, zero_spec hs ha (show 64 < 198 by omega), hza]
    have key : ∀ n : Nat, n ≤ 64 → ∃ p : Int × Int, spec_l06Shift.l0 198 op s f ((n : Nat) : Int) (wrap64 ((un a % 2 ^ (m + 1) : Nat) : Int)) 0 = some p ∧ impl_shift.l0 200 op s (wrap64 ((un a % 2 ^ (m + 1) : Nat) : Int)) f ((n : Nat) : Int) 0 = some p := fun n hn =>
      loops hs hm hop5 n hn n 0 _ 198 f (by omega) (by omega) hV hfl hf.2
    by_cases h8 : s = 8
    · rw [if_pos h8]
      have e1 : wrap64 (Int.tmod (IntKind.u64.wrap b) 64) = ((un b % 64 : Nat) : Int) := by
        rw [IntKind.wrap_u64, ← un_eq, Int.tmod_eq_emod_of_nonneg (by omega), w64_in (by omega) (by omega)]; rfl
      have e2 : Go.bits .and .i64 b (wrap64 (31 + if (s == 8) = true then 32 else 0)) = ((un b % 64 : Nat) : Int) := by
        rw [show wrap64 (31 + if (s == 8) = true then 32 else 0) = 2 ^ 6 - 1 by rw [h8]; decide +kernel, and_mask _ _ (by decide)]
        unfold un; omega
      rw [e1, e2]
      exact key _ (by omega)
    · rw [if_neg h8]
      have e1 : wrap64 (Int.tmod (IntKind.u64.wrap b) 32) = ((un b % 32 : Nat) : Int) := by
        rw [IntKind.wrap_u64, ← un_eq, Int.tmod_eq_emod_of_nonneg (by omega), w64_in (by omega) (by omega)]; rfl
      have e2 : Go.bits .and .i64 b (wrap64 (31 + if (s == 8) = true then 32 else 0)) = ((un b % 32 : Nat) : Int) := by
        rw [show wrap64 (31 + if (s == 8) = true then 32 else 0) = 2 ^ 5 - 1 by simp [h8]; decide +kernel, and_mask _ _ (by decide)]
        unfold un; omega
      rw [e1, e2]
      exact key _ (by omega)
  obtain ⟨p, hp1, hp2⟩ := hcore
  refine both (p := (p.1, p.2, 0)) ?_ ?_
  · rw [hin, if_pos hop, hp1]
    rfl
  · unfold impl_Shift.f
    rw [areAsked_impl hf, hin2, hp2]
    simp [hs, hfl, hop]

end Go.Proofs.Ytdljhgmgpnpfiaa.Pure
