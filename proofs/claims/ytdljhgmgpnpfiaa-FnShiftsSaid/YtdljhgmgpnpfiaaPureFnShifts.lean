/- The shift law's numbers. -/
import Derived.Test.YtdljhgmgpnpfiaaPFnShiftsx5
import Derived.Test.YtdljhgmgpnpfiaaNumF
namespace Go.Proofs.Ytdljhgmgpnpfiaa.Pure
open Go.RowKit Go.Proofs.Ytdljhgmgpnpfiaa.PFnShifts Go.Proofs.YtdljhgmgpnpfiaaW.PrintWords Go.Proofs.YtdljhgmgpnpfiaaW.PrintLast Go.Proofs.YtdljhgmgpnpfiaaW.PrintMore Go.Proofs.Ytdljhgmgpnpfiaa.Num
set_option linter.unusedVariables false
set_option linter.unusedSimpArgs false

theorem size_spec (s : Int) : spec_l01Size.f s = some (decide (Sz s)) := by
  unfold spec_l01Size.f Sz
  by_cases h1 : s = 1 <;> by_cases h2 : s = 2 <;> by_cases h4 : s = 4 <;> by_cases h8 : s = 8 <;> simp_all
theorem size_impl (s : Int) : impl_isSize.f s = some (decide (Sz s)) := size_spec s
theorem bit_spec (a i : Int) (h0 : 0 ≤ i) (h1 : i < 64) : spec_l01Bit.f a i = some (bit a i) := by
  unfold spec_l01Bit.f
  have hi : IntKind.u64.wrap i = i := u64_in h0 (by omega)
  have ha : IntKind.u64.wrap a = (un a : Int) := by rw [IntKind.wrap_u64, un_eq]
  rw [hi, if_pos h0, ha, shr_u64 _ _ (by omega) h0 h1, Int.toNat_natCast]
  unfold bit
  have e : Int.tmod ((un a / 2 ^ i.toNat : Nat) : Int) 2 = ((un a / 2 ^ i.toNat % 2 : Nat) : Int) := by
    rw [Int.tmod_eq_emod_of_nonneg (Int.natCast_nonneg _)]; rfl
  rw [e]
  rcases Nat.mod_two_eq_zero_or_one (un a / 2 ^ i.toNat) with h | h <;> rw [h] <;> simp
theorem zero_loop (a : Int) (n : Nat) (hn : n ≤ 64) : ∀ (j k : Nat), j ≤ n → j < k →
    spec_l01Zero.l0 k a ((un a % 2 ^ n / 2 ^ j : Nat) : Int) ((j : Int) - 1) = some (wrap64 ((un a % 2 ^ n : Nat) : Int))
  | j, 0, _, hk => by omega
  | 0, k + 1, _, _ => by
    simp only [spec_l01Zero.l0]
    rw [if_neg (by omega)]
    simp
  | j + 1, k + 1, hj, hk => by
    simp only [spec_l01Zero.l0]
    rw [if_pos (by omega), show ((j + 1 : Nat) : Int) - 1 = (j : Int) by omega, bit_spec _ _ (by omega) (by omega)]
    simp only [Option.bind_some]
    have hl := un_lt' a
    have h2 : un a % 2 ^ n ≤ un a := Nat.mod_le _ _
    have h3 := half_step (un a % 2 ^ n) j
    have h4 := mod_bit (un a) n j (by omega)
    have h5 : un a % 2 ^ n / 2 ^ j ≤ un a % 2 ^ n := Nat.div_le_self _ _
    have e : IntKind.u64.wrap (IntKind.u64.wrap (2 * ((un a % 2 ^ n / 2 ^ (j + 1) : Nat) : Int)) + IntKind.u64.wrap (bit a (j : Int))) = ((un a % 2 ^ n / 2 ^ j : Nat) : Int) := by
      unfold bit
      rw [Int.toNat_natCast, ← h4]
      rw [u64_in (n := 2 * _) (by omega) (by omega), u64_in (n := ((un a % 2 ^ n / 2 ^ j % 2 : Nat) : Int)) (by omega) (by omega), u64_in (by omega) (by omega)]
      omega
    rw [e, show wrap64 ((j : Int) - 1) = (j : Int) - 1 from w64_in (by omega) (by omega)]
    exact zero_loop a n hn j k (by omega) (by omega)
theorem zero_spec {k : Nat} {a s : Int} (hs : Sz s) (ha : -9223372036854775808 ≤ a ∧ a ≤ 9223372036854775807) (hk : 64 < k) : spec_l01Zero.f k a s = some (zeroZ a s) := by
  unfold spec_l01Zero.f
  have h8 : 0 ≤ 8 * s ∧ 8 * s ≤ 64 := by rcases hs with rfl | rfl | rfl | rfl <;> omega
  rw [w64_in (n := 8 * s) (by omega) (by omega), w64_in (by omega) (by omega), ← zeroZ_un hs ha]
  have h := zero_loop a (8 * s).toNat (by omega) (8 * s).toNat k (by omega) (by omega)
  rw [show un a % 2 ^ (8 * s).toNat / 2 ^ (8 * s).toNat = 0 from Nat.div_eq_of_lt (Nat.mod_lt _ (Nat.two_pow_pos _)), show (((8 * s).toNat : Nat) : Int) = 8 * s by omega] at h
  exact h
theorem zero_impl {a s : Int} (hs : Sz s) : impl_zero.f a s = some (zeroZ a s) := by
  unfold impl_zero.f
  rcases hs with rfl | rfl | rfl | rfl
  · rw [if_neg (by omega), if_pos (by unfold wrap64; omega), show wrap64 (shl .i64 1 (wrap64 (8 * 1)) - 1) = 2 ^ 8 - 1 by decide +kernel, and_mask _ _ (by decide)]; rfl
  · rw [if_neg (by omega), if_pos (by unfold wrap64; omega), show wrap64 (shl .i64 1 (wrap64 (8 * 2)) - 1) = 2 ^ 16 - 1 by decide +kernel, and_mask _ _ (by decide)]; rfl
  · rw [if_neg (by omega), if_pos (by unfold wrap64; omega), show wrap64 (shl .i64 1 (wrap64 (8 * 4)) - 1) = 2 ^ 32 - 1 by decide +kernel, and_mask _ _ (by decide)]; rfl
  · rw [if_pos rfl]; rfl
/-- How many of the lowest i bits of v are on. -/
def ones (v : Int) : Nat → Int
  | 0 => 0
  | i + 1 => ones v i + bit v i
theorem ones_range (v : Int) : ∀ i : Nat, 0 ≤ ones v i ∧ ones v i ≤ i
  | 0 => by simp [ones]
  | i + 1 => by
    have := ones_range v i
    have := bit_or v i
    simp only [ones]
    omega
/-- The flags of sign, nought and parity. -/
def szp (s v : Int) : Int :=
  Go.bits .or .i64 (Go.bits .or .i64 (if bit v (8 * s - 1) = 1 then 128 else 0) (if zeroZ v s = 0 then 64 else 0)) (if ones v 8 % 2 = 0 then 4 else 0)
theorem szp_loop {s v : Int} (hs : Sz s) (hv : -9223372036854775808 ≤ v ∧ v ≤ 9223372036854775807) : ∀ (j k i : Nat), i + j = 8 → j + 65 < k →
    spec_l06Szp.l0 k s v (ones v i) (i : Int) = some (szp s v)
  | j, 0, i, _, hk => by omega
  | 0, k + 1, i, hj, hk => by
    simp only [spec_l06Szp.l0]
    obtain rfl : i = 8 := by omega
    have h8 : 8 ≤ 8 * s ∧ 8 * s ≤ 64 := by rcases hs with rfl | rfl | rfl | rfl <;> omega
    rw [if_neg (by omega), w64_in (n := 8 * s) (by omega) (by omega), w64_in (n := 8 * s - 1) (by omega) (by omega), bit_spec _ _ (by omega) (by omega), zero_spec hs hv (by omega)]
    have ho := ones_range v 8
    rw [Int.tmod_eq_emod_of_nonneg ho.1]
    unfold spec_l06If.f szp
    simp only [Option.bind_some, beq_iff_eq]
    by_cases a : bit v (8 * s - 1) = 1 <;> by_cases b : zeroZ v s = 0 <;> by_cases c : ones v 8 % 2 = 0 <;> simp [a, b, c]
  | j + 1, k + 1, i, hj, hk => by
    simp only [spec_l06Szp.l0]
    have h1 := ones_range v i
    have h2 := bit_or v i
    rw [if_pos (by omega), bit_spec _ _ (by omega) (by omega)]
    simp only [Option.bind_some]
    rw [w64_in (n := ones v i + bit v i) (by omega) (by omega), w64_in (by omega) (by omega)]
    have h := szp_loop hs hv j k (i + 1) (by omega) (by omega)
    simpa only [ones, Int.natCast_add, Int.natCast_one] using h
theorem szp_spec {k : Nat} {s v : Int} (hs : Sz s) (hv : -9223372036854775808 ≤ v ∧ v ≤ 9223372036854775807) (hk : 73 < k) : spec_l06Szp.f k s v = some (szp s v) := by
  unfold spec_l06Szp.f
  exact szp_loop hs hv 8 k 0 rfl (by omega)
theorem ones_mod (v : Int) : ones v 8 = ones (v % 256) 8 := by
  simp only [ones, bit, un]
  have e : ∀ i : Nat, i < 8 → (v % 18446744073709551616).toNat / 2 ^ i % 2 = (v % 256 % 18446744073709551616).toNat / 2 ^ i % 2 := by
    intro i hi
    have h1 := mod_bit (v % 18446744073709551616).toNat 8 i hi
    have h2 : (v % 256 % 18446744073709551616).toNat = (v % 18446744073709551616).toNat % 2 ^ 8 := by omega
    rw [h2, h1]
  simp only [Int.toNat_natCast]
  rw [e 0 (by omega), e 1 (by omega), e 2 (by omega), e 3 (by omega), e 4 (by omega), e 5 (by omega), e 6 (by omega), e 7 (by omega)]
theorem ones_table : ∀ i : Fin 256, bits_OnesCount8.f (i.val : Int) = some (ones (i.val : Int) 8) := by decide +kernel
theorem ones_impl (v : Int) : bits_OnesCount8.f (v % 256) = some (ones v 8) := by
  have h := ones_table ⟨(v % 256).toNat, by omega⟩
  simp only at h
  rwa [show (((v % 256).toNat : Nat) : Int) = v % 256 by omega, ← ones_mod] at h
/-- The highest bit. -/
theorem top_impl {s v : Int} (hs : Sz s) (hv : -9223372036854775808 ≤ v ∧ v ≤ 9223372036854775807) : impl_top.f v s = some (bit v (8 * s - 1) == 1) := by
  unfold impl_top.f
  have h8 : 8 ≤ 8 * s ∧ 8 * s ≤ 64 := by rcases hs with rfl | rfl | rfl | rfl <;> omega
  rw [w64_in (n := 8 * s) (by omega) (by omega), w64_in (n := 8 * s - 1) (by omega) (by omega), if_pos (by omega)]
  have e : Go.bits .and .i64 (shr .i64 v (8 * s - 1)) 1 = bit v (8 * s - 1) := by
    rw [show (1 : Int) = 2 ^ 1 - 1 from rfl, and_mask _ 1 (by decide)]
    unfold shr bit un
    rcases hs with rfl | rfl | rfl | rfl <;> simp [IntKind.bits] <;> omega
  rw [e]
theorem flags_impl {s v : Int} (hs : Sz s) (hv : -9223372036854775808 ≤ v ∧ v ≤ 9223372036854775807) : impl_flagsOf.f s v = some (szp s v) := by
  unfold impl_flagsOf.f
  have ho := ones_range v 8
  rw [top_impl hs hv, zero_impl hs, ones_impl]
  simp only [Option.bind_some]
  rw [Int.tmod_eq_emod_of_nonneg ho.1]
  unfold impl_flag.f szp
  simp only [beq_iff_eq]
  by_cases a : bit v (8 * s - 1) = 1 <;> by_cases b : zeroZ v s = 0 <;> by_cases c : ones v 8 % 2 = 0 <;> simp [a, b, c]
theorem and_self_le {a : Int} (h0 : 0 ≤ a) (ha : a ≤ 9223372036854775807) (h : Go.bits .and .i64 a 2245 = a) : a ≤ 2245 := by
  have h1 := congrArg un h
  rw [un_and] at h1
  have h2 : un 2245 = 2245 := rfl
  have h3 : un a &&& un 2245 ≤ un 2245 := Nat.and_le_right
  rw [h1, h2] at h3
  unfold un at h3; omega
theorem flags_small : ∀ i : Fin 2246, (Go.bits .and .i64 (i.val : Int) 2245 = (i.val : Int)) → ((i.val : Int) = Go.bits .and .i64 (i.val : Int) 2245) := fun _ h => h.symm
/-- Right flags: of five bits alone. -/
def FlOK (f : Int) : Prop := 0 ≤ f ∧ Go.bits .and .i64 f 2245 = f
instance (f : Int) : Decidable (FlOK f) := by unfold FlOK; infer_instance
theorem flags_spec (f : Int) : spec_l06Flags.f f = some (decide (FlOK f)) := by
  unfold spec_l06Flags.f FlOK
  by_cases h : f ≥ 0
  · have h' : 0 ≤ f := h
    rw [if_pos h]
    simp [h', Bool.beq_eq_decide_eq]
  · have h' : ¬ 0 ≤ f := h
    rw [if_neg h]
    simp [h']
theorem and_not_mask (F M : Nat) (hF : F < 2 ^ 64) (hM : M < 2 ^ 64) : (F &&& (18446744073709551615 - M) = 0) ↔ (F &&& M = F) := by
  have e : ∀ i, (18446744073709551615 - M).testBit i = (decide (i < 64) && !M.testBit i) := by
    intro i
    have h := Nat.testBit_two_pow_sub_succ hM i
    rw [show 2 ^ 64 - (M + 1) = 18446744073709551615 - M by omega] at h
    exact h
  constructor
  · intro h
    apply Nat.eq_of_testBit_eq
    intro i
    rw [Nat.testBit_and]
    have h1 := congrArg (fun n => Nat.testBit n i) h
    simp only [Nat.testBit_and, e, Nat.zero_testBit] at h1
    by_cases hi : i < 64
    · cases hf : F.testBit i <;> cases hm : M.testBit i <;> simp_all
    · rw [Nat.testBit_lt_two_pow (Nat.lt_of_lt_of_le hF (Nat.pow_le_pow_right (by decide) (by omega)))]
      rfl
  · intro h
    apply Nat.eq_of_testBit_eq
    intro i
    rw [Nat.testBit_and, e, Nat.zero_testBit]
    have h1 := congrArg (fun n => Nat.testBit n i) h
    simp only [Nat.testBit_and] at h1
    cases hf : F.testBit i <;> cases hm : M.testBit i <;> simp_all
theorem flagsOK_iff {f : Int} (hf : -9223372036854775808 ≤ f ∧ f ≤ 9223372036854775807) : (Go.bits .andNot .i64 f 2245 = 0) ↔ FlOK f := by
  have hu := un_lt f
  have hM : un 2245 = 2245 := rfl
  have key := and_not_mask (un f) 2245 hu (by decide)
  have e1 : Go.bits .andNot .i64 f 2245 = wrap64 ((un f &&& (18446744073709551615 - 2245) : Nat) : Int) := by rw [andNot_un, hM]
  have hlt : un f &&& (18446744073709551615 - 2245) < 18446744073709551616 := Nat.and_lt_two_pow (n := 64) _ (by decide)
  have l1 : Go.bits .andNot .i64 f 2245 = 0 ↔ un f &&& (18446744073709551615 - 2245) = 0 := by
    rw [e1]
    constructor
    · intro h
      have h2 := congrArg un h
      rw [un_wnat hlt] at h2
      exact h2
    · intro h; rw [h]; exact w64_in (by omega) (by omega)
  have l2 : FlOK f ↔ un f &&& 2245 = un f := by
    constructor
    · rintro ⟨h0, h⟩
      have h2 := congrArg un h
      rw [un_and, hM] at h2
      exact h2
    · intro h
      have h3 : un f &&& 2245 ≤ 2245 := Nat.and_le_right
      rw [h] at h3
      refine ⟨by unfold un at h3; omega, ?_⟩
      rw [and_un, hM, h]
      exact (eq_wrap hf).symm
  rw [l1, l2, key]
theorem areFlags_impl {f : Int} (hf : -9223372036854775808 ≤ f ∧ f ≤ 9223372036854775807) : impl_areFlags.f f = some (decide (FlOK f)) := by
  unfold impl_areFlags.f
  rw [Bool.beq_eq_decide_eq, decide_eq_decide.mpr (flagsOK_iff hf)]
theorem carry_of {f : Int} (hf : FlOK f) : ∃ c : Nat, c ≤ 1 ∧ Go.bits .and .i64 f 1 = (c : Int) := by
  refine ⟨(f % 2).toNat, by omega, ?_⟩
  have h := and_mask f 1 (by decide)
  rw [show ((2 : Int) ^ 1 - 1) = 1 from rfl] at h
  rw [h]
  show f % 2 = _
  omega
/-- The number behind one shift; V has n = m + 1 bits. -/
def sval (op : Int) (m V : Nat) : Nat :=
  if op = 20 then 2 * V % 2 ^ (m + 1) + V / 2 ^ m else if op = 22 then 2 * V % 2 ^ (m + 1) else if op = 21 then V / 2 + 2 ^ m * (V % 2) else if op = 23 then V / 2 else V / 2 + 2 ^ m * (V / 2 ^ m)
/-- What goes out. -/
def sout (op : Int) (m V : Nat) : Nat := if op = 20 ∨ op = 22 then V / 2 ^ m else V % 2
/-- Whether it goes over. -/
def sover (op : Int) (m V : Nat) : Bool :=
  if op = 20 ∨ op = 22 then decide (tb (sval op m V) m ≠ V / 2 ^ m) else if op = 21 then decide (tb (sval op m V) m ≠ tb (sval op m V) (m - 1)) else if op = 23 then decide (V / 2 ^ m = 1) else false
/-- The flags behind one shift. -/
def sflag (op s : Int) (m V : Nat) (f : Int) : Int :=
  Go.bits .or .i64 (Go.bits .or .i64 (if op = 20 ∨ op = 21 then Go.bits .and .i64 f 196 else szp s (wrap64 ((sval op m V : Nat) : Int))) (if sout op m V = 1 then 1 else 0)) (if sover op m V = true then 2048 else 0)
section
variable {op : Int} {m V : Nat}
theorem high_le (hV : V < 2 ^ (m + 1)) : V / 2 ^ m ≤ 1 := by
  have : V / 2 ^ m < 2 := by rw [Nat.div_lt_iff_lt_mul (Nat.two_pow_pos m), Nat.mul_comm, ← Nat.pow_succ]; exact hV
  omega
theorem double_mod (hV : V < 2 ^ (m + 1)) : 2 * V % 2 ^ (m + 1) + 2 ^ (m + 1) * (V / 2 ^ m) = 2 * V := by
  have h1 := Nat.div_add_mod (2 * V) (2 ^ (m + 1))
  have h2 : 2 * V / 2 ^ (m + 1) = V / 2 ^ m := by
    rw [Nat.pow_succ, Nat.mul_comm (2 ^ m) 2, Nat.mul_div_mul_left _ _ (by decide)]
  rw [h2] at h1
  omega
theorem double_even (V m : Nat) : 2 * V % 2 ^ (m + 1) % 2 = 0 := by
  rw [Nat.mod_mod_of_dvd _ ⟨2 ^ m, by rw [Nat.pow_succ, Nat.mul_comm]⟩]; omega
theorem sval_lt (hV : V < 2 ^ (m + 1)) : sval op m V < 2 ^ (m + 1) := by
  have hp := Nat.two_pow_pos m
  have e : 2 ^ (m + 1) = 2 * 2 ^ m := by rw [Nat.pow_succ, Nat.mul_comm]
  have hh := high_le hV
  have hd := double_mod hV
  have hlt : 2 * V % 2 ^ (m + 1) < 2 ^ (m + 1) := Nat.mod_lt _ (Nat.two_pow_pos _)
  have h01 : V / 2 ^ m = 0 ∨ V / 2 ^ m = 1 := by
    generalize V / 2 ^ m = q at *
    omega
  have hV2 : V % 2 = 0 ∨ V % 2 = 1 := by omega
  unfold sval
  split
  · have h2 := double_even V m
    generalize V / 2 ^ m = q at *
    generalize 2 * V % 2 ^ (m + 1) = w at *
    generalize 2 ^ (m + 1) = P at *
    generalize 2 ^ m = R at *
    clear hd
    omega
  · split
    · exact hlt
    · split
      · rcases hV2 with h | h <;> rw [h] <;> omega
      · split
        · omega
        · rcases h01 with h | h <;> rw [h] <;> omega
theorem tb_high (hV : V < 2 ^ (m + 1)) : tb V m = V / 2 ^ m := by
  have := high_le hV
  unfold tb
  generalize V / 2 ^ m = q at *
  omega
theorem tb_low : tb V 0 = V % 2 := by unfold tb; simp
end
theorem flags_table : ∀ i : Fin 2246, Go.bits .and .i64 (i.val : Int) 2245 = (i.val : Int) → Go.bits .andNot .i64 (i.val : Int) 2049 = Go.bits .and .i64 (i.val : Int) 196 ∧ (Go.bits .and .i64 (i.val : Int) 196 = 0 ∨ Go.bits .and .i64 (i.val : Int) 196 = 4 ∨ Go.bits .and .i64 (i.val : Int) 196 = 64 ∨ Go.bits .and .i64 (i.val : Int) 196 = 68 ∨ Go.bits .and .i64 (i.val : Int) 196 = 128 ∨ Go.bits .and .i64 (i.val : Int) 196 = 132 ∨ Go.bits .and .i64 (i.val : Int) 196 = 192 ∨ Go.bits .and .i64 (i.val : Int) 196 = 196) := by decide +kernel
theorem keep_tells {f : Int} (hf : FlOK f) (hr : f ≤ 9223372036854775807) : Go.bits .andNot .i64 f 2049 = Go.bits .and .i64 f 196 ∧ (Go.bits .and .i64 f 196 = 0 ∨ Go.bits .and .i64 f 196 = 4 ∨ Go.bits .and .i64 f 196 = 64 ∨ Go.bits .and .i64 f 196 = 68 ∨ Go.bits .and .i64 f 196 = 128 ∨ Go.bits .and .i64 f 196 = 132 ∨ Go.bits .and .i64 f 196 = 192 ∨ Go.bits .and .i64 f 196 = 196) := by
  have h1 := and_self_le hf.1 hr hf.2
  have h := flags_table ⟨f.toNat, by have := hf.1; omega⟩
  simp only [show ((f.toNat : Nat) : Int) = f by have := hf.1; omega] at h
  exact h hf.2
theorem szp_tells (s v : Int) : Go.bits .andNot .i64 (szp s v) 2049 = szp s v ∧ (szp s v = 0 ∨ szp s v = 4 ∨ szp s v = 64 ∨ szp s v = 68 ∨ szp s v = 128 ∨ szp s v = 132 ∨ szp s v = 192 ∨ szp s v = 196) := by
  unfold szp
  by_cases a : bit v (8 * s - 1) = 1 <;> by_cases b : zeroZ v s = 0 <;> by_cases c : ones v 8 % 2 = 0 <;> simp only [a, b, c, if_true, if_false] <;> decide +kernel
theorem FlOK_made {x y z : Int} (hx : x = 0 ∨ x = 4 ∨ x = 64 ∨ x = 68 ∨ x = 128 ∨ x = 132 ∨ x = 192 ∨ x = 196) (hy : y = 0 ∨ y = 1) (hz : z = 0 ∨ z = 2048) : FlOK (Go.bits .or .i64 (Go.bits .or .i64 x y) z) := by
  rcases hx with rfl | rfl | rfl | rfl | rfl | rfl | rfl | rfl <;> rcases hy with rfl | rfl <;> rcases hz with rfl | rfl <;> decide +kernel
theorem sflag_ok {op s : Int} {m V : Nat} {f : Int} (hf : FlOK f) (hr : f ≤ 9223372036854775807) : FlOK (sflag op s m V f) := by
  unfold sflag
  apply FlOK_made
  · split
    · exact (keep_tells hf hr).2
    · exact (szp_tells _ _).2
  · split <;> simp
  · split <;> simp
theorem zeroZ_wrap {s : Int} (hs : Sz s) {m V : Nat} (hm : (8 * s).toNat = m + 1) (hV : V < 2 ^ (m + 1)) : zeroZ (wrap64 ((V : Nat) : Int)) s = wrap64 ((V : Nat) : Int) ∧ un (wrap64 ((V : Nat) : Int)) = V := by
  obtain ⟨m', hm', h64, _⟩ := pow_size hs
  have hp : 2 ^ (m + 1) ≤ 2 ^ 64 := Nat.pow_le_pow_right (by decide) (by omega)
  have hu : un (wrap64 ((V : Nat) : Int)) = V := un_wnat (by omega)
  refine ⟨?_, hu⟩
  rw [zeroZ_eq hs (w64_range _), hu, hm, Nat.mod_eq_of_lt hV]
theorem or_one {x t : Nat} (hx : x % 2 = 0) (ht : t ≤ 1) : x ||| t = x + t := by
  have h := Nat.two_pow_add_eq_or_of_lt (i := 1) (b := t) (by omega) (x / 2)
  rw [show 2 ^ 1 * (x / 2) = x by omega] at h
  exact h.symm
theorem or_one_w {x t : Nat} (hx : x % 2 = 0) (hl : x < 18446744073709551616) (ht : t ≤ 1) : Go.bits .or .i64 (wrap64 ((x : Nat) : Int)) ((t : Nat) : Int) = wrap64 ((x + t : Nat) : Int) := by
  rw [or_un, un_wnat hl, un_nat (by omega), or_one hx ht]
theorem or_top_w {x t m : Nat} (hx : x < 2 ^ m) (hm : m < 64) (ht : t ≤ 1) : Go.bits .or .i64 (wrap64 ((x : Nat) : Int)) (wrap64 ((2 ^ m * t : Nat) : Int)) = wrap64 ((x + 2 ^ m * t : Nat) : Int) := by
  have hp : 2 ^ m ≤ 2 ^ 63 := Nat.pow_le_pow_right (by decide) (by omega)
  have hp2 : 2 ^ m * t ≤ 2 ^ m * 1 := Nat.mul_le_mul_left _ ht
  rw [or_un, un_wnat (by omega), un_wnat (by omega)]
  have h := Nat.two_pow_add_eq_or_of_lt hx t
  rw [Nat.or_comm, ← h, Nat.add_comm]
theorem u64_w {V : Nat} (hV : V < 18446744073709551616) : IntKind.u64.wrap (wrap64 ((V : Nat) : Int)) = ((V : Nat) : Int) := by
  rw [IntKind.wrap_u64, ← un_eq, un_wnat hV]
theorem half_w {V : Nat} (hV : V < 18446744073709551616) : IntKind.u64.wrap (wrap64 ((V : Nat) : Int)) / 2 = ((V / 2 : Nat) : Int) := by
  rw [u64_w hV]; rfl
theorem bit_w {V i : Nat} (hV : V < 18446744073709551616) : bit (wrap64 ((V : Nat) : Int)) ((i : Nat) : Int) = ((tb V i : Nat) : Int) := by
  rw [bit_tb, un_wnat hV]
theorem un_mod (a : Int) (j : Nat) (hj : j ≤ 64) {b : Int} (h : a % 18446744073709551616 = b % 18446744073709551616) : un a % 2 ^ j = un b % 2 ^ j := by
  unfold un; rw [h]
theorem double_zero {s : Int} (hs : Sz s) {m V : Nat} (hm : (8 * s).toNat = m + 1) {a : Int} (ha : -9223372036854775808 ≤ a ∧ a ≤ 9223372036854775807) (h : a % 18446744073709551616 = ((2 * V : Nat) : Int) % 18446744073709551616) : zeroZ a s = wrap64 ((2 * V % 2 ^ (m + 1) : Nat) : Int) := by
  obtain ⟨m', hm', h64, _⟩ := pow_size hs
  obtain rfl : m' = m := by omega
  rw [zeroZ_eq hs ha, hm, un_mod a (m' + 1) h64 h]
  congr 2
  unfold un
  have e : (((2 * V : Nat) : Int) % 18446744073709551616).toNat = 2 * V % 2 ^ 64 := by omega
  rw [e]
  exact Nat.mod_mod_of_dvd _ (Nat.pow_dvd_pow 2 h64)
theorem if_spec (b : Bool) (n : Int) : spec_l06If.f b n = some (if b = true then n else 0) := by
  unfold spec_l06If.f; cases b <;> rfl
theorem flag_impl (b : Bool) (n : Int) : impl_flag.f b n = some (if b = true then n else 0) := by
  unfold impl_flag.f; cases b <;> rfl
theorem xor_bits {a b : Nat} (ha : a ≤ 1) (hb : b ≤ 1) : (Go.bits .xor .i64 ((a : Nat) : Int) ((b : Nat) : Int) == 1) = decide (a ≠ b) := by
  obtain rfl | rfl : a = 0 ∨ a = 1 := by omega
  · obtain rfl | rfl : b = 0 ∨ b = 1 := by omega
    · decide +kernel
    · decide +kernel
  · obtain rfl | rfl : b = 0 ∨ b = 1 := by omega
    · decide +kernel
    · decide +kernel
theorem u64_bit {q : Nat} (h : q ≤ 1) : IntKind.u64.wrap ((q : Nat) : Int) = ((q : Nat) : Int) := u64_in (by omega) (by omega)
theorem double_u {V : Nat} (hV : V < 18446744073709551616) : wrap64 (IntKind.u64.wrap (IntKind.u64.wrap (wrap64 ((V : Nat) : Int)) * 2)) % 18446744073709551616 = ((2 * V : Nat) : Int) % 18446744073709551616 := by
  rw [u64_w hV, IntKind.wrap_u64]
  generalize e : ((V : Nat) : Int) * 2 = x
  rw [show ((2 * V : Nat) : Int) = x by omega]
  unfold wrap64; omega
theorem double_i (V : Nat) : wrap64 (wrap64 ((V : Nat) : Int) * 2) % 18446744073709551616 = ((2 * V : Nat) : Int) % 18446744073709551616 := by
  unfold wrap64; omega
theorem sval_20 (m V : Nat) : sval 20 m V = 2 * V % 2 ^ (m + 1) + V / 2 ^ m := by unfold sval; rw [if_pos rfl]
theorem sval_22 (m V : Nat) : sval 22 m V = 2 * V % 2 ^ (m + 1) := by unfold sval; rw [if_neg (by decide), if_pos rfl]
theorem sval_21 (m V : Nat) : sval 21 m V = V / 2 + 2 ^ m * (V % 2) := by unfold sval; rw [if_neg (by decide), if_neg (by decide), if_pos rfl]
theorem sval_23 (m V : Nat) : sval 23 m V = V / 2 := by unfold sval; rw [if_neg (by decide), if_neg (by decide), if_neg (by decide), if_pos rfl]
theorem sval_24 (m V : Nat) : sval 24 m V = V / 2 + 2 ^ m * (V / 2 ^ m) := by unfold sval; rw [if_neg (by decide), if_neg (by decide), if_neg (by decide), if_neg (by decide)]
theorem sout_l {op : Int} (h : op = 20 ∨ op = 22) (m V : Nat) : sout op m V = V / 2 ^ m := by unfold sout; rw [if_pos h]
theorem sout_r {op : Int} (h : ¬ (op = 20 ∨ op = 22)) (m V : Nat) : sout op m V = V % 2 := by unfold sout; rw [if_neg h]
theorem sover_l {op : Int} (h : op = 20 ∨ op = 22) (m V : Nat) : sover op m V = decide (tb (sval op m V) m ≠ V / 2 ^ m) := by unfold sover; rw [if_pos h]
theorem sover_21 (m V : Nat) : sover 21 m V = decide (tb (sval 21 m V) m ≠ tb (sval 21 m V) (m - 1)) := by unfold sover; rw [if_neg (by decide), if_pos rfl]
theorem sover_23 (m V : Nat) : sover 23 m V = decide (V / 2 ^ m = 1) := by unfold sover; rw [if_neg (by decide), if_neg (by decide), if_pos rfl]
theorem sover_24 (m V : Nat) : sover 24 m V = false := by unfold sover; rw [if_neg (by decide), if_neg (by decide), if_neg (by decide)]
/-- The flags out of what goes out and over. -/
def mkfl (op s W f : Int) (o x : Bool) : Int := Go.bits .or .i64 (Go.bits .or .i64 (if op = 20 ∨ op = 21 then Go.bits .and .i64 f 196 else szp s W) (if o = true then 1 else 0)) (if x = true then 2048 else 0)
theorem sflag_mk (op s : Int) (m V : Nat) (f : Int) : sflag op s m V f = mkfl op s (wrap64 ((sval op m V : Nat) : Int)) f (decide (sout op m V = 1)) (sover op m V) := by
  unfold sflag mkfl
  simp only [decide_eq_true_eq]
theorem shr_low {s : Int} (hs : Sz s) {m W : Nat} (hm : (8 * s).toNat = m + 1) (hW : W < 18446744073709551616) : (Go.bits .and .i64 (shr .i64 (wrap64 ((W : Nat) : Int)) ((m - 1 : Nat) : Int)) 1 == 1) = decide (tb W (m - 1) = 1) := by
  have h := and_mask (shr .i64 (wrap64 ((W : Nat) : Int)) ((m - 1 : Nat) : Int)) 1 (by decide)
  rw [show ((2 : Int) ^ 1 - 1) = 1 from rfl] at h
  rw [h]
  have h2 := bit_w (V := W) (i := m - 1) hW
  have e : shr .i64 (wrap64 ((W : Nat) : Int)) ((m - 1 : Nat) : Int) % 2 ^ 1 = bit (wrap64 ((W : Nat) : Int)) ((m - 1 : Nat) : Int) := by
    have hm1 : m = 7 ∨ m = 15 ∨ m = 31 ∨ m = 63 := by
      rcases hs with rfl | rfl | rfl | rfl
      · left; omega
      · right; left; omega
      · right; right; left; omega
      · right; right; right; omega
    generalize wrap64 ((W : Nat) : Int) = w at *
    clear h h2
    unfold shr bit un
    rcases hm1 with rfl | rfl | rfl | rfl <;> simp [IntKind.bits] <;> omega
  rw [e, h2, beq_one]
theorem pick_one {t : Nat} (ht : t ≤ 1) : (if decide (t = 1) = true then (1 : Int) else 0) = ((t : Nat) : Int) := by
  obtain rfl | rfl : t = 0 ∨ t = 1 := by omega
  · rfl
  · rfl
theorem pick_top {t m : Nat} (ht : t ≤ 1) : (if decide (t = 1) = true then wrap64 ((2 ^ m : Nat) : Int) else 0) = wrap64 ((2 ^ m * t : Nat) : Int) := by
  obtain rfl | rfl : t = 0 ∨ t = 1 := by omega
  · rw [if_neg (by decide), Nat.mul_zero]; exact (w64_in (by omega) (by omega)).symm
  · rw [if_pos (by decide), Nat.mul_one]
theorem bne_bits {a b : Nat} (ha : a ≤ 1) (hb : b ≤ 1) : (decide (a = 1) != decide (b = 1)) = decide (a ≠ b) := by
  obtain rfl | rfl : a = 0 ∨ a = 1 := by omega
  · obtain rfl | rfl : b = 0 ∨ b = 1 := by omega
    · decide
    · decide
  · obtain rfl | rfl : b = 0 ∨ b = 1 := by omega
    · decide
    · decide
theorem shl_one {m : Nat} (hm : m < 64) : shl .i64 1 ((m : Nat) : Int) = wrap64 ((2 ^ m : Nat) : Int) := by
  unfold shl
  rw [i64_wrap, show min ((m : Nat) : Int).toNat IntKind.i64.bits = m by simp [IntKind.bits]; omega]
  congr 1
  rw [Int.natCast_pow]; simp
theorem div_u64 {V m : Nat} (hV : V < 2 ^ (m + 1)) : IntKind.u64.wrap ((V / 2 ^ m : Nat) : Int) = ((V / 2 ^ m : Nat) : Int) := u64_bit (high_le hV)
theorem once_end {op s f W : Int} (hs : Sz s) (hW : -9223372036854775808 ≤ W ∧ W ≤ 9223372036854775807) {o : Nat} {x : Int} {k : Nat} (hk : 73 < k) :
    spec_l06Once.j0 (k + 2) op s f W ((o : Nat) : Int) x = some (W, mkfl op s W f (decide (o = 1)) (x == 1)) := by
  unfold mkfl
  simp only [spec_l06Once.j0, spec_l06Once.j1, if_spec, szp_spec hs hW hk, Option.bind_some, beq_one]
  by_cases h1 : op = 20
  · subst h1; simp
  · by_cases h2 : op = 21
    · subst h2; simp
    · simp [h1, h2]
theorem sval_w {s : Int} (hs : Sz s) {op : Int} {m V : Nat} (hm : (8 * s).toNat = m + 1) (hV : V < 2 ^ (m + 1)) : sval op m V < 18446744073709551616 := by
  obtain ⟨m', hm', h64, _⟩ := pow_size hs
  have hp : 2 ^ (m + 1) ≤ 2 ^ 64 := Nat.pow_le_pow_right (by decide) (by omega)
  have := sval_lt (op := op) hV
  omega
theorem once_spec {op s f : Int} (hs : Sz s) {m V : Nat} (hm : (8 * s).toNat = m + 1) (hV : V < 2 ^ (m + 1)) (hop : op = 20 ∨ op = 21 ∨ op = 22 ∨ op = 23 ∨ op = 24) {k : Nat} (hk : 80 < k) :
    spec_l06Once.f k op s (wrap64 ((V : Nat) : Int)) f = some (wrap64 ((sval op m V : Nat) : Int), sflag op s m V f) := by
  obtain ⟨m', hm', h64, hm2⟩ := pow_size hs
  obtain rfl : m' = m := by omega
  have hm8 : 8 ≤ m' + 1 := by rw [← hm]; rcases hs with rfl | rfl | rfl | rfl <;> decide
  have hp : 2 ^ (m' + 1) ≤ 2 ^ 64 := Nat.pow_le_pow_right (by decide) h64
  obtain ⟨hz, hu⟩ := zeroZ_wrap hs hm hV
  have hVl : V < 18446744073709551616 := by omega
  have hl2 : V % 2 ≤ 1 := by omega
  have hh := high_le hV
  have hsw : ∀ op, sval op m' V < 18446744073709551616 := fun op => sval_w hs hm hV
  have hpe : 2 ^ (m' + 1) = 2 * 2 ^ m' := by rw [Nat.pow_succ, Nat.mul_comm]
  have e81 : wrap64 (wrap64 (8 * s) - 1) = ((m' : Nat) : Int) := by
    rw [w64_in (n := 8 * s) (by omega) (by omega), hm2, w64_in (by omega) (by omega)]
  have e82 : wrap64 (((m' : Nat) : Int) - 1) = ((m' - 1 : Nat) : Int) := by
    rw [w64_in (by omega) (by omega)]; omega
  have hb1 : spec_l01Bit.f (wrap64 ((V : Nat) : Int)) ((m' : Nat) : Int) = some ((V / 2 ^ m' : Nat) : Int) := by
    rw [bit_spec _ _ (by omega) (by omega), bit_w hVl, tb_high hV]
  have hb0 : spec_l01Bit.f (wrap64 ((V : Nat) : Int)) 0 = some ((V % 2 : Nat) : Int) := by
    rw [bit_spec _ _ (by omega) (by omega), show (0 : Int) = ((0 : Nat) : Int) from rfl, bit_w hVl, tb_low]
  have hdz : spec_l01Zero.f k (wrap64 (IntKind.u64.wrap (IntKind.u64.wrap (wrap64 ((V : Nat) : Int)) * 2))) s = some (wrap64 ((2 * V % 2 ^ (m' + 1) : Nat) : Int)) := by
    rw [zero_spec hs (w64_range _) (by omega), double_zero hs hm (w64_range _)]
    exact double_u hVl
  have hzz : spec_l01Zero.f k (wrap64 ((V : Nat) : Int)) s = some (wrap64 ((V : Nat) : Int)) := by
    rw [zero_spec hs (w64_range _) (by omega), hz]
  have hum : IntKind.u64.wrap ((m' : Nat) : Int) = ((m' : Nat) : Int) := u64_in (by omega) (by omega)
  have hu0 : IntKind.u64.wrap ((V % 2 : Nat) : Int) = ((V % 2 : Nat) : Int) := u64_bit hl2
  have hu1 : IntKind.u64.wrap ((V / 2 ^ m' : Nat) : Int) = ((V / 2 ^ m' : Nat) : Int) := div_u64 hV
  have hdl : 2 * V % 2 ^ (m' + 1) < 18446744073709551616 := by have := Nat.mod_lt (2 * V) (Nat.two_pow_pos (m' + 1)); omega
  have hhalf : V / 2 < 2 ^ m' := by omega
  unfold spec_l06Once.f
  have hbt : ∀ op, spec_l01Bit.f (wrap64 ((sval op m' V : Nat) : Int)) ((m' : Nat) : Int) = some ((tb (sval op m' V) m' : Nat) : Int) := fun op => by
    rw [bit_spec _ _ (by omega) (by omega), bit_w (hsw op)]
  have hbt1 : ∀ op, spec_l01Bit.f (wrap64 ((sval op m' V : Nat) : Int)) ((m' - 1 : Nat) : Int) = some ((tb (sval op m' V) (m' - 1) : Nat) : Int) := fun op => by
    rw [bit_spec _ _ (by omega) (by omega), bit_w (hsw op)]
  obtain ⟨k', rfl⟩ : ∃ k', k = k' + 2 := ⟨k - 2, by omega⟩
  rw [sflag_mk]
  rw [e81, hb1, Option.bind_some, hb0, Option.bind_some]
  have b1 : ∀ (x : Nat) (g : Int → Option (Int × Int)), (some ((x : Nat) : Int)).bind g = g ((x : Nat) : Int) := fun _ _ => rfl
  have o1 := or_bit hhalf hl2 (by omega : m' < 64)
  have o2 := or_bit hhalf hh (by omega : m' < 64)
  have o3 := or_one_w (double_even V m') hdl hh
  have hh2 := half_w hVl
  rcases hop with rfl | rfl | rfl | rfl | rfl
  · have h1 := hbt 20
    rw [sval_20] at h1
    rw [if_pos rfl, hdz, Option.bind_some, o3, h1, Option.bind_some, once_end hs (w64_range _) (by omega), xor_bits (tb_le _ _) hh, sout_l (.inl rfl), sover_l (.inl rfl), sval_20]
  · have h1 := hbt 21
    have h2 := hbt1 21
    rw [sval_21] at h1 h2
    rw [if_neg (by decide), if_neg (by decide), if_pos rfl, hzz, Option.bind_some, hum, hu0, hh2, o1, if_pos (by omega), h1, Option.bind_some, e82, h2, Option.bind_some, once_end hs (w64_range _) (by omega), xor_bits (tb_le _ _) (tb_le _ _), sout_r (by decide), sover_21, sval_21]
  · have h1 := hbt 22
    rw [sval_22] at h1
    rw [if_neg (by decide), if_pos rfl, hdz, Option.bind_some, h1, Option.bind_some, once_end hs (w64_range _) (by omega), xor_bits (tb_le _ _) hh, sout_l (.inr rfl), sover_l (.inr rfl), sval_22]
  · rw [if_neg (by decide), if_neg (by decide), if_neg (by decide), if_pos rfl, hzz, Option.bind_some, hh2, once_end hs (w64_range _) (by omega), beq_one, sout_r (by decide), sover_23, sval_23]
  · rw [if_neg (by decide), if_neg (by decide), if_neg (by decide), if_neg (by decide), hzz, Option.bind_some, hum, hu1, hh2, o2, if_pos (by omega), once_end hs (w64_range _) (by omega), sout_r (by decide), sover_24, sval_24, show ((0 : Int) == 1) = false from rfl]
theorem once_end_impl {op s f W : Int} (hs : Sz s) (hW : -9223372036854775808 ≤ W ∧ W ≤ 9223372036854775807) (hop : op = 20 ∨ op = 21 ∨ op = 22 ∨ op = 23 ∨ op = 24) (hf : FlOK f) (hr : f ≤ 9223372036854775807) {o x : Bool} {k : Nat} :
    impl_shiftOnce.j1 (k + 2) op s f W o x = some (W, mkfl op s W f o x) := by
  unfold mkfl
  simp only [impl_shiftOnce.j1, impl_shiftOnce.j2, flag_impl, flags_impl hs hW, Option.bind_some, (szp_tells s W).1, (keep_tells hf hr).1]
  rcases hop with rfl | rfl | rfl | rfl | rfl <;> simp
theorem low_and {V : Nat} (hV : V < 18446744073709551616) : (Go.bits .and .i64 (wrap64 ((V : Nat) : Int)) 1 == 1) = decide (V % 2 = 1) := by
  have h := and_mask (wrap64 ((V : Nat) : Int)) 1 (by decide)
  rw [show ((2 : Int) ^ 1 - 1) = 1 from rfl] at h
  rw [h, show wrap64 ((V : Nat) : Int) % 2 ^ 1 = ((V % 2 : Nat) : Int) by unfold wrap64; omega, beq_one]
theorem once_impl {op s f : Int} (hs : Sz s) {m V : Nat} (hm : (8 * s).toNat = m + 1) (hV : V < 2 ^ (m + 1)) (hop : op = 20 ∨ op = 21 ∨ op = 22 ∨ op = 23 ∨ op = 24) (hf : FlOK f) (hr : f ≤ 9223372036854775807) {k : Nat} (hk : 3 ≤ k) :
    impl_shiftOnce.f k op s (wrap64 ((V : Nat) : Int)) f = some (wrap64 ((sval op m V : Nat) : Int), sflag op s m V f) := by
  obtain ⟨m', hm', h64, hm2⟩ := pow_size hs
  obtain rfl : m' = m := by omega
  have hm8 : 8 ≤ m' + 1 := by rw [← hm]; rcases hs with rfl | rfl | rfl | rfl <;> decide
  have hp : 2 ^ (m' + 1) ≤ 2 ^ 64 := Nat.pow_le_pow_right (by decide) h64
  obtain ⟨hz, hu⟩ := zeroZ_wrap hs hm hV
  have hVl : V < 18446744073709551616 := by omega
  have hl2 : V % 2 ≤ 1 := by omega
  have hh := high_le hV
  have hsw : ∀ op, sval op m' V < 18446744073709551616 := fun op => sval_w hs hm hV
  have hpe : 2 ^ (m' + 1) = 2 * 2 ^ m' := by rw [Nat.pow_succ, Nat.mul_comm]
  have e81 : wrap64 (wrap64 (8 * s) - 1) = ((m' : Nat) : Int) := by
    rw [w64_in (n := 8 * s) (by omega) (by omega), hm2, w64_in (by omega) (by omega)]
  have e82 : wrap64 (wrap64 (8 * s) - 2) = ((m' - 1 : Nat) : Int) := by
    rw [w64_in (n := 8 * s) (by omega) (by omega), w64_in (by omega) (by omega)]; omega
  have htop : ∀ W : Nat, W < 18446744073709551616 → impl_top.f (wrap64 ((W : Nat) : Int)) s = some (decide (tb W m' = 1)) := fun W hW => by
    rw [top_impl hs (w64_range _), hm2, bit_w hW, beq_one]
  have htV := htop V hVl
  rw [tb_high hV] at htV
  have hdz : impl_zero.f (wrap64 (wrap64 ((V : Nat) : Int) * 2)) s = some (wrap64 ((2 * V % 2 ^ (m' + 1) : Nat) : Int)) := by
    rw [zero_impl hs, double_zero hs hm (w64_range _)]
    exact double_i V
  have hshl : shl .i64 1 ((m' : Nat) : Int) = wrap64 ((2 ^ m' : Nat) : Int) := shl_one (by omega)
  have hdl : 2 * V % 2 ^ (m' + 1) < 18446744073709551616 := by have := Nat.mod_lt (2 * V) (Nat.two_pow_pos (m' + 1)); omega
  have hhalf : V / 2 < 2 ^ m' := by omega
  have hf1 : ∀ t : Nat, t ≤ 1 → (if decide (t = 1) = true then (1 : Int) else 0) = ((t : Nat) : Int) := fun t ht => pick_one ht
  have hf2 : ∀ t : Nat, t ≤ 1 → (if decide (t = 1) = true then wrap64 ((2 ^ m' : Nat) : Int) else 0) = wrap64 ((2 ^ m' * t : Nat) : Int) := fun t ht => pick_top ht
  have hbn : ∀ a b : Nat, a ≤ 1 → b ≤ 1 → (decide (a = 1) != decide (b = 1)) = decide (a ≠ b) := fun a b ha hb => bne_bits ha hb
  have hshr : ∀ W : Nat, W < 18446744073709551616 → (Go.bits .and .i64 (shr .i64 (wrap64 ((W : Nat) : Int)) ((m' - 1 : Nat) : Int)) 1 == 1) = decide (tb W (m' - 1) = 1) := fun W hW => shr_low hs hm hW
  obtain ⟨k', rfl⟩ : ∃ k', k = k' + 2 + 1 := ⟨k - 3, by omega⟩
  rw [sflag_mk]
  unfold impl_shiftOnce.f
  have z1 := low_and hVl
  have o1 := or_top_w hhalf (by omega : m' < 64) hl2
  have o2 := or_top_w hhalf (by omega : m' < 64) hh
  have o3 := or_one_w (double_even V m') hdl hh
  have hh2 := half_w hVl
  have g1 := hf1 _ hh
  have g2 := hf2 _ hh
  have g3 := hf2 _ hl2
  rw [htV, Option.bind_some, e81, if_pos (by omega), z1, hshl]
  rcases hop with rfl | rfl | rfl | rfl | rfl
  · have h1 := htop _ (hsw 20)
    rw [sval_20] at h1
    rw [if_neg (by decide), show ((20 : Int) == 20) = true from rfl, impl_shiftOnce.j0, if_pos rfl, hdz, Option.bind_some, if_pos rfl, flag_impl, Option.bind_some, g1, o3, h1, Option.bind_some, once_end_impl hs (w64_range _) (by decide) hf hr, hbn _ _ (tb_le _ _) hh, sout_l (.inl rfl), sover_l (.inl rfl), sval_20]
  · have h1 := htop _ (hsw 21)
    have h2 := hshr _ (hsw 21)
    rw [sval_21] at h1 h2
    rw [if_neg (by decide), show ((21 : Int) == 20) = false from rfl, impl_shiftOnce.j0, if_neg (by decide), if_neg (by decide), if_neg (by decide), flag_impl, Option.bind_some, g3, hh2, o1, h1, Option.bind_some, e82, if_pos (by omega), h2, once_end_impl hs (w64_range _) (by decide) hf hr, hbn _ _ (tb_le _ _) (tb_le _ _), sout_r (by decide), sover_21, sval_21]
  · have h1 := htop _ (hsw 22)
    rw [sval_22] at h1
    rw [if_pos rfl, show ((22 : Int) == 22) = true from rfl, impl_shiftOnce.j0, if_pos rfl, hdz, Option.bind_some, if_neg (by decide), h1, Option.bind_some, once_end_impl hs (w64_range _) (by decide) hf hr, hbn _ _ (tb_le _ _) hh, sout_l (.inr rfl), sover_l (.inr rfl), sval_22]
  · rw [if_neg (by decide), show ((23 : Int) == 20) = false from rfl, impl_shiftOnce.j0, if_neg (by decide), if_pos rfl, hh2, once_end_impl hs (w64_range _) (by decide) hf hr, sout_r (by decide), sover_23, sval_23]
  · rw [if_neg (by decide), show ((24 : Int) == 20) = false from rfl, impl_shiftOnce.j0, if_neg (by decide), if_neg (by decide), if_pos rfl, flag_impl, Option.bind_some, g2, hh2, o2, once_end_impl hs (w64_range _) (by decide) hf hr, sout_r (by decide), sover_24, sval_24]
theorem sflag_range (op s : Int) (m V : Nat) (f : Int) : sflag op s m V f ≤ 9223372036854775807 := by
  unfold sflag; exact (and_range _ _ _).2
theorem rd_byte {l : List Int} (hl : ∀ x ∈ l, (Lit.int .u8 x).wf = true) (i : Int) : 0 ≤ rd l i ∧ rd l i ≤ 255 := by
  unfold rd
  rw [List.getD_eq_getElem?_getD]
  cases h : l[i.toNat]? with
  | none => simp
  | some x =>
    have h2 := hl x (List.mem_of_getElem? h)
    simp [Lit.wf, IntKind.min, IntKind.max, IntKind.bits, IntKind.signed] at h2
    simp only [Option.getD_some]
    omega
theorem tmod_pos {a : Int} (b : Int) (h : 0 ≤ a) : Int.tmod a b = a % b := Int.tmod_eq_emod_of_nonneg h
theorem src_one (q r : Int) (h0 : 0 ≤ q) (h1 : q < 2147483648) (r0 : 0 ≤ r) (r1 : r ≤ 255) : 0 ≤ Int.tmod (wrap64 (wrap64 (wrap64 (q * 31) + r) + 7)) 2147483648 ∧ Int.tmod (wrap64 (wrap64 (wrap64 (q * 31) + r) + 7)) 2147483648 < 2147483648 := by
  rw [w64_in (n := q * 31) (by omega) (by omega), w64_in (n := q * 31 + r) (by omega) (by omega), w64_in (by omega) (by omega), tmod_pos _ (by omega)]
  omega
theorem src_two (q : Int) (h0 : 0 ≤ q) (h1 : q < 2147483648) : 0 ≤ Int.tmod (wrap64 (wrap64 (q * 1103515245) + 12345)) 2147483648 ∧ Int.tmod (wrap64 (wrap64 (q * 1103515245) + 12345)) 2147483648 < 2147483648 := by
  rw [w64_in (n := q * 1103515245) (by omega) (by omega), w64_in (by omega) (by omega), tmod_pos _ (by omega)]
  omega
theorem src_three (q : Int) (h0 : 0 ≤ q) (h1 : q < 2147483648) : 0 ≤ Int.tmod (wrap64 (Int.tdiv q 65536)) 256 ∧ Int.tmod (wrap64 (Int.tdiv q 65536)) 256 ≤ 255 := by
  rw [Int.tdiv_eq_ediv_of_nonneg h0, w64_in (by omega) (by omega), tmod_pos _ (by omega)]
  omega
theorem byte_tells {l : List Int} (hl : ∀ x ∈ l, (Lit.int .u8 x).wf = true) {p q : Int} (p0 : 0 ≤ p) (p1 : p ≤ 1000) (q0 : 0 ≤ q) (q1 : q < 2147483648) :
    ∃ v q', spec_l00Src_byte.f l p q = some (v, p + 1, q') ∧ 0 ≤ v ∧ v ≤ 255 ∧ 0 ≤ q' ∧ q' < 2147483648 := by
  unfold spec_l00Src_byte.f
  have r := rd_byte hl p
  have t2 := src_two q q0 q1
  have t3 := src_three _ t2.1 t2.2
  rw [w64_in (n := p + 1) (by omega) (by omega), w64_in (n := p + 1 - 1) (by omega) (by omega), show p + 1 - 1 = p by omega, w64_in (n := rd l p) (by omega) (by omega)]
  have t1 := src_one q (rd l p) q0 q1 r.1 r.2
  by_cases h : p + 1 ≤ (l.length : Int)
  · rw [if_pos h, if_pos p0, if_pos (by omega)]
    exact ⟨_, _, rfl, r.1, r.2, t1.1, t1.2⟩
  · rw [if_neg h, if_neg (by omega)]
    exact ⟨_, _, rfl, t3.1, t3.2, t2.1, t2.2⟩
theorem next_tells {l : List Int} (hl : ∀ x ∈ l, (Lit.int .u8 x).wf = true) {p q : Int} (p0 : 0 ≤ p) (p1 : p ≤ 900) (q0 : 0 ≤ q) (q1 : q < 2147483648) {n : Int} (n1 : 1 < n) (n2 : n ≤ 2147483648) :
    ∃ v p' q', spec_l00Src_next.f l p q n = some (v, p', q') ∧ 0 ≤ v ∧ v < n ∧ p ≤ p' ∧ p' ≤ p + 3 ∧ 0 ≤ q' ∧ q' < 2147483648 := by
  unfold spec_l00Src_next.f
  rw [if_neg (by omega)]
  obtain ⟨v1, s1, e1, a1, b1, c1, d1⟩ := byte_tells hl p0 (by omega) q0 q1
  obtain ⟨v2, s2, e2, a2, b2, c2, d2⟩ := byte_tells hl (p := p + 1) (by omega) (by omega) c1 d1
  obtain ⟨v3, s3, e3, a3, b3, c3, d3⟩ := byte_tells hl (p := p + 1 + 1) (by omega) (by omega) c2 d2
  simp only [e1, e2, e3, Option.bind_some]
  by_cases h : n ≤ 256
  · rw [if_pos h, if_neg (by omega)]
    refine ⟨_, _, _, rfl, ?_, ?_, by omega, by omega, c1, d1⟩
    · rw [tmod_pos _ a1]; exact Int.emod_nonneg _ (by omega)
    · rw [tmod_pos _ a1]; exact Int.emod_lt_of_pos _ (by omega)
  · rw [if_neg h, if_neg (by omega), w64_in (n := v1 * 65536) (by omega) (by omega), w64_in (n := v2 * 256) (by omega) (by omega), w64_in (n := v1 * 65536 + v2 * 256) (by omega) (by omega), w64_in (by omega) (by omega)]
    refine ⟨_, _, _, rfl, ?_, ?_, by omega, by omega, c3, d3⟩
    · rw [tmod_pos _ (by omega)]; exact Int.emod_nonneg _ (by omega)
    · rw [tmod_pos _ (by omega)]; exact Int.emod_lt_of_pos _ (by omega)
theorem word_tells {l : List Int} (hl : ∀ x ∈ l, (Lit.int .u8 x).wf = true) {p q : Int} (p0 : 0 ≤ p) (p1 : p ≤ 900) (q0 : 0 ≤ q) (q1 : q < 2147483648) :
    ∃ v p' q', spec_l00Src_word.f l p q = some (v, p', q') ∧ 0 ≤ v ∧ v ≤ 4294967295 ∧ p ≤ p' ∧ p' ≤ p + 4 ∧ 0 ≤ q' ∧ q' < 2147483648 := by
  unfold spec_l00Src_word.f
  obtain ⟨v1, s1, e1, a1, b1, c1, d1⟩ := byte_tells hl p0 (by omega) q0 q1
  obtain ⟨v2, s2, e2, a2, b2, c2, d2⟩ := byte_tells hl (p := p + 1) (by omega) (by omega) c1 d1
  obtain ⟨v3, s3, e3, a3, b3, c3, d3⟩ := byte_tells hl (p := p + 1 + 1) (by omega) (by omega) c2 d2
  obtain ⟨v4, s4, e4, a4, b4, c4, d4⟩ := byte_tells hl (p := p + 1 + 1 + 1) (by omega) (by omega) c3 d3
  simp only [e1, e2, e3, e4, Option.bind_some]
  refine ⟨_, _, _, rfl, ?_, ?_, by omega, by omega, c4, d4⟩ <;> unfold wrap64 <;> omega
theorem wide_tells {l : List Int} (hl : ∀ x ∈ l, (Lit.int .u8 x).wf = true) {p q : Int} (p0 : 0 ≤ p) (p1 : p ≤ 800) (q0 : 0 ≤ q) (q1 : q < 2147483648) :
    ∃ v p' q', spec_l00Src_wide.f l p q = some (v, p', q') ∧ -9223372036854775808 ≤ v ∧ v ≤ 9223372036854775807 ∧ p ≤ p' ∧ p' ≤ p + 12 ∧ 0 ≤ q' ∧ q' < 2147483648 := by
  unfold spec_l00Src_wide.f
  obtain ⟨v1, r1, s1, e1, a1, b1, x1, y1, c1, d1⟩ := next_tells hl p0 (by omega) q0 q1 (n := 8) (by omega) (by omega)
  simp only [e1, Option.bind_some]
  by_cases h0 : v1 = 0
  · rw [if_pos h0]
    obtain ⟨v2, r2, s2, e2, a2, b2, x2, y2, c2, d2⟩ := word_tells hl (p := r1) (by omega) (by omega) c1 d1
    obtain ⟨v3, r3, s3, e3, a3, b3, x3, y3, c3, d3⟩ := word_tells hl (p := r2) (by omega) (by omega) c2 d2
    simp only [e2, e3, Option.bind_some]
    exact ⟨_, _, _, rfl, (and_range _ _ _).1, (and_range _ _ _).2, by omega, by omega, c3, d3⟩
  rw [if_neg h0]
  by_cases h1 : v1 = 1
  · rw [if_pos h1]
    obtain ⟨v2, r2, s2, e2, a2, b2, x2, y2, c2, d2⟩ := next_tells hl (p := r1) (by omega) (by omega) c1 d1 (n := 15) (by omega) (by omega)
    unfold spec_l00Src_odd.f
    simp only [e2, Option.bind_some]
    rw [if_pos a2, if_pos (by simp; omega)]
    simp only [Option.bind_some]
    refine ⟨_, _, _, rfl, ?_, ?_, by omega, by omega, c2, d2⟩
    · have : ∀ i : Fin 15, -9223372036854775808 ≤ rd [0, (-1), 1, 2, 31, 32, 33, 255, 256, 4095, 4096, 16384, 9223372036854775807, (-9223372036854775808), 30] (i.val : Int) := by decide +kernel
      have t := this ⟨v2.toNat, by omega⟩
      simp only [show ((v2.toNat : Nat) : Int) = v2 by omega] at t
      exact t
    · have : ∀ i : Fin 15, rd [0, (-1), 1, 2, 31, 32, 33, 255, 256, 4095, 4096, 16384, 9223372036854775807, (-9223372036854775808), 30] (i.val : Int) ≤ 9223372036854775807 := by decide +kernel
      have t := this ⟨v2.toNat, by omega⟩
      simp only [show ((v2.toNat : Nat) : Int) = v2 by omega] at t
      exact t
  rw [if_neg h1]
  obtain ⟨v2, r2, s2, e2, a2, b2, x2, y2, c2, d2⟩ := next_tells hl (p := r1) (by omega) (by omega) c1 d1 (n := 300) (by omega) (by omega)
  by_cases h2 : v1 = 2
  · rw [if_pos h2]
    simp only [e2, Option.bind_some]
    exact ⟨_, _, _, rfl, (w64_range _).1, (w64_range _).2, by omega, by omega, c2, d2⟩
  rw [if_neg h2]
  by_cases h3 : v1 = 3
  · rw [if_pos h3]
    obtain ⟨v2, r2, s2, e2, a2, b2, x2, y2, c2, d2⟩ := word_tells hl (p := r1) (by omega) (by omega) c1 d1
    simp only [e2, Option.bind_some]
    exact ⟨_, _, _, rfl, (w64_range _).1, (w64_range _).2, by omega, by omega, c2, d2⟩
  rw [if_neg h3]
  by_cases h4 : v1 = 4
  · rw [if_pos h4]
    obtain ⟨v2, r2, s2, e2, a2, b2, x2, y2, c2, d2⟩ := next_tells hl (p := r1) (by omega) (by omega) c1 d1 (n := 64) (by omega) (by omega)
    simp only [e2, Option.bind_some]
    rw [if_pos (by rw [u64_in (by omega) (by omega)]; omega)]
    refine ⟨_, _, _, rfl, ?_, ?_, by omega, by omega, c2, d2⟩ <;> unfold shl <;> rw [i64_wrap]
    · exact (w64_range _).1
    · exact (w64_range _).2
  rw [if_neg h4]
  by_cases h5 : v1 = 5
  · rw [if_pos h5]
    obtain ⟨v2, r2, s2, e2, a2, b2, x2, y2, c2, d2⟩ := next_tells hl (p := r1) (by omega) (by omega) c1 d1 (n := 63) (by omega) (by omega)
    simp only [e2, Option.bind_some]
    rw [if_pos (by rw [u64_in (by omega) (by omega)]; omega)]
    exact ⟨_, _, _, rfl, (w64_range _).1, (w64_range _).2, by omega, by omega, c2, d2⟩
  rw [if_neg h5]
  simp only [e2, Option.bind_some]
  exact ⟨_, _, _, rfl, by omega, by omega, by omega, by omega, c2, d2⟩
theorem number_tells {l : List Int} (hl : ∀ x ∈ l, (Lit.int .u8 x).wf = true) : ∃ v, spec_NumberOf.f l = some v ∧ -9223372036854775808 ≤ v ∧ v ≤ 9223372036854775807 := by
  unfold spec_NumberOf.f spec_l00Source.f
  obtain ⟨v, p', q', e, a, b, _⟩ := wide_tells hl (p := 0) (q := (l.length : Int) % 1000) (by omega) (by omega) (by omega) (by omega)
  simp only [e, Option.bind_some]
  exact ⟨_, rfl, a, b⟩
theorem at_tells {l : List Int} (hl : ∀ x ∈ l, (Lit.int .u8 x).wf = true) (hlen : l.length ≤ 140737488351232) (i : Int) (i0 : 0 ≤ i) (i1 : i ≤ 1000) {n : Int} (n1 : 1 < n) (n2 : n ≤ 2147483648) : ∃ v, laws_at.f l i n = some v ∧ 0 ≤ v ∧ v < n := by
  unfold laws_at.f
  rw [if_neg (by omega)]
  by_cases h : (l.length : Int) = 0
  · rw [if_pos h, if_neg (by omega), w64_in (by omega) (by omega), tmod_pos _ (by omega)]
    exact ⟨_, rfl, Int.emod_nonneg _ (by omega), Int.emod_lt_of_pos _ (by omega)⟩
  · have r1 := rd_byte hl (i % (l.length : Int))
    have r2 := rd_byte hl ((i + 1) % (l.length : Int))
    have m1 := Int.emod_nonneg i h
    have m2 := Int.emod_lt_of_pos i (b := (l.length : Int)) (by omega)
    have m3 := Int.emod_nonneg (i + 1) h
    have m4 := Int.emod_lt_of_pos (i + 1) (b := (l.length : Int)) (by omega)
    have d0 : 0 ≤ i / (l.length : Int) := Int.ediv_nonneg i0 (by omega)
    have d1 : i / (l.length : Int) ≤ i := Int.ediv_le_self _ i0
    rw [if_neg h, w64_in (n := i + 1) (by omega) (by omega), tmod_pos _ i0, tmod_pos (a := i + 1) _ (by omega), Int.tdiv_eq_ediv_of_nonneg i0, if_pos m1, if_pos m2, if_pos m3, if_pos m4, if_neg (by omega)]
    generalize rd l (i % (l.length : Int)) = a at *
    generalize rd l ((i + 1) % (l.length : Int)) = b at *
    generalize i / (l.length : Int) = d at *
    clear m1 m2 m3 m4
    rw [w64_in (n := a) (by omega) (by omega), w64_in (n := b) (by omega) (by omega), w64_in (n := d) (by omega) (by omega), w64_in (n := a * 31) (by omega) (by omega), w64_in (n := a * 31 + b) (by omega) (by omega), w64_in (by omega) (by omega), tmod_pos _ (by omega)]
    exact ⟨_, rfl, Int.emod_nonneg _ (by omega), Int.emod_lt_of_pos _ (by omega)⟩
theorem areAsked_impl {s f : Int} (hf : -9223372036854775808 ≤ f ∧ f ≤ 9223372036854775807) : impl_areAsked.f s f = some (decide (Sz s ∧ FlOK f)) := by
  unfold impl_areAsked.f
  rw [size_impl, areFlags_impl hf]
  by_cases h : Sz s <;> simp [h]
/-- So many shifts by one. -/
def it (op s : Int) (m : Nat) : Nat → Nat → Int → Nat × Int
  | 0, V, f => (V, f)
  | n + 1, V, f => it op s m n (sval op m V) (sflag op s m V f)
/-- The number alone. -/
def vit (op : Int) (m : Nat) : Nat → Nat → Nat
  | 0, V => V
  | n + 1, V => vit op m n (sval op m V)
theorem it_val (op s : Int) (m : Nat) : ∀ n V f, (it op s m n V f).1 = vit op m n V
  | 0, V, f => rfl
  | n + 1, V, f => it_val op s m n _ _
theorem vit_last (op : Int) (m : Nat) : ∀ n V, vit op m (n + 1) V = sval op m (vit op m n V)
  | 0, V => rfl
  | n + 1, V => vit_last op m n _
theorem vit_lt {op : Int} {m : Nat} : ∀ n V, V < 2 ^ (m + 1) → vit op m n V < 2 ^ (m + 1)
  | 0, V, h => h
  | n + 1, V, h => vit_lt n _ (sval_lt h)
theorem it_fl {op s : Int} {m : Nat} : ∀ n V f, FlOK f → f ≤ 9223372036854775807 → FlOK (it op s m n V f).2 ∧ (it op s m n V f).2 ≤ 9223372036854775807
  | 0, V, f, h, h2 => ⟨h, h2⟩
  | n + 1, V, f, h, h2 => it_fl n _ _ (sflag_ok h h2) (sflag_range _ _ _ _ _)
theorem once_both {op s f : Int} (hs : Sz s) {m V : Nat} (hm : (8 * s).toNat = m + 1) (hV : V < 2 ^ (m + 1)) (hop : op = 20 ∨ op = 21 ∨ op = 22 ∨ op = 23 ∨ op = 24) (hf : FlOK f) (hr : f ≤ 9223372036854775807) :
    ∃ (V' : Nat) (f' : Int), V' = sval op m V ∧ f' = sflag op s m V f ∧ (∀ k, 80 < k → spec_l06Once.f k op s (wrap64 ((V : Nat) : Int)) f = some (wrap64 ((V' : Nat) : Int), f')) ∧ (∀ k2, 3 ≤ k2 → impl_shiftOnce.f k2 op s (wrap64 ((V : Nat) : Int)) f = some (wrap64 ((V' : Nat) : Int), f')) :=
  ⟨_, _, rfl, rfl, fun _ hk => once_spec hs hm hV hop hk, fun _ hk2 => once_impl hs hm hV hop hf hr hk2⟩
theorem step_spec {k : Nat} {op s f n W i W' f' : Int} (h : i < n) (e : spec_l06Once.f k op s W f = some (W', f')) : spec_l06Shift.l0 (k + 1) op s f n W i = spec_l06Shift.l0 k op s f' n W' (wrap64 (i + 1)) := by
  simp only [spec_l06Shift.l0]
  rw [if_pos h, e, Option.bind_some]
theorem step_impl {k : Nat} {op s f n W i W' f' : Int} (h : i < n) (e : impl_shiftOnce.f k op s W f = some (W', f')) : impl_shift.l0 (k + 1) op s W f n i = impl_shift.l0 k op s W' f' n (wrap64 (i + 1)) := by
  simp only [impl_shift.l0]
  rw [if_pos h, e, Option.bind_some]
theorem stop_spec {k : Nat} {op s f n W i : Int} (h : ¬ i < n) : spec_l06Shift.l0 (k + 1) op s f n W i = some (W, f) := by
  simp only [spec_l06Shift.l0, if_neg h]
theorem stop_impl {k2 : Nat} {op s f n W i : Int} (h : ¬ i < n) : impl_shift.l0 (k2 + 1) op s W f n i = some (W, f) := by
  simp only [impl_shift.l0, if_neg h]
theorem loops {op s : Int} (hs : Sz s) {m : Nat} (hm : (8 * s).toNat = m + 1) (hop : op = 20 ∨ op = 21 ∨ op = 22 ∨ op = 23 ∨ op = 24) (n : Nat) (hn : n ≤ 64) : ∀ (j i V k k2 : Nat) (f : Int), i + j = n → j + 82 < k → j + 5 < k2 → V < 2 ^ (m + 1) → FlOK f → f ≤ 9223372036854775807 →
    spec_l06Shift.l0 k op s f ((n : Nat) : Int) (wrap64 ((V : Nat) : Int)) ((i : Nat) : Int) = some (wrap64 (((it op s m j V f).1 : Nat) : Int), (it op s m j V f).2) ∧ impl_shift.l0 k2 op s (wrap64 ((V : Nat) : Int)) f ((n : Nat) : Int) ((i : Nat) : Int) = some (wrap64 (((it op s m j V f).1 : Nat) : Int), (it op s m j V f).2) := by
  intro j
  induction j with
  | zero =>
    intro i V k k2 f hi hk hk2 hV hf hr
    obtain ⟨k, rfl⟩ : ∃ k', k = k' + 1 := ⟨k - 1, by omega⟩
    obtain ⟨k2, rfl⟩ : ∃ k', k2 = k' + 1 := ⟨k2 - 1, by omega⟩
    exact ⟨stop_spec (by omega), stop_impl (by omega)⟩
  | succ j ih =>
    intro i V k k2 f hi hk hk2 hV hf hr
    obtain ⟨k, rfl⟩ : ∃ k', k = k' + 1 := ⟨k - 1, by omega⟩
    obtain ⟨k2, rfl⟩ : ∃ k', k2 = k' + 1 := ⟨k2 - 1, by omega⟩
    obtain ⟨V', f', h1, h2, h4, h5⟩ := once_both hs hm hV hop hf hr
    have e1 := step_spec (n := ((n : Nat) : Int)) (i := ((i : Nat) : Int)) (by omega) (h4 k (by omega))
    have e2 := step_impl (n := ((n : Nat) : Int)) (i := ((i : Nat) : Int)) (by omega) (h5 k2 (by omega))
    have e3 : wrap64 (((i : Nat) : Int) + 1) = ((i + 1 : Nat) : Int) := by rw [w64_in (by omega) (by omega)]; rfl
    rw [e3] at e1 e2
    have hh := ih (i + 1) V' k k2 f' (by omega) (by omega) (by omega) (by rw [h1]; exact sval_lt hV) (by rw [h2]; exact sflag_ok hf hr) (by rw [h2]; exact sflag_range _ _ _ _ _)
    simp only [it]
    rw [← h1, ← h2]
    exact ⟨e1.trans hh.1, e2.trans hh.2⟩
theorem shift_tells {op s a b f : Int} {k m : Nat} (hs : Sz s) (hm : (8 * s).toNat = m + 1) (ha : -9223372036854775808 ≤ a ∧ a ≤ 9223372036854775807) (hop : 20 ≤ op ∧ op ≤ 24) (hfl : FlOK f) (hr : f ≤ 9223372036854775807) (c : Nat) (hc : c = if s = 8 then un b % 64 else un b % 32) (hk : 160 ≤ k) :
    spec_Shift.f k op s a b f = some (wrap64 (((it op s m c (un a % 2 ^ (m + 1)) f).1 : Nat) : Int), (it op s m c (un a % 2 ^ (m + 1)) f).2, 0) ∧ impl_Shift.f k op s a b f = some (wrap64 (((it op s m c (un a % 2 ^ (m + 1)) f).1 : Nat) : Int), (it op s m c (un a % 2 ^ (m + 1)) f).2, 0) := by
  have hf : -9223372036854775808 ≤ f ∧ f ≤ 9223372036854775807 := ⟨by have := hfl.1; omega, hr⟩
  have hop5 : op = 20 ∨ op = 21 ∨ op = 22 ∨ op = 23 ∨ op = 24 := by omega
  have hV : un a % 2 ^ (m + 1) < 2 ^ (m + 1) := Nat.mod_lt _ (Nat.two_pow_pos _)
  have hza : zeroZ a s = wrap64 ((un a % 2 ^ (m + 1) : Nat) : Int) := by rw [zeroZ_eq hs ha, hm]
  have hc64 : c ≤ 64 := by rw [hc]; split <;> omega
  obtain ⟨k, rfl⟩ : ∃ k', k = k' + 2 := ⟨k - 2, by omega⟩
  obtain ⟨L1, L2⟩ := loops hs hm hop5 c hc64 c 0 (un a % 2 ^ (m + 1)) k (k + 2) f (by omega) (by omega) (by omega) hV hfl hr
  generalize it op s m c (un a % 2 ^ (m + 1)) f = R at *
  generalize un a % 2 ^ (m + 1) = V at *
  have e2 : Go.bits .and .i64 b (wrap64 (31 + if (s == 8) = true then 32 else 0)) = ((c : Nat) : Int) := by
    rw [hc]
    by_cases h8 : s = 8
    · rw [if_pos h8, show wrap64 (31 + if (s == 8) = true then 32 else 0) = 2 ^ 6 - 1 by rw [h8]; decide +kernel, and_mask _ _ (by decide)]
      unfold un; omega
    · rw [if_neg h8, show wrap64 (31 + if (s == 8) = true then 32 else 0) = 2 ^ 5 - 1 by simp [h8]; decide +kernel, and_mask _ _ (by decide)]
      unfold un; omega
  have e1 : (if s = 8 then wrap64 (Int.tmod (IntKind.u64.wrap b) 64) else wrap64 (Int.tmod (IntKind.u64.wrap b) 32)) = ((c : Nat) : Int) := by
    rw [hc]
    have hu := un_lt' b
    by_cases h8 : s = 8
    · rw [if_pos h8, if_pos h8, IntKind.wrap_u64, ← un_eq, Int.tmod_eq_emod_of_nonneg (by omega), w64_in (by omega) (by omega)]; rfl
    · rw [if_neg h8, if_neg h8, IntKind.wrap_u64, ← un_eq, Int.tmod_eq_emod_of_nonneg (by omega), w64_in (by omega) (by omega)]; rfl
  have hin2 : impl_isShift.f op = some true := by
    unfold impl_isShift.f impl_within.f
    rw [if_pos (by omega), Option.bind_some, decide_eq_true hop.2]
  have hin1 : spec_l01In.f op 20 24 = some true := by
    unfold spec_l01In.f
    rw [if_pos (by omega), decide_eq_true hop.2]
  constructor
  · unfold spec_Shift.f
    rw [size_spec, decide_eq_true hs, Option.bind_some, if_pos rfl, flags_spec, decide_eq_true hfl, Option.bind_some, show k + 2 = k + 1 + 1 from rfl, spec_Shift.j0, if_neg (by decide), hin1, Option.bind_some, if_pos rfl]
    have e : spec_l06Shift.f (k + 1) op s a b f = some (wrap64 ((R.1 : Nat) : Int), R.2) := by
      unfold spec_l06Shift.f
      have hj : ∀ n : Int, n = ((c : Nat) : Int) → spec_l06Shift.j0 (k + 1) op s a f n = some (wrap64 ((R.1 : Nat) : Int), R.2) := fun n hn => by
        rw [hn, spec_l06Shift.j0, zero_spec hs ha (by omega), Option.bind_some, hza]
        exact L1
      by_cases h8 : s = 8
      · rw [if_pos h8] at e1 ⊢; exact hj _ e1
      · rw [if_neg h8] at e1 ⊢; exact hj _ e1
    rw [e, Option.bind_some]
  · unfold impl_Shift.f
    rw [areAsked_impl hf, decide_eq_true ⟨hs, hfl⟩, Option.bind_some, if_pos rfl, hin2, Option.bind_some, if_pos rfl]
    have e : impl_shift.f (k + 2) op s a b f = some (wrap64 ((R.1 : Nat) : Int), R.2) := by
      unfold impl_shift.f
      rw [zero_impl hs, Option.bind_some, flag_impl, Option.bind_some, e2, hza]
      exact L2
    rw [e, Option.bind_some]
theorem rol_step {a b u w t : Nat} (hb : 0 < b) (ht : t ≤ 1) (hu : u < a) (hw : w < b) : 2 * ((a * t + u) * b + w) % (2 * (a * b)) + ((a * t + u) * b + w) / (a * b) = u * (2 * b) + (2 * w + t) := by
  have hY : u * b + w < a * b := by
    have : (u + 1) * b ≤ a * b := Nat.mul_le_mul_right _ hu
    rw [Nat.add_mul] at this
    omega
  have e1 : (a * t + u) * b = t * (a * b) + u * b := by rw [Nat.add_mul, Nat.mul_comm a t, Nat.mul_assoc]
  have e2 : u * (2 * b) = 2 * (u * b) := by rw [Nat.mul_left_comm]
  rw [e1, e2]
  generalize u * b = y at *
  generalize a * b = p at *
  have hp : 0 < p := by omega
  obtain rfl | rfl : t = 0 ∨ t = 1 := by omega
  · rw [Nat.zero_mul, Nat.zero_add, Nat.mod_eq_of_lt (by omega), Nat.div_eq_of_lt hY]
    omega
  · rw [Nat.one_mul, show 2 * (p + y + w) = 2 * p + 2 * (y + w) by omega, Nat.add_mod_left, Nat.mod_eq_of_lt (by omega), show p + y + w = p + (y + w) by omega, Nat.add_div_left _ hp, Nat.div_eq_of_lt hY]
    omega
theorem rol_ror {m V : Nat} (hV : V < 2 ^ (m + 1)) : sval 20 m (sval 21 m V) = V := by
  have hpe : 2 ^ (m + 1) = 2 * 2 ^ m := by rw [Nat.pow_succ, Nat.mul_comm]
  have h := rol_step (a := 2 ^ m) (b := 1) (u := V / 2) (w := 0) (t := V % 2) (by omega) (by omega) (by omega) (by omega)
  rw [sval_20, sval_21, hpe]
  simp only [Nat.mul_one, Nat.add_zero] at h
  rw [Nat.add_comm (V / 2), h]
  omega
theorem rol_iter {m V : Nat} (hV : V < 2 ^ (m + 1)) : ∀ j, j ≤ m + 1 → vit 20 m j V = V % 2 ^ (m + 1 - j) * 2 ^ j + V / 2 ^ (m + 1 - j)
  | 0, _ => by
    simp only [vit, Nat.sub_zero, Nat.pow_zero, Nat.mul_one]
    rw [Nat.mod_eq_of_lt hV, Nat.div_eq_of_lt hV, Nat.add_zero]
  | j + 1, hj => by
    rw [vit_last, rol_iter hV j (by omega), sval_20]
    obtain ⟨r, hr⟩ : ∃ r, m + 1 - j = r + 1 := ⟨m - j, by omega⟩
    have hr2 : m + 1 - (j + 1) = r := by omega
    have hm : m = r + j := by omega
    rw [hr, hr2]
    have h1 := mod_succ V r
    have h2 := half_step V r
    have h3 := tb_le V r
    have hu : V % 2 ^ r < 2 ^ r := Nat.mod_lt _ (Nat.two_pow_pos _)
    have hw : V / 2 ^ (r + 1) < 2 ^ j := by
      rw [Nat.div_lt_iff_lt_mul (Nat.two_pow_pos _), ← Nat.pow_add]
      rw [show j + (r + 1) = m + 1 by omega]; exact hV
    have h := rol_step (a := 2 ^ r) (b := 2 ^ j) (u := V % 2 ^ r) (w := V / 2 ^ (r + 1)) (t := tb V r) (Nat.two_pow_pos _) h3 hu hw
    have hab : 2 ^ r * 2 ^ j = 2 ^ m := by rw [← Nat.pow_add, ← hm]
    have hP : 2 ^ (m + 1) = 2 * 2 ^ m := by rw [Nat.pow_succ, Nat.mul_comm]
    rw [hab] at h
    rw [hP, h1, Nat.add_comm (V % 2 ^ r), h, show 2 ^ (j + 1) = 2 * 2 ^ j by rw [Nat.pow_succ, Nat.mul_comm]]
    unfold tb
    omega
theorem rol_all {m V : Nat} (hV : V < 2 ^ (m + 1)) : vit 20 m (m + 1) V = V := by
  rw [rol_iter hV _ (by omega), Nat.sub_self, Nat.pow_zero, Nat.mod_one, Nat.div_one, Nat.zero_mul, Nat.zero_add]
theorem shl_iter {Z : Nat} (hZ : Z < 256) : ∀ n, n ≤ 20 → vit 22 63 n Z = Z * 2 ^ n
  | 0, _ => by simp [vit]
  | n + 1, hn => by
    rw [vit_last, shl_iter hZ n (by omega), sval_22]
    have h1 : 2 ^ n ≤ 2 ^ 20 := Nat.pow_le_pow_right (by decide) (by omega)
    have h2 : Z * 2 ^ n ≤ 256 * 2 ^ 20 := Nat.mul_le_mul (by omega) h1
    rw [Nat.mod_eq_of_lt (by omega), Nat.pow_succ, Nat.mul_comm (2 ^ n) 2, Nat.mul_left_comm]
theorem shr_iter (X : Nat) : ∀ n, vit 23 63 n X = X / 2 ^ n
  | 0 => by simp [vit]
  | n + 1 => by rw [vit_last, shr_iter X n, sval_23, Nat.div_div_eq_div_mul, ← Nat.pow_succ]
theorem or_small : ∀ i : Fin 2246, Go.bits .and .i64 (i.val : Int) 2245 = (i.val : Int) → ∀ c : Fin 5, Go.bits .and .i64 (Go.bits .or .i64 (i.val : Int) (rd [1, 4, 64, 128, 2048] (c.val : Int))) 2245 = Go.bits .or .i64 (i.val : Int) (rd [1, 4, 64, 128, 2048] (c.val : Int)) ∧ 0 ≤ Go.bits .or .i64 (i.val : Int) (rd [1, 4, 64, 128, 2048] (c.val : Int)) := by decide +kernel
theorem or_ok {f : Int} (hf : FlOK f) (hr : f ≤ 9223372036854775807) (i : Nat) (hi : i < 5) : FlOK (Go.bits .or .i64 f (rd [1, 4, 64, 128, 2048] ((i : Nat) : Int))) := by
  have h1 := and_self_le hf.1 hr hf.2
  have h := or_small ⟨f.toNat, by have := hf.1; omega⟩
  simp only [show ((f.toNat : Nat) : Int) = f by have := hf.1; omega] at h
  have h2 := h hf.2 ⟨i, hi⟩
  exact ⟨h2.2, h2.1⟩
theorem flags_loop {l : List Int} (hl : ∀ x ∈ l, (Lit.int .u8 x).wf = true) : ∀ (j k i : Nat) (f p q : Int), i + j = 5 → j < k → FlOK f → f ≤ 9223372036854775807 → 0 ≤ p → p ≤ 10 * (i : Int) → 0 ≤ q → q < 2147483648 →
    ∃ f' p' q', spec_l00Src_flags.l0 k f [1, 4, 64, 128, 2048] 5 ((i : Nat) : Int) l p q = some (f', p', q') ∧ FlOK f' ∧ f' ≤ 9223372036854775807 := by
  intro j
  induction j with
  | zero =>
    intro k i f p q hi hk hf hr p0 p1 q0 q1
    obtain ⟨k, rfl⟩ : ∃ k', k = k' + 1 := ⟨k - 1, by omega⟩
    rw [spec_l00Src_flags.l0, if_neg (by omega)]
    exact ⟨_, _, _, rfl, hf, hr⟩
  | succ j ih =>
    intro k i f p q hi hk hf hr p0 p1 q0 q1
    obtain ⟨k, rfl⟩ : ∃ k', k = k' + 1 := ⟨k - 1, by omega⟩
    obtain ⟨v, p', q', e, a, b, x, y, c, d⟩ := next_tells hl p0 (by omega) q0 q1 (n := 2) (by omega) (by omega)
    have e2 : spec_l00Src_chance.f l p q 2 = some (v == wrap64 (2 - 1), p', q') := by
      unfold spec_l00Src_chance.f
      rw [e, Option.bind_some]
    rw [spec_l00Src_flags.l0, if_pos (by omega), if_pos (by omega), if_pos (by simp; omega), e2, Option.bind_some]
    have e3 : wrap64 (((i : Nat) : Int) + 1) = ((i + 1 : Nat) : Int) := by rw [w64_in (by omega) (by omega)]; rfl
    rw [e3]
    by_cases h : (v == wrap64 (2 - 1)) = true
    · rw [if_pos h]
      exact ih k (i + 1) _ p' q' (by omega) (by omega) (or_ok hf hr i (by omega)) (and_range _ _ _).2 (by omega) (by omega) c d
    · rw [if_neg h]
      exact ih k (i + 1) _ p' q' (by omega) (by omega) hf hr (by omega) (by omega) c d
theorem drawn_tells {l : List Int} (hl : ∀ x ∈ l, (Lit.int .u8 x).wf = true) {k : Nat} (hk : 5 < k) : ∃ f, spec_FlagsDrawn.f k l = some f ∧ FlOK f ∧ f ≤ 9223372036854775807 := by
  unfold spec_FlagsDrawn.f spec_l00Source.f spec_l00Src_flags.f
  obtain ⟨f', p', q', e, h1, h2⟩ := flags_loop hl 5 k 0 0 0 ((l.length : Int) % 1000) rfl hk (by decide +kernel) (by omega) (by omega) (by omega) (by omega) (by omega)
  have e5 : ((([1, 4, 64, 128, 2048] : List Int).length : Nat) : Int) = 5 := rfl
  rw [Option.bind_some, Option.bind_some, e5]
  rw [show ((0 : Nat) : Int) = 0 from rfl] at e
  rw [e, Option.bind_some]
  exact ⟨_, rfl, h1, h2⟩
theorem sizeAt_tells {l : List Int} (hl : ∀ x ∈ l, (Lit.int .u8 x).wf = true) (hlen : l.length ≤ 140737488351232) (i : Int) (i0 : 0 ≤ i) (i1 : i ≤ 1000) : ∃ s, laws_sizeAt.f l i = some s ∧ Sz s := by
  obtain ⟨v, e, h0, h1⟩ := at_tells hl hlen i i0 i1 (n := 4) (by omega) (by omega)
  unfold laws_sizeAt.f
  rw [Option.bind_some, e, Option.bind_some, if_pos h0, if_pos (by simp; omega)]
  refine ⟨_, rfl, ?_⟩
  have : ∀ i : Fin 4, Sz (rd [1, 2, 4, 8] (i.val : Int)) := by decide +kernel
  have t := this ⟨v.toNat, by omega⟩
  simp only [show ((v.toNat : Nat) : Int) = v by omega] at t
  exact t
theorem zeroOf_tells {a s : Int} (hs : Sz s) (ha : -9223372036854775808 ≤ a ∧ a ≤ 9223372036854775807) {k : Nat} (hk : 64 < k) : spec_ZeroOf.f k a s = some (zeroZ a s, 0) := by
  unfold spec_ZeroOf.f
  rw [size_spec, decide_eq_true hs, Option.bind_some, if_pos rfl, zero_spec hs ha hk, Option.bind_some]
theorem un_mod_in {m V : Nat} (hm : m + 1 ≤ 64) (hV : V < 2 ^ (m + 1)) : un (wrap64 ((V : Nat) : Int)) % 2 ^ (m + 1) = V := by
  have hp : 2 ^ (m + 1) ≤ 2 ^ 64 := Nat.pow_le_pow_right (by decide) hm
  rw [un_wnat (by omega), Nat.mod_eq_of_lt hV]
/-- One call of the program's Shift on a number at hand. -/
theorem shift_at {op s b f : Int} {k m V : Nat} (hs : Sz s) (hm : (8 * s).toNat = m + 1) (hV : V < 2 ^ (m + 1)) (hop : 20 ≤ op ∧ op ≤ 24) (hfl : FlOK f) (hr : f ≤ 9223372036854775807) (c : Nat) (hc : c = if s = 8 then un b % 64 else un b % 32) (hk : 160 ≤ k) :
    impl_Shift.f k op s (wrap64 ((V : Nat) : Int)) b f = some (wrap64 (((vit op m c V : Nat)) : Int), (it op s m c V f).2, 0) := by
  obtain ⟨m', hm', h64, _⟩ := pow_size hs
  have h := (shift_tells (b := b) hs hm (w64_range ((V : Nat) : Int)) hop hfl hr c hc hk).2
  rw [un_mod_in (by omega) hV, it_val] at h
  exact h
theorem count_one (s : Int) : (1 : Nat) = if s = 8 then un 1 % 64 else un 1 % 32 := by split <;> decide +kernel
theorem count_three (s : Int) : (3 : Nat) = if s = 8 then un 3 % 64 else un 3 % 32 := by split <;> decide +kernel
theorem count_64 (s : Int) : (0 : Nat) = if s = 8 then un 64 % 64 else un 64 % 32 := by split <;> decide +kernel
theorem count_n (s : Int) {n : Nat} (hn : n < 32) : n = if s = 8 then un ((n : Nat) : Int) % 64 else un ((n : Nat) : Int) % 32 := by
  have : un ((n : Nat) : Int) = n := un_nat (by omega)
  rw [this]; split <;> omega
theorem l0_tells {A s F op x10 x11 x16 : Int} {n m : Nat} (hs : Sz s) (hm : (8 * s).toNat = m + 1) (hop : 20 ≤ op ∧ op ≤ 24) (hn : n < 32)
    (H : ∀ k, 250 < k → laws_FnShifts.j2 k A s F op ((n : Nat) : Int) x16 false = some true) : ∀ (j k i V : Nat) (f : Int), i + j = n → 251 + j < k → V < 2 ^ (m + 1) → FlOK f → f ≤ 9223372036854775807 → x10 = wrap64 ((vit op m j V : Nat) : Int) → x11 = (it op s m j V f).2 →
    laws_FnShifts.l0 k A s F op ((n : Nat) : Int) x10 x11 0 x10 x11 x16 (wrap64 ((V : Nat) : Int)) f ((i : Nat) : Int) = some true := by
  intro j
  induction j with
  | zero =>
    intro k i V f hi hk hV hf hr e10 e11
    obtain ⟨k, rfl⟩ : ∃ k', k = k' + 1 := ⟨k - 1, by omega⟩
    rw [laws_FnShifts.l0, if_neg (by omega), if_pos rfl, if_pos rfl, if_pos rfl, if_pos (by rw [e10]; rfl), show f = x11 by rw [e11]; rfl, bne_self_eq_false]
    exact H k (by omega)
  | succ j ih =>
    intro k i V f hi hk hV hf hr e10 e11
    obtain ⟨k, rfl⟩ : ∃ k', k = k' + 1 := ⟨k - 1, by omega⟩
    have e3 : wrap64 (((i : Nat) : Int) + 1) = ((i + 1 : Nat) : Int) := by rw [w64_in (by omega) (by omega)]; rfl
    rw [laws_FnShifts.l0, if_pos (by omega), shift_at hs hm hV hop hf hr 1 (count_one s) (by omega), Option.bind_some, if_pos rfl, e3]
    exact ih k (i + 1) _ _ (by omega) (by omega) (vit_lt 1 _ hV) (it_fl 1 V f hf hr).1 (it_fl 1 V f hf hr).2 e10 e11
theorem shl_back {Z n : Nat} (hZ : Z < 256) (hn : n ≤ 20) : vit 23 63 n (vit 22 63 n Z) = Z := by
  rw [shl_iter hZ n hn, shr_iter, Nat.mul_div_cancel _ (Nat.two_pow_pos n)]
theorem byte_zero (A : Int) : zeroZ A 1 = wrap64 ((un A % 256 : Nat) : Int) := by rw [zeroZ_one]; unfold un wrap64; omega
theorem vit_one (op : Int) (m V : Nat) : vit op m 1 V = sval op m V := rfl
theorem rol_three {m V : Nat} (hV : V < 2 ^ (m + 1)) : vit 20 m 3 (vit 21 m 3 V) = V := by
  show sval 20 m (sval 20 m (sval 20 m (sval 21 m (sval 21 m (sval 21 m V))))) = V
  rw [rol_ror (sval_lt (sval_lt hV)), rol_ror (sval_lt hV), rol_ror hV]
theorem tail_tells {A s F op : Int} {n m V : Nat} {k : Nat} (hs : Sz s) (hm : (8 * s).toNat = m + 1) (hop : 20 ≤ op ∧ op ≤ 24) (hn : n ≤ 20) (hA : -9223372036854775808 ≤ A ∧ A ≤ 9223372036854775807) (hf : FlOK F) (hr : F ≤ 9223372036854775807) (hV : V < 2 ^ (m + 1)) (hk : 170 < k) :
    laws_FnShifts.l1 k A s F op ((n : Nat) : Int) (wrap64 ((V : Nat) : Int)) (wrap64 ((V : Nat) : Int)) (8 * s) = some true := by
  obtain ⟨k, rfl⟩ : ∃ k', k = k' + 1 := ⟨k - 1, by omega⟩
  have e8 : wrap64 (8 * s) = 8 * s := by
                                 have h18 : 1 ≤ s ∧ s ≤ 8 := by (rcases hs with rfl | rfl | rfl | rfl <;> omega)
                                 exact w64_in (by omega) (by omega)
  have f1 := it_fl (op := 21) (s := s) (m := m) 3 V F hf hr
  have g1 := shift_at (op := 21) (b := 3) (k := k) hs hm hV (by omega) hf hr 3 (count_three s) (by omega)
  have g2 := shift_at (op := 20) (b := 3) (k := k) hs hm (vit_lt (op := 21) 3 V hV) (by omega) f1.1 f1.2 3 (count_three s) (by omega)
  rw [rol_three hV] at g2
  have hZ : un A % 256 < 256 := Nat.mod_lt _ (by decide)
  have h8 : Sz 8 := .inr (.inr (.inr rfl))
  have hm8 : (8 * 8 : Int).toNat = 63 + 1 := rfl
  have f2 := it_fl (op := 22) (s := 8) (m := 63) n (un A % 256) F hf hr
  have hZ64 : un A % 256 < 2 ^ (63 + 1) := by omega
  have g3 := shift_at (op := 22) (b := ((n : Nat) : Int)) (k := k) h8 hm8 hZ64 (by omega) hf hr n (count_n 8 (by omega)) (by omega)
  have g4 := shift_at (op := 23) (b := ((n : Nat) : Int)) (k := k) h8 hm8 (vit_lt (op := 22) n _ hZ64) (by omega) hf hr n (count_n 8 (by omega)) (by omega)
  rw [shl_back hZ hn] at g4
  have g5 := (shift_tells (b := 64) (k := k) hs hm hA hop hf hr 0 (count_64 s) (by omega)).2
  simp only [it] at g5
  rw [laws_FnShifts.l1, if_neg (by omega), g1, Option.bind_some, g2, Option.bind_some, zeroOf_tells (.inl rfl) hA (by omega), Option.bind_some, byte_zero, g3, Option.bind_some, g4, Option.bind_some, g5, Option.bind_some]
  simp
theorem l1_tells {A s F op : Int} {n m V : Nat} (hs : Sz s) (hm : (8 * s).toNat = m + 1) (hop : 20 ≤ op ∧ op ≤ 24) (hn : n ≤ 20) (hA : -9223372036854775808 ≤ A ∧ A ≤ 9223372036854775807) (hf : FlOK F) (hr : F ≤ 9223372036854775807) (hV : V < 2 ^ (m + 1)) : ∀ (j k i X : Nat), i + j = m + 1 → 171 + j < k → X < 2 ^ (m + 1) → vit 20 m j X = V →
    laws_FnShifts.l1 k A s F op ((n : Nat) : Int) (wrap64 ((V : Nat) : Int)) (wrap64 ((X : Nat) : Int)) ((i : Nat) : Int) = some true := by
  have e8 : wrap64 (8 * s) = 8 * s := by
                                 have h18 : 1 ≤ s ∧ s ≤ 8 := by (rcases hs with rfl | rfl | rfl | rfl <;> omega)
                                 exact w64_in (by omega) (by omega)
  intro j
  induction j with
  | zero =>
    intro k i X hi hk hX e
    have hX2 : X = V := e
    rw [hX2, show ((i : Nat) : Int) = 8 * s by omega]
    exact tail_tells hs hm hop hn hA hf hr hV (by omega)
  | succ j ih =>
    intro k i X hi hk hX e
    obtain ⟨k, rfl⟩ : ∃ k', k = k' + 1 := ⟨k - 1, by omega⟩
    have hm64 : m + 1 ≤ 64 := by obtain ⟨m', hm', h64, _⟩ := pow_size hs; omega
    have e3 : wrap64 (((i : Nat) : Int) + 1) = ((i + 1 : Nat) : Int) := by rw [w64_in (by omega) (by omega)]; rfl
    have hi2 : ((i : Nat) : Int) < 8 * s := by clear e hV hX e3 e8; omega
    rw [laws_FnShifts.l1, e8, if_pos hi2, shift_at hs hm hX (by omega) hf hr 1 (count_one s) (by omega), Option.bind_some, if_pos rfl, e3]
    exact ih k (i + 1) _ (by omega) (by omega) (vit_lt 1 _ hX) e
theorem FnShifts : laws_FnShifts.Pure := by
  intro l0 l1 _ h0 hb0 _ h1 hb1
  refine ⟨600, ?_⟩
  obtain ⟨A, eA, hA⟩ := number_tells hb0
  obtain ⟨s, es, hs⟩ := sizeAt_tells hb1 (by omega) 0 (by omega) (by omega)
  obtain ⟨F, eF, hF, hFr⟩ := drawn_tells hb1 (k := 599) (by omega)
  obtain ⟨o, eo, ho0, ho5⟩ := at_tells hb1 (by omega) 1 (by omega) (by omega) (n := 5) (by omega) (by omega)
  obtain ⟨c, ec, hc0, hc20⟩ := at_tells hb1 (by omega) 2 (by omega) (by omega) (n := 20) (by omega) (by omega)
  obtain ⟨n, rfl⟩ := Int.eq_ofNat_of_zero_le hc0
  obtain ⟨m, hm, h64, _⟩ := pow_size hs
  have hop : 20 ≤ wrap64 (20 + o) ∧ wrap64 (20 + o) ≤ 24 := by rw [w64_in (by omega) (by omega)]; omega
  obtain ⟨op, hopE⟩ : ∃ op, op = wrap64 (20 + o) := ⟨_, rfl⟩
  rw [← hopE] at hop
  have hV : un A % 2 ^ (m + 1) < 2 ^ (m + 1) := Nat.mod_lt _ (Nat.two_pow_pos _)
  have hza : zeroZ A s = wrap64 ((un A % 2 ^ (m + 1) : Nat) : Int) := by rw [zeroZ_eq hs hA, hm]
  have hn32 : n < 32 := by omega
  obtain ⟨s1, s2⟩ := shift_tells (b := ((n : Nat) : Int)) (k := 599) hs hm hA hop hF hFr n (count_n s hn32) (by omega)
  rw [it_val] at s1 s2
  have key : ∀ b, laws_FnShifts.j0 600 l0 l1 b = some true := fun b => by
    cases b
    rotate_left
    · rfl
    rw [laws_FnShifts.j0, if_neg (by decide), eA, Option.bind_some, es, Option.bind_some, eF, Option.bind_some, eo, Option.bind_some, ec, Option.bind_some, ← hopE, s2, Option.bind_some, s1, Option.bind_some, zeroOf_tells hs hA (by omega), Option.bind_some, hza]
    have H : ∀ k, 250 < k → laws_FnShifts.j2 k A s F op ((n : Nat) : Int) (wrap64 ((un A % 2 ^ (m + 1) : Nat) : Int)) false = some true := fun k hk => by
      obtain ⟨k, rfl⟩ : ∃ k', k = k' + 1 := ⟨k - 1, by omega⟩
      rw [laws_FnShifts.j2, if_neg (by decide)]
      exact l1_tells hs hm hop (by omega) hA hF hFr hV (m + 1) k 0 _ (by omega) (by omega) hV (rol_all hV)
    exact l0_tells hs hm hop hn32 H n 599 0 _ F (by omega) (by omega) hV hF hFr rfl rfl
  unfold laws_FnShifts.f
  split
  · exact key _
  · exact key _

end Go.Proofs.Ytdljhgmgpnpfiaa.Pure
