/- The law of FnRegs: what is set in a register is got. -/
import Derived.Test.YtgipadecllofkaaPFnRegsx4
import Derived.Test.YtgipadecllofkaaNum
import Derived.Test.YtgipadecllofkaaNumC
import Derived.Test.YtgipadecllofkaaNumD
import Derived.Test.YtgipadecllofkaaNumF
import Derived.Test.YtgipadecllofkaaNumH
namespace Go.Proofs.Ytgipadecllofkaa.Pure
open Go.RowKit Go.Proofs.Ytgipadecllofkaa.PFnRegs Go.Proofs.YtgipadecllofkaaW.PrintWords Go.Proofs.YtgipadecllofkaaW.PrintLast Go.Proofs.YtgipadecllofkaaW.PrintMore Go.Proofs.Ytgipadecllofkaa.Num
set_option linter.unusedVariables false
set_option linter.unusedSimpArgs false

/-- Right flags: of five bits alone. -/
def FlOK (f : Int) : Prop := 0 ≤ f ∧ Go.bits .and .i64 f 2245 = f
instance (f : Int) : Decidable (FlOK f) := by unfold FlOK; infer_instance
theorem flags_spec (f : Int) : spec_l06Flags.f f = some (decide (FlOK f)) := by
  unfold spec_l06Flags.f FlOK
  by_cases h : f ≥ 0
  · have h' : 0 ≤ f := h
    rw [if_pos h]
    simp [h', Bool.beq_eq_decide_eq]
  · have h' : ¬ 0 ≤ f := h
    rw [if_neg h]
    simp [h']
theorem and_not_mask (F M : Nat) (hF : F < 2 ^ 64) (hM : M < 2 ^ 64) : (F &&& (18446744073709551615 - M) = 0) ↔ (F &&& M = F) := by
  have e : ∀ i, (18446744073709551615 - M).testBit i = (decide (i < 64) && !M.testBit i) := by
    intro i
    have h := Nat.testBit_two_pow_sub_succ hM i
    rw [show 2 ^ 64 - (M + 1) = 18446744073709551615 - M by omega] at h
    exact h
  constructor
  · intro h
    apply Nat.eq_of_testBit_eq
    intro i
    rw [Nat.testBit_and]
    have h1 := congrArg (fun n => Nat.testBit n i) h
    simp only [Nat.testBit_and, e, Nat.zero_testBit] at h1
    by_cases hi : i < 64
    · cases hf : F.testBit i <;> cases hm : M.testBit i <;> simp_all
    · rw [Nat.testBit_lt_two_pow (Nat.lt_of_lt_of_le hF (Nat.pow_le_pow_right (by decide) (by omega)))]
      rfl
  · intro h
    apply Nat.eq_of_testBit_eq
    intro i
    rw [Nat.testBit_and, e, Nat.zero_testBit]
    have h1 := congrArg (fun n => Nat.testBit n i) h
    simp only [Nat.testBit_and] at h1
    cases hf : F.testBit i <;> cases hm : M.testBit i <;> simp_all
theorem flagsOK_iff {f : Int} (hf : -9223372036854775808 ≤ f ∧ f ≤ 9223372036854775807) : (Go.bits .andNot .i64 f 2245 = 0) ↔ FlOK f := by
  have hu := un_lt f
  have hM : un 2245 = 2245 := rfl
  have key := and_not_mask (un f) 2245 hu (by decide)
  have e1 : Go.bits .andNot .i64 f 2245 = wrap64 ((un f &&& (18446744073709551615 - 2245) : Nat) : Int) := by rw [andNot_un, hM]
  have hlt : un f &&& (18446744073709551615 - 2245) < 18446744073709551616 := Nat.and_lt_two_pow (n := 64) _ (by decide)
  have l1 : Go.bits .andNot .i64 f 2245 = 0 ↔ un f &&& (18446744073709551615 - 2245) = 0 := by
    rw [e1]
    constructor
    · intro h
      have h2 := congrArg un h
      rw [un_wnat hlt] at h2
      exact h2
    · intro h; rw [h]; exact w64_in (n := ((0 : Nat) : Int)) (by omega) (by omega)
  have l2 : FlOK f ↔ un f &&& 2245 = un f := by
    constructor
    · rintro ⟨h0, h⟩
      have h2 := congrArg un h
      rw [un_and, hM] at h2
      exact h2
    · intro h
      have h3 : un f &&& 2245 ≤ 2245 := Nat.and_le_right
      rw [h] at h3
      refine ⟨by unfold un at h3; omega, ?_⟩
      rw [and_un, hM, h]
      exact (eq_wrap hf).symm
  rw [l1, l2, key]
theorem areFlags_impl {f : Int} (hf : -9223372036854775808 ≤ f ∧ f ≤ 9223372036854775807) : impl_areFlags.f f = some (decide (FlOK f)) := by
  unfold impl_areFlags.f
  rw [Bool.beq_eq_decide_eq, decide_eq_decide.mpr (flagsOK_iff hf)]
theorem size_spec (s : Int) : spec_l01Size.f s = some (decide (Sz s)) := by
  unfold spec_l01Size.f Sz
  by_cases h1 : s = 1 <;> by_cases h2 : s = 2 <;> by_cases h4 : s = 4 <;> by_cases h8 : s = 8 <;> simp_all
theorem size_impl (s : Int) : impl_isSize.f s = some (decide (Sz s)) := size_spec s
theorem bit_spec (a i : Int) (h0 : 0 ≤ i) (h1 : i < 64) : spec_l01Bit.f a i = some (bit a i) := by
  unfold spec_l01Bit.f
  have hi : IntKind.u64.wrap i = i := u64_in h0 (by omega)
  have ha : IntKind.u64.wrap a = (un a : Int) := by rw [IntKind.wrap_u64, un_eq]
  rw [hi, if_pos h0, ha, shr_u64 _ _ (by omega) h0 h1, Int.toNat_natCast]
  unfold bit
  have e : Int.tmod ((un a / 2 ^ i.toNat : Nat) : Int) 2 = ((un a / 2 ^ i.toNat % 2 : Nat) : Int) := by
    rw [Int.tmod_eq_emod_of_nonneg (Int.natCast_nonneg _)]; rfl
  rw [e]
  rcases Nat.mod_two_eq_zero_or_one (un a / 2 ^ i.toNat) with h | h <;> rw [h] <;> simp
theorem zero_loop (a : Int) (n : Nat) (hn : n ≤ 64) : ∀ (j k : Nat), j ≤ n → j < k →
    spec_l01Zero.l0 k a ((un a % 2 ^ n / 2 ^ j : Nat) : Int) ((j : Int) - 1) = some (wrap64 ((un a % 2 ^ n : Nat) : Int))
  | j, 0, _, hk => by omega
  | 0, k + 1, _, _ => by
    simp only [spec_l01Zero.l0]
    rw [if_neg (by omega)]
    simp
  | j + 1, k + 1, hj, hk => by
    simp only [spec_l01Zero.l0]
    rw [if_pos (by omega), show ((j + 1 : Nat) : Int) - 1 = (j : Int) by omega, bit_spec _ _ (by omega) (by omega)]
    simp only [Option.bind_some]
    have hl := un_lt' a
    have h2 : un a % 2 ^ n ≤ un a := Nat.mod_le _ _
    have h3 := half_step (un a % 2 ^ n) j
    have h4 := mod_bit (un a) n j (by omega)
    have h5 : un a % 2 ^ n / 2 ^ j ≤ un a % 2 ^ n := Nat.div_le_self _ _
    have e : IntKind.u64.wrap (IntKind.u64.wrap (2 * ((un a % 2 ^ n / 2 ^ (j + 1) : Nat) : Int)) + IntKind.u64.wrap (bit a (j : Int))) = ((un a % 2 ^ n / 2 ^ j : Nat) : Int) := by
      unfold bit
      rw [Int.toNat_natCast, ← h4]
      rw [u64_in (n := 2 * _) (by omega) (by omega), u64_in (n := ((un a % 2 ^ n / 2 ^ j % 2 : Nat) : Int)) (by omega) (by omega), u64_in (by omega) (by omega)]
      omega
    rw [e, show wrap64 ((j : Int) - 1) = (j : Int) - 1 from w64_in (by omega) (by omega)]
    exact zero_loop a n hn j k (by omega) (by omega)
theorem zero_spec {k : Nat} {a s : Int} (hs : Sz s) (ha : -9223372036854775808 ≤ a ∧ a ≤ 9223372036854775807) (hk : 64 < k) : spec_l01Zero.f k a s = some (zeroZ a s) := by
  unfold spec_l01Zero.f
  have h8 : 0 ≤ 8 * s ∧ 8 * s ≤ 64 := by rcases hs with rfl | rfl | rfl | rfl <;> omega
  rw [w64_in (n := 8 * s) (by omega) (by omega), w64_in (by omega) (by omega), ← zeroZ_un hs ha]
  have h := zero_loop a (8 * s).toNat (by omega) (8 * s).toNat k (by omega) (by omega)
  rw [show un a % 2 ^ (8 * s).toNat / 2 ^ (8 * s).toNat = 0 from Nat.div_eq_of_lt (Nat.mod_lt _ (Nat.two_pow_pos _)), show (((8 * s).toNat : Nat) : Int) = 8 * s by omega] at h
  exact h
theorem zero_impl {a s : Int} (hs : Sz s) : impl_zero.f a s = some (zeroZ a s) := by
  unfold impl_zero.f
  rcases hs with rfl | rfl | rfl | rfl
  · rw [if_neg (by omega), if_pos (by unfold wrap64; omega), show wrap64 (shl .i64 1 (wrap64 (8 * 1)) - 1) = 2 ^ 8 - 1 by decide +kernel, and_mask _ _ (by decide)]; rfl
  · rw [if_neg (by omega), if_pos (by unfold wrap64; omega), show wrap64 (shl .i64 1 (wrap64 (8 * 2)) - 1) = 2 ^ 16 - 1 by decide +kernel, and_mask _ _ (by decide)]; rfl
  · rw [if_neg (by omega), if_pos (by unfold wrap64; omega), show wrap64 (shl .i64 1 (wrap64 (8 * 4)) - 1) = 2 ^ 32 - 1 by decide +kernel, and_mask _ _ (by decide)]; rfl
  · rw [if_pos rfl]; rfl
theorem in_spec (a lo hi : Int) : spec_l01In.f a lo hi = some (decide (lo ≤ a ∧ a ≤ hi)) := by
  unfold spec_l01In.f
  by_cases h : a ≥ lo
  · rw [if_pos h]; congr 1; exact decide_eq_decide.mpr ⟨fun g => ⟨h, g⟩, fun g => g.2⟩
  · rw [if_neg h]; congr 1; exact (decide_eq_false (fun g => h g.1)).symm
theorem in_impl (a lo hi : Int) : impl_within.f a lo hi = some (decide (lo ≤ a ∧ a ≤ hi)) := in_spec a lo hi
/-- A register that there is, of that size. -/
def RegOK (a s : Int) : Prop := Sz s ∧ 0 ≤ a ∧ (a ≤ 15 ∨ (s = 1 ∧ a ≤ 19))
instance (a s : Int) : Decidable (RegOK a s) := by unfold RegOK; infer_instance
theorem regOK_spec (a s : Int) : spec_l07RegOK.f a s = some (decide (RegOK a s)) := by
  unfold spec_l07RegOK.f
  rw [size_spec, Option.bind_some]
  by_cases hs : Sz s
  · rw [if_pos (by simpa using hs), in_spec, Option.bind_some]
    by_cases h1 : 0 ≤ a ∧ a ≤ 15
    · rw [if_pos (by simpa using h1), decide_eq_true (show RegOK a s from ⟨hs, h1.1, Or.inl h1.2⟩)]
    · rw [if_neg (by simpa using h1)]
      by_cases h2 : s = 1
      · rw [if_pos h2, in_spec, Option.bind_some]
        congr 1
        exact decide_eq_decide.mpr (show (16 ≤ a ∧ a ≤ 19) ↔ RegOK a s from ⟨fun g => ⟨hs, by omega, Or.inr ⟨h2, g.2⟩⟩, fun g => by obtain ⟨_, g1, g2⟩ := g; omega⟩)
      · rw [if_neg h2, decide_eq_false (fun g : RegOK a s => by obtain ⟨_, g1, g2⟩ := g; omega)]
  · rw [if_neg (by simpa using hs), decide_eq_false (fun g : RegOK a s => hs g.1)]
theorem regOK_impl (a s : Int) : impl_isReg.f a s = some (decide (RegOK a s)) := by
  rw [← regOK_spec]
  have hh : impl_isHigh.f a = spec_l01In.f a 16 19 := by unfold impl_isHigh.f; rw [in_impl, in_spec]; rfl
  unfold impl_isReg.f spec_l07RegOK.f
  rw [hh]
  rfl
theorem rd_range {x : List Int} (hw : ∀ n ∈ x, (Lit.int .i64 n).wf = true) (i : Int) : -9223372036854775808 ≤ rdOf 0 x i ∧ rdOf 0 x i ≤ 9223372036854775807 := by
  unfold rdOf
  rw [List.getD_eq_getElem?_getD]
  cases h : x[i.toNat]? with
  | none => simp
  | some n => exact wf_i64 (hw n (List.mem_of_getElem? h))
/-- What a register holds, as it is got. -/
def getZ (x : List Int) (a s : Int) : Int := if a < 16 then zeroZ (rdOf 0 x a) s else zeroZ (shr .i64 (rdOf 0 x (a - 16)) 8) 1
theorem get_impl {x : List Int} {a s : Int} (h : RegOK a s) : impl_Cpu_get.f x a s = some (getZ x a s) := by
  obtain ⟨hs, h0, h1⟩ := h
  unfold impl_Cpu_get.f getZ
  rw [if_pos h0]
  by_cases c : a < 16
  · rw [if_pos c, if_pos c, zero_impl hs]
  · rw [if_neg c, if_neg c, if_pos (by omega), zero_impl (show Sz 1 by unfold Sz; omega)]
theorem u64_un (v : Int) : IntKind.u64.wrap v = ((un v : Nat) : Int) := by rw [IntKind.wrap_u64]; unfold un; omega
theorem un_u64 (v : Int) : un (IntKind.u64.wrap v) = un v := by rw [u64_un]; exact un_nat (un_lt' v)
theorem or_u64 (a b : Int) : Go.bits .or .u64 a b = ((un a ||| un b : Nat) : Int) := by
  show IntKind.u64.wrap ((BitVec.ofInt 64 a ||| BitVec.ofInt 64 b).toNat : Int) = _
  rw [BitVec.toNat_or, un_bv, un_bv]
  have := Nat.or_lt_two_pow (un_lt a) (un_lt b)
  exact u64_in (by omega) (by omega)
theorem andNot_u64 (a b : Int) : Go.bits .andNot .u64 a b = ((un a &&& (18446744073709551615 - un b) : Nat) : Int) := by
  show IntKind.u64.wrap ((BitVec.ofInt 64 a &&& ~~~(BitVec.ofInt 64 b)).toNat : Int) = _
  rw [BitVec.toNat_and, BitVec.toNat_not, un_bv, un_bv]
  have : un a &&& (18446744073709551615 - un b) ≤ un a := Nat.and_le_left
  have := un_lt' a
  show IntKind.u64.wrap ((un a &&& (18446744073709551615 - un b) : Nat) : Int) = _
  exact u64_in (by omega) (by omega)
theorem keep_high (U n : Nat) (hU : U < 2 ^ 64) (hn : n ≤ 64) : U &&& (18446744073709551615 - (2 ^ n - 1)) = 2 ^ n * (U / 2 ^ n) := by
  have hp : 2 ^ n ≤ 2 ^ 64 := Nat.pow_le_pow_right (by decide) hn
  have hpos : 0 < 2 ^ n := Nat.two_pow_pos n
  apply Nat.eq_of_testBit_eq
  intro i
  have h := Nat.testBit_two_pow_sub_succ (show 2 ^ n - 1 < 2 ^ 64 by omega) i
  rw [show 2 ^ 64 - (2 ^ n - 1 + 1) = 18446744073709551615 - (2 ^ n - 1) by omega] at h
  rw [Nat.testBit_and, h, Nat.testBit_two_pow_sub_one, Nat.testBit_two_pow_mul, Nat.testBit_div_two_pow]
  by_cases c : i < n
  · have c' : ¬ n ≤ i := by omega
    simp [c, c']
  · have c' : n ≤ i := by omega
    by_cases c2 : i < 64
    · simp [c, c', c2, show i - n + n = i by omega]
    · have : U.testBit i = false := Nat.testBit_lt_two_pow (Nat.lt_of_lt_of_le hU (Nat.pow_le_pow_right (by decide) (by omega)))
      simp [c, c', show i - n + n = i by omega, this]
theorem low1_eq (v z : Int) (h0 : 0 ≤ z) (h1 : z < 256) :
    wrap64 (Go.bits BinOp.or IntKind.u64 (Go.bits BinOp.andNot IntKind.u64 (IntKind.u64.wrap v) 255) (IntKind.u64.wrap (IntKind.u64.wrap z))) = wrap64 (v + wrap64 (z - zeroZ v 1)) := by
  have hb := un_lt' v
  have hk := keep_high (un v) 8 (un_lt v) (by omega)
  have e255 : un 255 = 2 ^ 8 - 1 := rfl
  have hz : un z = z.toNat := by unfold un; omega
  have hlt : 2 ^ 8 * (un v / 2 ^ 8) < 18446744073709551616 := by omega
  have ho := Nat.two_pow_add_eq_or_of_lt (i := 8) (b := z.toNat) (by omega) (un v / 2 ^ 8)
  rw [or_u64, andNot_u64, un_u64, un_u64, un_u64, e255, hk, un_nat hlt, hz, ← ho, zeroZ_one]
  have hv : ((un v : Nat) : Int) = v % 18446744073709551616 := un_eq v
  generalize un v = U at *
  unfold wrap64
  omega
theorem low2_eq (v z : Int) (h0 : 0 ≤ z) (h1 : z < 65536) :
    wrap64 (Go.bits BinOp.or IntKind.u64 (Go.bits BinOp.andNot IntKind.u64 (IntKind.u64.wrap v) 65535) (IntKind.u64.wrap (IntKind.u64.wrap z))) = wrap64 (v + wrap64 (z - zeroZ v 2)) := by
  have hb := un_lt' v
  have hk := keep_high (un v) 16 (un_lt v) (by omega)
  have e255 : un 65535 = 2 ^ 16 - 1 := rfl
  have hz : un z = z.toNat := by unfold un; omega
  have hlt : 2 ^ 16 * (un v / 2 ^ 16) < 18446744073709551616 := by omega
  have ho := Nat.two_pow_add_eq_or_of_lt (i := 16) (b := z.toNat) (by omega) (un v / 2 ^ 16)
  rw [or_u64, andNot_u64, un_u64, un_u64, un_u64, e255, hk, un_nat hlt, hz, ← ho, zeroZ_two]
  have hv : ((un v : Nat) : Int) = v % 18446744073709551616 := un_eq v
  generalize un v = U at *
  unfold wrap64
  omega
theorem high_set (v z : Int) (h0 : 0 ≤ z) (h1 : z < 256) :
    wrap64 (Go.bits BinOp.or IntKind.u64 (Go.bits BinOp.andNot IntKind.u64 (IntKind.u64.wrap v) 65280) (IntKind.u64.wrap (IntKind.u64.wrap z * 256))) = Go.bits BinOp.or IntKind.i64 (Go.bits BinOp.andNot IntKind.i64 v 65280) (IntKind.i64.wrap (z * 256)) := by
  have hle : un v &&& (18446744073709551615 - un 65280) ≤ un v := Nat.and_le_left
  have hb := un_lt' v
  rw [or_u64, andNot_u64, un_u64, un_u64, or_un, andNot_un, un_nat (by omega), un_wnat (by omega), i64_wrap, un_w64, u64_in (n := z) (by omega) (by omega)]
theorem zero1_range (v : Int) : 0 ≤ zeroZ v 1 ∧ zeroZ v 1 < 256 := by rw [zeroZ_one]; omega
theorem zero2_range (v : Int) : 0 ≤ zeroZ v 2 ∧ zeroZ v 2 < 65536 := by rw [zeroZ_two]; omega
theorem rd_byte {l : List Int} (hl : ∀ x ∈ l, (Lit.int .u8 x).wf = true) (i : Int) : 0 ≤ rd l i ∧ rd l i ≤ 255 := by
  unfold rd
  rw [List.getD_eq_getElem?_getD]
  cases h : l[i.toNat]? with
  | none => simp
  | some x =>
    have h2 := hl x (List.mem_of_getElem? h)
    simp [Lit.wf, IntKind.min, IntKind.max, IntKind.bits, IntKind.signed] at h2
    simp only [Option.getD_some]
    omega
theorem tmod_pos {a : Int} (b : Int) (h : 0 ≤ a) : Int.tmod a b = a % b := Int.tmod_eq_emod_of_nonneg h
theorem src_one (q r : Int) (h0 : 0 ≤ q) (h1 : q < 2147483648) (r0 : 0 ≤ r) (r1 : r ≤ 255) : 0 ≤ Int.tmod (wrap64 (wrap64 (wrap64 (q * 31) + r) + 7)) 2147483648 ∧ Int.tmod (wrap64 (wrap64 (wrap64 (q * 31) + r) + 7)) 2147483648 < 2147483648 := by
  rw [w64_in (n := q * 31) (by omega) (by omega), w64_in (n := q * 31 + r) (by omega) (by omega), w64_in (by omega) (by omega), tmod_pos _ (by omega)]
  omega
theorem src_two (q : Int) (h0 : 0 ≤ q) (h1 : q < 2147483648) : 0 ≤ Int.tmod (wrap64 (wrap64 (q * 1103515245) + 12345)) 2147483648 ∧ Int.tmod (wrap64 (wrap64 (q * 1103515245) + 12345)) 2147483648 < 2147483648 := by
  rw [w64_in (n := q * 1103515245) (by omega) (by omega), w64_in (by omega) (by omega), tmod_pos _ (by omega)]
  omega
theorem src_three (q : Int) (h0 : 0 ≤ q) (h1 : q < 2147483648) : 0 ≤ Int.tmod (wrap64 (Int.tdiv q 65536)) 256 ∧ Int.tmod (wrap64 (Int.tdiv q 65536)) 256 ≤ 255 := by
  rw [Int.tdiv_eq_ediv_of_nonneg h0, w64_in (by omega) (by omega), tmod_pos _ (by omega)]
  omega
theorem byte_tells {l : List Int} (hl : ∀ x ∈ l, (Lit.int .u8 x).wf = true) {p q : Int} (p0 : 0 ≤ p) (p1 : p ≤ 1000) (q0 : 0 ≤ q) (q1 : q < 2147483648) :
    ∃ v q', spec_l00Src_byte.f l p q = some (v, p + 1, q') ∧ 0 ≤ v ∧ v ≤ 255 ∧ 0 ≤ q' ∧ q' < 2147483648 := by
  unfold spec_l00Src_byte.f
  have r := rd_byte hl p
  have t2 := src_two q q0 q1
  have t3 := src_three _ t2.1 t2.2
  rw [w64_in (n := p + 1) (by omega) (by omega), w64_in (n := p + 1 - 1) (by omega) (by omega), show p + 1 - 1 = p by omega, w64_in (n := rd l p) (by omega) (by omega)]
  have t1 := src_one q (rd l p) q0 q1 r.1 r.2
  by_cases h : p + 1 ≤ (l.length : Int)
  · rw [if_pos h, if_pos p0, if_pos (by omega)]
    exact ⟨_, _, rfl, r.1, r.2, t1.1, t1.2⟩
  · rw [if_neg h, if_neg (by omega)]
    exact ⟨_, _, rfl, t3.1, t3.2, t2.1, t2.2⟩
theorem next_tells {l : List Int} (hl : ∀ x ∈ l, (Lit.int .u8 x).wf = true) {p q : Int} (p0 : 0 ≤ p) (p1 : p ≤ 900) (q0 : 0 ≤ q) (q1 : q < 2147483648) {n : Int} (n1 : 1 < n) (n2 : n ≤ 2147483648) :
    ∃ v p' q', spec_l00Src_next.f l p q n = some (v, p', q') ∧ 0 ≤ v ∧ v < n ∧ p ≤ p' ∧ p' ≤ p + 3 ∧ 0 ≤ q' ∧ q' < 2147483648 := by
  unfold spec_l00Src_next.f
  rw [if_neg (by omega)]
  obtain ⟨v1, s1, e1, a1, b1, c1, d1⟩ := byte_tells hl p0 (by omega) q0 q1
  obtain ⟨v2, s2, e2, a2, b2, c2, d2⟩ := byte_tells hl (p := p + 1) (by omega) (by omega) c1 d1
  obtain ⟨v3, s3, e3, a3, b3, c3, d3⟩ := byte_tells hl (p := p + 1 + 1) (by omega) (by omega) c2 d2
  simp only [e1, e2, e3, Option.bind_some]
  by_cases h : n ≤ 256
  · rw [if_pos h, if_neg (by omega)]
    refine ⟨_, _, _, rfl, ?_, ?_, by omega, by omega, c1, d1⟩
    · rw [tmod_pos _ a1]; exact Int.emod_nonneg _ (by omega)
    · rw [tmod_pos _ a1]; exact Int.emod_lt_of_pos _ (by omega)
  · rw [if_neg h, if_neg (by omega), w64_in (n := v1 * 65536) (by omega) (by omega), w64_in (n := v2 * 256) (by omega) (by omega), w64_in (n := v1 * 65536 + v2 * 256) (by omega) (by omega), w64_in (by omega) (by omega)]
    refine ⟨_, _, _, rfl, ?_, ?_, by omega, by omega, c3, d3⟩
    · rw [tmod_pos _ (by omega)]; exact Int.emod_nonneg _ (by omega)
    · rw [tmod_pos _ (by omega)]; exact Int.emod_lt_of_pos _ (by omega)
theorem word_tells {l : List Int} (hl : ∀ x ∈ l, (Lit.int .u8 x).wf = true) {p q : Int} (p0 : 0 ≤ p) (p1 : p ≤ 900) (q0 : 0 ≤ q) (q1 : q < 2147483648) :
    ∃ v p' q', spec_l00Src_word.f l p q = some (v, p', q') ∧ 0 ≤ v ∧ v ≤ 4294967295 ∧ p ≤ p' ∧ p' ≤ p + 4 ∧ 0 ≤ q' ∧ q' < 2147483648 := by
  unfold spec_l00Src_word.f
  obtain ⟨v1, s1, e1, a1, b1, c1, d1⟩ := byte_tells hl p0 (by omega) q0 q1
  obtain ⟨v2, s2, e2, a2, b2, c2, d2⟩ := byte_tells hl (p := p + 1) (by omega) (by omega) c1 d1
  obtain ⟨v3, s3, e3, a3, b3, c3, d3⟩ := byte_tells hl (p := p + 1 + 1) (by omega) (by omega) c2 d2
  obtain ⟨v4, s4, e4, a4, b4, c4, d4⟩ := byte_tells hl (p := p + 1 + 1 + 1) (by omega) (by omega) c3 d3
  simp only [e1, e2, e3, e4, Option.bind_some]
  refine ⟨_, _, _, rfl, ?_, ?_, by omega, by omega, c4, d4⟩ <;> unfold wrap64 <;> omega
theorem wide_tells {l : List Int} (hl : ∀ x ∈ l, (Lit.int .u8 x).wf = true) {p q : Int} (p0 : 0 ≤ p) (p1 : p ≤ 800) (q0 : 0 ≤ q) (q1 : q < 2147483648) :
    ∃ v p' q', spec_l00Src_wide.f l p q = some (v, p', q') ∧ -9223372036854775808 ≤ v ∧ v ≤ 9223372036854775807 ∧ p ≤ p' ∧ p' ≤ p + 12 ∧ 0 ≤ q' ∧ q' < 2147483648 := by
  unfold spec_l00Src_wide.f
  obtain ⟨v1, r1, s1, e1, a1, b1, x1, y1, c1, d1⟩ := next_tells hl p0 (by omega) q0 q1 (n := 8) (by omega) (by omega)
  simp only [e1, Option.bind_some]
  by_cases h0 : v1 = 0
  · rw [if_pos h0]
    obtain ⟨v2, r2, s2, e2, a2, b2, x2, y2, c2, d2⟩ := word_tells hl (p := r1) (by omega) (by omega) c1 d1
    obtain ⟨v3, r3, s3, e3, a3, b3, x3, y3, c3, d3⟩ := word_tells hl (p := r2) (by omega) (by omega) c2 d2
    simp only [e2, e3, Option.bind_some]
    exact ⟨_, _, _, rfl, (and_range _ _ _).1, (and_range _ _ _).2, by omega, by omega, c3, d3⟩
  rw [if_neg h0]
  by_cases h1 : v1 = 1
  · rw [if_pos h1]
    obtain ⟨v2, r2, s2, e2, a2, b2, x2, y2, c2, d2⟩ := next_tells hl (p := r1) (by omega) (by omega) c1 d1 (n := 15) (by omega) (by omega)
    unfold spec_l00Src_odd.f
    simp only [e2, Option.bind_some]
    rw [if_pos a2, if_pos (by simp; omega)]
    simp only [Option.bind_some]
    refine ⟨_, _, _, rfl, ?_, ?_, by omega, by omega, c2, d2⟩
    · have : ∀ i : Fin 15, -9223372036854775808 ≤ rd [0, (-1), 1, 2, 31, 32, 33, 255, 256, 4095, 4096, 16384, 9223372036854775807, (-9223372036854775808), 30] (i.val : Int) := by decide +kernel
      have t := this ⟨v2.toNat, by omega⟩
      simp only [show ((v2.toNat : Nat) : Int) = v2 by omega] at t
      exact t
    · have : ∀ i : Fin 15, rd [0, (-1), 1, 2, 31, 32, 33, 255, 256, 4095, 4096, 16384, 9223372036854775807, (-9223372036854775808), 30] (i.val : Int) ≤ 9223372036854775807 := by decide +kernel
      have t := this ⟨v2.toNat, by omega⟩
      simp only [show ((v2.toNat : Nat) : Int) = v2 by omega] at t
      exact t
  rw [if_neg h1]
  obtain ⟨v2, r2, s2, e2, a2, b2, x2, y2, c2, d2⟩ := next_tells hl (p := r1) (by omega) (by omega) c1 d1 (n := 300) (by omega) (by omega)
  by_cases h2 : v1 = 2
  · rw [if_pos h2]
    simp only [e2, Option.bind_some]
    exact ⟨_, _, _, rfl, (w64_range _).1, (w64_range _).2, by omega, by omega, c2, d2⟩
  rw [if_neg h2]
  by_cases h3 : v1 = 3
  · rw [if_pos h3]
    obtain ⟨v2, r2, s2, e2, a2, b2, x2, y2, c2, d2⟩ := word_tells hl (p := r1) (by omega) (by omega) c1 d1
    simp only [e2, Option.bind_some]
    exact ⟨_, _, _, rfl, (w64_range _).1, (w64_range _).2, by omega, by omega, c2, d2⟩
  rw [if_neg h3]
  by_cases h4 : v1 = 4
  · rw [if_pos h4]
    obtain ⟨v2, r2, s2, e2, a2, b2, x2, y2, c2, d2⟩ := next_tells hl (p := r1) (by omega) (by omega) c1 d1 (n := 64) (by omega) (by omega)
    simp only [e2, Option.bind_some]
    rw [if_pos (by rw [u64_in (by omega) (by omega)]; omega)]
    refine ⟨_, _, _, rfl, ?_, ?_, by omega, by omega, c2, d2⟩ <;> unfold shl <;> rw [i64_wrap]
    · exact (w64_range _).1
    · exact (w64_range _).2
  rw [if_neg h4]
  by_cases h5 : v1 = 5
  · rw [if_pos h5]
    obtain ⟨v2, r2, s2, e2, a2, b2, x2, y2, c2, d2⟩ := next_tells hl (p := r1) (by omega) (by omega) c1 d1 (n := 63) (by omega) (by omega)
    simp only [e2, Option.bind_some]
    rw [if_pos (by rw [u64_in (by omega) (by omega)]; omega)]
    exact ⟨_, _, _, rfl, (w64_range _).1, (w64_range _).2, by omega, by omega, c2, d2⟩
  rw [if_neg h5]
  simp only [e2, Option.bind_some]
  exact ⟨_, _, _, rfl, by omega, by omega, by omega, by omega, c2, d2⟩
theorem number_tells {l : List Int} (hl : ∀ x ∈ l, (Lit.int .u8 x).wf = true) : ∃ v, spec_NumberOf.f l = some v ∧ -9223372036854775808 ≤ v ∧ v ≤ 9223372036854775807 := by
  unfold spec_NumberOf.f spec_l00Source.f
  obtain ⟨v, p', q', e, a, b, _⟩ := wide_tells hl (p := 0) (q := (l.length : Int) % 1000) (by omega) (by omega) (by omega) (by omega)
  simp only [e, Option.bind_some]
  exact ⟨_, rfl, a, b⟩
theorem at_tells {l : List Int} (hl : ∀ x ∈ l, (Lit.int .u8 x).wf = true) (hlen : l.length ≤ 140737488351232) (i : Int) (i0 : 0 ≤ i) (i1 : i ≤ 1000) {n : Int} (n1 : 1 < n) (n2 : n ≤ 2147483648) : ∃ v, laws_at.f l i n = some v ∧ 0 ≤ v ∧ v < n := by
  unfold laws_at.f
  rw [if_neg (by omega)]
  by_cases h : (l.length : Int) = 0
  · rw [if_pos h, if_neg (by omega), w64_in (by omega) (by omega), tmod_pos _ (by omega)]
    exact ⟨_, rfl, Int.emod_nonneg _ (by omega), Int.emod_lt_of_pos _ (by omega)⟩
  · have r1 := rd_byte hl (i % (l.length : Int))
    have r2 := rd_byte hl ((i + 1) % (l.length : Int))
    have m1 := Int.emod_nonneg i h
    have m2 := Int.emod_lt_of_pos i (b := (l.length : Int)) (by omega)
    have m3 := Int.emod_nonneg (i + 1) h
    have m4 := Int.emod_lt_of_pos (i + 1) (b := (l.length : Int)) (by omega)
    have d0 : 0 ≤ i / (l.length : Int) := Int.ediv_nonneg i0 (by omega)
    have d1 : i / (l.length : Int) ≤ i := Int.ediv_le_self _ i0
    rw [if_neg h, w64_in (n := i + 1) (by omega) (by omega), tmod_pos _ i0, tmod_pos (a := i + 1) _ (by omega), Int.tdiv_eq_ediv_of_nonneg i0, if_pos m1, if_pos m2, if_pos m3, if_pos m4, if_neg (by omega)]
    generalize rd l (i % (l.length : Int)) = a at *
    generalize rd l ((i + 1) % (l.length : Int)) = b at *
    generalize i / (l.length : Int) = d at *
    clear m1 m2 m3 m4
    rw [w64_in (n := a) (by omega) (by omega), w64_in (n := b) (by omega) (by omega), w64_in (n := d) (by omega) (by omega), w64_in (n := a * 31) (by omega) (by omega), w64_in (n := a * 31 + b) (by omega) (by omega), w64_in (by omega) (by omega), tmod_pos _ (by omega)]
    exact ⟨_, rfl, Int.emod_nonneg _ (by omega), Int.emod_lt_of_pos _ (by omega)⟩
theorem fl_range {f : Int} (h : FlOK f) : -9223372036854775808 ≤ f ∧ f ≤ 9223372036854775807 := by
  have := and_range .and f 2245
  rw [h.2] at this
  exact this
theorem un_range {a : Int} (h : -9223372036854775808 ≤ a ∧ a ≤ 9223372036854775807) : wrap64 ((un a : Nat) : Int) = a := (eq_wrap h).symm
theorem bne_of_eq {a b : Int} (h : a = b) : (a == b) = true := by rw [h]; simp
/-! ### the flags that are drawn -/
theorem or_nat {a b : Nat} (ha : a < 4096) (hb : b < 4096) : Go.bits .or .i64 (a : Int) (b : Int) = ((a ||| b : Nat) : Int) := by
  have h : a ||| b < 4096 := Nat.or_lt_two_pow (n := 12) ha hb
  rw [or_un, show un (a : Int) = a by unfold un; omega, show un (b : Int) = b by unfold un; omega]
  exact w64_in (by omega) (by omega)
theorem fl_nat {a : Nat} (h : a &&& 2245 = a) : FlOK (a : Int) := by
  have h1 : a ≤ 2245 := by rw [← h]; exact Nat.and_le_right
  refine ⟨by omega, ?_⟩
  rw [and_un, show un (a : Int) = a by unfold un; omega, show un 2245 = 2245 from rfl, h]
  exact w64_in (by omega) (by omega)
theorem rd_flags (i : Nat) (h : i < 5) : ∃ c : Nat, rd [1, 4, 64, 128, 2048] (i : Int) = (c : Int) ∧ c &&& 2245 = c := by
  match i, h with
  | 0, _ => exact ⟨1, rfl, by decide⟩
  | 1, _ => exact ⟨4, rfl, by decide⟩
  | 2, _ => exact ⟨64, rfl, by decide⟩
  | 3, _ => exact ⟨128, rfl, by decide⟩
  | 4, _ => exact ⟨2048, rfl, by decide⟩
theorem flags_step {l : List Int} (hl : ∀ x ∈ l, (Lit.int .u8 x).wf = true) (j : Nat) : ∀ (i : Nat) (k : Nat) (a : Nat) (p q : Int), i + j = 5 → j < k → a &&& 2245 = a → 0 ≤ p → p + 3 * (j : Int) ≤ 850 → 0 ≤ q → q < 2147483648 →
    ∃ (b : Nat) (p' q' : Int), spec_l00Src_flags.l0 k (a : Int) [1, 4, 64, 128, 2048] 5 (i : Int) l p q = some ((b : Int), p', q') ∧ b &&& 2245 = b ∧ p ≤ p' ∧ p' ≤ p + 3 * (j : Int) ∧ 0 ≤ q' ∧ q' < 2147483648 := by
  induction j with
  | zero =>
    intro i k a p q hi hk ha p0 p1 q0 q1
    obtain ⟨k, rfl⟩ : ∃ k', k = k' + 1 := ⟨k - 1, by omega⟩
    obtain rfl : i = 5 := by omega
    rw [spec_l00Src_flags.l0, if_neg (by omega)]
    exact ⟨a, p, q, rfl, ha, by omega, by omega, q0, q1⟩
  | succ j ih =>
    intro i k a p q hi hk ha p0 p1 q0 q1
    obtain ⟨k, rfl⟩ : ∃ k', k = k' + 1 := ⟨k - 1, by omega⟩
    obtain ⟨v, p2, q2, e, v0, v1, x0, x1, y0, y1⟩ := next_tells hl p0 (by omega) q0 q1 (n := 2) (by omega) (by omega)
    rw [spec_l00Src_flags.l0, if_pos (by omega), if_pos (by omega), if_pos (by simp; omega)]
    unfold spec_l00Src_chance.f
    rw [e, Option.bind_some, Option.bind_some]
    rw [show wrap64 ((i : Int) + 1) = ((i + 1 : Nat) : Int) by unfold wrap64; omega]
    obtain ⟨c, hc, hcm⟩ := rd_flags i (by omega)
    have ha1 : a ≤ 2245 := by rw [← ha]; exact Nat.and_le_right
    have hc1 : c ≤ 2245 := by rw [← hcm]; exact Nat.and_le_right
    have ho : (a ||| c) &&& 2245 = a ||| c := by rw [Nat.and_or_distrib_right, ha, hcm]
    rw [hc, or_nat (by omega) (by omega)]
    obtain ⟨b1, p3, q3, e1, h1, h2, h3, h4, h5⟩ := ih (i + 1) k (a ||| c) p2 q2 (by omega) (by omega) ho (by omega) (by omega) y0 y1
    obtain ⟨b2, p4, q4, e2, g1, g2, g3, g4, g5⟩ := ih (i + 1) k a p2 q2 (by omega) (by omega) ha (by omega) (by omega) y0 y1
    by_cases t : (v == wrap64 (2 - 1)) = true
    · rw [if_pos t, e1]
      exact ⟨b1, p3, q3, rfl, h1, by omega, by omega, h4, h5⟩
    · rw [if_neg t, e2]
      exact ⟨b2, p4, q4, rfl, g1, by omega, by omega, g4, g5⟩
theorem flags_tells {l : List Int} (hl : ∀ x ∈ l, (Lit.int .u8 x).wf = true) : FlagsOK 10 l FlOK := fun p q p0 p1 q0 q1 => by
  obtain ⟨b, p', q', e, h, x0, x1, y0, y1⟩ := flags_step hl 5 0 10 0 p q (by omega) (by omega) (by decide) p0 (by omega) q0 q1
  exact ⟨(b : Int), p', q', e, fl_nat h, x0, by omega, y0, y1⟩
/-! ### what is set is got -/
theorem zeroZ_in {v s : Int} (hs : Sz s) (hv : In64 v) : In64 (zeroZ v s) := by
  unfold In64 at *
  rcases hs with rfl | rfl | rfl | rfl
  · rw [zeroZ_one]; omega
  · rw [zeroZ_two]; omega
  · rw [zeroZ_four]; omega
  · rw [zeroZ_eight]; omega
theorem zeroZ_twice {v s : Int} (hs : Sz s) : zeroZ (zeroZ v s) s = zeroZ v s := by
  rcases hs with rfl | rfl | rfl | rfl
  · rw [zeroZ_one, zeroZ_one]; omega
  · rw [zeroZ_two, zeroZ_two]; omega
  · rw [zeroZ_four, zeroZ_four]; omega
  · rw [zeroZ_eight]
theorem rd_set_same {x : List Int} {j : Nat} {n : Int} (hj : j < x.length) : rdOf 0 (x.set j n) (j : Int) = n := by
  unfold rdOf
  rw [Int.toNat_natCast, List.getD_eq_getElem?_getD, List.getElem?_set_self hj]
  rfl
theorem rd_set_other {x : List Int} {i j : Nat} {n : Int} (hij : i ≠ j) : rdOf 0 (x.set j n) (i : Int) = rdOf 0 x (i : Int) := by
  unfold rdOf
  rw [Int.toNat_natCast, List.getD_eq_getElem?_getD, List.getD_eq_getElem?_getD, List.getElem?_set_ne (Ne.symm hij)]
theorem get_told {z : List Int} {q a s : Int} (hq : FlOK q) (hqr : In64 q) (h : RegOK a s) : impl_GetReg.f z q a s = some (getZ z a s, 0) := by
  unfold impl_GetReg.f
  rw [areFlags_impl hqr, Option.bind_some, if_pos (by simpa using hq), regOK_impl, Option.bind_some, if_pos (by simpa using h), get_impl h]
  rfl
theorem whole_told {z : List Int} {q : Int} {j : Nat} (hq : FlOK q) (hqr : In64 q) (hj : j < 16) : impl_GetReg.f z q (j : Int) 8 = some (rdOf 0 z (j : Int), 0) := by
  rw [get_told hq hqr ⟨by unfold Sz; omega, by omega, Or.inl (by omega)⟩]
  unfold getZ
  rw [if_pos (by omega), zeroZ_eight]
theorem zero_told {v s : Int} (hs : Sz s) : impl_ZeroOf.f v s = some (zeroZ v s, 0) := by
  unfold impl_ZeroOf.f
  rw [size_impl, Option.bind_some, if_pos (by simpa using hs), zero_impl hs, Option.bind_some]
/-! the low bytes -/
theorem andNot_low (n : Nat) (hn : n ≤ 64) (a M : Int) (hM : un M = 2 ^ n - 1) : Go.bits .andNot .i64 a M = wrap64 ((2 ^ n * (un a / 2 ^ n) : Nat) : Int) := by
  rw [andNot_un, hM, keep_high _ _ (un_lt a) hn]
theorem low_bits1 {a z : Int} (ha : In64 a) (h0 : 0 ≤ z) (h1 : z < 256) (n : Int) (hn : n = wrap64 (a + wrap64 (z - zeroZ a 1))) :
    zeroZ n 1 = z ∧ Go.bits .andNot .i64 n 255 = Go.bits .andNot .i64 a 255 ∧ Go.bits .and .i64 n 255 = wrap64 z := by
  have hu : un n / 256 = un a / 256 ∧ n % 256 = z := by
    rw [hn, zeroZ_one]
    unfold un wrap64 In64 at *
    omega
  refine ⟨by rw [zeroZ_one]; exact hu.2, ?_, ?_⟩
  · rw [andNot_low 8 (by omega) n 255 rfl, andNot_low 8 (by omega) a 255 rfl, show (2 : Nat) ^ 8 = 256 from rfl, hu.1]
  · have := and_mask n 8 (by decide)
    rw [show ((2 : Int) ^ 8 - 1) = 255 from rfl, show ((2 : Int) ^ 8) = 256 from rfl, hu.2] at this
    rw [this]
    exact (w64_in (by omega) (by omega)).symm
theorem low_bits2 {a z : Int} (ha : In64 a) (h0 : 0 ≤ z) (h1 : z < 65536) (n : Int) (hn : n = wrap64 (a + wrap64 (z - zeroZ a 2))) :
    zeroZ n 2 = z ∧ Go.bits .andNot .i64 n 65535 = Go.bits .andNot .i64 a 65535 ∧ Go.bits .and .i64 n 65535 = wrap64 z := by
  have hu : un n / 65536 = un a / 65536 ∧ n % 65536 = z := by
    rw [hn, zeroZ_two]
    unfold un wrap64 In64 at *
    omega
  refine ⟨by rw [zeroZ_two]; exact hu.2, ?_, ?_⟩
  · rw [andNot_low 16 (by omega) n 65535 rfl, andNot_low 16 (by omega) a 65535 rfl, show (2 : Nat) ^ 16 = 65536 from rfl, hu.1]
  · have := and_mask n 16 (by decide)
    rw [show ((2 : Int) ^ 16 - 1) = 65535 from rfl, show ((2 : Int) ^ 16) = 65536 from rfl, hu.2] at this
    rw [this]
    exact (w64_in (by omega) (by omega)).symm
/-! the second byte -/
theorem high_nat (U Z : Nat) (hZ : Z < 256) : ((U &&& 18446744073709486335) ||| Z * 256) &&& 18446744073709486335 = U &&& 18446744073709486335 ∧ ((U &&& 18446744073709486335) ||| Z * 256) &&& 65280 = Z * 256 ∧ ((U &&& 18446744073709486335) ||| Z * 256) / 256 % 256 = Z := by
  have t : ∀ z : Fin 256, (z.val * 256) &&& 18446744073709486335 = 0 ∧ (z.val * 256) &&& 65280 = z.val * 256 := by decide +kernel
  obtain ⟨t1, t2⟩ := t ⟨Z, hZ⟩
  simp only at t1 t2
  refine ⟨?_, ?_, ?_⟩
  · rw [Nat.and_or_distrib_right, Nat.and_assoc, Nat.and_self, t1, Nat.or_zero]
  · rw [Nat.and_or_distrib_right, Nat.and_assoc, show 18446744073709486335 &&& 65280 = 0 from by decide +kernel, Nat.and_zero, t2, Nat.zero_or]
  · have e1 : ((U &&& 18446744073709486335) ||| Z * 256) / 256 % 256 = (((U &&& 18446744073709486335) ||| Z * 256) >>> 8) &&& 255 := by
      rw [Nat.shiftRight_eq_div_pow, Nat.and_two_pow_sub_one_eq_mod _ 8]
    rw [e1, Nat.shiftRight_or_distrib, Nat.and_or_distrib_right, Nat.shiftRight_and_distrib, Nat.and_assoc, show 18446744073709486335 >>> 8 &&& 255 = 0 from by decide +kernel, Nat.and_zero, Nat.zero_or, Nat.shiftRight_eq_div_pow, show (2 : Nat) ^ 8 = 256 from rfl, Nat.mul_div_cancel _ (by omega), Nat.and_two_pow_sub_one_eq_mod _ 8]
    exact Nat.mod_eq_of_lt hZ
theorem high_bits {a z : Int} (h0 : 0 ≤ z) (h1 : z < 256) (n : Int) (hn : n = Go.bits .or .i64 (Go.bits .andNot .i64 a 65280) (IntKind.i64.wrap (z * 256))) :
    zeroZ (shr .i64 n 8) 1 = z ∧ Go.bits .andNot .i64 n 65280 = Go.bits .andNot .i64 a 65280 ∧ Go.bits .and .i64 n 65280 = wrap64 (z * 256) := by
  obtain ⟨Z, rfl⟩ := Int.eq_ofNat_of_zero_le h0
  have hle : un a &&& 18446744073709486335 ≤ un a := Nat.and_le_left
  have hlt := un_lt' a
  have hor : (un a &&& 18446744073709486335) ||| Z * 256 < 18446744073709551616 := Nat.or_lt_two_pow (n := 64) (by omega) (by omega)
  have e1 : un (Go.bits .andNot .i64 a 65280) = un a &&& 18446744073709486335 := by
    rw [andNot_un, show un 65280 = 65280 from rfl, show 18446744073709551615 - 65280 = 18446744073709486335 from rfl]
    exact un_wnat (by omega)
  have e2 : un (IntKind.i64.wrap ((Z : Int) * 256)) = Z * 256 := by
    rw [i64_wrap, un_w64]
    unfold un
    omega
  have hun : un n = (un a &&& 18446744073709486335) ||| Z * 256 := by
    rw [hn, or_un, e1, e2]
    exact un_wnat hor
  obtain ⟨k1, k2, k3⟩ := high_nat (un a) Z (by omega)
  rw [← hun] at k1 k2 k3
  refine ⟨?_, ?_, ?_⟩
  · have h8 : shr .i64 n 8 = n / 256 := rfl
    rw [zeroZ_one, h8]
    have : (un n : Int) = n % 18446744073709551616 := un_eq n
    omega
  · rw [andNot_un, andNot_un, show un 65280 = 65280 from rfl, show 18446744073709551615 - 65280 = 18446744073709486335 from rfl, k1]
  · rw [and_un, show un 65280 = 65280 from rfl, k2]
    congr 1
/-- What the calls on a processor yield: a register of the sixteen. -/
theorem regs_low {x : List Int} {p q : Int} {s v : Int} {j : Nat} (hx : x.length = 16) (hw : ∀ n ∈ x, In64 n) (hq : FlOK q) (hqr : In64 q) (hv : In64 v) (hs : Sz s) (hj : j < 16) :
    ∃ z : List Int, RegsTold x z p q (j : Int) s v (zeroZ v s) j (if s = 2 then 65535 else if s = 1 then 255 else 0) (if s ≤ 2 then wrap64 (zeroZ v s) else 0) := by
  have fs : spec_l06Flags.f q = some true := by rw [flags_spec, decide_eq_true hq]
  have fi : impl_areFlags.f q = some true := by rw [areFlags_impl hqr, decide_eq_true hq]
  have hg : RegOK (j : Int) s := ⟨hs, by omega, Or.inl (by omega)⟩
  have rs : spec_l07RegOK.f (j : Int) s = some true := by rw [regOK_spec, decide_eq_true hg]
  have ri : impl_isReg.f (j : Int) s = some true := by rw [regOK_impl, decide_eq_true hg]
  have hzs : spec_l01Zero.f 100 v s = some (zeroZ v s) := zero_spec hs hv (by omega)
  have hzi : impl_zero.f v s = some (zeroZ v s) := zero_impl hs
  have hlen : ∀ n, (x.set j n).length = 16 := fun n => by rw [List.length_set]; exact hx
  have hgz : ∀ n, getZ (x.set j n) (j : Int) s = zeroZ n s := fun n => by
    unfold getZ
    rw [if_pos (by omega), rd_set_same (by omega)]
  by_cases c4 : 4 ≤ s
  · refine ⟨x.set j (zeroZ v s), ⟨hlen _, fun W => impl_SetReg.good x p q hx _ s v W fi ri j hj _ (fun g W hg => impl_Cpu_set.big x p q hx j hj s v _ c4 g W hg hzi), fun W => spec_SetReg.good x p q hx _ s v W fs rs _ (hlen _) (fun W => spec_l07Set.big 100 x p q hx j hj s v _ c4 W hzs), ?_, whole_told hq hqr hj, fun _ => rd_set_same (by omega), fun i hi hij => rd_set_other hij, fun h2 => by omega⟩⟩
    rw [get_told hq hqr hg, hgz, zeroZ_twice hs]
  · have ho : In64 (rdOf 0 x (j : Int)) := by
      unfold rdOf
      rw [List.getD_eq_getElem?_getD, Int.toNat_natCast, List.getElem?_eq_getElem (by omega)]
      exact hw _ (List.getElem_mem _)
    rcases (show s = 1 ∨ s = 2 by unfold Sz at hs; omega) with rfl | rfl
    · obtain ⟨k1, k2, k3⟩ := low_bits1 ho (zero1_range v).1 (zero1_range v).2 _ rfl
      have hsp := fun W => spec_l07Set.one 100 x p q hx j hj v _ W hzs
      rw [low1_eq _ _ (zero1_range v).1 (zero1_range v).2] at hsp
      refine ⟨x.set j (wrap64 (rdOf 0 x (j : Int) + wrap64 (zeroZ v 1 - zeroZ (rdOf 0 x (j : Int)) 1))), ⟨hlen _, fun W => impl_SetReg.good x p q hx _ 1 v W fi ri j hj _ (fun g W hg => impl_Cpu_set.low x p q hx j hj 1 v (zeroZ v 1) (by omega) (zeroZ (rdOf 0 x (j : Int)) 1) (zero_impl hs) g W hg hzi), fun W => spec_SetReg.good x p q hx _ 1 v W fs rs _ (hlen _) hsp, ?_, whole_told hq hqr hj, fun h4 => by omega, fun i hi hij => rd_set_other hij, fun _ => ?_⟩⟩
      · rw [get_told hq hqr hg, hgz, k1]
      · rw [rd_set_same (by omega), if_neg (by omega), if_pos rfl, if_pos (by omega)]
        exact ⟨bne_of_eq k2, bne_of_eq k3⟩
    · obtain ⟨k1, k2, k3⟩ := low_bits2 ho (zero2_range v).1 (zero2_range v).2 _ rfl
      have hsp := fun W => spec_l07Set.two 100 x p q hx j hj v _ W hzs
      rw [low2_eq _ _ (zero2_range v).1 (zero2_range v).2] at hsp
      refine ⟨x.set j (wrap64 (rdOf 0 x (j : Int) + wrap64 (zeroZ v 2 - zeroZ (rdOf 0 x (j : Int)) 2))), ⟨hlen _, fun W => impl_SetReg.good x p q hx _ 2 v W fi ri j hj _ (fun g W hg => impl_Cpu_set.low x p q hx j hj 2 v (zeroZ v 2) (by omega) (zeroZ (rdOf 0 x (j : Int)) 2) (zero_impl hs) g W hg hzi), fun W => spec_SetReg.good x p q hx _ 2 v W fs rs _ (hlen _) hsp, ?_, whole_told hq hqr hj, fun h4 => by omega, fun i hi hij => rd_set_other hij, fun _ => ?_⟩⟩
      · rw [get_told hq hqr hg, hgz, k1]
      · rw [rd_set_same (by omega), if_pos rfl, if_pos (by omega)]
        exact ⟨bne_of_eq k2, bne_of_eq k3⟩
/-- .. a register that is bits 8 to 15 of another. -/
theorem regs_high {x : List Int} {p q : Int} {v : Int} {j : Nat} (hx : x.length = 16) (hq : FlOK q) (hqr : In64 q) (hv : In64 v) (hj : j < 4) :
    ∃ z : List Int, RegsTold x z p q (16 + (j : Int)) 1 v (zeroZ v 1) j 65280 (wrap64 (zeroZ v 1 * 256)) := by
  have hs : Sz 1 := by unfold Sz; omega
  have fs : spec_l06Flags.f q = some true := by rw [flags_spec, decide_eq_true hq]
  have fi : impl_areFlags.f q = some true := by rw [areFlags_impl hqr, decide_eq_true hq]
  have hg : RegOK ((j : Int) + 16) 1 := ⟨hs, by omega, Or.inr ⟨rfl, by omega⟩⟩
  rw [Int.add_comm 16 (j : Int)]
  have rs : spec_l07RegOK.f ((j : Int) + 16) 1 = some true := by rw [regOK_spec, decide_eq_true hg]
  have ri : impl_isReg.f ((j : Int) + 16) 1 = some true := by rw [regOK_impl, decide_eq_true hg]
  have hzs : spec_l01Zero.f 100 v 1 = some (zeroZ v 1) := zero_spec hs hv (by omega)
  have hlen : ∀ n, (x.set j n).length = 16 := fun n => by rw [List.length_set]; exact hx
  have hsp := fun W => spec_l07Set.high 100 x p q hx j (by omega) v _ W hzs
  rw [high_set _ _ (zero1_range v).1 (zero1_range v).2] at hsp
  obtain ⟨k1, k2, k3⟩ := high_bits (a := rdOf 0 x (j : Int)) (zero1_range v).1 (zero1_range v).2 _ rfl
  refine ⟨x.set j _, ⟨hlen _, fun W => impl_SetReg.good x p q hx _ 1 v W fi ri j (by omega) _ (fun g W hg => impl_Cpu_set.high x p q hx j hj 1 v (zeroZ v 1) g W hg (zero_impl hs)), fun W => spec_SetReg.good x p q hx _ 1 v W fs rs _ (hlen _) hsp, ?_, whole_told hq hqr (by omega), fun h4 => by omega, fun i hi hij => rd_set_other hij, fun _ => ?_⟩⟩
  · rw [get_told hq hqr hg]
    unfold getZ
    rw [if_neg (by omega), show (j : Int) + 16 - 16 = (j : Int) by omega, rd_set_same (by omega), k1]
  · rw [rd_set_same (by omega)]
    exact ⟨bne_of_eq k2, bne_of_eq k3⟩
theorem size_at {m : List Int} (hm : ∀ x ∈ m, (Lit.int .u8 x).wf = true) (hlen : m.length ≤ 140737488351232) : ∃ s, laws_sizeAt.f m 0 = some s ∧ Sz s := by
  obtain ⟨t, e, t0, t1⟩ := at_tells hm hlen 0 (by omega) (by omega) (n := 4) (by omega) (by omega)
  unfold laws_sizeAt.f
  rw [Option.bind_some, e, Option.bind_some, if_pos t0, if_pos (by simp; omega)]
  refine ⟨_, rfl, ?_⟩
  unfold Sz
  rcases (show t = 0 ∨ t = 1 ∨ t = 2 ∨ t = 3 by omega) with rfl | rfl | rfl | rfl
  · exact Or.inl rfl
  · exact Or.inr (Or.inl rfl)
  · exact Or.inr (Or.inr (Or.inl rfl))
  · exact Or.inr (Or.inr (Or.inr rfl))
theorem regs_tells (A0 : Option Addr) (c0 : Nat) (l : List Int) (A1 : Option Addr) (c1 : Nat) (m : List Int) (w : World) (hl : ∀ x ∈ l, (Lit.int .u8 x).wf = true) (hm : ∀ x ∈ m, (Lit.int .u8 x).wf = true) (hml : m.length ≤ 140737488351232)
    (hr0 : Kd.C (Kd.int .u8) w A0 l.length l) (hc0 : l.length ≤ c0) (hr1 : Kd.C (Kd.int .u8) w A1 m.length m) (hc1 : m.length ≤ c1) :
    Calls Try.prog 8 #[.slice A0 l.length c0, .slice A1 m.length c1] w fun e w' => e = .returned (.bool true) ∧ Below w.heap.size w w' := by
  by_cases hlong : 1048576 < l.length ∨ 1048576 < m.length
  · exact laws_FnRegs.long A0 c0 l A1 c1 m w hlong
  have b0 : l.length ≤ 1048576 := by omega
  have b1 : m.length ≤ 1048576 := by omega
  have hN : NextOK l := fun p q n p0 p1 q0 q1 n0 n1 => next_tells hl p0 p1 q0 q1 n0 n1
  have hW : WideOK l := fun p q p0 p1 q0 q1 => by
    obtain ⟨v, p', q', e, a, b, c⟩ := wide_tells hl p0 p1 q0 q1
    exact ⟨v, p', q', e, ⟨a, b⟩, c⟩
  have hF := flags_tells hl
  have flr : ∀ q, FlOK q → In64 q := fun q h => by
    have := fl_range h
    unfold In64
    omega
  obtain ⟨v, ev, v0, v1⟩ := number_tells hm
  have hv : In64 v := ⟨v0, v1⟩
  obtain ⟨s, es, hs⟩ := size_at hm hml
  obtain ⟨r, er, r0, r1⟩ := at_tells hm hml 1 (by omega) (by omega) (n := 16) (by omega) (by omega)
  obtain ⟨j, rfl⟩ := Int.eq_ofNat_of_zero_le r0
  have low : ∀ (x : List Int) (p q : Int), x.length = 16 → (∀ n ∈ x, In64 n) → In64 p → FlOK q → _ := fun x p q hx hw hp hq => regs_low (x := x) (p := p) (q := q) (s := s) (v := v) (j := j) hx hw hq (flr q hq) hv hs (by omega)
  rcases hs with rfl | rfl | rfl | rfl
  · obtain ⟨t, et, t0, t1⟩ := at_tells hm hml 2 (by omega) (by omega) (n := 3) (by omega) (by omega)
    by_cases ht : t = 0
    · subst ht
      obtain ⟨r', er', r0', r1'⟩ := at_tells hm hml 3 (by omega) (by omega) (n := 4) (by omega) (by omega)
      obtain ⟨j', rfl⟩ := Int.eq_ofNat_of_zero_le r0'
      exact laws_FnRegs.n1hi 10 FlOK A0 c0 l A1 c1 m w v _ j' hN hW hF hr0 hc0 hr1 hc1 b0 b1 ev es (zero_told (by unfold Sz; omega)) _ er et er' (by omega) (fun x p q hx hw hp hq => regs_high hx hq (flr q hq) hv (by omega))
    · exact laws_FnRegs.n1lo 10 FlOK A0 c0 l A1 c1 m w v _ j hN hW hF hr0 hc0 hr1 hc1 b0 b1 ev es (zero_told (by unfold Sz; omega)) er t et ht (by omega) low
  · exact laws_FnRegs.n2 10 FlOK A0 c0 l A1 c1 m w v _ j hN hW hF hr0 hc0 hr1 hc1 b0 b1 ev es (zero_told (by unfold Sz; omega)) er (by omega) low
  · exact laws_FnRegs.n4 10 FlOK A0 c0 l A1 c1 m w v _ j hN hW hF hr0 hc0 hr1 hc1 b0 b1 ev es (zero_told (by unfold Sz; omega)) er (by omega) low
  · exact laws_FnRegs.n8 10 FlOK A0 c0 l A1 c1 m w v _ j hN hW hF hr0 hc0 hr1 hc1 b0 b1 ev es (zero_told (by unfold Sz; omega)) er (by omega) low
theorem FnRegs_walk (a0 : Option Addr) (len0 cap0 : Nat) (z0 : List Int) (a1 : Option Addr) (len1 cap1 : Nat) (z1 : List Int) (w : World) (w0 : (a0 = none ∧ len0 = 0 ∧ cap0 = 0 ∧ z0 = []) ∨ ∃ x, a0 = some x ∧ len0 ≤ cap0 ∧ cap0 ≤ maxLen ∧ z0.length = cap0 ∧ (∀ i, i < z0.length → w.cell? (x.add i) = some (.int .u8 (z0.getD i 0))) ∧ ∀ n ∈ z0, (Lit.int .u8 n).wf = true) (y0 : len0 * 1 ≤ 140737488351232) (w1 : (a1 = none ∧ len1 = 0 ∧ cap1 = 0 ∧ z1 = []) ∨ ∃ x, a1 = some x ∧ len1 ≤ cap1 ∧ cap1 ≤ maxLen ∧ z1.length = cap1 ∧ (∀ i, i < z1.length → w.cell? (x.add i) = some (.int .u8 (z1.getD i 0))) ∧ ∀ n ∈ z1, (Lit.int .u8 n).wf = true) (y1 : len1 * 1 ≤ 140737488351232) :
    Calls Try.prog 8 #[.slice a0 len0 cap0, .slice a1 len1 cap1] w fun e w' => e = .returned (.bool true) ∧ Below w.heap.size w w' := by
  obtain ⟨l0, rfl, hr0, hm0, hw0, hc0⟩ := ReadsInt.ofRowC w0
  obtain ⟨l1, rfl, hr1, hm1, hw1, hc1⟩ := ReadsInt.ofRowC w1
  exact regs_tells _ _ l0 _ _ l1 w hw0 hw1 (by omega) (Kd.C_of_reads (d := (0 : Int)) (h1 := fun _ => rfl) hr0) hc0 (Kd.C_of_reads (d := (0 : Int)) (h1 := fun _ => rfl) hr1) hc1

end Go.Proofs.Ytgipadecllofkaa.Pure
