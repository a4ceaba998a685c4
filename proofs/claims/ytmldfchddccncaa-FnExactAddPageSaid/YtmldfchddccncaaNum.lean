import Derived.RowKit
import Derived.Laws.BitsAllLaws
import Derived.Laws.Bits64
import Derived.Test.YtmldfchddccncaaWMore
namespace Go.Proofs.Ytmldfchddccncaa.Num
open Go.RowKit Go.Proofs.YtmldfchddccncaaW.PrintWords Go.Proofs.YtmldfchddccncaaW.PrintMore
set_option linter.unusedSimpArgs false

/-- The 64 bits of a number, as a number without a sign. -/
def un (x : Int) : Nat := (x % 18446744073709551616).toNat
theorem un_lt (x : Int) : un x < 2 ^ 64 := by unfold un; omega
theorem un_eq (x : Int) : (un x : Int) = x % 18446744073709551616 := by unfold un; omega
theorem un_bv (x : Int) : (BitVec.ofInt 64 x).toNat = un x := by simp [BitVec.toNat_ofInt, un]
theorem w64_bv (n : Int) : wrap64 n = (BitVec.ofInt 64 n).toInt := by
  rw [BitVec.toInt_ofInt, Int.bmod_def]; unfold wrap64; simp; split <;> omega
theorem w64_in {n : Int} (h0 : -9223372036854775808 ≤ n) (h1 : n ≤ 9223372036854775807) : wrap64 n = n := by unfold wrap64; omega
theorem u64_in {n : Int} (h0 : 0 ≤ n) (h1 : n ≤ 18446744073709551615) : IntKind.u64.wrap n = n := by rw [IntKind.wrap_u64]; omega
theorem w64_un (n : Int) : wrap64 ((un n : Nat) : Int) = wrap64 n := by unfold un wrap64; omega
theorem un_w64 (n : Int) : un (wrap64 n) = un n := by unfold un wrap64; omega
theorem wf_i64 {a : Int} (h : (Lit.int .i64 a).wf = true) : -9223372036854775808 ≤ a ∧ a ≤ 9223372036854775807 := by
  simp [Lit.wf, IntKind.min, IntKind.max, IntKind.bits, IntKind.signed] at h
  omega
theorem w64_range (n : Int) : -9223372036854775808 ≤ wrap64 n ∧ wrap64 n ≤ 9223372036854775807 := by unfold wrap64; omega
theorem i64_wrap_nat (b : BitVec 64) : IntKind.i64.wrap (b.toNat : Int) = b.toInt := by
  have := b.isLt
  rw [BitVec.toInt_eq_toNat_cond]
  simp [IntKind.wrap, IntKind.bits, IntKind.signed]
  split <;> split <;> omega
theorem i64_wrap (n : Int) : IntKind.i64.wrap n = wrap64 n := by
  simp [IntKind.wrap, IntKind.bits, IntKind.signed, wrap64]
  split <;> omega
theorem shr_u64 (x i : Int) (h0 : 0 ≤ x) (h1 : 0 ≤ i) (h2 : i < 64) : shr .u64 x i = ((x.toNat / 2 ^ i.toNat : Nat) : Int) := by
  unfold shr
  have e : min i.toNat IntKind.u64.bits = i.toNat := by simp [IntKind.bits]; omega
  rw [e]
  obtain ⟨n, rfl⟩ := Int.eq_ofNat_of_zero_le h0
  simp
/-- Bit i of a number, 1 or 0. -/
def bit (a i : Int) : Int := ((un a / 2 ^ i.toNat % 2 : Nat) : Int)
theorem bit_or (a i : Int) : bit a i = 0 ∨ bit a i = 1 := by unfold bit; omega
theorem bit_test (a i : Int) : bit a i = if (un a).testBit i.toNat then 1 else 0 := by
  unfold bit
  rw [Nat.testBit_eq_decide_div_mod_eq]
  by_cases h : un a / 2 ^ i.toNat % 2 = 1
  · simp [h]
  · have : un a / 2 ^ i.toNat % 2 = 0 := by omega
    simp [this]
/-- 'Bits' of a: what a down-count over the bits of a makes. -/
theorem half_step (B i : Nat) : B / 2 ^ (i + 1) * 2 + B / 2 ^ i % 2 = B / 2 ^ i := by
  rw [Nat.pow_succ, ← Nat.div_div_eq_div_mul]
  omega
theorem mod_bit (A n i : Nat) (h : i < n) : A % 2 ^ n / 2 ^ i % 2 = A / 2 ^ i % 2 := by
  have e := Nat.testBit_mod_two_pow A n i
  rw [Nat.testBit_eq_decide_div_mod_eq, Nat.testBit_eq_decide_div_mod_eq] at e
  simp only [h, decide_true, Bool.true_and, decide_eq_decide] at e
  omega
/-- The lowest bytes without a sign (of 8: the number itself). -/
def zeroZ (v size : Int) : Int := if size = 8 then v else v % 2 ^ (8 * size).toNat
/-- The lowest bytes with a sign. -/
def signZ (v size : Int) : Int :=
  if size = 1 then (v + 128) % 256 - 128 else if size = 2 then (v + 32768) % 65536 - 32768 else if size = 4 then (v + 2147483648) % 4294967296 - 2147483648 else v
/-- One of the four sizes. -/
def Sz (s : Int) : Prop := s = 1 ∨ s = 2 ∨ s = 4 ∨ s = 8
instance (s : Int) : Decidable (Sz s) := by unfold Sz; infer_instance
theorem and_un (a b : Int) : Go.bits .and .i64 a b = wrap64 ((un a &&& un b : Nat) : Int) := by
  show IntKind.i64.wrap ((BitVec.ofInt 64 a &&& BitVec.ofInt 64 b).toNat : Int) = _
  rw [i64_wrap, BitVec.toNat_and, un_bv, un_bv]
theorem or_un (a b : Int) : Go.bits .or .i64 a b = wrap64 ((un a ||| un b : Nat) : Int) := by
  show IntKind.i64.wrap ((BitVec.ofInt 64 a ||| BitVec.ofInt 64 b).toNat : Int) = _
  rw [i64_wrap, BitVec.toNat_or, un_bv, un_bv]
theorem xor_un (a b : Int) : Go.bits .xor .i64 a b = wrap64 ((un a ^^^ un b : Nat) : Int) := by
  show IntKind.i64.wrap ((BitVec.ofInt 64 a ^^^ BitVec.ofInt 64 b).toNat : Int) = _
  rw [i64_wrap, BitVec.toNat_xor, un_bv, un_bv]
theorem andNot_un (a b : Int) : Go.bits .andNot .i64 a b = wrap64 ((un a &&& (18446744073709551615 - un b) : Nat) : Int) := by
  show IntKind.i64.wrap ((BitVec.ofInt 64 a &&& ~~~(BitVec.ofInt 64 b)).toNat : Int) = _
  rw [i64_wrap, BitVec.toNat_and, BitVec.toNat_not, un_bv, un_bv]
theorem and_mask (a : Int) (k : Nat) (hk : k ≤ 63) : Go.bits .and .i64 a (2 ^ k - 1) = a % 2 ^ k := by
  have hp : (2 : Nat) ^ k ≤ 2 ^ 63 := Nat.pow_le_pow_right (by decide) hk
  have hpos : 0 < 2 ^ k := Nat.two_pow_pos k
  have e : ((2 : Int) ^ k - 1) = ((2 ^ k - 1 : Nat) : Int) := by rw [Int.natCast_sub hpos]; simp
  have hd : (2 : Int) ^ k ∣ 18446744073709551616 := ⟨2 ^ (64 - k), by rw [← Int.pow_add, show k + (64 - k) = 64 by omega]; rfl⟩
  have e2 : (un a % 2 ^ k : Nat) < 2 ^ k := Nat.mod_lt _ hpos
  have e3 : ((un a % 2 ^ k : Nat) : Int) = a % 2 ^ k := by
    rw [Int.natCast_emod, un_eq, show (((2 ^ k : Nat)) : Int) = (2 : Int) ^ k by simp, Int.emod_emod_of_dvd _ hd]
  rw [← e3, e, and_un, show un ((2 ^ k - 1 : Nat) : Int) = 2 ^ k - 1 by unfold un; omega, Nat.and_two_pow_sub_one_eq_mod]
  exact w64_in (by omega) (by omega)
theorem un_lt' (x : Int) : un x < 18446744073709551616 := by unfold un; omega
theorem zeroZ_one (v : Int) : zeroZ v 1 = v % 256 := rfl
theorem zeroZ_two (v : Int) : zeroZ v 2 = v % 65536 := rfl
theorem zeroZ_four (v : Int) : zeroZ v 4 = v % 4294967296 := rfl
theorem zeroZ_eight (v : Int) : zeroZ v 8 = v := rfl
/-- What the down-count over the lowest bits comes to. -/
theorem zeroZ_un {v size : Int} (hs : Sz size) (hv : -9223372036854775808 ≤ v ∧ v ≤ 9223372036854775807) : wrap64 ((un v % 2 ^ (8 * size).toNat : Nat) : Int) = zeroZ v size := by
  rcases hs with rfl | rfl | rfl | rfl
  · rw [zeroZ_one]; simp only [show ((8 * 1 : Int)).toNat = 8 from rfl]; unfold un wrap64; omega
  · rw [zeroZ_two]; simp only [show ((8 * 2 : Int)).toNat = 16 from rfl]; unfold un wrap64; omega
  · rw [zeroZ_four]; simp only [show ((8 * 4 : Int)).toNat = 32 from rfl]; unfold un wrap64; omega
  · rw [zeroZ_eight]; simp only [show ((8 * 8 : Int)).toNat = 64 from rfl]; unfold un wrap64; omega
/-- The 64 bits of the number with the sign of n bits. -/
def sgn (n A : Nat) : Nat := A % 2 ^ n + if 2 ^ (n - 1) ≤ A % 2 ^ n then 2 ^ 64 - 2 ^ n else 0
theorem sgn_bv (n A : Nat) (_h0 : 0 < n) (hn : n ≤ 64) : sgn n A = ((BitVec.ofNat n A).signExtend 64).toNat := by
  have hp : 2 ^ n ≤ 2 ^ 64 := Nat.pow_le_pow_right (by decide) hn
  have hl : A % 2 ^ n < 2 ^ n := Nat.mod_lt _ (Nat.two_pow_pos n)
  rw [BitVec.toNat_signExtend, BitVec.msb_eq_decide, BitVec.toNat_setWidth, BitVec.toNat_ofNat, Nat.mod_eq_of_lt (by omega)]
  unfold sgn
  simp
theorem sgn_lt (n A : Nat) (h0 : 0 < n) (hn : n ≤ 64) : sgn n A < 2 ^ 64 := by rw [sgn_bv n A h0 hn]; exact BitVec.isLt _
theorem sgn_bit (n A i : Nat) (h0 : 0 < n) (hn : n ≤ 64) (hi : i < 64) : sgn n A / 2 ^ i % 2 = A / 2 ^ (min i (n - 1)) % 2 := by
  have e : (sgn n A).testBit i = A.testBit (min i (n - 1)) := by
    rw [sgn_bv n A h0 hn, ← BitVec.getLsbD, BitVec.getLsbD_signExtend]
    simp only [hi, decide_true, Bool.true_and]
    by_cases h : i < n
    · rw [if_pos h, Nat.min_eq_left (by omega), BitVec.getLsbD_ofNat]
      simp [h]
    · rw [if_neg h, Nat.min_eq_right (by omega), BitVec.msb_eq_getLsbD_last, BitVec.getLsbD_ofNat]
      have : n - 1 < n := by omega
      simp [this]
  rw [Nat.testBit_eq_decide_div_mod_eq, Nat.testBit_eq_decide_div_mod_eq, decide_eq_decide] at e
  omega
theorem signZ_sgn {v size : Int} (hs : Sz size) (hv : -9223372036854775808 ≤ v ∧ v ≤ 9223372036854775807) : wrap64 ((sgn (8 * size).toNat (un v) : Nat) : Int) = signZ v size := by
  rcases hs with rfl | rfl | rfl | rfl <;> unfold sgn signZ un wrap64 <;> simp only [show ((8 * 1 : Int)).toNat = 8 from rfl, show ((8 * 2 : Int)).toNat = 16 from rfl, show ((8 * 4 : Int)).toNat = 32 from rfl, show ((8 * 8 : Int)).toNat = 64 from rfl] <;> simp <;> (try split) <;> omega
end Go.Proofs.Ytmldfchddccncaa.Num
