import Derived.Test.YtdljhgmgpnpfiaaNumC
namespace Go.Proofs.Ytdljhgmgpnpfiaa.Num
open Go.RowKit Go.Proofs.YtdljhgmgpnpfiaaW.PrintWords Go.Proofs.YtdljhgmgpnpfiaaW.PrintMore
set_option linter.unusedVariables false

/-- Bit i, as a number. -/
def tb (A i : Nat) : Nat := A / 2 ^ i % 2
theorem tb_le (A i : Nat) : tb A i ≤ 1 := by unfold tb; omega
theorem tb_test (A i : Nat) : tb A i = if A.testBit i then 1 else 0 := by
  unfold tb
  rw [Nat.testBit_eq_decide_div_mod_eq]
  by_cases h : A / 2 ^ i % 2 = 1
  · simp [h]
  · have : A / 2 ^ i % 2 = 0 := by omega
    simp [this]
theorem bit_tb (a : Int) (i : Nat) : bit a (i : Int) = ((tb (un a) i : Nat) : Int) := by unfold bit tb; simp
theorem mod_succ (A i : Nat) : A % 2 ^ (i + 1) = A % 2 ^ i + 2 ^ i * tb A i := Nat.mod_pow_succ
/-- The carry into bit i, and the lowest i bits of a sum. -/
def cr (A B c : Nat) : Nat → Nat
  | 0 => c
  | i + 1 => (tb A i + tb B i + cr A B c i) / 2
def so (A B c : Nat) : Nat → Nat
  | 0 => 0
  | i + 1 => so A B c i + 2 ^ i * ((tb A i + tb B i + cr A B c i) % 2)
section
variable {A B c : Nat}
theorem cr_le (hc : c ≤ 1) : ∀ i, cr A B c i ≤ 1
  | 0 => hc
  | i + 1 => by
    have h1 := tb_le A i
    have h2 := tb_le B i
    have h3 := cr_le hc i
    simp only [cr]
    omega
theorem so_lt : ∀ i, so A B c i < 2 ^ i
  | 0 => by simp [so]
  | i + 1 => by
    have h := so_lt i
    have h2 : 2 ^ i * ((tb A i + tb B i + cr A B c i) % 2) ≤ 2 ^ i * 1 := Nat.mul_le_mul_left _ (by omega)
    simp only [so, Nat.pow_succ]
    omega
theorem so_split : ∀ i, so A B c i + 2 ^ i * cr A B c i = A % 2 ^ i + B % 2 ^ i + c
  | 0 => by simp [so, cr, Nat.mod_one]
  | i + 1 => by
    have h := so_split i
    rw [mod_succ, mod_succ]
    simp only [so, cr]
    have e : 2 ^ i * ((tb A i + tb B i + cr A B c i) % 2) + 2 ^ (i + 1) * ((tb A i + tb B i + cr A B c i) / 2) = 2 ^ i * tb A i + 2 ^ i * tb B i + 2 ^ i * cr A B c i := by
      rw [Nat.pow_succ, Nat.mul_assoc, ← Nat.mul_add, ← Nat.mul_add, ← Nat.mul_add]
      congr 1
      omega
    omega
theorem so_top (i : Nat) : tb (so A B c (i + 1)) i = (tb A i + tb B i + cr A B c i) % 2 := by
  have h := so_lt (A := A) (B := B) (c := c) i
  simp only [so]
  unfold tb
  rw [Nat.add_mul_div_left _ _ (Nat.two_pow_pos i), Nat.div_eq_of_lt h, Nat.zero_add]
  omega
end
/-- The borrow out of the lowest i bits, and the lowest i bits of a difference. -/
def bw (A B c : Nat) : Nat → Nat
  | 0 => c
  | i + 1 => if tb A i < tb B i + bw A B c i then 1 else 0
def df (A B c : Nat) : Nat → Nat
  | 0 => 0
  | i + 1 => df A B c i + 2 ^ i * ((tb A i + tb B i + bw A B c i) % 2)
section
variable {A B c : Nat}
theorem bw_le (hc : c ≤ 1) : ∀ i, bw A B c i ≤ 1
  | 0 => hc
  | i + 1 => by simp only [bw]; split <;> omega
theorem df_lt : ∀ i, df A B c i < 2 ^ i
  | 0 => by simp [df]
  | i + 1 => by
    have h := df_lt i
    have h2 : 2 ^ i * ((tb A i + tb B i + bw A B c i) % 2) ≤ 2 ^ i * 1 := Nat.mul_le_mul_left _ (by omega)
    simp only [df, Nat.pow_succ]
    omega
theorem df_split (hc : c ≤ 1) : ∀ i, df A B c i + B % 2 ^ i + c = A % 2 ^ i + 2 ^ i * bw A B c i
  | 0 => by simp [df, bw, Nat.mod_one]
  | i + 1 => by
    have h := df_split hc i
    rw [mod_succ, mod_succ]
    have ha := tb_le A i
    have hb := tb_le B i
    have hw := bw_le (A := A) (B := B) hc i
    simp only [df, bw]
    have e : 2 ^ i * ((tb A i + tb B i + bw A B c i) % 2) + 2 ^ i * tb B i + 2 ^ i * bw A B c i = 2 ^ i * tb A i + 2 ^ (i + 1) * (if tb A i < tb B i + bw A B c i then 1 else 0) := by
      rw [Nat.pow_succ, Nat.mul_assoc, ← Nat.mul_add, ← Nat.mul_add, ← Nat.mul_add]
      congr 1
      split <;> omega
    omega
theorem df_top (i : Nat) : tb (df A B c (i + 1)) i = (tb A i + tb B i + bw A B c i) % 2 := by
  have h := df_lt (A := A) (B := B) (c := c) i
  simp only [df]
  unfold tb
  rw [Nat.add_mul_div_left _ _ (Nat.two_pow_pos i), Nat.div_eq_of_lt h, Nat.zero_add]
  omega
end
theorem or_bit {o i t : Nat} (ho : o < 2 ^ i) (ht : t ≤ 1) (hi : i < 64) : Go.bits .or .u64 ((o : Nat) : Int) (shl .u64 ((t : Nat) : Int) ((i : Nat) : Int)) = ((o + 2 ^ i * t : Nat) : Int) := by
  have hp : 2 ^ i ≤ 2 ^ 63 := Nat.pow_le_pow_right (by decide) (by omega)
  have h1 : 2 ^ i * t ≤ 2 ^ i * 1 := Nat.mul_le_mul_left _ ht
  have e : shl .u64 ((t : Nat) : Int) ((i : Nat) : Int) = ((2 ^ i * t : Nat) : Int) := by
    unfold shl
    rw [show min ((i : Nat) : Int).toNat IntKind.u64.bits = i by simp [IntKind.bits]; omega, show ((t : Nat) : Int) * 2 ^ i = ((2 ^ i * t : Nat) : Int) by simp [Int.mul_comm], u64_in (by omega) (by omega)]
  rw [e, u64_or_nat _ _ (by omega) (by omega)]
  have h := Nat.two_pow_add_eq_or_of_lt ho t
  rw [Nat.or_comm, ← h, Nat.add_comm]
theorem un_and (a b : Int) : un (Go.bits .and .i64 a b) = un a &&& un b := by rw [and_un, un_wnat (Nat.and_lt_two_pow _ (un_lt b))]
theorem un_or (a b : Int) : un (Go.bits .or .i64 a b) = un a ||| un b := by rw [or_un, un_wnat (Nat.or_lt_two_pow (un_lt a) (un_lt b))]
theorem un_xor (a b : Int) : un (Go.bits .xor .i64 a b) = un a ^^^ un b := by rw [xor_un, un_wnat (Nat.xor_lt_two_pow (un_lt a) (un_lt b))]
theorem pow_size {s : Int} (hs : Sz s) : ∃ m : Nat, (8 * s).toNat = m + 1 ∧ m + 1 ≤ 64 ∧ 8 * s - 1 = (m : Int) := by
  rcases hs with rfl | rfl | rfl | rfl
  · exact ⟨7, rfl, by omega, rfl⟩
  · exact ⟨15, rfl, by omega, rfl⟩
  · exact ⟨31, rfl, by omega, rfl⟩
  · exact ⟨63, rfl, by omega, rfl⟩
theorem un_zeroZ {v s : Int} (hs : Sz s) : un (zeroZ v s) = un v % 2 ^ (8 * s).toNat := by
  rcases hs with rfl | rfl | rfl | rfl
  · rw [zeroZ_one]; simp only [show ((8 * 1 : Int)).toNat = 8 from rfl]; unfold un; omega
  · rw [zeroZ_two]; simp only [show ((8 * 2 : Int)).toNat = 16 from rfl]; unfold un; omega
  · rw [zeroZ_four]; simp only [show ((8 * 4 : Int)).toNat = 32 from rfl]; unfold un; omega
  · rw [zeroZ_eight]; simp only [show ((8 * 8 : Int)).toNat = 64 from rfl]; unfold un; omega
theorem zeroZ_range {v s : Int} (hs : Sz s) (hv : -9223372036854775808 ≤ v ∧ v ≤ 9223372036854775807) : -9223372036854775808 ≤ zeroZ v s ∧ zeroZ v s ≤ 9223372036854775807 := by
  rcases hs with rfl | rfl | rfl | rfl
  · rw [zeroZ_one]; omega
  · rw [zeroZ_two]; omega
  · rw [zeroZ_four]; omega
  · rw [zeroZ_eight]; omega
/-- A number is known by its 64 bits. -/
theorem un_inj {a b : Int} (ha : -9223372036854775808 ≤ a ∧ a ≤ 9223372036854775807) (hb : -9223372036854775808 ≤ b ∧ b ≤ 9223372036854775807) (h : un a = un b) : a = b := by
  unfold un at h; omega
theorem eq_wrap {a : Int} (ha : -9223372036854775808 ≤ a ∧ a ≤ 9223372036854775807) : a = wrap64 ((un a : Nat) : Int) := by unfold un wrap64; omega
theorem zeroZ_eq {v s : Int} (hs : Sz s) (hv : -9223372036854775808 ≤ v ∧ v ≤ 9223372036854775807) : zeroZ v s = wrap64 ((un v % 2 ^ (8 * s).toNat : Nat) : Int) := by
  rw [← un_zeroZ hs]; exact eq_wrap (zeroZ_range hs hv)
theorem tb_mod (A n i : Nat) (h : i < n) : tb (A % 2 ^ n) i = tb A i := mod_bit A n i h
theorem and_range (op : BinOp) (a b : Int) : -9223372036854775808 ≤ Go.bits op .i64 a b ∧ Go.bits op .i64 a b ≤ 9223372036854775807 := by
  unfold Go.bits
  rw [i64_wrap]
  exact w64_range _
/-- The overflow's bit: both differ from it. -/
theorem top_two (p q r : Int) (i : Nat) : (bit (Go.bits .and .i64 (Go.bits .xor .i64 p q) (Go.bits .xor .i64 r q)) (i : Int) == 1) = (decide (tb (un p) i ≠ tb (un q) i) && decide (tb (un r) i ≠ tb (un q) i)) := by
  rw [bit_test, un_and, un_xor, un_xor, Int.toNat_natCast, Nat.testBit_and, Nat.testBit_xor, Nat.testBit_xor, tb_test, tb_test, tb_test]
  generalize (un p).testBit i = x
  generalize (un q).testBit i = y
  generalize (un r).testBit i = z
  cases x <;> cases y <;> cases z <;> rfl
theorem top_two' (p q r : Int) (i : Nat) : (bit (Go.bits .and .i64 (Go.bits .xor .i64 p q) (Go.bits .xor .i64 p r)) (i : Int) == 1) = (decide (tb (un p) i ≠ tb (un q) i) && decide (tb (un p) i ≠ tb (un r) i)) := by
  rw [bit_test, un_and, un_xor, un_xor, Int.toNat_natCast, Nat.testBit_and, Nat.testBit_xor, Nat.testBit_xor, tb_test, tb_test, tb_test]
  generalize (un p).testBit i = x
  generalize (un q).testBit i = y
  generalize (un r).testBit i = z
  cases x <;> cases y <;> cases z <;> rfl
theorem bne_nat (a b : Nat) : (((a : Nat) : Int) != ((b : Nat) : Int)) = decide (a ≠ b) := by
  by_cases h : a = b
  · subst h; simp
  · have h2 : ((a : Nat) : Int) ≠ ((b : Nat) : Int) := by omega
    rw [bne_iff_ne.mpr h2, decide_eq_true h]
theorem beq_one (a : Nat) : (((a : Nat) : Int) == 1) = decide (a = 1) := by
  rw [Bool.beq_eq_decide_eq, decide_eq_decide]; omega
end Go.Proofs.Ytdljhgmgpnpfiaa.Num
