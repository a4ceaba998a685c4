import Derived.Test.YtmldfchddccncaaNum
namespace Go.Proofs.Ytmldfchddccncaa.Num
open Go.RowKit Go.Proofs.YtmldfchddccncaaW.PrintWords Go.Proofs.YtmldfchddccncaaW.PrintMore
set_option linter.unusedVariables false

theorem un_nat {A : Nat} (h : A < 18446744073709551616) : un ((A : Nat) : Int) = A := by unfold un; omega
theorem un_wnat {A : Nat} (h : A < 18446744073709551616) : un (wrap64 ((A : Nat) : Int)) = A := by rw [un_w64, un_nat h]
theorem or_nat {A B : Nat} (hA : A < 18446744073709551616) (hB : B < 18446744073709551616) : Go.bits .or .i64 (wrap64 ((A : Nat) : Int)) (wrap64 ((B : Nat) : Int)) = wrap64 ((A ||| B : Nat) : Int) := by
  rw [or_un, un_wnat hA, un_wnat hB]
/-- A byte of a text. -/
def byteAt (s : ByteArray) (i : Int) : Nat := (bt s i).toNat
theorem byteAt_eq (s : ByteArray) (i : Int) : bt s i = ((byteAt s i : Nat) : Int) := by unfold byteAt; have := bt_range s i; omega
theorem byteAt_lt (s : ByteArray) (i : Int) : byteAt s i < 256 := by unfold byteAt; have := bt_range s i; omega
/-- The number that n bytes from a place on are, the lowest one first. -/
def le (s : ByteArray) (a : Int) : Nat → Nat
  | 0 => 0
  | n + 1 => le s a n + byteAt s (a + n) * 256 ^ n
theorem le_lt (s : ByteArray) (a : Int) : ∀ n, le s a n < 256 ^ n
  | 0 => by simp [le]
  | n + 1 => by
    have h1 := le_lt s a n
    have h2 := byteAt_lt s (a + n)
    have h3 : byteAt s (a + n) * 256 ^ n ≤ 255 * 256 ^ n := Nat.mul_le_mul_right _ (by omega)
    simp only [le, Nat.pow_succ]
    omega
theorem le_lt64 (s : ByteArray) (a : Int) {n : Nat} (hn : n ≤ 8) : le s a n < 18446744073709551616 :=
  Nat.lt_of_lt_of_le (le_lt s a n) (Nat.le_trans (Nat.pow_le_pow_right (by decide) hn) (by decide))
theorem le_or (s : ByteArray) (a : Int) (n : Nat) : le s a n ||| byteAt s (a + n) * 256 ^ n = le s a (n + 1) := by
  have h := Nat.two_pow_add_eq_or_of_lt (i := 8 * n) (b := le s a n) (by rw [Nat.pow_mul]; exact le_lt s a n) (byteAt s (a + n))
  rw [Nat.pow_mul, show (2 : Nat) ^ 8 = 256 from rfl, Nat.mul_comm (256 ^ n)] at h
  rw [Nat.or_comm, ← h]
  simp only [le]
  omega
theorem le_congr {s t : ByteArray} {a b : Int} : ∀ n : Nat, (∀ i : Nat, i < n → byteAt s (a + i) = byteAt t (b + i)) → le s a n = le t b n
  | 0, _ => rfl
  | n + 1, h => by
    simp only [le]
    rw [le_congr n (fun i hi => h i (by omega)), h n (by omega)]
theorem byteAt_extract {s : ByteArray} {a b : Nat} {i : Nat} (hb : b ≤ s.size) (hi : a + i < b) : byteAt (s.extract a b) (0 + (i : Int)) = byteAt s ((a : Int) + i) := by
  unfold byteAt bt
  have h1 : (0 + (i : Int)).toNat = i := by omega
  have h2 : ((a : Int) + i).toNat = a + i := by omega
  simp only [h1, h2]
  have hs : (s.extract a b).size = b - a := by simp; omega
  rw [dif_pos (by omega), dif_pos (by omega)]
  simp [ByteArray.getElem_extract]
theorem shl_byte (s : ByteArray) (a : Int) {i : Nat} (hi : i < 8) : shl .i64 (wrap64 (bt s a)) (8 * (i : Int)) = wrap64 ((byteAt s a * 256 ^ i : Nat) : Int) := by
  have hb := byteAt_lt s a
  rw [byteAt_eq, w64_in (n := ((byteAt s a : Nat) : Int)) (by omega) (by omega)]
  unfold shl
  rw [i64_wrap, show min (8 * (i : Int)).toNat IntKind.i64.bits = 8 * i by simp [IntKind.bits]; omega]
  congr 1
  rw [Int.natCast_mul, Int.natCast_pow, show ((256 : Nat) : Int) = 2 ^ 8 from rfl, ← Int.pow_mul]
theorem byte_term_lt (s : ByteArray) (a : Int) {i : Nat} (hi : i < 8) : byteAt s a * 256 ^ i < 18446744073709551616 := by
  have h1 := byteAt_lt s a
  have h2 : byteAt s a * 256 ^ i ≤ 255 * 256 ^ 7 := Nat.mul_le_mul (by omega) (Nat.pow_le_pow_right (by decide) (by omega))
  omega
end Go.Proofs.Ytmldfchddccncaa.Num
