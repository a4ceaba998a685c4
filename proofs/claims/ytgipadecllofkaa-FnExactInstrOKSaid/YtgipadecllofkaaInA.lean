/- The parts of the program's and the reference's InstrOK, each told in plain words: sizes, ranges, operands, signs. -/
import Derived.Test.YtgipadecllofkaaPFnExactInstrOKx2
import Derived.Test.YtgipadecllofkaaPFnExactInstrOKx3
import Derived.Test.YtgipadecllofkaaPFnExactInstrOKx4
import Derived.Test.YtgipadecllofkaaPFnExactInstrOKx6
import Derived.Test.YtgipadecllofkaaPFnExactInstrOKx8
import Derived.Test.YtgipadecllofkaaPFnExactInstrOKx9
import Derived.Test.YtgipadecllofkaaPFnExactInstrOKx10
import Derived.Test.YtgipadecllofkaaPFnExactInstrOKx11
import Derived.Test.YtgipadecllofkaaPFnExactInstrOKx12
import Derived.Test.YtgipadecllofkaaPFnExactInstrOKx13
import Derived.Test.YtgipadecllofkaaPFnExactInstrOKx14
import Derived.Test.YtgipadecllofkaaPFnExactInstrOKx15
import Derived.Test.YtgipadecllofkaaNumB
import Derived.Test.YtgipadecllofkaaNumC
import Derived.Test.YtgipadecllofkaaNumD
import Derived.Test.YtgipadecllofkaaNumE
namespace Go.Proofs.Ytgipadecllofkaa.Pure
open Go.RowKit Go.Proofs.Ytgipadecllofkaa.PFnExactInstrOK Go.Proofs.YtgipadecllofkaaW.PrintWords Go.Proofs.YtgipadecllofkaaW.PrintLast Go.Proofs.YtgipadecllofkaaW.PrintMore Go.Proofs.Ytgipadecllofkaa.Num
set_option linter.unusedVariables false
set_option linter.unusedSimpArgs false
theorem size_spec (s : Int) : spec_l01Size.f s = some (decide (Sz s)) := by
  unfold spec_l01Size.f Sz
  by_cases h1 : s = 1 <;> by_cases h2 : s = 2 <;> by_cases h4 : s = 4 <;> by_cases h8 : s = 8 <;> simp_all
theorem size_impl (s : Int) : impl_isSize.f s = some (decide (Sz s)) := size_spec s
theorem in_spec (n l h : Int) : spec_l01In.f n l h = some (decide (l ≤ n ∧ n ≤ h)) := by
  unfold spec_l01In.f
  by_cases a : n ≥ l <;> by_cases b : n ≤ h <;> simp [a, b] <;> omega
theorem within_impl (n l h : Int) : impl_within.f n l h = some (decide (l ≤ n ∧ n ≤ h)) := by
  unfold impl_within.f
  by_cases a : n ≥ l <;> by_cases b : n ≤ h <;> simp [a, b] <;> omega
theorem bit_spec (a i : Int) (h0 : 0 ≤ i) (h1 : i < 64) : spec_l01Bit.f a i = some (bit a i) := by
  unfold spec_l01Bit.f
  have hi : IntKind.u64.wrap i = i := u64_in h0 (by omega)
  have ha : IntKind.u64.wrap a = (un a : Int) := by rw [IntKind.wrap_u64, un_eq]
  rw [hi, if_pos h0, ha, shr_u64 _ _ (by omega) h0 h1, Int.toNat_natCast]
  unfold bit
  have e : Int.tmod ((un a / 2 ^ i.toNat : Nat) : Int) 2 = ((un a / 2 ^ i.toNat % 2 : Nat) : Int) := by
    rw [Int.tmod_eq_emod_of_nonneg (Int.natCast_nonneg _)]; rfl
  rw [e]
  rcases Nat.mod_two_eq_zero_or_one (un a / 2 ^ i.toNat) with h | h <;> rw [h] <;> simp
theorem sign_loop (a s : Int) (hs : Sz s) : ∀ (j k : Nat), j ≤ 64 → j < k →
    spec_l01Sign.l0 k a s ((sgn (8 * s).toNat (un a) / 2 ^ j : Nat) : Int) ((j : Int) - 1) = some (wrap64 ((sgn (8 * s).toNat (un a) : Nat) : Int))
  | j, 0, _, hk => by omega
  | 0, k + 1, _, _ => by
    simp only [spec_l01Sign.l0]
    rw [if_neg (by omega)]
    simp
  | j + 1, k + 1, hj, hk => by
    simp only [spec_l01Sign.l0]
    have h8 : 8 ≤ 8 * s ∧ 8 * s ≤ 64 := by rcases hs with rfl | rfl | rfl | rfl <;> omega
    have hm : mn (j : Int) (wrap64 (wrap64 (8 * s) - 1)) = ((min j ((8 * s).toNat - 1) : Nat) : Int) := by
      rw [w64_in (n := 8 * s) (by omega) (by omega), w64_in (by omega) (by omega)]
      unfold mn
      split <;> omega
    rw [if_pos (by omega), show ((j + 1 : Nat) : Int) - 1 = (j : Int) by omega, hm, bit_spec _ _ (by omega) (by omega)]
    simp only [Option.bind_some]
    have hl := sgn_lt (8 * s).toNat (un a) (by omega) (by omega)
    have h3 := half_step (sgn (8 * s).toNat (un a)) j
    have h4 := sgn_bit (8 * s).toNat (un a) j (by omega) (by omega) (by omega)
    have h5 : sgn (8 * s).toNat (un a) / 2 ^ j ≤ sgn (8 * s).toNat (un a) := Nat.div_le_self _ _
    have e : IntKind.u64.wrap (IntKind.u64.wrap (2 * ((sgn (8 * s).toNat (un a) / 2 ^ (j + 1) : Nat) : Int)) + IntKind.u64.wrap (bit a ((min j ((8 * s).toNat - 1) : Nat) : Int))) = ((sgn (8 * s).toNat (un a) / 2 ^ j : Nat) : Int) := by
      unfold bit
      rw [Int.toNat_natCast, ← h4]
      rw [u64_in (n := 2 * _) (by omega) (by omega), u64_in (n := ((sgn (8 * s).toNat (un a) / 2 ^ j % 2 : Nat) : Int)) (by omega) (by omega), u64_in (by omega) (by omega)]
      omega
    rw [e, show wrap64 ((j : Int) - 1) = (j : Int) - 1 from w64_in (by omega) (by omega)]
    exact sign_loop a s hs j k (by omega) (by omega)
theorem sign_spec {k : Nat} {a s : Int} (hs : Sz s) (ha : -9223372036854775808 ≤ a ∧ a ≤ 9223372036854775807) (hk : 64 < k) : spec_l01Sign.f k a s = some (signZ a s) := by
  unfold spec_l01Sign.f
  have h8 : 8 ≤ 8 * s ∧ 8 * s ≤ 64 := by rcases hs with rfl | rfl | rfl | rfl <;> omega
  rw [← signZ_sgn hs ha]
  have h := sign_loop a s hs 64 k (by omega) (by omega)
  rw [Nat.div_eq_of_lt (sgn_lt _ _ (by omega) (by omega))] at h
  exact h
theorem sign_impl {a s : Int} (hs : Sz s) (ha : -9223372036854775808 ≤ a ∧ a ≤ 9223372036854775807) : impl_sign.f a s = some (signZ a s) := by
  unfold impl_sign.f shl shr signZ
  rcases hs with rfl | rfl | rfl | rfl
  · rw [show wrap64 (64 - wrap64 (8 * 1)) = 56 by decide +kernel]
    simp only [i64_wrap, IntKind.bits, show min (Int.toNat 56) 64 = 56 from rfl]
    unfold wrap64
    simp
    omega
  · rw [show wrap64 (64 - wrap64 (8 * 2)) = 48 by decide +kernel]
    simp only [i64_wrap, IntKind.bits, show min (Int.toNat 48) 64 = 48 from rfl]
    unfold wrap64
    simp
    omega
  · rw [show wrap64 (64 - wrap64 (8 * 4)) = 32 by decide +kernel]
    simp only [i64_wrap, IntKind.bits, show min (Int.toNat 32) 64 = 32 from rfl]
    unfold wrap64
    simp
    omega
  · rw [show wrap64 (64 - wrap64 (8 * 8)) = 0 by decide +kernel]
    simp only [i64_wrap, IntKind.bits, show min (Int.toNat 0) 64 = 0 from rfl]
    unfold wrap64
    simp
    omega
/-- Right memory, of kind 2: register, base, index, scale, displacement, number. -/
def MemOK (r b i s d m : Int) : Prop := r = 0 ∧ m = 0 ∧ (-1 ≤ b ∧ b ≤ 16) ∧ (-1 ≤ i ∧ i ≤ 15) ∧ i ≠ 4 ∧ Sz s ∧ (-2147483648 ≤ d ∧ d ≤ 2147483647) ∧ (0 ≤ i ∨ s = 1) ∧ (b = 16 → i < 0)
instance (r b i s d m : Int) : Decidable (MemOK r b i s d m) := by unfold MemOK; infer_instance
theorem l04_mem (r b i s d m z : Int) : spec_l04Operand.f 2 r b i s d m z = some (decide (MemOK r b i s d m)) := by
  unfold spec_l04Operand.f
  rw [if_neg (by omega), if_pos rfl]
  by_cases h1 : r = 0
  rotate_left
  · rw [if_neg h1]; simp [MemOK, h1]
  rw [if_pos h1]
  by_cases h2 : m = 0
  rotate_left
  · rw [if_neg h2]; simp [MemOK, h2]
  rw [if_pos h2]
  simp only [in_spec, size_spec, Option.bind_some, decide_eq_true_eq]
  by_cases h3 : -1 ≤ b ∧ b ≤ 16
  rotate_left
  · rw [if_neg h3]; simp [MemOK, h3]
  rw [if_pos h3]
  by_cases h4 : -1 ≤ i ∧ i ≤ 15
  rotate_left
  · rw [if_neg h4]; simp [MemOK, h4]
  rw [if_pos h4]
  by_cases h5 : i = 4
  · rw [if_pos h5]; simp [MemOK, h5]
  rw [if_neg h5]
  by_cases h6 : Sz s
  rotate_left
  · rw [if_neg h6]; simp [MemOK, h6]
  rw [if_pos h6]
  by_cases h7 : -2147483648 ≤ d ∧ d ≤ 2147483647
  rotate_left
  · rw [if_neg h7]; simp [MemOK, h7]
  rw [if_pos h7]
  have hm : MemOK r b i s d m ↔ ((0 ≤ i ∨ s = 1) ∧ (b = 16 → i < 0)) := ⟨fun h => h.2.2.2.2.2.2.2, fun h => ⟨h1, h2, h3, h4, h5, h6, h7, h⟩⟩
  rw [show decide (MemOK r b i s d m) = decide ((0 ≤ i ∨ s = 1) ∧ (b = 16 → i < 0)) from decide_eq_decide.mpr hm]
  have h8' : (i < 0) ↔ ¬ 0 ≤ i := by omega
  by_cases h8 : 0 ≤ i <;> by_cases h9 : b = 16 <;> by_cases h10 : s = 1 <;> simp [h8', h8, h9, h10]
theorem fits_impl (d : Int) (hd : -9223372036854775808 ≤ d ∧ d ≤ 9223372036854775807) : impl_fits.f d 4 = some (decide (-2147483648 ≤ d ∧ d ≤ 2147483647)) := by
  unfold impl_fits.f
  rw [sign_impl (by unfold Sz; omega) hd]
  simp only [Option.bind_some]
  have e : signZ d 4 = (d + 2147483648) % 4294967296 - 2147483648 := rfl
  rw [e]
  by_cases h : -2147483648 ≤ d ∧ d ≤ 2147483647
  · have : ((d + 2147483648) % 4294967296 - 2147483648 == d) = true := by rw [beq_iff_eq]; omega
    rw [this]; simp [h]
  · have : ((d + 2147483648) % 4294967296 - 2147483648 == d) = false := by rw [beq_eq_false_iff_ne]; omega
    rw [this]; simp [h]
theorem isMem_impl (r b i s d m : Int) (hd : -9223372036854775808 ≤ d ∧ d ≤ 9223372036854775807) : impl_Operand_isMem.f 2 r b i s d m = some (decide (MemOK r b i s d m)) := by
  unfold impl_Operand_isMem.f
  simp only [within_impl, fits_impl d hd, Option.bind_some, decide_eq_true_eq, if_true]
  by_cases h1 : r = 0
  rotate_left
  · simp [MemOK, h1]
  by_cases h2 : m = 0
  rotate_left
  · simp [MemOK, h2]
  by_cases h3 : -1 ≤ b ∧ b ≤ 16
  rotate_left
  · simp [MemOK, h3]
  by_cases h4 : -1 ≤ i ∧ i ≤ 15
  rotate_left
  · simp [MemOK, h4]
  by_cases h5 : i = 4
  · simp [MemOK, h5]
  by_cases h7 : -2147483648 ≤ d ∧ d ≤ 2147483647
  rotate_left
  · simp [MemOK, h7]
  simp only [MemOK, h1, h2, h3, h4, h5, h7, if_true, if_false, and_self, true_and, ne_eq, not_false_eq_true, Sz]
  by_cases s1 : s = 1
  · by_cases h9 : b = 16 <;> by_cases h10 : i = -1 <;> simp [s1, h9, h10] <;> omega
  · by_cases h10 : i = -1
    · simp [s1, h10]
    · have hi : 0 ≤ i := by omega
      by_cases s2 : s = 2 <;> by_cases s4 : s = 4 <;> by_cases s8 : s = 8 <;> by_cases h9 : b = 16 <;> simp [s1, s2, s4, s8, h9, h10, hi] <;> omega

/-- A right operand of a size. -/
def OpOK (k r b i s d m z : Int) : Prop := if k = 1 then ((0 ≤ r ∧ r ≤ if z = 1 then 19 else 15) ∧ b = 0 ∧ i = 0 ∧ s = 0 ∧ d = 0 ∧ m = 0) else if k = 2 then MemOK r b i s d m else if k = 3 then (r = 0 ∧ b = 0 ∧ i = 0 ∧ s = 0 ∧ d = 0) else (k = 0 ∧ r = 0 ∧ b = 0 ∧ i = 0 ∧ s = 0 ∧ d = 0 ∧ m = 0)
instance (k r b i s d m z : Int) : Decidable (OpOK k r b i s d m z) := by unfold OpOK; infer_instance
theorem l04_tells (k r b i s d m z : Int) : spec_l04Operand.f k r b i s d m z = some (decide (OpOK k r b i s d m z)) := by
  unfold OpOK
  by_cases h1 : k = 1
  · subst h1
    unfold spec_l04Operand.f
    simp only [if_true, in_spec, Option.bind_some, decide_eq_true_eq]
    by_cases z1 : z = 1
    · by_cases hr : 0 ≤ r ∧ r ≤ 19 <;> simp [z1, hr, Bool.beq_eq_decide_eq]
    · by_cases hr : 0 ≤ r ∧ r ≤ 15 <;> simp [z1, hr, Bool.beq_eq_decide_eq]
  by_cases h2 : k = 2
  · subst h2
    rw [l04_mem]
    simp
  unfold spec_l04Operand.f
  rw [if_neg h1, if_neg h2]
  by_cases h3 : k = 3
  · simp [h3, Bool.beq_eq_decide_eq]
  · simp [h1, h2, h3, Bool.beq_eq_decide_eq]
theorem operand_impl (k r b i s d m z : Int) (hd : -9223372036854775808 ≤ d ∧ d ≤ 9223372036854775807) : impl_OperandOK.f k r b i s d m z = some (decide (Sz z ∧ if k = 1 then ((0 ≤ r ∧ r ≤ if z = 1 then 19 else 15) ∧ b = 0 ∧ i = 0 ∧ s = 0 ∧ d = 0 ∧ m = 0) else if k = 2 then MemOK r b i s d m else if k = 3 then (r = 0 ∧ b = 0 ∧ i = 0 ∧ s = 0 ∧ d = 0) else (k = 0 ∧ r = 0 ∧ b = 0 ∧ i = 0 ∧ s = 0 ∧ d = 0 ∧ m = 0))) := by
  unfold impl_OperandOK.f
  rw [size_impl]
  by_cases hz : Sz z
  rotate_left
  · simp [hz]
  simp only [hz, decide_true, Option.bind_some, if_true, true_and]
  by_cases h1 : k = 1
  · subst h1
    unfold impl_regOf.f impl_isReg.f impl_isHigh.f
    simp only [if_true, size_impl, within_impl, hz, decide_true, Option.bind_some, decide_eq_true_eq]
    by_cases e : b = 0 ∧ i = 0 ∧ s = 0 ∧ d = 0 ∧ m = 0
    · obtain ⟨rfl, rfl, rfl, rfl, rfl⟩ := e
      by_cases z1 : z = 1
      · by_cases hr : 0 ≤ r ∧ r ≤ 15
        · have h19 : r ≤ 19 := by omega
          simp [z1, hr, h19]
        · have e : (16 ≤ r ∧ r ≤ 19) ↔ (0 ≤ r ∧ r ≤ 19) := by omega
          simp only [hr, decide_false, Bool.false_eq_true, if_false, z1, if_true, Option.bind_some, beq_self_eq_true, Bool.and_self]
          simp [e]
      · by_cases hr : 0 ≤ r ∧ r ≤ 15 <;> simp [z1, hr]
    · have e2 : ¬ ((1 == (1 : Int) && (r == r && (b == 0 && (i == 0 && (s == 0 && (d == 0 && (m == 0))))))) = true) := by simpa using e
      rw [if_neg e2]
      simp [e]
  rw [if_neg h1]
  by_cases h2 : k = 2
  · subst h2
    rw [isMem_impl _ _ _ _ _ _ hd]
    simp
  rw [if_neg h2]
  unfold impl_immOf.f
  by_cases h3 : k = 3
  · simp [h3, Bool.beq_eq_decide_eq]
  · simp [h1, h2, h3, Bool.beq_eq_decide_eq]
theorem operand_tells (k r b i s d m z : Int) (hd : -9223372036854775808 ≤ d ∧ d ≤ 9223372036854775807) : impl_OperandOK.f k r b i s d m z = some (decide (Sz z ∧ OpOK k r b i s d m z)) := by
  unfold OpOK
  exact operand_impl k r b i s d m z hd
/-- A number that fits: of a size, at most four bytes. -/
def Fit (v z : Int) : Prop := if z = 1 then -128 ≤ v ∧ v ≤ 127 else if z = 2 then -32768 ≤ v ∧ v ≤ 32767 else -2147483648 ≤ v ∧ v ≤ 2147483647
instance (v z : Int) : Decidable (Fit v z) := by unfold Fit; infer_instance
theorem signZ_fit {v z : Int} (hz : z = 1 ∨ z = 2 ∨ z = 4) : (signZ v z == v) = decide (Fit v z) := by
  rw [Bool.eq_iff_iff, beq_iff_eq, decide_eq_true_eq]
  unfold signZ Fit
  rcases hz with rfl | rfl | rfl
  · simp only [if_true]; omega
  · simp only [show (2 : Int) ≠ 1 by omega, if_true, if_false]; omega
  · simp only [show (4 : Int) ≠ 1 by omega, show (4 : Int) ≠ 2 by omega, if_true, if_false]; omega
theorem min_size {z : Int} (hz : Sz z) (v : Int) : (mn z 4 = 1 ∨ mn z 4 = 2 ∨ mn z 4 = 4) ∧ Sz (mn z 4) ∧ (Fit v (mn z 4) ↔ Fit v z) ∧ mn 4 z = mn z 4 := by
  rcases hz with rfl | rfl | rfl | rfl <;> simp [mn, Sz, Fit]
theorem fits_spec {k : Nat} (hk : 64 < k) {v z : Int} (hz : Sz z) (hv : -9223372036854775808 ≤ v ∧ v ≤ 9223372036854775807) : spec_l05Fits.f k v z = some (decide (Fit v z)) := by
  unfold spec_l05Fits.f
  obtain ⟨h1, h2, h3, _⟩ := min_size hz v
  rw [sign_spec h2 hv hk, Option.bind_some, signZ_fit h1, decide_eq_decide.mpr h3]
theorem fits_of {v z : Int} (hz : z = 1 ∨ z = 2 ∨ z = 4) (hv : -9223372036854775808 ≤ v ∧ v ≤ 9223372036854775807) : impl_fits.f v z = some (decide (Fit v z)) := by
  unfold impl_fits.f
  rw [sign_impl (by unfold Sz; omega) hv, Option.bind_some, signZ_fit hz]
/-! The kinds -/
theorem has_tells (k : Nat) (c : UInt8) (d : Int) : spec_l05Has.f (k + 2) ⟨#[c]⟩ d = some (decide ((c.toNat : Int) = d)) := by
  unfold spec_l05Has.f
  have hs : ((⟨#[c]⟩ : ByteArray).size : Int) = 1 := rfl
  have hb : bt (⟨#[c]⟩ : ByteArray) 0 = (c.toNat : Int) := rfl
  have hw : wrap64 (0 + 1) = 1 := by unfold wrap64; omega
  rw [spec_l05Has.l0, hs, if_pos (by omega), if_pos (by omega), hb, hw]
  by_cases h : (c.toNat : Int) = d
  · rw [if_pos h]; simp [h]
  · rw [if_neg h, spec_l05Has.l0, hs, if_neg (by omega)]; simp [h]
/-- The kind that a letter stands for. -/
def kdOf (c : UInt8) : Int := if c = 114 then 1 else if c = 109 then 2 else if c = 105 then 3 else 0
theorem kind_tells (k : Nat) (x a b c d e f : Int) (l : UInt8) (hl : l = 114 ∨ l = 109 ∨ l = 105 ∨ l = 48) : spec_l05Kind.f (k + 2) x a b c d e f ⟨#[l]⟩ = some (decide (x = kdOf l)) := by
  unfold spec_l05Kind.f
  simp only [has_tells]
  rcases hl with rfl | rfl | rfl | rfl <;> by_cases h1 : x = 1 <;> by_cases h2 : x = 2 <;> by_cases h3 : x = 3 <;> by_cases h0 : x = 0 <;> simp_all [kdOf] <;> omega
theorem two_step (k : Nat) (L : List ByteArray) (i : Int) (A0 A1 A2 A3 A4 A5 A6 A7 A8 A9 A10 A11 A12 A13 A14 A15 A16 A17 A18 : Int) (h0 : 0 ≤ i) (h1 : i < L.length) (hi : i ≤ 1000) (c d : UInt8) (hp : rdOf ByteArray.empty L i = ⟨#[c, d]⟩)
    (hc : c = 114 ∨ c = 109 ∨ c = 105 ∨ c = 48) (hd : d = 114 ∨ d = 109 ∨ d = 105 ∨ d = 48) :
    spec_l05Two.l0 (k + 3) L i A0 A1 A2 A3 A4 A5 A6 A7 A8 A9 A10 A11 A12 A13 A14 A15 A16 A17 A18 = if A4 = kdOf c ∧ A11 = kdOf d then some true else spec_l05Two.l0 (k + 2) L (i + 1) A0 A1 A2 A3 A4 A5 A6 A7 A8 A9 A10 A11 A12 A13 A14 A15 A16 A17 A18 := by
  have hw : wrap64 (i + 1) = i + 1 := by unfold wrap64; omega
  have e1 : (⟨#[c, d]⟩ : ByteArray).extract 0 1 = ⟨#[c]⟩ := rfl
  have e2 : (⟨#[c, d]⟩ : ByteArray).extract 1 (⟨#[c, d]⟩ : ByteArray).size = ⟨#[d]⟩ := rfl
  have e3 : ((⟨#[c, d]⟩ : ByteArray).size : Int) = 2 := rfl
  rw [spec_l05Two.l0, if_pos h1, if_pos h0, if_pos (by omega), hp, e3, if_pos (by omega), e1, e2, kind_tells k _ _ _ _ _ _ _ c hc, kind_tells k _ _ _ _ _ _ _ d hd, hw, Option.bind_some, Option.bind_some]
  by_cases x : A4 = kdOf c <;> by_cases y : A11 = kdOf d <;> simp [x, y]
/-- Both kinds together are among some pairs. -/
def In (x y : Int) : List (Int × Int) → Prop
  | [] => False
  | p :: ps => (x = p.1 ∧ y = p.2) ∨ In x y ps
instance In.dec (x y : Int) : ∀ ps, Decidable (In x y ps)
  | [] => by unfold In; infer_instance
  | p :: ps => by unfold In; have := In.dec x y ps; infer_instance
def lett (c : UInt8) : Prop := c = 114 ∨ c = 109 ∨ c = 105 ∨ c = 48
theorem two_all (A0 A1 A2 A3 A4 A5 A6 A7 A8 A9 A10 A11 A12 A13 A14 A15 A16 A17 A18 : Int) : ∀ (P : List (UInt8 × UInt8)) (pre : List ByteArray) (k : Nat), (∀ p ∈ P, lett p.1 ∧ lett p.2) → pre.length + P.length ≤ 1000 →
    spec_l05Two.l0 (k + 3 + P.length) (pre ++ P.map fun p => ⟨#[p.1, p.2]⟩) (pre.length : Int) A0 A1 A2 A3 A4 A5 A6 A7 A8 A9 A10 A11 A12 A13 A14 A15 A16 A17 A18 = some (decide (In A4 A11 (P.map fun p => (kdOf p.1, kdOf p.2))))
  | [], pre, k, _, _ => by
    rw [show k + 3 + ([] : List (UInt8 × UInt8)).length = (k + 2) + 1 by simp, spec_l05Two.l0, if_neg (by simp)]
    simp [In]
  | p :: P, pre, k, h, hl => by
    have hL : pre ++ (p :: P).map (fun p => (⟨#[p.1, p.2]⟩ : ByteArray)) = (pre ++ [⟨#[p.1, p.2]⟩]) ++ P.map fun p => ⟨#[p.1, p.2]⟩ := by simp
    have ih := two_all A0 A1 A2 A3 A4 A5 A6 A7 A8 A9 A10 A11 A12 A13 A14 A15 A16 A17 A18 P (pre ++ [⟨#[p.1, p.2]⟩]) k (fun q hq => h q (by simp [hq])) (by simp at hl ⊢; omega)
    obtain ⟨hc, hd⟩ := h p (by simp)
    rw [show k + 3 + (p :: P).length = (k + P.length + 1) + 3 by simp; omega, two_step (k + P.length + 1) _ _ _ _ _ _ _ _ _ _ _ _ _ _ _ _ _ _ _ _ _ (by omega) (by simp; omega) (by simp at hl; omega) p.1 p.2 (by unfold rdOf; simp) hc hd]
    rw [show k + P.length + 1 + 2 = k + 3 + P.length by omega, hL, show ((pre.length : Int) + 1) = ((pre ++ [(⟨#[p.1, p.2]⟩ : ByteArray)]).length : Int) by simp, ih]
    by_cases x : A4 = kdOf p.1 ∧ A11 = kdOf p.2
    · rw [if_pos x]; simp [In, x]
    · rw [if_neg x]; simp [In, x]
/-- The kinds of both operands, by a list of pairs of letters. -/
theorem two_tells {k : Nat} (hk : 20 ≤ k) (A0 A1 A2 A3 A4 A5 A6 A7 A8 A9 A10 A11 A12 A13 A14 A15 A16 A17 A18 : Int) (P : List (UInt8 × UInt8)) (h : ∀ p ∈ P, lett p.1 ∧ lett p.2) (hl : P.length ≤ 10) :
    spec_l05Two.f k A0 A1 A2 A3 A4 A5 A6 A7 A8 A9 A10 A11 A12 A13 A14 A15 A16 A17 A18 (P.map fun p => ⟨#[p.1, p.2]⟩) = some (decide (In A4 A11 (P.map fun p => (kdOf p.1, kdOf p.2)))) := by
  unfold spec_l05Two.f
  have := two_all A0 A1 A2 A3 A4 A5 A6 A7 A8 A9 A10 A11 A12 A13 A14 A15 A16 A17 A18 P [] (k - 3 - P.length) h (by simp; omega)
  rw [show k - 3 - P.length + 3 + P.length = k by omega] at this
  exact this
end Go.Proofs.Ytgipadecllofkaa.Pure
