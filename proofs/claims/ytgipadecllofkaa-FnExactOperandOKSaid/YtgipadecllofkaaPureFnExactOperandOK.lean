/- The program's OperandOK answers as the reference's at every operand and size. -/
import Derived.Test.YtgipadecllofkaaPFnExactOperandOKx4
import Derived.Test.YtgipadecllofkaaNum
namespace Go.Proofs.Ytgipadecllofkaa.Pure
open Go.RowKit Go.Proofs.Ytgipadecllofkaa.PFnExactOperandOK Go.Proofs.YtgipadecllofkaaW.PrintWords Go.Proofs.YtgipadecllofkaaW.PrintLast Go.Proofs.YtgipadecllofkaaW.PrintMore Go.Proofs.Ytgipadecllofkaa.Num
set_option linter.unusedVariables false
set_option linter.unusedSimpArgs false

theorem size_spec (s : Int) : spec_l01Size.f s = some (decide (Sz s)) := by
  unfold spec_l01Size.f Sz
  by_cases h1 : s = 1 <;> by_cases h2 : s = 2 <;> by_cases h4 : s = 4 <;> by_cases h8 : s = 8 <;> simp_all
theorem size_impl (s : Int) : impl_isSize.f s = some (decide (Sz s)) := size_spec s
theorem in_spec (n l h : Int) : spec_l01In.f n l h = some (decide (l ≤ n ∧ n ≤ h)) := by
  unfold spec_l01In.f
  by_cases a : n ≥ l <;> by_cases b : n ≤ h <;> simp [a, b] <;> omega
theorem within_impl (n l h : Int) : impl_within.f n l h = some (decide (l ≤ n ∧ n ≤ h)) := by
  unfold impl_within.f
  by_cases a : n ≥ l <;> by_cases b : n ≤ h <;> simp [a, b] <;> omega
theorem sign_impl {a s : Int} (hs : Sz s) (ha : -9223372036854775808 ≤ a ∧ a ≤ 9223372036854775807) : impl_sign.f a s = some (signZ a s) := by
  unfold impl_sign.f shl shr signZ
  rcases hs with rfl | rfl | rfl | rfl
  · rw [show wrap64 (64 - wrap64 (8 * 1)) = 56 by decide +kernel]
    simp only [i64_wrap, IntKind.bits, show min (Int.toNat 56) 64 = 56 from rfl]
    unfold wrap64
    simp
    omega
  · rw [show wrap64 (64 - wrap64 (8 * 2)) = 48 by decide +kernel]
    simp only [i64_wrap, IntKind.bits, show min (Int.toNat 48) 64 = 48 from rfl]
    unfold wrap64
    simp
    omega
  · rw [show wrap64 (64 - wrap64 (8 * 4)) = 32 by decide +kernel]
    simp only [i64_wrap, IntKind.bits, show min (Int.toNat 32) 64 = 32 from rfl]
    unfold wrap64
    simp
    omega
  · rw [show wrap64 (64 - wrap64 (8 * 8)) = 0 by decide +kernel]
    simp only [i64_wrap, IntKind.bits, show min (Int.toNat 0) 64 = 0 from rfl]
    unfold wrap64
    simp
    omega
/-- Right memory, of kind 2: register, base, index, scale, displacement, number. -/
def MemOK (r b i s d m : Int) : Prop := r = 0 ∧ m = 0 ∧ (-1 ≤ b ∧ b ≤ 16) ∧ (-1 ≤ i ∧ i ≤ 15) ∧ i ≠ 4 ∧ Sz s ∧ (-2147483648 ≤ d ∧ d ≤ 2147483647) ∧ (0 ≤ i ∨ s = 1) ∧ (b = 16 → i < 0)
instance (r b i s d m : Int) : Decidable (MemOK r b i s d m) := by unfold MemOK; infer_instance
theorem l04_mem (r b i s d m z : Int) : spec_l04Operand.f 2 r b i s d m z = some (decide (MemOK r b i s d m)) := by
  unfold spec_l04Operand.f
  rw [if_neg (by omega), if_pos rfl]
  by_cases h1 : r = 0
  rotate_left
  · rw [if_neg h1]; simp [MemOK, h1]
  rw [if_pos h1]
  by_cases h2 : m = 0
  rotate_left
  · rw [if_neg h2]; simp [MemOK, h2]
  rw [if_pos h2]
  simp only [in_spec, size_spec, Option.bind_some, decide_eq_true_eq]
  by_cases h3 : -1 ≤ b ∧ b ≤ 16
  rotate_left
  · rw [if_neg h3]; simp [MemOK, h3]
  rw [if_pos h3]
  by_cases h4 : -1 ≤ i ∧ i ≤ 15
  rotate_left
  · rw [if_neg h4]; simp [MemOK, h4]
  rw [if_pos h4]
  by_cases h5 : i = 4
  · rw [if_pos h5]; simp [MemOK, h5]
  rw [if_neg h5]
  by_cases h6 : Sz s
  rotate_left
  · rw [if_neg h6]; simp [MemOK, h6]
  rw [if_pos h6]
  by_cases h7 : -2147483648 ≤ d ∧ d ≤ 2147483647
  rotate_left
  · rw [if_neg h7]; simp [MemOK, h7]
  rw [if_pos h7]
  have hm : MemOK r b i s d m ↔ ((0 ≤ i ∨ s = 1) ∧ (b = 16 → i < 0)) := ⟨fun h => h.2.2.2.2.2.2.2, fun h => ⟨h1, h2, h3, h4, h5, h6, h7, h⟩⟩
  rw [show decide (MemOK r b i s d m) = decide ((0 ≤ i ∨ s = 1) ∧ (b = 16 → i < 0)) from decide_eq_decide.mpr hm]
  have h8' : (i < 0) ↔ ¬ 0 ≤ i := by omega
  by_cases h8 : 0 ≤ i <;> by_cases h9 : b = 16 <;> by_cases h10 : s = 1 <;> simp [h8', h8, h9, h10]
theorem fits_impl (d : Int) (hd : -9223372036854775808 ≤ d ∧ d ≤ 9223372036854775807) : impl_fits.f d 4 = some (decide (-2147483648 ≤ d ∧ d ≤ 2147483647)) := by
  unfold impl_fits.f
  rw [sign_impl (by unfold Sz; omega) hd]
  simp only [Option.bind_some]
  have e : signZ d 4 = (d + 2147483648) % 4294967296 - 2147483648 := rfl
  rw [e]
  by_cases h : -2147483648 ≤ d ∧ d ≤ 2147483647
  · have : ((d + 2147483648) % 4294967296 - 2147483648 == d) = true := by rw [beq_iff_eq]; omega
    rw [this]; simp [h]
  · have : ((d + 2147483648) % 4294967296 - 2147483648 == d) = false := by rw [beq_eq_false_iff_ne]; omega
    rw [this]; simp [h]
theorem isMem_impl (r b i s d m : Int) (hd : -9223372036854775808 ≤ d ∧ d ≤ 9223372036854775807) : impl_Operand_isMem.f 2 r b i s d m = some (decide (MemOK r b i s d m)) := by
  unfold impl_Operand_isMem.f
  simp only [within_impl, fits_impl d hd, Option.bind_some, decide_eq_true_eq, if_true]
  by_cases h1 : r = 0
  rotate_left
  · simp [MemOK, h1]
  by_cases h2 : m = 0
  rotate_left
  · simp [MemOK, h2]
  by_cases h3 : -1 ≤ b ∧ b ≤ 16
  rotate_left
  · simp [MemOK, h3]
  by_cases h4 : -1 ≤ i ∧ i ≤ 15
  rotate_left
  · simp [MemOK, h4]
  by_cases h5 : i = 4
  · simp [MemOK, h5]
  by_cases h7 : -2147483648 ≤ d ∧ d ≤ 2147483647
  rotate_left
  · simp [MemOK, h7]
  simp only [MemOK, h1, h2, h3, h4, h5, h7, if_true, if_false, and_self, true_and, ne_eq, not_false_eq_true, Sz]
  by_cases s1 : s = 1
  · by_cases h9 : b = 16 <;> by_cases h10 : i = -1 <;> simp [s1, h9, h10] <;> omega
  · by_cases h10 : i = -1
    · simp [s1, h10]
    · have hi : 0 ≤ i := by omega
      by_cases s2 : s = 2 <;> by_cases s4 : s = 4 <;> by_cases s8 : s = 8 <;> by_cases h9 : b = 16 <;> simp [s1, s2, s4, s8, h9, h10, hi] <;> omega
theorem operand_spec (k r b i s d m z : Int) : spec_OperandOK.f k r b i s d m z = some (decide (Sz z ∧ if k = 1 then ((0 ≤ r ∧ r ≤ if z = 1 then 19 else 15) ∧ b = 0 ∧ i = 0 ∧ s = 0 ∧ d = 0 ∧ m = 0) else if k = 2 then MemOK r b i s d m else if k = 3 then (r = 0 ∧ b = 0 ∧ i = 0 ∧ s = 0 ∧ d = 0) else (k = 0 ∧ r = 0 ∧ b = 0 ∧ i = 0 ∧ s = 0 ∧ d = 0 ∧ m = 0))) := by
  unfold spec_OperandOK.f
  rw [size_spec]
  by_cases hz : Sz z
  rotate_left
  · simp [hz]
  simp only [hz, decide_true, Option.bind_some, if_true, true_and]
  by_cases h1 : k = 1
  · subst h1
    unfold spec_l04Operand.f
    simp only [if_true, in_spec, Option.bind_some, decide_eq_true_eq]
    by_cases z1 : z = 1
    · by_cases hr : 0 ≤ r ∧ r ≤ 19 <;> simp [z1, hr, Bool.beq_eq_decide_eq]
    · by_cases hr : 0 ≤ r ∧ r ≤ 15 <;> simp [z1, hr, Bool.beq_eq_decide_eq]
  by_cases h2 : k = 2
  · subst h2
    rw [l04_mem]
    simp
  unfold spec_l04Operand.f
  rw [if_neg h1, if_neg h2]
  by_cases h3 : k = 3
  · simp [h3, Bool.beq_eq_decide_eq]
  · simp [h1, h2, h3, Bool.beq_eq_decide_eq]
theorem operand_impl (k r b i s d m z : Int) (hd : -9223372036854775808 ≤ d ∧ d ≤ 9223372036854775807) : impl_OperandOK.f k r b i s d m z = some (decide (Sz z ∧ if k = 1 then ((0 ≤ r ∧ r ≤ if z = 1 then 19 else 15) ∧ b = 0 ∧ i = 0 ∧ s = 0 ∧ d = 0 ∧ m = 0) else if k = 2 then MemOK r b i s d m else if k = 3 then (r = 0 ∧ b = 0 ∧ i = 0 ∧ s = 0 ∧ d = 0) else (k = 0 ∧ r = 0 ∧ b = 0 ∧ i = 0 ∧ s = 0 ∧ d = 0 ∧ m = 0))) := by
  unfold impl_OperandOK.f
  rw [size_impl]
  by_cases hz : Sz z
  rotate_left
  · simp [hz]
  simp only [hz, decide_true, Option.bind_some, if_true, true_and]
  by_cases h1 : k = 1
  · subst h1
    unfold impl_regOf.f impl_isReg.f impl_isHigh.f
    simp only [if_true, size_impl, within_impl, hz, decide_true, Option.bind_some, decide_eq_true_eq]
    by_cases e : b = 0 ∧ i = 0 ∧ s = 0 ∧ d = 0 ∧ m = 0
    · obtain ⟨rfl, rfl, rfl, rfl, rfl⟩ := e
      by_cases z1 : z = 1
      · by_cases hr : 0 ≤ r ∧ r ≤ 15
        · have h19 : r ≤ 19 := by omega
          simp [z1, hr, h19]
        · have e : (16 ≤ r ∧ r ≤ 19) ↔ (0 ≤ r ∧ r ≤ 19) := by omega
          simp only [hr, decide_false, Bool.false_eq_true, if_false, z1, if_true, Option.bind_some, beq_self_eq_true, Bool.and_self]
          simp [e]
      · by_cases hr : 0 ≤ r ∧ r ≤ 15 <;> simp [z1, hr]
    · have e2 : ¬ ((1 == (1 : Int) && (r == r && (b == 0 && (i == 0 && (s == 0 && (d == 0 && (m == 0))))))) = true) := by simpa using e
      rw [if_neg e2]
      simp [e]
  rw [if_neg h1]
  by_cases h2 : k = 2
  · subst h2
    rw [isMem_impl _ _ _ _ _ _ hd]
    simp
  rw [if_neg h2]
  unfold impl_immOf.f
  by_cases h3 : k = 3
  · simp [h3, Bool.beq_eq_decide_eq]
  · simp [h1, h2, h3, Bool.beq_eq_decide_eq]
theorem FnExactOperandOK (k r b i s d m z : Int) (hd : (Lit.int .i64 d).wf = true) : laws_FnExactOperandOK.f k r b i s d m z = some true := by
  unfold laws_FnExactOperandOK.f laws_toOperand.f
  simp only [Option.bind_some]
  rw [operand_spec, operand_impl _ _ _ _ _ _ _ _ (wf_i64 hd)]
  simp
theorem FnExactOperandOK_walk (W : World) (k r b i s d m z : Int) (_ : (Lit.int .i64 k).wf = true) (_ : (Lit.int .i64 r).wf = true) (_ : (Lit.int .i64 b).wf = true) (_ : (Lit.int .i64 i).wf = true) (_ : (Lit.int .i64 s).wf = true) (hd : (Lit.int .i64 d).wf = true) (_ : (Lit.int .i64 m).wf = true) (_ : (Lit.int .i64 z).wf = true) :
    Calls Try.prog 4 #[.agg #[.int .i64 k, .int .i64 r, .int .i64 b, .int .i64 i, .int .i64 s, .int .i64 d, .int .i64 m], .int .i64 z] W fun e w' => e = .returned (.bool true) ∧ Below W.heap.size W w' :=
  laws_FnExactOperandOK.calls k r b i s d m z true W (FnExactOperandOK k r b i s d m z hd)

end Go.Proofs.Ytgipadecllofkaa.Pure
