/- The parts of the program's InstrOK told in plain words: forms, letters, sizes, numbers, REX. -/
import Derived.Test.YtgipadecllofkaaInA
namespace Go.Proofs.Ytgipadecllofkaa.Pure
open Go.RowKit Go.Proofs.Ytgipadecllofkaa.PFnExactInstrOK Go.Proofs.YtgipadecllofkaaW.PrintWords Go.Proofs.YtgipadecllofkaaW.PrintLast Go.Proofs.YtgipadecllofkaaW.PrintMore Go.Proofs.Ytgipadecllofkaa.Num
set_option linter.unusedVariables false
set_option linter.unusedSimpArgs false
/-- What formsOf tells of an operation: its sizes, its forms' text, the pairs of kinds. -/
def szs (o : Int) : List Int :=
  if o ≤ 9 then [1, 2, 4, 8]
  else if o = 10 ∨ (20 ≤ o ∧ o ≤ 24) then [1, 2, 4, 8]
  else if o = 28 then [1, 2, 4, 8]
  else if o = 11 ∨ o = 12 ∨ o = 18 ∨ o = 19 then [1, 2, 4, 8]
  else if 13 ≤ o ∧ o ≤ 16 then [1, 2, 4, 8]
  else if o = 17 ∨ o = 36 ∨ o = 26 ∨ o = 27 then [2, 4, 8]
  else if o = 25 then [2, 4, 8]
  else if o = 29 ∨ o = 31 ∨ o = 32 then [8]
  else if o = 30 then [8]
  else if o = 33 ∨ o = 44 then [0]
  else if o = 35 then [1]
  else if o = 39 ∨ o = 40 then [2, 4, 8]
  else if o = 41 ∨ o = 42 then [1]
  else [0]
def txt (o : Int) : ByteArray :=
  if o ≤ 9 then ⟨#[114, 114, 32, 109, 114, 32, 114, 109, 32, 114, 105, 32, 109, 105]⟩
  else if o = 10 ∨ (20 ≤ o ∧ o ≤ 24) then ⟨#[114, 114, 32, 109, 114, 32, 114, 105, 32, 109, 105]⟩
  else if o = 28 then ⟨#[114, 114, 32, 109, 114]⟩
  else if o = 11 ∨ o = 12 ∨ o = 18 ∨ o = 19 then ⟨#[114, 45, 32, 109, 45]⟩
  else if 13 ≤ o ∧ o ≤ 16 then ⟨#[45, 114, 32, 45, 109]⟩
  else if o = 17 ∨ o = 36 ∨ o = 26 ∨ o = 27 then ⟨#[114, 114, 32, 114, 109]⟩
  else if o = 25 then ⟨#[114, 109]⟩
  else if o = 29 ∨ o = 31 ∨ o = 32 then ⟨#[45, 114, 32, 45, 109, 32, 45, 105]⟩
  else if o = 30 then ⟨#[114, 45, 32, 109, 45]⟩
  else if o = 33 ∨ o = 44 then ⟨#[45, 105]⟩
  else if o = 35 then ⟨#[114, 45, 32, 109, 45]⟩
  else if o = 39 ∨ o = 40 then ⟨#[45, 45]⟩
  else if o = 41 ∨ o = 42 then ⟨#[45, 45]⟩
  else ⟨#[45, 45]⟩
def prs (o : Int) : List (Int × Int) :=
  if o ≤ 9 then [(1, 1), (2, 1), (1, 2), (1, 3), (2, 3)]
  else if o = 10 ∨ (20 ≤ o ∧ o ≤ 24) then [(1, 1), (2, 1), (1, 3), (2, 3)]
  else if o = 28 then [(1, 1), (2, 1)]
  else if o = 11 ∨ o = 12 ∨ o = 18 ∨ o = 19 then [(1, 0), (2, 0)]
  else if 13 ≤ o ∧ o ≤ 16 then [(0, 1), (0, 2)]
  else if o = 17 ∨ o = 36 ∨ o = 26 ∨ o = 27 then [(1, 1), (1, 2)]
  else if o = 25 then [(1, 2)]
  else if o = 29 ∨ o = 31 ∨ o = 32 then [(0, 1), (0, 2), (0, 3)]
  else if o = 30 then [(1, 0), (2, 0)]
  else if o = 33 ∨ o = 44 then [(0, 3)]
  else if o = 35 then [(1, 0), (2, 0)]
  else if o = 39 ∨ o = 40 then [(0, 0)]
  else if o = 41 ∨ o = 42 then [(0, 0)]
  else [(0, 0)]
theorem forms_all : ∀ o : Fin 44, impl_formsOf.f 299 ((o.val : Int) + 1) = some (szs ((o.val : Int) + 1), txt ((o.val : Int) + 1)) ∧ (txt ((o.val : Int) + 1)).size ≤ 20 ∧ (szs ((o.val : Int) + 1)).length ≤ 4 := by decide +kernel
def ltc : Nat → ByteArray
  | 1 => ⟨#[114]⟩
  | 2 => ⟨#[109]⟩
  | 3 => ⟨#[105]⟩
  | _ => ⟨#[45]⟩
def cl (x : Int) : Nat := if x = 1 then 1 else if x = 2 then 2 else if x = 3 then 3 else 0
theorem cl_lt (x : Int) : cl x < 4 := by unfold cl; split <;> (try split) <;> (try split) <;> omega
theorem letter_tells (x r b i s d m : Int) : impl_Operand_letter.f x r b i s d m = some (ltc (cl x)) := by
  unfold impl_Operand_letter.f cl
  by_cases h1 : x = 1 <;> by_cases h2 : x = 2 <;> by_cases h3 : x = 3 <;> simp_all [ltc]
theorem ltc_size (n : Nat) : (ltc n).size = 1 := by
  unfold ltc; split <;> rfl
theorem con_all : ∀ o : Fin 44, ∀ c d : Fin 4, Lib.contains (((⟨#[32]⟩ : ByteArray) ++ txt ((o.val : Int) + 1)) ++ (⟨#[32]⟩ : ByteArray)).data.toList (((⟨#[32]⟩ : ByteArray) ++ (ltc c.val ++ ltc d.val)) ++ (⟨#[32]⟩ : ByteArray)).data.toList = decide (In (c.val : Int) (d.val : Int) (prs ((o.val : Int) + 1))) := by decide +kernel
theorem forms_tells {o : Int} (h0 : 1 ≤ o) (h1 : o ≤ 44) : impl_formsOf.f 299 o = some (szs o, txt o) ∧ (txt o).size ≤ 20 ∧ (szs o).length ≤ 4 := by
  have h := forms_all ⟨(o - 1).toNat, by omega⟩
  simp only [show (((o - 1).toNat : Nat) : Int) + 1 = o by omega] at h
  exact h
theorem con_tells {o : Int} (h0 : 1 ≤ o) (h1 : o ≤ 44) (x y : Int) : strings_Contains.f (((⟨#[32]⟩ : ByteArray) ++ txt o) ++ (⟨#[32]⟩ : ByteArray)) (((⟨#[32]⟩ : ByteArray) ++ (ltc (cl x) ++ ltc (cl y))) ++ (⟨#[32]⟩ : ByteArray)) = some (decide (In (cl x : Int) (cl y : Int) (prs o))) := by
  have h := con_all ⟨(o - 1).toNat, by omega⟩ ⟨cl x, cl_lt x⟩ ⟨cl y, cl_lt y⟩
  simp only [show (((o - 1).toNat : Nat) : Int) + 1 = o by omega] at h
  unfold strings_Contains.f
  have hs := (forms_tells h0 h1).2.1
  rw [if_pos (by simp only [ByteArray.size_append]; have e : (⟨#[32]⟩ : ByteArray).size = 1 := rfl; omega), h]
/-- From is right. -/
def FromOK (o z f : Int) : Prop := if o = 26 then f = 1 ∨ (f = 2 ∧ 2 < z) else if o = 27 then f = 1 ∨ (f = 2 ∧ 2 < z) ∨ (f = 4 ∧ z = 8) else f = 0
instance (o z f : Int) : Decidable (FromOK o z f) := by unfold FromOK; infer_instance
theorem from_tells (A0 A1 A2 A3 A4 A5 A6 A7 A8 A9 A10 A11 A12 A13 A14 A15 A16 A17 A18 : Int) : impl_isFrom.f A0 A1 A2 A3 A4 A5 A6 A7 A8 A9 A10 A11 A12 A13 A14 A15 A16 A17 A18 = some (decide (FromOK A0 A1 A3)) := by
  unfold impl_isFrom.f FromOK
  by_cases h26 : A0 = 26
  · by_cases h1 : A3 = 1 <;> by_cases h2 : A3 = 2 <;> simp_all
  · by_cases h27 : A0 = 27
    · rw [if_neg h26, if_pos h27]
      simp only [if_neg h26, if_pos h27]
      by_cases h1 : A3 = 1
      · rw [if_pos h1]; simp [h1]
      · rw [if_neg h1]
        by_cases h2 : A3 = 2
        · rw [if_pos h2]
          by_cases hz : A1 > 2
          · rw [if_pos hz]; simp [h2]; omega
          · rw [if_neg hz, if_neg (by omega)]; simp [h2]; omega
        · rw [if_neg h2]
          by_cases h4 : A3 = 4
          · simp [h4, Bool.beq_eq_decide_eq]
          · simp [h1, h2, h4]
    · simp [h26, h27, Bool.beq_eq_decide_eq]
/-- An operation from rol to sar. -/
theorem shift_tells (o : Int) : impl_isShift.f o = some (decide (20 ≤ o ∧ o ≤ 24)) := by
  unfold impl_isShift.f
  rw [within_impl]
  rfl
def srcZ (o z f : Int) : Int := if f = 0 then (if (20 ≤ o ∧ o ≤ 24) ∨ z = 0 then 8 else z) else f
theorem srcSize_tells (A0 A1 A2 A3 A4 A5 A6 A7 A8 A9 A10 A11 A12 A13 A14 A15 A16 A17 A18 : Int) : impl_srcSize.f A0 A1 A2 A3 A4 A5 A6 A7 A8 A9 A10 A11 A12 A13 A14 A15 A16 A17 A18 = some (srcZ A0 A1 A3) := by
  unfold impl_srcSize.f srcZ
  rw [shift_tells]
  by_cases h : A3 = 0
  · rw [if_pos h, if_pos h, Option.bind_some]
    by_cases h2 : 20 ≤ A0 ∧ A0 ≤ 24
    · rw [if_pos (decide_eq_true h2), if_pos (Or.inl h2)]
    · rw [if_neg (by simpa using h2)]
      by_cases h3 : A1 = 0
      · rw [if_pos h3, if_pos (Or.inr h3)]
      · rw [if_neg h3, if_neg (fun x => x.elim h2 h3)]
  · rw [if_neg h, if_neg h]
/-- The number is one that it can have. -/
def NumOK (o z k n : Int) : Prop := if (20 ≤ o ∧ o ≤ 24) ∨ o = 44 then 0 ≤ n ∧ n ≤ 255 else if o = 9 ∧ z = 8 ∧ k = 1 then True else if z = 0 then Fit n 4 else Fit n z
instance (o z k n : Int) : Decidable (NumOK o z k n) := by unfold NumOK; infer_instance
theorem number_tells (k : Nat) (A0 A1 A2 A3 A4 A5 A6 A7 A8 A9 A10 A11 A12 A13 A14 A15 A16 A17 A18 : Int) (hz : Sz A1 ∨ A1 = 0) (hn : -9223372036854775808 ≤ A17 ∧ A17 ≤ 9223372036854775807) : impl_isNumber.f (k + 2) A0 A1 A2 A3 A4 A5 A6 A7 A8 A9 A10 A11 A12 A13 A14 A15 A16 A17 A18 = some (decide (NumOK A0 A1 A4 A17)) := by
  unfold impl_isNumber.f NumOK
  have hb : impl_isByte.f A17 = some (decide (0 ≤ A17 ∧ A17 ≤ 255)) := by
    unfold impl_isByte.f
    rw [within_impl]
    rfl
  have h4 : impl_fits.f A17 4 = some (decide (Fit A17 4)) := fits_of (by omega) hn
  have hm : Sz A1 → impl_fits.f A17 (mn 4 A1) = some (decide (Fit A17 A1)) := fun h => by
    obtain ⟨p, _, q, e⟩ := min_size h A17
    rw [e, fits_of p hn, decide_eq_decide.mpr q]
  rw [shift_tells]
  by_cases h2 : 20 ≤ A0 ∧ A0 ≤ 24
  · simp [h2, impl_isNumber.j0, hb]
  by_cases h44 : A0 = 44
  · simp [h2, h44, impl_isNumber.j0, hb]
  have j1 : ∀ b : Bool, impl_isNumber.j1 (k + 1) A17 b A0 A1 A2 A3 A4 A5 A6 A7 A8 A9 A10 A11 A12 A13 A14 A15 A16 A17 A18 = some (decide (b = true ∨ if A1 = 0 then Fit A17 4 else Fit A17 A1)) := fun b => by
    cases b with
    | true => simp [impl_isNumber.j1]
    | false =>
      by_cases h0 : A1 = 0
      · simp [impl_isNumber.j1, h0, h4]
      · simp [impl_isNumber.j1, h0, hm (by rcases hz with h | h; exact h; exact absurd h h0)]
  simp only [h2, decide_false, Option.bind_some, Bool.false_eq_true, if_false, show (A0 == 44) = false by simpa using h44, impl_isNumber.j0, j1, h44, or_false]
  by_cases h9 : A0 = 9 <;> by_cases h8 : A1 = 8 <;> by_cases h1 : A4 = 1 <;> simp [h9, h8, h1]
/-- An operation whose size 8 asks for no W. -/
def fixd (o : Int) : Prop := (29 ≤ o ∧ o ≤ 34) ∨ o = 37 ∨ o = 38 ∨ o = 43 ∨ o = 44
instance (o : Int) : Decidable (fixd o) := by unfold fixd; infer_instance
theorem wide_tells (k : Nat) (A0 A1 A2 A3 A4 A5 A6 A7 A8 A9 A10 A11 A12 A13 A14 A15 A16 A17 A18 : Int) : impl_isWide.f (k + 1) A0 A1 A2 A3 A4 A5 A6 A7 A8 A9 A10 A11 A12 A13 A14 A15 A16 A17 A18 = some (decide (A1 = 8 ∧ ¬ fixd A0)) := by
  have h : ∃ n, impl_fixedSize.f (k + 1) A0 = some (n, decide (fixd A0)) := by
    unfold impl_fixedSize.f
    by_cases h29 : A0 = 29
    · exact ⟨8, by simp [h29, impl_fixedSize.j0, fixd]⟩
    by_cases h30 : A0 = 30
    · exact ⟨8, by simp [h30, impl_fixedSize.j0, fixd]⟩
    by_cases h31 : A0 = 31
    · exact ⟨8, by simp [h31, impl_fixedSize.j0, fixd]⟩
    by_cases h32 : A0 = 32
    · exact ⟨8, by simp [h32, impl_fixedSize.j0, fixd]⟩
    have hd : fixd A0 ↔ (A0 = 33 ∨ A0 = 34 ∨ A0 = 37 ∨ A0 = 38 ∨ A0 = 43 ∨ A0 = 44) := by unfold fixd; omega
    rw [show decide (fixd A0) = decide (A0 = 33 ∨ A0 = 34 ∨ A0 = 37 ∨ A0 = 38 ∨ A0 = 43 ∨ A0 = 44) from decide_eq_decide.mpr hd]
    refine ⟨0, ?_⟩
    by_cases h33 : A0 = 33 <;> by_cases h34 : A0 = 34 <;> by_cases h37 : A0 = 37 <;> by_cases h38 : A0 = 38 <;> by_cases h43 : A0 = 43 <;> by_cases h44 : A0 = 44 <;> simp_all [impl_fixedSize.j0]
  obtain ⟨n, hn⟩ := h
  unfold impl_isWide.f
  rw [hn, Option.bind_some]
  by_cases h8 : A1 = 8 <;> simp [h8]
/-- An operand that asks for REX. -/
def Asks (k r b i z : Int) : Prop := if k = 1 then (8 ≤ r ∧ r ≤ 15) ∨ (z = 1 ∧ 4 ≤ r ∧ r ≤ 7) else if k = 2 then (8 ≤ b ∧ b ≤ 15) ∨ (8 ≤ i ∧ i ≤ 15) else False
instance (k r b i z : Int) : Decidable (Asks k r b i z) := by unfold Asks; infer_instance
theorem asks_tells (k r b i s d m z : Int) : impl_asksRex.f k r b i s d m z = some (decide (Asks k r b i z)) := by
  unfold impl_asksRex.f impl_asksRex_1.f impl_isLowByte.f Asks
  simp only [within_impl, Option.bind_some, decide_eq_true_eq]
  by_cases h1 : k = 1
  · by_cases hr : 8 ≤ r ∧ r ≤ 15 <;> by_cases hz : z = 1 <;> simp [h1, hr, hz]
  · by_cases h2 : k = 2
    · by_cases hb : 8 ≤ b ∧ b ≤ 15 <;> simp [h2, hb]
    · simp [h1, h2]
theorem needs_tells (k : Nat) (A0 A1 A2 A3 A4 A5 A6 A7 A8 A9 A10 A11 A12 A13 A14 A15 A16 A17 A18 : Int) : impl_needsRex.f (k + 1) A0 A1 A2 A3 A4 A5 A6 A7 A8 A9 A10 A11 A12 A13 A14 A15 A16 A17 A18 = some (decide ((A1 = 8 ∧ ¬ fixd A0) ∨ Asks A4 A5 A6 A7 A1 ∨ Asks A11 A12 A13 A14 (srcZ A0 A1 A3))) := by
  unfold impl_needsRex.f
  simp only [wide_tells, asks_tells, srcSize_tells, Option.bind_some, decide_eq_true_eq]
  by_cases h1 : A1 = 8 ∧ ¬ fixd A0
  · simp [h1]
  rw [if_neg h1]
  by_cases h2 : Asks A4 A5 A6 A7 A1
  · simp [h2]
  · rw [if_neg h2]; simp [h1, h2]
theorem high_tells (k r b i s d m : Int) : impl_hasHigh.f k r b i s d m = some (decide (k = 1 ∧ 16 ≤ r ∧ r ≤ 19)) := by
  unfold impl_hasHigh.f impl_isHigh.f
  rw [within_impl]
  by_cases h1 : k = 1 <;> simp [h1]
theorem cond_tells (o : Int) : impl_hasCond.f o = some (decide (o = 33 ∨ o = 35 ∨ o = 36)) := by
  unfold impl_hasCond.f
  by_cases h1 : o = 33 <;> by_cases h2 : o = 35 <;> simp [h1, h2, Bool.beq_eq_decide_eq]
end Go.Proofs.Ytgipadecllofkaa.Pure
