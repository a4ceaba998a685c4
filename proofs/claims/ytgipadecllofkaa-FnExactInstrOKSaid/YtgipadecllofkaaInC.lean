/- The program's InstrOK told in plain words. -/
import Derived.Test.YtgipadecllofkaaInB
import Derived.Test.YtgipadecllofkaaPFnExactInstrOKx160
namespace Go.Proofs.Ytgipadecllofkaa.Pure
open Go.RowKit Go.Proofs.Ytgipadecllofkaa.PFnExactInstrOK Go.Proofs.YtgipadecllofkaaW.PrintWords Go.Proofs.YtgipadecllofkaaW.PrintLast Go.Proofs.YtgipadecllofkaaW.PrintMore Go.Proofs.Ytgipadecllofkaa.Num
set_option linter.unusedVariables false
set_option linter.unusedSimpArgs false
/-- A high byte register. -/
def Hi (k r : Int) : Prop := k = 1 ∧ 16 ≤ r ∧ r ≤ 19
instance (k r : Int) : Decidable (Hi k r) := by unfold Hi; infer_instance
/-- What is asked of REX. -/
def Rex5 (A0 A1 A2 A3 A4 A5 A6 A7 A8 A9 A10 A11 A12 A13 A14 A15 A16 A17 A18 : Int) : Prop := ¬ ((Hi A4 A5 ∨ Hi A11 A12) ∧ ((A1 = 8 ∧ ¬ fixd A0) ∨ Asks A4 A5 A6 A7 A1 ∨ Asks A11 A12 A13 A14 (srcZ A0 A1 A3)))
instance (A0 A1 A2 A3 A4 A5 A6 A7 A8 A9 A10 A11 A12 A13 A14 A15 A16 A17 A18 : Int) : Decidable (Rex5 A0 A1 A2 A3 A4 A5 A6 A7 A8 A9 A10 A11 A12 A13 A14 A15 A16 A17 A18) := by unfold Rex5; infer_instance
def Sh4 (A0 A1 A2 A3 A4 A5 A6 A7 A8 A9 A10 A11 A12 A13 A14 A15 A16 A17 A18 : Int) : Prop := ((20 ≤ A0 ∧ A0 ≤ 24) → A11 = 1 → A12 = 1) ∧ Rex5 A0 A1 A2 A3 A4 A5 A6 A7 A8 A9 A10 A11 A12 A13 A14 A15 A16 A17 A18
instance (A0 A1 A2 A3 A4 A5 A6 A7 A8 A9 A10 A11 A12 A13 A14 A15 A16 A17 A18 : Int) : Decidable (Sh4 A0 A1 A2 A3 A4 A5 A6 A7 A8 A9 A10 A11 A12 A13 A14 A15 A16 A17 A18) := by unfold Sh4; infer_instance
def Nu3 (A0 A1 A2 A3 A4 A5 A6 A7 A8 A9 A10 A11 A12 A13 A14 A15 A16 A17 A18 : Int) : Prop := (A11 = 3 → NumOK A0 A1 A4 A17) ∧ Sh4 A0 A1 A2 A3 A4 A5 A6 A7 A8 A9 A10 A11 A12 A13 A14 A15 A16 A17 A18
instance (A0 A1 A2 A3 A4 A5 A6 A7 A8 A9 A10 A11 A12 A13 A14 A15 A16 A17 A18 : Int) : Decidable (Nu3 A0 A1 A2 A3 A4 A5 A6 A7 A8 A9 A10 A11 A12 A13 A14 A15 A16 A17 A18) := by unfold Nu3; infer_instance
def Op2 (A0 A1 A2 A3 A4 A5 A6 A7 A8 A9 A10 A11 A12 A13 A14 A15 A16 A17 A18 : Int) : Prop := (Sz (mx 1 A1) ∧ OpOK A4 A5 A6 A7 A8 A9 A10 (mx 1 A1)) ∧ (Sz (srcZ A0 A1 A3) ∧ OpOK A11 A12 A13 A14 A15 A16 A17 (srcZ A0 A1 A3)) ∧ Nu3 A0 A1 A2 A3 A4 A5 A6 A7 A8 A9 A10 A11 A12 A13 A14 A15 A16 A17 A18
instance (A0 A1 A2 A3 A4 A5 A6 A7 A8 A9 A10 A11 A12 A13 A14 A15 A16 A17 A18 : Int) : Decidable (Op2 A0 A1 A2 A3 A4 A5 A6 A7 A8 A9 A10 A11 A12 A13 A14 A15 A16 A17 A18) := by unfold Op2; infer_instance
theorem j5_tells (k : Nat) (x : Bool) (A0 A1 A2 A3 A4 A5 A6 A7 A8 A9 A10 A11 A12 A13 A14 A15 A16 A17 A18 : Int) : impl_InstrOK.j5 (k + 2) x A0 A1 A2 A3 A4 A5 A6 A7 A8 A9 A10 A11 A12 A13 A14 A15 A16 A17 A18 = some (decide (x = false ∧ Rex5 A0 A1 A2 A3 A4 A5 A6 A7 A8 A9 A10 A11 A12 A13 A14 A15 A16 A17 A18)) := by
  cases x with
  | true => simp [impl_InstrOK.j5]
  | false =>
    simp only [impl_InstrOK.j5, high_tells, needs_tells, Option.bind_some, decide_eq_true_eq, Bool.false_eq_true, if_false]
    unfold Rex5 Hi
    by_cases h1 : A4 = 1 ∧ 16 ≤ A5 ∧ A5 ≤ 19
    · rw [if_pos h1]; simp [h1]
    · rw [if_neg h1]
      by_cases h2 : A11 = 1 ∧ 16 ≤ A12 ∧ A12 ≤ 19
      · rw [if_pos h2]; simp [h1, h2]
      · rw [if_neg h2]; simp [h1, h2]
theorem j4_tells (k : Nat) (x : Bool) (A0 A1 A2 A3 A4 A5 A6 A7 A8 A9 A10 A11 A12 A13 A14 A15 A16 A17 A18 : Int) : impl_InstrOK.j4 (k + 3) x A0 A1 A2 A3 A4 A5 A6 A7 A8 A9 A10 A11 A12 A13 A14 A15 A16 A17 A18 = some (decide (x = false ∧ Sh4 A0 A1 A2 A3 A4 A5 A6 A7 A8 A9 A10 A11 A12 A13 A14 A15 A16 A17 A18)) := by
  cases x with
  | true => simp [impl_InstrOK.j4]
  | false =>
    simp only [impl_InstrOK.j4, shift_tells, j5_tells, Option.bind_some, decide_eq_true_eq, Bool.false_eq_true, if_false]
    unfold Sh4
    by_cases h1 : 20 ≤ A0 ∧ A0 ≤ 24
    · rw [if_pos h1]
      by_cases h2 : A11 = 1
      · rw [if_pos h2]
        by_cases h3 : A12 = 1 <;> simp [h1, h2, h3]
      · rw [if_neg h2]; simp [h1, h2]
    · rw [if_neg h1]; simp only [h1, false_implies, true_and]
theorem j3_tells (k : Nat) (x : Bool) (A0 A1 A2 A3 A4 A5 A6 A7 A8 A9 A10 A11 A12 A13 A14 A15 A16 A17 A18 : Int) (hz : x = false → Sz A1 ∨ A1 = 0) (hn : -9223372036854775808 ≤ A17 ∧ A17 ≤ 9223372036854775807) : impl_InstrOK.j3 (k + 4) x A0 A1 A2 A3 A4 A5 A6 A7 A8 A9 A10 A11 A12 A13 A14 A15 A16 A17 A18 = some (decide (x = false ∧ Nu3 A0 A1 A2 A3 A4 A5 A6 A7 A8 A9 A10 A11 A12 A13 A14 A15 A16 A17 A18)) := by
  cases x with
  | true => simp [impl_InstrOK.j3]
  | false =>
    have hm := number_tells (k + 1) A0 A1 A2 A3 A4 A5 A6 A7 A8 A9 A10 A11 A12 A13 A14 A15 A16 A17 A18 (hz rfl) hn
    simp only [impl_InstrOK.j3, hm, j4_tells, Option.bind_some, Bool.false_eq_true, if_false]
    unfold Nu3
    by_cases h1 : A11 = 3
    · rw [if_pos h1]
      by_cases h2 : NumOK A0 A1 A4 A17 <;> simp [h1, h2]
    · rw [if_neg h1]; simp [h1]
theorem j2_tells (k : Nat) (x : Bool) (A0 A1 A2 A3 A4 A5 A6 A7 A8 A9 A10 A11 A12 A13 A14 A15 A16 A17 A18 : Int) (hz : x = false → Sz A1 ∨ A1 = 0) (hd : -9223372036854775808 ≤ A9 ∧ A9 ≤ 9223372036854775807) (hs : -9223372036854775808 ≤ A16 ∧ A16 ≤ 9223372036854775807) (hn : -9223372036854775808 ≤ A17 ∧ A17 ≤ 9223372036854775807) : impl_InstrOK.j2 (k + 5) x A0 A1 A2 A3 A4 A5 A6 A7 A8 A9 A10 A11 A12 A13 A14 A15 A16 A17 A18 = some (decide (x = false ∧ Op2 A0 A1 A2 A3 A4 A5 A6 A7 A8 A9 A10 A11 A12 A13 A14 A15 A16 A17 A18)) := by
  cases x with
  | true => simp [impl_InstrOK.j2]
  | false =>
    have j3 := fun b => j3_tells k b A0 A1 A2 A3 A4 A5 A6 A7 A8 A9 A10 A11 A12 A13 A14 A15 A16 A17 A18 (fun _ => hz rfl) hn
    simp only [impl_InstrOK.j2, operand_tells _ _ _ _ _ _ _ _ hd, operand_tells _ _ _ _ _ _ _ _ hs, srcSize_tells, j3, Option.bind_some, Bool.false_eq_true, if_false, decide_eq_true_eq]
    unfold Op2
    by_cases h1 : Sz (mx 1 A1) ∧ OpOK A4 A5 A6 A7 A8 A9 A10 (mx 1 A1)
    · rw [if_pos h1]
      by_cases h2 : Sz (srcZ A0 A1 A3) ∧ OpOK A11 A12 A13 A14 A15 A16 A17 (srcZ A0 A1 A3)
      · simp [h1, h2]
      · simp only [h1, true_and, decide_eq_false h2, Bool.not_false, Bool.true_eq_false, false_and, decide_false, h2, and_false]
    · rw [if_neg h1]; simp only [Bool.true_eq_false, false_and, decide_false, h1, and_false]
/-- The forms and what stands behind. -/
def Fo1 (A0 A1 A2 A3 A4 A5 A6 A7 A8 A9 A10 A11 A12 A13 A14 A15 A16 A17 A18 : Int) : Prop := A1 ∈ szs A0 ∧ FromOK A0 A1 A3 ∧ In (cl A4 : Int) (cl A11 : Int) (prs A0) ∧ Op2 A0 A1 A2 A3 A4 A5 A6 A7 A8 A9 A10 A11 A12 A13 A14 A15 A16 A17 A18
instance (A0 A1 A2 A3 A4 A5 A6 A7 A8 A9 A10 A11 A12 A13 A14 A15 A16 A17 A18 : Int) : Decidable (Fo1 A0 A1 A2 A3 A4 A5 A6 A7 A8 A9 A10 A11 A12 A13 A14 A15 A16 A17 A18) := by unfold Fo1; infer_instance
theorem exit_tells (k : Nat) (b : Bool) (L : List Int) (n i : Int) (hi : ¬ i < n) (A0 A1 A2 A3 A4 A5 A6 A7 A8 A9 A10 A11 A12 A13 A14 A15 A16 A17 A18 : Int) (h0 : 1 ≤ A0) (h1 : A0 ≤ 44) (hz : b = true → Sz A1 ∨ A1 = 0) (hd : -9223372036854775808 ≤ A9 ∧ A9 ≤ 9223372036854775807) (hs : -9223372036854775808 ≤ A16 ∧ A16 ≤ 9223372036854775807) (hn : -9223372036854775808 ≤ A17 ∧ A17 ≤ 9223372036854775807) :
    impl_InstrOK.l0 (k + 6) (txt A0) b L n i A0 A1 A2 A3 A4 A5 A6 A7 A8 A9 A10 A11 A12 A13 A14 A15 A16 A17 A18 = some (decide (b = true ∧ FromOK A0 A1 A3 ∧ In (cl A4 : Int) (cl A11 : Int) (prs A0) ∧ Op2 A0 A1 A2 A3 A4 A5 A6 A7 A8 A9 A10 A11 A12 A13 A14 A15 A16 A17 A18)) := by
  have s1 := ltc_size (cl A4)
  have s2 := ltc_size (cl A11)
  have s3 := (forms_tells h0 h1).2.1
  have e1 : (⟨#[32]⟩ : ByteArray).size = 1 := rfl
  rw [impl_InstrOK.l0, if_neg hi, letter_tells, letter_tells, Option.bind_some, Option.bind_some, if_pos (by omega)]
  cases b with
  | false =>
    rw [if_neg Bool.false_ne_true, j2_tells k true A0 A1 A2 A3 A4 A5 A6 A7 A8 A9 A10 A11 A12 A13 A14 A15 A16 A17 A18 (fun x => by cases x) hd hs hn]
    simp
  | true =>
    rw [if_pos rfl, from_tells, Option.bind_some]
    by_cases hf : FromOK A0 A1 A3
    · rw [if_pos (decide_eq_true hf), if_pos (by omega), if_pos (by rw [ByteArray.size_append]; omega), if_pos (by omega), if_pos (by rw [ByteArray.size_append, ByteArray.size_append]; omega), con_tells h0 h1, Option.bind_some, j2_tells k _ A0 A1 A2 A3 A4 A5 A6 A7 A8 A9 A10 A11 A12 A13 A14 A15 A16 A17 A18 (fun _ => hz rfl) hd hs hn]
      by_cases hc : In (cl A4 : Int) (cl A11 : Int) (prs A0) <;> simp [hf, hc]
    · rw [if_neg (by simpa using hf), j2_tells k true A0 A1 A2 A3 A4 A5 A6 A7 A8 A9 A10 A11 A12 A13 A14 A15 A16 A17 A18 (fun x => by cases x) hd hs hn]
      simp [hf]
theorem loop_tells (k : Nat) (L : List Int) (hL : L.length ≤ 1000) (A0 A1 A2 A3 A4 A5 A6 A7 A8 A9 A10 A11 A12 A13 A14 A15 A16 A17 A18 : Int) (h0 : 1 ≤ A0) (h1 : A0 ≤ 44) (hz : ∀ z ∈ L, Sz z ∨ z = 0) (hd : -9223372036854775808 ≤ A9 ∧ A9 ≤ 9223372036854775807) (hs : -9223372036854775808 ≤ A16 ∧ A16 ≤ 9223372036854775807) (hn : -9223372036854775808 ≤ A17 ∧ A17 ≤ 9223372036854775807) : ∀ (j : Nat) (i : Int) (b : Bool), 0 ≤ i → i + j = L.length → (b = true → Sz A1 ∨ A1 = 0) →
    impl_InstrOK.l0 (k + 6 + j) (txt A0) b L (L.length : Int) i A0 A1 A2 A3 A4 A5 A6 A7 A8 A9 A10 A11 A12 A13 A14 A15 A16 A17 A18 = some (decide ((b = true ∨ A1 ∈ L.drop i.toNat) ∧ FromOK A0 A1 A3 ∧ In (cl A4 : Int) (cl A11 : Int) (prs A0) ∧ Op2 A0 A1 A2 A3 A4 A5 A6 A7 A8 A9 A10 A11 A12 A13 A14 A15 A16 A17 A18))
  | 0, i, b, hi, hj, hb => by
    rw [Nat.add_zero, exit_tells k b L _ i (by omega) A0 A1 A2 A3 A4 A5 A6 A7 A8 A9 A10 A11 A12 A13 A14 A15 A16 A17 A18 h0 h1 hb hd hs hn, List.drop_eq_nil_of_le (by omega)]
    simp
  | j + 1, i, b, hi, hj, hb => by
    have hw : wrap64 (i + 1) = i + 1 := by unfold wrap64; omega
    have hl : i.toNat < L.length := by omega
    have hr : rd L i = L[i.toNat] := by
      unfold rd
      rw [List.getD_eq_getElem?_getD, List.getElem?_eq_getElem hl]
      rfl
    have hdr : L.drop i.toNat = L[i.toNat] :: L.drop (i + 1).toNat := by
      rw [List.drop_eq_getElem_cons hl, show (i + 1).toNat = i.toNat + 1 by omega]
    rw [show k + 6 + (j + 1) = (k + 6 + j) + 1 by omega, impl_InstrOK.l0, if_pos (by omega), if_pos hi, if_pos (by omega), hw]
    cases b with
    | true =>
      rw [if_pos rfl, loop_tells k L hL A0 A1 A2 A3 A4 A5 A6 A7 A8 A9 A10 A11 A12 A13 A14 A15 A16 A17 A18 h0 h1 hz hd hs hn j (i + 1) true (by omega) (by omega) hb]
      simp
    | false =>
      rw [if_neg Bool.false_ne_true, hr, loop_tells k L hL A0 A1 A2 A3 A4 A5 A6 A7 A8 A9 A10 A11 A12 A13 A14 A15 A16 A17 A18 h0 h1 hz hd hs hn j (i + 1) _ (by omega) (by omega) (fun h => by
        have e : L[i.toNat] = A1 := by simpa using h
        exact e ▸ hz _ (List.getElem_mem hl)), hdr]
      congr 1
      rw [decide_eq_decide]
      have hq : ((L[i.toNat] == A1) = true) ↔ (A1 = L[i.toNat]) := by rw [beq_iff_eq]; exact eq_comm
      simp only [hq, List.mem_cons, Bool.false_eq_true, false_or]
theorem szs_all : ∀ o : Fin 44, ∀ z ∈ szs ((o.val : Int) + 1), Sz z ∨ z = 0 := by decide +kernel
/-- The program's InstrOK. -/
def ImplOK (A0 A1 A2 A3 A4 A5 A6 A7 A8 A9 A10 A11 A12 A13 A14 A15 A16 A17 A18 : Int) : Prop := (1 ≤ A0 ∧ A0 ≤ 44) ∧ (0 ≤ A18 ∧ A18 ≤ 15) ∧ (0 ≤ A2 ∧ A2 ≤ 15) ∧ (A2 = 0 ∨ A0 = 33 ∨ A0 = 35 ∨ A0 = 36) ∧ Fo1 A0 A1 A2 A3 A4 A5 A6 A7 A8 A9 A10 A11 A12 A13 A14 A15 A16 A17 A18
instance (A0 A1 A2 A3 A4 A5 A6 A7 A8 A9 A10 A11 A12 A13 A14 A15 A16 A17 A18 : Int) : Decidable (ImplOK A0 A1 A2 A3 A4 A5 A6 A7 A8 A9 A10 A11 A12 A13 A14 A15 A16 A17 A18) := by unfold ImplOK; infer_instance
theorem impl_tells (A0 A1 A2 A3 A4 A5 A6 A7 A8 A9 A10 A11 A12 A13 A14 A15 A16 A17 A18 : Int) (hd : -9223372036854775808 ≤ A9 ∧ A9 ≤ 9223372036854775807) (hs : -9223372036854775808 ≤ A16 ∧ A16 ≤ 9223372036854775807) (hn : -9223372036854775808 ≤ A17 ∧ A17 ≤ 9223372036854775807) : impl_InstrOK.f 300 A0 A1 A2 A3 A4 A5 A6 A7 A8 A9 A10 A11 A12 A13 A14 A15 A16 A17 A18 = some (decide (ImplOK A0 A1 A2 A3 A4 A5 A6 A7 A8 A9 A10 A11 A12 A13 A14 A15 A16 A17 A18)) := by
  have j0t : impl_InstrOK.j0 300 true A0 A1 A2 A3 A4 A5 A6 A7 A8 A9 A10 A11 A12 A13 A14 A15 A16 A17 A18 = some false := by rw [impl_InstrOK.j0, if_pos rfl]
  have j0f : 1 ≤ A0 → A0 ≤ 44 → impl_InstrOK.j0 300 false A0 A1 A2 A3 A4 A5 A6 A7 A8 A9 A10 A11 A12 A13 A14 A15 A16 A17 A18 = some (decide (Fo1 A0 A1 A2 A3 A4 A5 A6 A7 A8 A9 A10 A11 A12 A13 A14 A15 A16 A17 A18)) := fun h0 h1 => by
    obtain ⟨e1, e2, e3⟩ := forms_tells h0 h1
    have hz : ∀ z ∈ szs A0, Sz z ∨ z = 0 := by
      have h := szs_all ⟨(A0 - 1).toNat, by omega⟩
      simp only [show (((A0 - 1).toNat : Nat) : Int) + 1 = A0 by omega] at h
      exact h
    rw [impl_InstrOK.j0, if_neg Bool.false_ne_true, e1, Option.bind_some]
    have h := loop_tells (299 - 6 - (szs A0).length) (szs A0) (by omega) A0 A1 A2 A3 A4 A5 A6 A7 A8 A9 A10 A11 A12 A13 A14 A15 A16 A17 A18 h0 h1 hz hd hs hn (szs A0).length 0 false (by omega) (by omega) (fun x => by cases x)
    rw [show 299 - 6 - (szs A0).length + 6 + (szs A0).length = 299 by omega] at h
    refine h.trans (congrArg some (decide_eq_decide.mpr ?_))
    unfold Fo1
    simp
  unfold impl_InstrOK.f impl_isOp.f ImplOK
  simp only [within_impl, cond_tells, Option.bind_some, decide_eq_true_eq]
  by_cases h1 : 1 ≤ A0 ∧ A0 ≤ 44
  rotate_left
  · rw [if_neg h1, j0t]; simp only [h1, false_and, decide_false]
  rw [if_pos h1]
  by_cases h2 : 0 ≤ A18 ∧ A18 ≤ 15
  rotate_left
  · rw [if_neg h2, j0t]; simp only [h2, false_and, and_false, decide_false]
  rw [if_pos h2]
  by_cases h3 : 0 ≤ A2 ∧ A2 ≤ 15
  rotate_left
  · rw [if_neg h3, j0t]; simp only [h3, false_and, and_false, decide_false]
  rw [if_pos h3]
  by_cases h4 : A2 = 0
  · rw [if_pos h4, j0f h1.1 h1.2]; simp only [h1, h2, h3, h4, true_or, true_and, and_self]; simp
  rw [if_neg h4]
  by_cases h5 : A0 = 33 ∨ A0 = 35 ∨ A0 = 36
  · rw [decide_eq_true h5, Bool.not_true, j0f h1.1 h1.2]; simp only [h1, h2, h3, h4, h5, or_true, true_and, and_self]
  · rw [decide_eq_false h5, Bool.not_false, j0t]; simp only [h4, h5, or_self, false_and, and_false, decide_false]
end Go.Proofs.Ytgipadecllofkaa.Pure
