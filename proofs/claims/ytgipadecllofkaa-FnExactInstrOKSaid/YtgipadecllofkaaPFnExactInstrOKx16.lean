-- Written for this claim by the session's own program, out of the translation. Not trusted: Lean checks it.
import Derived.Test.YtgipadecllofkaaPFnExactInstrOKx160
import Derived.Test.YtgipadecllofkaaFLQ
namespace Go.Proofs.Ytgipadecllofkaa.PFnExactInstrOK
open Go.RowKit Go.Proofs.YtgipadecllofkaaW.PrintWords Go.Proofs.YtgipadecllofkaaW.PrintLast Go.Proofs.YtgipadecllofkaaW.PrintMore
attribute [local go_sem] max2_int min2_int max_two min_two max_three min_three max_four min_four   -- for this text's walks alone
set_option linter.unusedVariables false
set_option linter.unusedSimpArgs false

theorem impl_InstrOK.j0_s {k : Nat} {x r : Bool} {a0_0 a0_1 a0_2 a0_3 a0_4 a0_5 a0_6 a0_7 a0_8 a0_9 a0_10 a0_11 a0_12 a0_13 a0_14 a0_15 a0_16 a0_17 a0_18 : Int} (h : impl_InstrOK.j0 k x a0_0 a0_1 a0_2 a0_3 a0_4 a0_5 a0_6 a0_7 a0_8 a0_9 a0_10 a0_11 a0_12 a0_13 a0_14 a0_15 a0_16 a0_17 a0_18 = some r) : (x = true ∧ some false = some r) ∨ (x = false ∧ ∃ k1, ((impl_formsOf.f k1 a0_0).bind fun bt368 => (impl_InstrOK.l0 k1 bt368.2 false bt368.1 (bt368.1.length : Int) 0 a0_0 a0_1 a0_2 a0_3 a0_4 a0_5 a0_6 a0_7 a0_8 a0_9 a0_10 a0_11 a0_12 a0_13 a0_14 a0_15 a0_16 a0_17 a0_18)) = some r) := by
  cases k with
  | zero => simp [impl_InstrOK.j0] at h
  | succ k =>
    rw [impl_InstrOK.j0] at h
    cases x with
    | true => exact .inl ⟨rfl, by rw [if_pos rfl] at h; exact h⟩
    | false => exact .inr ⟨rfl, k, by rw [if_neg Bool.false_ne_true] at h; exact h⟩
theorem impl_InstrOK.j0_f {k : Nat} {r : Bool} {a0_0 a0_1 a0_2 a0_3 a0_4 a0_5 a0_6 a0_7 a0_8 a0_9 a0_10 a0_11 a0_12 a0_13 a0_14 a0_15 a0_16 a0_17 a0_18 : Int} (h : impl_InstrOK.j0 k false a0_0 a0_1 a0_2 a0_3 a0_4 a0_5 a0_6 a0_7 a0_8 a0_9 a0_10 a0_11 a0_12 a0_13 a0_14 a0_15 a0_16 a0_17 a0_18 = some r) : ∃ k1, ((impl_formsOf.f k1 a0_0).bind fun bt368 => (impl_InstrOK.l0 k1 bt368.2 false bt368.1 (bt368.1.length : Int) 0 a0_0 a0_1 a0_2 a0_3 a0_4 a0_5 a0_6 a0_7 a0_8 a0_9 a0_10 a0_11 a0_12 a0_13 a0_14 a0_15 a0_16 a0_17 a0_18)) = some r := by
  rcases impl_InstrOK.j0_s h with ⟨x, _⟩ | ⟨_, h⟩
  · cases x
  · exact h
theorem impl_InstrOK.j2_s {k : Nat} {x r : Bool} {a0_0 a0_1 a0_2 a0_3 a0_4 a0_5 a0_6 a0_7 a0_8 a0_9 a0_10 a0_11 a0_12 a0_13 a0_14 a0_15 a0_16 a0_17 a0_18 : Int} (h : impl_InstrOK.j2 k x a0_0 a0_1 a0_2 a0_3 a0_4 a0_5 a0_6 a0_7 a0_8 a0_9 a0_10 a0_11 a0_12 a0_13 a0_14 a0_15 a0_16 a0_17 a0_18 = some r) : (x = true ∧ some false = some r) ∨ (x = false ∧ ∃ k1, ((impl_OperandOK.f a0_4 a0_5 a0_6 a0_7 a0_8 a0_9 a0_10 (mx 1 a0_1)).bind fun t377 => (if t377 = true then ((impl_srcSize.f a0_0 a0_1 a0_2 a0_3 a0_4 a0_5 a0_6 a0_7 a0_8 a0_9 a0_10 a0_11 a0_12 a0_13 a0_14 a0_15 a0_16 a0_17 a0_18).bind fun t378 => ((impl_OperandOK.f a0_11 a0_12 a0_13 a0_14 a0_15 a0_16 a0_17 t378).bind fun t379 => (impl_InstrOK.j3 k1 (!t379) a0_0 a0_1 a0_2 a0_3 a0_4 a0_5 a0_6 a0_7 a0_8 a0_9 a0_10 a0_11 a0_12 a0_13 a0_14 a0_15 a0_16 a0_17 a0_18))) else (impl_InstrOK.j3 k1 true a0_0 a0_1 a0_2 a0_3 a0_4 a0_5 a0_6 a0_7 a0_8 a0_9 a0_10 a0_11 a0_12 a0_13 a0_14 a0_15 a0_16 a0_17 a0_18))) = some r) := by
  cases k with
  | zero => simp [impl_InstrOK.j2] at h
  | succ k =>
    rw [impl_InstrOK.j2] at h
    cases x with
    | true => exact .inl ⟨rfl, by rw [if_pos rfl] at h; exact h⟩
    | false => exact .inr ⟨rfl, k, by rw [if_neg Bool.false_ne_true] at h; exact h⟩
theorem impl_InstrOK.j2_f {k : Nat} {r : Bool} {a0_0 a0_1 a0_2 a0_3 a0_4 a0_5 a0_6 a0_7 a0_8 a0_9 a0_10 a0_11 a0_12 a0_13 a0_14 a0_15 a0_16 a0_17 a0_18 : Int} (h : impl_InstrOK.j2 k false a0_0 a0_1 a0_2 a0_3 a0_4 a0_5 a0_6 a0_7 a0_8 a0_9 a0_10 a0_11 a0_12 a0_13 a0_14 a0_15 a0_16 a0_17 a0_18 = some r) : ∃ k1, ((impl_OperandOK.f a0_4 a0_5 a0_6 a0_7 a0_8 a0_9 a0_10 (mx 1 a0_1)).bind fun t377 => (if t377 = true then ((impl_srcSize.f a0_0 a0_1 a0_2 a0_3 a0_4 a0_5 a0_6 a0_7 a0_8 a0_9 a0_10 a0_11 a0_12 a0_13 a0_14 a0_15 a0_16 a0_17 a0_18).bind fun t378 => ((impl_OperandOK.f a0_11 a0_12 a0_13 a0_14 a0_15 a0_16 a0_17 t378).bind fun t379 => (impl_InstrOK.j3 k1 (!t379) a0_0 a0_1 a0_2 a0_3 a0_4 a0_5 a0_6 a0_7 a0_8 a0_9 a0_10 a0_11 a0_12 a0_13 a0_14 a0_15 a0_16 a0_17 a0_18))) else (impl_InstrOK.j3 k1 true a0_0 a0_1 a0_2 a0_3 a0_4 a0_5 a0_6 a0_7 a0_8 a0_9 a0_10 a0_11 a0_12 a0_13 a0_14 a0_15 a0_16 a0_17 a0_18))) = some r := by
  rcases impl_InstrOK.j2_s h with ⟨x, _⟩ | ⟨_, h⟩
  · cases x
  · exact h
theorem impl_InstrOK.j3_s {k : Nat} {x r : Bool} {a0_0 a0_1 a0_2 a0_3 a0_4 a0_5 a0_6 a0_7 a0_8 a0_9 a0_10 a0_11 a0_12 a0_13 a0_14 a0_15 a0_16 a0_17 a0_18 : Int} (h : impl_InstrOK.j3 k x a0_0 a0_1 a0_2 a0_3 a0_4 a0_5 a0_6 a0_7 a0_8 a0_9 a0_10 a0_11 a0_12 a0_13 a0_14 a0_15 a0_16 a0_17 a0_18 = some r) : (x = true ∧ some false = some r) ∨ (x = false ∧ ∃ k1, (if a0_11 = 3 then ((impl_isNumber.f k1 a0_0 a0_1 a0_2 a0_3 a0_4 a0_5 a0_6 a0_7 a0_8 a0_9 a0_10 a0_11 a0_12 a0_13 a0_14 a0_15 a0_16 a0_17 a0_18).bind fun t380 => (impl_InstrOK.j4 k1 (!t380) a0_0 a0_1 a0_2 a0_3 a0_4 a0_5 a0_6 a0_7 a0_8 a0_9 a0_10 a0_11 a0_12 a0_13 a0_14 a0_15 a0_16 a0_17 a0_18)) else (impl_InstrOK.j4 k1 false a0_0 a0_1 a0_2 a0_3 a0_4 a0_5 a0_6 a0_7 a0_8 a0_9 a0_10 a0_11 a0_12 a0_13 a0_14 a0_15 a0_16 a0_17 a0_18)) = some r) := by
  cases k with
  | zero => simp [impl_InstrOK.j3] at h
  | succ k =>
    rw [impl_InstrOK.j3] at h
    cases x with
    | true => exact .inl ⟨rfl, by rw [if_pos rfl] at h; exact h⟩
    | false => exact .inr ⟨rfl, k, by rw [if_neg Bool.false_ne_true] at h; exact h⟩
theorem impl_InstrOK.j3_f {k : Nat} {r : Bool} {a0_0 a0_1 a0_2 a0_3 a0_4 a0_5 a0_6 a0_7 a0_8 a0_9 a0_10 a0_11 a0_12 a0_13 a0_14 a0_15 a0_16 a0_17 a0_18 : Int} (h : impl_InstrOK.j3 k false a0_0 a0_1 a0_2 a0_3 a0_4 a0_5 a0_6 a0_7 a0_8 a0_9 a0_10 a0_11 a0_12 a0_13 a0_14 a0_15 a0_16 a0_17 a0_18 = some r) : ∃ k1, (if a0_11 = 3 then ((impl_isNumber.f k1 a0_0 a0_1 a0_2 a0_3 a0_4 a0_5 a0_6 a0_7 a0_8 a0_9 a0_10 a0_11 a0_12 a0_13 a0_14 a0_15 a0_16 a0_17 a0_18).bind fun t380 => (impl_InstrOK.j4 k1 (!t380) a0_0 a0_1 a0_2 a0_3 a0_4 a0_5 a0_6 a0_7 a0_8 a0_9 a0_10 a0_11 a0_12 a0_13 a0_14 a0_15 a0_16 a0_17 a0_18)) else (impl_InstrOK.j4 k1 false a0_0 a0_1 a0_2 a0_3 a0_4 a0_5 a0_6 a0_7 a0_8 a0_9 a0_10 a0_11 a0_12 a0_13 a0_14 a0_15 a0_16 a0_17 a0_18)) = some r := by
  rcases impl_InstrOK.j3_s h with ⟨x, _⟩ | ⟨_, h⟩
  · cases x
  · exact h
theorem impl_InstrOK.j4_s {k : Nat} {x r : Bool} {a0_0 a0_1 a0_2 a0_3 a0_4 a0_5 a0_6 a0_7 a0_8 a0_9 a0_10 a0_11 a0_12 a0_13 a0_14 a0_15 a0_16 a0_17 a0_18 : Int} (h : impl_InstrOK.j4 k x a0_0 a0_1 a0_2 a0_3 a0_4 a0_5 a0_6 a0_7 a0_8 a0_9 a0_10 a0_11 a0_12 a0_13 a0_14 a0_15 a0_16 a0_17 a0_18 = some r) : (x = true ∧ some false = some r) ∨ (x = false ∧ ∃ k1, ((impl_isShift.f a0_0).bind fun t381 => (if t381 = true then (if a0_11 = 1 then (impl_InstrOK.j5 k1 (a0_12 != 1) a0_0 a0_1 a0_2 a0_3 a0_4 a0_5 a0_6 a0_7 a0_8 a0_9 a0_10 a0_11 a0_12 a0_13 a0_14 a0_15 a0_16 a0_17 a0_18) else (impl_InstrOK.j5 k1 false a0_0 a0_1 a0_2 a0_3 a0_4 a0_5 a0_6 a0_7 a0_8 a0_9 a0_10 a0_11 a0_12 a0_13 a0_14 a0_15 a0_16 a0_17 a0_18)) else (impl_InstrOK.j5 k1 false a0_0 a0_1 a0_2 a0_3 a0_4 a0_5 a0_6 a0_7 a0_8 a0_9 a0_10 a0_11 a0_12 a0_13 a0_14 a0_15 a0_16 a0_17 a0_18))) = some r) := by
  cases k with
  | zero => simp [impl_InstrOK.j4] at h
  | succ k =>
    rw [impl_InstrOK.j4] at h
    cases x with
    | true => exact .inl ⟨rfl, by rw [if_pos rfl] at h; exact h⟩
    | false => exact .inr ⟨rfl, k, by rw [if_neg Bool.false_ne_true] at h; exact h⟩
theorem impl_InstrOK.j4_f {k : Nat} {r : Bool} {a0_0 a0_1 a0_2 a0_3 a0_4 a0_5 a0_6 a0_7 a0_8 a0_9 a0_10 a0_11 a0_12 a0_13 a0_14 a0_15 a0_16 a0_17 a0_18 : Int} (h : impl_InstrOK.j4 k false a0_0 a0_1 a0_2 a0_3 a0_4 a0_5 a0_6 a0_7 a0_8 a0_9 a0_10 a0_11 a0_12 a0_13 a0_14 a0_15 a0_16 a0_17 a0_18 = some r) : ∃ k1, ((impl_isShift.f a0_0).bind fun t381 => (if t381 = true then (if a0_11 = 1 then (impl_InstrOK.j5 k1 (a0_12 != 1) a0_0 a0_1 a0_2 a0_3 a0_4 a0_5 a0_6 a0_7 a0_8 a0_9 a0_10 a0_11 a0_12 a0_13 a0_14 a0_15 a0_16 a0_17 a0_18) else (impl_InstrOK.j5 k1 false a0_0 a0_1 a0_2 a0_3 a0_4 a0_5 a0_6 a0_7 a0_8 a0_9 a0_10 a0_11 a0_12 a0_13 a0_14 a0_15 a0_16 a0_17 a0_18)) else (impl_InstrOK.j5 k1 false a0_0 a0_1 a0_2 a0_3 a0_4 a0_5 a0_6 a0_7 a0_8 a0_9 a0_10 a0_11 a0_12 a0_13 a0_14 a0_15 a0_16 a0_17 a0_18))) = some r := by
  rcases impl_InstrOK.j4_s h with ⟨x, _⟩ | ⟨_, h⟩
  · cases x
  · exact h
theorem impl_InstrOK.j5_s {k : Nat} {x r : Bool} {a0_0 a0_1 a0_2 a0_3 a0_4 a0_5 a0_6 a0_7 a0_8 a0_9 a0_10 a0_11 a0_12 a0_13 a0_14 a0_15 a0_16 a0_17 a0_18 : Int} (h : impl_InstrOK.j5 k x a0_0 a0_1 a0_2 a0_3 a0_4 a0_5 a0_6 a0_7 a0_8 a0_9 a0_10 a0_11 a0_12 a0_13 a0_14 a0_15 a0_16 a0_17 a0_18 = some r) : (x = true ∧ some false = some r) ∨ (x = false ∧ ∃ k1, ((impl_hasHigh.f a0_4 a0_5 a0_6 a0_7 a0_8 a0_9 a0_10).bind fun t382 => (if t382 = true then ((impl_needsRex.f k1 a0_0 a0_1 a0_2 a0_3 a0_4 a0_5 a0_6 a0_7 a0_8 a0_9 a0_10 a0_11 a0_12 a0_13 a0_14 a0_15 a0_16 a0_17 a0_18).bind fun t383 => (some (!t383))) else ((impl_hasHigh.f a0_11 a0_12 a0_13 a0_14 a0_15 a0_16 a0_17).bind fun t384 => (if t384 = true then ((impl_needsRex.f k1 a0_0 a0_1 a0_2 a0_3 a0_4 a0_5 a0_6 a0_7 a0_8 a0_9 a0_10 a0_11 a0_12 a0_13 a0_14 a0_15 a0_16 a0_17 a0_18).bind fun t385 => (some (!t385))) else (some true))))) = some r) := by
  cases k with
  | zero => simp [impl_InstrOK.j5] at h
  | succ k =>
    rw [impl_InstrOK.j5] at h
    cases x with
    | true => exact .inl ⟨rfl, by rw [if_pos rfl] at h; exact h⟩
    | false => exact .inr ⟨rfl, k, by rw [if_neg Bool.false_ne_true] at h; exact h⟩
theorem impl_InstrOK.j5_f {k : Nat} {r : Bool} {a0_0 a0_1 a0_2 a0_3 a0_4 a0_5 a0_6 a0_7 a0_8 a0_9 a0_10 a0_11 a0_12 a0_13 a0_14 a0_15 a0_16 a0_17 a0_18 : Int} (h : impl_InstrOK.j5 k false a0_0 a0_1 a0_2 a0_3 a0_4 a0_5 a0_6 a0_7 a0_8 a0_9 a0_10 a0_11 a0_12 a0_13 a0_14 a0_15 a0_16 a0_17 a0_18 = some r) : ∃ k1, ((impl_hasHigh.f a0_4 a0_5 a0_6 a0_7 a0_8 a0_9 a0_10).bind fun t382 => (if t382 = true then ((impl_needsRex.f k1 a0_0 a0_1 a0_2 a0_3 a0_4 a0_5 a0_6 a0_7 a0_8 a0_9 a0_10 a0_11 a0_12 a0_13 a0_14 a0_15 a0_16 a0_17 a0_18).bind fun t383 => (some (!t383))) else ((impl_hasHigh.f a0_11 a0_12 a0_13 a0_14 a0_15 a0_16 a0_17).bind fun t384 => (if t384 = true then ((impl_needsRex.f k1 a0_0 a0_1 a0_2 a0_3 a0_4 a0_5 a0_6 a0_7 a0_8 a0_9 a0_10 a0_11 a0_12 a0_13 a0_14 a0_15 a0_16 a0_17 a0_18).bind fun t385 => (some (!t385))) else (some true))))) = some r := by
  rcases impl_InstrOK.j5_s h with ⟨x, _⟩ | ⟨_, h⟩
  · cases x
  · exact h
theorem impl_in30 (b lo hi : Int) (v : Bool) (w : World) (h : impl_within.f b lo hi = some v) : Calls Try.prog 30 #[.int .i64 b, .int .i64 lo, .int .i64 hi] w fun e w' => e = .returned (.bool v) ∧ Drawn0 w w' := impl_within.calls b lo hi v w h
theorem run_cat (p q : ByteArray) (h : p.size + q.size ≤ 9223372036854775807) (x y : Operand) (w : World) : (do eqGuard .add 9 x y (.string p) (.string q); binOp .add 9 (.string p) (.string q) : Sem Value).run Try.prog w = .ok (.string (p ++ q)) w := by
  have h0 := eq_true h
  have h1 : decide (p.size + q.size ≤ 9223372036854775807) = true := decide_eq_true h
  have h2 : (9223372036854775807 < p.size + q.size) = False := eq_false (Nat.not_lt.2 h)
  go_simp
theorem run_cat1 (q : ByteArray) (h : 1 + q.size ≤ 9223372036854775807) (x y : Operand) (w : World) : (do eqGuard .add 9 x y (.string (⟨#[32]⟩ : ByteArray)) (.string q); binOp .add 9 (.string (⟨#[32]⟩ : ByteArray)) (.string q) : Sem Value).run Try.prog w = .ok (.string ((⟨#[32]⟩ : ByteArray) ++ q)) w := run_cat _ _ (by have e : (⟨#[32]⟩ : ByteArray).size = 1 := rfl; rw [e]; exact h) x y w
theorem run_cat2 (p : ByteArray) (h : p.size + 1 ≤ 9223372036854775807) (x y : Operand) (w : World) : (do eqGuard .add 9 x y (.string p) (.string (⟨#[32]⟩ : ByteArray)); binOp .add 9 (.string p) (.string (⟨#[32]⟩ : ByteArray)) : Sem Value).run Try.prog w = .ok (.string (p ++ (⟨#[32]⟩ : ByteArray))) w := run_cat _ _ (by have e : (⟨#[32]⟩ : ByteArray).size = 1 := rfl; rw [e]; exact h) x y w
theorem run_cat3 (p q : ByteArray) (h : 1 + (p.size + q.size) ≤ 9223372036854775807) (x y : Operand) (w : World) : (do eqGuard .add 9 x y (.string (⟨#[32]⟩ : ByteArray)) (.string (p ++ q)); binOp .add 9 (.string (⟨#[32]⟩ : ByteArray)) (.string (p ++ q)) : Sem Value).run Try.prog w = .ok (.string ((⟨#[32]⟩ : ByteArray) ++ (p ++ q))) w := run_cat1 _ (by rw [ByteArray.size_append]; exact h) x y w
def codeRest : Code → Code
  | .seq _ y => y
  | c => c
set_option maxHeartbeats 40000000 in
set_option maxRecDepth 100000 in
theorem impl_InstrOK.pD (w w1 : World) (r : Bool) (g1 : Nat) (a0_0 : Int) (a0_1 : Int) (a0_2 : Int) (a0_3 : Int) (a0_4 : Int) (a0_5 : Int) (a0_6 : Int) (a0_7 : Int) (a0_8 : Int) (a0_9 : Int) (a0_10 : Int) (a0_11 : Int) (a0_12 : Int) (a0_13 : Int) (a0_14 : Int) (a0_15 : Int) (a0_16 : Int) (a0_17 : Int) (a0_18 : Int) (hm : Try.Glob w) (b1 : w1.heap[g1]? = some (.cells #[.int .i64 a0_0, .int .i64 a0_1, .int .i64 a0_2, .int .i64 a0_3, .int .i64 a0_4, .int .i64 a0_5, .int .i64 a0_6, .int .i64 a0_7, .int .i64 a0_8, .int .i64 a0_9, .int .i64 a0_10, .int .i64 a0_11, .int .i64 a0_12, .int .i64 a0_13, .int .i64 a0_14, .int .i64 a0_15, .int .i64 a0_16, .int .i64 a0_17, .int .i64 a0_18] 29 (0, 0))) (l1 : Below w.heap.size w w1) (H : ∃ k1, ((impl_hasHigh.f a0_4 a0_5 a0_6 a0_7 a0_8 a0_9 a0_10).bind fun t382 => (if t382 = true then ((impl_needsRex.f k1 a0_0 a0_1 a0_2 a0_3 a0_4 a0_5 a0_6 a0_7 a0_8 a0_9 a0_10 a0_11 a0_12 a0_13 a0_14 a0_15 a0_16 a0_17 a0_18).bind fun t383 => (some (!t383))) else ((impl_hasHigh.f a0_11 a0_12 a0_13 a0_14 a0_15 a0_16 a0_17).bind fun t384 => (if t384 = true then ((impl_needsRex.f k1 a0_0 a0_1 a0_2 a0_3 a0_4 a0_5 a0_6 a0_7 a0_8 a0_9 a0_10 a0_11 a0_12 a0_13 a0_14 a0_15 a0_16 a0_17 a0_18).bind fun t385 => (some (!t385))) else (some true))))) = some r) :
    CL Try.prog (codeRest (codeRest (codeRest (codeRest (codeRest (codeRest (codeRest (codeRest (codeRest (Try.f11.body.getD .skip)))))))))) (bodyPost Try.prog Try.f11 (fun e w' => e = .returned (.bool r) ∧ Below w.heap.size w w')) 135 [(2, .bool false), (1, .pointer (some ⟨g1, 0, none⟩))] w1 := by
  have HM := Aside0.mk hm
  clear hm
  have hu29 := Try.underlying29
  have hu27 := Try.underlying27
  have HAG : Aside0 (∀ w, (isAgg 3).run Try.prog w = .ok false w) := ⟨fun w => by go_simp⟩
  have F0 : Aside0 (∀ w, (Instr.fieldAt 29 (.pointer (some ⟨g1, 0, none⟩)) 0).run Try.prog w = .ok (.pointer (some ⟨g1, 0, none⟩)) w) := ⟨fun w => by go_simp⟩
  have F1 : Aside0 (∀ w, (Instr.fieldAt 29 (.pointer (some ⟨g1, 0, none⟩)) 1).run Try.prog w = .ok (.pointer (some ⟨g1, 1, none⟩)) w) := ⟨fun w => by go_simp⟩
  have F2 : Aside0 (∀ w, (Instr.fieldAt 29 (.pointer (some ⟨g1, 0, none⟩)) 2).run Try.prog w = .ok (.pointer (some ⟨g1, 2, none⟩)) w) := ⟨fun w => by go_simp⟩
  have F3 : Aside0 (∀ w, (Instr.fieldAt 29 (.pointer (some ⟨g1, 0, none⟩)) 3).run Try.prog w = .ok (.pointer (some ⟨g1, 3, none⟩)) w) := ⟨fun w => by go_simp⟩
  have F4 : Aside0 (∀ w, (Instr.fieldAt 29 (.pointer (some ⟨g1, 0, none⟩)) 4).run Try.prog w = .ok (.pointer (some ⟨g1, 4, none⟩)) w) := ⟨fun w => by go_simp⟩
  have F5 : Aside0 (∀ w, (Instr.fieldAt 29 (.pointer (some ⟨g1, 0, none⟩)) 5).run Try.prog w = .ok (.pointer (some ⟨g1, 11, none⟩)) w) := ⟨fun w => by go_simp⟩
  have F6 : Aside0 (∀ w, (Instr.fieldAt 29 (.pointer (some ⟨g1, 0, none⟩)) 6).run Try.prog w = .ok (.pointer (some ⟨g1, 18, none⟩)) w) := ⟨fun w => by go_simp⟩
  have F7 : Aside0 (∀ w, (Instr.fieldAt 27 (.pointer (some ⟨g1, 11, none⟩)) 0).run Try.prog w = .ok (.pointer (some ⟨g1, 11, none⟩)) w) := ⟨fun w => by go_simp⟩
  have F8 : Aside0 (∀ w, (Instr.fieldAt 27 (.pointer (some ⟨g1, 11, none⟩)) 1).run Try.prog w = .ok (.pointer (some ⟨g1, 12, none⟩)) w) := ⟨fun w => by go_simp⟩
  have B1 := Aside0.mk b1
  have L1 := Aside0.mk l1
  clear b1 l1
  conv => arg 2; whnf
  obtain ⟨k1, H⟩ := H
  repeat' (first
      | (with_reducible refine ql_then ?_)
      | (with_reducible refine ql_block ?_)
      | (with_reducible refine ql_then_ret ?_)
      | (with_reducible refine ql_block_ret ?_)
      | (with_reducible refine cl_seq (fun K hK => ?_))
      | ((with_reducible refine hK _ _ _ ?_); clear hK K; refine cl_keep [1, 2, 3, 4, 5, 7, 8, 35, 42, 43, 44, 45, 79, 94, 95, 105] ?_; simp only [keep, List.filter_cons, List.filter_nil, List.contains_cons, List.contains_nil, Nat.reduceBEq, Bool.or_false, Bool.or_true, Bool.true_or, Bool.false_or, Bool.or_self, if_true, Bool.false_eq_true, if_false])
      | (with_reducible refine cl_region ?_)
      | ((with_reducible refine cl_drawn_gate ?_); obtain ⟨C, hC⟩ : ∃ C : World → Prop, C = fun W => W.heap[g1]? = some (.cells #[.int .i64 a0_0, .int .i64 a0_1, .int .i64 a0_2, .int .i64 a0_3, .int .i64 a0_4, .int .i64 a0_5, .int .i64 a0_6, .int .i64 a0_7, .int .i64 a0_8, .int .i64 a0_9, .int .i64 a0_10, .int .i64 a0_11, .int .i64 a0_12, .int .i64 a0_13, .int .i64 a0_14, .int .i64 a0_15, .int .i64 a0_16, .int .i64 a0_17, .int .i64 a0_18] 29 (0, 0)) ∧ Below w.heap.size w W := ⟨_, rfl⟩; have HCL : Aside0 (∀ W W', C W → Below W.heap.size W W' → C W') := ⟨by rw [hC]; rintro W W' ⟨h1, h3⟩ hb; exact ⟨blk_below h1 hb, below_step h3 hb⟩⟩; have HCB : Aside0 (∀ W, C W → W.heap[g1]? = some (.cells #[.int .i64 a0_0, .int .i64 a0_1, .int .i64 a0_2, .int .i64 a0_3, .int .i64 a0_4, .int .i64 a0_5, .int .i64 a0_6, .int .i64 a0_7, .int .i64 a0_8, .int .i64 a0_9, .int .i64 a0_10, .int .i64 a0_11, .int .i64 a0_12, .int .i64 a0_13, .int .i64 a0_14, .int .i64 a0_15, .int .i64 a0_16, .int .i64 a0_17, .int .i64 a0_18] 29 (0, 0))) := ⟨by rw [hC]; exact fun W h => h.1⟩; have HCE : Aside0 (∀ W, C W → Below w.heap.size w W) := ⟨by rw [hC]; exact fun W h => h.2⟩; refine cl_drawn C (by kernel_rfl) (by kernel_rfl) (by rw [hC]; exact ⟨blk_drew B1.out, below_drew1 L1.out⟩) ?_; clear hC B1 L1)
      | (with_reducible refine cl_block ?_)
      | (with_reducible refine cl_skip ?_)
      | (with_reducible refine cl_ret ?_)
      | (with_reducible refine fl_nil ?_)
      | ((with_reducible refine qf_end ?_); intro w3 hw3; have B1 := Aside0.mk (HCB.out _ hw3); have L1 := Aside0.mk (HCE.out _ hw3); clear hw3 HCL HCB HCE; clear C)
      | ((with_reducible refine ql_gate ?_); first
        | ((with_reducible have hr := Option.some.inj H); refine ql_post rfl rfl ?_; exact ⟨congrArg (fun b => Ending.returned (Value.bool b)) hr, L1.out⟩)
        | ((with_reducible have H3 := (if_pos (rfl : true = true)).symm.trans H); clear H; have H := H3; clear H3)
        | ((with_reducible have H3 := (if_neg Bool.false_ne_true).symm.trans H); clear H; have H := H3; clear H3)
        | ((with_reducible have H3 := (if_pos (by assumption)).symm.trans H); clear H; have H := H3; clear H3)
        | ((with_reducible have H3 := bind_two H); clear H; obtain ⟨t, u, h2, H⟩ := H3; have H2 := Aside0.mk h2; clear h2; (try dsimp only at H))
        | ((with_reducible have H3 := bind_one ByteArray H); clear H; obtain ⟨t, h2, H⟩ := H3; have H2 := Aside0.mk h2; clear h2; (try dsimp only at H))
        | ((with_reducible have H3 := bind_one Int H); clear H; obtain ⟨t, h2, H⟩ := H3; have H2 := Aside0.mk h2; clear h2; (try dsimp only at H))
        | ((with_reducible have H3 := bind_one Bool H); clear H; obtain ⟨t, h2, H⟩ := H3; have H2 := Aside0.mk h2; clear h2; (try dsimp only at H); cases t)
        | ((with_reducible have H3 := ite_none H); clear H; obtain ⟨hz, H⟩ := H3; have HZ := Aside0.mk hz; clear hz)
        | ((with_reducible have H3 := ite_split_e H); clear H; rcases H3 with ⟨ht, ht2, H⟩ | ⟨ht, ht2, H⟩)
        | (first | ((with_reducible have H3 := impl_InstrOK.j0_s H); clear H; rcases H3 with ⟨ht, H⟩ | ⟨ht, k1, H⟩ <;> (try simp only [Bool.not_true, Bool.not_false, Bool.false_eq_true, reduceCtorEq] at ht)) | ((with_reducible have H3 := impl_InstrOK.j2_s H); clear H; rcases H3 with ⟨ht, H⟩ | ⟨ht, k1, H⟩ <;> (try simp only [Bool.not_true, Bool.not_false, Bool.false_eq_true, reduceCtorEq] at ht)) | ((with_reducible have H3 := impl_InstrOK.j3_s H); clear H; rcases H3 with ⟨ht, H⟩ | ⟨ht, k1, H⟩ <;> (try simp only [Bool.not_true, Bool.not_false, Bool.false_eq_true, reduceCtorEq] at ht)) | ((with_reducible have H3 := impl_InstrOK.j4_s H); clear H; rcases H3 with ⟨ht, H⟩ | ⟨ht, k1, H⟩ <;> (try simp only [Bool.not_true, Bool.not_false, Bool.false_eq_true, reduceCtorEq] at ht)) | ((with_reducible have H3 := impl_InstrOK.j5_s H); clear H; rcases H3 with ⟨ht, H⟩ | ⟨ht, k1, H⟩ <;> (try simp only [Bool.not_true, Bool.not_false, Bool.false_eq_true, reduceCtorEq] at ht))))
      | ((with_reducible refine cl_gate ?_); first
        | (refine cl_true rfl ?_)
        | (refine cl_false rfl ?_)
        | ((with_reducible have H3 := (if_pos (rfl : true = true)).symm.trans H); clear H; have H := H3; clear H3)
        | ((with_reducible have H3 := (if_neg Bool.false_ne_true).symm.trans H); clear H; have H := H3; clear H3)
        | ((with_reducible have H3 := (if_pos (by assumption)).symm.trans H); clear H; have H := H3; clear H3)
        | ((with_reducible have H3 := bind_two H); clear H; obtain ⟨t, u, h2, H⟩ := H3; have H2 := Aside0.mk h2; clear h2; (try dsimp only at H))
        | ((with_reducible have H3 := bind_one ByteArray H); clear H; obtain ⟨t, h2, H⟩ := H3; have H2 := Aside0.mk h2; clear h2; (try dsimp only at H))
        | ((with_reducible have H3 := bind_one Int H); clear H; obtain ⟨t, h2, H⟩ := H3; have H2 := Aside0.mk h2; clear h2; (try dsimp only at H))
        | ((with_reducible have H3 := bind_one Bool H); clear H; obtain ⟨t, h2, H⟩ := H3; have H2 := Aside0.mk h2; clear h2; (try dsimp only at H); cases t)
        | ((with_reducible have H3 := ite_none H); clear H; obtain ⟨hz, H⟩ := H3; have HZ := Aside0.mk hz; clear hz)
        | ((with_reducible have H3 := ite_split_e H); clear H; rcases H3 with ⟨ht, ht2, H⟩ | ⟨ht, ht2, H⟩)
        | (first | ((with_reducible have H3 := impl_InstrOK.j0_s H); clear H; rcases H3 with ⟨ht, H⟩ | ⟨ht, k1, H⟩ <;> (try simp only [Bool.not_true, Bool.not_false, Bool.false_eq_true, reduceCtorEq] at ht)) | ((with_reducible have H3 := impl_InstrOK.j2_s H); clear H; rcases H3 with ⟨ht, H⟩ | ⟨ht, k1, H⟩ <;> (try simp only [Bool.not_true, Bool.not_false, Bool.false_eq_true, reduceCtorEq] at ht)) | ((with_reducible have H3 := impl_InstrOK.j3_s H); clear H; rcases H3 with ⟨ht, H⟩ | ⟨ht, k1, H⟩ <;> (try simp only [Bool.not_true, Bool.not_false, Bool.false_eq_true, reduceCtorEq] at ht)) | ((with_reducible have H3 := impl_InstrOK.j4_s H); clear H; rcases H3 with ⟨ht, H⟩ | ⟨ht, k1, H⟩ <;> (try simp only [Bool.not_true, Bool.not_false, Bool.false_eq_true, reduceCtorEq] at ht)) | ((with_reducible have H3 := impl_InstrOK.j5_s H); clear H; rcases H3 with ⟨ht, H⟩ | ⟨ht, k1, H⟩ <;> (try simp only [Bool.not_true, Bool.not_false, Bool.false_eq_true, reduceCtorEq] at ht))))
      | ((with_reducible refine fl_gate ?_); first
        | (refine fl_skip rfl rfl (by decide) ?_)
        | (refine fl_move _ (Or.inl rfl) rfl rfl (by decide) _ rfl ?_)
        | (refine fl_move _ (Or.inr rfl) rfl rfl (by decide) _ rfl ?_)
        | (refine fl_pick _ _ _ rfl rfl rfl (by decide) _ rfl _ rfl ?_)
        | (refine fl_addr (v := ?_) _ _ _ rfl rfl rfl (by decide) (.pointer (some ⟨g1, _, none⟩)) rfl ?_ ?_; rotate_left; (focus (with_reducible first | exact F0.out | exact F1.out | exact F2.out | exact F3.out | exact F4.out | exact F5.out | exact F6.out | exact F7.out | exact F8.out)))
        | (refine fl_int 3 _ rfl rfl rfl (by decide) g1 _ rfl 29 _ (0, 0) HAG.out B1.out _ rfl ?_)
        | (refine fl_row 29 _ rfl rfl rfl (by decide) g1 rfl 29 _ (0, 0) _ B1.out hu29 rfl (by kernel_rfl) ?_)
        | (refine fl_mid 27 _ rfl rfl rfl (by decide) g1 4 rfl 29 _ (0, 0) _ ([.int .i64 a0_4, .int .i64 a0_5, .int .i64 a0_6, .int .i64 a0_7, .int .i64 a0_8, .int .i64 a0_9, .int .i64 a0_10]) B1.out rfl hu27 rfl (by kernel_rfl) ?_)
        | (refine fl_mid 27 _ rfl rfl rfl (by decide) g1 11 rfl 29 _ (0, 0) _ ([.int .i64 a0_11, .int .i64 a0_12, .int .i64 a0_13, .int .i64 a0_14, .int .i64 a0_15, .int .i64 a0_16, .int .i64 a0_17]) B1.out rfl hu27 rfl (by kernel_rfl) ?_)
        | (refine fl_bin (v := .string _) _ _ _ _ _ rfl rfl rfl (by decide) (.string (⟨#[32]⟩ : ByteArray)) (.string (_ ++ _)) rfl rfl (fun w' => run_cat3 _ _ HZ.out _ _ w') ?_)
        | (refine fl_bin (v := .string _) _ _ _ _ _ rfl rfl rfl (by decide) (.string (⟨#[32]⟩ : ByteArray)) (.string _) rfl rfl (fun w' => run_cat1 _ HZ.out _ _ w') ?_)
        | (refine fl_bin (v := .string _) _ _ _ _ _ rfl rfl rfl (by decide) (.string _) (.string (⟨#[32]⟩ : ByteArray)) rfl rfl (fun w' => run_cat2 _ HZ.out _ _ w') ?_)
        | (refine fl_bin (v := ?_) _ _ _ _ _ rfl rfl rfl (by decide) (.int .i64 _) (.int .i64 _) rfl rfl ?_ ?_; rotate_left; (focus (intro w'; go_simp; with_reducible first | exact (rfl : Value.bool true = _) | exact (rfl : Value.bool false = _) | exact (rfl : Result.ok (Value.bool true) w' = _) | exact (rfl : Result.ok (Value.bool false) w' = _))))
        | (refine fl_not _ _ rfl rfl rfl (by decide) _ rfl ?_)
        | (refine fl_max (v := .int .i64 (mx 1 a0_1)) _ _ _ rfl rfl rfl (by decide) (.int .i64 1) (.int .i64 a0_1) rfl rfl (fun w' => by go_simp; first | done | rfl | (unfold mx; rfl)) ?_)
        | (refine fl_ext0 _ rfl rfl rfl (by decide) _ _ rfl ?_)
        | (refine fl_ext1 _ rfl rfl rfl (by decide) _ _ rfl ?_)
        | (refine fl_call 29 _ _ rfl rfl rfl (by decide) #[.int .i64 a0_0] rfl (fun _ => by kernel_rfl) _ (impl_isOp.calls a0_0 _ _ H2.out) ?_; rintro e w2 ⟨rfl, ⟨nd, rfl⟩⟩; refine ⟨_, rfl, ?_⟩; have B2 := Aside0.mk (blk_drewN B1.out nd); have L2 := Aside0.mk (pw_below_drewN L1.out nd); clear B1 L1; have B1 := B2; have L1 := L2; clear B2 L2; generalize World.drewN _ nd = w3 at B1 L1 ⊢)
        | (refine fl_call 30 _ _ rfl rfl rfl (by decide) #[.int .i64 _, .int .i64 _, .int .i64 _] rfl (fun _ => by kernel_rfl) _ (impl_in30 _ _ _ _ _ H2.out) ?_; rintro e w2 ⟨rfl, ⟨nd, rfl⟩⟩; refine ⟨_, rfl, ?_⟩; have B2 := Aside0.mk (blk_drewN B1.out nd); have L2 := Aside0.mk (pw_below_drewN L1.out nd); clear B1 L1; have B1 := B2; have L1 := L2; clear B2 L2; generalize World.drewN _ nd = w3 at B1 L1 ⊢)
        | (refine fl_call 31 _ _ rfl rfl rfl (by decide) #[.int .i64 a0_0] rfl (fun _ => by kernel_rfl) _ (impl_hasCond.calls a0_0 _ _ H2.out) ?_; rintro e w2 ⟨rfl, ⟨nd, rfl⟩⟩; refine ⟨_, rfl, ?_⟩; have B2 := Aside0.mk (blk_drewN B1.out nd); have L2 := Aside0.mk (pw_below_drewN L1.out nd); clear B1 L1; have B1 := B2; have L1 := L2; clear B2 L2; generalize World.drewN _ nd = w3 at B1 L1 ⊢)
        | (refine fl_call 38 _ _ rfl rfl rfl (by decide) #[.int .i64 a0_0] rfl (fun _ => by kernel_rfl) _ (impl_isShift.calls a0_0 _ _ H2.out) ?_; rintro e w2 ⟨rfl, ⟨nd, rfl⟩⟩; refine ⟨_, rfl, ?_⟩; have B2 := Aside0.mk (blk_drewN B1.out nd); have L2 := Aside0.mk (pw_below_drewN L1.out nd); clear B1 L1; have B1 := B2; have L1 := L2; clear B2 L2; generalize World.drewN _ nd = w3 at B1 L1 ⊢)
        | (refine fl_call 34 _ _ rfl rfl rfl (by decide) #[.agg #[.int .i64 a0_0, .int .i64 a0_1, .int .i64 a0_2, .int .i64 a0_3, .int .i64 a0_4, .int .i64 a0_5, .int .i64 a0_6, .int .i64 a0_7, .int .i64 a0_8, .int .i64 a0_9, .int .i64 a0_10, .int .i64 a0_11, .int .i64 a0_12, .int .i64 a0_13, .int .i64 a0_14, .int .i64 a0_15, .int .i64 a0_16, .int .i64 a0_17, .int .i64 a0_18]] rfl (fun _ => by kernel_rfl) _ (impl_isFrom.calls a0_0 a0_1 a0_2 a0_3 a0_4 a0_5 a0_6 a0_7 a0_8 a0_9 a0_10 a0_11 a0_12 a0_13 a0_14 a0_15 a0_16 a0_17 a0_18 _ _ H2.out) ?_; rintro e w2 ⟨rfl, hb⟩; refine ⟨_, rfl, ?_⟩; have B2 := Aside0.mk (blk_below B1.out hb); have L2 := Aside0.mk (below_step L1.out hb); clear B1 L1 hb; have B1 := B2; have L1 := L2; clear B2 L2)
        | (refine fl_call 37 _ _ rfl rfl rfl (by decide) #[.agg #[.int .i64 a0_0, .int .i64 a0_1, .int .i64 a0_2, .int .i64 a0_3, .int .i64 a0_4, .int .i64 a0_5, .int .i64 a0_6, .int .i64 a0_7, .int .i64 a0_8, .int .i64 a0_9, .int .i64 a0_10, .int .i64 a0_11, .int .i64 a0_12, .int .i64 a0_13, .int .i64 a0_14, .int .i64 a0_15, .int .i64 a0_16, .int .i64 a0_17, .int .i64 a0_18]] rfl (fun _ => by kernel_rfl) _ (impl_isNumber.calls _ a0_0 a0_1 a0_2 a0_3 a0_4 a0_5 a0_6 a0_7 a0_8 a0_9 a0_10 a0_11 a0_12 a0_13 a0_14 a0_15 a0_16 a0_17 a0_18 _ _ H2.out) ?_; rintro e w2 ⟨rfl, hb⟩; refine ⟨_, rfl, ?_⟩; have B2 := Aside0.mk (blk_below B1.out hb); have L2 := Aside0.mk (below_step L1.out hb); clear B1 L1 hb; have B1 := B2; have L1 := L2; clear B2 L2)
        | (refine fl_call 40 _ _ rfl rfl rfl (by decide) #[.agg #[.int .i64 a0_0, .int .i64 a0_1, .int .i64 a0_2, .int .i64 a0_3, .int .i64 a0_4, .int .i64 a0_5, .int .i64 a0_6, .int .i64 a0_7, .int .i64 a0_8, .int .i64 a0_9, .int .i64 a0_10, .int .i64 a0_11, .int .i64 a0_12, .int .i64 a0_13, .int .i64 a0_14, .int .i64 a0_15, .int .i64 a0_16, .int .i64 a0_17, .int .i64 a0_18]] rfl (fun _ => by kernel_rfl) _ (impl_needsRex.calls _ a0_0 a0_1 a0_2 a0_3 a0_4 a0_5 a0_6 a0_7 a0_8 a0_9 a0_10 a0_11 a0_12 a0_13 a0_14 a0_15 a0_16 a0_17 a0_18 _ _ H2.out) ?_; rintro e w2 ⟨rfl, hb⟩; refine ⟨_, rfl, ?_⟩; have B2 := Aside0.mk (blk_below B1.out hb); have L2 := Aside0.mk (below_step L1.out hb); clear B1 L1 hb; have B1 := B2; have L1 := L2; clear B2 L2)
        | (refine fl_call 35 _ _ rfl rfl rfl (by decide) #[.string _, .string _] rfl (fun _ => by kernel_rfl) _ (strings_Contains.calls _ _ _ w _ HM.out L1.out H2.out) ?_; rintro e w2 ⟨rfl, ⟨nd, rfl⟩⟩; refine ⟨_, rfl, ?_⟩; have B2 := Aside0.mk (blk_drewN B1.out nd); have L2 := Aside0.mk (pw_below_drewN L1.out nd); clear B1 L1; have B1 := B2; have L1 := L2; clear B2 L2; generalize World.drewN _ nd = w3 at B1 L1 ⊢)
        | (refine fl_call 39 _ _ rfl rfl rfl (by decide) #[.agg #[.int .i64 a0_4, .int .i64 a0_5, .int .i64 a0_6, .int .i64 a0_7, .int .i64 a0_8, .int .i64 a0_9, .int .i64 a0_10]] rfl (fun _ => by kernel_rfl) _ (impl_hasHigh.calls a0_4 a0_5 a0_6 a0_7 a0_8 a0_9 a0_10 _ _ H2.out) ?_; rintro e w2 ⟨rfl, hb⟩; refine ⟨_, rfl, ?_⟩; have B2 := Aside0.mk (blk_below B1.out hb); have L2 := Aside0.mk (below_step L1.out hb); clear B1 L1 hb; have B1 := B2; have L1 := L2; clear B2 L2)
        | (refine fl_call 39 _ _ rfl rfl rfl (by decide) #[.agg #[.int .i64 a0_11, .int .i64 a0_12, .int .i64 a0_13, .int .i64 a0_14, .int .i64 a0_15, .int .i64 a0_16, .int .i64 a0_17]] rfl (fun _ => by kernel_rfl) _ (impl_hasHigh.calls a0_11 a0_12 a0_13 a0_14 a0_15 a0_16 a0_17 _ _ H2.out) ?_; rintro e w2 ⟨rfl, hb⟩; refine ⟨_, rfl, ?_⟩; have B2 := Aside0.mk (blk_below B1.out hb); have L2 := Aside0.mk (below_step L1.out hb); clear B1 L1 hb; have B1 := B2; have L1 := L2; clear B2 L2)
        | (refine fl_call 32 _ _ rfl rfl rfl (by decide) #[.int .i64 a0_0] rfl (fun _ => by kernel_rfl) _ (impl_formsOf.calls _ a0_0 _ _ _ H2.out) ?_; rintro e w2 ⟨v0, rfl, ho, hb⟩; refine ⟨_, rfl, ?_⟩; have B2 := Aside0.mk (blk_below B1.out hb); have L2 := Aside0.mk (below_step L1.out hb); clear B1 L1 hb; have B1 := B2; have L1 := L2; clear B2 L2; have HO := Aside0.mk ho; clear ho; obtain ⟨Ao, co, eo⟩ := Kd.R_slice HO.out; subst eo)
        | ((with_reducible have H3 := (if_pos (rfl : true = true)).symm.trans H); clear H; have H := H3; clear H3)
        | ((with_reducible have H3 := (if_neg Bool.false_ne_true).symm.trans H); clear H; have H := H3; clear H3)
        | ((with_reducible have H3 := (if_pos (by assumption)).symm.trans H); clear H; have H := H3; clear H3)
        | ((with_reducible have H3 := bind_two H); clear H; obtain ⟨t, u, h2, H⟩ := H3; have H2 := Aside0.mk h2; clear h2; (try dsimp only at H))
        | ((with_reducible have H3 := bind_one ByteArray H); clear H; obtain ⟨t, h2, H⟩ := H3; have H2 := Aside0.mk h2; clear h2; (try dsimp only at H))
        | ((with_reducible have H3 := bind_one Int H); clear H; obtain ⟨t, h2, H⟩ := H3; have H2 := Aside0.mk h2; clear h2; (try dsimp only at H))
        | ((with_reducible have H3 := bind_one Bool H); clear H; obtain ⟨t, h2, H⟩ := H3; have H2 := Aside0.mk h2; clear h2; (try dsimp only at H); cases t)
        | ((with_reducible have H3 := ite_none H); clear H; obtain ⟨hz, H⟩ := H3; have HZ := Aside0.mk hz; clear hz)
        | ((with_reducible have H3 := ite_split_e H); clear H; rcases H3 with ⟨ht, ht2, H⟩ | ⟨ht, ht2, H⟩)
        | (first | ((with_reducible have H3 := impl_InstrOK.j0_s H); clear H; rcases H3 with ⟨ht, H⟩ | ⟨ht, k1, H⟩ <;> (try simp only [Bool.not_true, Bool.not_false, Bool.false_eq_true, reduceCtorEq] at ht)) | ((with_reducible have H3 := impl_InstrOK.j2_s H); clear H; rcases H3 with ⟨ht, H⟩ | ⟨ht, k1, H⟩ <;> (try simp only [Bool.not_true, Bool.not_false, Bool.false_eq_true, reduceCtorEq] at ht)) | ((with_reducible have H3 := impl_InstrOK.j3_s H); clear H; rcases H3 with ⟨ht, H⟩ | ⟨ht, k1, H⟩ <;> (try simp only [Bool.not_true, Bool.not_false, Bool.false_eq_true, reduceCtorEq] at ht)) | ((with_reducible have H3 := impl_InstrOK.j4_s H); clear H; rcases H3 with ⟨ht, H⟩ | ⟨ht, k1, H⟩ <;> (try simp only [Bool.not_true, Bool.not_false, Bool.false_eq_true, reduceCtorEq] at ht)) | ((with_reducible have H3 := impl_InstrOK.j5_s H); clear H; rcases H3 with ⟨ht, H⟩ | ⟨ht, k1, H⟩ <;> (try simp only [Bool.not_true, Bool.not_false, Bool.false_eq_true, reduceCtorEq] at ht))))
      | ((with_reducible refine qf_gate ?_); first
        | (refine qf_skip rfl rfl (by decide) ?_)
        | (refine qf_move _ (Or.inl rfl) rfl rfl (by decide) _ rfl ?_)
        | (refine qf_move _ (Or.inr rfl) rfl rfl (by decide) _ rfl ?_)
        | (refine qf_pick _ _ _ rfl rfl rfl (by decide) _ rfl _ rfl ?_)
        | (refine qf_addr (v := ?_) _ _ _ rfl rfl rfl (by decide) (.pointer (some ⟨g1, _, none⟩)) rfl ?_ ?_; rotate_left; (focus (with_reducible first | exact F0.out | exact F1.out | exact F2.out | exact F3.out | exact F4.out | exact F5.out | exact F6.out | exact F7.out | exact F8.out)))
        | (refine qf_int 3 _ rfl rfl rfl (by decide) g1 _ rfl 29 _ (0, 0) HAG.out HCB.out _ rfl ?_)
        | (refine qf_row 29 _ rfl rfl rfl (by decide) g1 rfl 29 _ (0, 0) _ HCB.out hu29 rfl (by kernel_rfl) ?_)
        | (refine qf_mid 27 _ rfl rfl rfl (by decide) g1 4 rfl 29 _ (0, 0) _ ([.int .i64 a0_4, .int .i64 a0_5, .int .i64 a0_6, .int .i64 a0_7, .int .i64 a0_8, .int .i64 a0_9, .int .i64 a0_10]) HCB.out rfl hu27 rfl (by kernel_rfl) ?_)
        | (refine qf_mid 27 _ rfl rfl rfl (by decide) g1 11 rfl 29 _ (0, 0) _ ([.int .i64 a0_11, .int .i64 a0_12, .int .i64 a0_13, .int .i64 a0_14, .int .i64 a0_15, .int .i64 a0_16, .int .i64 a0_17]) HCB.out rfl hu27 rfl (by kernel_rfl) ?_)
        | (refine qf_bin (v := .string _) _ _ _ _ _ rfl rfl rfl (by decide) (.string _) (.string _) rfl rfl (fun w' => run_cat _ _ HZ.out _ _ w') ?_)
        | (refine qf_bin (v := ?_) _ _ _ _ _ rfl rfl rfl (by decide) (.int .i64 _) (.int .i64 _) rfl rfl ?_ ?_; rotate_left; (focus (intro w'; go_simp; with_reducible first | exact (rfl : Value.bool true = _) | exact (rfl : Value.bool false = _) | exact (rfl : Result.ok (Value.bool true) w' = _) | exact (rfl : Result.ok (Value.bool false) w' = _))))
        | (refine qf_not _ _ rfl rfl rfl (by decide) _ rfl ?_)
        | (refine qf_max (v := .int .i64 (mx 1 a0_1)) _ _ _ rfl rfl rfl (by decide) (.int .i64 1) (.int .i64 a0_1) rfl rfl (fun w' => by go_simp; first | done | rfl | (unfold mx; rfl)) ?_)
        | (refine qf_call 33 _ _ rfl rfl rfl (by decide) #[.agg #[.int .i64 a0_4, .int .i64 a0_5, .int .i64 a0_6, .int .i64 a0_7, .int .i64 a0_8, .int .i64 a0_9, .int .i64 a0_10]] rfl (fun _ => by kernel_rfl) (.string _) (fun W hW => (impl_Operand_letter.calls a0_4 a0_5 a0_6 a0_7 a0_8 a0_9 a0_10 _ W H2.out).mono fun _ _ ⟨he, hb⟩ => ⟨he, HCL.out _ _ hW hb⟩) ?_)
        | (refine qf_call 33 _ _ rfl rfl rfl (by decide) #[.agg #[.int .i64 a0_11, .int .i64 a0_12, .int .i64 a0_13, .int .i64 a0_14, .int .i64 a0_15, .int .i64 a0_16, .int .i64 a0_17]] rfl (fun _ => by kernel_rfl) (.string _) (fun W hW => (impl_Operand_letter.calls a0_11 a0_12 a0_13 a0_14 a0_15 a0_16 a0_17 _ W H2.out).mono fun _ _ ⟨he, hb⟩ => ⟨he, HCL.out _ _ hW hb⟩) ?_)
        | (refine qf_call 14 _ _ rfl rfl rfl (by decide) #[.agg #[.int .i64 a0_4, .int .i64 a0_5, .int .i64 a0_6, .int .i64 a0_7, .int .i64 a0_8, .int .i64 a0_9, .int .i64 a0_10], .int .i64 _] rfl (fun _ => by kernel_rfl) (.bool _) (fun W hW => (impl_OperandOK.calls a0_4 a0_5 a0_6 a0_7 a0_8 a0_9 a0_10 _ _ W H2.out).mono fun _ _ ⟨he, hb⟩ => ⟨he, HCL.out _ _ hW hb⟩) ?_)
        | (refine qf_call 14 _ _ rfl rfl rfl (by decide) #[.agg #[.int .i64 a0_11, .int .i64 a0_12, .int .i64 a0_13, .int .i64 a0_14, .int .i64 a0_15, .int .i64 a0_16, .int .i64 a0_17], .int .i64 _] rfl (fun _ => by kernel_rfl) (.bool _) (fun W hW => (impl_OperandOK.calls a0_11 a0_12 a0_13 a0_14 a0_15 a0_16 a0_17 _ _ W H2.out).mono fun _ _ ⟨he, hb⟩ => ⟨he, HCL.out _ _ hW hb⟩) ?_)
        | (refine qf_call 36 _ _ rfl rfl rfl (by decide) #[.agg #[.int .i64 a0_0, .int .i64 a0_1, .int .i64 a0_2, .int .i64 a0_3, .int .i64 a0_4, .int .i64 a0_5, .int .i64 a0_6, .int .i64 a0_7, .int .i64 a0_8, .int .i64 a0_9, .int .i64 a0_10, .int .i64 a0_11, .int .i64 a0_12, .int .i64 a0_13, .int .i64 a0_14, .int .i64 a0_15, .int .i64 a0_16, .int .i64 a0_17, .int .i64 a0_18]] rfl (fun _ => by kernel_rfl) (.int .i64 _) (fun W hW => (impl_srcSize.calls a0_0 a0_1 a0_2 a0_3 a0_4 a0_5 a0_6 a0_7 a0_8 a0_9 a0_10 a0_11 a0_12 a0_13 a0_14 a0_15 a0_16 a0_17 a0_18 _ W H2.out).mono fun _ _ ⟨he, hb⟩ => ⟨he, HCL.out _ _ hW hb⟩) ?_)
        | ((with_reducible have H3 := (if_pos (rfl : true = true)).symm.trans H); clear H; have H := H3; clear H3)
        | ((with_reducible have H3 := (if_neg Bool.false_ne_true).symm.trans H); clear H; have H := H3; clear H3)
        | ((with_reducible have H3 := (if_pos (by assumption)).symm.trans H); clear H; have H := H3; clear H3)
        | ((with_reducible have H3 := bind_two H); clear H; obtain ⟨t, u, h2, H⟩ := H3; have H2 := Aside0.mk h2; clear h2; (try dsimp only at H))
        | ((with_reducible have H3 := bind_one ByteArray H); clear H; obtain ⟨t, h2, H⟩ := H3; have H2 := Aside0.mk h2; clear h2; (try dsimp only at H))
        | ((with_reducible have H3 := bind_one Int H); clear H; obtain ⟨t, h2, H⟩ := H3; have H2 := Aside0.mk h2; clear h2; (try dsimp only at H))
        | ((with_reducible have H3 := bind_one Bool H); clear H; obtain ⟨t, h2, H⟩ := H3; have H2 := Aside0.mk h2; clear h2; (try dsimp only at H); cases t)
        | ((with_reducible have H3 := ite_none H); clear H; obtain ⟨hz, H⟩ := H3; have HZ := Aside0.mk hz; clear hz)
        | ((with_reducible have H3 := ite_split_e H); clear H; rcases H3 with ⟨ht, ht2, H⟩ | ⟨ht, ht2, H⟩)
        | (first | ((with_reducible have H3 := impl_InstrOK.j0_s H); clear H; rcases H3 with ⟨ht, H⟩ | ⟨ht, k1, H⟩ <;> (try simp only [Bool.not_true, Bool.not_false, Bool.false_eq_true, reduceCtorEq] at ht)) | ((with_reducible have H3 := impl_InstrOK.j2_s H); clear H; rcases H3 with ⟨ht, H⟩ | ⟨ht, k1, H⟩ <;> (try simp only [Bool.not_true, Bool.not_false, Bool.false_eq_true, reduceCtorEq] at ht)) | ((with_reducible have H3 := impl_InstrOK.j3_s H); clear H; rcases H3 with ⟨ht, H⟩ | ⟨ht, k1, H⟩ <;> (try simp only [Bool.not_true, Bool.not_false, Bool.false_eq_true, reduceCtorEq] at ht)) | ((with_reducible have H3 := impl_InstrOK.j4_s H); clear H; rcases H3 with ⟨ht, H⟩ | ⟨ht, k1, H⟩ <;> (try simp only [Bool.not_true, Bool.not_false, Bool.false_eq_true, reduceCtorEq] at ht)) | ((with_reducible have H3 := impl_InstrOK.j5_s H); clear H; rcases H3 with ⟨ht, H⟩ | ⟨ht, k1, H⟩ <;> (try simp only [Bool.not_true, Bool.not_false, Bool.false_eq_true, reduceCtorEq] at ht)))))
theorem cl_seq_block2 {P : Program} {Q : Exit → Act → World → Prop} {w : World} {n : Nat} {L : List (Nat × Value)} {x y : Code} (h : ∀ K : Act → World → Prop, (∀ n L w, CL P y Q n L w → KL K n L w) → CL P (Code.block 2 x) (Exit.then K Q) n L w) : CL P (Code.seq (Code.block 2 x) y) Q n L w := cl_seq h
set_option maxHeartbeats 40000000 in
set_option maxRecDepth 100000 in
theorem impl_InstrOK.pC (w w1 : World) (r : Bool) (g1 : Nat) (a0_0 : Int) (a0_1 : Int) (a0_2 : Int) (a0_3 : Int) (a0_4 : Int) (a0_5 : Int) (a0_6 : Int) (a0_7 : Int) (a0_8 : Int) (a0_9 : Int) (a0_10 : Int) (a0_11 : Int) (a0_12 : Int) (a0_13 : Int) (a0_14 : Int) (a0_15 : Int) (a0_16 : Int) (a0_17 : Int) (a0_18 : Int) (hm : Try.Glob w) (b1 : w1.heap[g1]? = some (.cells #[.int .i64 a0_0, .int .i64 a0_1, .int .i64 a0_2, .int .i64 a0_3, .int .i64 a0_4, .int .i64 a0_5, .int .i64 a0_6, .int .i64 a0_7, .int .i64 a0_8, .int .i64 a0_9, .int .i64 a0_10, .int .i64 a0_11, .int .i64 a0_12, .int .i64 a0_13, .int .i64 a0_14, .int .i64 a0_15, .int .i64 a0_16, .int .i64 a0_17, .int .i64 a0_18] 29 (0, 0))) (l1 : Below w.heap.size w w1) (b : Bool) (u : ByteArray) (k1 : Nat) (H : ((impl_Operand_letter.f a0_4 a0_5 a0_6 a0_7 a0_8 a0_9 a0_10).bind fun t373 => ((impl_Operand_letter.f a0_11 a0_12 a0_13 a0_14 a0_15 a0_16 a0_17).bind fun t374 => (if t373.size + t374.size ≤ 9223372036854775807 then (if b = true then ((impl_isFrom.f a0_0 a0_1 a0_2 a0_3 a0_4 a0_5 a0_6 a0_7 a0_8 a0_9 a0_10 a0_11 a0_12 a0_13 a0_14 a0_15 a0_16 a0_17 a0_18).bind fun t375 => (if t375 = true then (if 1 + u.size ≤ 9223372036854775807 then (if ((⟨#[32]⟩ : ByteArray) ++ u).size + 1 ≤ 9223372036854775807 then (if 1 + (t373.size + t374.size) ≤ 9223372036854775807 then (if ((⟨#[32]⟩ : ByteArray) ++ (t373 ++ t374)).size + 1 ≤ 9223372036854775807 then ((strings_Contains.f (((⟨#[32]⟩ : ByteArray) ++ u) ++ (⟨#[32]⟩ : ByteArray)) (((⟨#[32]⟩ : ByteArray) ++ (t373 ++ t374)) ++ (⟨#[32]⟩ : ByteArray))).bind fun t376 => (impl_InstrOK.j2 k1 (!t376) a0_0 a0_1 a0_2 a0_3 a0_4 a0_5 a0_6 a0_7 a0_8 a0_9 a0_10 a0_11 a0_12 a0_13 a0_14 a0_15 a0_16 a0_17 a0_18)) else (none)) else (none)) else (none)) else (none)) else (impl_InstrOK.j2 k1 true a0_0 a0_1 a0_2 a0_3 a0_4 a0_5 a0_6 a0_7 a0_8 a0_9 a0_10 a0_11 a0_12 a0_13 a0_14 a0_15 a0_16 a0_17 a0_18))) else (impl_InstrOK.j2 k1 true a0_0 a0_1 a0_2 a0_3 a0_4 a0_5 a0_6 a0_7 a0_8 a0_9 a0_10 a0_11 a0_12 a0_13 a0_14 a0_15 a0_16 a0_17 a0_18)) else (none)))) = some r) :
    CL Try.prog (codeRest (codeRest (codeRest (codeRest (codeRest (Try.f11.body.getD .skip)))))) (bodyPost Try.prog Try.f11 (fun e w' => e = .returned (.bool r) ∧ Below w.heap.size w w')) 135 [(5, .bool b), (4, .string u), (2, .bool false), (1, .pointer (some ⟨g1, 0, none⟩))] w1 := by
  have HM := Aside0.mk hm
  clear hm
  have hu29 := Try.underlying29
  have hu27 := Try.underlying27
  have HAG : Aside0 (∀ w, (isAgg 3).run Try.prog w = .ok false w) := ⟨fun w => by go_simp⟩
  have F0 : Aside0 (∀ w, (Instr.fieldAt 29 (.pointer (some ⟨g1, 0, none⟩)) 0).run Try.prog w = .ok (.pointer (some ⟨g1, 0, none⟩)) w) := ⟨fun w => by go_simp⟩
  have F1 : Aside0 (∀ w, (Instr.fieldAt 29 (.pointer (some ⟨g1, 0, none⟩)) 1).run Try.prog w = .ok (.pointer (some ⟨g1, 1, none⟩)) w) := ⟨fun w => by go_simp⟩
  have F2 : Aside0 (∀ w, (Instr.fieldAt 29 (.pointer (some ⟨g1, 0, none⟩)) 2).run Try.prog w = .ok (.pointer (some ⟨g1, 2, none⟩)) w) := ⟨fun w => by go_simp⟩
  have F3 : Aside0 (∀ w, (Instr.fieldAt 29 (.pointer (some ⟨g1, 0, none⟩)) 3).run Try.prog w = .ok (.pointer (some ⟨g1, 3, none⟩)) w) := ⟨fun w => by go_simp⟩
  have F4 : Aside0 (∀ w, (Instr.fieldAt 29 (.pointer (some ⟨g1, 0, none⟩)) 4).run Try.prog w = .ok (.pointer (some ⟨g1, 4, none⟩)) w) := ⟨fun w => by go_simp⟩
  have F5 : Aside0 (∀ w, (Instr.fieldAt 29 (.pointer (some ⟨g1, 0, none⟩)) 5).run Try.prog w = .ok (.pointer (some ⟨g1, 11, none⟩)) w) := ⟨fun w => by go_simp⟩
  have F6 : Aside0 (∀ w, (Instr.fieldAt 29 (.pointer (some ⟨g1, 0, none⟩)) 6).run Try.prog w = .ok (.pointer (some ⟨g1, 18, none⟩)) w) := ⟨fun w => by go_simp⟩
  have F7 : Aside0 (∀ w, (Instr.fieldAt 27 (.pointer (some ⟨g1, 11, none⟩)) 0).run Try.prog w = .ok (.pointer (some ⟨g1, 11, none⟩)) w) := ⟨fun w => by go_simp⟩
  have F8 : Aside0 (∀ w, (Instr.fieldAt 27 (.pointer (some ⟨g1, 11, none⟩)) 1).run Try.prog w = .ok (.pointer (some ⟨g1, 12, none⟩)) w) := ⟨fun w => by go_simp⟩
  have B1 := Aside0.mk b1
  have L1 := Aside0.mk l1
  clear b1 l1
  conv => arg 2; whnf
  cases b with
  | false =>
    repeat' (first
        | (with_reducible refine ql_then ?_)
        | (with_reducible refine ql_block ?_)
        | (with_reducible refine ql_then_ret ?_)
        | (with_reducible refine ql_block_ret ?_)
        | (with_reducible refine cl_seq (fun K hK => ?_))
        | ((with_reducible refine hK _ _ _ ?_); clear hK K; refine cl_keep [1, 2, 3, 4, 5, 7, 8, 35, 42, 43, 44, 45, 79, 94, 95, 105] ?_; simp only [keep, List.filter_cons, List.filter_nil, List.contains_cons, List.contains_nil, Nat.reduceBEq, Bool.or_false, Bool.or_true, Bool.true_or, Bool.false_or, Bool.or_self, if_true, Bool.false_eq_true, if_false])
        | (with_reducible refine cl_region ?_)
        | ((with_reducible refine cl_drawn_gate ?_); obtain ⟨C, hC⟩ : ∃ C : World → Prop, C = fun W => W.heap[g1]? = some (.cells #[.int .i64 a0_0, .int .i64 a0_1, .int .i64 a0_2, .int .i64 a0_3, .int .i64 a0_4, .int .i64 a0_5, .int .i64 a0_6, .int .i64 a0_7, .int .i64 a0_8, .int .i64 a0_9, .int .i64 a0_10, .int .i64 a0_11, .int .i64 a0_12, .int .i64 a0_13, .int .i64 a0_14, .int .i64 a0_15, .int .i64 a0_16, .int .i64 a0_17, .int .i64 a0_18] 29 (0, 0)) ∧ Below w.heap.size w W := ⟨_, rfl⟩; have HCL : Aside0 (∀ W W', C W → Below W.heap.size W W' → C W') := ⟨by rw [hC]; rintro W W' ⟨h1, h3⟩ hb; exact ⟨blk_below h1 hb, below_step h3 hb⟩⟩; have HCB : Aside0 (∀ W, C W → W.heap[g1]? = some (.cells #[.int .i64 a0_0, .int .i64 a0_1, .int .i64 a0_2, .int .i64 a0_3, .int .i64 a0_4, .int .i64 a0_5, .int .i64 a0_6, .int .i64 a0_7, .int .i64 a0_8, .int .i64 a0_9, .int .i64 a0_10, .int .i64 a0_11, .int .i64 a0_12, .int .i64 a0_13, .int .i64 a0_14, .int .i64 a0_15, .int .i64 a0_16, .int .i64 a0_17, .int .i64 a0_18] 29 (0, 0))) := ⟨by rw [hC]; exact fun W h => h.1⟩; have HCE : Aside0 (∀ W, C W → Below w.heap.size w W) := ⟨by rw [hC]; exact fun W h => h.2⟩; refine cl_drawn C (by kernel_rfl) (by kernel_rfl) (by rw [hC]; exact ⟨blk_drew B1.out, below_drew1 L1.out⟩) ?_; clear hC B1 L1)
        | (with_reducible refine cl_block ?_)
        | (with_reducible refine cl_skip ?_)
        | (with_reducible refine cl_ret ?_)
        | (with_reducible refine fl_nil ?_)
        | ((with_reducible refine qf_end ?_); intro w3 hw3; have B1 := Aside0.mk (HCB.out _ hw3); have L1 := Aside0.mk (HCE.out _ hw3); clear hw3 HCL HCB HCE; clear C)
        | ((with_reducible refine ql_gate ?_); first
          | ((with_reducible have hr := Option.some.inj H); refine ql_post rfl rfl ?_; exact ⟨congrArg (fun b => Ending.returned (Value.bool b)) hr, L1.out⟩)
          | ((with_reducible have H3 := (if_pos (rfl : true = true)).symm.trans H); clear H; have H := H3; clear H3)
          | ((with_reducible have H3 := (if_neg Bool.false_ne_true).symm.trans H); clear H; have H := H3; clear H3)
          | ((with_reducible have H3 := (if_pos (by assumption)).symm.trans H); clear H; have H := H3; clear H3)
          | ((with_reducible have H3 := bind_two H); clear H; obtain ⟨t, u, h2, H⟩ := H3; have H2 := Aside0.mk h2; clear h2; (try dsimp only at H))
          | ((with_reducible have H3 := bind_one ByteArray H); clear H; obtain ⟨t, h2, H⟩ := H3; have H2 := Aside0.mk h2; clear h2; (try dsimp only at H))
          | ((with_reducible have H3 := bind_one Int H); clear H; obtain ⟨t, h2, H⟩ := H3; have H2 := Aside0.mk h2; clear h2; (try dsimp only at H))
          | ((with_reducible have H3 := bind_one Bool H); clear H; obtain ⟨t, h2, H⟩ := H3; have H2 := Aside0.mk h2; clear h2; (try dsimp only at H); cases t)
          | ((with_reducible have H3 := ite_none H); clear H; obtain ⟨hz, H⟩ := H3; have HZ := Aside0.mk hz; clear hz)
          | ((with_reducible have H3 := ite_split_e H); clear H; rcases H3 with ⟨ht, ht2, H⟩ | ⟨ht, ht2, H⟩)
          | (first | ((with_reducible have H3 := impl_InstrOK.j0_s H); clear H; rcases H3 with ⟨ht, H⟩ | ⟨ht, k1, H⟩ <;> (try simp only [Bool.not_true, Bool.not_false, Bool.false_eq_true, reduceCtorEq] at ht)) | ((with_reducible have H3 := impl_InstrOK.j2_s H); clear H; rcases H3 with ⟨ht, H⟩ | ⟨ht, k1, H⟩ <;> (try simp only [Bool.not_true, Bool.not_false, Bool.false_eq_true, reduceCtorEq] at ht)) | ((with_reducible have H3 := impl_InstrOK.j3_s H); clear H; rcases H3 with ⟨ht, H⟩ | ⟨ht, k1, H⟩ <;> (try simp only [Bool.not_true, Bool.not_false, Bool.false_eq_true, reduceCtorEq] at ht)) | ((with_reducible have H3 := impl_InstrOK.j4_s H); clear H; rcases H3 with ⟨ht, H⟩ | ⟨ht, k1, H⟩ <;> (try simp only [Bool.not_true, Bool.not_false, Bool.false_eq_true, reduceCtorEq] at ht)) | ((with_reducible have H3 := impl_InstrOK.j5_s H); clear H; rcases H3 with ⟨ht, H⟩ | ⟨ht, k1, H⟩ <;> (try simp only [Bool.not_true, Bool.not_false, Bool.false_eq_true, reduceCtorEq] at ht))))
        | ((with_reducible refine cl_gate ?_); first
          | (refine cl_true rfl ?_)
          | (refine cl_false rfl ?_)
          | ((with_reducible have H3 := (if_pos (rfl : true = true)).symm.trans H); clear H; have H := H3; clear H3)
          | ((with_reducible have H3 := (if_neg Bool.false_ne_true).symm.trans H); clear H; have H := H3; clear H3)
          | ((with_reducible have H3 := (if_pos (by assumption)).symm.trans H); clear H; have H := H3; clear H3)
          | ((with_reducible have H3 := bind_two H); clear H; obtain ⟨t, u, h2, H⟩ := H3; have H2 := Aside0.mk h2; clear h2; (try dsimp only at H))
          | ((with_reducible have H3 := bind_one ByteArray H); clear H; obtain ⟨t, h2, H⟩ := H3; have H2 := Aside0.mk h2; clear h2; (try dsimp only at H))
          | ((with_reducible have H3 := bind_one Int H); clear H; obtain ⟨t, h2, H⟩ := H3; have H2 := Aside0.mk h2; clear h2; (try dsimp only at H))
          | ((with_reducible have H3 := bind_one Bool H); clear H; obtain ⟨t, h2, H⟩ := H3; have H2 := Aside0.mk h2; clear h2; (try dsimp only at H); cases t)
          | ((with_reducible have H3 := ite_none H); clear H; obtain ⟨hz, H⟩ := H3; have HZ := Aside0.mk hz; clear hz)
          | ((with_reducible have H3 := ite_split_e H); clear H; rcases H3 with ⟨ht, ht2, H⟩ | ⟨ht, ht2, H⟩)
          | (first | ((with_reducible have H3 := impl_InstrOK.j0_s H); clear H; rcases H3 with ⟨ht, H⟩ | ⟨ht, k1, H⟩ <;> (try simp only [Bool.not_true, Bool.not_false, Bool.false_eq_true, reduceCtorEq] at ht)) | ((with_reducible have H3 := impl_InstrOK.j2_s H); clear H; rcases H3 with ⟨ht, H⟩ | ⟨ht, k1, H⟩ <;> (try simp only [Bool.not_true, Bool.not_false, Bool.false_eq_true, reduceCtorEq] at ht)) | ((with_reducible have H3 := impl_InstrOK.j3_s H); clear H; rcases H3 with ⟨ht, H⟩ | ⟨ht, k1, H⟩ <;> (try simp only [Bool.not_true, Bool.not_false, Bool.false_eq_true, reduceCtorEq] at ht)) | ((with_reducible have H3 := impl_InstrOK.j4_s H); clear H; rcases H3 with ⟨ht, H⟩ | ⟨ht, k1, H⟩ <;> (try simp only [Bool.not_true, Bool.not_false, Bool.false_eq_true, reduceCtorEq] at ht)) | ((with_reducible have H3 := impl_InstrOK.j5_s H); clear H; rcases H3 with ⟨ht, H⟩ | ⟨ht, k1, H⟩ <;> (try simp only [Bool.not_true, Bool.not_false, Bool.false_eq_true, reduceCtorEq] at ht))))
        | ((with_reducible refine fl_gate ?_); first
          | (refine fl_skip rfl rfl (by decide) ?_)
          | (refine fl_move _ (Or.inl rfl) rfl rfl (by decide) _ rfl ?_)
          | (refine fl_move _ (Or.inr rfl) rfl rfl (by decide) _ rfl ?_)
          | (refine fl_pick _ _ _ rfl rfl rfl (by decide) _ rfl _ rfl ?_)
          | (refine fl_addr (v := ?_) _ _ _ rfl rfl rfl (by decide) (.pointer (some ⟨g1, _, none⟩)) rfl ?_ ?_; rotate_left; (focus (with_reducible first | exact F0.out | exact F1.out | exact F2.out | exact F3.out | exact F4.out | exact F5.out | exact F6.out | exact F7.out | exact F8.out)))
          | (refine fl_int 3 _ rfl rfl rfl (by decide) g1 _ rfl 29 _ (0, 0) HAG.out B1.out _ rfl ?_)
          | (refine fl_row 29 _ rfl rfl rfl (by decide) g1 rfl 29 _ (0, 0) _ B1.out hu29 rfl (by kernel_rfl) ?_)
          | (refine fl_mid 27 _ rfl rfl rfl (by decide) g1 4 rfl 29 _ (0, 0) _ ([.int .i64 a0_4, .int .i64 a0_5, .int .i64 a0_6, .int .i64 a0_7, .int .i64 a0_8, .int .i64 a0_9, .int .i64 a0_10]) B1.out rfl hu27 rfl (by kernel_rfl) ?_)
          | (refine fl_mid 27 _ rfl rfl rfl (by decide) g1 11 rfl 29 _ (0, 0) _ ([.int .i64 a0_11, .int .i64 a0_12, .int .i64 a0_13, .int .i64 a0_14, .int .i64 a0_15, .int .i64 a0_16, .int .i64 a0_17]) B1.out rfl hu27 rfl (by kernel_rfl) ?_)
          | (refine fl_bin (v := .string _) _ _ _ _ _ rfl rfl rfl (by decide) (.string (⟨#[32]⟩ : ByteArray)) (.string (_ ++ _)) rfl rfl (fun w' => run_cat3 _ _ HZ.out _ _ w') ?_)
          | (refine fl_bin (v := .string _) _ _ _ _ _ rfl rfl rfl (by decide) (.string (⟨#[32]⟩ : ByteArray)) (.string _) rfl rfl (fun w' => run_cat1 _ HZ.out _ _ w') ?_)
          | (refine fl_bin (v := .string _) _ _ _ _ _ rfl rfl rfl (by decide) (.string _) (.string (⟨#[32]⟩ : ByteArray)) rfl rfl (fun w' => run_cat2 _ HZ.out _ _ w') ?_)
          | (refine fl_bin (v := ?_) _ _ _ _ _ rfl rfl rfl (by decide) (.int .i64 _) (.int .i64 _) rfl rfl ?_ ?_; rotate_left; (focus (intro w'; go_simp; with_reducible first | exact (rfl : Value.bool true = _) | exact (rfl : Value.bool false = _) | exact (rfl : Result.ok (Value.bool true) w' = _) | exact (rfl : Result.ok (Value.bool false) w' = _))))
          | (refine fl_not _ _ rfl rfl rfl (by decide) _ rfl ?_)
          | (refine fl_max (v := .int .i64 (mx 1 a0_1)) _ _ _ rfl rfl rfl (by decide) (.int .i64 1) (.int .i64 a0_1) rfl rfl (fun w' => by go_simp; first | done | rfl | (unfold mx; rfl)) ?_)
          | (refine fl_ext0 _ rfl rfl rfl (by decide) _ _ rfl ?_)
          | (refine fl_ext1 _ rfl rfl rfl (by decide) _ _ rfl ?_)
          | (refine fl_call 29 _ _ rfl rfl rfl (by decide) #[.int .i64 a0_0] rfl (fun _ => by kernel_rfl) _ (impl_isOp.calls a0_0 _ _ H2.out) ?_; rintro e w2 ⟨rfl, ⟨nd, rfl⟩⟩; refine ⟨_, rfl, ?_⟩; have B2 := Aside0.mk (blk_drewN B1.out nd); have L2 := Aside0.mk (pw_below_drewN L1.out nd); clear B1 L1; have B1 := B2; have L1 := L2; clear B2 L2; generalize World.drewN _ nd = w3 at B1 L1 ⊢)
          | (refine fl_call 30 _ _ rfl rfl rfl (by decide) #[.int .i64 _, .int .i64 _, .int .i64 _] rfl (fun _ => by kernel_rfl) _ (impl_in30 _ _ _ _ _ H2.out) ?_; rintro e w2 ⟨rfl, ⟨nd, rfl⟩⟩; refine ⟨_, rfl, ?_⟩; have B2 := Aside0.mk (blk_drewN B1.out nd); have L2 := Aside0.mk (pw_below_drewN L1.out nd); clear B1 L1; have B1 := B2; have L1 := L2; clear B2 L2; generalize World.drewN _ nd = w3 at B1 L1 ⊢)
          | (refine fl_call 31 _ _ rfl rfl rfl (by decide) #[.int .i64 a0_0] rfl (fun _ => by kernel_rfl) _ (impl_hasCond.calls a0_0 _ _ H2.out) ?_; rintro e w2 ⟨rfl, ⟨nd, rfl⟩⟩; refine ⟨_, rfl, ?_⟩; have B2 := Aside0.mk (blk_drewN B1.out nd); have L2 := Aside0.mk (pw_below_drewN L1.out nd); clear B1 L1; have B1 := B2; have L1 := L2; clear B2 L2; generalize World.drewN _ nd = w3 at B1 L1 ⊢)
          | (refine fl_call 38 _ _ rfl rfl rfl (by decide) #[.int .i64 a0_0] rfl (fun _ => by kernel_rfl) _ (impl_isShift.calls a0_0 _ _ H2.out) ?_; rintro e w2 ⟨rfl, ⟨nd, rfl⟩⟩; refine ⟨_, rfl, ?_⟩; have B2 := Aside0.mk (blk_drewN B1.out nd); have L2 := Aside0.mk (pw_below_drewN L1.out nd); clear B1 L1; have B1 := B2; have L1 := L2; clear B2 L2; generalize World.drewN _ nd = w3 at B1 L1 ⊢)
          | (refine fl_call 34 _ _ rfl rfl rfl (by decide) #[.agg #[.int .i64 a0_0, .int .i64 a0_1, .int .i64 a0_2, .int .i64 a0_3, .int .i64 a0_4, .int .i64 a0_5, .int .i64 a0_6, .int .i64 a0_7, .int .i64 a0_8, .int .i64 a0_9, .int .i64 a0_10, .int .i64 a0_11, .int .i64 a0_12, .int .i64 a0_13, .int .i64 a0_14, .int .i64 a0_15, .int .i64 a0_16, .int .i64 a0_17, .int .i64 a0_18]] rfl (fun _ => by kernel_rfl) _ (impl_isFrom.calls a0_0 a0_1 a0_2 a0_3 a0_4 a0_5 a0_6 a0_7 a0_8 a0_9 a0_10 a0_11 a0_12 a0_13 a0_14 a0_15 a0_16 a0_17 a0_18 _ _ H2.out) ?_; rintro e w2 ⟨rfl, hb⟩; refine ⟨_, rfl, ?_⟩; have B2 := Aside0.mk (blk_below B1.out hb); have L2 := Aside0.mk (below_step L1.out hb); clear B1 L1 hb; have B1 := B2; have L1 := L2; clear B2 L2)
          | (refine fl_call 37 _ _ rfl rfl rfl (by decide) #[.agg #[.int .i64 a0_0, .int .i64 a0_1, .int .i64 a0_2, .int .i64 a0_3, .int .i64 a0_4, .int .i64 a0_5, .int .i64 a0_6, .int .i64 a0_7, .int .i64 a0_8, .int .i64 a0_9, .int .i64 a0_10, .int .i64 a0_11, .int .i64 a0_12, .int .i64 a0_13, .int .i64 a0_14, .int .i64 a0_15, .int .i64 a0_16, .int .i64 a0_17, .int .i64 a0_18]] rfl (fun _ => by kernel_rfl) _ (impl_isNumber.calls _ a0_0 a0_1 a0_2 a0_3 a0_4 a0_5 a0_6 a0_7 a0_8 a0_9 a0_10 a0_11 a0_12 a0_13 a0_14 a0_15 a0_16 a0_17 a0_18 _ _ H2.out) ?_; rintro e w2 ⟨rfl, hb⟩; refine ⟨_, rfl, ?_⟩; have B2 := Aside0.mk (blk_below B1.out hb); have L2 := Aside0.mk (below_step L1.out hb); clear B1 L1 hb; have B1 := B2; have L1 := L2; clear B2 L2)
          | (refine fl_call 40 _ _ rfl rfl rfl (by decide) #[.agg #[.int .i64 a0_0, .int .i64 a0_1, .int .i64 a0_2, .int .i64 a0_3, .int .i64 a0_4, .int .i64 a0_5, .int .i64 a0_6, .int .i64 a0_7, .int .i64 a0_8, .int .i64 a0_9, .int .i64 a0_10, .int .i64 a0_11, .int .i64 a0_12, .int .i64 a0_13, .int .i64 a0_14, .int .i64 a0_15, .int .i64 a0_16, .int .i64 a0_17, .int .i64 a0_18]] rfl (fun _ => by kernel_rfl) _ (impl_needsRex.calls _ a0_0 a0_1 a0_2 a0_3 a0_4 a0_5 a0_6 a0_7 a0_8 a0_9 a0_10 a0_11 a0_12 a0_13 a0_14 a0_15 a0_16 a0_17 a0_18 _ _ H2.out) ?_; rintro e w2 ⟨rfl, hb⟩; refine ⟨_, rfl, ?_⟩; have B2 := Aside0.mk (blk_below B1.out hb); have L2 := Aside0.mk (below_step L1.out hb); clear B1 L1 hb; have B1 := B2; have L1 := L2; clear B2 L2)
          | (refine fl_call 35 _ _ rfl rfl rfl (by decide) #[.string _, .string _] rfl (fun _ => by kernel_rfl) _ (strings_Contains.calls _ _ _ w _ HM.out L1.out H2.out) ?_; rintro e w2 ⟨rfl, ⟨nd, rfl⟩⟩; refine ⟨_, rfl, ?_⟩; have B2 := Aside0.mk (blk_drewN B1.out nd); have L2 := Aside0.mk (pw_below_drewN L1.out nd); clear B1 L1; have B1 := B2; have L1 := L2; clear B2 L2; generalize World.drewN _ nd = w3 at B1 L1 ⊢)
          | (refine fl_call 39 _ _ rfl rfl rfl (by decide) #[.agg #[.int .i64 a0_4, .int .i64 a0_5, .int .i64 a0_6, .int .i64 a0_7, .int .i64 a0_8, .int .i64 a0_9, .int .i64 a0_10]] rfl (fun _ => by kernel_rfl) _ (impl_hasHigh.calls a0_4 a0_5 a0_6 a0_7 a0_8 a0_9 a0_10 _ _ H2.out) ?_; rintro e w2 ⟨rfl, hb⟩; refine ⟨_, rfl, ?_⟩; have B2 := Aside0.mk (blk_below B1.out hb); have L2 := Aside0.mk (below_step L1.out hb); clear B1 L1 hb; have B1 := B2; have L1 := L2; clear B2 L2)
          | (refine fl_call 39 _ _ rfl rfl rfl (by decide) #[.agg #[.int .i64 a0_11, .int .i64 a0_12, .int .i64 a0_13, .int .i64 a0_14, .int .i64 a0_15, .int .i64 a0_16, .int .i64 a0_17]] rfl (fun _ => by kernel_rfl) _ (impl_hasHigh.calls a0_11 a0_12 a0_13 a0_14 a0_15 a0_16 a0_17 _ _ H2.out) ?_; rintro e w2 ⟨rfl, hb⟩; refine ⟨_, rfl, ?_⟩; have B2 := Aside0.mk (blk_below B1.out hb); have L2 := Aside0.mk (below_step L1.out hb); clear B1 L1 hb; have B1 := B2; have L1 := L2; clear B2 L2)
          | (refine fl_call 32 _ _ rfl rfl rfl (by decide) #[.int .i64 a0_0] rfl (fun _ => by kernel_rfl) _ (impl_formsOf.calls _ a0_0 _ _ _ H2.out) ?_; rintro e w2 ⟨v0, rfl, ho, hb⟩; refine ⟨_, rfl, ?_⟩; have B2 := Aside0.mk (blk_below B1.out hb); have L2 := Aside0.mk (below_step L1.out hb); clear B1 L1 hb; have B1 := B2; have L1 := L2; clear B2 L2; have HO := Aside0.mk ho; clear ho; obtain ⟨Ao, co, eo⟩ := Kd.R_slice HO.out; subst eo)
          | ((with_reducible have H3 := (if_pos (rfl : true = true)).symm.trans H); clear H; have H := H3; clear H3)
          | ((with_reducible have H3 := (if_neg Bool.false_ne_true).symm.trans H); clear H; have H := H3; clear H3)
          | ((with_reducible have H3 := (if_pos (by assumption)).symm.trans H); clear H; have H := H3; clear H3)
          | ((with_reducible have H3 := bind_two H); clear H; obtain ⟨t, u, h2, H⟩ := H3; have H2 := Aside0.mk h2; clear h2; (try dsimp only at H))
          | ((with_reducible have H3 := bind_one ByteArray H); clear H; obtain ⟨t, h2, H⟩ := H3; have H2 := Aside0.mk h2; clear h2; (try dsimp only at H))
          | ((with_reducible have H3 := bind_one Int H); clear H; obtain ⟨t, h2, H⟩ := H3; have H2 := Aside0.mk h2; clear h2; (try dsimp only at H))
          | ((with_reducible have H3 := bind_one Bool H); clear H; obtain ⟨t, h2, H⟩ := H3; have H2 := Aside0.mk h2; clear h2; (try dsimp only at H); cases t)
          | ((with_reducible have H3 := ite_none H); clear H; obtain ⟨hz, H⟩ := H3; have HZ := Aside0.mk hz; clear hz)
          | ((with_reducible have H3 := ite_split_e H); clear H; rcases H3 with ⟨ht, ht2, H⟩ | ⟨ht, ht2, H⟩)
          | (first | ((with_reducible have H3 := impl_InstrOK.j0_s H); clear H; rcases H3 with ⟨ht, H⟩ | ⟨ht, k1, H⟩ <;> (try simp only [Bool.not_true, Bool.not_false, Bool.false_eq_true, reduceCtorEq] at ht)) | ((with_reducible have H3 := impl_InstrOK.j2_s H); clear H; rcases H3 with ⟨ht, H⟩ | ⟨ht, k1, H⟩ <;> (try simp only [Bool.not_true, Bool.not_false, Bool.false_eq_true, reduceCtorEq] at ht)) | ((with_reducible have H3 := impl_InstrOK.j3_s H); clear H; rcases H3 with ⟨ht, H⟩ | ⟨ht, k1, H⟩ <;> (try simp only [Bool.not_true, Bool.not_false, Bool.false_eq_true, reduceCtorEq] at ht)) | ((with_reducible have H3 := impl_InstrOK.j4_s H); clear H; rcases H3 with ⟨ht, H⟩ | ⟨ht, k1, H⟩ <;> (try simp only [Bool.not_true, Bool.not_false, Bool.false_eq_true, reduceCtorEq] at ht)) | ((with_reducible have H3 := impl_InstrOK.j5_s H); clear H; rcases H3 with ⟨ht, H⟩ | ⟨ht, k1, H⟩ <;> (try simp only [Bool.not_true, Bool.not_false, Bool.false_eq_true, reduceCtorEq] at ht))))
        | ((with_reducible refine qf_gate ?_); first
          | (refine qf_skip rfl rfl (by decide) ?_)
          | (refine qf_move _ (Or.inl rfl) rfl rfl (by decide) _ rfl ?_)
          | (refine qf_move _ (Or.inr rfl) rfl rfl (by decide) _ rfl ?_)
          | (refine qf_pick _ _ _ rfl rfl rfl (by decide) _ rfl _ rfl ?_)
          | (refine qf_addr (v := ?_) _ _ _ rfl rfl rfl (by decide) (.pointer (some ⟨g1, _, none⟩)) rfl ?_ ?_; rotate_left; (focus (with_reducible first | exact F0.out | exact F1.out | exact F2.out | exact F3.out | exact F4.out | exact F5.out | exact F6.out | exact F7.out | exact F8.out)))
          | (refine qf_int 3 _ rfl rfl rfl (by decide) g1 _ rfl 29 _ (0, 0) HAG.out HCB.out _ rfl ?_)
          | (refine qf_row 29 _ rfl rfl rfl (by decide) g1 rfl 29 _ (0, 0) _ HCB.out hu29 rfl (by kernel_rfl) ?_)
          | (refine qf_mid 27 _ rfl rfl rfl (by decide) g1 4 rfl 29 _ (0, 0) _ ([.int .i64 a0_4, .int .i64 a0_5, .int .i64 a0_6, .int .i64 a0_7, .int .i64 a0_8, .int .i64 a0_9, .int .i64 a0_10]) HCB.out rfl hu27 rfl (by kernel_rfl) ?_)
          | (refine qf_mid 27 _ rfl rfl rfl (by decide) g1 11 rfl 29 _ (0, 0) _ ([.int .i64 a0_11, .int .i64 a0_12, .int .i64 a0_13, .int .i64 a0_14, .int .i64 a0_15, .int .i64 a0_16, .int .i64 a0_17]) HCB.out rfl hu27 rfl (by kernel_rfl) ?_)
          | (refine qf_bin (v := .string _) _ _ _ _ _ rfl rfl rfl (by decide) (.string _) (.string _) rfl rfl (fun w' => run_cat _ _ HZ.out _ _ w') ?_)
          | (refine qf_bin (v := ?_) _ _ _ _ _ rfl rfl rfl (by decide) (.int .i64 _) (.int .i64 _) rfl rfl ?_ ?_; rotate_left; (focus (intro w'; go_simp; with_reducible first | exact (rfl : Value.bool true = _) | exact (rfl : Value.bool false = _) | exact (rfl : Result.ok (Value.bool true) w' = _) | exact (rfl : Result.ok (Value.bool false) w' = _))))
          | (refine qf_not _ _ rfl rfl rfl (by decide) _ rfl ?_)
          | (refine qf_max (v := .int .i64 (mx 1 a0_1)) _ _ _ rfl rfl rfl (by decide) (.int .i64 1) (.int .i64 a0_1) rfl rfl (fun w' => by go_simp; first | done | rfl | (unfold mx; rfl)) ?_)
          | (refine qf_call 33 _ _ rfl rfl rfl (by decide) #[.agg #[.int .i64 a0_4, .int .i64 a0_5, .int .i64 a0_6, .int .i64 a0_7, .int .i64 a0_8, .int .i64 a0_9, .int .i64 a0_10]] rfl (fun _ => by kernel_rfl) (.string _) (fun W hW => (impl_Operand_letter.calls a0_4 a0_5 a0_6 a0_7 a0_8 a0_9 a0_10 _ W H2.out).mono fun _ _ ⟨he, hb⟩ => ⟨he, HCL.out _ _ hW hb⟩) ?_)
          | (refine qf_call 33 _ _ rfl rfl rfl (by decide) #[.agg #[.int .i64 a0_11, .int .i64 a0_12, .int .i64 a0_13, .int .i64 a0_14, .int .i64 a0_15, .int .i64 a0_16, .int .i64 a0_17]] rfl (fun _ => by kernel_rfl) (.string _) (fun W hW => (impl_Operand_letter.calls a0_11 a0_12 a0_13 a0_14 a0_15 a0_16 a0_17 _ W H2.out).mono fun _ _ ⟨he, hb⟩ => ⟨he, HCL.out _ _ hW hb⟩) ?_)
          | (refine qf_call 14 _ _ rfl rfl rfl (by decide) #[.agg #[.int .i64 a0_4, .int .i64 a0_5, .int .i64 a0_6, .int .i64 a0_7, .int .i64 a0_8, .int .i64 a0_9, .int .i64 a0_10], .int .i64 _] rfl (fun _ => by kernel_rfl) (.bool _) (fun W hW => (impl_OperandOK.calls a0_4 a0_5 a0_6 a0_7 a0_8 a0_9 a0_10 _ _ W H2.out).mono fun _ _ ⟨he, hb⟩ => ⟨he, HCL.out _ _ hW hb⟩) ?_)
          | (refine qf_call 14 _ _ rfl rfl rfl (by decide) #[.agg #[.int .i64 a0_11, .int .i64 a0_12, .int .i64 a0_13, .int .i64 a0_14, .int .i64 a0_15, .int .i64 a0_16, .int .i64 a0_17], .int .i64 _] rfl (fun _ => by kernel_rfl) (.bool _) (fun W hW => (impl_OperandOK.calls a0_11 a0_12 a0_13 a0_14 a0_15 a0_16 a0_17 _ _ W H2.out).mono fun _ _ ⟨he, hb⟩ => ⟨he, HCL.out _ _ hW hb⟩) ?_)
          | (refine qf_call 36 _ _ rfl rfl rfl (by decide) #[.agg #[.int .i64 a0_0, .int .i64 a0_1, .int .i64 a0_2, .int .i64 a0_3, .int .i64 a0_4, .int .i64 a0_5, .int .i64 a0_6, .int .i64 a0_7, .int .i64 a0_8, .int .i64 a0_9, .int .i64 a0_10, .int .i64 a0_11, .int .i64 a0_12, .int .i64 a0_13, .int .i64 a0_14, .int .i64 a0_15, .int .i64 a0_16, .int .i64 a0_17, .int .i64 a0_18]] rfl (fun _ => by kernel_rfl) (.int .i64 _) (fun W hW => (impl_srcSize.calls a0_0 a0_1 a0_2 a0_3 a0_4 a0_5 a0_6 a0_7 a0_8 a0_9 a0_10 a0_11 a0_12 a0_13 a0_14 a0_15 a0_16 a0_17 a0_18 _ W H2.out).mono fun _ _ ⟨he, hb⟩ => ⟨he, HCL.out _ _ hW hb⟩) ?_)
          | ((with_reducible have H3 := (if_pos (rfl : true = true)).symm.trans H); clear H; have H := H3; clear H3)
          | ((with_reducible have H3 := (if_neg Bool.false_ne_true).symm.trans H); clear H; have H := H3; clear H3)
          | ((with_reducible have H3 := (if_pos (by assumption)).symm.trans H); clear H; have H := H3; clear H3)
          | ((with_reducible have H3 := bind_two H); clear H; obtain ⟨t, u, h2, H⟩ := H3; have H2 := Aside0.mk h2; clear h2; (try dsimp only at H))
          | ((with_reducible have H3 := bind_one ByteArray H); clear H; obtain ⟨t, h2, H⟩ := H3; have H2 := Aside0.mk h2; clear h2; (try dsimp only at H))
          | ((with_reducible have H3 := bind_one Int H); clear H; obtain ⟨t, h2, H⟩ := H3; have H2 := Aside0.mk h2; clear h2; (try dsimp only at H))
          | ((with_reducible have H3 := bind_one Bool H); clear H; obtain ⟨t, h2, H⟩ := H3; have H2 := Aside0.mk h2; clear h2; (try dsimp only at H); cases t)
          | ((with_reducible have H3 := ite_none H); clear H; obtain ⟨hz, H⟩ := H3; have HZ := Aside0.mk hz; clear hz)
          | ((with_reducible have H3 := ite_split_e H); clear H; rcases H3 with ⟨ht, ht2, H⟩ | ⟨ht, ht2, H⟩)
          | (first | ((with_reducible have H3 := impl_InstrOK.j0_s H); clear H; rcases H3 with ⟨ht, H⟩ | ⟨ht, k1, H⟩ <;> (try simp only [Bool.not_true, Bool.not_false, Bool.false_eq_true, reduceCtorEq] at ht)) | ((with_reducible have H3 := impl_InstrOK.j2_s H); clear H; rcases H3 with ⟨ht, H⟩ | ⟨ht, k1, H⟩ <;> (try simp only [Bool.not_true, Bool.not_false, Bool.false_eq_true, reduceCtorEq] at ht)) | ((with_reducible have H3 := impl_InstrOK.j3_s H); clear H; rcases H3 with ⟨ht, H⟩ | ⟨ht, k1, H⟩ <;> (try simp only [Bool.not_true, Bool.not_false, Bool.false_eq_true, reduceCtorEq] at ht)) | ((with_reducible have H3 := impl_InstrOK.j4_s H); clear H; rcases H3 with ⟨ht, H⟩ | ⟨ht, k1, H⟩ <;> (try simp only [Bool.not_true, Bool.not_false, Bool.false_eq_true, reduceCtorEq] at ht)) | ((with_reducible have H3 := impl_InstrOK.j5_s H); clear H; rcases H3 with ⟨ht, H⟩ | ⟨ht, k1, H⟩ <;> (try simp only [Bool.not_true, Bool.not_false, Bool.false_eq_true, reduceCtorEq] at ht)))))
  | true =>
    repeat' (first
        | (with_reducible refine ql_then ?_)
        | (with_reducible refine ql_block ?_)
        | (with_reducible refine ql_then_ret ?_)
        | (with_reducible refine ql_block_ret ?_)
        | ((with_reducible refine cl_seq_block2 (fun K hK => ?_)); have J : Aside0 (∀ w1, w1.heap[g1]? = some (.cells #[.int .i64 a0_0, .int .i64 a0_1, .int .i64 a0_2, .int .i64 a0_3, .int .i64 a0_4, .int .i64 a0_5, .int .i64 a0_6, .int .i64 a0_7, .int .i64 a0_8, .int .i64 a0_9, .int .i64 a0_10, .int .i64 a0_11, .int .i64 a0_12, .int .i64 a0_13, .int .i64 a0_14, .int .i64 a0_15, .int .i64 a0_16, .int .i64 a0_17, .int .i64 a0_18] 29 (0, 0)) → Below w.heap.size w w1 → (∃ k1, ((impl_hasHigh.f a0_4 a0_5 a0_6 a0_7 a0_8 a0_9 a0_10).bind fun t382 => (if t382 = true then ((impl_needsRex.f k1 a0_0 a0_1 a0_2 a0_3 a0_4 a0_5 a0_6 a0_7 a0_8 a0_9 a0_10 a0_11 a0_12 a0_13 a0_14 a0_15 a0_16 a0_17 a0_18).bind fun t383 => (some (!t383))) else ((impl_hasHigh.f a0_11 a0_12 a0_13 a0_14 a0_15 a0_16 a0_17).bind fun t384 => (if t384 = true then ((impl_needsRex.f k1 a0_0 a0_1 a0_2 a0_3 a0_4 a0_5 a0_6 a0_7 a0_8 a0_9 a0_10 a0_11 a0_12 a0_13 a0_14 a0_15 a0_16 a0_17 a0_18).bind fun t385 => (some (!t385))) else (some true))))) = some r) → KL K 135 [(2, .bool false), (1, .pointer (some ⟨g1, 0, none⟩))] w1) := ⟨fun w1 b1 l1 H => hK _ _ _ (impl_InstrOK.pD w w1 r g1 a0_0 a0_1 a0_2 a0_3 a0_4 a0_5 a0_6 a0_7 a0_8 a0_9 a0_10 a0_11 a0_12 a0_13 a0_14 a0_15 a0_16 a0_17 a0_18 HM.out b1 l1 H)⟩; clear hK)
        | (with_reducible refine cl_seq (fun K hK => ?_))
        | ((with_reducible refine kl_gate ?_); refine kl_pick [1, 2] ?_; simp only [keep, List.filter_cons, List.filter_nil, List.contains_cons, List.contains_nil, Nat.reduceBEq, Bool.or_false, Bool.or_true, Bool.true_or, Bool.false_or, Bool.or_self, if_true, Bool.false_eq_true, if_false]; first | (exact J.out _ B1.out L1.out (impl_InstrOK.j5_f H)) | (exact J.out _ B1.out L1.out ⟨_, H⟩))
        | ((with_reducible refine hK _ _ _ ?_); clear hK K; refine cl_keep [1, 2, 3, 4, 5, 7, 8, 35, 42, 43, 44, 45, 79, 94, 95, 105] ?_; simp only [keep, List.filter_cons, List.filter_nil, List.contains_cons, List.contains_nil, Nat.reduceBEq, Bool.or_false, Bool.or_true, Bool.true_or, Bool.false_or, Bool.or_self, if_true, Bool.false_eq_true, if_false])
        | (with_reducible refine cl_region ?_)
        | ((with_reducible refine cl_drawn_gate ?_); obtain ⟨C, hC⟩ : ∃ C : World → Prop, C = fun W => W.heap[g1]? = some (.cells #[.int .i64 a0_0, .int .i64 a0_1, .int .i64 a0_2, .int .i64 a0_3, .int .i64 a0_4, .int .i64 a0_5, .int .i64 a0_6, .int .i64 a0_7, .int .i64 a0_8, .int .i64 a0_9, .int .i64 a0_10, .int .i64 a0_11, .int .i64 a0_12, .int .i64 a0_13, .int .i64 a0_14, .int .i64 a0_15, .int .i64 a0_16, .int .i64 a0_17, .int .i64 a0_18] 29 (0, 0)) ∧ Below w.heap.size w W := ⟨_, rfl⟩; have HCL : Aside0 (∀ W W', C W → Below W.heap.size W W' → C W') := ⟨by rw [hC]; rintro W W' ⟨h1, h3⟩ hb; exact ⟨blk_below h1 hb, below_step h3 hb⟩⟩; have HCB : Aside0 (∀ W, C W → W.heap[g1]? = some (.cells #[.int .i64 a0_0, .int .i64 a0_1, .int .i64 a0_2, .int .i64 a0_3, .int .i64 a0_4, .int .i64 a0_5, .int .i64 a0_6, .int .i64 a0_7, .int .i64 a0_8, .int .i64 a0_9, .int .i64 a0_10, .int .i64 a0_11, .int .i64 a0_12, .int .i64 a0_13, .int .i64 a0_14, .int .i64 a0_15, .int .i64 a0_16, .int .i64 a0_17, .int .i64 a0_18] 29 (0, 0))) := ⟨by rw [hC]; exact fun W h => h.1⟩; have HCE : Aside0 (∀ W, C W → Below w.heap.size w W) := ⟨by rw [hC]; exact fun W h => h.2⟩; refine cl_drawn C (by kernel_rfl) (by kernel_rfl) (by rw [hC]; exact ⟨blk_drew B1.out, below_drew1 L1.out⟩) ?_; clear hC B1 L1)
        | (with_reducible refine cl_block ?_)
        | (with_reducible refine cl_skip ?_)
        | (with_reducible refine cl_ret ?_)
        | (with_reducible refine fl_nil ?_)
        | ((with_reducible refine qf_end ?_); intro w3 hw3; have B1 := Aside0.mk (HCB.out _ hw3); have L1 := Aside0.mk (HCE.out _ hw3); clear hw3 HCL HCB HCE; clear C)
        | ((with_reducible refine ql_gate ?_); first
          | ((with_reducible have hr := Option.some.inj H); refine ql_post rfl rfl ?_; exact ⟨congrArg (fun b => Ending.returned (Value.bool b)) hr, L1.out⟩)
          | ((with_reducible have H3 := (if_pos (rfl : true = true)).symm.trans H); clear H; have H := H3; clear H3)
          | ((with_reducible have H3 := (if_neg Bool.false_ne_true).symm.trans H); clear H; have H := H3; clear H3)
          | ((with_reducible have H3 := (if_pos (by assumption)).symm.trans H); clear H; have H := H3; clear H3)
          | ((with_reducible have H3 := bind_two H); clear H; obtain ⟨t, u, h2, H⟩ := H3; have H2 := Aside0.mk h2; clear h2; (try dsimp only at H))
          | ((with_reducible have H3 := bind_one ByteArray H); clear H; obtain ⟨t, h2, H⟩ := H3; have H2 := Aside0.mk h2; clear h2; (try dsimp only at H))
          | ((with_reducible have H3 := bind_one Int H); clear H; obtain ⟨t, h2, H⟩ := H3; have H2 := Aside0.mk h2; clear h2; (try dsimp only at H))
          | ((with_reducible have H3 := bind_one Bool H); clear H; obtain ⟨t, h2, H⟩ := H3; have H2 := Aside0.mk h2; clear h2; (try dsimp only at H); cases t)
          | ((with_reducible have H3 := ite_none H); clear H; obtain ⟨hz, H⟩ := H3; have HZ := Aside0.mk hz; clear hz)
          | ((with_reducible have H3 := ite_split_e H); clear H; rcases H3 with ⟨ht, ht2, H⟩ | ⟨ht, ht2, H⟩)
          | (first | ((with_reducible have H3 := impl_InstrOK.j0_s H); clear H; rcases H3 with ⟨ht, H⟩ | ⟨ht, k1, H⟩ <;> (try simp only [Bool.not_true, Bool.not_false, Bool.false_eq_true, reduceCtorEq] at ht)) | ((with_reducible have H3 := impl_InstrOK.j2_s H); clear H; rcases H3 with ⟨ht, H⟩ | ⟨ht, k1, H⟩ <;> (try simp only [Bool.not_true, Bool.not_false, Bool.false_eq_true, reduceCtorEq] at ht)) | ((with_reducible have H3 := impl_InstrOK.j3_s H); clear H; rcases H3 with ⟨ht, H⟩ | ⟨ht, k1, H⟩ <;> (try simp only [Bool.not_true, Bool.not_false, Bool.false_eq_true, reduceCtorEq] at ht)) | ((with_reducible have H3 := impl_InstrOK.j4_s H); clear H; rcases H3 with ⟨ht, H⟩ | ⟨ht, k1, H⟩ <;> (try simp only [Bool.not_true, Bool.not_false, Bool.false_eq_true, reduceCtorEq] at ht)) | ((with_reducible have H3 := impl_InstrOK.j5_s H); clear H; rcases H3 with ⟨ht, H⟩ | ⟨ht, k1, H⟩ <;> (try simp only [Bool.not_true, Bool.not_false, Bool.false_eq_true, reduceCtorEq] at ht))))
        | ((with_reducible refine cl_gate ?_); first
          | (refine cl_true rfl ?_)
          | (refine cl_false rfl ?_)
          | ((with_reducible have H3 := (if_pos (rfl : true = true)).symm.trans H); clear H; have H := H3; clear H3)
          | ((with_reducible have H3 := (if_neg Bool.false_ne_true).symm.trans H); clear H; have H := H3; clear H3)
          | ((with_reducible have H3 := (if_pos (by assumption)).symm.trans H); clear H; have H := H3; clear H3)
          | ((with_reducible have H3 := bind_two H); clear H; obtain ⟨t, u, h2, H⟩ := H3; have H2 := Aside0.mk h2; clear h2; (try dsimp only at H))
          | ((with_reducible have H3 := bind_one ByteArray H); clear H; obtain ⟨t, h2, H⟩ := H3; have H2 := Aside0.mk h2; clear h2; (try dsimp only at H))
          | ((with_reducible have H3 := bind_one Int H); clear H; obtain ⟨t, h2, H⟩ := H3; have H2 := Aside0.mk h2; clear h2; (try dsimp only at H))
          | ((with_reducible have H3 := bind_one Bool H); clear H; obtain ⟨t, h2, H⟩ := H3; have H2 := Aside0.mk h2; clear h2; (try dsimp only at H); cases t)
          | ((with_reducible have H3 := ite_none H); clear H; obtain ⟨hz, H⟩ := H3; have HZ := Aside0.mk hz; clear hz)
          | ((with_reducible have H3 := ite_split_e H); clear H; rcases H3 with ⟨ht, ht2, H⟩ | ⟨ht, ht2, H⟩)
          | (first | ((with_reducible have H3 := impl_InstrOK.j0_s H); clear H; rcases H3 with ⟨ht, H⟩ | ⟨ht, k1, H⟩ <;> (try simp only [Bool.not_true, Bool.not_false, Bool.false_eq_true, reduceCtorEq] at ht)) | ((with_reducible have H3 := impl_InstrOK.j2_s H); clear H; rcases H3 with ⟨ht, H⟩ | ⟨ht, k1, H⟩ <;> (try simp only [Bool.not_true, Bool.not_false, Bool.false_eq_true, reduceCtorEq] at ht)) | ((with_reducible have H3 := impl_InstrOK.j3_s H); clear H; rcases H3 with ⟨ht, H⟩ | ⟨ht, k1, H⟩ <;> (try simp only [Bool.not_true, Bool.not_false, Bool.false_eq_true, reduceCtorEq] at ht)) | ((with_reducible have H3 := impl_InstrOK.j4_s H); clear H; rcases H3 with ⟨ht, H⟩ | ⟨ht, k1, H⟩ <;> (try simp only [Bool.not_true, Bool.not_false, Bool.false_eq_true, reduceCtorEq] at ht)) | ((with_reducible have H3 := impl_InstrOK.j5_s H); clear H; rcases H3 with ⟨ht, H⟩ | ⟨ht, k1, H⟩ <;> (try simp only [Bool.not_true, Bool.not_false, Bool.false_eq_true, reduceCtorEq] at ht))))
        | ((with_reducible refine fl_gate ?_); first
          | (refine fl_skip rfl rfl (by decide) ?_)
          | (refine fl_move _ (Or.inl rfl) rfl rfl (by decide) _ rfl ?_)
          | (refine fl_move _ (Or.inr rfl) rfl rfl (by decide) _ rfl ?_)
          | (refine fl_pick _ _ _ rfl rfl rfl (by decide) _ rfl _ rfl ?_)
          | (refine fl_addr (v := ?_) _ _ _ rfl rfl rfl (by decide) (.pointer (some ⟨g1, _, none⟩)) rfl ?_ ?_; rotate_left; (focus (with_reducible first | exact F0.out | exact F1.out | exact F2.out | exact F3.out | exact F4.out | exact F5.out | exact F6.out | exact F7.out | exact F8.out)))
          | (refine fl_int 3 _ rfl rfl rfl (by decide) g1 _ rfl 29 _ (0, 0) HAG.out B1.out _ rfl ?_)
          | (refine fl_row 29 _ rfl rfl rfl (by decide) g1 rfl 29 _ (0, 0) _ B1.out hu29 rfl (by kernel_rfl) ?_)
          | (refine fl_mid 27 _ rfl rfl rfl (by decide) g1 4 rfl 29 _ (0, 0) _ ([.int .i64 a0_4, .int .i64 a0_5, .int .i64 a0_6, .int .i64 a0_7, .int .i64 a0_8, .int .i64 a0_9, .int .i64 a0_10]) B1.out rfl hu27 rfl (by kernel_rfl) ?_)
          | (refine fl_mid 27 _ rfl rfl rfl (by decide) g1 11 rfl 29 _ (0, 0) _ ([.int .i64 a0_11, .int .i64 a0_12, .int .i64 a0_13, .int .i64 a0_14, .int .i64 a0_15, .int .i64 a0_16, .int .i64 a0_17]) B1.out rfl hu27 rfl (by kernel_rfl) ?_)
          | (refine fl_bin (v := .string _) _ _ _ _ _ rfl rfl rfl (by decide) (.string (⟨#[32]⟩ : ByteArray)) (.string (_ ++ _)) rfl rfl (fun w' => run_cat3 _ _ HZ.out _ _ w') ?_)
          | (refine fl_bin (v := .string _) _ _ _ _ _ rfl rfl rfl (by decide) (.string (⟨#[32]⟩ : ByteArray)) (.string _) rfl rfl (fun w' => run_cat1 _ HZ.out _ _ w') ?_)
          | (refine fl_bin (v := .string _) _ _ _ _ _ rfl rfl rfl (by decide) (.string _) (.string (⟨#[32]⟩ : ByteArray)) rfl rfl (fun w' => run_cat2 _ HZ.out _ _ w') ?_)
          | (refine fl_bin (v := ?_) _ _ _ _ _ rfl rfl rfl (by decide) (.int .i64 _) (.int .i64 _) rfl rfl ?_ ?_; rotate_left; (focus (intro w'; go_simp; with_reducible first | exact (rfl : Value.bool true = _) | exact (rfl : Value.bool false = _) | exact (rfl : Result.ok (Value.bool true) w' = _) | exact (rfl : Result.ok (Value.bool false) w' = _))))
          | (refine fl_not _ _ rfl rfl rfl (by decide) _ rfl ?_)
          | (refine fl_max (v := .int .i64 (mx 1 a0_1)) _ _ _ rfl rfl rfl (by decide) (.int .i64 1) (.int .i64 a0_1) rfl rfl (fun w' => by go_simp; first | done | rfl | (unfold mx; rfl)) ?_)
          | (refine fl_ext0 _ rfl rfl rfl (by decide) _ _ rfl ?_)
          | (refine fl_ext1 _ rfl rfl rfl (by decide) _ _ rfl ?_)
          | (refine fl_call 29 _ _ rfl rfl rfl (by decide) #[.int .i64 a0_0] rfl (fun _ => by kernel_rfl) _ (impl_isOp.calls a0_0 _ _ H2.out) ?_; rintro e w2 ⟨rfl, ⟨nd, rfl⟩⟩; refine ⟨_, rfl, ?_⟩; have B2 := Aside0.mk (blk_drewN B1.out nd); have L2 := Aside0.mk (pw_below_drewN L1.out nd); clear B1 L1; have B1 := B2; have L1 := L2; clear B2 L2; generalize World.drewN _ nd = w3 at B1 L1 ⊢)
          | (refine fl_call 30 _ _ rfl rfl rfl (by decide) #[.int .i64 _, .int .i64 _, .int .i64 _] rfl (fun _ => by kernel_rfl) _ (impl_in30 _ _ _ _ _ H2.out) ?_; rintro e w2 ⟨rfl, ⟨nd, rfl⟩⟩; refine ⟨_, rfl, ?_⟩; have B2 := Aside0.mk (blk_drewN B1.out nd); have L2 := Aside0.mk (pw_below_drewN L1.out nd); clear B1 L1; have B1 := B2; have L1 := L2; clear B2 L2; generalize World.drewN _ nd = w3 at B1 L1 ⊢)
          | (refine fl_call 31 _ _ rfl rfl rfl (by decide) #[.int .i64 a0_0] rfl (fun _ => by kernel_rfl) _ (impl_hasCond.calls a0_0 _ _ H2.out) ?_; rintro e w2 ⟨rfl, ⟨nd, rfl⟩⟩; refine ⟨_, rfl, ?_⟩; have B2 := Aside0.mk (blk_drewN B1.out nd); have L2 := Aside0.mk (pw_below_drewN L1.out nd); clear B1 L1; have B1 := B2; have L1 := L2; clear B2 L2; generalize World.drewN _ nd = w3 at B1 L1 ⊢)
          | (refine fl_call 38 _ _ rfl rfl rfl (by decide) #[.int .i64 a0_0] rfl (fun _ => by kernel_rfl) _ (impl_isShift.calls a0_0 _ _ H2.out) ?_; rintro e w2 ⟨rfl, ⟨nd, rfl⟩⟩; refine ⟨_, rfl, ?_⟩; have B2 := Aside0.mk (blk_drewN B1.out nd); have L2 := Aside0.mk (pw_below_drewN L1.out nd); clear B1 L1; have B1 := B2; have L1 := L2; clear B2 L2; generalize World.drewN _ nd = w3 at B1 L1 ⊢)
          | (refine fl_call 34 _ _ rfl rfl rfl (by decide) #[.agg #[.int .i64 a0_0, .int .i64 a0_1, .int .i64 a0_2, .int .i64 a0_3, .int .i64 a0_4, .int .i64 a0_5, .int .i64 a0_6, .int .i64 a0_7, .int .i64 a0_8, .int .i64 a0_9, .int .i64 a0_10, .int .i64 a0_11, .int .i64 a0_12, .int .i64 a0_13, .int .i64 a0_14, .int .i64 a0_15, .int .i64 a0_16, .int .i64 a0_17, .int .i64 a0_18]] rfl (fun _ => by kernel_rfl) _ (impl_isFrom.calls a0_0 a0_1 a0_2 a0_3 a0_4 a0_5 a0_6 a0_7 a0_8 a0_9 a0_10 a0_11 a0_12 a0_13 a0_14 a0_15 a0_16 a0_17 a0_18 _ _ H2.out) ?_; rintro e w2 ⟨rfl, hb⟩; refine ⟨_, rfl, ?_⟩; have B2 := Aside0.mk (blk_below B1.out hb); have L2 := Aside0.mk (below_step L1.out hb); clear B1 L1 hb; have B1 := B2; have L1 := L2; clear B2 L2)
          | (refine fl_call 37 _ _ rfl rfl rfl (by decide) #[.agg #[.int .i64 a0_0, .int .i64 a0_1, .int .i64 a0_2, .int .i64 a0_3, .int .i64 a0_4, .int .i64 a0_5, .int .i64 a0_6, .int .i64 a0_7, .int .i64 a0_8, .int .i64 a0_9, .int .i64 a0_10, .int .i64 a0_11, .int .i64 a0_12, .int .i64 a0_13, .int .i64 a0_14, .int .i64 a0_15, .int .i64 a0_16, .int .i64 a0_17, .int .i64 a0_18]] rfl (fun _ => by kernel_rfl) _ (impl_isNumber.calls _ a0_0 a0_1 a0_2 a0_3 a0_4 a0_5 a0_6 a0_7 a0_8 a0_9 a0_10 a0_11 a0_12 a0_13 a0_14 a0_15 a0_16 a0_17 a0_18 _ _ H2.out) ?_; rintro e w2 ⟨rfl, hb⟩; refine ⟨_, rfl, ?_⟩; have B2 := Aside0.mk (blk_below B1.out hb); have L2 := Aside0.mk (below_step L1.out hb); clear B1 L1 hb; have B1 := B2; have L1 := L2; clear B2 L2)
          | (refine fl_call 40 _ _ rfl rfl rfl (by decide) #[.agg #[.int .i64 a0_0, .int .i64 a0_1, .int .i64 a0_2, .int .i64 a0_3, .int .i64 a0_4, .int .i64 a0_5, .int .i64 a0_6, .int .i64 a0_7, .int .i64 a0_8, .int .i64 a0_9, .int .i64 a0_10, .int .i64 a0_11, .int .i64 a0_12, .int .i64 a0_13, .int .i64 a0_14, .int .i64 a0_15, .int .i64 a0_16, .int .i64 a0_17, .int .i64 a0_18]] rfl (fun _ => by kernel_rfl) _ (impl_needsRex.calls _ a0_0 a0_1 a0_2 a0_3 a0_4 a0_5 a0_6 a0_7 a0_8 a0_9 a0_10 a0_11 a0_12 a0_13 a0_14 a0_15 a0_16 a0_17 a0_18 _ _ H2.out) ?_; rintro e w2 ⟨rfl, hb⟩; refine ⟨_, rfl, ?_⟩; have B2 := Aside0.mk (blk_below B1.out hb); have L2 := Aside0.mk (below_step L1.out hb); clear B1 L1 hb; have B1 := B2; have L1 := L2; clear B2 L2)
          | (refine fl_call 35 _ _ rfl rfl rfl (by decide) #[.string _, .string _] rfl (fun _ => by kernel_rfl) _ (strings_Contains.calls _ _ _ w _ HM.out L1.out H2.out) ?_; rintro e w2 ⟨rfl, ⟨nd, rfl⟩⟩; refine ⟨_, rfl, ?_⟩; have B2 := Aside0.mk (blk_drewN B1.out nd); have L2 := Aside0.mk (pw_below_drewN L1.out nd); clear B1 L1; have B1 := B2; have L1 := L2; clear B2 L2; generalize World.drewN _ nd = w3 at B1 L1 ⊢)
          | (refine fl_call 39 _ _ rfl rfl rfl (by decide) #[.agg #[.int .i64 a0_4, .int .i64 a0_5, .int .i64 a0_6, .int .i64 a0_7, .int .i64 a0_8, .int .i64 a0_9, .int .i64 a0_10]] rfl (fun _ => by kernel_rfl) _ (impl_hasHigh.calls a0_4 a0_5 a0_6 a0_7 a0_8 a0_9 a0_10 _ _ H2.out) ?_; rintro e w2 ⟨rfl, hb⟩; refine ⟨_, rfl, ?_⟩; have B2 := Aside0.mk (blk_below B1.out hb); have L2 := Aside0.mk (below_step L1.out hb); clear B1 L1 hb; have B1 := B2; have L1 := L2; clear B2 L2)
          | (refine fl_call 39 _ _ rfl rfl rfl (by decide) #[.agg #[.int .i64 a0_11, .int .i64 a0_12, .int .i64 a0_13, .int .i64 a0_14, .int .i64 a0_15, .int .i64 a0_16, .int .i64 a0_17]] rfl (fun _ => by kernel_rfl) _ (impl_hasHigh.calls a0_11 a0_12 a0_13 a0_14 a0_15 a0_16 a0_17 _ _ H2.out) ?_; rintro e w2 ⟨rfl, hb⟩; refine ⟨_, rfl, ?_⟩; have B2 := Aside0.mk (blk_below B1.out hb); have L2 := Aside0.mk (below_step L1.out hb); clear B1 L1 hb; have B1 := B2; have L1 := L2; clear B2 L2)
          | (refine fl_call 32 _ _ rfl rfl rfl (by decide) #[.int .i64 a0_0] rfl (fun _ => by kernel_rfl) _ (impl_formsOf.calls _ a0_0 _ _ _ H2.out) ?_; rintro e w2 ⟨v0, rfl, ho, hb⟩; refine ⟨_, rfl, ?_⟩; have B2 := Aside0.mk (blk_below B1.out hb); have L2 := Aside0.mk (below_step L1.out hb); clear B1 L1 hb; have B1 := B2; have L1 := L2; clear B2 L2; have HO := Aside0.mk ho; clear ho; obtain ⟨Ao, co, eo⟩ := Kd.R_slice HO.out; subst eo)
          | ((with_reducible have H3 := (if_pos (rfl : true = true)).symm.trans H); clear H; have H := H3; clear H3)
          | ((with_reducible have H3 := (if_neg Bool.false_ne_true).symm.trans H); clear H; have H := H3; clear H3)
          | ((with_reducible have H3 := (if_pos (by assumption)).symm.trans H); clear H; have H := H3; clear H3)
          | ((with_reducible have H3 := bind_two H); clear H; obtain ⟨t, u, h2, H⟩ := H3; have H2 := Aside0.mk h2; clear h2; (try dsimp only at H))
          | ((with_reducible have H3 := bind_one ByteArray H); clear H; obtain ⟨t, h2, H⟩ := H3; have H2 := Aside0.mk h2; clear h2; (try dsimp only at H))
          | ((with_reducible have H3 := bind_one Int H); clear H; obtain ⟨t, h2, H⟩ := H3; have H2 := Aside0.mk h2; clear h2; (try dsimp only at H))
          | ((with_reducible have H3 := bind_one Bool H); clear H; obtain ⟨t, h2, H⟩ := H3; have H2 := Aside0.mk h2; clear h2; (try dsimp only at H); cases t)
          | ((with_reducible have H3 := ite_none H); clear H; obtain ⟨hz, H⟩ := H3; have HZ := Aside0.mk hz; clear hz)
          | ((with_reducible have H3 := ite_split_e H); clear H; rcases H3 with ⟨ht, ht2, H⟩ | ⟨ht, ht2, H⟩)
          | (first | ((with_reducible have H3 := impl_InstrOK.j0_s H); clear H; rcases H3 with ⟨ht, H⟩ | ⟨ht, k1, H⟩ <;> (try simp only [Bool.not_true, Bool.not_false, Bool.false_eq_true, reduceCtorEq] at ht)) | ((with_reducible have H3 := impl_InstrOK.j2_s H); clear H; rcases H3 with ⟨ht, H⟩ | ⟨ht, k1, H⟩ <;> (try simp only [Bool.not_true, Bool.not_false, Bool.false_eq_true, reduceCtorEq] at ht)) | ((with_reducible have H3 := impl_InstrOK.j3_s H); clear H; rcases H3 with ⟨ht, H⟩ | ⟨ht, k1, H⟩ <;> (try simp only [Bool.not_true, Bool.not_false, Bool.false_eq_true, reduceCtorEq] at ht)) | ((with_reducible have H3 := impl_InstrOK.j4_s H); clear H; rcases H3 with ⟨ht, H⟩ | ⟨ht, k1, H⟩ <;> (try simp only [Bool.not_true, Bool.not_false, Bool.false_eq_true, reduceCtorEq] at ht)) | ((with_reducible have H3 := impl_InstrOK.j5_s H); clear H; rcases H3 with ⟨ht, H⟩ | ⟨ht, k1, H⟩ <;> (try simp only [Bool.not_true, Bool.not_false, Bool.false_eq_true, reduceCtorEq] at ht))))
        | ((with_reducible refine qf_gate ?_); first
          | (refine qf_skip rfl rfl (by decide) ?_)
          | (refine qf_move _ (Or.inl rfl) rfl rfl (by decide) _ rfl ?_)
          | (refine qf_move _ (Or.inr rfl) rfl rfl (by decide) _ rfl ?_)
          | (refine qf_pick _ _ _ rfl rfl rfl (by decide) _ rfl _ rfl ?_)
          | (refine qf_addr (v := ?_) _ _ _ rfl rfl rfl (by decide) (.pointer (some ⟨g1, _, none⟩)) rfl ?_ ?_; rotate_left; (focus (with_reducible first | exact F0.out | exact F1.out | exact F2.out | exact F3.out | exact F4.out | exact F5.out | exact F6.out | exact F7.out | exact F8.out)))
          | (refine qf_int 3 _ rfl rfl rfl (by decide) g1 _ rfl 29 _ (0, 0) HAG.out HCB.out _ rfl ?_)
          | (refine qf_row 29 _ rfl rfl rfl (by decide) g1 rfl 29 _ (0, 0) _ HCB.out hu29 rfl (by kernel_rfl) ?_)
          | (refine qf_mid 27 _ rfl rfl rfl (by decide) g1 4 rfl 29 _ (0, 0) _ ([.int .i64 a0_4, .int .i64 a0_5, .int .i64 a0_6, .int .i64 a0_7, .int .i64 a0_8, .int .i64 a0_9, .int .i64 a0_10]) HCB.out rfl hu27 rfl (by kernel_rfl) ?_)
          | (refine qf_mid 27 _ rfl rfl rfl (by decide) g1 11 rfl 29 _ (0, 0) _ ([.int .i64 a0_11, .int .i64 a0_12, .int .i64 a0_13, .int .i64 a0_14, .int .i64 a0_15, .int .i64 a0_16, .int .i64 a0_17]) HCB.out rfl hu27 rfl (by kernel_rfl) ?_)
          | (refine qf_bin (v := .string _) _ _ _ _ _ rfl rfl rfl (by decide) (.string _) (.string _) rfl rfl (fun w' => run_cat _ _ HZ.out _ _ w') ?_)
          | (refine qf_bin (v := ?_) _ _ _ _ _ rfl rfl rfl (by decide) (.int .i64 _) (.int .i64 _) rfl rfl ?_ ?_; rotate_left; (focus (intro w'; go_simp; with_reducible first | exact (rfl : Value.bool true = _) | exact (rfl : Value.bool false = _) | exact (rfl : Result.ok (Value.bool true) w' = _) | exact (rfl : Result.ok (Value.bool false) w' = _))))
          | (refine qf_not _ _ rfl rfl rfl (by decide) _ rfl ?_)
          | (refine qf_max (v := .int .i64 (mx 1 a0_1)) _ _ _ rfl rfl rfl (by decide) (.int .i64 1) (.int .i64 a0_1) rfl rfl (fun w' => by go_simp; first | done | rfl | (unfold mx; rfl)) ?_)
          | (refine qf_call 33 _ _ rfl rfl rfl (by decide) #[.agg #[.int .i64 a0_4, .int .i64 a0_5, .int .i64 a0_6, .int .i64 a0_7, .int .i64 a0_8, .int .i64 a0_9, .int .i64 a0_10]] rfl (fun _ => by kernel_rfl) (.string _) (fun W hW => (impl_Operand_letter.calls a0_4 a0_5 a0_6 a0_7 a0_8 a0_9 a0_10 _ W H2.out).mono fun _ _ ⟨he, hb⟩ => ⟨he, HCL.out _ _ hW hb⟩) ?_)
          | (refine qf_call 33 _ _ rfl rfl rfl (by decide) #[.agg #[.int .i64 a0_11, .int .i64 a0_12, .int .i64 a0_13, .int .i64 a0_14, .int .i64 a0_15, .int .i64 a0_16, .int .i64 a0_17]] rfl (fun _ => by kernel_rfl) (.string _) (fun W hW => (impl_Operand_letter.calls a0_11 a0_12 a0_13 a0_14 a0_15 a0_16 a0_17 _ W H2.out).mono fun _ _ ⟨he, hb⟩ => ⟨he, HCL.out _ _ hW hb⟩) ?_)
          | (refine qf_call 14 _ _ rfl rfl rfl (by decide) #[.agg #[.int .i64 a0_4, .int .i64 a0_5, .int .i64 a0_6, .int .i64 a0_7, .int .i64 a0_8, .int .i64 a0_9, .int .i64 a0_10], .int .i64 _] rfl (fun _ => by kernel_rfl) (.bool _) (fun W hW => (impl_OperandOK.calls a0_4 a0_5 a0_6 a0_7 a0_8 a0_9 a0_10 _ _ W H2.out).mono fun _ _ ⟨he, hb⟩ => ⟨he, HCL.out _ _ hW hb⟩) ?_)
          | (refine qf_call 14 _ _ rfl rfl rfl (by decide) #[.agg #[.int .i64 a0_11, .int .i64 a0_12, .int .i64 a0_13, .int .i64 a0_14, .int .i64 a0_15, .int .i64 a0_16, .int .i64 a0_17], .int .i64 _] rfl (fun _ => by kernel_rfl) (.bool _) (fun W hW => (impl_OperandOK.calls a0_11 a0_12 a0_13 a0_14 a0_15 a0_16 a0_17 _ _ W H2.out).mono fun _ _ ⟨he, hb⟩ => ⟨he, HCL.out _ _ hW hb⟩) ?_)
          | (refine qf_call 36 _ _ rfl rfl rfl (by decide) #[.agg #[.int .i64 a0_0, .int .i64 a0_1, .int .i64 a0_2, .int .i64 a0_3, .int .i64 a0_4, .int .i64 a0_5, .int .i64 a0_6, .int .i64 a0_7, .int .i64 a0_8, .int .i64 a0_9, .int .i64 a0_10, .int .i64 a0_11, .int .i64 a0_12, .int .i64 a0_13, .int .i64 a0_14, .int .i64 a0_15, .int .i64 a0_16, .int .i64 a0_17, .int .i64 a0_18]] rfl (fun _ => by kernel_rfl) (.int .i64 _) (fun W hW => (impl_srcSize.calls a0_0 a0_1 a0_2 a0_3 a0_4 a0_5 a0_6 a0_7 a0_8 a0_9 a0_10 a0_11 a0_12 a0_13 a0_14 a0_15 a0_16 a0_17 a0_18 _ W H2.out).mono fun _ _ ⟨he, hb⟩ => ⟨he, HCL.out _ _ hW hb⟩) ?_)
          | ((with_reducible have H3 := (if_pos (rfl : true = true)).symm.trans H); clear H; have H := H3; clear H3)
          | ((with_reducible have H3 := (if_neg Bool.false_ne_true).symm.trans H); clear H; have H := H3; clear H3)
          | ((with_reducible have H3 := (if_pos (by assumption)).symm.trans H); clear H; have H := H3; clear H3)
          | ((with_reducible have H3 := bind_two H); clear H; obtain ⟨t, u, h2, H⟩ := H3; have H2 := Aside0.mk h2; clear h2; (try dsimp only at H))
          | ((with_reducible have H3 := bind_one ByteArray H); clear H; obtain ⟨t, h2, H⟩ := H3; have H2 := Aside0.mk h2; clear h2; (try dsimp only at H))
          | ((with_reducible have H3 := bind_one Int H); clear H; obtain ⟨t, h2, H⟩ := H3; have H2 := Aside0.mk h2; clear h2; (try dsimp only at H))
          | ((with_reducible have H3 := bind_one Bool H); clear H; obtain ⟨t, h2, H⟩ := H3; have H2 := Aside0.mk h2; clear h2; (try dsimp only at H); cases t)
          | ((with_reducible have H3 := ite_none H); clear H; obtain ⟨hz, H⟩ := H3; have HZ := Aside0.mk hz; clear hz)
          | ((with_reducible have H3 := ite_split_e H); clear H; rcases H3 with ⟨ht, ht2, H⟩ | ⟨ht, ht2, H⟩)
          | (first | ((with_reducible have H3 := impl_InstrOK.j0_s H); clear H; rcases H3 with ⟨ht, H⟩ | ⟨ht, k1, H⟩ <;> (try simp only [Bool.not_true, Bool.not_false, Bool.false_eq_true, reduceCtorEq] at ht)) | ((with_reducible have H3 := impl_InstrOK.j2_s H); clear H; rcases H3 with ⟨ht, H⟩ | ⟨ht, k1, H⟩ <;> (try simp only [Bool.not_true, Bool.not_false, Bool.false_eq_true, reduceCtorEq] at ht)) | ((with_reducible have H3 := impl_InstrOK.j3_s H); clear H; rcases H3 with ⟨ht, H⟩ | ⟨ht, k1, H⟩ <;> (try simp only [Bool.not_true, Bool.not_false, Bool.false_eq_true, reduceCtorEq] at ht)) | ((with_reducible have H3 := impl_InstrOK.j4_s H); clear H; rcases H3 with ⟨ht, H⟩ | ⟨ht, k1, H⟩ <;> (try simp only [Bool.not_true, Bool.not_false, Bool.false_eq_true, reduceCtorEq] at ht)) | ((with_reducible have H3 := impl_InstrOK.j5_s H); clear H; rcases H3 with ⟨ht, H⟩ | ⟨ht, k1, H⟩ <;> (try simp only [Bool.not_true, Bool.not_false, Bool.false_eq_true, reduceCtorEq] at ht)))))
set_option maxHeartbeats 40000000 in
set_option maxRecDepth 100000 in
theorem impl_InstrOK.pB (w w1 : World) (r : Bool) (g1 : Nat) (a0_0 : Int) (a0_1 : Int) (a0_2 : Int) (a0_3 : Int) (a0_4 : Int) (a0_5 : Int) (a0_6 : Int) (a0_7 : Int) (a0_8 : Int) (a0_9 : Int) (a0_10 : Int) (a0_11 : Int) (a0_12 : Int) (a0_13 : Int) (a0_14 : Int) (a0_15 : Int) (a0_16 : Int) (a0_17 : Int) (a0_18 : Int) (hm : Try.Glob w) (b1 : w1.heap[g1]? = some (.cells #[.int .i64 a0_0, .int .i64 a0_1, .int .i64 a0_2, .int .i64 a0_3, .int .i64 a0_4, .int .i64 a0_5, .int .i64 a0_6, .int .i64 a0_7, .int .i64 a0_8, .int .i64 a0_9, .int .i64 a0_10, .int .i64 a0_11, .int .i64 a0_12, .int .i64 a0_13, .int .i64 a0_14, .int .i64 a0_15, .int .i64 a0_16, .int .i64 a0_17, .int .i64 a0_18] 29 (0, 0))) (l1 : Below w.heap.size w w1) (H : ∃ k1, ((impl_formsOf.f k1 a0_0).bind fun bt368 => (impl_InstrOK.l0 k1 bt368.2 false bt368.1 (bt368.1.length : Int) 0 a0_0 a0_1 a0_2 a0_3 a0_4 a0_5 a0_6 a0_7 a0_8 a0_9 a0_10 a0_11 a0_12 a0_13 a0_14 a0_15 a0_16 a0_17 a0_18)) = some r) :
    CL Try.prog (codeRest (codeRest (Try.f11.body.getD .skip))) (bodyPost Try.prog Try.f11 (fun e w' => e = .returned (.bool r) ∧ Below w.heap.size w w')) 135 [(2, .bool false), (1, .pointer (some ⟨g1, 0, none⟩))] w1 := by
  have HM := Aside0.mk hm
  clear hm
  have hu29 := Try.underlying29
  have hu27 := Try.underlying27
  have HAG : Aside0 (∀ w, (isAgg 3).run Try.prog w = .ok false w) := ⟨fun w => by go_simp⟩
  have F0 : Aside0 (∀ w, (Instr.fieldAt 29 (.pointer (some ⟨g1, 0, none⟩)) 0).run Try.prog w = .ok (.pointer (some ⟨g1, 0, none⟩)) w) := ⟨fun w => by go_simp⟩
  have F1 : Aside0 (∀ w, (Instr.fieldAt 29 (.pointer (some ⟨g1, 0, none⟩)) 1).run Try.prog w = .ok (.pointer (some ⟨g1, 1, none⟩)) w) := ⟨fun w => by go_simp⟩
  have F2 : Aside0 (∀ w, (Instr.fieldAt 29 (.pointer (some ⟨g1, 0, none⟩)) 2).run Try.prog w = .ok (.pointer (some ⟨g1, 2, none⟩)) w) := ⟨fun w => by go_simp⟩
  have F3 : Aside0 (∀ w, (Instr.fieldAt 29 (.pointer (some ⟨g1, 0, none⟩)) 3).run Try.prog w = .ok (.pointer (some ⟨g1, 3, none⟩)) w) := ⟨fun w => by go_simp⟩
  have F4 : Aside0 (∀ w, (Instr.fieldAt 29 (.pointer (some ⟨g1, 0, none⟩)) 4).run Try.prog w = .ok (.pointer (some ⟨g1, 4, none⟩)) w) := ⟨fun w => by go_simp⟩
  have F5 : Aside0 (∀ w, (Instr.fieldAt 29 (.pointer (some ⟨g1, 0, none⟩)) 5).run Try.prog w = .ok (.pointer (some ⟨g1, 11, none⟩)) w) := ⟨fun w => by go_simp⟩
  have F6 : Aside0 (∀ w, (Instr.fieldAt 29 (.pointer (some ⟨g1, 0, none⟩)) 6).run Try.prog w = .ok (.pointer (some ⟨g1, 18, none⟩)) w) := ⟨fun w => by go_simp⟩
  have F7 : Aside0 (∀ w, (Instr.fieldAt 27 (.pointer (some ⟨g1, 11, none⟩)) 0).run Try.prog w = .ok (.pointer (some ⟨g1, 11, none⟩)) w) := ⟨fun w => by go_simp⟩
  have F8 : Aside0 (∀ w, (Instr.fieldAt 27 (.pointer (some ⟨g1, 11, none⟩)) 1).run Try.prog w = .ok (.pointer (some ⟨g1, 12, none⟩)) w) := ⟨fun w => by go_simp⟩
  have B1 := Aside0.mk b1
  have L1 := Aside0.mk l1
  clear b1 l1
  conv => arg 2; whnf
  obtain ⟨k1, H⟩ := H
  refine cl_seq (fun K hK => ?_)
  refine cl_region ?_
  obtain ⟨t, u, h2, H⟩ := bind_two H
  have H2 := Aside0.mk h2
  clear h2
  dsimp only at H
  refine fl_addr (v := ?_) _ _ _ rfl rfl rfl (by decide) (.pointer (some ⟨g1, _, none⟩)) rfl ?_ ?_; rotate_left; (focus (with_reducible first | exact F0.out | exact F1.out | exact F2.out | exact F3.out | exact F4.out | exact F5.out | exact F6.out | exact F7.out | exact F8.out))
  refine fl_int 3 _ rfl rfl rfl (by decide) g1 _ rfl 29 _ (0, 0) HAG.out B1.out _ rfl ?_
  refine fl_call 32 _ _ rfl rfl rfl (by decide) #[.int .i64 a0_0] rfl (fun _ => by kernel_rfl) _ (impl_formsOf.calls _ a0_0 _ _ _ H2.out) ?_; rintro e w2 ⟨v0, rfl, ho, hb⟩; refine ⟨_, rfl, ?_⟩; have B2 := Aside0.mk (blk_below B1.out hb); have L2 := Aside0.mk (below_step L1.out hb); clear B1 L1 hb; have B1 := B2; have L1 := L2; clear B2 L2; have HO := Aside0.mk ho; clear ho; obtain ⟨Ao, co, eo⟩ := Kd.R_slice HO.out; subst eo
  refine fl_move _ (Or.inl rfl) rfl rfl (by decide) _ rfl ?_
  refine fl_ext0 _ rfl rfl rfl (by decide) _ _ rfl ?_
  refine fl_ext1 _ rfl rfl rfl (by decide) _ _ rfl ?_
  refine fl_move _ (Or.inr rfl) rfl rfl (by decide) _ rfl ?_
  refine fl_move _ (Or.inr rfl) rfl rfl (by decide) _ rfl ?_
  refine fl_nil ?_
  refine ql_then ?_
  refine hK _ _ _ ?_
  clear hK K
  refine cl_keep [1, 2, 3, 4, 5, 7, 8, 35, 42, 43, 44, 45, 79, 94, 95, 105] ?_
  simp only [keep, List.filter_cons, List.filter_nil, List.contains_cons, List.contains_nil, Nat.reduceBEq, Bool.or_false, Bool.or_true, Bool.true_or, Bool.false_or, Bool.or_self, if_true, Bool.false_eq_true, if_false]
  refine cl_seq (fun K hK => ?_)
  refine cl_region ?_
  refine fl_move _ (Or.inr rfl) rfl rfl (by decide) _ rfl ?_
  refine fl_nil ?_
  refine ql_then ?_
  refine hK _ _ _ ?_
  clear hK K
  refine cl_keep [1, 2, 3, 4, 5, 7, 8, 35, 42, 43, 44, 45, 79, 94, 95, 105] ?_
  simp only [keep, List.filter_cons, List.filter_nil, List.contains_cons, List.contains_nil, Nat.reduceBEq, Bool.or_false, Bool.or_true, Bool.true_or, Bool.false_or, Bool.or_self, if_true, Bool.false_eq_true, if_false]
  refine cl_seq (fun K hK => ?_)
  refine cl_seq (fun K5 hK5 => ?_)
  refine cl_region ?_
  refine fl_move _ (Or.inl rfl) rfl rfl (by decide) _ rfl ?_
  refine fl_len (v := .int .i64 (t.length : Int)) _ _ rfl rfl rfl (by decide) _ rfl (fun w' => by go_simp) ?_
  refine fl_move _ (Or.inl rfl) rfl rfl (by decide) _ rfl ?_
  refine fl_nil ?_
  refine ql_then ?_
  refine hK5 _ _ _ ?_
  clear hK5 K5
  refine cl_keep [1, 2, 3, 4, 5, 7, 8, 35, 42, 43, 44, 45, 79, 94, 95, 105] ?_
  simp only [keep, List.filter_cons, List.filter_nil, List.contains_cons, List.contains_nil, Nat.reduceBEq, Bool.or_false, Bool.or_true, Bool.true_or, Bool.false_or, Bool.or_self, if_true, Bool.false_eq_true, if_false]
  refine cl_block ?_
  obtain ⟨base0, ho⟩ : ∃ b0, Kd.R (Kd.int .i64) 3 _ b0 (fun _ => True) (.slice Ao t.length co) t := ⟨_, HO.out⟩
  clear HO H2
  refine cl_loop (fun s : Bool × Int => [(44, .int .i64 s.2), (5, .bool s.1), (43, .int .i64 (t.length : Int)), (42, (.slice Ao t.length co)), (4, .string u), (2, .bool false), (1, .pointer (some ⟨g1, 0, none⟩))]) (fun k s W => impl_InstrOK.l0 k u s.1 t (t.length : Int) s.2 a0_0 a0_1 a0_2 a0_3 a0_4 a0_5 a0_6 a0_7 a0_8 a0_9 a0_10 a0_11 a0_12 a0_13 a0_14 a0_15 a0_16 a0_17 a0_18 = some r ∧ W.heap[g1]? = some (.cells #[.int .i64 a0_0, .int .i64 a0_1, .int .i64 a0_2, .int .i64 a0_3, .int .i64 a0_4, .int .i64 a0_5, .int .i64 a0_6, .int .i64 a0_7, .int .i64 a0_8, .int .i64 a0_9, .int .i64 a0_10, .int .i64 a0_11, .int .i64 a0_12, .int .i64 a0_13, .int .i64 a0_14, .int .i64 a0_15, .int .i64 a0_16, .int .i64 a0_17, .int .i64 a0_18] 29 (0, 0)) ∧ Below w.heap.size w W ∧ Kd.R (Kd.int .i64) 3 W base0 (fun _ => True) (.slice Ao t.length co) t) _ (false, 0) (fun a ha => ha.also (ha.also (ha.also (ha.also (ha.also (ha.also (ha.also ha.nothing rfl) rfl) rfl) rfl) rfl) rfl) rfl) ⟨H, B1.out, L1.out, ho⟩ ?_
  clear B1 L1 H ho
  intro k2 s w4 hR KR hKR
  obtain ⟨b, i⟩ := s
  obtain ⟨H, b1, l1, ho⟩ := hR
  dsimp only at H
  have B1 := Aside0.mk b1
  have L1 := Aside0.mk l1
  have HO := Aside0.mk ho
  clear b1 l1 ho
  cases k2 with
  | zero => exact absurd H (by simp [impl_InstrOK.l0])
  | succ k2 =>
    rw [impl_InstrOK.l0] at H
    by_cases c : i < (t.length : Int)
    · rw [if_pos c] at H
      obtain ⟨c0, H⟩ := ite_none H
      obtain ⟨_, H⟩ := ite_none H
      obtain ⟨ad, e0, hx⟩ := Kd.at_int (Kd.R_reads' HO.out).2.2 i c0 c
      cases e0
      have HX := Aside0.mk hx
      clear hx
      have c1 := eq_true c
      have c2 := eq_true c0
      have c3 : decide (i < (t.length : Int)) = true := decide_eq_true c
      have c4 : decide (0 ≤ i) = true := decide_eq_true c0
      cases b with
      | true =>
        rw [if_pos rfl] at H
        refine cl_seq (fun K6 hK6 => ?_)
        refine cl_region ?_
        refine fl_bin (v := .bool true) _ _ _ _ _ rfl rfl rfl (by decide) (.int .i64 _) (.int .i64 _) rfl rfl (fun w' => by go_simp) ?_
        refine fl_nil ?_
        refine ql_then ?_
        refine hK6 _ _ _ ?_
        clear hK6 K6
        refine cl_seq (fun K7 hK7 => ?_)
        refine cl_true rfl ?_
        refine cl_skip ?_
        refine ql_then ?_
        refine hK7 _ _ _ ?_
        clear hK7 K7
        refine cl_seq (fun K8 hK8 => ?_)
        refine cl_block ?_
        refine cl_seq (fun K9 hK9 => ?_)
        refine cl_region ?_
        refine fl_idx _ _ _ rfl rfl rfl (by decide) ad t.length co i rfl rfl (fun w' => by go_simp) ?_
        refine fl_cell 3 _ rfl rfl rfl (by decide) _ rfl HAG.out _ HX.out ?_
        refine fl_move _ (Or.inr rfl) rfl rfl (by decide) _ rfl ?_
        refine fl_nil ?_
        refine ql_then ?_
        refine hK9 _ _ _ ?_
        clear hK9 K9
        refine cl_keep [1, 2, 3, 4, 5, 7, 8, 35, 42, 43, 44, 45, 79, 94, 95, 105] ?_
        simp only [keep, List.filter_cons, List.filter_nil, List.contains_cons, List.contains_nil, Nat.reduceBEq, Bool.or_false, Bool.or_true, Bool.true_or, Bool.false_or, Bool.or_self, if_true, Bool.false_eq_true, if_false]
        refine cl_region ?_
        refine fl_move _ (Or.inl rfl) rfl rfl (by decide) _ rfl ?_
        refine fl_move _ (Or.inl rfl) rfl rfl (by decide) _ rfl ?_
        refine fl_skip rfl rfl (by decide) ?_
        refine fl_skip rfl rfl (by decide) ?_
        refine fl_skip rfl rfl (by decide) ?_
        refine fl_skip rfl rfl (by decide) ?_
        refine fl_pick _ _ _ rfl rfl rfl (by decide) _ rfl _ rfl ?_
        refine fl_move _ (Or.inr rfl) rfl rfl (by decide) _ rfl ?_
        refine fl_nil ?_
        refine ql_block ?_
        refine ql_then ?_
        refine hK8 _ _ _ ?_
        clear hK8 K8
        refine cl_keep [1, 2, 3, 4, 5, 7, 8, 35, 42, 43, 44, 45, 79, 94, 95, 105] ?_
        simp only [keep, List.filter_cons, List.filter_nil, List.contains_cons, List.contains_nil, Nat.reduceBEq, Bool.or_false, Bool.or_true, Bool.true_or, Bool.false_or, Bool.or_self, if_true, Bool.false_eq_true, if_false]
        refine cl_region ?_
        refine fl_bin (v := .int .i64 (wrap64 (i + 1))) _ _ _ _ _ rfl rfl rfl (by decide) (.int .i64 _) (.int .i64 _) rfl rfl (fun w' => by go_simp; first | done | rfl | exact i64_w _) ?_
        refine fl_move _ (Or.inl rfl) rfl rfl (by decide) _ rfl ?_
        refine fl_nil ?_
        refine ql_then ?_
        exact fun a ha => hKR k2 (true, wrap64 (i + 1)) _ (Nat.lt_succ_self _) ⟨H, B1.out, L1.out, HO.out⟩ a (ha.also (ha.also (ha.also (ha.also (ha.also (ha.also (ha.also ha.nothing rfl) rfl) rfl) rfl) rfl) rfl) rfl)
      | false =>
        rw [if_neg Bool.false_ne_true] at H
        refine cl_seq (fun K6 hK6 => ?_)
        refine cl_region ?_
        refine fl_bin (v := .bool true) _ _ _ _ _ rfl rfl rfl (by decide) (.int .i64 _) (.int .i64 _) rfl rfl (fun w' => by go_simp) ?_
        refine fl_nil ?_
        refine ql_then ?_
        refine hK6 _ _ _ ?_
        clear hK6 K6
        refine cl_seq (fun K7 hK7 => ?_)
        refine cl_true rfl ?_
        refine cl_skip ?_
        refine ql_then ?_
        refine hK7 _ _ _ ?_
        clear hK7 K7
        refine cl_seq (fun K8 hK8 => ?_)
        refine cl_block ?_
        refine cl_seq (fun K9 hK9 => ?_)
        refine cl_region ?_
        refine fl_idx _ _ _ rfl rfl rfl (by decide) ad t.length co i rfl rfl (fun w' => by go_simp) ?_
        refine fl_cell 3 _ rfl rfl rfl (by decide) _ rfl HAG.out _ HX.out ?_
        refine fl_move _ (Or.inr rfl) rfl rfl (by decide) _ rfl ?_
        refine fl_nil ?_
        refine ql_then ?_
        refine hK9 _ _ _ ?_
        clear hK9 K9
        refine cl_keep [1, 2, 3, 4, 5, 7, 8, 35, 42, 43, 44, 45, 79, 94, 95, 105] ?_
        simp only [keep, List.filter_cons, List.filter_nil, List.contains_cons, List.contains_nil, Nat.reduceBEq, Bool.or_false, Bool.or_true, Bool.true_or, Bool.false_or, Bool.or_self, if_true, Bool.false_eq_true, if_false]
        refine cl_region ?_
        refine fl_move _ (Or.inl rfl) rfl rfl (by decide) _ rfl ?_
        refine fl_move _ (Or.inl rfl) rfl rfl (by decide) _ rfl ?_
        refine fl_move _ (Or.inl rfl) rfl rfl (by decide) _ rfl ?_
        refine fl_addr (v := ?_) _ _ _ rfl rfl rfl (by decide) (.pointer (some ⟨g1, _, none⟩)) rfl ?_ ?_; rotate_left; (focus (with_reducible first | exact F0.out | exact F1.out | exact F2.out | exact F3.out | exact F4.out | exact F5.out | exact F6.out | exact F7.out | exact F8.out))
        refine fl_int 3 _ rfl rfl rfl (by decide) g1 _ rfl 29 _ (0, 0) HAG.out B1.out _ rfl ?_
        refine fl_bin (v := .bool ((rd t i) == a0_1)) _ _ _ _ _ rfl rfl rfl (by decide) (.int .i64 _) (.int .i64 _) rfl rfl (fun w' => by go_simp) ?_
        refine fl_pick _ _ _ rfl rfl rfl (by decide) _ rfl _ rfl ?_
        refine fl_move _ (Or.inr rfl) rfl rfl (by decide) _ rfl ?_
        refine fl_nil ?_
        refine ql_block ?_
        refine ql_then ?_
        refine hK8 _ _ _ ?_
        clear hK8 K8
        refine cl_keep [1, 2, 3, 4, 5, 7, 8, 35, 42, 43, 44, 45, 79, 94, 95, 105] ?_
        simp only [keep, List.filter_cons, List.filter_nil, List.contains_cons, List.contains_nil, Nat.reduceBEq, Bool.or_false, Bool.or_true, Bool.true_or, Bool.false_or, Bool.or_self, if_true, Bool.false_eq_true, if_false]
        refine cl_region ?_
        refine fl_bin (v := .int .i64 (wrap64 (i + 1))) _ _ _ _ _ rfl rfl rfl (by decide) (.int .i64 _) (.int .i64 _) rfl rfl (fun w' => by go_simp; first | done | rfl | exact i64_w _) ?_
        refine fl_move _ (Or.inl rfl) rfl rfl (by decide) _ rfl ?_
        refine fl_nil ?_
        refine ql_then ?_
        exact fun a ha => hKR k2 ((rd t i) == a0_1, wrap64 (i + 1)) _ (Nat.lt_succ_self _) ⟨H, B1.out, L1.out, HO.out⟩ a (ha.also (ha.also (ha.also (ha.also (ha.also (ha.also (ha.also ha.nothing rfl) rfl) rfl) rfl) rfl) rfl) rfl)
    · rw [if_neg c] at H
      have c1 := eq_false c
      have c3 : decide (i < (t.length : Int)) = false := decide_eq_false c
      clear HO hKR
      refine cl_seq (fun K6 hK6 => ?_)
      refine cl_region ?_
      refine fl_bin (v := .bool false) _ _ _ _ _ rfl rfl rfl (by decide) (.int .i64 _) (.int .i64 _) rfl rfl (fun w' => by go_simp) ?_
      refine fl_nil ?_
      refine ql_then ?_
      refine hK6 _ _ _ ?_
      clear hK6 K6
      refine cl_seq (fun K7 hK7 => ?_)
      refine cl_false rfl ?_
      refine cl_exit ?_
      clear hK7
      refine ql_then_exit ?_
      refine ql_then_exit ?_
      refine ql_hit ?_
      refine ql_then ?_
      clear c1 c3 c
      refine hK _ _ _ ?_
      clear hK K
      refine cl_keep [1, 2, 4, 5] ?_
      simp only [keep, List.filter_cons, List.filter_nil, List.contains_cons, List.contains_nil, Nat.reduceBEq, Bool.or_false, Bool.or_true, Bool.true_or, Bool.false_or, Bool.or_self, if_true, Bool.false_eq_true, if_false]
      exact impl_InstrOK.pC w _ r g1 a0_0 a0_1 a0_2 a0_3 a0_4 a0_5 a0_6 a0_7 a0_8 a0_9 a0_10 a0_11 a0_12 a0_13 a0_14 a0_15 a0_16 a0_17 a0_18 HM.out B1.out L1.out b u k2 H
set_option maxHeartbeats 40000000 in
set_option maxRecDepth 100000 in
theorem impl_InstrOK.calls (k : Nat) (a0_0 : Int) (a0_1 : Int) (a0_2 : Int) (a0_3 : Int) (a0_4 : Int) (a0_5 : Int) (a0_6 : Int) (a0_7 : Int) (a0_8 : Int) (a0_9 : Int) (a0_10 : Int) (a0_11 : Int) (a0_12 : Int) (a0_13 : Int) (a0_14 : Int) (a0_15 : Int) (a0_16 : Int) (a0_17 : Int) (a0_18 : Int) (r : Bool) (w : World) (hm : Try.Glob w) (H : impl_InstrOK.f k a0_0 a0_1 a0_2 a0_3 a0_4 a0_5 a0_6 a0_7 a0_8 a0_9 a0_10 a0_11 a0_12 a0_13 a0_14 a0_15 a0_16 a0_17 a0_18 = some r) :
    Calls Try.prog 11 #[.agg #[.int .i64 a0_0, .int .i64 a0_1, .int .i64 a0_2, .int .i64 a0_3, .int .i64 a0_4, .int .i64 a0_5, .int .i64 a0_6, .int .i64 a0_7, .int .i64 a0_8, .int .i64 a0_9, .int .i64 a0_10, .int .i64 a0_11, .int .i64 a0_12, .int .i64 a0_13, .int .i64 a0_14, .int .i64 a0_15, .int .i64 a0_16, .int .i64 a0_17, .int .i64 a0_18]] w fun e w' => e = .returned (.bool r) ∧ Below w.heap.size w w' := by
  unfold impl_InstrOK.f at H
  have HM := Aside0.mk hm
  clear hm
  have hu29 := Try.underlying29
  have hu27 := Try.underlying27
  have HAG : Aside0 (∀ w, (isAgg 3).run Try.prog w = .ok false w) := ⟨fun w => by go_simp⟩
  go_enter Try.func11, Try.ntmps11
  refine cl_start (L := [(0, .agg #[.int .i64 a0_0, .int .i64 a0_1, .int .i64 a0_2, .int .i64 a0_3, .int .i64 a0_4, .int .i64 a0_5, .int .i64 a0_6, .int .i64 a0_7, .int .i64 a0_8, .int .i64 a0_9, .int .i64 a0_10, .int .i64 a0_11, .int .i64 a0_12, .int .i64 a0_13, .int .i64 a0_14, .int .i64 a0_15, .int .i64 a0_16, .int .i64 a0_17, .int .i64 a0_18])]) ?_ (Fr.start (n := 135) rfl rfl rfl)
  refine cl_seq (fun K hK => ?_)
  refine cl_region ?_
  refine fl_box (v := .agg #[.int .i64 a0_0, .int .i64 a0_1, .int .i64 a0_2, .int .i64 a0_3, .int .i64 a0_4, .int .i64 a0_5, .int .i64 a0_6, .int .i64 a0_7, .int .i64 a0_8, .int .i64 a0_9, .int .i64 a0_10, .int .i64 a0_11, .int .i64 a0_12, .int .i64 a0_13, .int .i64 a0_14, .int .i64 a0_15, .int .i64 a0_16, .int .i64 a0_17, .int .i64 a0_18]) (cs := #[.int .i64 a0_0, .int .i64 a0_1, .int .i64 a0_2, .int .i64 a0_3, .int .i64 a0_4, .int .i64 a0_5, .int .i64 a0_6, .int .i64 a0_7, .int .i64 a0_8, .int .i64 a0_9, .int .i64 a0_10, .int .i64 a0_11, .int .i64 a0_12, .int .i64 a0_13, .int .i64 a0_14, .int .i64 a0_15, .int .i64 a0_16, .int .i64 a0_17, .int .i64 a0_18]) (t := 29) rfl rfl (by decide) rfl rfl (fun w => by go_simp) ?_
  intro g1 w1 b1 hb
  have B1 := Aside0.mk b1
  have L1 := Aside0.mk (below_step (Below.refl w.heap.size w) hb)
  clear b1 hb
  have F0 : Aside0 (∀ w, (Instr.fieldAt 29 (.pointer (some ⟨g1, 0, none⟩)) 0).run Try.prog w = .ok (.pointer (some ⟨g1, 0, none⟩)) w) := ⟨fun w => by go_simp⟩
  have F1 : Aside0 (∀ w, (Instr.fieldAt 29 (.pointer (some ⟨g1, 0, none⟩)) 1).run Try.prog w = .ok (.pointer (some ⟨g1, 1, none⟩)) w) := ⟨fun w => by go_simp⟩
  have F2 : Aside0 (∀ w, (Instr.fieldAt 29 (.pointer (some ⟨g1, 0, none⟩)) 2).run Try.prog w = .ok (.pointer (some ⟨g1, 2, none⟩)) w) := ⟨fun w => by go_simp⟩
  have F3 : Aside0 (∀ w, (Instr.fieldAt 29 (.pointer (some ⟨g1, 0, none⟩)) 3).run Try.prog w = .ok (.pointer (some ⟨g1, 3, none⟩)) w) := ⟨fun w => by go_simp⟩
  have F4 : Aside0 (∀ w, (Instr.fieldAt 29 (.pointer (some ⟨g1, 0, none⟩)) 4).run Try.prog w = .ok (.pointer (some ⟨g1, 4, none⟩)) w) := ⟨fun w => by go_simp⟩
  have F5 : Aside0 (∀ w, (Instr.fieldAt 29 (.pointer (some ⟨g1, 0, none⟩)) 5).run Try.prog w = .ok (.pointer (some ⟨g1, 11, none⟩)) w) := ⟨fun w => by go_simp⟩
  have F6 : Aside0 (∀ w, (Instr.fieldAt 29 (.pointer (some ⟨g1, 0, none⟩)) 6).run Try.prog w = .ok (.pointer (some ⟨g1, 18, none⟩)) w) := ⟨fun w => by go_simp⟩
  have F7 : Aside0 (∀ w, (Instr.fieldAt 27 (.pointer (some ⟨g1, 11, none⟩)) 0).run Try.prog w = .ok (.pointer (some ⟨g1, 11, none⟩)) w) := ⟨fun w => by go_simp⟩
  have F8 : Aside0 (∀ w, (Instr.fieldAt 27 (.pointer (some ⟨g1, 11, none⟩)) 1).run Try.prog w = .ok (.pointer (some ⟨g1, 12, none⟩)) w) := ⟨fun w => by go_simp⟩
  refine fl_move _ (Or.inr rfl) rfl rfl (by decide) _ rfl ?_
  refine fl_nil ?_
  refine ql_then ?_
  refine hK _ _ _ ?_
  clear hK K
  refine cl_keep [1, 2] ?_
  simp only [keep, List.filter_cons, List.filter_nil, List.contains_cons, List.contains_nil, Nat.reduceBEq, Bool.or_false, Bool.or_true, Bool.true_or, Bool.false_or, Bool.or_self, if_true, Bool.false_eq_true, if_false]
  refine cl_seq (fun K hK => ?_)
  have J : Aside0 (∀ w1, w1.heap[g1]? = some (.cells #[.int .i64 a0_0, .int .i64 a0_1, .int .i64 a0_2, .int .i64 a0_3, .int .i64 a0_4, .int .i64 a0_5, .int .i64 a0_6, .int .i64 a0_7, .int .i64 a0_8, .int .i64 a0_9, .int .i64 a0_10, .int .i64 a0_11, .int .i64 a0_12, .int .i64 a0_13, .int .i64 a0_14, .int .i64 a0_15, .int .i64 a0_16, .int .i64 a0_17, .int .i64 a0_18] 29 (0, 0)) → Below w.heap.size w w1 → (∃ k1, ((impl_formsOf.f k1 a0_0).bind fun bt368 => (impl_InstrOK.l0 k1 bt368.2 false bt368.1 (bt368.1.length : Int) 0 a0_0 a0_1 a0_2 a0_3 a0_4 a0_5 a0_6 a0_7 a0_8 a0_9 a0_10 a0_11 a0_12 a0_13 a0_14 a0_15 a0_16 a0_17 a0_18)) = some r) → KL K 135 [(2, .bool false), (1, .pointer (some ⟨g1, 0, none⟩))] w1) := ⟨fun w1 b1 l1 H => hK _ _ _ (impl_InstrOK.pB w w1 r g1 a0_0 a0_1 a0_2 a0_3 a0_4 a0_5 a0_6 a0_7 a0_8 a0_9 a0_10 a0_11 a0_12 a0_13 a0_14 a0_15 a0_16 a0_17 a0_18 HM.out b1 l1 H)⟩
  clear hK
  repeat' (first
      | (with_reducible refine ql_then ?_)
      | (with_reducible refine ql_block ?_)
      | (with_reducible refine ql_then_ret ?_)
      | (with_reducible refine ql_block_ret ?_)
      | (with_reducible refine cl_seq (fun K hK => ?_))
      | ((with_reducible refine kl_gate ?_); refine kl_pick [1, 2] ?_; simp only [keep, List.filter_cons, List.filter_nil, List.contains_cons, List.contains_nil, Nat.reduceBEq, Bool.or_false, Bool.or_true, Bool.true_or, Bool.false_or, Bool.or_self, if_true, Bool.false_eq_true, if_false]; first | (exact J.out _ B1.out L1.out (impl_InstrOK.j0_f H)) | (exact J.out _ B1.out L1.out ⟨_, H⟩))
      | ((with_reducible refine hK _ _ _ ?_); clear hK K; refine cl_keep [1, 2, 3, 4, 5, 7, 8, 35, 42, 43, 44, 45, 79, 94, 95, 105] ?_; simp only [keep, List.filter_cons, List.filter_nil, List.contains_cons, List.contains_nil, Nat.reduceBEq, Bool.or_false, Bool.or_true, Bool.true_or, Bool.false_or, Bool.or_self, if_true, Bool.false_eq_true, if_false])
      | (with_reducible refine cl_region ?_)
      | ((with_reducible refine cl_drawn_gate ?_); obtain ⟨C, hC⟩ : ∃ C : World → Prop, C = fun W => W.heap[g1]? = some (.cells #[.int .i64 a0_0, .int .i64 a0_1, .int .i64 a0_2, .int .i64 a0_3, .int .i64 a0_4, .int .i64 a0_5, .int .i64 a0_6, .int .i64 a0_7, .int .i64 a0_8, .int .i64 a0_9, .int .i64 a0_10, .int .i64 a0_11, .int .i64 a0_12, .int .i64 a0_13, .int .i64 a0_14, .int .i64 a0_15, .int .i64 a0_16, .int .i64 a0_17, .int .i64 a0_18] 29 (0, 0)) ∧ Below w.heap.size w W := ⟨_, rfl⟩; have HCL : Aside0 (∀ W W', C W → Below W.heap.size W W' → C W') := ⟨by rw [hC]; rintro W W' ⟨h1, h3⟩ hb; exact ⟨blk_below h1 hb, below_step h3 hb⟩⟩; have HCB : Aside0 (∀ W, C W → W.heap[g1]? = some (.cells #[.int .i64 a0_0, .int .i64 a0_1, .int .i64 a0_2, .int .i64 a0_3, .int .i64 a0_4, .int .i64 a0_5, .int .i64 a0_6, .int .i64 a0_7, .int .i64 a0_8, .int .i64 a0_9, .int .i64 a0_10, .int .i64 a0_11, .int .i64 a0_12, .int .i64 a0_13, .int .i64 a0_14, .int .i64 a0_15, .int .i64 a0_16, .int .i64 a0_17, .int .i64 a0_18] 29 (0, 0))) := ⟨by rw [hC]; exact fun W h => h.1⟩; have HCE : Aside0 (∀ W, C W → Below w.heap.size w W) := ⟨by rw [hC]; exact fun W h => h.2⟩; refine cl_drawn C (by kernel_rfl) (by kernel_rfl) (by rw [hC]; exact ⟨blk_drew B1.out, below_drew1 L1.out⟩) ?_; clear hC B1 L1)
      | (with_reducible refine cl_block ?_)
      | (with_reducible refine cl_skip ?_)
      | (with_reducible refine cl_ret ?_)
      | (with_reducible refine fl_nil ?_)
      | ((with_reducible refine qf_end ?_); intro w3 hw3; have B1 := Aside0.mk (HCB.out _ hw3); have L1 := Aside0.mk (HCE.out _ hw3); clear hw3 HCL HCB HCE; clear C)
      | ((with_reducible refine ql_gate ?_); first
        | ((with_reducible have hr := Option.some.inj H); refine ql_post rfl rfl ?_; exact ⟨congrArg (fun b => Ending.returned (Value.bool b)) hr, L1.out⟩)
        | ((with_reducible have H3 := (if_pos (rfl : true = true)).symm.trans H); clear H; have H := H3; clear H3)
        | ((with_reducible have H3 := (if_neg Bool.false_ne_true).symm.trans H); clear H; have H := H3; clear H3)
        | ((with_reducible have H3 := (if_pos (by assumption)).symm.trans H); clear H; have H := H3; clear H3)
        | ((with_reducible have H3 := bind_two H); clear H; obtain ⟨t, u, h2, H⟩ := H3; have H2 := Aside0.mk h2; clear h2; (try dsimp only at H))
        | ((with_reducible have H3 := bind_one ByteArray H); clear H; obtain ⟨t, h2, H⟩ := H3; have H2 := Aside0.mk h2; clear h2; (try dsimp only at H))
        | ((with_reducible have H3 := bind_one Int H); clear H; obtain ⟨t, h2, H⟩ := H3; have H2 := Aside0.mk h2; clear h2; (try dsimp only at H))
        | ((with_reducible have H3 := bind_one Bool H); clear H; obtain ⟨t, h2, H⟩ := H3; have H2 := Aside0.mk h2; clear h2; (try dsimp only at H); cases t)
        | ((with_reducible have H3 := ite_none H); clear H; obtain ⟨hz, H⟩ := H3; have HZ := Aside0.mk hz; clear hz)
        | ((with_reducible have H3 := ite_split_e H); clear H; rcases H3 with ⟨ht, ht2, H⟩ | ⟨ht, ht2, H⟩)
        | (first | ((with_reducible have H3 := impl_InstrOK.j0_s H); clear H; rcases H3 with ⟨ht, H⟩ | ⟨ht, k1, H⟩ <;> (try simp only [Bool.not_true, Bool.not_false, Bool.false_eq_true, reduceCtorEq] at ht)) | ((with_reducible have H3 := impl_InstrOK.j2_s H); clear H; rcases H3 with ⟨ht, H⟩ | ⟨ht, k1, H⟩ <;> (try simp only [Bool.not_true, Bool.not_false, Bool.false_eq_true, reduceCtorEq] at ht)) | ((with_reducible have H3 := impl_InstrOK.j3_s H); clear H; rcases H3 with ⟨ht, H⟩ | ⟨ht, k1, H⟩ <;> (try simp only [Bool.not_true, Bool.not_false, Bool.false_eq_true, reduceCtorEq] at ht)) | ((with_reducible have H3 := impl_InstrOK.j4_s H); clear H; rcases H3 with ⟨ht, H⟩ | ⟨ht, k1, H⟩ <;> (try simp only [Bool.not_true, Bool.not_false, Bool.false_eq_true, reduceCtorEq] at ht)) | ((with_reducible have H3 := impl_InstrOK.j5_s H); clear H; rcases H3 with ⟨ht, H⟩ | ⟨ht, k1, H⟩ <;> (try simp only [Bool.not_true, Bool.not_false, Bool.false_eq_true, reduceCtorEq] at ht))))
      | ((with_reducible refine cl_gate ?_); first
        | (refine cl_true rfl ?_)
        | (refine cl_false rfl ?_)
        | ((with_reducible have H3 := (if_pos (rfl : true = true)).symm.trans H); clear H; have H := H3; clear H3)
        | ((with_reducible have H3 := (if_neg Bool.false_ne_true).symm.trans H); clear H; have H := H3; clear H3)
        | ((with_reducible have H3 := (if_pos (by assumption)).symm.trans H); clear H; have H := H3; clear H3)
        | ((with_reducible have H3 := bind_two H); clear H; obtain ⟨t, u, h2, H⟩ := H3; have H2 := Aside0.mk h2; clear h2; (try dsimp only at H))
        | ((with_reducible have H3 := bind_one ByteArray H); clear H; obtain ⟨t, h2, H⟩ := H3; have H2 := Aside0.mk h2; clear h2; (try dsimp only at H))
        | ((with_reducible have H3 := bind_one Int H); clear H; obtain ⟨t, h2, H⟩ := H3; have H2 := Aside0.mk h2; clear h2; (try dsimp only at H))
        | ((with_reducible have H3 := bind_one Bool H); clear H; obtain ⟨t, h2, H⟩ := H3; have H2 := Aside0.mk h2; clear h2; (try dsimp only at H); cases t)
        | ((with_reducible have H3 := ite_none H); clear H; obtain ⟨hz, H⟩ := H3; have HZ := Aside0.mk hz; clear hz)
        | ((with_reducible have H3 := ite_split_e H); clear H; rcases H3 with ⟨ht, ht2, H⟩ | ⟨ht, ht2, H⟩)
        | (first | ((with_reducible have H3 := impl_InstrOK.j0_s H); clear H; rcases H3 with ⟨ht, H⟩ | ⟨ht, k1, H⟩ <;> (try simp only [Bool.not_true, Bool.not_false, Bool.false_eq_true, reduceCtorEq] at ht)) | ((with_reducible have H3 := impl_InstrOK.j2_s H); clear H; rcases H3 with ⟨ht, H⟩ | ⟨ht, k1, H⟩ <;> (try simp only [Bool.not_true, Bool.not_false, Bool.false_eq_true, reduceCtorEq] at ht)) | ((with_reducible have H3 := impl_InstrOK.j3_s H); clear H; rcases H3 with ⟨ht, H⟩ | ⟨ht, k1, H⟩ <;> (try simp only [Bool.not_true, Bool.not_false, Bool.false_eq_true, reduceCtorEq] at ht)) | ((with_reducible have H3 := impl_InstrOK.j4_s H); clear H; rcases H3 with ⟨ht, H⟩ | ⟨ht, k1, H⟩ <;> (try simp only [Bool.not_true, Bool.not_false, Bool.false_eq_true, reduceCtorEq] at ht)) | ((with_reducible have H3 := impl_InstrOK.j5_s H); clear H; rcases H3 with ⟨ht, H⟩ | ⟨ht, k1, H⟩ <;> (try simp only [Bool.not_true, Bool.not_false, Bool.false_eq_true, reduceCtorEq] at ht))))
      | ((with_reducible refine fl_gate ?_); first
        | (refine fl_skip rfl rfl (by decide) ?_)
        | (refine fl_move _ (Or.inl rfl) rfl rfl (by decide) _ rfl ?_)
        | (refine fl_move _ (Or.inr rfl) rfl rfl (by decide) _ rfl ?_)
        | (refine fl_pick _ _ _ rfl rfl rfl (by decide) _ rfl _ rfl ?_)
        | (refine fl_addr (v := ?_) _ _ _ rfl rfl rfl (by decide) (.pointer (some ⟨g1, _, none⟩)) rfl ?_ ?_; rotate_left; (focus (with_reducible first | exact F0.out | exact F1.out | exact F2.out | exact F3.out | exact F4.out | exact F5.out | exact F6.out | exact F7.out | exact F8.out)))
        | (refine fl_int 3 _ rfl rfl rfl (by decide) g1 _ rfl 29 _ (0, 0) HAG.out B1.out _ rfl ?_)
        | (refine fl_row 29 _ rfl rfl rfl (by decide) g1 rfl 29 _ (0, 0) _ B1.out hu29 rfl (by kernel_rfl) ?_)
        | (refine fl_mid 27 _ rfl rfl rfl (by decide) g1 4 rfl 29 _ (0, 0) _ ([.int .i64 a0_4, .int .i64 a0_5, .int .i64 a0_6, .int .i64 a0_7, .int .i64 a0_8, .int .i64 a0_9, .int .i64 a0_10]) B1.out rfl hu27 rfl (by kernel_rfl) ?_)
        | (refine fl_mid 27 _ rfl rfl rfl (by decide) g1 11 rfl 29 _ (0, 0) _ ([.int .i64 a0_11, .int .i64 a0_12, .int .i64 a0_13, .int .i64 a0_14, .int .i64 a0_15, .int .i64 a0_16, .int .i64 a0_17]) B1.out rfl hu27 rfl (by kernel_rfl) ?_)
        | (refine fl_bin (v := .string _) _ _ _ _ _ rfl rfl rfl (by decide) (.string (⟨#[32]⟩ : ByteArray)) (.string (_ ++ _)) rfl rfl (fun w' => run_cat3 _ _ HZ.out _ _ w') ?_)
        | (refine fl_bin (v := .string _) _ _ _ _ _ rfl rfl rfl (by decide) (.string (⟨#[32]⟩ : ByteArray)) (.string _) rfl rfl (fun w' => run_cat1 _ HZ.out _ _ w') ?_)
        | (refine fl_bin (v := .string _) _ _ _ _ _ rfl rfl rfl (by decide) (.string _) (.string (⟨#[32]⟩ : ByteArray)) rfl rfl (fun w' => run_cat2 _ HZ.out _ _ w') ?_)
        | (refine fl_bin (v := ?_) _ _ _ _ _ rfl rfl rfl (by decide) (.int .i64 _) (.int .i64 _) rfl rfl ?_ ?_; rotate_left; (focus (intro w'; go_simp; with_reducible first | exact (rfl : Value.bool true = _) | exact (rfl : Value.bool false = _) | exact (rfl : Result.ok (Value.bool true) w' = _) | exact (rfl : Result.ok (Value.bool false) w' = _))))
        | (refine fl_not _ _ rfl rfl rfl (by decide) _ rfl ?_)
        | (refine fl_max (v := .int .i64 (mx 1 a0_1)) _ _ _ rfl rfl rfl (by decide) (.int .i64 1) (.int .i64 a0_1) rfl rfl (fun w' => by go_simp; first | done | rfl | (unfold mx; rfl)) ?_)
        | (refine fl_ext0 _ rfl rfl rfl (by decide) _ _ rfl ?_)
        | (refine fl_ext1 _ rfl rfl rfl (by decide) _ _ rfl ?_)
        | (refine fl_call 29 _ _ rfl rfl rfl (by decide) #[.int .i64 a0_0] rfl (fun _ => by kernel_rfl) _ (impl_isOp.calls a0_0 _ _ H2.out) ?_; rintro e w2 ⟨rfl, ⟨nd, rfl⟩⟩; refine ⟨_, rfl, ?_⟩; have B2 := Aside0.mk (blk_drewN B1.out nd); have L2 := Aside0.mk (pw_below_drewN L1.out nd); clear B1 L1; have B1 := B2; have L1 := L2; clear B2 L2; generalize World.drewN _ nd = w3 at B1 L1 ⊢)
        | (refine fl_call 30 _ _ rfl rfl rfl (by decide) #[.int .i64 _, .int .i64 _, .int .i64 _] rfl (fun _ => by kernel_rfl) _ (impl_in30 _ _ _ _ _ H2.out) ?_; rintro e w2 ⟨rfl, ⟨nd, rfl⟩⟩; refine ⟨_, rfl, ?_⟩; have B2 := Aside0.mk (blk_drewN B1.out nd); have L2 := Aside0.mk (pw_below_drewN L1.out nd); clear B1 L1; have B1 := B2; have L1 := L2; clear B2 L2; generalize World.drewN _ nd = w3 at B1 L1 ⊢)
        | (refine fl_call 31 _ _ rfl rfl rfl (by decide) #[.int .i64 a0_0] rfl (fun _ => by kernel_rfl) _ (impl_hasCond.calls a0_0 _ _ H2.out) ?_; rintro e w2 ⟨rfl, ⟨nd, rfl⟩⟩; refine ⟨_, rfl, ?_⟩; have B2 := Aside0.mk (blk_drewN B1.out nd); have L2 := Aside0.mk (pw_below_drewN L1.out nd); clear B1 L1; have B1 := B2; have L1 := L2; clear B2 L2; generalize World.drewN _ nd = w3 at B1 L1 ⊢)
        | (refine fl_call 38 _ _ rfl rfl rfl (by decide) #[.int .i64 a0_0] rfl (fun _ => by kernel_rfl) _ (impl_isShift.calls a0_0 _ _ H2.out) ?_; rintro e w2 ⟨rfl, ⟨nd, rfl⟩⟩; refine ⟨_, rfl, ?_⟩; have B2 := Aside0.mk (blk_drewN B1.out nd); have L2 := Aside0.mk (pw_below_drewN L1.out nd); clear B1 L1; have B1 := B2; have L1 := L2; clear B2 L2; generalize World.drewN _ nd = w3 at B1 L1 ⊢)
        | (refine fl_call 34 _ _ rfl rfl rfl (by decide) #[.agg #[.int .i64 a0_0, .int .i64 a0_1, .int .i64 a0_2, .int .i64 a0_3, .int .i64 a0_4, .int .i64 a0_5, .int .i64 a0_6, .int .i64 a0_7, .int .i64 a0_8, .int .i64 a0_9, .int .i64 a0_10, .int .i64 a0_11, .int .i64 a0_12, .int .i64 a0_13, .int .i64 a0_14, .int .i64 a0_15, .int .i64 a0_16, .int .i64 a0_17, .int .i64 a0_18]] rfl (fun _ => by kernel_rfl) _ (impl_isFrom.calls a0_0 a0_1 a0_2 a0_3 a0_4 a0_5 a0_6 a0_7 a0_8 a0_9 a0_10 a0_11 a0_12 a0_13 a0_14 a0_15 a0_16 a0_17 a0_18 _ _ H2.out) ?_; rintro e w2 ⟨rfl, hb⟩; refine ⟨_, rfl, ?_⟩; have B2 := Aside0.mk (blk_below B1.out hb); have L2 := Aside0.mk (below_step L1.out hb); clear B1 L1 hb; have B1 := B2; have L1 := L2; clear B2 L2)
        | (refine fl_call 37 _ _ rfl rfl rfl (by decide) #[.agg #[.int .i64 a0_0, .int .i64 a0_1, .int .i64 a0_2, .int .i64 a0_3, .int .i64 a0_4, .int .i64 a0_5, .int .i64 a0_6, .int .i64 a0_7, .int .i64 a0_8, .int .i64 a0_9, .int .i64 a0_10, .int .i64 a0_11, .int .i64 a0_12, .int .i64 a0_13, .int .i64 a0_14, .int .i64 a0_15, .int .i64 a0_16, .int .i64 a0_17, .int .i64 a0_18]] rfl (fun _ => by kernel_rfl) _ (impl_isNumber.calls _ a0_0 a0_1 a0_2 a0_3 a0_4 a0_5 a0_6 a0_7 a0_8 a0_9 a0_10 a0_11 a0_12 a0_13 a0_14 a0_15 a0_16 a0_17 a0_18 _ _ H2.out) ?_; rintro e w2 ⟨rfl, hb⟩; refine ⟨_, rfl, ?_⟩; have B2 := Aside0.mk (blk_below B1.out hb); have L2 := Aside0.mk (below_step L1.out hb); clear B1 L1 hb; have B1 := B2; have L1 := L2; clear B2 L2)
        | (refine fl_call 40 _ _ rfl rfl rfl (by decide) #[.agg #[.int .i64 a0_0, .int .i64 a0_1, .int .i64 a0_2, .int .i64 a0_3, .int .i64 a0_4, .int .i64 a0_5, .int .i64 a0_6, .int .i64 a0_7, .int .i64 a0_8, .int .i64 a0_9, .int .i64 a0_10, .int .i64 a0_11, .int .i64 a0_12, .int .i64 a0_13, .int .i64 a0_14, .int .i64 a0_15, .int .i64 a0_16, .int .i64 a0_17, .int .i64 a0_18]] rfl (fun _ => by kernel_rfl) _ (impl_needsRex.calls _ a0_0 a0_1 a0_2 a0_3 a0_4 a0_5 a0_6 a0_7 a0_8 a0_9 a0_10 a0_11 a0_12 a0_13 a0_14 a0_15 a0_16 a0_17 a0_18 _ _ H2.out) ?_; rintro e w2 ⟨rfl, hb⟩; refine ⟨_, rfl, ?_⟩; have B2 := Aside0.mk (blk_below B1.out hb); have L2 := Aside0.mk (below_step L1.out hb); clear B1 L1 hb; have B1 := B2; have L1 := L2; clear B2 L2)
        | (refine fl_call 35 _ _ rfl rfl rfl (by decide) #[.string _, .string _] rfl (fun _ => by kernel_rfl) _ (strings_Contains.calls _ _ _ w _ HM.out L1.out H2.out) ?_; rintro e w2 ⟨rfl, ⟨nd, rfl⟩⟩; refine ⟨_, rfl, ?_⟩; have B2 := Aside0.mk (blk_drewN B1.out nd); have L2 := Aside0.mk (pw_below_drewN L1.out nd); clear B1 L1; have B1 := B2; have L1 := L2; clear B2 L2; generalize World.drewN _ nd = w3 at B1 L1 ⊢)
        | (refine fl_call 39 _ _ rfl rfl rfl (by decide) #[.agg #[.int .i64 a0_4, .int .i64 a0_5, .int .i64 a0_6, .int .i64 a0_7, .int .i64 a0_8, .int .i64 a0_9, .int .i64 a0_10]] rfl (fun _ => by kernel_rfl) _ (impl_hasHigh.calls a0_4 a0_5 a0_6 a0_7 a0_8 a0_9 a0_10 _ _ H2.out) ?_; rintro e w2 ⟨rfl, hb⟩; refine ⟨_, rfl, ?_⟩; have B2 := Aside0.mk (blk_below B1.out hb); have L2 := Aside0.mk (below_step L1.out hb); clear B1 L1 hb; have B1 := B2; have L1 := L2; clear B2 L2)
        | (refine fl_call 39 _ _ rfl rfl rfl (by decide) #[.agg #[.int .i64 a0_11, .int .i64 a0_12, .int .i64 a0_13, .int .i64 a0_14, .int .i64 a0_15, .int .i64 a0_16, .int .i64 a0_17]] rfl (fun _ => by kernel_rfl) _ (impl_hasHigh.calls a0_11 a0_12 a0_13 a0_14 a0_15 a0_16 a0_17 _ _ H2.out) ?_; rintro e w2 ⟨rfl, hb⟩; refine ⟨_, rfl, ?_⟩; have B2 := Aside0.mk (blk_below B1.out hb); have L2 := Aside0.mk (below_step L1.out hb); clear B1 L1 hb; have B1 := B2; have L1 := L2; clear B2 L2)
        | (refine fl_call 32 _ _ rfl rfl rfl (by decide) #[.int .i64 a0_0] rfl (fun _ => by kernel_rfl) _ (impl_formsOf.calls _ a0_0 _ _ _ H2.out) ?_; rintro e w2 ⟨v0, rfl, ho, hb⟩; refine ⟨_, rfl, ?_⟩; have B2 := Aside0.mk (blk_below B1.out hb); have L2 := Aside0.mk (below_step L1.out hb); clear B1 L1 hb; have B1 := B2; have L1 := L2; clear B2 L2; have HO := Aside0.mk ho; clear ho; obtain ⟨Ao, co, eo⟩ := Kd.R_slice HO.out; subst eo)
        | ((with_reducible have H3 := (if_pos (rfl : true = true)).symm.trans H); clear H; have H := H3; clear H3)
        | ((with_reducible have H3 := (if_neg Bool.false_ne_true).symm.trans H); clear H; have H := H3; clear H3)
        | ((with_reducible have H3 := (if_pos (by assumption)).symm.trans H); clear H; have H := H3; clear H3)
        | ((with_reducible have H3 := bind_two H); clear H; obtain ⟨t, u, h2, H⟩ := H3; have H2 := Aside0.mk h2; clear h2; (try dsimp only at H))
        | ((with_reducible have H3 := bind_one ByteArray H); clear H; obtain ⟨t, h2, H⟩ := H3; have H2 := Aside0.mk h2; clear h2; (try dsimp only at H))
        | ((with_reducible have H3 := bind_one Int H); clear H; obtain ⟨t, h2, H⟩ := H3; have H2 := Aside0.mk h2; clear h2; (try dsimp only at H))
        | ((with_reducible have H3 := bind_one Bool H); clear H; obtain ⟨t, h2, H⟩ := H3; have H2 := Aside0.mk h2; clear h2; (try dsimp only at H); cases t)
        | ((with_reducible have H3 := ite_none H); clear H; obtain ⟨hz, H⟩ := H3; have HZ := Aside0.mk hz; clear hz)
        | ((with_reducible have H3 := ite_split_e H); clear H; rcases H3 with ⟨ht, ht2, H⟩ | ⟨ht, ht2, H⟩)
        | (first | ((with_reducible have H3 := impl_InstrOK.j0_s H); clear H; rcases H3 with ⟨ht, H⟩ | ⟨ht, k1, H⟩ <;> (try simp only [Bool.not_true, Bool.not_false, Bool.false_eq_true, reduceCtorEq] at ht)) | ((with_reducible have H3 := impl_InstrOK.j2_s H); clear H; rcases H3 with ⟨ht, H⟩ | ⟨ht, k1, H⟩ <;> (try simp only [Bool.not_true, Bool.not_false, Bool.false_eq_true, reduceCtorEq] at ht)) | ((with_reducible have H3 := impl_InstrOK.j3_s H); clear H; rcases H3 with ⟨ht, H⟩ | ⟨ht, k1, H⟩ <;> (try simp only [Bool.not_true, Bool.not_false, Bool.false_eq_true, reduceCtorEq] at ht)) | ((with_reducible have H3 := impl_InstrOK.j4_s H); clear H; rcases H3 with ⟨ht, H⟩ | ⟨ht, k1, H⟩ <;> (try simp only [Bool.not_true, Bool.not_false, Bool.false_eq_true, reduceCtorEq] at ht)) | ((with_reducible have H3 := impl_InstrOK.j5_s H); clear H; rcases H3 with ⟨ht, H⟩ | ⟨ht, k1, H⟩ <;> (try simp only [Bool.not_true, Bool.not_false, Bool.false_eq_true, reduceCtorEq] at ht))))
      | ((with_reducible refine qf_gate ?_); first
        | (refine qf_skip rfl rfl (by decide) ?_)
        | (refine qf_move _ (Or.inl rfl) rfl rfl (by decide) _ rfl ?_)
        | (refine qf_move _ (Or.inr rfl) rfl rfl (by decide) _ rfl ?_)
        | (refine qf_pick _ _ _ rfl rfl rfl (by decide) _ rfl _ rfl ?_)
        | (refine qf_addr (v := ?_) _ _ _ rfl rfl rfl (by decide) (.pointer (some ⟨g1, _, none⟩)) rfl ?_ ?_; rotate_left; (focus (with_reducible first | exact F0.out | exact F1.out | exact F2.out | exact F3.out | exact F4.out | exact F5.out | exact F6.out | exact F7.out | exact F8.out)))
        | (refine qf_int 3 _ rfl rfl rfl (by decide) g1 _ rfl 29 _ (0, 0) HAG.out HCB.out _ rfl ?_)
        | (refine qf_row 29 _ rfl rfl rfl (by decide) g1 rfl 29 _ (0, 0) _ HCB.out hu29 rfl (by kernel_rfl) ?_)
        | (refine qf_mid 27 _ rfl rfl rfl (by decide) g1 4 rfl 29 _ (0, 0) _ ([.int .i64 a0_4, .int .i64 a0_5, .int .i64 a0_6, .int .i64 a0_7, .int .i64 a0_8, .int .i64 a0_9, .int .i64 a0_10]) HCB.out rfl hu27 rfl (by kernel_rfl) ?_)
        | (refine qf_mid 27 _ rfl rfl rfl (by decide) g1 11 rfl 29 _ (0, 0) _ ([.int .i64 a0_11, .int .i64 a0_12, .int .i64 a0_13, .int .i64 a0_14, .int .i64 a0_15, .int .i64 a0_16, .int .i64 a0_17]) HCB.out rfl hu27 rfl (by kernel_rfl) ?_)
        | (refine qf_bin (v := .string _) _ _ _ _ _ rfl rfl rfl (by decide) (.string _) (.string _) rfl rfl (fun w' => run_cat _ _ HZ.out _ _ w') ?_)
        | (refine qf_bin (v := ?_) _ _ _ _ _ rfl rfl rfl (by decide) (.int .i64 _) (.int .i64 _) rfl rfl ?_ ?_; rotate_left; (focus (intro w'; go_simp; with_reducible first | exact (rfl : Value.bool true = _) | exact (rfl : Value.bool false = _) | exact (rfl : Result.ok (Value.bool true) w' = _) | exact (rfl : Result.ok (Value.bool false) w' = _))))
        | (refine qf_not _ _ rfl rfl rfl (by decide) _ rfl ?_)
        | (refine qf_max (v := .int .i64 (mx 1 a0_1)) _ _ _ rfl rfl rfl (by decide) (.int .i64 1) (.int .i64 a0_1) rfl rfl (fun w' => by go_simp; first | done | rfl | (unfold mx; rfl)) ?_)
        | (refine qf_call 33 _ _ rfl rfl rfl (by decide) #[.agg #[.int .i64 a0_4, .int .i64 a0_5, .int .i64 a0_6, .int .i64 a0_7, .int .i64 a0_8, .int .i64 a0_9, .int .i64 a0_10]] rfl (fun _ => by kernel_rfl) (.string _) (fun W hW => (impl_Operand_letter.calls a0_4 a0_5 a0_6 a0_7 a0_8 a0_9 a0_10 _ W H2.out).mono fun _ _ ⟨he, hb⟩ => ⟨he, HCL.out _ _ hW hb⟩) ?_)
        | (refine qf_call 33 _ _ rfl rfl rfl (by decide) #[.agg #[.int .i64 a0_11, .int .i64 a0_12, .int .i64 a0_13, .int .i64 a0_14, .int .i64 a0_15, .int .i64 a0_16, .int .i64 a0_17]] rfl (fun _ => by kernel_rfl) (.string _) (fun W hW => (impl_Operand_letter.calls a0_11 a0_12 a0_13 a0_14 a0_15 a0_16 a0_17 _ W H2.out).mono fun _ _ ⟨he, hb⟩ => ⟨he, HCL.out _ _ hW hb⟩) ?_)
        | (refine qf_call 14 _ _ rfl rfl rfl (by decide) #[.agg #[.int .i64 a0_4, .int .i64 a0_5, .int .i64 a0_6, .int .i64 a0_7, .int .i64 a0_8, .int .i64 a0_9, .int .i64 a0_10], .int .i64 _] rfl (fun _ => by kernel_rfl) (.bool _) (fun W hW => (impl_OperandOK.calls a0_4 a0_5 a0_6 a0_7 a0_8 a0_9 a0_10 _ _ W H2.out).mono fun _ _ ⟨he, hb⟩ => ⟨he, HCL.out _ _ hW hb⟩) ?_)
        | (refine qf_call 14 _ _ rfl rfl rfl (by decide) #[.agg #[.int .i64 a0_11, .int .i64 a0_12, .int .i64 a0_13, .int .i64 a0_14, .int .i64 a0_15, .int .i64 a0_16, .int .i64 a0_17], .int .i64 _] rfl (fun _ => by kernel_rfl) (.bool _) (fun W hW => (impl_OperandOK.calls a0_11 a0_12 a0_13 a0_14 a0_15 a0_16 a0_17 _ _ W H2.out).mono fun _ _ ⟨he, hb⟩ => ⟨he, HCL.out _ _ hW hb⟩) ?_)
        | (refine qf_call 36 _ _ rfl rfl rfl (by decide) #[.agg #[.int .i64 a0_0, .int .i64 a0_1, .int .i64 a0_2, .int .i64 a0_3, .int .i64 a0_4, .int .i64 a0_5, .int .i64 a0_6, .int .i64 a0_7, .int .i64 a0_8, .int .i64 a0_9, .int .i64 a0_10, .int .i64 a0_11, .int .i64 a0_12, .int .i64 a0_13, .int .i64 a0_14, .int .i64 a0_15, .int .i64 a0_16, .int .i64 a0_17, .int .i64 a0_18]] rfl (fun _ => by kernel_rfl) (.int .i64 _) (fun W hW => (impl_srcSize.calls a0_0 a0_1 a0_2 a0_3 a0_4 a0_5 a0_6 a0_7 a0_8 a0_9 a0_10 a0_11 a0_12 a0_13 a0_14 a0_15 a0_16 a0_17 a0_18 _ W H2.out).mono fun _ _ ⟨he, hb⟩ => ⟨he, HCL.out _ _ hW hb⟩) ?_)
        | ((with_reducible have H3 := (if_pos (rfl : true = true)).symm.trans H); clear H; have H := H3; clear H3)
        | ((with_reducible have H3 := (if_neg Bool.false_ne_true).symm.trans H); clear H; have H := H3; clear H3)
        | ((with_reducible have H3 := (if_pos (by assumption)).symm.trans H); clear H; have H := H3; clear H3)
        | ((with_reducible have H3 := bind_two H); clear H; obtain ⟨t, u, h2, H⟩ := H3; have H2 := Aside0.mk h2; clear h2; (try dsimp only at H))
        | ((with_reducible have H3 := bind_one ByteArray H); clear H; obtain ⟨t, h2, H⟩ := H3; have H2 := Aside0.mk h2; clear h2; (try dsimp only at H))
        | ((with_reducible have H3 := bind_one Int H); clear H; obtain ⟨t, h2, H⟩ := H3; have H2 := Aside0.mk h2; clear h2; (try dsimp only at H))
        | ((with_reducible have H3 := bind_one Bool H); clear H; obtain ⟨t, h2, H⟩ := H3; have H2 := Aside0.mk h2; clear h2; (try dsimp only at H); cases t)
        | ((with_reducible have H3 := ite_none H); clear H; obtain ⟨hz, H⟩ := H3; have HZ := Aside0.mk hz; clear hz)
        | ((with_reducible have H3 := ite_split_e H); clear H; rcases H3 with ⟨ht, ht2, H⟩ | ⟨ht, ht2, H⟩)
        | (first | ((with_reducible have H3 := impl_InstrOK.j0_s H); clear H; rcases H3 with ⟨ht, H⟩ | ⟨ht, k1, H⟩ <;> (try simp only [Bool.not_true, Bool.not_false, Bool.false_eq_true, reduceCtorEq] at ht)) | ((with_reducible have H3 := impl_InstrOK.j2_s H); clear H; rcases H3 with ⟨ht, H⟩ | ⟨ht, k1, H⟩ <;> (try simp only [Bool.not_true, Bool.not_false, Bool.false_eq_true, reduceCtorEq] at ht)) | ((with_reducible have H3 := impl_InstrOK.j3_s H); clear H; rcases H3 with ⟨ht, H⟩ | ⟨ht, k1, H⟩ <;> (try simp only [Bool.not_true, Bool.not_false, Bool.false_eq_true, reduceCtorEq] at ht)) | ((with_reducible have H3 := impl_InstrOK.j4_s H); clear H; rcases H3 with ⟨ht, H⟩ | ⟨ht, k1, H⟩ <;> (try simp only [Bool.not_true, Bool.not_false, Bool.false_eq_true, reduceCtorEq] at ht)) | ((with_reducible have H3 := impl_InstrOK.j5_s H); clear H; rcases H3 with ⟨ht, H⟩ | ⟨ht, k1, H⟩ <;> (try simp only [Bool.not_true, Bool.not_false, Bool.false_eq_true, reduceCtorEq] at ht)))))
end Go.Proofs.Ytgipadecllofkaa.PFnExactInstrOK
