-- Written for this claim by the session's own program, out of the translation. Not trusted: Lean checks it.
import Derived.Test.YtgipadecllofkaaPFnExactInstrOKx0
import Derived.Test.YtgipadecllofkaaPFnExactInstrOKx2
import Derived.Test.YtgipadecllofkaaPFnExactInstrOKx4
import Derived.Test.YtgipadecllofkaaFL
namespace Go.Proofs.Ytgipadecllofkaa.PFnExactInstrOK
open Go.RowKit Go.Proofs.YtgipadecllofkaaW.PrintWords Go.Proofs.YtgipadecllofkaaW.PrintLast Go.Proofs.YtgipadecllofkaaW.PrintMore
set_option linter.unusedVariables false
set_option linter.unusedSimpArgs false

/-! ### spec_l05Shape: function 65 -/
def prs_rrmrrimi : List ByteArray := [(⟨#[114, 114]⟩ : ByteArray), (⟨#[109, 114]⟩ : ByteArray), (⟨#[114, 105]⟩ : ByteArray), (⟨#[109, 105]⟩ : ByteArray)]
def prs_rrmrrmrimi : List ByteArray := [(⟨#[114, 114]⟩ : ByteArray), (⟨#[109, 114]⟩ : ByteArray), (⟨#[114, 109]⟩ : ByteArray), (⟨#[114, 105]⟩ : ByteArray), (⟨#[109, 105]⟩ : ByteArray)]
def prs_rrmr : List ByteArray := [(⟨#[114, 114]⟩ : ByteArray), (⟨#[109, 114]⟩ : ByteArray)]
def prs_romo : List ByteArray := [(⟨#[114, 48]⟩ : ByteArray), (⟨#[109, 48]⟩ : ByteArray)]
def prs_orom : List ByteArray := [(⟨#[48, 114]⟩ : ByteArray), (⟨#[48, 109]⟩ : ByteArray)]
def prs_rrrm : List ByteArray := [(⟨#[114, 114]⟩ : ByteArray), (⟨#[114, 109]⟩ : ByteArray)]
def prs_rm : List ByteArray := [(⟨#[114, 109]⟩ : ByteArray)]
def prs_oromoi : List ByteArray := [(⟨#[48, 114]⟩ : ByteArray), (⟨#[48, 109]⟩ : ByteArray), (⟨#[48, 105]⟩ : ByteArray)]
def prs_oi : List ByteArray := [(⟨#[48, 105]⟩ : ByteArray)]
def prs_oo : List ByteArray := [(⟨#[48, 48]⟩ : ByteArray)]
def spec_l05Shape.g (k : Nat) (s m : Bool) (a0_0 a0_1 a0_2 a0_3 a0_4 a0_5 a0_6 a0_7 a0_8 a0_9 a0_10 a0_11 a0_12 a0_13 a0_14 a0_15 a0_16 a0_17 a0_18 : Int) : Option Bool :=
  if decide (a0_0 ≤ 8) = true then (if s = true then ((spec_l05Two.f k a0_0 a0_1 a0_2 a0_3 a0_4 a0_5 a0_6 a0_7 a0_8 a0_9 a0_10 a0_11 a0_12 a0_13 a0_14 a0_15 a0_16 a0_17 a0_18 prs_rrmrrmrimi).bind fun t => if t = true then spec_l05Fits.f k a0_17 a0_1 else some false) else some false)
  else if (a0_0 == 9) = true then (if (a0_1 == 8) = true then (if (a0_4 == 1) = true then (if s = true then ((spec_l05Two.f k a0_0 a0_1 a0_2 a0_3 a0_4 a0_5 a0_6 a0_7 a0_8 a0_9 a0_10 a0_11 a0_12 a0_13 a0_14 a0_15 a0_16 a0_17 a0_18 prs_rrmrrmrimi).bind fun t => if t = true then some true else some false) else some false) else (if s = true then ((spec_l05Two.f k a0_0 a0_1 a0_2 a0_3 a0_4 a0_5 a0_6 a0_7 a0_8 a0_9 a0_10 a0_11 a0_12 a0_13 a0_14 a0_15 a0_16 a0_17 a0_18 prs_rrmrrmrimi).bind fun t => if t = true then spec_l05Fits.f k a0_17 a0_1 else some false) else some false)) else (if s = true then ((spec_l05Two.f k a0_0 a0_1 a0_2 a0_3 a0_4 a0_5 a0_6 a0_7 a0_8 a0_9 a0_10 a0_11 a0_12 a0_13 a0_14 a0_15 a0_16 a0_17 a0_18 prs_rrmrrmrimi).bind fun t => if t = true then spec_l05Fits.f k a0_17 a0_1 else some false) else some false))
  else if (a0_0 == 10) = true then (if s = true then ((spec_l05Two.f k a0_0 a0_1 a0_2 a0_3 a0_4 a0_5 a0_6 a0_7 a0_8 a0_9 a0_10 a0_11 a0_12 a0_13 a0_14 a0_15 a0_16 a0_17 a0_18 prs_rrmrrimi).bind fun t => if t = true then spec_l05Fits.f k a0_17 a0_1 else some false) else some false)
  else if (a0_0 == 28) = true then (if s = true then ((spec_l05Two.f k a0_0 a0_1 a0_2 a0_3 a0_4 a0_5 a0_6 a0_7 a0_8 a0_9 a0_10 a0_11 a0_12 a0_13 a0_14 a0_15 a0_16 a0_17 a0_18 prs_rrmr).bind fun t => if t = true then some true else some false) else some false)
  else if (a0_0 == 11) = true then (if s = true then ((spec_l05Two.f k a0_0 a0_1 a0_2 a0_3 a0_4 a0_5 a0_6 a0_7 a0_8 a0_9 a0_10 a0_11 a0_12 a0_13 a0_14 a0_15 a0_16 a0_17 a0_18 prs_romo).bind fun t => if t = true then some true else some false) else some false)
  else if (a0_0 == 12) = true then (if s = true then ((spec_l05Two.f k a0_0 a0_1 a0_2 a0_3 a0_4 a0_5 a0_6 a0_7 a0_8 a0_9 a0_10 a0_11 a0_12 a0_13 a0_14 a0_15 a0_16 a0_17 a0_18 prs_romo).bind fun t => if t = true then some true else some false) else some false)
  else if (a0_0 == 18) = true then (if s = true then ((spec_l05Two.f k a0_0 a0_1 a0_2 a0_3 a0_4 a0_5 a0_6 a0_7 a0_8 a0_9 a0_10 a0_11 a0_12 a0_13 a0_14 a0_15 a0_16 a0_17 a0_18 prs_romo).bind fun t => if t = true then some true else some false) else some false)
  else if (a0_0 == 19) = true then (if s = true then ((spec_l05Two.f k a0_0 a0_1 a0_2 a0_3 a0_4 a0_5 a0_6 a0_7 a0_8 a0_9 a0_10 a0_11 a0_12 a0_13 a0_14 a0_15 a0_16 a0_17 a0_18 prs_romo).bind fun t => if t = true then some true else some false) else some false)
  else if decide (13 ≤ a0_0 ∧ a0_0 ≤ 16) = true then (if s = true then ((spec_l05Two.f k a0_0 a0_1 a0_2 a0_3 a0_4 a0_5 a0_6 a0_7 a0_8 a0_9 a0_10 a0_11 a0_12 a0_13 a0_14 a0_15 a0_16 a0_17 a0_18 prs_orom).bind fun t => if t = true then some true else some false) else some false)
  else if (a0_0 == 17) = true then (if m = true then ((spec_l05Two.f k a0_0 a0_1 a0_2 a0_3 a0_4 a0_5 a0_6 a0_7 a0_8 a0_9 a0_10 a0_11 a0_12 a0_13 a0_14 a0_15 a0_16 a0_17 a0_18 prs_rrrm).bind fun t => if t = true then some true else some false) else some false)
  else if (a0_0 == 36) = true then (if m = true then ((spec_l05Two.f k a0_0 a0_1 a0_2 a0_3 a0_4 a0_5 a0_6 a0_7 a0_8 a0_9 a0_10 a0_11 a0_12 a0_13 a0_14 a0_15 a0_16 a0_17 a0_18 prs_rrrm).bind fun t => if t = true then some true else some false) else some false)
  else if decide (20 ≤ a0_0 ∧ a0_0 ≤ 24) = true then (if (a0_11 == 1) = true then (if (a0_12 != 1) = true then some false else (if s = true then ((spec_l05Two.f k a0_0 a0_1 a0_2 a0_3 a0_4 a0_5 a0_6 a0_7 a0_8 a0_9 a0_10 a0_11 a0_12 a0_13 a0_14 a0_15 a0_16 a0_17 a0_18 prs_rrmrrimi).bind fun t => if t = true then (if decide (0 ≤ a0_17 ∧ a0_17 ≤ 255) = true then some true else some false) else some false) else some false)) else (if s = true then ((spec_l05Two.f k a0_0 a0_1 a0_2 a0_3 a0_4 a0_5 a0_6 a0_7 a0_8 a0_9 a0_10 a0_11 a0_12 a0_13 a0_14 a0_15 a0_16 a0_17 a0_18 prs_rrmrrimi).bind fun t => if t = true then (if decide (0 ≤ a0_17 ∧ a0_17 ≤ 255) = true then some true else some false) else some false) else some false))
  else if (a0_0 == 25) = true then (if m = true then ((spec_l05Two.f k a0_0 a0_1 a0_2 a0_3 a0_4 a0_5 a0_6 a0_7 a0_8 a0_9 a0_10 a0_11 a0_12 a0_13 a0_14 a0_15 a0_16 a0_17 a0_18 prs_rm).bind fun t => if t = true then some true else some false) else some false)
  else if (a0_0 == 26) = true then ((spec_l05Two.f k a0_0 a0_1 a0_2 a0_3 a0_4 a0_5 a0_6 a0_7 a0_8 a0_9 a0_10 a0_11 a0_12 a0_13 a0_14 a0_15 a0_16 a0_17 a0_18 prs_rrrm).bind fun t => if t = true then (if m = true then (if (a0_3 == 1) = true then some true else if (a0_3 == 2) = true then (if decide (2 < a0_1) = true then some true else (if (a0_3 == 4) = true then (if (a0_1 == 8) = true then (if (a0_0 == 27) = true then some true else some false) else some false) else some false)) else (if (a0_3 == 4) = true then (if (a0_1 == 8) = true then (if (a0_0 == 27) = true then some true else some false) else some false) else some false)) else some false) else some false)
  else if (a0_0 == 27) = true then ((spec_l05Two.f k a0_0 a0_1 a0_2 a0_3 a0_4 a0_5 a0_6 a0_7 a0_8 a0_9 a0_10 a0_11 a0_12 a0_13 a0_14 a0_15 a0_16 a0_17 a0_18 prs_rrrm).bind fun t => if t = true then (if m = true then (if (a0_3 == 1) = true then some true else if (a0_3 == 2) = true then (if decide (2 < a0_1) = true then some true else (if (a0_3 == 4) = true then (if (a0_1 == 8) = true then (if (a0_0 == 27) = true then some true else some false) else some false) else some false)) else (if (a0_3 == 4) = true then (if (a0_1 == 8) = true then (if (a0_0 == 27) = true then some true else some false) else some false) else some false)) else some false) else some false)
  else if (a0_0 == 29) = true then (if (a0_1 == 8) = true then ((spec_l05Two.f k a0_0 a0_1 a0_2 a0_3 a0_4 a0_5 a0_6 a0_7 a0_8 a0_9 a0_10 a0_11 a0_12 a0_13 a0_14 a0_15 a0_16 a0_17 a0_18 prs_oromoi).bind fun t => if t = true then spec_l05Fits.f k a0_17 4 else some false) else some false)
  else if (a0_0 == 31) = true then (if (a0_1 == 8) = true then ((spec_l05Two.f k a0_0 a0_1 a0_2 a0_3 a0_4 a0_5 a0_6 a0_7 a0_8 a0_9 a0_10 a0_11 a0_12 a0_13 a0_14 a0_15 a0_16 a0_17 a0_18 prs_oromoi).bind fun t => if t = true then spec_l05Fits.f k a0_17 4 else some false) else some false)
  else if (a0_0 == 32) = true then (if (a0_1 == 8) = true then ((spec_l05Two.f k a0_0 a0_1 a0_2 a0_3 a0_4 a0_5 a0_6 a0_7 a0_8 a0_9 a0_10 a0_11 a0_12 a0_13 a0_14 a0_15 a0_16 a0_17 a0_18 prs_oromoi).bind fun t => if t = true then spec_l05Fits.f k a0_17 4 else some false) else some false)
  else if (a0_0 == 30) = true then (if (a0_1 == 8) = true then ((spec_l05Two.f k a0_0 a0_1 a0_2 a0_3 a0_4 a0_5 a0_6 a0_7 a0_8 a0_9 a0_10 a0_11 a0_12 a0_13 a0_14 a0_15 a0_16 a0_17 a0_18 prs_romo).bind fun t => if t = true then some true else some false) else some false)
  else if (a0_0 == 33) = true then (if (a0_1 == 0) = true then ((spec_l05Two.f k a0_0 a0_1 a0_2 a0_3 a0_4 a0_5 a0_6 a0_7 a0_8 a0_9 a0_10 a0_11 a0_12 a0_13 a0_14 a0_15 a0_16 a0_17 a0_18 prs_oi).bind fun t => if t = true then spec_l05Fits.f k a0_17 4 else some false) else some false)
  else if (a0_0 == 35) = true then (if (a0_1 == 1) = true then ((spec_l05Two.f k a0_0 a0_1 a0_2 a0_3 a0_4 a0_5 a0_6 a0_7 a0_8 a0_9 a0_10 a0_11 a0_12 a0_13 a0_14 a0_15 a0_16 a0_17 a0_18 prs_romo).bind fun t => if t = true then some true else some false) else some false)
  else if (a0_0 == 39) = true then (if m = true then ((spec_l05Two.f k a0_0 a0_1 a0_2 a0_3 a0_4 a0_5 a0_6 a0_7 a0_8 a0_9 a0_10 a0_11 a0_12 a0_13 a0_14 a0_15 a0_16 a0_17 a0_18 prs_oo).bind fun t => if t = true then some true else some false) else some false)
  else if (a0_0 == 40) = true then (if m = true then ((spec_l05Two.f k a0_0 a0_1 a0_2 a0_3 a0_4 a0_5 a0_6 a0_7 a0_8 a0_9 a0_10 a0_11 a0_12 a0_13 a0_14 a0_15 a0_16 a0_17 a0_18 prs_oo).bind fun t => if t = true then some true else some false) else some false)
  else if (a0_0 == 41) = true then (if (a0_1 == 1) = true then ((spec_l05Two.f k a0_0 a0_1 a0_2 a0_3 a0_4 a0_5 a0_6 a0_7 a0_8 a0_9 a0_10 a0_11 a0_12 a0_13 a0_14 a0_15 a0_16 a0_17 a0_18 prs_oo).bind fun t => if t = true then some true else some false) else some false)
  else if (a0_0 == 42) = true then (if (a0_1 == 1) = true then ((spec_l05Two.f k a0_0 a0_1 a0_2 a0_3 a0_4 a0_5 a0_6 a0_7 a0_8 a0_9 a0_10 a0_11 a0_12 a0_13 a0_14 a0_15 a0_16 a0_17 a0_18 prs_oo).bind fun t => if t = true then some true else some false) else some false)
  else if (a0_0 == 44) = true then (if (a0_1 == 0) = true then ((spec_l05Two.f k a0_0 a0_1 a0_2 a0_3 a0_4 a0_5 a0_6 a0_7 a0_8 a0_9 a0_10 a0_11 a0_12 a0_13 a0_14 a0_15 a0_16 a0_17 a0_18 prs_oi).bind fun t => if t = true then (if decide (0 ≤ a0_17 ∧ a0_17 ≤ 255) = true then some true else some false) else some false) else some false)
  else (if (a0_1 == 0) = true then ((spec_l05Two.f k a0_0 a0_1 a0_2 a0_3 a0_4 a0_5 a0_6 a0_7 a0_8 a0_9 a0_10 a0_11 a0_12 a0_13 a0_14 a0_15 a0_16 a0_17 a0_18 prs_oo).bind fun t => if t = true then some true else some false) else some false)
def spec_l05Shape.f (k : Nat) (a0_0 : Int) (a0_1 : Int) (a0_2 : Int) (a0_3 : Int) (a0_4 : Int) (a0_5 : Int) (a0_6 : Int) (a0_7 : Int) (a0_8 : Int) (a0_9 : Int) (a0_10 : Int) (a0_11 : Int) (a0_12 : Int) (a0_13 : Int) (a0_14 : Int) (a0_15 : Int) (a0_16 : Int) (a0_17 : Int) (a0_18 : Int) : Option (Bool) := (spec_l01Size.f a0_1).bind fun s => spec_l05Shape.g k s (s && decide (1 < a0_1)) a0_0 a0_1 a0_2 a0_3 a0_4 a0_5 a0_6 a0_7 a0_8 a0_9 a0_10 a0_11 a0_12 a0_13 a0_14 a0_15 a0_16 a0_17 a0_18
theorem spec_l05Shape.mono : ∀ a0_0 a0_1 a0_2 a0_3 a0_4 a0_5 a0_6 a0_7 a0_8 a0_9 a0_10 a0_11 a0_12 a0_13 a0_14 a0_15 a0_16 a0_17 a0_18 k, LeO (spec_l05Shape.f k a0_0 a0_1 a0_2 a0_3 a0_4 a0_5 a0_6 a0_7 a0_8 a0_9 a0_10 a0_11 a0_12 a0_13 a0_14 a0_15 a0_16 a0_17 a0_18) (spec_l05Shape.f (k + 1) a0_0 a0_1 a0_2 a0_3 a0_4 a0_5 a0_6 a0_7 a0_8 a0_9 a0_10 a0_11 a0_12 a0_13 a0_14 a0_15 a0_16 a0_17 a0_18) := by
  intro a0_0 a0_1 a0_2 a0_3 a0_4 a0_5 a0_6 a0_7 a0_8 a0_9 a0_10 a0_11 a0_12 a0_13 a0_14 a0_15 a0_16 a0_17 a0_18 k
  unfold spec_l05Shape.f spec_l05Shape.g
  repeat' first
    | (with_reducible exact spec_l05Two.mono _ _ _ _ _ _ _ _ _ _ _ _ _ _ _ _ _ _ _ _ _)
    | (with_reducible exact spec_l05Fits.mono _ _ _)
    | (with_reducible exact LeO.refl _)
    | (with_reducible exact LeO.none _)
    | (with_reducible refine LeO.ite ?_ ?_)
    | (with_reducible refine LeO.bind ?_ (fun _ => ?_))
    | exact LeO.none _
theorem spec_in64 (b lo hi : Int) (v : Bool) (hv : decide (lo ≤ b ∧ b ≤ hi) = v) (w : World) : Calls Try.prog 64 #[.int .i64 b, .int .i64 lo, .int .i64 hi] w fun e w' => e = .returned (.bool v) ∧ Drawn0 w w' :=
  spec_l01In.calls b lo hi _ w (by
    subst hv
    unfold spec_l01In.f
    by_cases x : b ≥ lo <;> by_cases y : b ≤ hi <;> simp [x, y] <;> omega)
def strParts (y : List ByteArray) : Array (Nat × Operand) := (y.zipIdx.map fun p => (p.2, Operand.const (.string p.1))).toArray
set_option maxHeartbeats 4000000 in
theorem fl_strs {ops : Array Oper} {Q : Exit → Act → World → Prop} {W : World} {o : Oper} {rest : List Oper} {n d m : Nat} {L : List (Nat × Value)} {parts : Array (Nat × Operand)} (ho : o.op = .buildSlice 93 m parts) (hw : wt ops o L = some true) (hd : o.dst = some d) (hn : d < n)
    {k : Nat} {A0 A1 A2 A3 A4 A5 A6 A7 A8 A9 A10 A11 A12 A13 A14 A15 A16 A17 A18 : Int} {y : List ByteArray} {b : Bool} (h2 : spec_l05Two.f k A0 A1 A2 A3 A4 A5 A6 A7 A8 A9 A10 A11 A12 A13 A14 A15 A16 A17 A18 y = some b) (hy : parts = strParts y) (hl : m = y.length ∧ y.length ≤ 5 ∧ 1 ≤ y.length)
    (h : ∀ v1 w1, Kd.R Kd.string 9 w1 W.heap.size (fun _ => True) v1 y → Below W.heap.size W w1 → FL Try.prog ops Q rest n ((d, v1) :: L) w1) : FL Try.prog ops Q (o :: rest) n L W := by
  have hrun : ∀ a : Act, (execOp a.eval o).run Try.prog W = .ok (.value (.slice (some ⟨W.heap.size, 0, none⟩) y.length y.length)) (W.alloc (.cells (y.map Value.string).toArray 9)) := by
    intro a
    unfold execOp
    rw [ho]
    subst hy
    obtain ⟨rfl, h5, h1⟩ := hl
    match y, h5, h1 with
    | [x0], _, _ => first | (go_simp; done) | (go_simp; rfl)
    | [x0, x1], _, _ => first | (go_simp; done) | (go_simp; rfl)
    | [x0, x1, x2], _, _ => first | (go_simp; done) | (go_simp; rfl)
    | [x0, x1, x2, x3], _, _ => first | (go_simp; done) | (go_simp; rfl)
    | [x0, x1, x2, x3, x4], _, _ => first | (go_simp; done) | (go_simp; rfl)
  have hR : Kd.R Kd.string 9 (W.alloc (.cells (y.map Value.string).toArray 9)) W.heap.size (fun _ => True) (.slice (some ⟨W.heap.size, 0, none⟩) y.length y.length) y := by
    refine ⟨fun _ _ => trivial, y.map Value.string, ?_, ?_⟩
    · have h2 := World.ownsRow_lit (base := W.heap.size) (e := 9) (size := 1) W (y.map Value.string).toArray y.length (Nat.le_refl _) (by have := hl.2.1; simp [maxLen]; omega) (by simp)
      have h3 : (W.alloc (.cells (y.map Value.string).toArray 9)).ownsRow W.heap.size 9 1 (.slice (some ⟨W.heap.size, 0, none⟩) y.length y.length) y.length (y.map Value.string) := by simpa using h2
      exact h3
    · clear hrun h hy h2
      obtain ⟨_, h5, h1⟩ := hl
      match y, h5, h1 with
      | [x0], _, _ => exact Reps.one (show Kd.M Kd.string _ _ _ x0 [.string x0] from rfl) (Reps.none _ _)
      | [x0, x1], _, _ => exact Reps.one (show Kd.M Kd.string _ _ _ x0 [.string x0] from rfl) (Reps.one (show Kd.M Kd.string _ _ _ x1 [.string x1] from rfl) (Reps.none _ _))
      | [x0, x1, x2], _, _ => exact Reps.one (show Kd.M Kd.string _ _ _ x0 [.string x0] from rfl) (Reps.one (show Kd.M Kd.string _ _ _ x1 [.string x1] from rfl) (Reps.one (show Kd.M Kd.string _ _ _ x2 [.string x2] from rfl) (Reps.none _ _)))
      | [x0, x1, x2, x3], _, _ => exact Reps.one (show Kd.M Kd.string _ _ _ x0 [.string x0] from rfl) (Reps.one (show Kd.M Kd.string _ _ _ x1 [.string x1] from rfl) (Reps.one (show Kd.M Kd.string _ _ _ x2 [.string x2] from rfl) (Reps.one (show Kd.M Kd.string _ _ _ x3 [.string x3] from rfl) (Reps.none _ _))))
      | [x0, x1, x2, x3, x4], _, _ => exact Reps.one (show Kd.M Kd.string _ _ _ x0 [.string x0] from rfl) (Reps.one (show Kd.M Kd.string _ _ _ x1 [.string x1] from rfl) (Reps.one (show Kd.M Kd.string _ _ _ x2 [.string x2] from rfl) (Reps.one (show Kd.M Kd.string _ _ _ x3 [.string x3] from rfl) (Reps.one (show Kd.M Kd.string _ _ _ x4 [.string x4] from rfl) (Reps.none _ _)))))
  exact fl_ev hw hd hn _ _ (fun a _ => hrun a) (h _ _ hR (below_alloc (Below.refl _ _) _))

end Go.Proofs.Ytgipadecllofkaa.PFnExactInstrOK
