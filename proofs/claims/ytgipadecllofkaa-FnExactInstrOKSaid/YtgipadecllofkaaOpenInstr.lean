/- A struct of four whole numbers, two structs of seven whole numbers each and one whole number more, by value, opened: its numbers. -/
import Derived.Test.YtgipadecllofkaaProg
import Derived.Lib.SmallJoins
import Derived.ProofKit
namespace Go.Proofs.Ytgipadecllofkaa.Open
open Go.Joins Go.ChangeShapes Go.WideShapes Go.RowKit Go.Deep
set_option linter.unusedVariables false
section
variable {H : Type} {enc : TypeId × Value → H} {P : Program} {w : World} {base : Nat} {spare : Nat → Bool} {held : Bool}
theorem open_seven {n : Nat} {t : TypeId} {g0 g1 g2 g3 g4 g5 g6 : Field} {c0 c1 c2 c3 c4 c5 c6 : Value} {y : DataW H × List MemPlace} (hs : P.underlying t = some (.struct #[g0, g1, g2, g3, g4, g5, g6])) (hone : oneCellFields P #[g0, g1, g2, g3, g4, g5, g6] = true) (hi : ∀ f ∈ [g0, g1, g2, g3, g4, g5, g6], P.underlying f.type = some (.int .i64))
    (h : DataW.trod enc P w base spare held n t [c0, c1, c2, c3, c4, c5, c6] = some y) : ∃ a0 a1 a2 a3 a4 a5 a6 : Int, c0 = .int .i64 a0 ∧ c1 = .int .i64 a1 ∧ c2 = .int .i64 a2 ∧ c3 = .int .i64 a3 ∧ c4 = .int .i64 a4 ∧ c5 = .int .i64 a5 ∧ c6 = .int .i64 a6 ∧ (Lit.int .i64 a0).wf = true ∧ (Lit.int .i64 a1).wf = true ∧ (Lit.int .i64 a2).wf = true ∧ (Lit.int .i64 a3).wf = true ∧ (Lit.int .i64 a4).wf = true ∧ (Lit.int .i64 a5).wf = true ∧ (Lit.int .i64 a6).wf = true := by
  obtain ⟨xs, m, _, hx, _, hlen, hg⟩ := DataW.trod_struct hs h
  obtain ⟨o0, k0⟩ := hone_of hone 0 g0 rfl
  obtain ⟨o1, k1⟩ := hone_of hone 1 g1 rfl
  obtain ⟨o2, k2⟩ := hone_of hone 2 g2 rfl
  obtain ⟨o3, k3⟩ := hone_of hone 3 g3 rfl
  obtain ⟨o4, k4⟩ := hone_of hone 4 g4 rfl
  obtain ⟨o5, k5⟩ := hone_of hone 5 g5 rfl
  obtain ⟨o6, k6⟩ := hone_of hone 6 g6 rfl
  match xs, hlen with
  | [y0, y1, y2, y3, y4, y5, y6], _ =>
    obtain ⟨a0, e0, _, w0⟩ := DataW.trod_int (hi g0 (by simp)) (show DataW.trod enc P w base spare held m g0.type [c0] = some y0 by simpa [Value.cells, o0, k0] using hg 0 g0 rfl)
    obtain ⟨a1, e1, _, w1⟩ := DataW.trod_int (hi g1 (by simp)) (show DataW.trod enc P w base spare held m g1.type [c1] = some y1 by simpa [Value.cells, o1, k1] using hg 1 g1 rfl)
    obtain ⟨a2, e2, _, w2⟩ := DataW.trod_int (hi g2 (by simp)) (show DataW.trod enc P w base spare held m g2.type [c2] = some y2 by simpa [Value.cells, o2, k2] using hg 2 g2 rfl)
    obtain ⟨a3, e3, _, w3⟩ := DataW.trod_int (hi g3 (by simp)) (show DataW.trod enc P w base spare held m g3.type [c3] = some y3 by simpa [Value.cells, o3, k3] using hg 3 g3 rfl)
    obtain ⟨a4, e4, _, w4⟩ := DataW.trod_int (hi g4 (by simp)) (show DataW.trod enc P w base spare held m g4.type [c4] = some y4 by simpa [Value.cells, o4, k4] using hg 4 g4 rfl)
    obtain ⟨a5, e5, _, w5⟩ := DataW.trod_int (hi g5 (by simp)) (show DataW.trod enc P w base spare held m g5.type [c5] = some y5 by simpa [Value.cells, o5, k5] using hg 5 g5 rfl)
    obtain ⟨a6, e6, _, w6⟩ := DataW.trod_int (hi g6 (by simp)) (show DataW.trod enc P w base spare held m g6.type [c6] = some y6 by simpa [Value.cells, o6, k6] using hg 6 g6 rfl)
    simp at e0 e1 e2 e3 e4 e5 e6
    exact ⟨a0, a1, a2, a3, a4, a5, a6, e0, e1, e2, e3, e4, e5, e6, w0, w1, w2, w3, w4, w5, w6⟩
theorem open_instr {r : Reach} {b0 : Nat} {t : TypeId} {f0 f1 f2 f3 f4 f5 f6 g0 g1 g2 g3 g4 g5 g6 q0 q1 q2 q3 q4 q5 q6 : Field} {v : Value} {d : DataW H} {p : List MemPlace} (hs : P.underlying t = some (.struct #[f0, f1, f2, f3, f4, f5, f6])) (ct : P.cellsOf t = 19)
    (o0 : f0.offset = 0) (k0 : P.cellsOf f0.type = 1)
    (o1 : f1.offset = 1) (k1 : P.cellsOf f1.type = 1)
    (o2 : f2.offset = 2) (k2 : P.cellsOf f2.type = 1)
    (o3 : f3.offset = 3) (k3 : P.cellsOf f3.type = 1)
    (o4 : f4.offset = 4) (k4 : P.cellsOf f4.type = 7)
    (o5 : f5.offset = 11) (k5 : P.cellsOf f5.type = 7)
    (o6 : f6.offset = 18) (k6 : P.cellsOf f6.type = 1)
    (hi : ∀ f ∈ [f0, f1, f2, f3, f6], P.underlying f.type = some (.int .i64))
    (ug : P.underlying f4.type = some (.struct #[g0, g1, g2, g3, g4, g5, g6])) (oneg : oneCellFields P #[g0, g1, g2, g3, g4, g5, g6] = true) (ig : ∀ f ∈ [g0, g1, g2, g3, g4, g5, g6], P.underlying f.type = some (.int .i64))
    (uq : P.underlying f5.type = some (.struct #[q0, q1, q2, q3, q4, q5, q6])) (oneq : oneCellFields P #[q0, q1, q2, q3, q4, q5, q6] = true) (iq : ∀ f ∈ [q0, q1, q2, q3, q4, q5, q6], P.underlying f.type = some (.int .i64))
    (hv : Value.okWide P w r b0 t v) (h : DataW.Trod enc P w base spare held t v d p) :
    ∃ a0 a1 a2 a3 a4 a5 a6 a7 a8 a9 a10 a11 a12 a13 a14 a15 a16 a17 a18 : Int, v = .agg #[.int .i64 a0, .int .i64 a1, .int .i64 a2, .int .i64 a3, .int .i64 a4, .int .i64 a5, .int .i64 a6, .int .i64 a7, .int .i64 a8, .int .i64 a9, .int .i64 a10, .int .i64 a11, .int .i64 a12, .int .i64 a13, .int .i64 a14, .int .i64 a15, .int .i64 a16, .int .i64 a17, .int .i64 a18] ∧ (Lit.int .i64 a0).wf = true ∧ (Lit.int .i64 a1).wf = true ∧ (Lit.int .i64 a2).wf = true ∧ (Lit.int .i64 a3).wf = true ∧ (Lit.int .i64 a4).wf = true ∧ (Lit.int .i64 a5).wf = true ∧ (Lit.int .i64 a6).wf = true ∧ (Lit.int .i64 a7).wf = true ∧ (Lit.int .i64 a8).wf = true ∧ (Lit.int .i64 a9).wf = true ∧ (Lit.int .i64 a10).wf = true ∧ (Lit.int .i64 a11).wf = true ∧ (Lit.int .i64 a12).wf = true ∧ (Lit.int .i64 a13).wf = true ∧ (Lit.int .i64 a14).wf = true ∧ (Lit.int .i64 a15).wf = true ∧ (Lit.int .i64 a16).wf = true ∧ (Lit.int .i64 a17).wf = true ∧ (Lit.int .i64 a18).wf = true := by
  obtain ⟨cs, rfl, hsz⟩ := okWide_struct hs hv
  obtain ⟨l⟩ := cs
  match l, hsz.trans ct with
  | [c0, c1, c2, c3, c4, c5, c6, c7, c8, c9, c10, c11, c12, c13, c14, c15, c16, c17, c18], _ =>
    obtain ⟨fuel, hf⟩ := h
    obtain ⟨xs, n, _, hx, _, hlen, hg⟩ := DataW.trod_struct hs hf
    match xs, hlen with
    | [y0, y1, y2, y3, y4, y5, y6], _ =>
      obtain ⟨a0, e0, _, w0⟩ := DataW.trod_int (hi f0 (by simp)) (show DataW.trod enc P w base spare held n f0.type [c0] = some y0 by simpa [Value.cells, o0, k0] using hg 0 f0 rfl)
      obtain ⟨a1, e1, _, w1⟩ := DataW.trod_int (hi f1 (by simp)) (show DataW.trod enc P w base spare held n f1.type [c1] = some y1 by simpa [Value.cells, o1, k1] using hg 1 f1 rfl)
      obtain ⟨a2, e2, _, w2⟩ := DataW.trod_int (hi f2 (by simp)) (show DataW.trod enc P w base spare held n f2.type [c2] = some y2 by simpa [Value.cells, o2, k2] using hg 2 f2 rfl)
      obtain ⟨a3, e3, _, w3⟩ := DataW.trod_int (hi f3 (by simp)) (show DataW.trod enc P w base spare held n f3.type [c3] = some y3 by simpa [Value.cells, o3, k3] using hg 3 f3 rfl)
      obtain ⟨a18, e18, _, w18⟩ := DataW.trod_int (hi f6 (by simp)) (show DataW.trod enc P w base spare held n f6.type [c18] = some y6 by simpa [Value.cells, o6, k6] using hg 6 f6 rfl)
      obtain ⟨a4, a5, a6, a7, a8, a9, a10, e4, e5, e6, e7, e8, e9, e10, w4, w5, w6, w7, w8, w9, w10⟩ := open_seven ug oneg ig (show DataW.trod enc P w base spare held n f4.type [c4, c5, c6, c7, c8, c9, c10] = some y4 by simpa [Value.cells, o4, k4] using hg 4 f4 rfl)
      obtain ⟨a11, a12, a13, a14, a15, a16, a17, e11, e12, e13, e14, e15, e16, e17, w11, w12, w13, w14, w15, w16, w17⟩ := open_seven uq oneq iq (show DataW.trod enc P w base spare held n f5.type [c11, c12, c13, c14, c15, c16, c17] = some y5 by simpa [Value.cells, o5, k5] using hg 5 f5 rfl)
      simp at e0 e1 e2 e3 e18
      subst e0 e1 e2 e3 e4 e5 e6 e7 e8 e9 e10 e11 e12 e13 e14 e15 e16 e17 e18
      exact ⟨a0, a1, a2, a3, a4, a5, a6, a7, a8, a9, a10, a11, a12, a13, a14, a15, a16, a17, a18, rfl, w0, w1, w2, w3, w4, w5, w6, w7, w8, w9, w10, w11, w12, w13, w14, w15, w16, w17, w18⟩
end
end Go.Proofs.Ytgipadecllofkaa.Open
