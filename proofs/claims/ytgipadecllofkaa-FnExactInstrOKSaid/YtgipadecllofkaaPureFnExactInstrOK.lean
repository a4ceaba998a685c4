/- The program's InstrOK answers as the reference's at every instruction. -/
import Derived.Test.YtgipadecllofkaaInE
import Derived.Test.YtgipadecllofkaaPFnExactInstrOKx17
namespace Go.Proofs.Ytgipadecllofkaa.Pure
open Go.RowKit Go.Proofs.Ytgipadecllofkaa.PFnExactInstrOK Go.Proofs.YtgipadecllofkaaW.PrintWords Go.Proofs.YtgipadecllofkaaW.PrintLast Go.Proofs.YtgipadecllofkaaW.PrintMore Go.Proofs.Ytgipadecllofkaa.Num
set_option linter.unusedVariables false
theorem FnExactInstrOK (A0 A1 A2 A3 A4 A5 A6 A7 A8 A9 A10 A11 A12 A13 A14 A15 A16 A17 A18 : Int) (hd : (Lit.int .i64 A9).wf = true) (hs : (Lit.int .i64 A16).wf = true) (hn : (Lit.int .i64 A17).wf = true) : laws_FnExactInstrOK.f 300 A0 A1 A2 A3 A4 A5 A6 A7 A8 A9 A10 A11 A12 A13 A14 A15 A16 A17 A18 = some true := by
  have h1 := spec_tells (k := 300) (by omega) A0 A1 A2 A3 A4 A5 A6 A7 A8 A9 A10 A11 A12 A13 A14 A15 A16 A17 A18 (wf_i64 hn)
  have h2 := impl_tells A0 A1 A2 A3 A4 A5 A6 A7 A8 A9 A10 A11 A12 A13 A14 A15 A16 A17 A18 (wf_i64 hd) (wf_i64 hs) (wf_i64 hn)
  have h3 : decide (SpecOK A0 A1 A2 A3 A4 A5 A6 A7 A8 A9 A10 A11 A12 A13 A14 A15 A16 A17 A18) = decide (ImplOK A0 A1 A2 A3 A4 A5 A6 A7 A8 A9 A10 A11 A12 A13 A14 A15 A16 A17 A18) := decide_eq_decide.mpr (same A0 A1 A2 A3 A4 A5 A6 A7 A8 A9 A10 A11 A12 A13 A14 A15 A16 A17 A18)
  unfold laws_FnExactInstrOK.f laws_toInstr.f laws_toOperand.f spec_InstrOK.f
  simp only [Option.bind_some]
  rw [h1, h2, h3]
  simp
theorem FnExactInstrOK_walk (W : World) (hm : Try.Glob W) (A0 A1 A2 A3 A4 A5 A6 A7 A8 A9 A10 A11 A12 A13 A14 A15 A16 A17 A18 : Int) (hd : (Lit.int .i64 A9).wf = true) (hs : (Lit.int .i64 A16).wf = true) (hn : (Lit.int .i64 A17).wf = true) :
    Calls Try.prog 3 #[.agg #[.int .i64 A0, .int .i64 A1, .int .i64 A2, .int .i64 A3, .int .i64 A4, .int .i64 A5, .int .i64 A6, .int .i64 A7, .int .i64 A8, .int .i64 A9, .int .i64 A10, .int .i64 A11, .int .i64 A12, .int .i64 A13, .int .i64 A14, .int .i64 A15, .int .i64 A16, .int .i64 A17, .int .i64 A18]] W fun e w' => e = .returned (.bool true) ∧ Below W.heap.size W w' :=
  laws_FnExactInstrOK.calls 300 A0 A1 A2 A3 A4 A5 A6 A7 A8 A9 A10 A11 A12 A13 A14 A15 A16 A17 A18 true W hm (FnExactInstrOK A0 A1 A2 A3 A4 A5 A6 A7 A8 A9 A10 A11 A12 A13 A14 A15 A16 A17 A18 hd hs hn)
end Go.Proofs.Ytgipadecllofkaa.Pure
