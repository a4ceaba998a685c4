/- A region that reads, and ends in one forced tail: its order asked of a table of numbers. -/
import Derived.Test.YtmldfchddccncaaWTab
import Derived.StillTailTactics
set_option linter.unusedVariables false
namespace Go.Proofs.YtmldfchddccncaaW.PrintLast
def waitsT (T : List (List Nat × List Nat)) (j i : Nat) : Bool := match T[j]? with
  | some r => r.1.any (fun e => e == i)
  | none => false
def sinkT (T : List (List Nat × List Nat)) (n : Nat) : Bool := (List.range n).all fun i => (List.range (n + 1)).any fun j => decide (i < j) && waitsT T j i
def chainT (T : List (List Nat × List Nat)) (n : Nat) : Bool := (List.range T.length).all fun t => decide (t ≤ n) || waitsT T t (t - 1)
def seqT (T : List (List Nat × List Nat)) : Nat → Nat → List Bool → Bool
  | 0, _, l => (readyT T l).isEmpty
  | g + 1, k, l => decide (readyT T l = [k]) && seqT T g (k + 1) (l.set k true)
def headT (T : List (List Nat × List Nat)) (g : Nat) : Nat → Nat → List Bool → Bool
  | 0, k, l => seqT T g k l
  | f + 1, k, l => (readyT T l).contains k && freeT T l k && headT T g f (k + 1) (l.set k true)
def tailT (T : Bool × List (List Nat × List Nat)) (n : Nat) : Bool :=
  T.1 && decide (n < T.2.length) && sinkT T.2 n && chainT T.2 n && headT T.2 (T.2.length - n) n 0 (List.replicate T.2.length false)
section
variable {md : Region.Mode} {ops : Array Oper} {T : Bool × List (List Nat × List Nat)} {n : Nat}
theorem waits_eq (j i : Nat) : Region.waitsFor md ops j i = waitsT (rtab md ops).2 j i := by
  unfold Region.waitsFor waitsT
  cases h : ops[j]? with
  | none => rw [rtab_none h]
  | some o =>
    rw [rtab_some h]
    simp only
    rw [← needs_any]
theorem sink_eq : Region.sinkB md ops n = sinkT (rtab md ops).2 n := by
  unfold Region.sinkB sinkT
  simp only [waits_eq]
theorem chain_eq : Region.chainB md ops n = chainT (rtab md ops).2 n := by
  unfold Region.chainB chainT
  rw [rtab_length]
  simp only [waits_eq]
theorem seq_eq : ∀ (g k : Nat) (l : Array Bool), Region.seqB md ops g k l = seqT (rtab md ops).2 g k l.toList
  | 0, _, l => by
    unfold Region.seqB seqT
    rw [ready_eq]
  | g + 1, k, l => by
    unfold Region.seqB seqT
    rw [ready_eq, seq_eq g, Array.toList_setIfInBounds]
theorem head_eq (g : Nat) : ∀ (f k : Nat) (l : Array Bool), Region.lexHead md ops g f k l = headT (rtab md ops).2 g f k l.toList
  | 0, k, l => by
    unfold Region.lexHead headT
    rw [seq_eq]
  | f + 1, k, l => by
    unfold Region.lexHead headT
    rw [ready_eq, free_eq, head_eq g f, Array.toList_setIfInBounds]
theorem tail_of (hT : rtab md ops = T) (h : tailT T n = true) : Region.lexTailB md ops n = true := by
  subst hT
  unfold tailT at h
  unfold Region.lexTailB
  rw [sink_eq, chain_eq, head_eq, ← rtab_length (md := md)]
  simp only [Array.toList_replicate]
  exact h
end
end Go.Proofs.YtmldfchddccncaaW.PrintLast
