/- A struct whose first field is an array of sixteen whole numbers and whose other two are whole numbers, by value, opened: its numbers. -/
import Derived.Test.YtgipadecllofkaaProg
import Derived.Test.YtgipadecllofkaaCells
import Derived.Deep.Slices
import Derived.Deep.Strs
import Derived.Deep.Fields
import Derived.WideShapes
import Derived.ChangeArms
import Derived.ProofKit
import Derived.OpenShut
import Derived.RowKit3
namespace Go.Proofs.Ytgipadecllofkaa.Open
open Go.RowKit Go.Deep Go.ChangeShapes Go.WideShapes Go.Proofs.YtgipadecllofkaaW.PrintWords
set_option linter.unusedVariables false
section
variable {H : Type} {enc : TypeId × Value → H} {P : Program} {w : World} {base : Nat} {spare : Nat → Bool} {held : Bool}
theorem one_at {l : List Value} {i : Nat} {v : Value} (h : (l.drop i).take 1 = [v]) : l[i]? = some v := by
  have : ((l.drop i).take 1)[0]? = some v := by rw [h]; rfl
  rw [List.getElem?_take, if_pos (by omega), List.getElem?_drop] at this
  simpa using this
theorem open_cpu {r : Reach} {b0 : Nat} {t ti : TypeId} {f0 f1 f2 : Field} {v : Value} {d : DataW H} {p : List MemPlace}
    (hs : P.underlying t = some (.struct #[f0, f1, f2])) (ct : P.cellsOf t = 18) (ha : P.underlying f0.type = some (.array 16 ti)) (o0 : f0.offset = 0) (k0 : P.cellsOf f0.type = 16) (hi : P.underlying ti = some (.int .i64)) (ki : P.cellsOf ti = 1)
    (h1 : P.underlying f1.type = some (.int .i64)) (o1 : f1.offset = 16) (k1 : P.cellsOf f1.type = 1) (h2 : P.underlying f2.type = some (.int .i64)) (o2 : f2.offset = 17) (k2 : P.cellsOf f2.type = 1)
    (hv : Value.okWide P w r b0 t v) (h : DataW.Trod enc P w base spare held t v d p) :
    ∃ (x : List Int) (a b : Int), v = .agg (cellsI (x ++ [a, b])) ∧ x.length = 16 ∧ (∀ n ∈ x, (Lit.int .i64 n).wf = true) ∧ (Lit.int .i64 a).wf = true ∧ (Lit.int .i64 b).wf = true := by
  obtain ⟨cs, rfl, hsz⟩ := okWide_struct hs hv
  obtain ⟨l⟩ := cs
  rw [ct] at hsz
  have hl : l.length = 18 := hsz
  obtain ⟨fuel, hf⟩ := h
  obtain ⟨y0, y1, y2, n, _, _, g0, g1, g2⟩ := trod_struct3 hs (cs := l) (by simpa [Value.cells] using hf)
  rw [o0, k0] at g0
  rw [o1, k1] at g1
  rw [o2, k2] at g2
  obtain ⟨a, e1, _, w1⟩ := DataW.trod_int h1 g1
  obtain ⟨b, e2, _, w2⟩ := DataW.trod_int h2 g2
  obtain ⟨xs, m, _, _, _, hxl, hx⟩ := DataW.trod_array ha g0
  have each : ∀ i, i < 16 → ∃ q : Int, l[i]? = some (.int .i64 q) ∧ (Lit.int .i64 q).wf = true := by
    intro i hi'
    have hq := hx i hi'
    rw [ki, List.getElem?_eq_getElem (by omega), Nat.mul_one] at hq
    obtain ⟨c, e, _, wc⟩ := DataW.trod_int hi hq
    have := one_at e
    rw [List.getElem?_take, if_pos hi', List.drop_zero] at this
    exact ⟨c, this, wc⟩
  obtain ⟨q, hq⟩ := choose_lt each
  refine ⟨(List.range 16).map q, a, b, ?_, by simp, fun k hk => ?_, w1, w2⟩
  · congr 1
    apply Array.ext'
    show l = ((List.range 16).map q ++ [a, b]).map (fun n => Value.int .i64 n)
    apply List.ext_getElem?
    intro i
    rw [List.map_append, List.map_map]
    rcases Nat.lt_or_ge i 16 with hlt | hge
    · rw [List.getElem?_append_left (by simpa using hlt), (hq i hlt).1, List.getElem?_map, List.getElem?_range hlt]
      rfl
    · rw [List.getElem?_append_right (by simpa using hge)]
      by_cases e16 : i = 16
      · subst e16; rw [one_at e1]; simp
      · by_cases e17 : i = 17
        · subst e17; rw [one_at e2]; simp
        · rw [List.getElem?_eq_none (by omega), List.getElem?_eq_none (by simp; omega)]
  · obtain ⟨j, hj, rfl⟩ := List.mem_map.1 hk
    exact (hq j (List.mem_range.1 hj)).2
end
end Go.Proofs.Ytgipadecllofkaa.Open
