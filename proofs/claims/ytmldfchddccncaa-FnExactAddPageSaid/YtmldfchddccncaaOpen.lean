/- A struct whose one field is a slice of records (two numbers and a text), by value, opened: its address, its length and its records. -/
import Derived.Test.YtmldfchddccncaaProg
import Derived.Deep.Slices
import Derived.Deep.Fields
import Derived.WideShapes
import Derived.ChangeArms
import Derived.ProofKit
import Derived.RowKit3
namespace Go.Proofs.Ytmldfchddccncaa.Open
open Go.RowKit Go.Deep Go.ChangeShapes Go.WideShapes
set_option linter.unusedVariables false
section
variable {H : Type} {enc : TypeId × Value → H} {P : Program} {w : World} {base : Nat} {spare : Nat → Bool} {held : Bool}
theorem open_pages {r : Reach} {b0 : Nat} {t te : TypeId} {g f0 f1 f2 : Field} {v : Value} {d : DataW H} {p : List MemPlace}
    (hs : P.underlying t = some (.struct #[g])) (hg : oneCellFields P #[g] = true) (ct : P.cellsOf t = 1) (hst : P.underlying g.type = some (.slice te)) (he : P.underlying te = some (.struct #[f0, f1, f2])) (hone : oneCellFields P #[f0, f1, f2] = true) (ce : P.cellsOf te = 3)
    (i0 : P.underlying f0.type = some (.int .i64)) (i1 : P.underlying f1.type = some (.int .i64)) (i2 : P.underlying f2.type = some .string)
    (hv : Value.okWide P w r b0 t v) (h : DataW.Trod enc P w base spare held t v d p) :
    ∃ (A : Option Addr) (c : Nat) (l : List (Int × Int × ByteArray)), v = .agg #[.slice A l.length c] ∧ l.length ≤ c ∧ c ≤ 9223372036854775807 ∧
      (0 < l.length → ∃ ad, A = some ad ∧ ∀ j x, l[j]? = some x → w.cell? (ad.add (j * 3)) = some (.int .i64 x.1) ∧ w.cell? (ad.add (j * 3 + 1)) = some (.int .i64 x.2.1) ∧ w.cell? (ad.add (j * 3 + 2)) = some (.string x.2.2)) ∧
      ∀ x ∈ l, (Lit.int .i64 x.1).wf = true ∧ (Lit.int .i64 x.2.1).wf = true ∧ x.2.2.size ≤ 9223372036854775807 := by
  obtain ⟨cs, rfl, hsz⟩ := okWide_struct hs hv
  obtain ⟨l⟩ := cs
  match l, hsz.trans ct with
  | [c0], _ =>
    obtain ⟨fuel, hf⟩ := h
    obtain ⟨xs, n, _, hx, _, hlen, hgg⟩ := DataW.trod_struct hs hf
    obtain ⟨og, kg⟩ := hone_of hg 0 g rfl
    match xs, hlen with
    | [y0], _ =>
      have g0 : DataW.trod enc P w base spare held n g.type [c0] = some y0 := by simpa [Value.cells, og, kg] using hgg 0 g rfl
      rcases open_slice hst g0 with ⟨hc, _⟩ | ⟨a, len, cap, m, n', D, Pl, hc, hb, hl, hm, hmm, _, hxx⟩
      · obtain rfl : c0 = .slice none 0 0 := by simpa using hc
        exact ⟨none, 0, [], rfl, Nat.le_refl _, by omega, fun h => absurd h (Nat.lt_irrefl 0), by simp⟩
      · obtain rfl : c0 = .slice (some a) len cap := by simpa using hc
        have hlm : len ≤ m := by rw [hmm]; split <;> omega
        have each : ∀ i, i < len → ∃ q : Int × Int × ByteArray, w.cell? (a.add (i * 3)) = some (.int .i64 q.1) ∧ w.cell? (a.add (i * 3 + 1)) = some (.int .i64 q.2.1) ∧ w.cell? (a.add (i * 3 + 2)) = some (.string q.2.2) ∧
            (Lit.int .i64 q.1).wf = true ∧ (Lit.int .i64 q.2.1).wf = true ∧ q.2.2.size ≤ 9223372036854775807 := by
          intro i hi
          obtain ⟨cs', h1, h2⟩ := hxx i (by omega)
          rw [ce] at h1
          obtain ⟨_, hlen', hcell⟩ := World.cells?_some h1
          obtain ⟨xs', k, hk, hxy, _, hxl, hf'⟩ := DataW.trod_struct he h2
          obtain ⟨o0, k0⟩ := hone_of hone 0 f0 rfl
          obtain ⟨o1, k1⟩ := hone_of hone 1 f1 rfl
          obtain ⟨o2, k2⟩ := hone_of hone 2 f2 rfl
          match xs', hxl, cs', hlen' with
          | [z0, z1, z2], _, [v0, v1, v2], _ =>
            have g0 := hf' 0 f0 rfl
            have g1 := hf' 1 f1 rfl
            have g2 := hf' 2 f2 rfl
            simp [o0, o1, o2, k0, k1, k2] at g0 g1 g2
            obtain ⟨a0, e0, _, w0⟩ := DataW.trod_int i0 g0
            obtain ⟨a1, e1, _, w1⟩ := DataW.trod_int i1 g1
            obtain ⟨a2, e2, _, w2⟩ := DataW.trod_string i2 g2
            obtain rfl : v0 = .int .i64 a0 := by simpa using e0
            obtain rfl : v1 = .int .i64 a1 := by simpa using e1
            obtain rfl : v2 = .string a2 := by simpa using e2
            have e0 := hcell 0 (by omega)
            have e1 := hcell 1 (by omega)
            have e2 := hcell 2 (by omega)
            rw [add_add] at e0 e1 e2
            exact ⟨(a0, a1, a2), by simpa using e0, by simpa using e1, by simpa using e2, w0, w1, by simpa [maxLen] using w2⟩
        obtain ⟨q, hq⟩ := choose_lt each
        refine ⟨some a, cap, (List.range len).map q, by simp, by simpa using hl, by simpa [maxLen] using hm, fun _ => ⟨a, rfl, fun j x hj => ?_⟩, fun x hx => ?_⟩
        · obtain ⟨hj1, rfl⟩ : j < len ∧ q j = x := by
            rw [List.getElem?_map] at hj
            rcases Nat.lt_or_ge j len with hlt | hge
            · rw [List.getElem?_range hlt] at hj; exact ⟨hlt, by simpa using hj⟩
            · rw [List.getElem?_eq_none (by simpa using hge)] at hj; simp at hj
          exact ⟨(hq j hj1).1, (hq j hj1).2.1, (hq j hj1).2.2.1⟩
        · obtain ⟨j, hj, rfl⟩ := List.mem_map.1 hx
          have := hq j (List.mem_range.1 hj)
          exact ⟨this.2.2.2.1, this.2.2.2.2.1, this.2.2.2.2.2⟩
end
end Go.Proofs.Ytmldfchddccncaa.Open
