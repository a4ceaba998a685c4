/- wp_region_inv over a table of what has come up, as a function: what each waits for is told by a boolean. -/
import Derived.Test.YtmldfchddccncaaAnyInv
namespace Go.Proofs.YtmldfchddccncaaW.PrintWords
open Go
set_option linter.unnecessarySimpa false
section
variable {P : Program} {ops : Array Oper} {Q : Exit → Act → World → Prop}
/-- Does i wait for j? -/
def depB (ops : Array Oper) (i j : Nat) : Bool := ((ops[i]?).map fun o => o.after.toList.any fun e => Region.binds .any e && (e.on == j)).getD false
theorem ready_dep {l : Array Bool} {i : Nat} (h : i ∈ Region.ready .any ops l) {j : Nat} (hb : depB ops i j = true) : l.getD j false = true := by
  unfold depB at hb
  unfold Region.ready at h
  obtain ⟨_, h2⟩ := List.mem_filter.1 h
  rw [Bool.and_eq_true] at h2
  have h3 := h2.2
  cases ho : ops[i]? with
  | none => rw [ho] at hb; simp at hb
  | some o =>
    rw [ho] at hb h3
    simp only [Option.map_some, Option.getD_some] at hb h3
    obtain ⟨e, he, hb⟩ := List.any_eq_true.1 hb
    rw [Bool.and_eq_true] at hb
    rw [Array.all_eq_true'] at h3
    have h4 := h3 e (Array.mem_toList_iff.1 he)
    rw [hb.1] at h4
    have h5 : e.on = j := by simpa using hb.2
    rw [h5] at h4
    simpa using h4
theorem wp_region_inv2 {id : Nat} {a : Act} {w : World} (hm : P.follows .mixedOrders = true) (hlow : lowB .any ops = true) {Inv : (Nat → Bool) → Act → World → Prop}
    (hstart : Inv (fun _ => false) a { w with drawn := w.drawn + 1 })
    (hstep : ∀ (c : Nat → Bool) (a : Act) (w : World) (i : Nat), i < ops.size → c i = false → (∀ j, depB ops i j = true → c j = true) → Inv c a w → wpOp P ops Q i (fun a' w' => Inv (fun j => if j = i then true else c j) a' w') a w)
    (hend : ∀ (c : Nat → Bool) (a : Act) (w : World), (∀ i, i < ops.size → c i = true) → Inv c a w → Q .normal a w) : (Code.region id ops true).wp P Q a w := by
  refine wp_region_inv (Inv := fun l a w => Inv (fun j => l.getD j false) a w) hm hlow ?_ ?_ ?_
  · have e : (fun j => (Array.replicate ops.size false).getD j false) = fun _ => false := by
      funext j
      simp [Array.getD]
    rw [e]
    exact hstart
  · intro l a w i hs hi hI
    have hm := hi
    unfold Region.ready at hm
    obtain ⟨h1, h2⟩ := List.mem_filter.1 hm
    have hi1 := List.mem_range.1 h1
    rw [Bool.and_eq_true] at h2
    have h3 : l.getD i true = false := by simpa using h2.1
    have hi' : i < l.size := by omega
    have h4 : l.getD i false = false := by
      simp only [Array.getD, hi', dif_pos] at h3 ⊢
      exact h3
    refine wpOp_mono (fun a' w' hI' => ?_) (hstep (fun j => l.getD j false) a w i hi1 h4 (fun j hj => ready_dep hi hj) hI)
    have e : (fun j => (l.setIfInBounds i true).getD j false) = fun j => if j = i then true else l.getD j false := by
      funext j
      by_cases hj : j = i
      · subst hj
        simp [Array.getD, hi']
      · rw [if_neg hj]
        simp only [Array.getD_eq_getD_getElem?]
        rw [Array.getElem?_setIfInBounds_ne (fun e => hj e.symm)]
    rw [e]
    exact hI'
  · intro l a w hl hI
    refine hend _ a w (fun i hi => ?_) hI
    rw [Array.getD_eq_getD_getElem?, hl i hi]
    rfl
theorem wpOp_plain {i : Nat} {o : Oper} {a : Act} {w : World} {K : Act → World → Prop} (ho : ops[i]? = some o) (hg : o.guard = none) (h : o.wp P a w K Q) : wpOp P ops Q i K a w := by
  unfold wpOp
  rw [ho]
  simp only [Region.wanted, hg]
  first
    | exact Or.inl h
    | (simp only [if_true]; exact Or.inl h)
    | (rw [if_pos (by simp)]; exact Or.inl h)
end
end Go.Proofs.YtmldfchddccncaaW.PrintWords
