/- A region that draws its order, shown by a condition on what has come up: one proof for each operation, whatever the order. -/
import Derived.Orders
namespace Go.Proofs.YtmldfchddccncaaW.PrintWords
open Go
set_option linter.unnecessarySimpa false
section
variable {P : Program} {ops : Array Oper} {Q : Exit → Act → World → Prop} {md : Region.Mode}
/-- How many have not come up. -/
def unl (l : Array Bool) : Nat := (l.toList.filter (fun b => !b)).length
theorem unl_list_set : ∀ (l : List Bool) (i : Nat), l[i]? = some false → ((l.set i true).filter (fun b => !b)).length + 1 = (l.filter (fun b => !b)).length
  | [], _, h => by simp at h
  | b :: l, 0, h => by
    simp only [List.getElem?_cons_zero, Option.some.injEq] at h
    subst h
    simp
  | b :: l, i + 1, h => by
    have ih := unl_list_set l i (by simpa using h)
    cases b <;> simp [List.set_cons_succ] <;> omega
theorem unl_set {l : Array Bool} {i : Nat} (h : l[i]? = some false) : unl (l.setIfInBounds i true) + 1 = unl l := by
  unfold unl
  rw [Array.toList_setIfInBounds]
  exact unl_list_set l.toList i (by simpa using h)
theorem unl_zero {l : Array Bool} (h : unl l = 0) (i : Nat) : l[i]? ≠ some false := fun hi => by
  have := unl_set hi
  omega
/-- Each waits for those alone that stand ahead of it. -/
def lowB (md : Region.Mode) (ops : Array Oper) : Bool := (List.range ops.size).all fun i => ((ops[i]?).map (·.after.all fun e => !Region.binds md e || decide (e.on < i))).getD true
theorem all_listed (hlow : lowB md ops = true) {l : Array Bool} (hs : l.size = ops.size) (hr : Region.ready md ops l = []) : ∀ i, i < ops.size → l[i]? = some true := by
  intro i
  induction i using Nat.strongRecOn with
  | ind i ih =>
    intro hi
    have hi' : i < l.size := by omega
    cases hb : l[i] with
    | true => rw [Array.getElem?_eq_getElem hi', hb]
    | false =>
      exfalso
      have hlow' := List.all_eq_true.1 hlow i (List.mem_range.2 hi)
      rw [Array.getElem?_eq_getElem hi] at hlow'
      simp only [Option.map_some, Option.getD_some] at hlow'
      have hmem : i ∈ Region.ready md ops l := by
        unfold Region.ready
        refine List.mem_filter.2 ⟨List.mem_range.2 hi, ?_⟩
        have hg : l.getD i true = false := by simp [Array.getD, hi', hb]
        rw [hg, Array.getElem?_eq_getElem hi]
        simp only [Bool.not_false, Bool.true_and, Option.map_some, Option.getD_some]
        rw [Array.all_eq_true'] at hlow' ⊢
        intro e he
        have h1 := hlow' e he
        rw [Bool.or_eq_true] at h1 ⊢
        rcases h1 with h1 | h1
        · exact Or.inl h1
        · have h2 := of_decide_eq_true h1
          have h3 := ih e.on h2 (by omega)
          refine Or.inr ?_
          rw [Array.getD_eq_getD_getElem?, h3]
          rfl
      rw [hr] at hmem
      cases hmem
/-- What holds of what has come up. -/
theorem wpAny_inv (hlow : lowB md ops = true) {Inv : Array Bool → Act → World → Prop}
    (hstep : ∀ (l : Array Bool) (a : Act) (w : World) (i : Nat), l.size = ops.size → i ∈ Region.ready md ops l → Inv l a w → wpOp P ops Q i (fun a' w' => Inv (l.setIfInBounds i true) a' w') a w)
    (hend : ∀ (l : Array Bool) (a : Act) (w : World), (∀ i, i < ops.size → l[i]? = some true) → Inv l a w → Q .normal a w) :
    ∀ (fuel : Nat) (l : Array Bool) (a : Act) (w : World), l.size = ops.size → unl l ≤ fuel → Inv l a w → wpAny P md ops Q fuel l a w
  | 0, l, a, w, hs, hf, hI => by
    have hr : Region.ready md ops l = [] := by
      cases h : Region.ready md ops l with
      | nil => rfl
      | cons i r =>
        exfalso
        have hm : i ∈ Region.ready md ops l := by rw [h]; exact List.mem_cons_self
        unfold Region.ready at hm
        obtain ⟨h1, h2⟩ := List.mem_filter.1 hm
        have hi := List.mem_range.1 h1
        rw [Bool.and_eq_true] at h2
        have h3 : l.getD i true = false := by simpa using h2.1
        have hi' : i < l.size := by omega
        refine unl_zero (Nat.le_zero.1 hf) i ?_
        rw [Array.getElem?_eq_getElem hi']
        simpa [Array.getD, hi'] using h3
    exact ⟨hr, hend l a w (all_listed hlow hs hr) hI⟩
  | fuel + 1, l, a, w, hs, hf, hI => by
    refine ⟨fun hr => hend l a w (all_listed hlow hs hr) hI, fun i hi => ?_⟩
    have hm := hi
    unfold Region.ready at hm
    obtain ⟨h1, h2⟩ := List.mem_filter.1 hm
    have hi1 := List.mem_range.1 h1
    rw [Bool.and_eq_true] at h2
    have h3 : l.getD i true = false := by simpa using h2.1
    have hi' : i < l.size := by omega
    have h4 : l[i]? = some false := by
      rw [Array.getElem?_eq_getElem hi']
      simpa [Array.getD, hi'] using h3
    have h5 := unl_set h4
    exact wpOp_mono (fun a' w' hI' => wpAny_inv hlow hstep hend fuel _ a' w' (by simpa using hs) (by omega) hI') (hstep l a w i hs hi hI)
theorem unl_none (n : Nat) : unl (Array.replicate n false) ≤ n := by
  unfold unl
  have := List.length_filter_le (fun b => !b) (Array.replicate n false).toList
  simpa using this
theorem wp_region_inv {id : Nat} {a : Act} {w : World} (hm : P.follows .mixedOrders = true) (hlow : lowB .any ops = true) {Inv : Array Bool → Act → World → Prop}
    (hstart : Inv (Array.replicate ops.size false) a { w with drawn := w.drawn + 1 })
    (hstep : ∀ (l : Array Bool) (a : Act) (w : World) (i : Nat), l.size = ops.size → i ∈ Region.ready .any ops l → Inv l a w → wpOp P ops Q i (fun a' w' => Inv (l.setIfInBounds i true) a' w') a w)
    (hend : ∀ (l : Array Bool) (a : Act) (w : World), (∀ i, i < ops.size → l[i]? = some true) → Inv l a w → Q .normal a w) : (Code.region id ops true).wp P Q a w :=
  wp_region_any hm (wpAny_inv hlow hstep hend _ _ _ _ (by simp) (unl_none _) hstart)
end
end Go.Proofs.YtmldfchddccncaaW.PrintWords
