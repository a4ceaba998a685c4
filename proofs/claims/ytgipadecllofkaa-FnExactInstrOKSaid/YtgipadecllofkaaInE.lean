/- The program's InstrOK says what the reference's says: in plain words. -/
import Derived.Test.YtgipadecllofkaaInC
import Derived.Test.YtgipadecllofkaaInD
namespace Go.Proofs.Ytgipadecllofkaa.Pure
open Go.RowKit Go.Proofs.Ytgipadecllofkaa.PFnExactInstrOK Go.Proofs.YtgipadecllofkaaW.PrintWords Go.Proofs.YtgipadecllofkaaW.PrintLast Go.Proofs.YtgipadecllofkaaW.PrintMore Go.Proofs.Ytgipadecllofkaa.Num
set_option linter.unusedVariables false
set_option linter.unusedSimpArgs false
theorem In_mem (x y : Int) : ∀ ps : List (Int × Int), In x y ps ↔ (x, y) ∈ ps
  | [] => by simp [In]
  | p :: ps => by
    obtain ⟨u, v⟩ := p
    simp only [In, List.mem_cons, In_mem x y ps, Prod.mk.injEq]
theorem tab_all : ∀ o : Fin 44, ((0 : Int) ∈ szs ((o.val : Int) + 1) → ∀ p ∈ prs ((o.val : Int) + 1), p.1 = 0 ∧ (p.2 = 0 ∨ p.2 = 3)) ∧ (∀ p ∈ prs ((o.val : Int) + 1), p.2 = 3 → (o.val : Int) + 1 ≤ 10 ∨ (20 ≤ (o.val : Int) + 1 ∧ (o.val : Int) + 1 ≤ 24) ∨ (o.val : Int) + 1 = 29 ∨ (o.val : Int) + 1 = 31 ∨ (o.val : Int) + 1 = 32 ∨ (o.val : Int) + 1 = 33 ∨ (o.val : Int) + 1 = 44) ∧ ((8 : Int) ∈ szs ((o.val : Int) + 1) → (fixd ((o.val : Int) + 1) ↔ 29 ≤ (o.val : Int) + 1 ∧ (o.val : Int) + 1 ≤ 32)) ∧ (∀ z ∈ szs ((o.val : Int) + 1), Sz z ∨ (z = 0 ∧ 28 < (o.val : Int) + 1)) ∧ ((29 ≤ (o.val : Int) + 1 ∧ (o.val : Int) + 1 ≤ 32) → ∀ z ∈ szs ((o.val : Int) + 1), z = 8) ∧ ((o.val : Int) + 1 = 33 ∨ (o.val : Int) + 1 = 44 → ∀ z ∈ szs ((o.val : Int) + 1), z = 0) := by decide +kernel
theorem tab {o : Int} (h0 : 1 ≤ o) (h1 : o ≤ 44) : ((0 : Int) ∈ szs o → ∀ p ∈ prs o, p.1 = 0 ∧ (p.2 = 0 ∨ p.2 = 3)) ∧ (∀ p ∈ prs o, p.2 = 3 → o ≤ 10 ∨ (20 ≤ o ∧ o ≤ 24) ∨ o = 29 ∨ o = 31 ∨ o = 32 ∨ o = 33 ∨ o = 44) ∧ ((8 : Int) ∈ szs o → (fixd o ↔ 29 ≤ o ∧ o ≤ 32)) ∧ (∀ z ∈ szs o, Sz z ∨ (z = 0 ∧ 28 < o)) ∧ ((29 ≤ o ∧ o ≤ 32) → ∀ z ∈ szs o, z = 8) ∧ (o = 33 ∨ o = 44 → ∀ z ∈ szs o, z = 0) := by
  have h := tab_all ⟨(o - 1).toNat, by omega⟩
  simp only [show (((o - 1).toNat : Nat) : Int) + 1 = o by omega] at h
  exact h
theorem op_kind {k r b i s d m z : Int} (h : OpOK k r b i s d m z) : k = 0 ∨ k = 1 ∨ k = 2 ∨ k = 3 := by
  unfold OpOK at h
  by_cases h1 : k = 1
  · exact .inr (.inl h1)
  by_cases h2 : k = 2
  · exact .inr (.inr (.inl h2))
  by_cases h3 : k = 3
  · exact .inr (.inr (.inr h3))
  rw [if_neg h1, if_neg h2, if_neg h3] at h
  exact .inl h.1
theorem cl_self {k : Int} (h : k = 0 ∨ k = 1 ∨ k = 2 ∨ k = 3) : (cl k : Int) = k := by
  rcases h with rfl | rfl | rfl | rfl <;> rfl
theorem op_num {k r b i s d m z : Int} (h : OpOK k r b i s d m z) (h3 : k ≠ 3) : m = 0 := by
  unfold OpOK at h
  by_cases h1 : k = 1
  · rw [if_pos h1] at h; exact h.2.2.2.2.2
  by_cases h2 : k = 2
  · rw [if_neg h1, if_pos h2] at h; exact h.2.1
  rw [if_neg h1, if_neg h2, if_neg h3] at h
  exact h.2.2.2.2.2.2
theorem op_size {k r b i s d m : Int} (z z2 : Int) (h1 : k ≠ 1) : OpOK k r b i s d m z ↔ OpOK k r b i s d m z2 := by
  unfold OpOK
  rw [if_neg h1, if_neg h1]
theorem rp_hi {k r b i s d m z : Int} (h : OpOK k r b i s d m z) : RP k r ↔ Hi k r := by
  unfold RP Hi
  unfold OpOK at h
  by_cases h1 : k = 1
  · rw [if_pos h1] at h
    have h2 := h.1.2
    constructor
    · intro x
      refine ⟨h1, x.2, ?_⟩
      by_cases hz : z = 1
      · rw [if_pos hz] at h2; exact h2
      · rw [if_neg hz] at h2; omega
    · intro x; exact ⟨h1, x.2.1⟩
  · simp [h1]
theorem ra_asks {k r b i s d m z : Int} (z2 : Int) (h : OpOK k r b i s d m z) : RA k r b i z2 ↔ Asks k r b i z2 := by
  unfold RA Asks
  unfold OpOK at h
  by_cases h1 : k = 1
  · rw [if_pos h1, if_pos h1]
  by_cases h2 : k = 2
  · rw [if_neg h1, if_pos h2] at h
    rw [if_neg h1, if_neg h1, if_pos h2, if_pos h2]
    have := h.2.2.2.1
    constructor
    · rintro (x | x)
      · exact .inl x
      · exact .inr ⟨x, this.2⟩
    · rintro (x | x)
      · exact .inl x
      · exact .inr x.1
  · rw [if_neg h1, if_neg h1, if_neg h2, if_neg h2]
theorem asks_size {k r b i : Int} (z z2 : Int) (h1 : k ≠ 1) : Asks k r b i z ↔ Asks k r b i z2 := by
  unfold Asks
  rw [if_neg h1, if_neg h1]
theorem fit_zero (z : Int) : Fit 0 z := by
  unfold Fit
  by_cases h1 : z = 1
  · rw [if_pos h1]; omega
  by_cases h2 : z = 2
  · rw [if_neg h1, if_pos h2]; omega
  rw [if_neg h1, if_neg h2]; omega
theorem fit_84 (v : Int) : Fit v 8 ↔ Fit v 4 := by unfold Fit; simp
theorem from_iff {A0 A1 A3 A4 A11 A12 A17 : Int} : (A0 = 26 ∨ A0 = 27 ∨ A3 = 0) ∧ (A0 = 26 ∨ A0 = 27 → Ext A0 A1 A3 A4 A11 A12 A17) ↔ FromOK A0 A1 A3 := by
  unfold FromOK
  by_cases h1 : A0 = 26
  · subst h1
    have e : Ext 26 A1 A3 A4 A11 A12 A17 ↔ A3 = 1 ∨ (A3 = 2 ∧ 2 < A1) ∨ (A3 = 4 ∧ A1 = 8 ∧ (26 : Int) = 27) := by unfold Ext; simp
    rw [e]; simp
  by_cases h2 : A0 = 27
  · subst h2
    have e : Ext 27 A1 A3 A4 A11 A12 A17 ↔ A3 = 1 ∨ (A3 = 2 ∧ 2 < A1) ∨ (A3 = 4 ∧ A1 = 8 ∧ (27 : Int) = 27) := by unfold Ext; simp
    rw [e]; simp
  simp [h1, h2]
section
variable {A0 A1 A2 A3 A4 A5 A6 A7 A8 A9 A10 A11 A12 A13 A14 A15 A16 A17 A18 : Int}
theorem num_iff (h0 : 1 ≤ A0) (h1 : A0 ≤ 44) (hS : A1 ∈ szs A0) (hI : In A4 A11 (prs A0)) (hF : FromOK A0 A1 A3) {z : Int} (hO : OpOK A11 A12 A13 A14 A15 A16 A17 z) :
    Ext A0 A1 A3 A4 A11 A12 A17 ↔ (A11 = 3 → NumOK A0 A1 A4 A17) ∧ ((20 ≤ A0 ∧ A0 ≤ 24) → A11 = 1 → A12 = 1) := by
  obtain ⟨t1, t2, t3, t4, t5, t6⟩ := tab h0 h1
  have t2' := t2 _ ((In_mem _ _ _).mp hI)
  have t4' := t4 _ hS
  have hz : A11 ≠ 3 → A17 = 0 := op_num hO
  unfold Ext NumOK
  by_cases c1 : A0 ≤ 8 ∨ A0 = 10
  · have hs : Sz A1 := by rcases t4' with h | h; exact h; omega
    have hs0 : A1 ≠ 0 := by rintro rfl; unfold Sz at hs; omega
    rw [if_pos c1, if_neg (by omega), if_neg (by omega), if_neg hs0]
    constructor
    · exact fun h => ⟨fun _ => h, fun x => by omega⟩
    · rintro ⟨h, _⟩
      by_cases x : A11 = 3
      · exact h x
      · rw [hz x]; exact fit_zero _
  rw [if_neg c1]
  by_cases c2 : A0 = 9
  · have hs : Sz A1 := by rcases t4' with h | h; exact h; omega
    have hs0 : A1 ≠ 0 := by rintro rfl; unfold Sz at hs; omega
    rw [if_pos c2, if_neg (by omega)]
    by_cases c3 : A1 = 8 ∧ A4 = 1
    · simp [c2, c3]
    · rw [if_neg (fun h => c3 h.2), if_neg hs0]
      constructor
      · exact fun h => ⟨fun _ => h.resolve_left c3, fun x => by omega⟩
      · rintro ⟨h, _⟩
        by_cases x : A11 = 3
        · exact .inr (h x)
        · rw [hz x]; exact .inr (fit_zero _)
  rw [if_neg c2]
  by_cases c3 : 20 ≤ A0 ∧ A0 ≤ 24
  · rw [if_pos c3, if_pos (.inl c3)]
    constructor
    · exact fun h => ⟨fun _ => h.2, fun _ => h.1⟩
    · rintro ⟨h, g⟩
      refine ⟨g c3, ?_⟩
      by_cases x : A11 = 3
      · exact h x
      · rw [hz x]; omega
  rw [if_neg c3]
  by_cases c4 : A0 = 26 ∨ A0 = 27
  · rw [if_pos c4]
    have hF2 : A3 = 1 ∨ (A3 = 2 ∧ 2 < A1) ∨ (A3 = 4 ∧ A1 = 8 ∧ A0 = 27) := by
      unfold FromOK at hF
      rcases c4 with rfl | rfl
      · simp at hF ⊢; exact hF
      · simp at hF ⊢; exact hF
    exact ⟨fun _ => ⟨fun x => by have := t2' x; omega, fun x => by omega⟩, fun _ => hF2⟩
  rw [if_neg c4]
  by_cases c5 : A0 = 29 ∨ A0 = 31 ∨ A0 = 32 ∨ A0 = 33
  · rw [if_pos c5, if_neg (by omega), if_neg (by omega)]
    have e : (if A1 = 0 then Fit A17 4 else Fit A17 A1) ↔ Fit A17 4 := by
      by_cases x : A1 = 0
      · rw [if_pos x]
      · rw [if_neg x]
        have : A1 = 8 := by
          by_cases y : A0 = 33
          · exact absurd (t6 (.inl y) _ hS) x
          · exact t5 (by omega) _ hS
        rw [this, fit_84]
    rw [e]
    constructor
    · exact fun h => ⟨fun _ => h, fun x => by omega⟩
    · rintro ⟨h, _⟩
      by_cases x : A11 = 3
      · exact h x
      · rw [hz x]; exact fit_zero _
  rw [if_neg c5]
  by_cases c6 : A0 = 44
  · rw [if_pos c6, if_pos (.inr c6)]
    constructor
    · exact fun h => ⟨fun _ => h, fun x => by omega⟩
    · rintro ⟨h, _⟩
      by_cases x : A11 = 3
      · exact h x
      · rw [hz x]; omega
  rw [if_neg c6]
  exact ⟨fun _ => ⟨fun x => by have := t2' x; omega, fun x => by omega⟩, fun _ => trivial⟩
theorem mx_self {z : Int} (h : Sz z) : mx 1 z = z := by
  rcases h with rfl | rfl | rfl | rfl <;> rfl
theorem core (h0 : 1 ≤ A0) (h1 : A0 ≤ 44) (hS : A1 ∈ szs A0) (hI : In A4 A11 (prs A0)) (hF : FromOK A0 A1 A3) :
    (OpOK A4 A5 A6 A7 A8 A9 A10 A1 ↔ (Sz (mx 1 A1) ∧ OpOK A4 A5 A6 A7 A8 A9 A10 (mx 1 A1))) ∧ (OpOK A11 A12 A13 A14 A15 A16 A17 (srcS A0 A1 A3) ↔ (Sz (srcZ A0 A1 A3) ∧ OpOK A11 A12 A13 A14 A15 A16 A17 (srcZ A0 A1 A3))) ∧ (OpOK A4 A5 A6 A7 A8 A9 A10 A1 → OpOK A11 A12 A13 A14 A15 A16 A17 (srcS A0 A1 A3) → (RexS A0 A1 (RA A4 A5 A6 A7 A1) (RP A4 A5) (RA A11 A12 A13 A14 (srcS A0 A1 A3)) (RP A11 A12) ↔ Rex5 A0 A1 A2 A3 A4 A5 A6 A7 A8 A9 A10 A11 A12 A13 A14 A15 A16 A17 A18)) := by
  obtain ⟨t1, t2, t3, t4, t5, t6⟩ := tab h0 h1
  have hm := (In_mem _ _ _).mp hI
  have t4' := t4 _ hS
  have rex : (Asks A11 A12 A13 A14 (srcS A0 A1 A3) ↔ Asks A11 A12 A13 A14 (srcZ A0 A1 A3)) → OpOK A4 A5 A6 A7 A8 A9 A10 A1 → OpOK A11 A12 A13 A14 A15 A16 A17 (srcS A0 A1 A3) → (RexS A0 A1 (RA A4 A5 A6 A7 A1) (RP A4 A5) (RA A11 A12 A13 A14 (srcS A0 A1 A3)) (RP A11 A12) ↔ Rex5 A0 A1 A2 A3 A4 A5 A6 A7 A8 A9 A10 A11 A12 A13 A14 A15 A16 A17 A18) := by
    intro hA hD hO
    unfold RexS Rex5
    rw [rp_hi hD, rp_hi hO, ra_asks _ hD, ra_asks _ hO, hA]
    have h8 : A1 = 8 → (fixd A0 ↔ 29 ≤ A0 ∧ A0 ≤ 32) := fun e => t3 (e ▸ hS)
    by_cases p : Hi A4 A5 ∨ Hi A11 A12
    · by_cases x : Asks A4 A5 A6 A7 A1
      · simp [p, x]
      · by_cases y : Asks A11 A12 A13 A14 (srcZ A0 A1 A3)
        · simp [p, x, y]
        · by_cases e : A1 = 8
          · simp [p, x, y, e, h8 e]
            exact ⟨fun ⟨a, b, c⟩ => ⟨c, a, b⟩, fun ⟨c, a, b⟩ => ⟨a, b, c⟩⟩
          · simp [p, x, y, e]
    · simp [p]
  by_cases z0 : A1 = 0
  · subst z0
    obtain ⟨k4, k11⟩ := t1 hS _ hm
    simp only at k4 k11
    have n4 : A4 ≠ 1 := by omega
    have n11 : A11 ≠ 1 := by omega
    have hA3 : A3 = 0 := by
      unfold FromOK at hF
      have : 28 < A0 := by rcases t4' with h | h; unfold Sz at h; omega; exact h.2
      rw [if_neg (by omega), if_neg (by omega)] at hF
      exact hF
    have hZ : srcZ A0 0 A3 = 8 := by unfold srcZ; rw [if_pos hA3, if_pos (.inr rfl)]
    rw [hZ] at rex ⊢
    refine ⟨⟨fun h => ⟨by unfold Sz; decide, (op_size _ _ n4).mp h⟩, fun h => (op_size _ _ n4).mp h.2⟩, ⟨fun h => ⟨by unfold Sz; omega, (op_size _ _ n11).mp h⟩, fun h => (op_size _ _ n11).mp h.2⟩, rex (asks_size _ _ n11)⟩
  · have hs : Sz A1 := by rcases t4' with h | h; exact h; exact absurd h.1 z0
    have hsrc : srcZ A0 A1 A3 = srcS A0 A1 A3 ∧ Sz (srcZ A0 A1 A3) := by
      unfold FromOK at hF
      unfold srcZ srcS
      by_cases c1 : A0 = 26 ∨ A0 = 27
      · have : A3 = 1 ∨ A3 = 2 ∨ A3 = 4 := by
          rcases c1 with rfl | rfl
          · simp at hF; omega
          · simp at hF; omega
        rw [if_neg (by omega), if_neg (by omega), if_pos (by omega)]
        exact ⟨rfl, by unfold Sz; omega⟩
      · rw [if_neg (by omega), if_neg (by omega)] at hF
        rw [if_pos hF]
        by_cases c2 : 20 ≤ A0 ∧ A0 ≤ 24
        · rw [if_pos (.inl c2), if_pos c2]; exact ⟨rfl, by unfold Sz; omega⟩
        · rw [if_neg (by omega), if_neg c2, if_neg (by omega)]; exact ⟨rfl, hs⟩
    rw [mx_self hs]
    refine ⟨⟨fun h => ⟨hs, h⟩, fun h => h.2⟩, ⟨fun h => ⟨hsrc.2, hsrc.1 ▸ h⟩, fun h => hsrc.1 ▸ h.2⟩, rex (by rw [hsrc.1])⟩
end
theorem same (A0 A1 A2 A3 A4 A5 A6 A7 A8 A9 A10 A11 A12 A13 A14 A15 A16 A17 A18 : Int) : SpecOK A0 A1 A2 A3 A4 A5 A6 A7 A8 A9 A10 A11 A12 A13 A14 A15 A16 A17 A18 ↔ ImplOK A0 A1 A2 A3 A4 A5 A6 A7 A8 A9 A10 A11 A12 A13 A14 A15 A16 A17 A18 := by
  unfold SpecOK ImplOK Fo1 Op2 Nu3 Sh4 Shp
  constructor
  · rintro ⟨h, hl, ⟨hS, hI, hE⟩, hF, hC, hc, hD, hO, hR⟩
    have hf : FromOK A0 A1 A3 := from_iff.mp ⟨hF, fun _ => hE⟩
    obtain ⟨c1, c2, c3⟩ := core (A2 := A2) (A18 := A18) h.1 h.2 hS hI hf
    obtain ⟨n1, n2⟩ := (num_iff h.1 h.2 hS hI hf hO).mp hE
    refine ⟨h, hl, hc, by omega, hS, hf, ?_, c1.mp hD, c2.mp hO, n1, n2, (c3 hD hO).mp hR⟩
    rw [cl_self (op_kind hD), cl_self (op_kind hO)]
    exact hI
  · rintro ⟨h, hl, hc, hC, hS, hf, hI, hD, hO, n1, n2, hR⟩
    rw [cl_self (op_kind hD.2), cl_self (op_kind hO.2)] at hI
    obtain ⟨c1, c2, c3⟩ := core (A2 := A2) (A18 := A18) h.1 h.2 hS hI hf
    have hE := (num_iff h.1 h.2 hS hI hf hO.2).mpr ⟨n1, n2⟩
    exact ⟨h, hl, ⟨hS, hI, hE⟩, (from_iff (A4 := A4) (A11 := A11) (A12 := A12) (A17 := A17)).mpr hf |>.1, by omega, hc, c1.mpr hD, c2.mpr hO, (c3 (c1.mpr hD) (c2.mpr hO)).mpr hR⟩
end Go.Proofs.Ytgipadecllofkaa.Pure
