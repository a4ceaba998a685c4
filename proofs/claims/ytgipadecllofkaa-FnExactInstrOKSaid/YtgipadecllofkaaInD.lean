/- The reference's InstrOK told in plain words. -/
import Derived.Test.YtgipadecllofkaaInB
import Derived.Test.YtgipadecllofkaaPFnExactInstrOKx70
namespace Go.Proofs.Ytgipadecllofkaa.Pure
open Go.RowKit Go.Proofs.Ytgipadecllofkaa.PFnExactInstrOK Go.Proofs.YtgipadecllofkaaW.PrintWords Go.Proofs.YtgipadecllofkaaW.PrintLast Go.Proofs.YtgipadecllofkaaW.PrintMore Go.Proofs.Ytgipadecllofkaa.Num
set_option linter.unusedVariables false
set_option linter.unusedSimpArgs false
/-- What stands behind sizes and kinds. -/
def Ext (A0 A1 A3 A4 A11 A12 A17 : Int) : Prop :=
  if A0 ≤ 8 ∨ A0 = 10 then Fit A17 A1
  else if A0 = 9 then (A1 = 8 ∧ A4 = 1) ∨ Fit A17 A1
  else if 20 ≤ A0 ∧ A0 ≤ 24 then (A11 = 1 → A12 = 1) ∧ (0 ≤ A17 ∧ A17 ≤ 255)
  else if A0 = 26 ∨ A0 = 27 then A3 = 1 ∨ (A3 = 2 ∧ 2 < A1) ∨ (A3 = 4 ∧ A1 = 8 ∧ A0 = 27)
  else if A0 = 29 ∨ A0 = 31 ∨ A0 = 32 ∨ A0 = 33 then Fit A17 4
  else if A0 = 44 then 0 ≤ A17 ∧ A17 ≤ 255
  else True
instance (A0 A1 A3 A4 A11 A12 A17 : Int) : Decidable (Ext A0 A1 A3 A4 A11 A12 A17) := by unfold Ext; infer_instance
/-- Kinds and sizes by operation. -/
def Shp (A0 A1 A3 A4 A11 A12 A17 : Int) : Prop := A1 ∈ szs A0 ∧ In A4 A11 (prs A0) ∧ Ext A0 A1 A3 A4 A11 A12 A17
instance (A0 A1 A3 A4 A11 A12 A17 : Int) : Decidable (Shp A0 A1 A3 A4 A11 A12 A17) := by unfold Shp; infer_instance
theorem two_a {k : Nat} (hk : 64 < k) (A0 A1 A2 A3 A4 A5 A6 A7 A8 A9 A10 A11 A12 A13 A14 A15 A16 A17 A18 : Int) : spec_l05Two.f k A0 A1 A2 A3 A4 A5 A6 A7 A8 A9 A10 A11 A12 A13 A14 A15 A16 A17 A18 prs_rrmrrmrimi = some (decide (In A4 A11 [(1, 1), (2, 1), (1, 2), (1, 3), (2, 3)])) :=
  two_tells (by omega) A0 A1 A2 A3 A4 A5 A6 A7 A8 A9 A10 A11 A12 A13 A14 A15 A16 A17 A18 [(114, 114), (109, 114), (114, 109), (114, 105), (109, 105)] (by unfold lett; simp) (by simp)
theorem two_b {k : Nat} (hk : 64 < k) (A0 A1 A2 A3 A4 A5 A6 A7 A8 A9 A10 A11 A12 A13 A14 A15 A16 A17 A18 : Int) : spec_l05Two.f k A0 A1 A2 A3 A4 A5 A6 A7 A8 A9 A10 A11 A12 A13 A14 A15 A16 A17 A18 prs_rrmrrimi = some (decide (In A4 A11 [(1, 1), (2, 1), (1, 3), (2, 3)])) :=
  two_tells (by omega) A0 A1 A2 A3 A4 A5 A6 A7 A8 A9 A10 A11 A12 A13 A14 A15 A16 A17 A18 [(114, 114), (109, 114), (114, 105), (109, 105)] (by unfold lett; simp) (by simp)
theorem two_c {k : Nat} (hk : 64 < k) (A0 A1 A2 A3 A4 A5 A6 A7 A8 A9 A10 A11 A12 A13 A14 A15 A16 A17 A18 : Int) : spec_l05Two.f k A0 A1 A2 A3 A4 A5 A6 A7 A8 A9 A10 A11 A12 A13 A14 A15 A16 A17 A18 prs_rrmr = some (decide (In A4 A11 [(1, 1), (2, 1)])) :=
  two_tells (by omega) A0 A1 A2 A3 A4 A5 A6 A7 A8 A9 A10 A11 A12 A13 A14 A15 A16 A17 A18 [(114, 114), (109, 114)] (by unfold lett; simp) (by simp)
theorem two_d {k : Nat} (hk : 64 < k) (A0 A1 A2 A3 A4 A5 A6 A7 A8 A9 A10 A11 A12 A13 A14 A15 A16 A17 A18 : Int) : spec_l05Two.f k A0 A1 A2 A3 A4 A5 A6 A7 A8 A9 A10 A11 A12 A13 A14 A15 A16 A17 A18 prs_romo = some (decide (In A4 A11 [(1, 0), (2, 0)])) :=
  two_tells (by omega) A0 A1 A2 A3 A4 A5 A6 A7 A8 A9 A10 A11 A12 A13 A14 A15 A16 A17 A18 [(114, 48), (109, 48)] (by unfold lett; simp) (by simp)
theorem two_e {k : Nat} (hk : 64 < k) (A0 A1 A2 A3 A4 A5 A6 A7 A8 A9 A10 A11 A12 A13 A14 A15 A16 A17 A18 : Int) : spec_l05Two.f k A0 A1 A2 A3 A4 A5 A6 A7 A8 A9 A10 A11 A12 A13 A14 A15 A16 A17 A18 prs_orom = some (decide (In A4 A11 [(0, 1), (0, 2)])) :=
  two_tells (by omega) A0 A1 A2 A3 A4 A5 A6 A7 A8 A9 A10 A11 A12 A13 A14 A15 A16 A17 A18 [(48, 114), (48, 109)] (by unfold lett; simp) (by simp)
theorem two_f {k : Nat} (hk : 64 < k) (A0 A1 A2 A3 A4 A5 A6 A7 A8 A9 A10 A11 A12 A13 A14 A15 A16 A17 A18 : Int) : spec_l05Two.f k A0 A1 A2 A3 A4 A5 A6 A7 A8 A9 A10 A11 A12 A13 A14 A15 A16 A17 A18 prs_rrrm = some (decide (In A4 A11 [(1, 1), (1, 2)])) :=
  two_tells (by omega) A0 A1 A2 A3 A4 A5 A6 A7 A8 A9 A10 A11 A12 A13 A14 A15 A16 A17 A18 [(114, 114), (114, 109)] (by unfold lett; simp) (by simp)
theorem two_g {k : Nat} (hk : 64 < k) (A0 A1 A2 A3 A4 A5 A6 A7 A8 A9 A10 A11 A12 A13 A14 A15 A16 A17 A18 : Int) : spec_l05Two.f k A0 A1 A2 A3 A4 A5 A6 A7 A8 A9 A10 A11 A12 A13 A14 A15 A16 A17 A18 prs_rm = some (decide (In A4 A11 [(1, 2)])) :=
  two_tells (by omega) A0 A1 A2 A3 A4 A5 A6 A7 A8 A9 A10 A11 A12 A13 A14 A15 A16 A17 A18 [(114, 109)] (by unfold lett; simp) (by simp)
theorem two_h {k : Nat} (hk : 64 < k) (A0 A1 A2 A3 A4 A5 A6 A7 A8 A9 A10 A11 A12 A13 A14 A15 A16 A17 A18 : Int) : spec_l05Two.f k A0 A1 A2 A3 A4 A5 A6 A7 A8 A9 A10 A11 A12 A13 A14 A15 A16 A17 A18 prs_oromoi = some (decide (In A4 A11 [(0, 1), (0, 2), (0, 3)])) :=
  two_tells (by omega) A0 A1 A2 A3 A4 A5 A6 A7 A8 A9 A10 A11 A12 A13 A14 A15 A16 A17 A18 [(48, 114), (48, 109), (48, 105)] (by unfold lett; simp) (by simp)
theorem two_i {k : Nat} (hk : 64 < k) (A0 A1 A2 A3 A4 A5 A6 A7 A8 A9 A10 A11 A12 A13 A14 A15 A16 A17 A18 : Int) : spec_l05Two.f k A0 A1 A2 A3 A4 A5 A6 A7 A8 A9 A10 A11 A12 A13 A14 A15 A16 A17 A18 prs_oi = some (decide (In A4 A11 [(0, 3)])) :=
  two_tells (by omega) A0 A1 A2 A3 A4 A5 A6 A7 A8 A9 A10 A11 A12 A13 A14 A15 A16 A17 A18 [(48, 105)] (by unfold lett; simp) (by simp)
theorem two_j {k : Nat} (hk : 64 < k) (A0 A1 A2 A3 A4 A5 A6 A7 A8 A9 A10 A11 A12 A13 A14 A15 A16 A17 A18 : Int) : spec_l05Two.f k A0 A1 A2 A3 A4 A5 A6 A7 A8 A9 A10 A11 A12 A13 A14 A15 A16 A17 A18 prs_oo = some (decide (In A4 A11 [(0, 0)])) :=
  two_tells (by omega) A0 A1 A2 A3 A4 A5 A6 A7 A8 A9 A10 A11 A12 A13 A14 A15 A16 A17 A18 [(48, 48)] (by unfold lett; simp) (by simp)
theorem gate_two {b : Bool} {S I F : Prop} [Decidable S] [Decidable I] [Decidable F] {x : Option Bool} (hb : b = decide S) (hx : S → x = some (decide F)) : (if b = true then ((some (decide I)).bind fun t => if t = true then x else some false) else some false) = some (decide (S ∧ I ∧ F)) := by
  subst hb
  by_cases s : S
  · rw [hx s]
    by_cases i : I <;> simp [s, i]
  · simp [s]
theorem mem_all (z : Int) : z ∈ [(1 : Int), 2, 4, 8] ↔ Sz z := by simp [Sz]
theorem mem_more (z : Int) : z ∈ [(2 : Int), 4, 8] ↔ (Sz z ∧ 1 < z) := by
  simp [Sz]; omega
theorem eq_dec (a b : Int) : (a == b) = decide (a = b) := Bool.beq_eq_decide_eq a b
theorem some_dec {P Q : Prop} [Decidable P] [Decidable Q] (h : P ↔ Q) : some (decide P) = some (decide Q) := congrArg some (decide_eq_decide.mpr h)
theorem g_tells {k : Nat} (hk : 64 < k) (A0 A1 A2 A3 A4 A5 A6 A7 A8 A9 A10 A11 A12 A13 A14 A15 A16 A17 A18 : Int) (h0 : 1 ≤ A0) (h1 : A0 ≤ 44) (hn : -9223372036854775808 ≤ A17 ∧ A17 ≤ 9223372036854775807) :
    spec_l05Shape.f k A0 A1 A2 A3 A4 A5 A6 A7 A8 A9 A10 A11 A12 A13 A14 A15 A16 A17 A18 = some (decide (Shp A0 A1 A3 A4 A11 A12 A17)) := by
  unfold spec_l05Shape.f
  rw [size_spec, Option.bind_some]
  have m_ : (decide (Sz A1) && decide (1 < A1)) = decide (Sz A1 ∧ 1 < A1) := (Bool.decide_and _ _).symm
  have f1 : Sz A1 → spec_l05Fits.f k A17 A1 = some (decide (Fit A17 A1)) := fun hz => fits_spec hk hz hn
  have f4 : spec_l05Fits.f k A17 4 = some (decide (Fit A17 4)) := fits_spec hk (by unfold Sz; omega) hn
  have ft : some true = some (decide True) := rfl
  have e8 : (A1 == 8) = decide (A1 = 8) := eq_dec _ _
  have e1 : (A1 == 1) = decide (A1 = 1) := eq_dec _ _
  have e0 : (A1 == 0) = decide (A1 = 0) := eq_dec _ _
  have fb : (if decide (0 ≤ A17 ∧ A17 ≤ 255) = true then some true else some false) = some (decide (0 ≤ A17 ∧ A17 ≤ 255)) := by by_cases h : 0 ≤ A17 ∧ A17 ≤ 255 <;> simp [h]
  unfold spec_l05Shape.g
  rw [m_, two_a hk, two_b hk, two_c hk, two_d hk, two_e hk, two_f hk, two_g hk, two_h hk, two_i hk, two_j hk]
  have sa : decide (Sz A1) = decide (A1 ∈ [(1 : Int), 2, 4, 8]) := decide_eq_decide.mpr (mem_all A1).symm
  have sm : decide (Sz A1 ∧ 1 < A1) = decide (A1 ∈ [(2 : Int), 4, 8]) := decide_eq_decide.mpr (mem_more A1).symm
  have f2 : A1 ∈ [(1 : Int), 2, 4, 8] → spec_l05Fits.f k A17 A1 = some (decide (Fit A17 A1)) := fun h => f1 ((mem_all A1).mp h)
  have ft2 : ∀ {S : Prop}, S → some true = some (decide True) := fun _ => rfl
  have f42 : ∀ {S : Prop}, S → spec_l05Fits.f k A17 4 = some (decide (Fit A17 4)) := fun _ => f4
  have fb2 : ∀ {S : Prop}, S → (if decide (0 ≤ A17 ∧ A17 ≤ 255) = true then some true else some false) = some (decide (0 ≤ A17 ∧ A17 ≤ 255)) := fun _ => fb
  by_cases c8 : A0 ≤ 8
  · rw [if_pos (decide_eq_true c8)]
    refine (gate_two sa f2).trans (some_dec ?_)
    unfold Shp szs prs Ext
    rw [if_pos (by omega), if_pos (by omega), if_pos (by omega)]
  rw [if_neg (fun h => c8 (of_decide_eq_true h))]
  by_cases c9 : A0 = 9
  · rw [if_pos (beq_iff_eq.mpr c9)]
    subst c9
    by_cases x : A1 = 8
    · by_cases y : A4 = 1
      · rw [if_pos (beq_iff_eq.mpr x), if_pos (beq_iff_eq.mpr y)]
        refine (gate_two sa ft2).trans (some_dec ?_)
        simp [Shp, szs, prs, Ext, x, y]
      · rw [if_pos (beq_iff_eq.mpr x), if_neg (fun h => y (beq_iff_eq.mp h))]
        refine (gate_two sa f2).trans (some_dec ?_)
        simp [Shp, szs, prs, Ext, x, y]
    · rw [if_neg (fun h => x (beq_iff_eq.mp h))]
      refine (gate_two sa f2).trans (some_dec ?_)
      simp [Shp, szs, prs, Ext, x]
  rw [if_neg (fun h => c9 (beq_iff_eq.mp h))]
  by_cases c10 : A0 = 10
  · rw [if_pos (beq_iff_eq.mpr c10)]
    refine (gate_two sa f2).trans (some_dec ?_)
    subst c10
    simp [Shp, szs, prs, Ext]
  rw [if_neg (fun h => c10 (beq_iff_eq.mp h))]
  by_cases c28 : A0 = 28
  · rw [if_pos (beq_iff_eq.mpr c28)]
    refine (gate_two sa ft2).trans (some_dec ?_)
    subst c28
    simp [Shp, szs, prs, Ext]
  rw [if_neg (fun h => c28 (beq_iff_eq.mp h))]
  by_cases c11 : A0 = 11
  · rw [if_pos (beq_iff_eq.mpr c11)]
    refine (gate_two sa ft2).trans (some_dec ?_)
    subst c11
    simp [Shp, szs, prs, Ext]
  rw [if_neg (fun h => c11 (beq_iff_eq.mp h))]
  by_cases c12 : A0 = 12
  · rw [if_pos (beq_iff_eq.mpr c12)]
    refine (gate_two sa ft2).trans (some_dec ?_)
    subst c12
    simp [Shp, szs, prs, Ext]
  rw [if_neg (fun h => c12 (beq_iff_eq.mp h))]
  by_cases c18 : A0 = 18
  · rw [if_pos (beq_iff_eq.mpr c18)]
    refine (gate_two sa ft2).trans (some_dec ?_)
    subst c18
    simp [Shp, szs, prs, Ext]
  rw [if_neg (fun h => c18 (beq_iff_eq.mp h))]
  by_cases c19 : A0 = 19
  · rw [if_pos (beq_iff_eq.mpr c19)]
    refine (gate_two sa ft2).trans (some_dec ?_)
    subst c19
    simp [Shp, szs, prs, Ext]
  rw [if_neg (fun h => c19 (beq_iff_eq.mp h))]
  by_cases c13 : 13 ≤ A0 ∧ A0 ≤ 16
  · rw [if_pos (decide_eq_true c13)]
    refine (gate_two sa ft2).trans (some_dec ?_)
    unfold Shp szs prs Ext
    obtain rfl | rfl | rfl | rfl : A0 = 13 ∨ A0 = 14 ∨ A0 = 15 ∨ A0 = 16 := by omega
    all_goals simp
  rw [if_neg (fun h => c13 (of_decide_eq_true h))]
  by_cases c17 : A0 = 17
  · rw [if_pos (beq_iff_eq.mpr c17)]
    refine (gate_two sm ft2).trans (some_dec ?_)
    subst c17
    simp [Shp, szs, prs, Ext]
  rw [if_neg (fun h => c17 (beq_iff_eq.mp h))]
  by_cases c36 : A0 = 36
  · rw [if_pos (beq_iff_eq.mpr c36)]
    refine (gate_two sm ft2).trans (some_dec ?_)
    subst c36
    simp [Shp, szs, prs, Ext]
  rw [if_neg (fun h => c36 (beq_iff_eq.mp h))]
  by_cases c20 : 20 ≤ A0 ∧ A0 ≤ 24
  · rw [if_pos (decide_eq_true c20)]
    have hS : szs A0 = [1, 2, 4, 8] := by unfold szs; rw [if_neg (by omega), if_pos (by omega)]
    have hP : prs A0 = [(1, 1), (2, 1), (1, 3), (2, 3)] := by unfold prs; rw [if_neg (by omega), if_pos (by omega)]
    have hE : Ext A0 A1 A3 A4 A11 A12 A17 ↔ (A11 = 1 → A12 = 1) ∧ (0 ≤ A17 ∧ A17 ≤ 255) := by unfold Ext; rw [if_neg (by omega), if_neg (by omega), if_pos (by omega)]
    by_cases x : A11 = 1
    · rw [if_pos (beq_iff_eq.mpr x)]
      by_cases y : A12 = 1
      · rw [if_neg (by simp [y])]
        refine (gate_two sa fb2).trans (some_dec ?_)
        unfold Shp
        rw [hS, hP, hE]
        simp [x, y]
      · rw [if_pos (by simp [y])]
        refine (some_dec (P := False) ?_)
        unfold Shp
        rw [hE]
        simp [x, y]
    · rw [if_neg (fun h => x (beq_iff_eq.mp h))]
      refine (gate_two sa fb2).trans (some_dec ?_)
      unfold Shp
      rw [hS, hP, hE]
      simp [x]
  rw [if_neg (fun h => c20 (of_decide_eq_true h))]
  by_cases c25 : A0 = 25
  · rw [if_pos (beq_iff_eq.mpr c25)]
    refine (gate_two sm ft2).trans (some_dec ?_)
    subst c25
    simp [Shp, szs, prs, Ext]
  rw [if_neg (fun h => c25 (beq_iff_eq.mp h))]
  by_cases c26 : A0 = 26
  · rw [if_pos (beq_iff_eq.mpr c26)]
    subst c26
    unfold Shp szs prs Ext
    by_cases i : In A4 A11 [(1, 1), (1, 2)]
    · by_cases z : Sz A1 ∧ 1 < A1
      · have z2 := (mem_more A1).mpr z
        by_cases x1 : A3 = 1 <;> by_cases x2 : A3 = 2 <;> by_cases x4 : A3 = 4 <;> by_cases y2 : 2 < A1 <;> by_cases y8 : A1 = 8 <;> simp_all
        all_goals (by_cases q : 2 < A1 <;> simp [q])
      · have z2 : ¬ A1 ∈ [(2 : Int), 4, 8] := fun h => z ((mem_more A1).mp h)
        simp only [List.mem_cons, List.not_mem_nil, or_false] at z2
        simp [i, z, z2]
    · simp [i]
  rw [if_neg (fun h => c26 (beq_iff_eq.mp h))]
  by_cases c27 : A0 = 27
  · rw [if_pos (beq_iff_eq.mpr c27)]
    subst c27
    unfold Shp szs prs Ext
    by_cases i : In A4 A11 [(1, 1), (1, 2)]
    · by_cases z : Sz A1 ∧ 1 < A1
      · have z2 := (mem_more A1).mpr z
        by_cases x1 : A3 = 1 <;> by_cases x2 : A3 = 2 <;> by_cases x4 : A3 = 4 <;> by_cases y2 : 2 < A1 <;> by_cases y8 : A1 = 8 <;> simp_all
        all_goals (by_cases q : 2 < A1 <;> simp [q])
      · have z2 : ¬ A1 ∈ [(2 : Int), 4, 8] := fun h => z ((mem_more A1).mp h)
        simp only [List.mem_cons, List.not_mem_nil, or_false] at z2
        simp [i, z, z2]
    · simp [i]
  rw [if_neg (fun h => c27 (beq_iff_eq.mp h))]
  by_cases c29 : A0 = 29
  · rw [if_pos (beq_iff_eq.mpr c29)]
    refine (gate_two e8 f42).trans (some_dec ?_)
    subst c29
    simp [Shp, szs, prs, Ext]
  rw [if_neg (fun h => c29 (beq_iff_eq.mp h))]
  by_cases c31 : A0 = 31
  · rw [if_pos (beq_iff_eq.mpr c31)]
    refine (gate_two e8 f42).trans (some_dec ?_)
    subst c31
    simp [Shp, szs, prs, Ext]
  rw [if_neg (fun h => c31 (beq_iff_eq.mp h))]
  by_cases c32 : A0 = 32
  · rw [if_pos (beq_iff_eq.mpr c32)]
    refine (gate_two e8 f42).trans (some_dec ?_)
    subst c32
    simp [Shp, szs, prs, Ext]
  rw [if_neg (fun h => c32 (beq_iff_eq.mp h))]
  by_cases c30 : A0 = 30
  · rw [if_pos (beq_iff_eq.mpr c30)]
    refine (gate_two e8 ft2).trans (some_dec ?_)
    subst c30
    simp [Shp, szs, prs, Ext]
  rw [if_neg (fun h => c30 (beq_iff_eq.mp h))]
  by_cases c33 : A0 = 33
  · rw [if_pos (beq_iff_eq.mpr c33)]
    refine (gate_two e0 f42).trans (some_dec ?_)
    subst c33
    simp [Shp, szs, prs, Ext]
  rw [if_neg (fun h => c33 (beq_iff_eq.mp h))]
  by_cases c35 : A0 = 35
  · rw [if_pos (beq_iff_eq.mpr c35)]
    refine (gate_two e1 ft2).trans (some_dec ?_)
    subst c35
    simp [Shp, szs, prs, Ext]
  rw [if_neg (fun h => c35 (beq_iff_eq.mp h))]
  by_cases c39 : A0 = 39
  · rw [if_pos (beq_iff_eq.mpr c39)]
    refine (gate_two sm ft2).trans (some_dec ?_)
    subst c39
    simp [Shp, szs, prs, Ext]
  rw [if_neg (fun h => c39 (beq_iff_eq.mp h))]
  by_cases c40 : A0 = 40
  · rw [if_pos (beq_iff_eq.mpr c40)]
    refine (gate_two sm ft2).trans (some_dec ?_)
    subst c40
    simp [Shp, szs, prs, Ext]
  rw [if_neg (fun h => c40 (beq_iff_eq.mp h))]
  by_cases c41 : A0 = 41
  · rw [if_pos (beq_iff_eq.mpr c41)]
    refine (gate_two e1 ft2).trans (some_dec ?_)
    subst c41
    simp [Shp, szs, prs, Ext]
  rw [if_neg (fun h => c41 (beq_iff_eq.mp h))]
  by_cases c42 : A0 = 42
  · rw [if_pos (beq_iff_eq.mpr c42)]
    refine (gate_two e1 ft2).trans (some_dec ?_)
    subst c42
    simp [Shp, szs, prs, Ext]
  rw [if_neg (fun h => c42 (beq_iff_eq.mp h))]
  by_cases c44 : A0 = 44
  · rw [if_pos (beq_iff_eq.mpr c44)]
    refine (gate_two e0 fb2).trans (some_dec ?_)
    subst c44
    simp [Shp, szs, prs, Ext]
  rw [if_neg (fun h => c44 (beq_iff_eq.mp h))]
  refine (gate_two e0 ft2).trans (some_dec ?_)
  obtain rfl | rfl | rfl | rfl : A0 = 34 ∨ A0 = 37 ∨ A0 = 38 ∨ A0 = 43 := by omega
  all_goals simp [Shp, szs, prs, Ext]
/-! The rest of the reference's InstrOK -/
def RA (k r b i z : Int) : Prop := if k = 1 then (8 ≤ r ∧ r ≤ 15) ∨ (z = 1 ∧ 4 ≤ r ∧ r ≤ 7) else if k = 2 then (8 ≤ b ∧ b ≤ 15) ∨ 8 ≤ i else False
instance (k r b i z : Int) : Decidable (RA k r b i z) := by unfold RA; infer_instance
def RP (k r : Int) : Prop := k = 1 ∧ 16 ≤ r
instance (k r : Int) : Decidable (RP k r) := by unfold RP; infer_instance
theorem rex_spec (k r b i s d m z : Int) : spec_l05Rex.f k r b i s d m z = some (decide (RA k r b i z), decide (RP k r)) := by
  unfold spec_l05Rex.f RA RP
  simp only [in_spec, Option.bind_some, decide_eq_true_eq]
  by_cases h1 : k = 1
  · by_cases hr : 8 ≤ r ∧ r ≤ 15
    · simp [h1, hr]
    · by_cases hz : z = 1 <;> simp [h1, hr, hz]
  · by_cases h2 : k = 2
    · by_cases hb : 8 ≤ b ∧ b ≤ 15 <;> simp [h2, hb]
    · simp [h1, h2]
theorem wide_spec (o : Int) : spec_l05Wide.f o = some (decide (29 ≤ o ∧ o ≤ 32)) := by
  unfold spec_l05Wide.f
  by_cases h1 : o = 29
  · simp [h1]
  by_cases h2 : o = 30
  · simp [h2]
  by_cases h3 : o = 31
  · simp [h3]
  rw [if_neg h1, if_neg h2, if_neg h3, eq_dec]
  refine some_dec ?_
  omega
def srcS (o z f : Int) : Int := if 20 ≤ o ∧ o ≤ 24 then 8 else if 0 < f then f else z
theorem sizes_spec (A0 A1 A2 A3 A4 A5 A6 A7 A8 A9 A10 A11 A12 A13 A14 A15 A16 A17 A18 : Int) : spec_l05Sizes.f A0 A1 A2 A3 A4 A5 A6 A7 A8 A9 A10 A11 A12 A13 A14 A15 A16 A17 A18 = some (A1, srcS A0 A1 A3) := by
  unfold spec_l05Sizes.f spec_l05From.f srcS
  simp only [in_spec]
  by_cases h1 : 0 < A3 <;> by_cases h2 : 20 ≤ A0 ∧ A0 ≤ 24 <;> simp [h1, h2]
/-- What is asked of REX. -/
def RexS (A0 A1 : Int) (a p b q : Prop) : Prop := ¬ (p ∨ q) ∨ (¬ a ∧ ¬ b ∧ (A1 ≠ 8 ∨ (29 ≤ A0 ∧ A0 ≤ 32)))
instance (A0 A1 : Int) (a p b q : Prop) [Decidable a] [Decidable p] [Decidable b] [Decidable q] : Decidable (RexS A0 A1 a p b q) := by unfold RexS; infer_instance
theorem r8_tells (A0 A1 A2 A3 A4 A5 A6 A7 A8 A9 A10 A11 A12 A13 A14 A15 A16 A17 A18 : Int) (a p b q : Prop) [Decidable a] [Decidable p] [Decidable b] [Decidable q] : spec_l05OK.r8 A0 A1 A2 A3 A4 A5 A6 A7 A8 A9 A10 A11 A12 A13 A14 A15 A16 A17 A18 (decide a) (decide p) (decide b) (decide q) = some (decide (RexS A0 A1 a p b q)) := by
  unfold spec_l05OK.r8 RexS
  rw [wide_spec]
  have e : ((A1 != 8) = true) ↔ A1 ≠ 8 := bne_iff_ne
  by_cases hp : p <;> by_cases hq : q <;> by_cases ha : a <;> by_cases hb : b <;> by_cases h8 : A1 = 8 <;> simp [hp, hq, ha, hb, h8]
/-- The reference's InstrOK. -/
def SpecOK (A0 A1 A2 A3 A4 A5 A6 A7 A8 A9 A10 A11 A12 A13 A14 A15 A16 A17 A18 : Int) : Prop := (1 ≤ A0 ∧ A0 ≤ 44) ∧ (0 ≤ A18 ∧ A18 ≤ 15) ∧ Shp A0 A1 A3 A4 A11 A12 A17 ∧ (A0 = 26 ∨ A0 = 27 ∨ A3 = 0) ∧ (A0 = 33 ∨ A0 = 35 ∨ A0 = 36 ∨ A2 = 0) ∧ (0 ≤ A2 ∧ A2 ≤ 15) ∧ OpOK A4 A5 A6 A7 A8 A9 A10 A1 ∧ OpOK A11 A12 A13 A14 A15 A16 A17 (srcS A0 A1 A3) ∧ RexS A0 A1 (RA A4 A5 A6 A7 A1) (RP A4 A5) (RA A11 A12 A13 A14 (srcS A0 A1 A3)) (RP A11 A12)
instance (A0 A1 A2 A3 A4 A5 A6 A7 A8 A9 A10 A11 A12 A13 A14 A15 A16 A17 A18 : Int) : Decidable (SpecOK A0 A1 A2 A3 A4 A5 A6 A7 A8 A9 A10 A11 A12 A13 A14 A15 A16 A17 A18) := by unfold SpecOK; infer_instance
theorem r4_tells (A0 A1 A2 A3 A4 A5 A6 A7 A8 A9 A10 A11 A12 A13 A14 A15 A16 A17 A18 : Int) : spec_l05OK.r4 A0 A1 A2 A3 A4 A5 A6 A7 A8 A9 A10 A11 A12 A13 A14 A15 A16 A17 A18 = some (decide (OpOK A4 A5 A6 A7 A8 A9 A10 A1 ∧ OpOK A11 A12 A13 A14 A15 A16 A17 (srcS A0 A1 A3) ∧ RexS A0 A1 (RA A4 A5 A6 A7 A1) (RP A4 A5) (RA A11 A12 A13 A14 (srcS A0 A1 A3)) (RP A11 A12))) := by
  unfold spec_l05OK.r4 spec_l05OK.r6
  rw [sizes_spec, Option.bind_some, l04_tells, l04_tells, rex_spec, rex_spec]
  simp only [Option.bind_some, r8_tells]
  by_cases h1 : OpOK A4 A5 A6 A7 A8 A9 A10 A1 <;> by_cases h2 : OpOK A11 A12 A13 A14 A15 A16 A17 (srcS A0 A1 A3) <;> simp [h1, h2]
theorem r2_tells (A0 A1 A2 A3 A4 A5 A6 A7 A8 A9 A10 A11 A12 A13 A14 A15 A16 A17 A18 : Int) : spec_l05OK.r2 A0 A1 A2 A3 A4 A5 A6 A7 A8 A9 A10 A11 A12 A13 A14 A15 A16 A17 A18 = some (decide ((A0 = 26 ∨ A0 = 27 ∨ A3 = 0) ∧ (A0 = 33 ∨ A0 = 35 ∨ A0 = 36 ∨ A2 = 0) ∧ (0 ≤ A2 ∧ A2 ≤ 15) ∧ OpOK A4 A5 A6 A7 A8 A9 A10 A1 ∧ OpOK A11 A12 A13 A14 A15 A16 A17 (srcS A0 A1 A3) ∧ RexS A0 A1 (RA A4 A5 A6 A7 A1) (RP A4 A5) (RA A11 A12 A13 A14 (srcS A0 A1 A3)) (RP A11 A12))) := by
  have h3 : spec_l05OK.r3 A0 A1 A2 A3 A4 A5 A6 A7 A8 A9 A10 A11 A12 A13 A14 A15 A16 A17 A18 = some (decide ((A0 = 33 ∨ A0 = 35 ∨ A0 = 36 ∨ A2 = 0) ∧ (0 ≤ A2 ∧ A2 ≤ 15) ∧ OpOK A4 A5 A6 A7 A8 A9 A10 A1 ∧ OpOK A11 A12 A13 A14 A15 A16 A17 (srcS A0 A1 A3) ∧ RexS A0 A1 (RA A4 A5 A6 A7 A1) (RP A4 A5) (RA A11 A12 A13 A14 (srcS A0 A1 A3)) (RP A11 A12))) := by
    unfold spec_l05OK.r3
    rw [r4_tells]
    by_cases h1 : A0 = 33 <;> by_cases h2 : A0 = 35 <;> by_cases h3 : A0 = 36 <;> by_cases h4 : A2 = 0 <;> by_cases h5 : 0 ≤ A2 ∧ A2 ≤ 15 <;> simp [h1, h2, h3, h4, h5]
  unfold spec_l05OK.r2
  rw [h3]
  by_cases h1 : A0 = 26 <;> by_cases h2 : A0 = 27 <;> by_cases h4 : A3 = 0 <;> simp [h1, h2, h4]
theorem spec_tells {k : Nat} (hk : 64 < k) (A0 A1 A2 A3 A4 A5 A6 A7 A8 A9 A10 A11 A12 A13 A14 A15 A16 A17 A18 : Int) (hn : -9223372036854775808 ≤ A17 ∧ A17 ≤ 9223372036854775807) : spec_l05OK.f k A0 A1 A2 A3 A4 A5 A6 A7 A8 A9 A10 A11 A12 A13 A14 A15 A16 A17 A18 = some (decide (SpecOK A0 A1 A2 A3 A4 A5 A6 A7 A8 A9 A10 A11 A12 A13 A14 A15 A16 A17 A18)) := by
  unfold spec_l05OK.f SpecOK
  by_cases h1 : 1 ≤ A0 ∧ A0 ≤ 44
  rotate_left
  · rw [if_neg (fun h => h1 (of_decide_eq_true h))]; simp [h1]
  rw [if_pos (decide_eq_true h1), g_tells hk A0 A1 A2 A3 A4 A5 A6 A7 A8 A9 A10 A11 A12 A13 A14 A15 A16 A17 A18 h1.1 h1.2 hn, r2_tells, Option.bind_some]
  by_cases h2 : 0 ≤ A18 ∧ A18 ≤ 15
  rotate_left
  · rw [if_neg (fun h => h2 (of_decide_eq_true h))]; simp [h2]
  rw [if_pos (decide_eq_true h2)]
  by_cases h3 : Shp A0 A1 A3 A4 A11 A12 A17
  · rw [if_pos (decide_eq_true h3)]
    exact some_dec ⟨fun h => ⟨h1, h2, h3, h⟩, fun h => h.2.2.2⟩
  · rw [if_neg (fun h => h3 (of_decide_eq_true h))]
    exact some_dec (P := False) ⟨False.elim, fun h => h3 h.2.2.1⟩
end Go.Proofs.Ytgipadecllofkaa.Pure
