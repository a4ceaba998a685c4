-- Written for this claim by the session's own program, out of the translation. Not trusted: Lean checks it.
import Derived.Test.YtkaffpbclanoeaaDoorPFnExactRegOfx0
import Derived.Test.YtkaffpbclanoeaaDoorPFnExactRegOfx1
namespace Go.Proofs.YtkaffpbclanoeaaDoor.PFnExactRegOf
open Go.RowKit Go.Proofs.YtkaffpbclanoeaaDoorW.PrintWords Go.Proofs.YtkaffpbclanoeaaDoorW.PrintLast Go.Proofs.YtkaffpbclanoeaaDoorW.PrintMore
attribute [local go_sem] max2_int min2_int max_two min_two max_three min_three max_four min_four   -- for this text's walks alone
set_option linter.unusedVariables false
set_option linter.unusedSimpArgs false

/-! ### spec_l03Regs: function 25 -/
mutual
def spec_l03Regs.l0 : Nat → Int → List ByteArray → Int → Option (List ByteArray)
  | 0, _, _, _ => none
  | k + 1, x0, x3, x4 => if x4 < 8 then (if x0 = 8 then (if 0 ≤ x4 then (if x4 < (x3.length : Int) then (if 1 + (rdOf ByteArray.empty x3 x4).size ≤ 9223372036854775807 then (spec_l03Regs.l0 k x0 (x3.set (x4 : Int).toNat ((⟨#[114]⟩ : ByteArray) ++ (rdOf ByteArray.empty x3 x4))) (wrap64 (x4 + 1))) else (none)) else (none)) else (none)) else (if x0 = 4 then (if 0 ≤ x4 then (if x4 < (x3.length : Int) then (if 1 + (rdOf ByteArray.empty x3 x4).size ≤ 9223372036854775807 then (spec_l03Regs.l0 k x0 (x3.set (x4 : Int).toNat ((⟨#[101]⟩ : ByteArray) ++ (rdOf ByteArray.empty x3 x4))) (wrap64 (x4 + 1))) else (none)) else (none)) else (none)) else (if x0 = 1 then (if x4 < 4 then (if 0 ≤ x4 then (if x4 < (x3.length : Int) then (if 0 ≤ 1 then (if 1 ≤ ((rdOf ByteArray.empty x3 x4).size : Int) then ((some (x3.set (x4 : Int).toNat ((rdOf ByteArray.empty x3 x4).extract 0 1) : List ByteArray)).bind fun y117 => (if (rdOf ByteArray.empty y117 x4).size + 1 ≤ 9223372036854775807 then (spec_l03Regs.l0 k x0 (y117.set (x4 : Int).toNat ((rdOf ByteArray.empty y117 x4) ++ (⟨#[108]⟩ : ByteArray))) (wrap64 (x4 + 1))) else (none))) else (none)) else (none)) else (none)) else (none)) else (if 0 ≤ x4 then (if x4 < (x3.length : Int) then (if (rdOf ByteArray.empty x3 x4).size + 1 ≤ 9223372036854775807 then (spec_l03Regs.l0 k x0 (x3.set (x4 : Int).toNat ((rdOf ByteArray.empty x3 x4) ++ (⟨#[108]⟩ : ByteArray))) (wrap64 (x4 + 1))) else (none)) else (none)) else (none))) else (spec_l03Regs.l0 k x0 x3 (wrap64 (x4 + 1)))))) else (spec_l03Regs.l1 k x0 x3 8)
def spec_l03Regs.l1 : Nat → Int → List ByteArray → Int → Option (List ByteArray)
  | 0, _, _, _ => none
  | k + 1, x0, x3, x5 => if x5 < 16 then (if x0 = 4 then ((spec_l00Digits.f k x5).bind fun t128 => (if 1 + t128.size ≤ 9223372036854775807 then (if ((⟨#[114]⟩ : ByteArray) ++ t128).size + 1 ≤ 9223372036854775807 then (if x3.length < 8796093022208 then (spec_l03Regs.l1 k x0 (x3 ++ [((⟨#[114]⟩ : ByteArray) ++ t128) ++ (⟨#[100]⟩ : ByteArray)]) (wrap64 (x5 + 1))) else (none)) else (none)) else (none))) else (if x0 = 2 then ((spec_l00Digits.f k x5).bind fun t132 => (if 1 + t132.size ≤ 9223372036854775807 then (if ((⟨#[114]⟩ : ByteArray) ++ t132).size + 1 ≤ 9223372036854775807 then (if x3.length < 8796093022208 then (spec_l03Regs.l1 k x0 (x3 ++ [((⟨#[114]⟩ : ByteArray) ++ t132) ++ (⟨#[119]⟩ : ByteArray)]) (wrap64 (x5 + 1))) else (none)) else (none)) else (none))) else (if x0 = 1 then ((spec_l00Digits.f k x5).bind fun t136 => (if 1 + t136.size ≤ 9223372036854775807 then (if ((⟨#[114]⟩ : ByteArray) ++ t136).size + 1 ≤ 9223372036854775807 then (if x3.length < 8796093022208 then (spec_l03Regs.l1 k x0 (x3 ++ [((⟨#[114]⟩ : ByteArray) ++ t136) ++ (⟨#[98]⟩ : ByteArray)]) (wrap64 (x5 + 1))) else (none)) else (none)) else (none))) else ((spec_l00Digits.f k x5).bind fun t140 => (if 1 + t140.size ≤ 9223372036854775807 then (if ((⟨#[114]⟩ : ByteArray) ++ t140).size + 0 ≤ 9223372036854775807 then (if x3.length < 8796093022208 then (spec_l03Regs.l1 k x0 (x3 ++ [((⟨#[114]⟩ : ByteArray) ++ t140) ++ (⟨#[]⟩ : ByteArray)]) (wrap64 (x5 + 1))) else (none)) else (none)) else (none)))))) else (if x0 = 1 then ((some (([(⟨#[97, 104]⟩ : ByteArray), (⟨#[99, 104]⟩ : ByteArray), (⟨#[100, 104]⟩ : ByteArray), (⟨#[98, 104]⟩ : ByteArray)] : List ByteArray) : List ByteArray)).bind fun y122 => (if x3.length + y122.length < 8796093022208 then (some (x3 ++ y122)) else (none))) else (some x3))
end
def spec_l03Regs.f (k : Nat) (a0 : Int) : Option (List ByteArray) := spec_l03Regs.l0 k a0 (([(⟨#[97, 120]⟩ : ByteArray), (⟨#[99, 120]⟩ : ByteArray), (⟨#[100, 120]⟩ : ByteArray), (⟨#[98, 120]⟩ : ByteArray), (⟨#[115, 112]⟩ : ByteArray), (⟨#[98, 112]⟩ : ByteArray), (⟨#[115, 105]⟩ : ByteArray), (⟨#[100, 105]⟩ : ByteArray)] : List ByteArray)) 0
theorem spec_l03Regs.mono_l : ∀ k, (∀ y0 y1 y2, LeO (spec_l03Regs.l0 k y0 y1 y2) (spec_l03Regs.l0 (k + 1) y0 y1 y2)) ∧ (∀ y0 y1 y2, LeO (spec_l03Regs.l1 k y0 y1 y2) (spec_l03Regs.l1 (k + 1) y0 y1 y2))
  | 0 => ⟨fun _ _ _ r h => by simp [spec_l03Regs.l0] at h, fun _ _ _ r h => by simp [spec_l03Regs.l1] at h⟩
  | k + 1 => by
    obtain ⟨ih0, ih1⟩ := spec_l03Regs.mono_l k
    refine ⟨?_, ?_⟩
    · intro y0 y1 y2
      unfold spec_l03Regs.l0
      repeat' first
      | (with_reducible exact ih0 _ _ _)
      | (with_reducible exact ih1 _ _ _)
      | (with_reducible exact spec_l00Digits.mono _ _)
      | (with_reducible exact LeO.refl _)
      | (with_reducible exact LeO.none _)
      | (with_reducible refine LeO.ite ?_ ?_)
      | (with_reducible refine LeO.bind ?_ (fun _ => ?_))
      | exact ih0 _ _ _
      | exact ih1 _ _ _
      | exact spec_l00Digits.mono _ _
      | exact LeO.none _
      | refine LeO.ite ?_ ?_
      | refine LeO.bind ?_ (fun _ => ?_)
    · intro y0 y1 y2
      unfold spec_l03Regs.l1
      repeat' first
      | (with_reducible exact ih0 _ _ _)
      | (with_reducible exact ih1 _ _ _)
      | (with_reducible exact spec_l00Digits.mono _ _)
      | (with_reducible exact LeO.refl _)
      | (with_reducible exact LeO.none _)
      | (with_reducible refine LeO.ite ?_ ?_)
      | (with_reducible refine LeO.bind ?_ (fun _ => ?_))
      | exact ih0 _ _ _
      | exact ih1 _ _ _
      | exact spec_l00Digits.mono _ _
      | exact LeO.none _
      | refine LeO.ite ?_ ?_
      | refine LeO.bind ?_ (fun _ => ?_)
theorem spec_l03Regs.mono : ∀ a0 k, LeO (spec_l03Regs.f k a0) (spec_l03Regs.f (k + 1) a0) := by
  intro a0 k
  obtain ⟨ih0, ih1⟩ := spec_l03Regs.mono_l k
  unfold spec_l03Regs.f
  repeat' first
      | (with_reducible exact ih0 _ _ _)
      | (with_reducible exact ih1 _ _ _)
      | (with_reducible exact spec_l00Digits.mono _ _)
      | (with_reducible exact LeO.refl _)
      | (with_reducible exact LeO.none _)
      | (with_reducible refine LeO.ite ?_ ?_)
      | (with_reducible refine LeO.bind ?_ (fun _ => ?_))
      | exact ih0 _ _ _
      | exact ih1 _ _ _
      | exact spec_l00Digits.mono _ _
      | exact LeO.none _
      | refine LeO.ite ?_ ?_
      | refine LeO.bind ?_ (fun _ => ?_)
set_option maxHeartbeats 8000000 in
set_option maxRecDepth 100000 in
theorem spec_l03Regs.calls (k : Nat) (a0 : Int) (r : List ByteArray) (w : World) (h : spec_l03Regs.f k a0 = some r) :
    Calls Tryd.prog 25 #[.int .i64 a0] w fun e w' => ∃ v0_ : Value, e = .returned (v0_) ∧ Kd.R Kd.string 9 w' w.heap.size (fun _ => True) v0_ r ∧ Below w.heap.size w w' := by
  have HB := Aside0.mk (Below.refl w.heap.size w)
  have H : (spec_l03Regs.l0 k a0 (([(⟨#[97, 120]⟩ : ByteArray), (⟨#[99, 120]⟩ : ByteArray), (⟨#[100, 120]⟩ : ByteArray), (⟨#[98, 120]⟩ : ByteArray), (⟨#[115, 112]⟩ : ByteArray), (⟨#[98, 112]⟩ : ByteArray), (⟨#[115, 105]⟩ : ByteArray), (⟨#[100, 105]⟩ : ByteArray)] : List ByteArray)) 0) = some r := h
  clear h
  obtain ⟨y109, hy109⟩ : ∃ y_ : List ByteArray, y_ = (([(⟨#[97, 120]⟩ : ByteArray), (⟨#[99, 120]⟩ : ByteArray), (⟨#[100, 120]⟩ : ByteArray), (⟨#[98, 120]⟩ : ByteArray), (⟨#[115, 112]⟩ : ByteArray), (⟨#[98, 112]⟩ : ByteArray), (⟨#[115, 105]⟩ : ByteArray), (⟨#[100, 105]⟩ : ByteArray)] : List ByteArray)) := ⟨_, rfl⟩
  replace H : (spec_l03Regs.l0 k a0 y109 0) = some r := by first | (rw [hy109]; with_reducible exact H) | (have H2_ := (Option.bind_some _ _).symm.trans H; rw [hy109]; with_reducible exact H2_) | (have H2_ := (Option.bind_some _ _).symm.trans H; with_reducible exact H2_) | with_reducible exact H | (rw [hy109]; exact H) | exact H
  have Ny109 := Aside0.mk hy109
  clear hy109
  have H' := Aside0.mk H
  clear H
  go_enter Tryd.func25, Tryd.ntmps25
  go_wp2_with (first | ((with_reducible refine gate_dst (N := 7) rfl ?_); refine Kd.R_lit Kd.string _ 9 ?hg (N := 7) ?hd (xs := ([(⟨#[97, 120]⟩ : ByteArray), (⟨#[99, 120]⟩ : ByteArray), (⟨#[100, 120]⟩ : ByteArray), (⟨#[98, 120]⟩ : ByteArray), (⟨#[115, 112]⟩ : ByteArray), (⟨#[98, 112]⟩ : ByteArray), (⟨#[115, 105]⟩ : ByteArray), (⟨#[100, 105]⟩ : ByteArray)] : List ByteArray)) (inner := [.string (⟨#[97, 120]⟩ : ByteArray), .string (⟨#[99, 120]⟩ : ByteArray), .string (⟨#[100, 120]⟩ : ByteArray), .string (⟨#[98, 120]⟩ : ByteArray), .string (⟨#[115, 112]⟩ : ByteArray), .string (⟨#[98, 112]⟩ : ByteArray), .string (⟨#[115, 105]⟩ : ByteArray), .string (⟨#[100, 105]⟩ : ByteArray)]) (ok := fun _ => True) (okp := fun _ => True) ?hr ?hp (fun _ hk => hk) trivial (Below.refl _ _) (Nat.le_refl _) (by simp) ?_; (case hd => rfl); (case hg => rfl); (case hr => first | (go_simp; done) | (go_simp; rfl)); (case hp => exact (Reps.one (show Kd.M Kd.string _ _ _ (⟨#[97, 120]⟩ : ByteArray) [.string (⟨#[97, 120]⟩ : ByteArray)] from rfl) (Reps.one (show Kd.M Kd.string _ _ _ (⟨#[99, 120]⟩ : ByteArray) [.string (⟨#[99, 120]⟩ : ByteArray)] from rfl) (Reps.one (show Kd.M Kd.string _ _ _ (⟨#[100, 120]⟩ : ByteArray) [.string (⟨#[100, 120]⟩ : ByteArray)] from rfl) (Reps.one (show Kd.M Kd.string _ _ _ (⟨#[98, 120]⟩ : ByteArray) [.string (⟨#[98, 120]⟩ : ByteArray)] from rfl) (Reps.one (show Kd.M Kd.string _ _ _ (⟨#[115, 112]⟩ : ByteArray) [.string (⟨#[115, 112]⟩ : ByteArray)] from rfl) (Reps.one (show Kd.M Kd.string _ _ _ (⟨#[98, 112]⟩ : ByteArray) [.string (⟨#[98, 112]⟩ : ByteArray)] from rfl) (Reps.one (show Kd.M Kd.string _ _ _ (⟨#[115, 105]⟩ : ByteArray) [.string (⟨#[115, 105]⟩ : ByteArray)] from rfl) (Reps.one (show Kd.M Kd.string _ _ _ (⟨#[100, 105]⟩ : ByteArray) [.string (⟨#[100, 105]⟩ : ByteArray)] from rfl) (Reps.none _ _)))))))))); intro v110 w2 ho3 hb hg_ hnew_; clear hg_ hnew_; (first | rw [← Ny109.out] at ho3 | (simp only [Int.reduceToNat] at ho3; rw [← Ny109.out] at ho3)); have n0_ := Aside0.mk (Kd.R_lower ho3 (below_size (by repeat (first | (with_reducible first | exact HB.out | apply below_alloc | apply pw_below_drewN | apply below_drew1) | exact HB.out)))); have n1_ := Aside0.mk (below_step (by repeat (first | (with_reducible first | exact HB.out | apply below_alloc | apply pw_below_drewN | apply below_drew1) | exact HB.out)) hb); clear HB; have HO111 := n0_; have HB := n1_; clear n0_ n1_; clear hb ho3))
  go_loopg [4] k (fun kq v4 w' => ∃ (x3_1 : List ByteArray) (x4_1 : Int), v4 = .int .i64 x4_1 ∧ Aside0 (spec_l03Regs.l0 kq a0 x3_1 x4_1 = some r) ∧ Aside0 (kq ≤ k) ∧ Aside0 (Kd.R Kd.string 9 w' w.heap.size (fun _ => True) v110 x3_1) ∧ Aside0 (Below w.heap.size w w'))
  case atStart => exact ⟨(y109), (0), (by first | rfl | (simp; done) | (simp [*]; done)), H', ⟨Nat.le_refl _⟩, ⟨by (with_reducible repeat (first | apply Kd.R_alloc | apply Kd.R_drewN | apply Kd.R_drew)); exact HO111.out⟩, ⟨by repeat (first | (with_reducible first | exact HB.out | apply below_alloc | apply pw_below_drewN | apply below_drew1) | exact HB.out)⟩⟩
  case round =>
    clear H'
    try clear c2
    try clear p2
    obtain ⟨x3_1, x4_1, rfl, HA, HK1, HO_3, HB⟩ := hrel
    cases gk with
    | zero => exact absurd HA.out (by simp [spec_l03Regs.l0])
    | succ k1 =>
      have H := HA.out
      clear HA
      simp only [spec_l03Regs.l0] at H
      by_cases c4 : x4_1 < 8
      · rw [if_pos c4] at H
        have c4b0 : decide (x4_1 < 8) = true := decide_eq_true c4
        clear c4
        by_cases c5 : a0 = 8
        · rw [if_pos c5] at H
          have c5b0 : (a0 == 8) = true := beq_iff_eq.mpr c5
          have c5b1 : (a0 != 8) = false := bne_eq_false_iff_eq.mpr c5
          clear c5
          by_cases c6 : 0 ≤ x4_1
          · rw [if_pos c6] at H
            have c6b0 : decide (0 ≤ x4_1) = true := decide_eq_true c6
            clear c6
            by_cases c7 : x4_1 < (x3_1.length : Int)
            · rw [if_pos c7] at H
              have c7b0 : decide (x4_1 < (x3_1.length : Int)) = true := decide_eq_true c7
              clear c7
              by_cases c8 : 1 + (rdOf ByteArray.empty x3_1 x4_1).size ≤ 9223372036854775807
              · rw [if_pos c8] at H
                have c8b0 := eq_true c8
                have c8b1 : decide (1 + (rdOf ByteArray.empty x3_1 x4_1).size ≤ 9223372036854775807) = true := decide_eq_true c8
                try have c8b2 : (9223372036854775807 < 1 + (rdOf ByteArray.empty x3_1 x4_1).size) = False := eq_false (Nat.not_lt.2 c8)
                obtain ⟨y113, hy113⟩ : ∃ y_ : List ByteArray, y_ = (x3_1.set (x4_1 : Int).toNat ((⟨#[114]⟩ : ByteArray) ++ (rdOf ByteArray.empty x3_1 x4_1))) := ⟨_, rfl⟩
                replace H : (spec_l03Regs.l0 k1 a0 y113 (wrap64 (x4_1 + 1))) = some r := by first | (rw [hy113]; with_reducible exact H) | (have H2_ := (Option.bind_some _ _).symm.trans H; rw [hy113]; with_reducible exact H2_) | (have H2_ := (Option.bind_some _ _).symm.trans H; with_reducible exact H2_) | with_reducible exact H | (rw [hy113]; exact H) | exact H
                have Ny113 := Aside0.mk hy113
                clear hy113
                have H' := Aside0.mk H
                clear H
                obtain ⟨Ao10, co10, eo10⟩ := Kd.R_slice HO_3.out
                subst eo10
                have p112 : 0 ≤ (x4_1 : Int) := of_decide_eq_true (by first | (with_reducible assumption) | assumption)
                have q112 : x4_1 < (x3_1.length : Int) := of_decide_eq_true (by first | (with_reducible assumption) | assumption)
                obtain ⟨ad112, e112, hx112_0⟩ := Kd.at_string (Kd.R_reads' HO_3.out).2.2 x4_1 p112 q112
                cases e112
                replace p112 := eq_true p112
                replace q112 := eq_true q112
                have p9 : 0 ≤ (x4_1 : Int) := of_decide_eq_true (by first | (with_reducible assumption) | assumption)
                have q9 : (x4_1 : Int) < ((x3_1.length : Int) : Int) := of_decide_eq_true (by first | (with_reducible assumption) | assumption)
                obtain ⟨go9, co9, eo9, gb9, gl9, cl9, HG9⟩ := Kd.R_form HO_3.out (by omega)
                (first | cases eo9 | (injection eo9 with ea_ en_ ec_; (first | subst ea_ | (injection ea_ with ea_; subst ea_)); subst ec_; clear en_))
                have GB9 := Aside0.mk gb9
                have GG9 := Aside0.mk HG9
                clear gb9 gl9 HG9
                (first | simp only [add_plain] at hx112_0 | skip)
                obtain ⟨hx9_0, hf9_0⟩ := Kd.R_celln (⟨#[]⟩ : ByteArray) HO_3.out (x4_1 : Int) p9 q9
                replace p9 := eq_true p9
                replace q9 := eq_true q9
                have HP11 := Kd.R_putg HO_3.out (x4_1 : Int) ((⟨#[114]⟩ : ByteArray) ++ (rdOf ByteArray.empty x3_1 x4_1))
                go_wp2_with (first | ((with_reducible refine gate_store (t := 9) (p := 22) rfl ?_); refine store_event (t := 9) (p := 22) (v := ?vo_w12) (w1 := (wr.setCell ⟨go9, (x4_1 : Int).toNat, none⟩ (.string ((⟨#[114]⟩ : ByteArray) ++ (rdOf ByteArray.empty x3_1 x4_1))))) ?hg ?ho ?hn ?hr ?_; (case ho => rfl); (case hg => rfl); (case hn => rfl); (case hr => first | (go_simp; done) | (go_simp; rfl)); intro w12 hw; have hg : wr.grownBy w12 (some go9) := (by rw [hw]; exact HP11.2); have hp_ : Kd.R Kd.string 9 w12 w.heap.size (fun _ => True) (.slice (some ⟨go9, 0, none⟩) x3_1.length co10) y113 := (by rw [hw, Ny113.out]; exact HP11.1); clear HP11; have n0_ := Aside0.mk (hp_); have n1_ := Aside0.mk ((by rw [hw]; exact below_set (HB.out) GB9.out : Below w.heap.size w w12)); clear HO_3; clear HB; have HO_3 := n0_; have HB := n1_; clear n0_ n1_; clear hg hw hp_))
                go_roundg k1
                case measure => have := HK1.out; omega
                case rel => (try rw [c5b0]); (try rw [c5b0] at H'); (try rw [c5b1]); (try rw [c5b1] at H'); exact ⟨(y113), (wrap64 (x4_1 + 1)), (by first | rfl | (simp; done) | (simp [*]; done)), H', ⟨by have := HK1.out; omega⟩, ⟨by (with_reducible repeat (first | apply Kd.R_alloc | apply Kd.R_drewN | apply Kd.R_drew)); exact HO_3.out⟩, ⟨by repeat (first | (with_reducible first | exact HB.out | apply below_alloc | apply pw_below_drewN | apply below_drew1) | exact HB.out)⟩⟩
              · rw [if_neg c8] at H
                exact absurd H (by simp)
            · rw [if_neg c7] at H
              exact absurd H (by simp)
          · rw [if_neg c6] at H
            exact absurd H (by simp)
        · rw [if_neg c5] at H
          have c5b0 : (a0 == 8) = false := beq_eq_false_iff_ne.mpr c5
          have c5b1 : (a0 != 8) = true := bne_iff_ne.mpr c5
          by_cases c13 : a0 = 4
          · rw [if_pos c13] at H
            have c13b0 : (a0 == 4) = true := beq_iff_eq.mpr c13
            have c13b1 : (a0 != 4) = false := bne_eq_false_iff_eq.mpr c13
            clear c13
            by_cases c14 : 0 ≤ x4_1
            · rw [if_pos c14] at H
              have c14b0 : decide (0 ≤ x4_1) = true := decide_eq_true c14
              clear c14
              by_cases c15 : x4_1 < (x3_1.length : Int)
              · rw [if_pos c15] at H
                have c15b0 : decide (x4_1 < (x3_1.length : Int)) = true := decide_eq_true c15
                clear c15
                by_cases c16 : 1 + (rdOf ByteArray.empty x3_1 x4_1).size ≤ 9223372036854775807
                · rw [if_pos c16] at H
                  have c16b0 := eq_true c16
                  have c16b1 : decide (1 + (rdOf ByteArray.empty x3_1 x4_1).size ≤ 9223372036854775807) = true := decide_eq_true c16
                  try have c16b2 : (9223372036854775807 < 1 + (rdOf ByteArray.empty x3_1 x4_1).size) = False := eq_false (Nat.not_lt.2 c16)
                  obtain ⟨y115, hy115⟩ : ∃ y_ : List ByteArray, y_ = (x3_1.set (x4_1 : Int).toNat ((⟨#[101]⟩ : ByteArray) ++ (rdOf ByteArray.empty x3_1 x4_1))) := ⟨_, rfl⟩
                  replace H : (spec_l03Regs.l0 k1 a0 y115 (wrap64 (x4_1 + 1))) = some r := by first | (rw [hy115]; with_reducible exact H) | (have H2_ := (Option.bind_some _ _).symm.trans H; rw [hy115]; with_reducible exact H2_) | (have H2_ := (Option.bind_some _ _).symm.trans H; with_reducible exact H2_) | with_reducible exact H | (rw [hy115]; exact H) | exact H
                  have Ny115 := Aside0.mk hy115
                  clear hy115
                  have H' := Aside0.mk H
                  clear H
                  obtain ⟨Ao18, co18, eo18⟩ := Kd.R_slice HO_3.out
                  subst eo18
                  have p114 : 0 ≤ (x4_1 : Int) := of_decide_eq_true (by first | (with_reducible assumption) | assumption)
                  have q114 : x4_1 < (x3_1.length : Int) := of_decide_eq_true (by first | (with_reducible assumption) | assumption)
                  obtain ⟨ad114, e114, hx114_0⟩ := Kd.at_string (Kd.R_reads' HO_3.out).2.2 x4_1 p114 q114
                  cases e114
                  replace p114 := eq_true p114
                  replace q114 := eq_true q114
                  have p17 : 0 ≤ (x4_1 : Int) := of_decide_eq_true (by first | (with_reducible assumption) | assumption)
                  have q17 : (x4_1 : Int) < ((x3_1.length : Int) : Int) := of_decide_eq_true (by first | (with_reducible assumption) | assumption)
                  obtain ⟨go17, co17, eo17, gb17, gl17, cl17, HG17⟩ := Kd.R_form HO_3.out (by omega)
                  (first | cases eo17 | (injection eo17 with ea_ en_ ec_; (first | subst ea_ | (injection ea_ with ea_; subst ea_)); subst ec_; clear en_))
                  have GB17 := Aside0.mk gb17
                  have GG17 := Aside0.mk HG17
                  clear gb17 gl17 HG17
                  (first | simp only [add_plain] at hx114_0 | skip)
                  obtain ⟨hx17_0, hf17_0⟩ := Kd.R_celln (⟨#[]⟩ : ByteArray) HO_3.out (x4_1 : Int) p17 q17
                  replace p17 := eq_true p17
                  replace q17 := eq_true q17
                  have HP19 := Kd.R_putg HO_3.out (x4_1 : Int) ((⟨#[101]⟩ : ByteArray) ++ (rdOf ByteArray.empty x3_1 x4_1))
                  go_wp2_with (first | ((with_reducible refine gate_store (t := 9) (p := 32) rfl ?_); refine store_event (t := 9) (p := 32) (v := ?vo_w20) (w1 := (wr.setCell ⟨go17, (x4_1 : Int).toNat, none⟩ (.string ((⟨#[101]⟩ : ByteArray) ++ (rdOf ByteArray.empty x3_1 x4_1))))) ?hg ?ho ?hn ?hr ?_; (case ho => rfl); (case hg => rfl); (case hn => rfl); (case hr => first | (go_simp; done) | (go_simp; rfl)); intro w20 hw; have hg : wr.grownBy w20 (some go17) := (by rw [hw]; exact HP19.2); have hp_ : Kd.R Kd.string 9 w20 w.heap.size (fun _ => True) (.slice (some ⟨go17, 0, none⟩) x3_1.length co18) y115 := (by rw [hw, Ny115.out]; exact HP19.1); clear HP19; have n0_ := Aside0.mk (hp_); have n1_ := Aside0.mk ((by rw [hw]; exact below_set (HB.out) GB17.out : Below w.heap.size w w20)); clear HO_3; clear HB; have HO_3 := n0_; have HB := n1_; clear n0_ n1_; clear hg hw hp_))
                  go_roundg k1
                  case measure => have := HK1.out; omega
                  case rel => (try rw [c5b0]); (try rw [c5b0] at H'); (try rw [c5b1]); (try rw [c5b1] at H'); (try rw [c13b0]); (try rw [c13b0] at H'); (try rw [c13b1]); (try rw [c13b1] at H'); exact ⟨(y115), (wrap64 (x4_1 + 1)), (by first | rfl | (simp; done) | (simp [*]; done)), H', ⟨by have := HK1.out; omega⟩, ⟨by (with_reducible repeat (first | apply Kd.R_alloc | apply Kd.R_drewN | apply Kd.R_drew)); exact HO_3.out⟩, ⟨by repeat (first | (with_reducible first | exact HB.out | apply below_alloc | apply pw_below_drewN | apply below_drew1) | exact HB.out)⟩⟩
                · rw [if_neg c16] at H
                  exact absurd H (by simp)
              · rw [if_neg c15] at H
                exact absurd H (by simp)
            · rw [if_neg c14] at H
              exact absurd H (by simp)
          · rw [if_neg c13] at H
            have c13b0 : (a0 == 4) = false := beq_eq_false_iff_ne.mpr c13
            have c13b1 : (a0 != 4) = true := bne_iff_ne.mpr c13
            by_cases c21 : a0 = 1
            · rw [if_pos c21] at H
              have c21b0 : (a0 == 1) = true := beq_iff_eq.mpr c21
              have c21b1 : (a0 != 1) = false := bne_eq_false_iff_eq.mpr c21
              clear c21
              by_cases c22 : x4_1 < 4
              · rw [if_pos c22] at H
                have c22b0 : decide (x4_1 < 4) = true := decide_eq_true c22
                clear c22
                by_cases c23 : 0 ≤ x4_1
                · rw [if_pos c23] at H
                  have c23b0 : decide (0 ≤ x4_1) = true := decide_eq_true c23
                  clear c23
                  by_cases c24 : x4_1 < (x3_1.length : Int)
                  · rw [if_pos c24] at H
                    have c24b0 : decide (x4_1 < (x3_1.length : Int)) = true := decide_eq_true c24
                    clear c24
                    by_cases c25 : 0 ≤ 1
                    · rw [if_pos c25] at H
                      have c25b0 := eq_true c25
                      have c25b1 : decide (0 ≤ 1) = true := decide_eq_true c25
                      clear c25
                      by_cases c26 : 1 ≤ ((rdOf ByteArray.empty x3_1 x4_1).size : Int)
                      · rw [if_pos c26] at H
                        have c26b0 := eq_true c26
                        have c26b1 : decide (1 ≤ ((rdOf ByteArray.empty x3_1 x4_1).size : Int)) = true := decide_eq_true c26
                        clear c26
                        obtain ⟨y117, hy117⟩ : ∃ y_ : List ByteArray, y_ = (x3_1.set (x4_1 : Int).toNat ((rdOf ByteArray.empty x3_1 x4_1).extract 0 1)) := ⟨_, rfl⟩
                        replace H : (if (rdOf ByteArray.empty y117 x4_1).size + 1 ≤ 9223372036854775807 then (spec_l03Regs.l0 k1 a0 (y117.set (x4_1 : Int).toNat ((rdOf ByteArray.empty y117 x4_1) ++ (⟨#[108]⟩ : ByteArray))) (wrap64 (x4_1 + 1))) else (none)) = some r := by first | (rw [hy117]; with_reducible exact H) | (have H2_ := (Option.bind_some _ _).symm.trans H; rw [hy117]; with_reducible exact H2_) | (have H2_ := (Option.bind_some _ _).symm.trans H; with_reducible exact H2_) | with_reducible exact H | (rw [hy117]; exact H) | exact H
                        have Ny117 := Aside0.mk hy117
                        clear hy117
                        by_cases c28 : (rdOf ByteArray.empty y117 x4_1).size + 1 ≤ 9223372036854775807
                        · rw [if_pos c28] at H
                          have c28b0 := eq_true c28
                          have c28b1 : decide ((rdOf ByteArray.empty y117 x4_1).size + 1 ≤ 9223372036854775807) = true := decide_eq_true c28
                          try have c28b2 : (9223372036854775807 < (rdOf ByteArray.empty y117 x4_1).size + 1) = False := eq_false (Nat.not_lt.2 c28)
                          obtain ⟨y119, hy119⟩ : ∃ y_ : List ByteArray, y_ = (y117.set (x4_1 : Int).toNat ((rdOf ByteArray.empty y117 x4_1) ++ (⟨#[108]⟩ : ByteArray))) := ⟨_, rfl⟩
                          replace H : (spec_l03Regs.l0 k1 a0 y119 (wrap64 (x4_1 + 1))) = some r := by first | (rw [hy119]; with_reducible exact H) | (have H2_ := (Option.bind_some _ _).symm.trans H; rw [hy119]; with_reducible exact H2_) | (have H2_ := (Option.bind_some _ _).symm.trans H; with_reducible exact H2_) | with_reducible exact H | (rw [hy119]; exact H) | exact H
                          have Ny119 := Aside0.mk hy119
                          clear hy119
                          have H' := Aside0.mk H
                          clear H
                          obtain ⟨Ao30, co30, eo30⟩ := Kd.R_slice HO_3.out
                          subst eo30
                          have p116 : 0 ≤ (x4_1 : Int) := of_decide_eq_true (by first | (with_reducible assumption) | assumption)
                          have q116 : x4_1 < (x3_1.length : Int) := of_decide_eq_true (by first | (with_reducible assumption) | assumption)
                          obtain ⟨ad116, e116, hx116_0⟩ := Kd.at_string (Kd.R_reads' HO_3.out).2.2 x4_1 p116 q116
                          cases e116
                          replace p116 := eq_true p116
                          replace q116 := eq_true q116
                          have p27 : 0 ≤ (x4_1 : Int) := of_decide_eq_true (by first | (with_reducible assumption) | assumption)
                          have q27 : (x4_1 : Int) < ((x3_1.length : Int) : Int) := of_decide_eq_true (by first | (with_reducible assumption) | assumption)
                          obtain ⟨go27, co27, eo27, gb27, gl27, cl27, HG27⟩ := Kd.R_form HO_3.out (by omega)
                          (first | cases eo27 | (injection eo27 with ea_ en_ ec_; (first | subst ea_ | (injection ea_ with ea_; subst ea_)); subst ec_; clear en_))
                          have GB27 := Aside0.mk gb27
                          have GG27 := Aside0.mk HG27
                          clear gb27 gl27 HG27
                          (first | simp only [add_plain] at hx116_0 | skip)
                          obtain ⟨hx27_0, hf27_0⟩ := Kd.R_celln (⟨#[]⟩ : ByteArray) HO_3.out (x4_1 : Int) p27 q27
                          replace p27 := eq_true p27
                          replace q27 := eq_true q27
                          have HP31 := Kd.R_putg HO_3.out (x4_1 : Int) ((rdOf ByteArray.empty x3_1 x4_1).extract 0 1)
                          go_wp2_with (first | ((with_reducible refine gate_store (t := 9) (p := 44) rfl ?_); refine store_event (t := 9) (p := 44) (v := ?vo_w32) (w1 := (wr.setCell ⟨go27, (x4_1 : Int).toNat, none⟩ (.string ((rdOf ByteArray.empty x3_1 x4_1).extract 0 1)))) ?hg ?ho ?hn ?hr ?_; (case ho => rfl); (case hg => rfl); (case hn => rfl); (case hr => first | (go_simp; done) | (go_simp; rfl)); intro w32 hw; have hg : wr.grownBy w32 (some go27) := (by rw [hw]; exact HP31.2); have hp_ : Kd.R Kd.string 9 w32 w.heap.size (fun _ => True) (.slice (some ⟨go27, 0, none⟩) x3_1.length co30) y117 := (by rw [hw, Ny117.out]; exact HP31.1); clear HP31; have n0_ := Aside0.mk (hp_); have n1_ := Aside0.mk ((by rw [hw]; exact below_set (HB.out) GB27.out : Below w.heap.size w w32)); clear HO_3; clear HB; have HO_3 := n0_; have HB := n1_; clear n0_ n1_; clear hg hw hp_; have p118 : 0 ≤ (x4_1 : Int) := of_decide_eq_true (by first | (with_reducible assumption) | assumption); have q118 : x4_1 < (y117.length : Int) := (by have h_ : (x4_1 : Int) < ((x3_1.length : Int) : Int) := of_decide_eq_true (by first | (with_reducible assumption) | assumption); first | (have e_ := (Kd.R_reads' HO_3.out).1; omega) | simpa only [Ny117.out, List.length_set] using h_); have ql118 : ((x4_1 : Int) < ((x3_1.length : Int) : Int)) = True := eq_true (of_decide_eq_true (by first | (with_reducible assumption) | assumption)); obtain ⟨ad118, e118, hx118_0⟩ := Kd.at_string (Kd.R_reads' HO_3.out).2.2 x4_1 p118 q118; obtain rfl : (⟨go27, 0, none⟩ : Addr) = ad118 := (by injection e118); (first | simp only [add_plain] at hx118_0 | simp only [add_at] at hx118_0 | simp only [Addr.add, Nat.zero_add] at hx118_0 | skip); replace p118 := eq_true p118; replace q118 := eq_true q118; have p29 : 0 ≤ (x4_1 : Int) := of_decide_eq_true (by first | (with_reducible assumption) | assumption); have q29 : (x4_1 : Int) < ((x3_1.length : Int) : Int) := of_decide_eq_true (by first | (with_reducible assumption) | assumption); obtain ⟨hx29_0, hf29_0⟩ := Kd.R_celln (⟨#[]⟩ : ByteArray) HO_3.out (x4_1 : Int) p29 q29; replace p29 := eq_true p29; replace q29 := eq_true q29; obtain ⟨hy33_, hz33_⟩ := Kd.R_celln (⟨#[]⟩ : ByteArray) HO_3.out (x4_1 : Int) (of_decide_eq_true (by first | (with_reducible assumption) | assumption)) (of_decide_eq_true (by first | (with_reducible assumption) | assumption)); have HP33 := Kd.R_putg HO_3.out (x4_1 : Int) ((rdOf ByteArray.empty y117 x4_1) ++ (⟨#[108]⟩ : ByteArray))) | ((with_reducible refine gate_store (t := 9) (p := 50) rfl ?_); refine store_event (t := 9) (p := 50) (v := ?vo_w34) (w1 := (w32.setCell ⟨go27, (x4_1 : Int).toNat, none⟩ (.string ((rdOf ByteArray.empty y117 x4_1) ++ (⟨#[108]⟩ : ByteArray))))) ?hg ?ho ?hn ?hr ?_; (case ho => rfl); (case hg => rfl); (case hn => rfl); (case hr => first | (go_simp; done) | (go_simp; rfl)); intro w34 hw; have hg : w32.grownBy w34 (some go27) := (by rw [hw]; exact HP33.2); have hp_ : Kd.R Kd.string 9 w34 w.heap.size (fun _ => True) (.slice (some ⟨go27, 0, none⟩) x3_1.length co30) y119 := (by rw [hw, Ny119.out]; exact HP33.1); clear HP33; have n0_ := Aside0.mk (hp_); have n1_ := Aside0.mk ((by rw [hw]; exact below_set (HB.out) GB27.out : Below w.heap.size w w34)); clear HO_3; clear HB; have HO_3 := n0_; have HB := n1_; clear n0_ n1_; clear hg hw hp_))
                          go_roundg k1
                          case measure => have := HK1.out; omega
                          case rel => (try rw [c5b0]); (try rw [c5b0] at H'); (try rw [c5b1]); (try rw [c5b1] at H'); (try rw [c13b0]); (try rw [c13b0] at H'); (try rw [c13b1]); (try rw [c13b1] at H'); (try rw [c21b0]); (try rw [c21b0] at H'); (try rw [c21b1]); (try rw [c21b1] at H'); exact ⟨(y119), (wrap64 (x4_1 + 1)), (by first | rfl | (simp; done) | (simp [*]; done)), H', ⟨by have := HK1.out; omega⟩, ⟨by (with_reducible repeat (first | apply Kd.R_alloc | apply Kd.R_drewN | apply Kd.R_drew)); exact HO_3.out⟩, ⟨by repeat (first | (with_reducible first | exact HB.out | apply below_alloc | apply pw_below_drewN | apply below_drew1) | exact HB.out)⟩⟩
                        · rw [if_neg c28] at H
                          exact absurd H (by simp)
                      · rw [if_neg c26] at H
                        exact absurd H (by simp)
                    · rw [if_neg c25] at H
                      exact absurd H (by simp)
                  · rw [if_neg c24] at H
                    exact absurd H (by simp)
                · rw [if_neg c23] at H
                  exact absurd H (by simp)
              · rw [if_neg c22] at H
                have c22b0 : decide (x4_1 < 4) = false := decide_eq_false c22
                clear c22
                by_cases c35 : 0 ≤ x4_1
                · rw [if_pos c35] at H
                  have c35b0 : decide (0 ≤ x4_1) = true := decide_eq_true c35
                  clear c35
                  by_cases c36 : x4_1 < (x3_1.length : Int)
                  · rw [if_pos c36] at H
                    have c36b0 : decide (x4_1 < (x3_1.length : Int)) = true := decide_eq_true c36
                    clear c36
                    by_cases c37 : (rdOf ByteArray.empty x3_1 x4_1).size + 1 ≤ 9223372036854775807
                    · rw [if_pos c37] at H
                      have c37b0 := eq_true c37
                      have c37b1 : decide ((rdOf ByteArray.empty x3_1 x4_1).size + 1 ≤ 9223372036854775807) = true := decide_eq_true c37
                      try have c37b2 : (9223372036854775807 < (rdOf ByteArray.empty x3_1 x4_1).size + 1) = False := eq_false (Nat.not_lt.2 c37)
                      obtain ⟨y121, hy121⟩ : ∃ y_ : List ByteArray, y_ = (x3_1.set (x4_1 : Int).toNat ((rdOf ByteArray.empty x3_1 x4_1) ++ (⟨#[108]⟩ : ByteArray))) := ⟨_, rfl⟩
                      replace H : (spec_l03Regs.l0 k1 a0 y121 (wrap64 (x4_1 + 1))) = some r := by first | (rw [hy121]; with_reducible exact H) | (have H2_ := (Option.bind_some _ _).symm.trans H; rw [hy121]; with_reducible exact H2_) | (have H2_ := (Option.bind_some _ _).symm.trans H; with_reducible exact H2_) | with_reducible exact H | (rw [hy121]; exact H) | exact H
                      have Ny121 := Aside0.mk hy121
                      clear hy121
                      have H' := Aside0.mk H
                      clear H
                      obtain ⟨Ao39, co39, eo39⟩ := Kd.R_slice HO_3.out
                      subst eo39
                      have p120 : 0 ≤ (x4_1 : Int) := of_decide_eq_true (by first | (with_reducible assumption) | assumption)
                      have q120 : x4_1 < (x3_1.length : Int) := of_decide_eq_true (by first | (with_reducible assumption) | assumption)
                      obtain ⟨ad120, e120, hx120_0⟩ := Kd.at_string (Kd.R_reads' HO_3.out).2.2 x4_1 p120 q120
                      cases e120
                      replace p120 := eq_true p120
                      replace q120 := eq_true q120
                      have p38 : 0 ≤ (x4_1 : Int) := of_decide_eq_true (by first | (with_reducible assumption) | assumption)
                      have q38 : (x4_1 : Int) < ((x3_1.length : Int) : Int) := of_decide_eq_true (by first | (with_reducible assumption) | assumption)
                      obtain ⟨go38, co38, eo38, gb38, gl38, cl38, HG38⟩ := Kd.R_form HO_3.out (by omega)
                      (first | cases eo38 | (injection eo38 with ea_ en_ ec_; (first | subst ea_ | (injection ea_ with ea_; subst ea_)); subst ec_; clear en_))
                      have GB38 := Aside0.mk gb38
                      have GG38 := Aside0.mk HG38
                      clear gb38 gl38 HG38
                      (first | simp only [add_plain] at hx120_0 | skip)
                      obtain ⟨hx38_0, hf38_0⟩ := Kd.R_celln (⟨#[]⟩ : ByteArray) HO_3.out (x4_1 : Int) p38 q38
                      replace p38 := eq_true p38
                      replace q38 := eq_true q38
                      have HP40 := Kd.R_putg HO_3.out (x4_1 : Int) ((rdOf ByteArray.empty x3_1 x4_1) ++ (⟨#[108]⟩ : ByteArray))
                      go_wp2_with (first | ((with_reducible refine gate_store (t := 9) (p := 50) rfl ?_); refine store_event (t := 9) (p := 50) (v := ?vo_w41) (w1 := (wr.setCell ⟨go38, (x4_1 : Int).toNat, none⟩ (.string ((rdOf ByteArray.empty x3_1 x4_1) ++ (⟨#[108]⟩ : ByteArray))))) ?hg ?ho ?hn ?hr ?_; (case ho => rfl); (case hg => rfl); (case hn => rfl); (case hr => first | (go_simp; done) | (go_simp; rfl)); intro w41 hw; have hg : wr.grownBy w41 (some go38) := (by rw [hw]; exact HP40.2); have hp_ : Kd.R Kd.string 9 w41 w.heap.size (fun _ => True) (.slice (some ⟨go38, 0, none⟩) x3_1.length co39) y121 := (by rw [hw, Ny121.out]; exact HP40.1); clear HP40; have n0_ := Aside0.mk (hp_); have n1_ := Aside0.mk ((by rw [hw]; exact below_set (HB.out) GB38.out : Below w.heap.size w w41)); clear HO_3; clear HB; have HO_3 := n0_; have HB := n1_; clear n0_ n1_; clear hg hw hp_))
                      go_roundg k1
                      case measure => have := HK1.out; omega
                      case rel => (try rw [c5b0]); (try rw [c5b0] at H'); (try rw [c5b1]); (try rw [c5b1] at H'); (try rw [c13b0]); (try rw [c13b0] at H'); (try rw [c13b1]); (try rw [c13b1] at H'); (try rw [c21b0]); (try rw [c21b0] at H'); (try rw [c21b1]); (try rw [c21b1] at H'); exact ⟨(y121), (wrap64 (x4_1 + 1)), (by first | rfl | (simp; done) | (simp [*]; done)), H', ⟨by have := HK1.out; omega⟩, ⟨by (with_reducible repeat (first | apply Kd.R_alloc | apply Kd.R_drewN | apply Kd.R_drew)); exact HO_3.out⟩, ⟨by repeat (first | (with_reducible first | exact HB.out | apply below_alloc | apply pw_below_drewN | apply below_drew1) | exact HB.out)⟩⟩
                    · rw [if_neg c37] at H
                      exact absurd H (by simp)
                  · rw [if_neg c36] at H
                    exact absurd H (by simp)
                · rw [if_neg c35] at H
                  exact absurd H (by simp)
            · rw [if_neg c21] at H
              have c21b0 : (a0 == 1) = false := beq_eq_false_iff_ne.mpr c21
              have c21b1 : (a0 != 1) = true := bne_iff_ne.mpr c21
              have H' := Aside0.mk H
              clear H
              go_wp2
              go_roundg k1
              case measure => have := HK1.out; omega
              case rel => (try rw [c5b0]); (try rw [c5b0] at H'); (try rw [c5b1]); (try rw [c5b1] at H'); (try rw [c13b0]); (try rw [c13b0] at H'); (try rw [c13b1]); (try rw [c13b1] at H'); (try rw [c21b0]); (try rw [c21b0] at H'); (try rw [c21b1]); (try rw [c21b1] at H'); exact ⟨(x3_1), (wrap64 (x4_1 + 1)), (by first | rfl | (simp; done) | (simp [*]; done)), H', ⟨by have := HK1.out; omega⟩, ⟨by (with_reducible repeat (first | apply Kd.R_alloc | apply Kd.R_drewN | apply Kd.R_drew)); exact HO_3.out⟩, ⟨by repeat (first | (with_reducible first | exact HB.out | apply below_alloc | apply pw_below_drewN | apply below_drew1) | exact HB.out)⟩⟩
      · rw [if_neg c4] at H
        have c4b0 : decide (x4_1 < 8) = false := decide_eq_false c4
        clear c4
        have H' := Aside0.mk H
        clear H
        go_wp2
        go_loopg [3, 5] k1 (fun kq v3 v5 w' => ∃ (x3_2 : List ByteArray) (x5_2 : Int), v5 = .int .i64 x5_2 ∧ Aside0 (spec_l03Regs.l1 kq a0 x3_2 x5_2 = some r) ∧ Aside0 (kq ≤ k1) ∧ Aside0 (Kd.R Kd.string 9 w' w.heap.size (fun _ => True) v3 x3_2) ∧ Aside0 (Below w.heap.size w w'))
        case atStart => exact ⟨(x3_1), (8), (by first | rfl | (simp; done) | (simp [*]; done)), H', ⟨Nat.le_refl _⟩, ⟨by (with_reducible repeat (first | apply Kd.R_alloc | apply Kd.R_drewN | apply Kd.R_drew)); exact HO_3.out⟩, ⟨by repeat (first | (with_reducible first | exact HB.out | apply below_alloc | apply pw_below_drewN | apply below_drew1) | exact HB.out)⟩⟩
        case round =>
          clear H'
          try clear c1
          try clear p1
          try clear q1
          try clear hx1
          try clear hf1
          try clear c2
          try clear p2
          try clear q2
          try clear hx2
          try clear hf2
          try clear c3
          try clear p3
          try clear q3
          try clear hx3
          try clear hf3
          try clear c4
          try clear c4b0
          try clear c5
          try clear c5b0
          try clear c5b1
          try clear c6
          try clear c6b0
          try clear p6
          try clear c7
          try clear c7b0
          try clear c8
          try clear c8b0
          try clear c8b1
          try clear c8b2
          try clear p9
          try clear q9
          try clear hx9
          try clear hf9
          try clear p11
          try clear q11
          try clear hx11
          try clear p12
          try clear q12
          try clear hx12
          try clear c13
          try clear c13b0
          try clear c13b1
          try clear c14
          try clear c14b0
          try clear c15
          try clear c15b0
          try clear c16
          try clear c16b0
          try clear c16b1
          try clear c16b2
          try clear p17
          try clear q17
          try clear hx17
          try clear hf17
          try clear c21
          try clear c21b0
          try clear c21b1
          try clear c22
          try clear c22b0
          try clear c23
          try clear c23b0
          try clear c24
          try clear c24b0
          try clear c25
          try clear c25b0
          try clear c25b1
          try clear c26
          try clear c26b0
          try clear c26b1
          try clear p27
          try clear q27
          try clear hx27
          try clear hf27
          try clear c28
          try clear c28b0
          try clear c28b1
          try clear c28b2
          try clear p29
          try clear q29
          try clear hx29
          try clear hf29
          try clear c35
          try clear c35b0
          try clear c36
          try clear c36b0
          try clear c37
          try clear c37b0
          try clear c37b1
          try clear c37b2
          try clear p38
          try clear q38
          try clear hx38
          try clear hf38
          try clear hx112_0
          try clear hx114_0
          try clear hx116_0
          try clear hx118_0
          try clear hx120_0
          try clear hx17_0
          try clear hx27_0
          try clear hx29_0
          try clear hx38_0
          try clear hx9_0
          try clear p112
          try clear p114
          try clear p116
          try clear p118
          try clear p120
          try clear p17
          try clear p2
          try clear p27
          try clear p29
          try clear p38
          try clear p9
          try clear q112
          try clear q114
          try clear q116
          try clear q118
          try clear q120
          try clear q17
          try clear q27
          try clear q29
          try clear q38
          try clear q9
          obtain ⟨x3_2, x5_2, rfl, HA, HK2, HO_3, HB⟩ := hrel
          cases gk with
          | zero => exact absurd HA.out (by simp [spec_l03Regs.l1])
          | succ k2 =>
            have H := HA.out
            clear HA
            simp only [spec_l03Regs.l1] at H
            by_cases c42 : x5_2 < 16
            · rw [if_pos c42] at H
              have c42b0 : decide (x5_2 < 16) = true := decide_eq_true c42
              clear c42
              by_cases c43 : a0 = 4
              · rw [if_pos c43] at H
                have c43b0 : (a0 == 4) = true := beq_iff_eq.mpr c43
                have c43b1 : (a0 != 4) = false := bne_eq_false_iff_eq.mpr c43
                clear c43
                replace H := Option.bind_eq_some_iff.mp H
                obtain ⟨t128, A440, H⟩ := H
                replace H : (if 1 + t128.size ≤ 9223372036854775807 then (if ((⟨#[114]⟩ : ByteArray) ++ t128).size + 1 ≤ 9223372036854775807 then (if x3_2.length < 8796093022208 then (spec_l03Regs.l1 k2 a0 (x3_2 ++ [((⟨#[114]⟩ : ByteArray) ++ t128) ++ (⟨#[100]⟩ : ByteArray)]) (wrap64 (x5_2 + 1))) else (none)) else (none)) else (none)) = some r := H
                have A44 := Aside0.mk A440
                clear A440
                by_cases c45 : 1 + t128.size ≤ 9223372036854775807
                · rw [if_pos c45] at H
                  have c45b0 := eq_true c45
                  have c45b1 : decide (1 + t128.size ≤ 9223372036854775807) = true := decide_eq_true c45
                  try have c45b2 : (9223372036854775807 < 1 + t128.size) = False := eq_false (Nat.not_lt.2 c45)
                  by_cases c46 : ((⟨#[114]⟩ : ByteArray) ++ t128).size + 1 ≤ 9223372036854775807
                  · rw [if_pos c46] at H
                    have c46b0 := eq_true c46
                    have c46b1 : decide (((⟨#[114]⟩ : ByteArray) ++ t128).size + 1 ≤ 9223372036854775807) = true := decide_eq_true c46
                    try have c46b2 : (9223372036854775807 < ((⟨#[114]⟩ : ByteArray) ++ t128).size + 1) = False := eq_false (Nat.not_lt.2 c46)
                    have c46q : 1 + t128.size + 1 ≤ 9223372036854775807 := by have := c46; rw [ByteArray.size_append] at this; exact this
                    have c46q0 := eq_true c46q
                    have c46q1 : decide (1 + t128.size + 1 ≤ 9223372036854775807) = true := decide_eq_true c46q
                    have c46q2 : (9223372036854775807 < 1 + t128.size + 1) = False := eq_false (Nat.not_lt.2 c46q)
                    by_cases c47 : x3_2.length < 8796093022208
                    · rw [if_pos c47] at H
                      have LMc47 := Aside0.mk c47
                      clear c47
                      obtain ⟨y129, hy129⟩ : ∃ y_ : List ByteArray, y_ = (x3_2 ++ [((⟨#[114]⟩ : ByteArray) ++ t128) ++ (⟨#[100]⟩ : ByteArray)]) := ⟨_, rfl⟩
                      replace H : (spec_l03Regs.l1 k2 a0 y129 (wrap64 (x5_2 + 1))) = some r := by first | (rw [hy129]; with_reducible exact H) | (have H2_ := (Option.bind_some _ _).symm.trans H; rw [hy129]; with_reducible exact H2_) | (have H2_ := (Option.bind_some _ _).symm.trans H; with_reducible exact H2_) | with_reducible exact H | (rw [hy129]; exact H) | exact H
                      have Ny129 := Aside0.mk hy129
                      clear hy129
                      have H' := Aside0.mk H
                      clear H
                      go_wp2_with (first | ((with_reducible refine gate_callee (f := 45) rfl ?_); refine goesL_ (some 64) rfl rfl Tryd.func45 (by kernel_rfl) rfl #[.int .i64 x5_2] rfl (by (try simp only [List.map_toArray, List.map_cons, List.map_nil]); first | done | rfl | (simp only [List.length_drop, List.length_take]; rfl)) ?_; (with_reducible refine (spec_l00Digits.calls k2 x5_2 t128 _ A44.out).mono ?_); rintro e w48 ⟨rfl, hb⟩; refine ⟨_, rfl, ?_⟩; have n0_ := Aside0.mk (Kd.R_below (by (with_reducible repeat (first | apply Kd.R_alloc | apply Kd.R_drewN | apply Kd.R_drew)); exact HO_3.out) hb); have n1_ := Aside0.mk (below_step (by repeat (first | (with_reducible first | exact HB.out | apply below_alloc | apply pw_below_drewN | apply below_drew1) | exact HB.out)) hb); clear HO_3; clear HB; have HO_3 := n0_; have HB := n1_; clear n0_ n1_; (try clear hb); (try clear hb2); (try clear hk); (try clear hi)) | ((with_reducible refine gate_builtin (b := .append) (xs := #[.tmp 62, .tmp 68]) rfl ?_); at_builtin; refine Kd.R_append Kd.string (w0 := w) w.heap.size rfl (.tmp 62) (.tmp 68) 41 9 (.string ⟨#[]⟩) 16 rfl Tryd.underlying41 info9 rfl (by decide) (by omega) u3 x3_2 (((⟨#[114]⟩ : ByteArray) ++ t128) ++ (⟨#[100]⟩ : ByteArray)) [.string (((⟨#[114]⟩ : ByteArray) ++ t128) ++ (⟨#[100]⟩ : ByteArray))] (fun _ => True) (fun _ => False) rfl rfl ?aP (fun _ hk => hk.elim) ?aF ?aO ?aB ?aS ?aL ?_; (case aP => exact rfl); (case aB => exact (by repeat (first | (with_reducible first | exact HB.out | apply below_alloc | apply pw_below_drewN | apply below_drew1) | exact HB.out))); (case aF => exact (fun _ _ => trivial)); (case aO => exact (by (with_reducible repeat (first | apply Kd.R_alloc | apply Kd.R_drewN | apply Kd.R_drew)); exact HO_3.out)); (case aS => exact (below_size (by repeat (first | (with_reducible first | exact HB.out | apply below_alloc | apply pw_below_drewN | apply below_drew1) | exact HB.out)))); (case aL => have := LMc47.out; omega); intro v130 w49 ho hb hg hat; rw [← Ny129.out] at ho; have n0_ := Aside0.mk (hb); have n1_ := Aside0.mk (ho); clear HB; clear HO_3; have HB := n0_; have HO131 := n1_; clear n0_ n1_; clear ho hb hg hat))
                      go_roundg k2
                      case measure => have := HK1.out; have := HK2.out; omega
                      case rel => (try rw [c5b0]); (try rw [c5b0] at H'); (try rw [c5b1]); (try rw [c5b1] at H'); (try rw [c13b0]); (try rw [c13b0] at H'); (try rw [c13b1]); (try rw [c13b1] at H'); (try rw [c21b0]); (try rw [c21b0] at H'); (try rw [c21b1]); (try rw [c21b1] at H'); (try rw [c43b0]); (try rw [c43b0] at H'); (try rw [c43b1]); (try rw [c43b1] at H'); exact ⟨(y129), (wrap64 (x5_2 + 1)), (by first | rfl | (simp; done) | (simp [*]; done)), H', ⟨by have := HK1.out; have := HK2.out; omega⟩, ⟨by (with_reducible repeat (first | apply Kd.R_alloc | apply Kd.R_drewN | apply Kd.R_drew)); exact HO131.out⟩, ⟨by repeat (first | (with_reducible first | exact HB.out | apply below_alloc | apply pw_below_drewN | apply below_drew1) | exact HB.out)⟩⟩
                    · rw [if_neg c47] at H
                      exact absurd H (by simp)
                  · rw [if_neg c46] at H
                    exact absurd H (by simp)
                · rw [if_neg c45] at H
                  exact absurd H (by simp)
              · rw [if_neg c43] at H
                have c43b0 : (a0 == 4) = false := beq_eq_false_iff_ne.mpr c43
                have c43b1 : (a0 != 4) = true := bne_iff_ne.mpr c43
                by_cases c50 : a0 = 2
                · rw [if_pos c50] at H
                  have c50b0 : (a0 == 2) = true := beq_iff_eq.mpr c50
                  have c50b1 : (a0 != 2) = false := bne_eq_false_iff_eq.mpr c50
                  clear c50
                  replace H := Option.bind_eq_some_iff.mp H
                  obtain ⟨t132, A510, H⟩ := H
                  replace H : (if 1 + t132.size ≤ 9223372036854775807 then (if ((⟨#[114]⟩ : ByteArray) ++ t132).size + 1 ≤ 9223372036854775807 then (if x3_2.length < 8796093022208 then (spec_l03Regs.l1 k2 a0 (x3_2 ++ [((⟨#[114]⟩ : ByteArray) ++ t132) ++ (⟨#[119]⟩ : ByteArray)]) (wrap64 (x5_2 + 1))) else (none)) else (none)) else (none)) = some r := H
                  have A51 := Aside0.mk A510
                  clear A510
                  by_cases c52 : 1 + t132.size ≤ 9223372036854775807
                  · rw [if_pos c52] at H
                    have c52b0 := eq_true c52
                    have c52b1 : decide (1 + t132.size ≤ 9223372036854775807) = true := decide_eq_true c52
                    try have c52b2 : (9223372036854775807 < 1 + t132.size) = False := eq_false (Nat.not_lt.2 c52)
                    by_cases c53 : ((⟨#[114]⟩ : ByteArray) ++ t132).size + 1 ≤ 9223372036854775807
                    · rw [if_pos c53] at H
                      have c53b0 := eq_true c53
                      have c53b1 : decide (((⟨#[114]⟩ : ByteArray) ++ t132).size + 1 ≤ 9223372036854775807) = true := decide_eq_true c53
                      try have c53b2 : (9223372036854775807 < ((⟨#[114]⟩ : ByteArray) ++ t132).size + 1) = False := eq_false (Nat.not_lt.2 c53)
                      have c53q : 1 + t132.size + 1 ≤ 9223372036854775807 := by have := c53; rw [ByteArray.size_append] at this; exact this
                      have c53q0 := eq_true c53q
                      have c53q1 : decide (1 + t132.size + 1 ≤ 9223372036854775807) = true := decide_eq_true c53q
                      have c53q2 : (9223372036854775807 < 1 + t132.size + 1) = False := eq_false (Nat.not_lt.2 c53q)
                      by_cases c54 : x3_2.length < 8796093022208
                      · rw [if_pos c54] at H
                        have LMc54 := Aside0.mk c54
                        clear c54
                        obtain ⟨y133, hy133⟩ : ∃ y_ : List ByteArray, y_ = (x3_2 ++ [((⟨#[114]⟩ : ByteArray) ++ t132) ++ (⟨#[119]⟩ : ByteArray)]) := ⟨_, rfl⟩
                        replace H : (spec_l03Regs.l1 k2 a0 y133 (wrap64 (x5_2 + 1))) = some r := by first | (rw [hy133]; with_reducible exact H) | (have H2_ := (Option.bind_some _ _).symm.trans H; rw [hy133]; with_reducible exact H2_) | (have H2_ := (Option.bind_some _ _).symm.trans H; with_reducible exact H2_) | with_reducible exact H | (rw [hy133]; exact H) | exact H
                        have Ny133 := Aside0.mk hy133
                        clear hy133
                        have H' := Aside0.mk H
                        clear H
                        go_wp2_with (first | ((with_reducible refine gate_callee (f := 45) rfl ?_); refine goesL_ (some 64) rfl rfl Tryd.func45 (by kernel_rfl) rfl #[.int .i64 x5_2] rfl (by (try simp only [List.map_toArray, List.map_cons, List.map_nil]); first | done | rfl | (simp only [List.length_drop, List.length_take]; rfl)) ?_; (with_reducible refine (spec_l00Digits.calls k2 x5_2 t132 _ A51.out).mono ?_); rintro e w55 ⟨rfl, hb⟩; refine ⟨_, rfl, ?_⟩; have n0_ := Aside0.mk (Kd.R_below (by (with_reducible repeat (first | apply Kd.R_alloc | apply Kd.R_drewN | apply Kd.R_drew)); exact HO_3.out) hb); have n1_ := Aside0.mk (below_step (by repeat (first | (with_reducible first | exact HB.out | apply below_alloc | apply pw_below_drewN | apply below_drew1) | exact HB.out)) hb); clear HO_3; clear HB; have HO_3 := n0_; have HB := n1_; clear n0_ n1_; (try clear hb); (try clear hb2); (try clear hk); (try clear hi)) | ((with_reducible refine gate_builtin (b := .append) (xs := #[.tmp 62, .tmp 68]) rfl ?_); at_builtin; refine Kd.R_append Kd.string (w0 := w) w.heap.size rfl (.tmp 62) (.tmp 68) 41 9 (.string ⟨#[]⟩) 16 rfl Tryd.underlying41 info9 rfl (by decide) (by omega) u3 x3_2 (((⟨#[114]⟩ : ByteArray) ++ t132) ++ (⟨#[119]⟩ : ByteArray)) [.string (((⟨#[114]⟩ : ByteArray) ++ t132) ++ (⟨#[119]⟩ : ByteArray))] (fun _ => True) (fun _ => False) rfl rfl ?aP (fun _ hk => hk.elim) ?aF ?aO ?aB ?aS ?aL ?_; (case aP => exact rfl); (case aB => exact (by repeat (first | (with_reducible first | exact HB.out | apply below_alloc | apply pw_below_drewN | apply below_drew1) | exact HB.out))); (case aF => exact (fun _ _ => trivial)); (case aO => exact (by (with_reducible repeat (first | apply Kd.R_alloc | apply Kd.R_drewN | apply Kd.R_drew)); exact HO_3.out)); (case aS => exact (below_size (by repeat (first | (with_reducible first | exact HB.out | apply below_alloc | apply pw_below_drewN | apply below_drew1) | exact HB.out)))); (case aL => have := LMc54.out; omega); intro v134 w56 ho hb hg hat; rw [← Ny133.out] at ho; have n0_ := Aside0.mk (hb); have n1_ := Aside0.mk (ho); clear HB; clear HO_3; have HB := n0_; have HO135 := n1_; clear n0_ n1_; clear ho hb hg hat))
                        go_roundg k2
                        case measure => have := HK1.out; have := HK2.out; omega
                        case rel => (try rw [c5b0]); (try rw [c5b0] at H'); (try rw [c5b1]); (try rw [c5b1] at H'); (try rw [c13b0]); (try rw [c13b0] at H'); (try rw [c13b1]); (try rw [c13b1] at H'); (try rw [c21b0]); (try rw [c21b0] at H'); (try rw [c21b1]); (try rw [c21b1] at H'); (try rw [c43b0]); (try rw [c43b0] at H'); (try rw [c43b1]); (try rw [c43b1] at H'); (try rw [c50b0]); (try rw [c50b0] at H'); (try rw [c50b1]); (try rw [c50b1] at H'); exact ⟨(y133), (wrap64 (x5_2 + 1)), (by first | rfl | (simp; done) | (simp [*]; done)), H', ⟨by have := HK1.out; have := HK2.out; omega⟩, ⟨by (with_reducible repeat (first | apply Kd.R_alloc | apply Kd.R_drewN | apply Kd.R_drew)); exact HO135.out⟩, ⟨by repeat (first | (with_reducible first | exact HB.out | apply below_alloc | apply pw_below_drewN | apply below_drew1) | exact HB.out)⟩⟩
                      · rw [if_neg c54] at H
                        exact absurd H (by simp)
                    · rw [if_neg c53] at H
                      exact absurd H (by simp)
                  · rw [if_neg c52] at H
                    exact absurd H (by simp)
                · rw [if_neg c50] at H
                  have c50b0 : (a0 == 2) = false := beq_eq_false_iff_ne.mpr c50
                  have c50b1 : (a0 != 2) = true := bne_iff_ne.mpr c50
                  by_cases c57 : a0 = 1
                  · rw [if_pos c57] at H
                    have c57b0 : (a0 == 1) = true := beq_iff_eq.mpr c57
                    have c57b1 : (a0 != 1) = false := bne_eq_false_iff_eq.mpr c57
                    clear c57
                    replace H := Option.bind_eq_some_iff.mp H
                    obtain ⟨t136, A580, H⟩ := H
                    replace H : (if 1 + t136.size ≤ 9223372036854775807 then (if ((⟨#[114]⟩ : ByteArray) ++ t136).size + 1 ≤ 9223372036854775807 then (if x3_2.length < 8796093022208 then (spec_l03Regs.l1 k2 a0 (x3_2 ++ [((⟨#[114]⟩ : ByteArray) ++ t136) ++ (⟨#[98]⟩ : ByteArray)]) (wrap64 (x5_2 + 1))) else (none)) else (none)) else (none)) = some r := H
                    have A58 := Aside0.mk A580
                    clear A580
                    by_cases c59 : 1 + t136.size ≤ 9223372036854775807
                    · rw [if_pos c59] at H
                      have c59b0 := eq_true c59
                      have c59b1 : decide (1 + t136.size ≤ 9223372036854775807) = true := decide_eq_true c59
                      try have c59b2 : (9223372036854775807 < 1 + t136.size) = False := eq_false (Nat.not_lt.2 c59)
                      by_cases c60 : ((⟨#[114]⟩ : ByteArray) ++ t136).size + 1 ≤ 9223372036854775807
                      · rw [if_pos c60] at H
                        have c60b0 := eq_true c60
                        have c60b1 : decide (((⟨#[114]⟩ : ByteArray) ++ t136).size + 1 ≤ 9223372036854775807) = true := decide_eq_true c60
                        try have c60b2 : (9223372036854775807 < ((⟨#[114]⟩ : ByteArray) ++ t136).size + 1) = False := eq_false (Nat.not_lt.2 c60)
                        have c60q : 1 + t136.size + 1 ≤ 9223372036854775807 := by have := c60; rw [ByteArray.size_append] at this; exact this
                        have c60q0 := eq_true c60q
                        have c60q1 : decide (1 + t136.size + 1 ≤ 9223372036854775807) = true := decide_eq_true c60q
                        have c60q2 : (9223372036854775807 < 1 + t136.size + 1) = False := eq_false (Nat.not_lt.2 c60q)
                        by_cases c61 : x3_2.length < 8796093022208
                        · rw [if_pos c61] at H
                          have LMc61 := Aside0.mk c61
                          clear c61
                          obtain ⟨y137, hy137⟩ : ∃ y_ : List ByteArray, y_ = (x3_2 ++ [((⟨#[114]⟩ : ByteArray) ++ t136) ++ (⟨#[98]⟩ : ByteArray)]) := ⟨_, rfl⟩
                          replace H : (spec_l03Regs.l1 k2 a0 y137 (wrap64 (x5_2 + 1))) = some r := by first | (rw [hy137]; with_reducible exact H) | (have H2_ := (Option.bind_some _ _).symm.trans H; rw [hy137]; with_reducible exact H2_) | (have H2_ := (Option.bind_some _ _).symm.trans H; with_reducible exact H2_) | with_reducible exact H | (rw [hy137]; exact H) | exact H
                          have Ny137 := Aside0.mk hy137
                          clear hy137
                          have H' := Aside0.mk H
                          clear H
                          go_wp2_with (first | ((with_reducible refine gate_callee (f := 45) rfl ?_); refine goesL_ (some 64) rfl rfl Tryd.func45 (by kernel_rfl) rfl #[.int .i64 x5_2] rfl (by (try simp only [List.map_toArray, List.map_cons, List.map_nil]); first | done | rfl | (simp only [List.length_drop, List.length_take]; rfl)) ?_; (with_reducible refine (spec_l00Digits.calls k2 x5_2 t136 _ A58.out).mono ?_); rintro e w62 ⟨rfl, hb⟩; refine ⟨_, rfl, ?_⟩; have n0_ := Aside0.mk (Kd.R_below (by (with_reducible repeat (first | apply Kd.R_alloc | apply Kd.R_drewN | apply Kd.R_drew)); exact HO_3.out) hb); have n1_ := Aside0.mk (below_step (by repeat (first | (with_reducible first | exact HB.out | apply below_alloc | apply pw_below_drewN | apply below_drew1) | exact HB.out)) hb); clear HO_3; clear HB; have HO_3 := n0_; have HB := n1_; clear n0_ n1_; (try clear hb); (try clear hb2); (try clear hk); (try clear hi)) | ((with_reducible refine gate_builtin (b := .append) (xs := #[.tmp 62, .tmp 68]) rfl ?_); at_builtin; refine Kd.R_append Kd.string (w0 := w) w.heap.size rfl (.tmp 62) (.tmp 68) 41 9 (.string ⟨#[]⟩) 16 rfl Tryd.underlying41 info9 rfl (by decide) (by omega) u3 x3_2 (((⟨#[114]⟩ : ByteArray) ++ t136) ++ (⟨#[98]⟩ : ByteArray)) [.string (((⟨#[114]⟩ : ByteArray) ++ t136) ++ (⟨#[98]⟩ : ByteArray))] (fun _ => True) (fun _ => False) rfl rfl ?aP (fun _ hk => hk.elim) ?aF ?aO ?aB ?aS ?aL ?_; (case aP => exact rfl); (case aB => exact (by repeat (first | (with_reducible first | exact HB.out | apply below_alloc | apply pw_below_drewN | apply below_drew1) | exact HB.out))); (case aF => exact (fun _ _ => trivial)); (case aO => exact (by (with_reducible repeat (first | apply Kd.R_alloc | apply Kd.R_drewN | apply Kd.R_drew)); exact HO_3.out)); (case aS => exact (below_size (by repeat (first | (with_reducible first | exact HB.out | apply below_alloc | apply pw_below_drewN | apply below_drew1) | exact HB.out)))); (case aL => have := LMc61.out; omega); intro v138 w63 ho hb hg hat; rw [← Ny137.out] at ho; have n0_ := Aside0.mk (hb); have n1_ := Aside0.mk (ho); clear HB; clear HO_3; have HB := n0_; have HO139 := n1_; clear n0_ n1_; clear ho hb hg hat))
                          go_roundg k2
                          case measure => have := HK1.out; have := HK2.out; omega
                          case rel => (try rw [c5b0]); (try rw [c5b0] at H'); (try rw [c5b1]); (try rw [c5b1] at H'); (try rw [c13b0]); (try rw [c13b0] at H'); (try rw [c13b1]); (try rw [c13b1] at H'); (try rw [c21b0]); (try rw [c21b0] at H'); (try rw [c21b1]); (try rw [c21b1] at H'); (try rw [c43b0]); (try rw [c43b0] at H'); (try rw [c43b1]); (try rw [c43b1] at H'); (try rw [c50b0]); (try rw [c50b0] at H'); (try rw [c50b1]); (try rw [c50b1] at H'); (try rw [c57b0]); (try rw [c57b0] at H'); (try rw [c57b1]); (try rw [c57b1] at H'); exact ⟨(y137), (wrap64 (x5_2 + 1)), (by first | rfl | (simp; done) | (simp [*]; done)), H', ⟨by have := HK1.out; have := HK2.out; omega⟩, ⟨by (with_reducible repeat (first | apply Kd.R_alloc | apply Kd.R_drewN | apply Kd.R_drew)); exact HO139.out⟩, ⟨by repeat (first | (with_reducible first | exact HB.out | apply below_alloc | apply pw_below_drewN | apply below_drew1) | exact HB.out)⟩⟩
                        · rw [if_neg c61] at H
                          exact absurd H (by simp)
                      · rw [if_neg c60] at H
                        exact absurd H (by simp)
                    · rw [if_neg c59] at H
                      exact absurd H (by simp)
                  · rw [if_neg c57] at H
                    have c57b0 : (a0 == 1) = false := beq_eq_false_iff_ne.mpr c57
                    have c57b1 : (a0 != 1) = true := bne_iff_ne.mpr c57
                    replace H := Option.bind_eq_some_iff.mp H
                    obtain ⟨t140, A640, H⟩ := H
                    replace H : (if 1 + t140.size ≤ 9223372036854775807 then (if ((⟨#[114]⟩ : ByteArray) ++ t140).size + 0 ≤ 9223372036854775807 then (if x3_2.length < 8796093022208 then (spec_l03Regs.l1 k2 a0 (x3_2 ++ [((⟨#[114]⟩ : ByteArray) ++ t140) ++ (⟨#[]⟩ : ByteArray)]) (wrap64 (x5_2 + 1))) else (none)) else (none)) else (none)) = some r := H
                    have A64 := Aside0.mk A640
                    clear A640
                    by_cases c65 : 1 + t140.size ≤ 9223372036854775807
                    · rw [if_pos c65] at H
                      have c65b0 := eq_true c65
                      have c65b1 : decide (1 + t140.size ≤ 9223372036854775807) = true := decide_eq_true c65
                      try have c65b2 : (9223372036854775807 < 1 + t140.size) = False := eq_false (Nat.not_lt.2 c65)
                      by_cases c66 : ((⟨#[114]⟩ : ByteArray) ++ t140).size + 0 ≤ 9223372036854775807
                      · rw [if_pos c66] at H
                        have c66b0 := eq_true c66
                        have c66b1 : decide (((⟨#[114]⟩ : ByteArray) ++ t140).size + 0 ≤ 9223372036854775807) = true := decide_eq_true c66
                        try have c66b2 : (9223372036854775807 < ((⟨#[114]⟩ : ByteArray) ++ t140).size + 0) = False := eq_false (Nat.not_lt.2 c66)
                        have c66q : 1 + t140.size + 0 ≤ 9223372036854775807 := by have := c66; rw [ByteArray.size_append] at this; exact this
                        have c66q0 := eq_true c66q
                        have c66q1 : decide (1 + t140.size + 0 ≤ 9223372036854775807) = true := decide_eq_true c66q
                        have c66q2 : (9223372036854775807 < 1 + t140.size + 0) = False := eq_false (Nat.not_lt.2 c66q)
                        by_cases c67 : x3_2.length < 8796093022208
                        · rw [if_pos c67] at H
                          have LMc67 := Aside0.mk c67
                          clear c67
                          obtain ⟨y141, hy141⟩ : ∃ y_ : List ByteArray, y_ = (x3_2 ++ [((⟨#[114]⟩ : ByteArray) ++ t140) ++ (⟨#[]⟩ : ByteArray)]) := ⟨_, rfl⟩
                          replace H : (spec_l03Regs.l1 k2 a0 y141 (wrap64 (x5_2 + 1))) = some r := by first | (rw [hy141]; with_reducible exact H) | (have H2_ := (Option.bind_some _ _).symm.trans H; rw [hy141]; with_reducible exact H2_) | (have H2_ := (Option.bind_some _ _).symm.trans H; with_reducible exact H2_) | with_reducible exact H | (rw [hy141]; exact H) | exact H
                          have Ny141 := Aside0.mk hy141
                          clear hy141
                          have H' := Aside0.mk H
                          clear H
                          go_wp2_with (first | ((with_reducible refine gate_callee (f := 45) rfl ?_); refine goesL_ (some 64) rfl rfl Tryd.func45 (by kernel_rfl) rfl #[.int .i64 x5_2] rfl (by (try simp only [List.map_toArray, List.map_cons, List.map_nil]); first | done | rfl | (simp only [List.length_drop, List.length_take]; rfl)) ?_; (with_reducible refine (spec_l00Digits.calls k2 x5_2 t140 _ A64.out).mono ?_); rintro e w68 ⟨rfl, hb⟩; refine ⟨_, rfl, ?_⟩; have n0_ := Aside0.mk (Kd.R_below (by (with_reducible repeat (first | apply Kd.R_alloc | apply Kd.R_drewN | apply Kd.R_drew)); exact HO_3.out) hb); have n1_ := Aside0.mk (below_step (by repeat (first | (with_reducible first | exact HB.out | apply below_alloc | apply pw_below_drewN | apply below_drew1) | exact HB.out)) hb); clear HO_3; clear HB; have HO_3 := n0_; have HB := n1_; clear n0_ n1_; (try clear hb); (try clear hb2); (try clear hk); (try clear hi)) | ((with_reducible refine gate_builtin (b := .append) (xs := #[.tmp 62, .tmp 68]) rfl ?_); at_builtin; refine Kd.R_append Kd.string (w0 := w) w.heap.size rfl (.tmp 62) (.tmp 68) 41 9 (.string ⟨#[]⟩) 16 rfl Tryd.underlying41 info9 rfl (by decide) (by omega) u3 x3_2 (((⟨#[114]⟩ : ByteArray) ++ t140) ++ (⟨#[]⟩ : ByteArray)) [.string (((⟨#[114]⟩ : ByteArray) ++ t140) ++ (⟨#[]⟩ : ByteArray))] (fun _ => True) (fun _ => False) rfl rfl ?aP (fun _ hk => hk.elim) ?aF ?aO ?aB ?aS ?aL ?_; (case aP => exact rfl); (case aB => exact (by repeat (first | (with_reducible first | exact HB.out | apply below_alloc | apply pw_below_drewN | apply below_drew1) | exact HB.out))); (case aF => exact (fun _ _ => trivial)); (case aO => exact (by (with_reducible repeat (first | apply Kd.R_alloc | apply Kd.R_drewN | apply Kd.R_drew)); exact HO_3.out)); (case aS => exact (below_size (by repeat (first | (with_reducible first | exact HB.out | apply below_alloc | apply pw_below_drewN | apply below_drew1) | exact HB.out)))); (case aL => have := LMc67.out; omega); intro v142 w69 ho hb hg hat; rw [← Ny141.out] at ho; have n0_ := Aside0.mk (hb); have n1_ := Aside0.mk (ho); clear HB; clear HO_3; have HB := n0_; have HO143 := n1_; clear n0_ n1_; clear ho hb hg hat))
                          go_roundg k2
                          case measure => have := HK1.out; have := HK2.out; omega
                          case rel => (try rw [c5b0]); (try rw [c5b0] at H'); (try rw [c5b1]); (try rw [c5b1] at H'); (try rw [c13b0]); (try rw [c13b0] at H'); (try rw [c13b1]); (try rw [c13b1] at H'); (try rw [c21b0]); (try rw [c21b0] at H'); (try rw [c21b1]); (try rw [c21b1] at H'); (try rw [c43b0]); (try rw [c43b0] at H'); (try rw [c43b1]); (try rw [c43b1] at H'); (try rw [c50b0]); (try rw [c50b0] at H'); (try rw [c50b1]); (try rw [c50b1] at H'); (try rw [c57b0]); (try rw [c57b0] at H'); (try rw [c57b1]); (try rw [c57b1] at H'); exact ⟨(y141), (wrap64 (x5_2 + 1)), (by first | rfl | (simp; done) | (simp [*]; done)), H', ⟨by have := HK1.out; have := HK2.out; omega⟩, ⟨by (with_reducible repeat (first | apply Kd.R_alloc | apply Kd.R_drewN | apply Kd.R_drew)); exact HO143.out⟩, ⟨by repeat (first | (with_reducible first | exact HB.out | apply below_alloc | apply pw_below_drewN | apply below_drew1) | exact HB.out)⟩⟩
                        · rw [if_neg c67] at H
                          exact absurd H (by simp)
                      · rw [if_neg c66] at H
                        exact absurd H (by simp)
                    · rw [if_neg c65] at H
                      exact absurd H (by simp)
            · rw [if_neg c42] at H
              have c42b0 : decide (x5_2 < 16) = false := decide_eq_false c42
              clear c42
              by_cases c70 : a0 = 1
              · rw [if_pos c70] at H
                have c70b0 : (a0 == 1) = true := beq_iff_eq.mpr c70
                have c70b1 : (a0 != 1) = false := bne_eq_false_iff_eq.mpr c70
                clear c70
                obtain ⟨y122, hy122⟩ : ∃ y_ : List ByteArray, y_ = (([(⟨#[97, 104]⟩ : ByteArray), (⟨#[99, 104]⟩ : ByteArray), (⟨#[100, 104]⟩ : ByteArray), (⟨#[98, 104]⟩ : ByteArray)] : List ByteArray)) := ⟨_, rfl⟩
                replace H : (if x3_2.length + y122.length < 8796093022208 then (some (x3_2 ++ y122)) else (none)) = some r := by first | (rw [hy122]; with_reducible exact H) | (have H2_ := (Option.bind_some _ _).symm.trans H; rw [hy122]; with_reducible exact H2_) | (have H2_ := (Option.bind_some _ _).symm.trans H; with_reducible exact H2_) | with_reducible exact H | (rw [hy122]; exact H) | exact H
                have Ny122 := Aside0.mk hy122
                clear hy122
                by_cases c71 : x3_2.length + y122.length < 8796093022208
                · rw [if_pos c71] at H
                  have LMc71 := Aside0.mk c71
                  clear c71
                  obtain ⟨y125, hy125⟩ : ∃ y_ : List ByteArray, y_ = (x3_2 ++ y122) := ⟨_, rfl⟩
                  replace H : (some y125) = some r := by first | (rw [hy125]; with_reducible exact H) | (have H2_ := (Option.bind_some _ _).symm.trans H; rw [hy125]; with_reducible exact H2_) | (have H2_ := (Option.bind_some _ _).symm.trans H; with_reducible exact H2_) | with_reducible exact H | (rw [hy125]; exact H) | exact H
                  have Ny125 := Aside0.mk hy125
                  clear hy125
                  obtain rfl := Option.some.inj H
                  go_wp2_with (first | ((with_reducible refine gate_dst (N := 73) rfl ?_); refine Kd.R_lit Kd.string _ 9 ?hg (N := 73) ?hd (xs := ([(⟨#[97, 104]⟩ : ByteArray), (⟨#[99, 104]⟩ : ByteArray), (⟨#[100, 104]⟩ : ByteArray), (⟨#[98, 104]⟩ : ByteArray)] : List ByteArray)) (inner := [.string (⟨#[97, 104]⟩ : ByteArray), .string (⟨#[99, 104]⟩ : ByteArray), .string (⟨#[100, 104]⟩ : ByteArray), .string (⟨#[98, 104]⟩ : ByteArray)]) (ok := fun _ => True) (okp := fun _ => True) ?hr ?hp (fun _ hk => hk) trivial (Below.refl _ _) (Nat.le_refl _) (by simp) ?_; (case hd => rfl); (case hg => rfl); (case hr => first | (go_simp; done) | (go_simp; rfl)); (case hp => exact (Reps.one (show Kd.M Kd.string _ _ _ (⟨#[97, 104]⟩ : ByteArray) [.string (⟨#[97, 104]⟩ : ByteArray)] from rfl) (Reps.one (show Kd.M Kd.string _ _ _ (⟨#[99, 104]⟩ : ByteArray) [.string (⟨#[99, 104]⟩ : ByteArray)] from rfl) (Reps.one (show Kd.M Kd.string _ _ _ (⟨#[100, 104]⟩ : ByteArray) [.string (⟨#[100, 104]⟩ : ByteArray)] from rfl) (Reps.one (show Kd.M Kd.string _ _ _ (⟨#[98, 104]⟩ : ByteArray) [.string (⟨#[98, 104]⟩ : ByteArray)] from rfl) (Reps.none _ _)))))); intro v123 w72 ho73 hb hg_ hnew_; clear hg_ hnew_; (first | rw [← Ny122.out] at ho73 | (simp only [Int.reduceToNat] at ho73; rw [← Ny122.out] at ho73)); have n0_ := Aside0.mk (Kd.R_elder' (by (with_reducible repeat (first | apply Kd.R_alloc | apply Kd.R_drewN | apply Kd.R_drew)); exact HO_3.out) (Kd.R_base ho73) hb); have n1_ := Aside0.mk (Kd.R_lower (Kd.R_new' ho73 (Kd.R_lt (by (with_reducible repeat (first | apply Kd.R_alloc | apply Kd.R_drewN | apply Kd.R_drew)); exact HO_3.out))) (below_size (by repeat (first | (with_reducible first | exact HB.out | apply below_alloc | apply pw_below_drewN | apply below_drew1) | exact HB.out)))); have n2_ := Aside0.mk (below_step (by repeat (first | (with_reducible first | exact HB.out | apply below_alloc | apply pw_below_drewN | apply below_drew1) | exact HB.out)) hb); clear HO_3; clear HB; have HO_3 := n0_; have HO124 := n1_; have HB := n2_; clear n0_ n1_ n2_; clear hb ho73; obtain ⟨Ao75, co75, eo75⟩ := Kd.R_slice HO124.out; subst eo75) | ((with_reducible refine gate_builtin (b := .append) (xs := #[.tmp 72, .tmp 73]) rfl ?_); at_builtin; refine Kd.R_append_rows Kd.string (w0 := w) w.heap.size rfl (.tmp 72) (.tmp 73) 41 9 (.string ⟨#[]⟩) 16 rfl Tryd.underlying41 info9 rfl (by decide) (by omega) u3 x3_2 y122 _ _ _ (fun k_ => some k_ ≠ (.slice Ao75 y122.length co75 : Value).ownBlock) (fun _ => False) rfl rfl ?aO ?aR (fun _ _ h => h) (fun _ h => h.elim) ?aF ?aB ?aS ?aL ?_; (case aR => repeat (first | exact (Kd.R_reads' HO124.out).2.2 | (with_reducible refine Kd.C_alloc ?_ _) | (with_reducible refine Kd.C_drewN ?_ _) | (with_reducible refine Kd.C_drew ?_))); (case aB => exact (by repeat (first | (with_reducible first | exact HB.out | apply below_alloc | apply pw_below_drewN | apply below_drew1) | exact HB.out))); (case aF => exact (fun k_ hk => Kd.fresh' (Kd.R_lt (by (with_reducible repeat (first | apply Kd.R_alloc | apply Kd.R_drewN | apply Kd.R_drew)); exact HO124.out)) k_ hk)); (case aO => exact (by (with_reducible repeat (first | apply Kd.R_alloc | apply Kd.R_drewN | apply Kd.R_drew)); exact Kd.R_mono HO_3.out (fun _ hk => hk.2))); (case aS => exact (below_size (by repeat (first | (with_reducible first | exact HB.out | apply below_alloc | apply pw_below_drewN | apply below_drew1) | exact HB.out)))); (case aL => have := LMc71.out; omega); intro v126 w74 ho hb hg hat; rw [← Ny125.out] at ho; have n0_ := Aside0.mk (Kd.R_after (ok := (fun _ => True)) (by (with_reducible repeat (first | apply Kd.R_alloc | apply Kd.R_drewN | apply Kd.R_drew)); exact HO124.out) hg hat); have n1_ := Aside0.mk (hb); have n2_ := Aside0.mk (ho); clear HO124; clear HB; clear HO_3; have HO124 := n0_; have HB := n1_; have HO127 := n2_; clear n0_ n1_ n2_; clear ho hb hg hat))
                  go_ret
                  exact ⟨_, by first | rfl | (simp [errW_none, errW_some] <;> rfl) | (simp [*, errW_none, errW_some] <;> rfl), by (with_reducible repeat (first | apply Kd.R_alloc | apply Kd.R_drewN | apply Kd.R_drew)); exact Kd.R_mono HO127.out (fun _ hk => trivial), by repeat (first | (with_reducible first | exact HB.out | apply below_alloc | apply pw_below_drewN | apply below_drew1) | exact HB.out)⟩
                · rw [if_neg c71] at H
                  exact absurd H (by simp)
              · rw [if_neg c70] at H
                have c70b0 : (a0 == 1) = false := beq_eq_false_iff_ne.mpr c70
                have c70b1 : (a0 != 1) = true := bne_iff_ne.mpr c70
                obtain rfl := Option.some.inj H
                go_wp2
                go_ret
                exact ⟨_, by first | rfl | (simp [errW_none, errW_some] <;> rfl) | (simp [*, errW_none, errW_some] <;> rfl), by (with_reducible repeat (first | apply Kd.R_alloc | apply Kd.R_drewN | apply Kd.R_drew)); exact HO_3.out, by repeat (first | (with_reducible first | exact HB.out | apply below_alloc | apply pw_below_drewN | apply below_drew1) | exact HB.out)⟩

/-! ### spec_l03At: function 28 -/
def spec_l03At.l0 : Nat → List ByteArray → ByteArray → Int → Option (Int)
  | 0, _, _, _ => none
  | k + 1, x0, x1, x5 => if x5 < (x0.length : Int) then (if 0 ≤ x5 then (if (rdOf ByteArray.empty x0 x5).toList = x1.toList then (some x5) else (spec_l03At.l0 k x0 x1 (wrap64 (x5 + 1)))) else (none)) else (some (-1))
def spec_l03At.f (k : Nat) (l0 : List ByteArray) (a1 : ByteArray) : Option (Int) := spec_l03At.l0 k l0 a1 0
theorem spec_l03At.mono_l : ∀ k, (∀ y0 y1 y2, LeO (spec_l03At.l0 k y0 y1 y2) (spec_l03At.l0 (k + 1) y0 y1 y2))
  | 0 => fun _ _ _ r h => by simp [spec_l03At.l0] at h
  | k + 1 => by
    have ih0 := spec_l03At.mono_l k
    · intro y0 y1 y2
      unfold spec_l03At.l0
      repeat' first
      | (with_reducible exact ih0 _ _ _)
      | (with_reducible exact LeO.refl _)
      | (with_reducible exact LeO.none _)
      | (with_reducible refine LeO.ite ?_ ?_)
      | (with_reducible refine LeO.bind ?_ (fun _ => ?_))
      | exact ih0 _ _ _
      | exact LeO.none _
      | refine LeO.ite ?_ ?_
      | refine LeO.bind ?_ (fun _ => ?_)
theorem spec_l03At.mono : ∀ a0 a1 k, LeO (spec_l03At.f k a0 a1) (spec_l03At.f (k + 1) a0 a1) := by
  intro a0 a1 k
  have ih0 := spec_l03At.mono_l k
  unfold spec_l03At.f
  repeat' first
      | (with_reducible exact ih0 _ _ _)
      | (with_reducible exact LeO.refl _)
      | (with_reducible exact LeO.none _)
      | (with_reducible refine LeO.ite ?_ ?_)
      | (with_reducible refine LeO.bind ?_ (fun _ => ?_))
      | exact ih0 _ _ _
      | exact LeO.none _
      | refine LeO.ite ?_ ?_
      | refine LeO.bind ?_ (fun _ => ?_)
set_option maxHeartbeats 8000000 in
set_option maxRecDepth 100000 in
theorem spec_l03At.calls (k : Nat) (A0 : Option Addr) (c0 : Nat) (l0 : List ByteArray) (a1 : ByteArray) (r : Int) (w : World) (hr0 : Kd.C Kd.string w A0 l0.length l0) (hc0 : l0.length ≤ c0) (h : spec_l03At.f k l0 a1 = some r) :
    Calls Tryd.prog 28 #[.slice A0 l0.length c0, .string a1] w fun e w' => e = .returned (.int .i64 r) ∧ Drawn0 w w' := by
  have HR0 := Aside0.mk hr0
  have HC0 := Aside0.mk hc0
  clear hr0 hc0
  have H : (spec_l03At.l0 k l0 a1 0) = some r := h
  clear h
  have H' := Aside0.mk H
  clear H
  go_enter Tryd.func28, Tryd.ntmps28
  go_wp2
  go_loopg [5] k (fun kq v5 w' => ∃ (x5_1 : Int), v5 = .int .i64 x5_1 ∧ Aside0 (spec_l03At.l0 kq l0 a1 x5_1 = some r) ∧ Aside0 (kq ≤ k) ∧ Drawn0 w w')
  case atStart => exact ⟨(0), (by first | rfl | (simp; done) | (simp [*]; done)), H', ⟨Nat.le_refl _⟩, by repeat (first | exact Drawn0.refl _ | apply Drawn0.step)⟩
  case round =>
    clear H'
    try clear c2
    try clear p2
    obtain ⟨x5_1, rfl, HA, HK1, ⟨m1, rfl⟩⟩ := hrel
    cases gk with
    | zero => exact absurd HA.out (by simp [spec_l03At.l0])
    | succ k1 =>
      have H := HA.out
      clear HA
      simp only [spec_l03At.l0] at H
      by_cases c3 : x5_1 < (l0.length : Int)
      · rw [if_pos c3] at H
        have c3b0 : decide (x5_1 < (l0.length : Int)) = true := decide_eq_true c3
        clear c3
        by_cases c4 : 0 ≤ x5_1
        · rw [if_pos c4] at H
          have c4b0 : decide (0 ≤ x5_1) = true := decide_eq_true c4
          clear c4
          by_cases c5 : (rdOf ByteArray.empty l0 x5_1).toList = a1.toList
          · rw [if_pos c5] at H
            have c5b0 : ((rdOf ByteArray.empty l0 x5_1).toList == a1.toList) = true := beq_iff_eq.mpr c5
            have c5b1 : ((rdOf ByteArray.empty l0 x5_1).toList != a1.toList) = false := bne_eq_false_iff_eq.mpr c5
            clear c5
            obtain rfl := Option.some.inj H
            have p144 : 0 ≤ (x5_1 : Int) := of_decide_eq_true (by first | (with_reducible assumption) | assumption)
            have q144 : x5_1 < (l0.length : Int) := of_decide_eq_true (by first | (with_reducible assumption) | assumption)
            obtain ⟨ad144, e144, hx144_0⟩ := Kd.at_string HR0.out x5_1 p144 q144
            cases e144
            replace p144 := eq_true p144
            replace q144 := eq_true q144
            go_wp2
            go_ret
            exact ⟨by first | rfl | (simp; done) | (simp [*]; done), by repeat (first | exact Drawn0.refl _ | apply Drawn0.step)⟩
          · rw [if_neg c5] at H
            have c5b0 : ((rdOf ByteArray.empty l0 x5_1).toList == a1.toList) = false := beq_eq_false_iff_ne.mpr c5
            have c5b1 : ((rdOf ByteArray.empty l0 x5_1).toList != a1.toList) = true := bne_iff_ne.mpr c5
            have H' := Aside0.mk H
            clear H
            have p144 : 0 ≤ (x5_1 : Int) := of_decide_eq_true (by first | (with_reducible assumption) | assumption)
            have q144 : x5_1 < (l0.length : Int) := of_decide_eq_true (by first | (with_reducible assumption) | assumption)
            obtain ⟨ad144, e144, hx144_0⟩ := Kd.at_string HR0.out x5_1 p144 q144
            cases e144
            replace p144 := eq_true p144
            replace q144 := eq_true q144
            go_wp2
            go_roundg k1
            case measure => have := HK1.out; omega
            case rel => (try rw [c5b0]); (try rw [c5b0] at H'); (try rw [c5b1]); (try rw [c5b1] at H'); exact ⟨(wrap64 (x5_1 + 1)), (by first | rfl | (simp; done) | (simp [*]; done)), H', ⟨by have := HK1.out; omega⟩, by repeat (first | exact Drawn0.refl _ | apply Drawn0.step)⟩
        · rw [if_neg c4] at H
          exact absurd H (by simp)
      · rw [if_neg c3] at H
        have c3b0 : decide (x5_1 < (l0.length : Int)) = false := decide_eq_false c3
        clear c3
        obtain rfl := Option.some.inj H
        go_wp2
        go_ret
        exact ⟨by first | rfl | (simp; done) | (simp [*]; done), by repeat (first | exact Drawn0.refl _ | apply Drawn0.step)⟩

end Go.Proofs.YtkaffpbclanoeaaDoor.PFnExactRegOf
