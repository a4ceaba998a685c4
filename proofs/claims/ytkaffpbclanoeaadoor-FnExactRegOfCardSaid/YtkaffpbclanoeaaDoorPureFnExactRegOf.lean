/- The law of FnExactRegOf. -/
import Derived.Test.YtkaffpbclanoeaaDoorPFnExactRegOfx4
namespace Go.Proofs.YtkaffpbclanoeaaDoor.Pure
open Go.RowKit Go.Proofs.YtkaffpbclanoeaaDoor.PFnExactRegOf Go.Proofs.YtkaffpbclanoeaaDoorW.PrintWords Go.Proofs.YtkaffpbclanoeaaDoorW.PrintLast
set_option linter.unusedVariables false
set_option linter.unusedSimpArgs false
theorem both (a1 : Int) (h : a1 = 1 ∨ a1 = 2 ∨ a1 = 4 ∨ a1 = 8) : ∃ L, spec_l03Regs.f 60 a1 = some L ∧ impl_regNames.f 60 a1 = some L ∧ L.length = if a1 = 1 then 20 else 16 := by
  rcases h with rfl | rfl | rfl | rfl
  · exact ⟨(impl_regNames.f 60 1).getD [], by kernel_rfl, by kernel_rfl, by kernel_rfl⟩
  · exact ⟨(impl_regNames.f 60 2).getD [], by kernel_rfl, by kernel_rfl, by kernel_rfl⟩
  · exact ⟨(impl_regNames.f 60 4).getD [], by kernel_rfl, by kernel_rfl, by kernel_rfl⟩
  · exact ⟨(impl_regNames.f 60 8).getD [], by kernel_rfl, by kernel_rfl, by kernel_rfl⟩
theorem spec_more (a : Int) {L : List ByteArray} (h : spec_l03Regs.f 60 a = some L) : ∀ d, spec_l03Regs.f (60 + d) a = some L
  | 0 => h
  | d + 1 => spec_l03Regs.mono a (60 + d) _ (spec_more a h d)
theorem impl_more (a : Int) {L : List ByteArray} (h : impl_regNames.f 60 a = some L) : ∀ d, impl_regNames.f (60 + d) a = some L
  | 0 => h
  | d + 1 => impl_regNames.mono a (60 + d) _ (impl_more a h d)
theorem both_at (k : Nat) (hk : 60 ≤ k) (a1 : Int) (h : a1 = 1 ∨ a1 = 2 ∨ a1 = 4 ∨ a1 = 8) : ∃ L, spec_l03Regs.f k a1 = some L ∧ impl_regNames.f k a1 = some L ∧ L.length ≤ 20 := by
  obtain ⟨L, e1, e2, e3⟩ := both a1 h
  obtain ⟨d, rfl⟩ : ∃ d, k = 60 + d := ⟨k - 60, by omega⟩
  refine ⟨L, spec_more a1 e1 d, impl_more a1 e2 d, ?_⟩
  rw [e3]
  split <;> omega
theorem find_loop (L : List ByteArray) (hL : L.length ≤ 20) (s : ByteArray) : ∀ (d : Nat) (k : Nat) (i : Int), 0 ≤ i → i + (d : Int) = L.length → d < k →
    ∃ t, spec_l03At.l0 k L s i = some t ∧ slices_Index_string_string.l0 k L s (L.length : Int) i = some t
  | d, 0, _, _, _, h => absurd h (Nat.not_lt_zero _)
  | 0, k + 1, i, h0, h1, _ => by
    refine ⟨-1, ?_, ?_⟩
    · rw [spec_l03At.l0, if_neg (by omega)]
    · rw [slices_Index_string_string.l0, if_neg (by omega)]
  | d + 1, k + 1, i, h0, h1, hk => by
    have hw : wrap64 (i + 1) = i + 1 := by unfold wrap64; omega
    by_cases e : (rdOf ByteArray.empty L i).toList = s.toList
    · refine ⟨i, ?_, ?_⟩
      · rw [spec_l03At.l0, if_pos (by omega), if_pos h0, if_pos e]
      · rw [slices_Index_string_string.l0, if_pos (by omega), if_pos h0, if_pos (by omega), if_pos e.symm]
    · obtain ⟨t, e1, e2⟩ := find_loop L hL s d k (i + 1) (by omega) (by omega) (by omega)
      refine ⟨t, ?_, ?_⟩
      · rw [spec_l03At.l0, if_pos (by omega), if_pos h0, if_neg e, hw]
        exact e1
      · rw [slices_Index_string_string.l0, if_pos (by omega), if_pos h0, if_pos (by omega), if_neg (fun x => e x.symm), hw]
        exact e2
theorem one_round (k : Nat) (hk : 60 ≤ k) (s : ByteArray) (a1 : Int) (h : a1 = 1 ∨ a1 = 2 ∨ a1 = 4 ∨ a1 = 8) : ∃ L t, spec_l03Regs.f k a1 = some L ∧ impl_regNames.f k a1 = some L ∧ spec_l03At.f k L s = some t ∧ slices_Index_string_string.f k L s = some t := by
  obtain ⟨L, e1, e2, e3⟩ := both_at k hk a1 h
  obtain ⟨t, f1, f2⟩ := find_loop L e3 s L.length k 0 (by omega) (by omega) (by omega)
  exact ⟨L, t, e1, e2, f1, f2⟩
theorem spec_step {k : Nat} {s : ByteArray} {x : Int} {L : List ByteArray} {t : Int} (hx : x ≤ 8) (p : spec_l03Regs.f k x = some L) (r : spec_l03At.f k L s = some t) : spec_RegOf.l0 (k + 1) s x = if t ≥ 0 then some (t, x, 0) else spec_RegOf.l0 k s (wrap64 (2 * x)) := by
  rw [spec_RegOf.l0, if_pos hx, p, Option.bind_some, r, Option.bind_some]
theorem impl_step {k : Nat} {s : ByteArray} {i x : Int} {L : List ByteArray} {t : Int} (h0 : 0 ≤ i) (h4 : i < 4) (z : rd ([1, 2, 4, 8] : List Int) i = x) (q : impl_regNames.f k x = some L) (r : slices_Index_string_string.f k L s = some t) : impl_RegOf.l0 (k + 1) s [1, 2, 4, 8] 4 i = if t ≥ 0 then some (t, x, 0) else impl_RegOf.l0 k s [1, 2, 4, 8] 4 (wrap64 (i + 1)) := by
  rw [impl_RegOf.l0, if_pos h4, if_pos h0, if_pos (by simpa using h4), z, q, Option.bind_some, r, Option.bind_some]
theorem FnExactRegOf : laws_FnExactRegOf.Pure := by
  intro a0 w0
  refine ⟨100, ?_⟩
  unfold laws_FnExactRegOf.f
  by_cases h : (a0.size : Int) > 1048576
  · rw [if_pos h]
  rw [if_neg h]
  suffices h : ∃ s, spec_RegOf.f 100 a0 = some s ∧ impl_RegOf.f 100 a0 = some s by
    obtain ⟨s, h1, h2⟩ := h
    rw [h1, h2, Option.bind_some, Option.bind_some, if_pos rfl, if_pos rfl, if_pos rfl]
  unfold spec_RegOf.f impl_RegOf.f
  by_cases h6 : (a0.size : Int) > 65536
  · rw [if_pos h6, if_pos h6]
    exact ⟨_, rfl, rfl⟩
  rw [if_neg h6, if_neg h6, Option.bind_some]
  obtain ⟨L1, t1, p1, q1, r1, s1⟩ := one_round 99 (by omega) a0 1 (by omega)
  obtain ⟨L2, t2, p2, q2, r2, s2⟩ := one_round 98 (by omega) a0 2 (by omega)
  obtain ⟨L3, t3, p3, q3, r3, s3⟩ := one_round 97 (by omega) a0 4 (by omega)
  obtain ⟨L4, t4, p4, q4, r4, s4⟩ := one_round 96 (by omega) a0 8 (by omega)
  have z1 : rd ([1, 2, 4, 8] : List Int) 0 = 1 := rfl
  have z2 : rd ([1, 2, 4, 8] : List Int) 1 = 2 := rfl
  have z3 : rd ([1, 2, 4, 8] : List Int) 2 = 4 := rfl
  have z4 : rd ([1, 2, 4, 8] : List Int) 3 = 8 := rfl
  have zl : ((([1, 2, 4, 8] : List Int).length : Nat) : Int) = 4 := rfl
  have v1 : wrap64 (2 * 1) = 2 := by unfold wrap64; omega
  have v2 : wrap64 (2 * 2) = 4 := by unfold wrap64; omega
  have v3 : wrap64 (2 * 4) = 8 := by unfold wrap64; omega
  have v4 : wrap64 (2 * 8) = 16 := by unfold wrap64; omega
  have u1 : wrap64 (0 + 1) = 1 := by unfold wrap64; omega
  have u2 : wrap64 (1 + 1) = 2 := by unfold wrap64; omega
  have u3 : wrap64 (2 + 1) = 3 := by unfold wrap64; omega
  have u4 : wrap64 (3 + 1) = 4 := by unfold wrap64; omega
  rw [zl]
  rw [spec_step (k := 99) (by omega) p1 r1, impl_step (k := 99) (i := 0) (by omega) (by omega) z1 q1 s1]
  by_cases g1 : t1 ≥ 0
  · rw [if_pos g1, if_pos g1]
    exact ⟨_, rfl, rfl⟩
  rw [if_neg g1, if_neg g1, v1, u1]
  rw [spec_step (k := 98) (by omega) p2 r2, impl_step (k := 98) (i := 1) (by omega) (by omega) z2 q2 s2]
  by_cases g2 : t2 ≥ 0
  · rw [if_pos g2, if_pos g2]
    exact ⟨_, rfl, rfl⟩
  rw [if_neg g2, if_neg g2, v2, u2]
  rw [spec_step (k := 97) (by omega) p3 r3, impl_step (k := 97) (i := 2) (by omega) (by omega) z3 q3 s3]
  by_cases g3 : t3 ≥ 0
  · rw [if_pos g3, if_pos g3]
    exact ⟨_, rfl, rfl⟩
  rw [if_neg g3, if_neg g3, v3, u3]
  rw [spec_step (k := 96) (by omega) p4 r4, impl_step (k := 96) (i := 3) (by omega) (by omega) z4 q4 s4]
  by_cases g4 : t4 ≥ 0
  · rw [if_pos g4, if_pos g4]
    exact ⟨_, rfl, rfl⟩
  rw [if_neg g4, if_neg g4, v4, u4]
  exact ⟨(0, 0, 3), by rw [spec_RegOf.l0, if_neg (by omega)], by rw [impl_RegOf.l0, if_neg (by omega)]⟩
end Go.Proofs.YtkaffpbclanoeaaDoor.Pure
