/- The program's NameOK answers as the reference's at every text. -/
import Derived.Test.YtcnfgacnjjgjeaaPFnExactNameOKx1
namespace Go.Proofs.Ytcnfgacnjjgjeaa.Pure
open Go.RowKit Go.Proofs.Ytcnfgacnjjgjeaa.PFnExactNameOK Go.Proofs.YtcnfgacnjjgjeaaW.PrintWords Go.Proofs.YtcnfgacnjjgjeaaW.PrintLast Go.Proofs.YtcnfgacnjjgjeaaW.PrintMore

theorem letter_some (c : Int) : ∃ b, spec_l00Letter.f c = some b := by
  unfold spec_l00Letter.f
  by_cases h1 : c ≥ 97 <;> by_cases h2 : c ≤ 122 <;> by_cases h3 : c ≥ 65 <;> by_cases h4 : c ≤ 90 <;> simp [h1, h2, h3, h4]
theorem digit_some (c : Int) : ∃ b, spec_l00Digit.f c = some b := by unfold spec_l00Digit.f; split <;> exact ⟨_, rfl⟩
theorem letter_same (c : Int) : impl_isLetter.f c = spec_l00Letter.f c := rfl
theorem digit_same (c : Int) : impl_isDigit.f c = spec_l00Digit.f c := rfl
theorem rest_tells (x : ByteArray) (hx : x.size ≤ 1048576) : ∀ (k : Nat) (i : Int), 1 ≤ i → i ≤ x.size → (x.size : Int) - i < k →
    ∃ b, spec_l00Word.l0 k x i = some b ∧ impl_NameOK.l0 k x (x.size : Int) i = some (b && decide ((x.size : Int) ≤ 20))
  | 0, i, h0, h1, hk => by omega
  | k + 1, i, h0, h1, hk => by
    simp only [spec_l00Word.l0, impl_NameOK.l0]
    by_cases hlt : i < (x.size : Int)
    · rw [if_pos hlt, if_pos hlt, if_pos (by omega), if_pos (by omega), if_pos hlt, letter_same, digit_same]
      obtain ⟨b, hb⟩ := letter_some (bt x i)
      obtain ⟨c, hc⟩ := digit_some (bt x i)
      obtain ⟨r, h2, h3⟩ := rest_tells x hx k (i + 1) (by omega) (by omega) (by omega)
      have hw : wrap64 (i + 1) = i + 1 := by unfold wrap64; omega
      rw [hb, hc, hw]
      have hn : ¬ i = 0 := by omega
      cases b <;> cases c <;> simp [h2, h3, hn]
    · rw [if_neg hlt, if_neg hlt]
      refine ⟨true, rfl, ?_⟩
      unfold impl_within.f
      rw [if_pos (by omega)]
      simp
theorem FnExactNameOK : laws_FnExactNameOK.Pure := by
  intro x _
  refine ⟨x.size + 3, ?_⟩
  unfold laws_FnExactNameOK.f
  by_cases hb : (x.size : Int) > 1048576
  · rw [if_pos hb]
  · rw [if_neg hb]
    have e : ∃ b, spec_NameOK.f (x.size + 3) x = some b ∧ impl_NameOK.f (x.size + 3) x = some b := by
      unfold spec_NameOK.f impl_NameOK.f spec_l00Word.f
      by_cases h1 : (x.size : Int) < 1
      · rw [if_pos h1]
        refine ⟨false, by simp [spec_l00Word.j0], ?_⟩
        simp only [impl_NameOK.l0]
        rw [if_neg (by omega)]
        unfold impl_within.f
        rw [if_neg (by omega)]
        rfl
      · rw [if_neg h1]
        obtain ⟨r, h2, h3⟩ := rest_tells x (by omega) (x.size + 2) 1 (by omega) (by omega) (by omega)
        obtain ⟨b, hl⟩ := letter_some (bt x 0)
        have hi : impl_NameOK.l0 (x.size + 3) x (x.size : Int) 0 = some (b && r && decide ((x.size : Int) ≤ 20)) := by
          obtain ⟨m, hm⟩ : ∃ m, m = x.size + 2 := ⟨_, rfl⟩
          rw [← hm] at h3
          rw [show x.size + 3 = m + 1 by omega, impl_NameOK.l0]
          rw [if_pos (by omega), if_pos (by omega), if_pos (by omega), letter_same, hl, show wrap64 (0 + 1) = 1 by unfold wrap64; omega, h3]
          cases b <;> simp
        rw [hi]
        by_cases h4 : (x.size : Int) > 20
        · rw [if_pos h4]
          refine ⟨false, by simp [spec_l00Word.j0], ?_⟩
          have : ¬ (x.size : Int) ≤ 20 := by omega
          simp [this]
        · rw [if_neg h4, if_pos (by omega), hl]
          have h5 : (x.size : Int) ≤ 20 := by omega
          have h6 : spec_l00Word.l0 (x.size + 1 + 1) x 1 = some r := h2
          refine ⟨b && r, ?_, by simp [h5]⟩
          cases b
          · simp [spec_l00Word.j0]
          · simp only [Option.bind_some, Bool.not_true, spec_l00Word.j0, Bool.false_eq_true, if_false, h6, Bool.true_and]
    obtain ⟨b, h1, h2⟩ := e
    rw [h1, h2]
    simp

end Go.Proofs.Ytcnfgacnjjgjeaa.Pure
