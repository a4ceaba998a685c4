/- The program's TakeLittle answers as the reference's at every text and every two numbers. -/
import Derived.Test.YtmnjomglpkbifaaPFnExactTakeLittlex1
import Derived.Test.YtmnjomglpkbifaaNumC
namespace Go.Proofs.Ytmnjomglpkbifaa.Pure
open Go.RowKit Go.Proofs.Ytmnjomglpkbifaa.PFnExactTakeLittle Go.Proofs.YtmnjomglpkbifaaW.PrintWords Go.Proofs.YtmnjomglpkbifaaW.PrintLast Go.Proofs.YtmnjomglpkbifaaW.PrintMore Go.Proofs.Ytmnjomglpkbifaa.Num

theorem size_spec (s : Int) : spec_l01Size.f s = some (decide (Sz s)) := by
  unfold spec_l01Size.f Sz
  by_cases h1 : s = 1 <;> by_cases h2 : s = 2 <;> by_cases h4 : s = 4 <;> by_cases h8 : s = 8 <;> simp_all
theorem size_impl (s : Int) : impl_isSize.f s = some (decide (Sz s)) := size_spec s
theorem within_impl (n l h : Int) : impl_within.f n l h = some (decide (l ≤ n ∧ n ≤ h)) := by
  unfold impl_within.f
  by_cases a : n ≥ l <;> by_cases b : n ≤ h <;> simp [a, b] <;> omega
theorem take_loop (s : ByteArray) (a : Int) (n : Nat) (hn : n ≤ 8) (ha : 0 ≤ a) (hs : a + n ≤ s.size) (hl : s.size ≤ 1048576) : ∀ (j k o : Nat), j ≤ n → j < k → o * 256 ^ j + le s a j = le s a n →
    spec_l01Take.l0 k s a (o : Int) ((j : Int) - 1) = some (wrap64 ((le s a n : Nat) : Int))
  | j, 0, _, _, hk, _ => by omega
  | 0, k + 1, o, _, _, ho => by
    simp only [spec_l01Take.l0]
    rw [if_neg (by omega)]
    simp only [Nat.pow_zero, Nat.mul_one, le, Nat.add_zero] at ho
    rw [ho]
  | j + 1, k + 1, o, hj, hk, ho => by
    simp only [spec_l01Take.l0]
    have hp : 0 < 256 ^ j := Nat.pow_pos (by decide)
    have e : (256 * o + byteAt s (a + j)) * 256 ^ j + le s a j = le s a n := by
      rw [← ho]
      simp only [le, Nat.pow_succ, Nat.add_mul]
      rw [Nat.mul_comm 256 o, Nat.mul_assoc o 256, Nat.mul_comm 256]
      omega
    have hlt := le_lt64 s a hn
    have h1 : 256 * o + byteAt s (a + j) ≤ (256 * o + byteAt s (a + j)) * 256 ^ j := Nat.le_mul_of_pos_right _ hp
    have hb := byteAt_lt s (a + j)
    rw [if_pos (by omega), show ((j + 1 : Nat) : Int) - 1 = (j : Int) by omega, w64_in (n := a + (j : Int)) (by omega) (by omega), if_pos (by omega), if_pos (by omega), byteAt_eq, w64_in (n := (j : Int) - 1) (by omega) (by omega)]
    have eo : IntKind.u64.wrap (IntKind.u64.wrap (256 * (o : Int)) + IntKind.u64.wrap ((byteAt s (a + j) : Nat) : Int)) = ((256 * o + byteAt s (a + j) : Nat) : Int) := by
      rw [u64_in (n := 256 * (o : Int)) (by omega) (by omega), u64_in (n := ((byteAt s (a + j) : Nat) : Int)) (by omega) (by omega), u64_in (by omega) (by omega)]
      omega
    rw [eo]
    exact take_loop s a n hn ha hs hl j k _ (by omega) (by omega) e
theorem take_spec (s : ByteArray) (a z : Int) (hz : Sz z) (ha : 0 ≤ a) (hs : a + z ≤ s.size) (hl : s.size ≤ 1048576) {k : Nat} (hk : 8 < k) : spec_l01Take.f k s a z = some (wrap64 ((le s a z.toNat : Nat) : Int)) := by
  unfold spec_l01Take.f
  have h8 : 1 ≤ z ∧ z ≤ 8 := by rcases hz with rfl | rfl | rfl | rfl <;> omega
  rw [w64_in (by omega) (by omega)]
  have h := take_loop s a z.toNat (by omega) ha (by omega) hl z.toNat k 0 (by omega) (by omega) (by simp)
  rw [show ((z.toNat : Nat) : Int) = z by omega] at h
  exact h
theorem takei_loop (s : ByteArray) (hs : s.size ≤ 8) : ∀ (d k i : Nat), i + d = s.size → d < k →
    impl_take.l0 k s (wrap64 ((le s 0 i : Nat) : Int)) (s.size : Int) (i : Int) = some (wrap64 ((le s 0 s.size : Nat) : Int))
  | d, 0, _, _, hk => by omega
  | 0, k + 1, i, hi, _ => by
    simp only [impl_take.l0]
    obtain rfl : i = s.size := by omega
    rw [if_neg (by omega)]
  | d + 1, k + 1, i, hi, hk => by
    simp only [impl_take.l0]
    rw [if_pos (by omega), if_pos (by omega), if_pos (by omega), w64_in (n := 8 * (i : Int)) (by omega) (by omega), if_pos (by omega), w64_in (n := (i : Int) + 1) (by omega) (by omega), shl_byte s i (by omega), or_nat (le_lt64 s 0 (by omega)) (byte_term_lt s i (by omega)), show ((i : Int)) = 0 + (i : Int) by omega, le_or]
    have h := takei_loop s hs d k (i + 1) (by omega) (by omega)
    rw [show 0 + (i : Int) + 1 = ((i + 1 : Nat) : Int) by omega]
    exact h
theorem take_impl (s : ByteArray) (hs : s.size ≤ 8) {k : Nat} (hk : 8 < k) : impl_take.f k s = some (wrap64 ((le s 0 s.size : Nat) : Int)) := by
  unfold impl_take.f
  have h := takei_loop s hs s.size k 0 (by omega) (by omega)
  rw [show wrap64 ((le s 0 0 : Nat) : Int) = 0 from w64_in (by simp [le]) (by simp [le])] at h
  exact h
theorem both {k : Nat} {s : ByteArray} {a z : Int} {p : Int × Int} (h1 : spec_TakeLittle.f k s a z = some p) (h2 : impl_TakeLittle.f k s a z = some p) : laws_FnExactTakeLittle.f k s a z = some true := by
  unfold laws_FnExactTakeLittle.f
  rw [h1, h2]
  by_cases h : (s.size : Int) > 1048576
  · rw [if_pos h]
  · rw [if_neg h]
    simp only [Option.bind_some, if_true]
theorem FnExactTakeLittle : laws_FnExactTakeLittle.Pure := by
  intro s a z _ ha _
  have ha := wf_i64 ha
  refine ⟨9, ?_⟩
  by_cases h : (s.size : Int) > 65536
  · exact both (p := (0, 2)) (by unfold spec_TakeLittle.f; rw [if_pos h]) (by unfold impl_TakeLittle.f; rw [if_pos h])
  by_cases hz : Sz z
  · have h8 : 1 ≤ z ∧ z ≤ 8 := by rcases hz with rfl | rfl | rfl | rfl <;> omega
    by_cases h2 : 0 ≤ a ∧ a + z ≤ s.size
    · refine both (p := (wrap64 ((le s a z.toNat : Nat) : Int), 0)) ?_ ?_
      · unfold spec_TakeLittle.f
        rw [if_neg h, size_spec]
        simp only [hz, decide_true, Option.bind_some, if_true]
        rw [if_neg (by omega), if_neg (by omega), w64_in (by omega) (by omega), if_neg (by omega), take_spec s a z hz h2.1 h2.2 (by omega) (by omega)]
        rfl
      · unfold impl_TakeLittle.f
        rw [if_neg h, size_impl, within_impl]
        simp only [hz, decide_true, Option.bind_some, if_true]
        rw [w64_in (n := (s.size : Int) - z) (by omega) (by omega), w64_in (n := a + z) (by omega) (by omega)]
        rw [if_pos (by simp; omega), if_pos (by omega), if_pos (by omega), if_pos (by omega)]
        have hsz : (s.extract a.toNat (a + z).toNat).size = z.toNat := by simp; omega
        rw [take_impl _ (by omega) (by omega), hsz]
        have e : le (s.extract a.toNat (a + z).toNat) 0 z.toNat = le s a z.toNat := le_congr _ fun i hi => by
          rw [byteAt_extract (by omega) (by omega), show ((a.toNat : Nat) : Int) = a by omega]
        rw [e]
        rfl
    · refine both (p := (0, 9)) ?_ ?_
      · unfold spec_TakeLittle.f
        rw [if_neg h, size_spec]
        simp only [hz, decide_true, Option.bind_some, if_true]
        by_cases h3 : a < 0
        · rw [if_pos h3]
        · by_cases h4 : a > (s.size : Int)
          · rw [if_neg h3, if_pos h4]
          · rw [if_neg h3, if_neg h4, w64_in (by omega) (by omega), if_pos (by omega)]
      · unfold impl_TakeLittle.f
        rw [if_neg h, size_impl, within_impl]
        simp only [hz, decide_true, Option.bind_some, if_true]
        rw [w64_in (n := (s.size : Int) - z) (by omega) (by omega), if_neg (by simp; omega)]
  · refine both (p := (0, 4)) ?_ ?_
    · unfold spec_TakeLittle.f
      rw [if_neg h, size_spec]
      simp [hz]
    · unfold impl_TakeLittle.f
      rw [if_neg h, size_impl]
      simp [hz]

end Go.Proofs.Ytmnjomglpkbifaa.Pure
