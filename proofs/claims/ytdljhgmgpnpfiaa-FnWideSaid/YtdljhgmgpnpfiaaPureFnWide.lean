/- The wide law's numbers. -/
import Derived.Test.YtdljhgmgpnpfiaaPFnWidex4
import Derived.Test.YtdljhgmgpnpfiaaNumH
namespace Go.Proofs.Ytdljhgmgpnpfiaa.Pure
open Go.RowKit Go.Proofs.Ytdljhgmgpnpfiaa.PFnWide Go.Proofs.YtdljhgmgpnpfiaaW.PrintWords Go.Proofs.YtdljhgmgpnpfiaaW.PrintLast Go.Proofs.YtdljhgmgpnpfiaaW.PrintMore Go.Proofs.Ytdljhgmgpnpfiaa.Num
set_option linter.unusedVariables false
set_option linter.unusedSimpArgs false

theorem rd_byte {l : List Int} (hl : ∀ x ∈ l, (Lit.int .u8 x).wf = true) (i : Int) : 0 ≤ rd l i ∧ rd l i ≤ 255 := by
  unfold rd
  rw [List.getD_eq_getElem?_getD]
  cases h : l[i.toNat]? with
  | none => simp
  | some x =>
    have h2 := hl x (List.mem_of_getElem? h)
    simp [Lit.wf, IntKind.min, IntKind.max, IntKind.bits, IntKind.signed] at h2
    simp only [Option.getD_some]
    omega
theorem tmod_pos {a : Int} (b : Int) (h : 0 ≤ a) : Int.tmod a b = a % b := Int.tmod_eq_emod_of_nonneg h
theorem src_one (q r : Int) (h0 : 0 ≤ q) (h1 : q < 2147483648) (r0 : 0 ≤ r) (r1 : r ≤ 255) : 0 ≤ Int.tmod (wrap64 (wrap64 (wrap64 (q * 31) + r) + 7)) 2147483648 ∧ Int.tmod (wrap64 (wrap64 (wrap64 (q * 31) + r) + 7)) 2147483648 < 2147483648 := by
  rw [w64_in (n := q * 31) (by omega) (by omega), w64_in (n := q * 31 + r) (by omega) (by omega), w64_in (by omega) (by omega), tmod_pos _ (by omega)]
  omega
theorem src_two (q : Int) (h0 : 0 ≤ q) (h1 : q < 2147483648) : 0 ≤ Int.tmod (wrap64 (wrap64 (q * 1103515245) + 12345)) 2147483648 ∧ Int.tmod (wrap64 (wrap64 (q * 1103515245) + 12345)) 2147483648 < 2147483648 := by
  rw [w64_in (n := q * 1103515245) (by omega) (by omega), w64_in (by omega) (by omega), tmod_pos _ (by omega)]
  omega
theorem src_three (q : Int) (h0 : 0 ≤ q) (h1 : q < 2147483648) : 0 ≤ Int.tmod (wrap64 (Int.tdiv q 65536)) 256 ∧ Int.tmod (wrap64 (Int.tdiv q 65536)) 256 ≤ 255 := by
  rw [Int.tdiv_eq_ediv_of_nonneg h0, w64_in (by omega) (by omega), tmod_pos _ (by omega)]
  omega
theorem byte_tells {l : List Int} (hl : ∀ x ∈ l, (Lit.int .u8 x).wf = true) {p q : Int} (p0 : 0 ≤ p) (p1 : p ≤ 1000) (q0 : 0 ≤ q) (q1 : q < 2147483648) :
    ∃ v q', spec_l00Src_byte.f l p q = some (v, p + 1, q') ∧ 0 ≤ v ∧ v ≤ 255 ∧ 0 ≤ q' ∧ q' < 2147483648 := by
  unfold spec_l00Src_byte.f
  have r := rd_byte hl p
  have t2 := src_two q q0 q1
  have t3 := src_three _ t2.1 t2.2
  rw [w64_in (n := p + 1) (by omega) (by omega), w64_in (n := p + 1 - 1) (by omega) (by omega), show p + 1 - 1 = p by omega, w64_in (n := rd l p) (by omega) (by omega)]
  have t1 := src_one q (rd l p) q0 q1 r.1 r.2
  by_cases h : p + 1 ≤ (l.length : Int)
  · rw [if_pos h, if_pos p0, if_pos (by omega)]
    exact ⟨_, _, rfl, r.1, r.2, t1.1, t1.2⟩
  · rw [if_neg h, if_neg (by omega)]
    exact ⟨_, _, rfl, t3.1, t3.2, t2.1, t2.2⟩
theorem next_tells {l : List Int} (hl : ∀ x ∈ l, (Lit.int .u8 x).wf = true) {p q : Int} (p0 : 0 ≤ p) (p1 : p ≤ 900) (q0 : 0 ≤ q) (q1 : q < 2147483648) {n : Int} (n1 : 1 < n) (n2 : n ≤ 2147483648) :
    ∃ v p' q', spec_l00Src_next.f l p q n = some (v, p', q') ∧ 0 ≤ v ∧ v < n ∧ p ≤ p' ∧ p' ≤ p + 3 ∧ 0 ≤ q' ∧ q' < 2147483648 := by
  unfold spec_l00Src_next.f
  rw [if_neg (by omega)]
  obtain ⟨v1, s1, e1, a1, b1, c1, d1⟩ := byte_tells hl p0 (by omega) q0 q1
  obtain ⟨v2, s2, e2, a2, b2, c2, d2⟩ := byte_tells hl (p := p + 1) (by omega) (by omega) c1 d1
  obtain ⟨v3, s3, e3, a3, b3, c3, d3⟩ := byte_tells hl (p := p + 1 + 1) (by omega) (by omega) c2 d2
  simp only [e1, e2, e3, Option.bind_some]
  by_cases h : n ≤ 256
  · rw [if_pos h, if_neg (by omega)]
    refine ⟨_, _, _, rfl, ?_, ?_, by omega, by omega, c1, d1⟩
    · rw [tmod_pos _ a1]; exact Int.emod_nonneg _ (by omega)
    · rw [tmod_pos _ a1]; exact Int.emod_lt_of_pos _ (by omega)
  · rw [if_neg h, if_neg (by omega), w64_in (n := v1 * 65536) (by omega) (by omega), w64_in (n := v2 * 256) (by omega) (by omega), w64_in (n := v1 * 65536 + v2 * 256) (by omega) (by omega), w64_in (by omega) (by omega)]
    refine ⟨_, _, _, rfl, ?_, ?_, by omega, by omega, c3, d3⟩
    · rw [tmod_pos _ (by omega)]; exact Int.emod_nonneg _ (by omega)
    · rw [tmod_pos _ (by omega)]; exact Int.emod_lt_of_pos _ (by omega)
theorem word_tells {l : List Int} (hl : ∀ x ∈ l, (Lit.int .u8 x).wf = true) {p q : Int} (p0 : 0 ≤ p) (p1 : p ≤ 900) (q0 : 0 ≤ q) (q1 : q < 2147483648) :
    ∃ v p' q', spec_l00Src_word.f l p q = some (v, p', q') ∧ 0 ≤ v ∧ v ≤ 4294967295 ∧ p ≤ p' ∧ p' ≤ p + 4 ∧ 0 ≤ q' ∧ q' < 2147483648 := by
  unfold spec_l00Src_word.f
  obtain ⟨v1, s1, e1, a1, b1, c1, d1⟩ := byte_tells hl p0 (by omega) q0 q1
  obtain ⟨v2, s2, e2, a2, b2, c2, d2⟩ := byte_tells hl (p := p + 1) (by omega) (by omega) c1 d1
  obtain ⟨v3, s3, e3, a3, b3, c3, d3⟩ := byte_tells hl (p := p + 1 + 1) (by omega) (by omega) c2 d2
  obtain ⟨v4, s4, e4, a4, b4, c4, d4⟩ := byte_tells hl (p := p + 1 + 1 + 1) (by omega) (by omega) c3 d3
  simp only [e1, e2, e3, e4, Option.bind_some]
  refine ⟨_, _, _, rfl, ?_, ?_, by omega, by omega, c4, d4⟩ <;> unfold wrap64 <;> omega
theorem wide_tells {l : List Int} (hl : ∀ x ∈ l, (Lit.int .u8 x).wf = true) {p q : Int} (p0 : 0 ≤ p) (p1 : p ≤ 800) (q0 : 0 ≤ q) (q1 : q < 2147483648) :
    ∃ v p' q', spec_l00Src_wide.f l p q = some (v, p', q') ∧ -9223372036854775808 ≤ v ∧ v ≤ 9223372036854775807 ∧ p ≤ p' ∧ p' ≤ p + 12 ∧ 0 ≤ q' ∧ q' < 2147483648 := by
  unfold spec_l00Src_wide.f
  obtain ⟨v1, r1, s1, e1, a1, b1, x1, y1, c1, d1⟩ := next_tells hl p0 (by omega) q0 q1 (n := 8) (by omega) (by omega)
  simp only [e1, Option.bind_some]
  by_cases h0 : v1 = 0
  · rw [if_pos h0]
    obtain ⟨v2, r2, s2, e2, a2, b2, x2, y2, c2, d2⟩ := word_tells hl (p := r1) (by omega) (by omega) c1 d1
    obtain ⟨v3, r3, s3, e3, a3, b3, x3, y3, c3, d3⟩ := word_tells hl (p := r2) (by omega) (by omega) c2 d2
    simp only [e2, e3, Option.bind_some]
    exact ⟨_, _, _, rfl, (and_range _ _ _).1, (and_range _ _ _).2, by omega, by omega, c3, d3⟩
  rw [if_neg h0]
  by_cases h1 : v1 = 1
  · rw [if_pos h1]
    obtain ⟨v2, r2, s2, e2, a2, b2, x2, y2, c2, d2⟩ := next_tells hl (p := r1) (by omega) (by omega) c1 d1 (n := 15) (by omega) (by omega)
    unfold spec_l00Src_odd.f
    simp only [e2, Option.bind_some]
    rw [if_pos a2, if_pos (by simp; omega)]
    simp only [Option.bind_some]
    refine ⟨_, _, _, rfl, ?_, ?_, by omega, by omega, c2, d2⟩
    · have : ∀ i : Fin 15, -9223372036854775808 ≤ rd [0, (-1), 1, 2, 31, 32, 33, 255, 256, 4095, 4096, 16384, 9223372036854775807, (-9223372036854775808), 30] (i.val : Int) := by decide +kernel
      have t := this ⟨v2.toNat, by omega⟩
      simp only [show ((v2.toNat : Nat) : Int) = v2 by omega] at t
      exact t
    · have : ∀ i : Fin 15, rd [0, (-1), 1, 2, 31, 32, 33, 255, 256, 4095, 4096, 16384, 9223372036854775807, (-9223372036854775808), 30] (i.val : Int) ≤ 9223372036854775807 := by decide +kernel
      have t := this ⟨v2.toNat, by omega⟩
      simp only [show ((v2.toNat : Nat) : Int) = v2 by omega] at t
      exact t
  rw [if_neg h1]
  obtain ⟨v2, r2, s2, e2, a2, b2, x2, y2, c2, d2⟩ := next_tells hl (p := r1) (by omega) (by omega) c1 d1 (n := 300) (by omega) (by omega)
  by_cases h2 : v1 = 2
  · rw [if_pos h2]
    simp only [e2, Option.bind_some]
    exact ⟨_, _, _, rfl, (w64_range _).1, (w64_range _).2, by omega, by omega, c2, d2⟩
  rw [if_neg h2]
  by_cases h3 : v1 = 3
  · rw [if_pos h3]
    obtain ⟨v2, r2, s2, e2, a2, b2, x2, y2, c2, d2⟩ := word_tells hl (p := r1) (by omega) (by omega) c1 d1
    simp only [e2, Option.bind_some]
    exact ⟨_, _, _, rfl, (w64_range _).1, (w64_range _).2, by omega, by omega, c2, d2⟩
  rw [if_neg h3]
  by_cases h4 : v1 = 4
  · rw [if_pos h4]
    obtain ⟨v2, r2, s2, e2, a2, b2, x2, y2, c2, d2⟩ := next_tells hl (p := r1) (by omega) (by omega) c1 d1 (n := 64) (by omega) (by omega)
    simp only [e2, Option.bind_some]
    rw [if_pos (by rw [u64_in (by omega) (by omega)]; omega)]
    refine ⟨_, _, _, rfl, ?_, ?_, by omega, by omega, c2, d2⟩ <;> unfold shl <;> rw [i64_wrap]
    · exact (w64_range _).1
    · exact (w64_range _).2
  rw [if_neg h4]
  by_cases h5 : v1 = 5
  · rw [if_pos h5]
    obtain ⟨v2, r2, s2, e2, a2, b2, x2, y2, c2, d2⟩ := next_tells hl (p := r1) (by omega) (by omega) c1 d1 (n := 63) (by omega) (by omega)
    simp only [e2, Option.bind_some]
    rw [if_pos (by rw [u64_in (by omega) (by omega)]; omega)]
    exact ⟨_, _, _, rfl, (w64_range _).1, (w64_range _).2, by omega, by omega, c2, d2⟩
  rw [if_neg h5]
  simp only [e2, Option.bind_some]
  exact ⟨_, _, _, rfl, by omega, by omega, by omega, by omega, c2, d2⟩
theorem number_tells {l : List Int} (hl : ∀ x ∈ l, (Lit.int .u8 x).wf = true) : ∃ v, spec_NumberOf.f l = some v ∧ -9223372036854775808 ≤ v ∧ v ≤ 9223372036854775807 := by
  unfold spec_NumberOf.f spec_l00Source.f
  obtain ⟨v, p', q', e, a, b, _⟩ := wide_tells hl (p := 0) (q := (l.length : Int) % 1000) (by omega) (by omega) (by omega) (by omega)
  simp only [e, Option.bind_some]
  exact ⟨_, rfl, a, b⟩
theorem at_tells {l : List Int} (hl : ∀ x ∈ l, (Lit.int .u8 x).wf = true) (hlen : l.length ≤ 140737488351232) (i : Int) (i0 : 0 ≤ i) (i1 : i ≤ 1000) {n : Int} (n1 : 1 < n) (n2 : n ≤ 2147483648) : ∃ v, laws_at.f l i n = some v ∧ 0 ≤ v ∧ v < n := by
  unfold laws_at.f
  rw [if_neg (by omega)]
  by_cases h : (l.length : Int) = 0
  · rw [if_pos h, if_neg (by omega), w64_in (by omega) (by omega), tmod_pos _ (by omega)]
    exact ⟨_, rfl, Int.emod_nonneg _ (by omega), Int.emod_lt_of_pos _ (by omega)⟩
  · have r1 := rd_byte hl (i % (l.length : Int))
    have r2 := rd_byte hl ((i + 1) % (l.length : Int))
    have m1 := Int.emod_nonneg i h
    have m2 := Int.emod_lt_of_pos i (b := (l.length : Int)) (by omega)
    have m3 := Int.emod_nonneg (i + 1) h
    have m4 := Int.emod_lt_of_pos (i + 1) (b := (l.length : Int)) (by omega)
    have d0 : 0 ≤ i / (l.length : Int) := Int.ediv_nonneg i0 (by omega)
    have d1 : i / (l.length : Int) ≤ i := Int.ediv_le_self _ i0
    rw [if_neg h, w64_in (n := i + 1) (by omega) (by omega), tmod_pos _ i0, tmod_pos (a := i + 1) _ (by omega), Int.tdiv_eq_ediv_of_nonneg i0, if_pos m1, if_pos m2, if_pos m3, if_pos m4, if_neg (by omega)]
    generalize rd l (i % (l.length : Int)) = a at *
    generalize rd l ((i + 1) % (l.length : Int)) = b at *
    generalize i / (l.length : Int) = d at *
    clear m1 m2 m3 m4
    rw [w64_in (n := a) (by omega) (by omega), w64_in (n := b) (by omega) (by omega), w64_in (n := d) (by omega) (by omega), w64_in (n := a * 31) (by omega) (by omega), w64_in (n := a * 31 + b) (by omega) (by omega), w64_in (by omega) (by omega), tmod_pos _ (by omega)]
    exact ⟨_, rfl, Int.emod_nonneg _ (by omega), Int.emod_lt_of_pos _ (by omega)⟩
theorem wide_loop {a b : Nat} (ha : a < 18446744073709551616) (hb : b < 18446744073709551616) : ∀ (j k h l : Nat), j ≤ 64 → j < k → l < 18446744073709551616 → 18446744073709551616 * h + l = a * (b / 2 ^ j) →
    spec_l01Wide.l0 k (a : Int) (b : Int) (h : Int) (l : Int) ((j : Int) - 1) = some (((a * b / 18446744073709551616 : Nat) : Int), ((a * b % 18446744073709551616 : Nat) : Int))
  | j, 0, _, _, _, hk, _, _ => by omega
  | 0, k + 1, h, l, _, _, hl, hp => by
    simp only [spec_l01Wide.l0]
    rw [if_neg (by omega)]
    simp only [Nat.pow_zero, Nat.div_one] at hp
    rw [show a * b / 18446744073709551616 = h by omega, show a * b % 18446744073709551616 = l by omega]
  | j + 1, k + 1, h, l, hj, hk, hl, hp => by
    simp only [spec_l01Wide.l0]
    obtain ⟨s0, s1, s2⟩ := wide_step ha hb hp hl
    have hi : IntKind.u64.wrap ((j : Int)) = (j : Int) := u64_in (by omega) (by omega)
    have e : Int.tmod ((b / 2 ^ j : Nat) : Int) 2 = ((b / 2 ^ j % 2 : Nat) : Int) := by rw [Int.tmod_eq_emod_of_nonneg (Int.natCast_nonneg _)]; rfl
    have hs : shr .u64 (b : Int) (j : Int) = ((b / 2 ^ j : Nat) : Int) := by rw [shr_u64 _ _ (by omega) (by omega) (by omega)]; simp
    rw [if_pos (by omega), show ((j + 1 : Nat) : Int) - 1 = (j : Int) by omega, hi, if_pos (by omega), hs, e, show wrap64 ((j : Int) - 1) = (j : Int) - 1 from w64_in (by omega) (by omega)]
    have hm : IntKind.u64.wrap ((l : Int) * 2) = ((l * 2 % 18446744073709551616 : Nat) : Int) := by rw [IntKind.wrap_u64]; omega
    rw [hm]
    rcases Nat.mod_two_eq_zero_or_one (b / 2 ^ j) with h0 | h0
    · have s := s0 h0
      rw [h0, if_neg (by omega)]
      have hh : IntKind.u64.wrap (IntKind.u64.wrap ((h : Int) * 2) + (l : Int) / 9223372036854775808) = ((h * 2 + l / 9223372036854775808 : Nat) : Int) := by
        rw [u64_in (n := (h : Int) * 2) (by omega) (by omega), u64_in (by omega) (by omega)]; omega
      rw [hh]
      exact wide_loop ha hb j k _ _ (by omega) (by omega) (by omega) s
    · have s := s1 h0
      rw [h0, if_pos (by omega)]
      have hh : IntKind.u64.wrap (IntKind.u64.wrap ((h : Int) * 2) + (l : Int) / 9223372036854775808) = ((h * 2 + l / 9223372036854775808 : Nat) : Int) := by
        rw [u64_in (n := (h : Int) * 2) (by omega) (by omega), u64_in (by omega) (by omega)]; omega
      have ha2 : IntKind.u64.wrap (((l * 2 % 18446744073709551616 : Nat) : Int) + (a : Int)) = (((l * 2 % 18446744073709551616 + a) % 18446744073709551616 : Nat) : Int) := by rw [IntKind.wrap_u64]; omega
      rw [hh, ha2]
      by_cases c : (((l * 2 % 18446744073709551616 + a) % 18446744073709551616 : Nat) : Int) < ((l * 2 % 18446744073709551616 : Nat) : Int)
      · rw [if_pos c]
        have hc : IntKind.u64.wrap (((h * 2 + l / 9223372036854775808 : Nat) : Int) + 1) = ((h * 2 + l / 9223372036854775808 + 1 : Nat) : Int) := by rw [u64_in (by omega) (by omega)]; omega
        rw [hc]
        exact wide_loop ha hb j k _ _ (by omega) (by omega) (by omega) (by omega)
      · rw [if_neg c]
        exact wide_loop ha hb j k _ _ (by omega) (by omega) (by omega) (by omega)
theorem wide_spec {a b : Nat} (ha : a < 18446744073709551616) (hb : b < 18446744073709551616) {k : Nat} (hk : 64 < k) :
    spec_l01Wide.f k (a : Int) (b : Int) = some (((a * b / 18446744073709551616 : Nat) : Int), ((a * b % 18446744073709551616 : Nat) : Int)) := by
  unfold spec_l01Wide.f
  refine wide_loop ha hb 64 k 0 0 (by omega) hk (by omega) ?_
  rw [Nat.div_eq_of_lt (by omega)]; rfl
theorem mul64_tells {a b : Nat} (ha : a < 18446744073709551616) (hb : b < 18446744073709551616) :
    bits_Mul64.f (a : Int) (b : Int) = some (((a * b / 18446744073709551616 : Nat) : Int), ((a * b % 18446744073709551616 : Nat) : Int)) := by
  unfold bits_Mul64.f
  rw [and_u64 _ (by omega) (by omega), and_u64 _ (by omega) (by omega)]
  have e := mul_parts a b
  have b1 : a / 4294967296 * (b / 4294967296) ≤ 4294967295 * 4294967295 := Nat.mul_le_mul (by omega) (by omega)
  have b2 : a / 4294967296 * (b % 4294967296) ≤ 4294967295 * 4294967295 := Nat.mul_le_mul (by omega) (by omega)
  have b3 : a % 4294967296 * (b / 4294967296) ≤ 4294967295 * 4294967295 := Nat.mul_le_mul (by omega) (by omega)
  have b4 : a % 4294967296 * (b % 4294967296) ≤ 4294967295 * 4294967295 := Nat.mul_le_mul (by omega) (by omega)
  have c1 : ((a : Int) / 4294967296) * ((b : Int) / 4294967296) = ((a / 4294967296 * (b / 4294967296) : Nat) : Int) := by simp
  have c2 : ((a : Int) / 4294967296) * ((b : Int) % 4294967296) = ((a / 4294967296 * (b % 4294967296) : Nat) : Int) := by simp
  have c3 : ((a : Int) % 4294967296) * ((b : Int) / 4294967296) = ((a % 4294967296 * (b / 4294967296) : Nat) : Int) := by simp
  have c4 : ((a : Int) % 4294967296) * ((b : Int) % 4294967296) = ((a % 4294967296 * (b % 4294967296) : Nat) : Int) := by simp
  have c5 : (a : Int) * (b : Int) = ((a * b : Nat) : Int) := by simp
  rw [c1, c2, c3, c4, c5]
  generalize a * b = p at *
  generalize a / 4294967296 * (b / 4294967296) = p1 at *
  generalize a / 4294967296 * (b % 4294967296) = p2 at *
  generalize a % 4294967296 * (b / 4294967296) = p3 at *
  generalize a % 4294967296 * (b % 4294967296) = p4 at *
  rw [u64_in (n := (p4 : Int)) (by omega) (by omega), u64_in (n := (p2 : Int)) (by omega) (by omega), u64_in (n := (p1 : Int)) (by omega) (by omega), u64_in (n := (p3 : Int)) (by omega) (by omega)]
  rw [u64_in (n := (p2 : Int) + (p4 : Int) / 4294967296) (by omega) (by omega), and_u64 _ (by omega) (by omega)]
  rw [u64_in (n := (p1 : Int) + _) (by omega) (by omega), u64_in (n := _ + (p3 : Int)) (by omega) (by omega), u64_in (n := (p1 : Int) + _ + _) (by omega) (by omega), IntKind.wrap_u64]
  congr 2 <;> omega
theorem len8 : ∀ b : Fin 256, 0 < b.val → ∃ t : Nat, bt (⟨#[0, 1, 2, 2, 3, 3, 3, 3, 4, 4, 4, 4, 4, 4, 4, 4, 5, 5, 5, 5, 5, 5, 5, 5, 5, 5, 5, 5, 5, 5, 5, 5, 6, 6, 6, 6, 6, 6, 6, 6, 6, 6, 6, 6, 6, 6, 6, 6, 6, 6, 6, 6, 6, 6, 6, 6, 6, 6, 6, 6, 6, 6, 6, 6, 7, 7, 7, 7, 7, 7, 7, 7, 7, 7, 7, 7, 7, 7, 7, 7, 7, 7, 7, 7, 7, 7, 7, 7, 7, 7, 7, 7, 7, 7, 7, 7, 7, 7, 7, 7, 7, 7, 7, 7, 7, 7, 7, 7, 7, 7, 7, 7, 7, 7, 7, 7, 7, 7, 7, 7, 7, 7, 7, 7, 7, 7, 7, 7, 8, 8, 8, 8, 8, 8, 8, 8, 8, 8, 8, 8, 8, 8, 8, 8, 8, 8, 8, 8, 8, 8, 8, 8, 8, 8, 8, 8, 8, 8, 8, 8, 8, 8, 8, 8, 8, 8, 8, 8, 8, 8, 8, 8, 8, 8, 8, 8, 8, 8, 8, 8, 8, 8, 8, 8, 8, 8, 8, 8, 8, 8, 8, 8, 8, 8, 8, 8, 8, 8, 8, 8, 8, 8, 8, 8, 8, 8, 8, 8, 8, 8, 8, 8, 8, 8, 8, 8, 8, 8, 8, 8, 8, 8, 8, 8, 8, 8, 8, 8, 8, 8, 8, 8, 8, 8, 8, 8, 8, 8, 8, 8, 8, 8, 8, 8, 8, 8, 8, 8, 8, 8, 8, 8, 8, 8, 8, 8]⟩ : ByteArray) (b.val : Int) = (t : Int) ∧ 1 ≤ t ∧ t ≤ 8 ∧ 2 ^ (t - 1) ≤ b.val ∧ b.val < 2 ^ t := by
  intro b hb
  have h : ∀ b : Fin 256, 0 < b.val → (let t := (bt (⟨#[0, 1, 2, 2, 3, 3, 3, 3, 4, 4, 4, 4, 4, 4, 4, 4, 5, 5, 5, 5, 5, 5, 5, 5, 5, 5, 5, 5, 5, 5, 5, 5, 6, 6, 6, 6, 6, 6, 6, 6, 6, 6, 6, 6, 6, 6, 6, 6, 6, 6, 6, 6, 6, 6, 6, 6, 6, 6, 6, 6, 6, 6, 6, 6, 7, 7, 7, 7, 7, 7, 7, 7, 7, 7, 7, 7, 7, 7, 7, 7, 7, 7, 7, 7, 7, 7, 7, 7, 7, 7, 7, 7, 7, 7, 7, 7, 7, 7, 7, 7, 7, 7, 7, 7, 7, 7, 7, 7, 7, 7, 7, 7, 7, 7, 7, 7, 7, 7, 7, 7, 7, 7, 7, 7, 7, 7, 7, 7, 8, 8, 8, 8, 8, 8, 8, 8, 8, 8, 8, 8, 8, 8, 8, 8, 8, 8, 8, 8, 8, 8, 8, 8, 8, 8, 8, 8, 8, 8, 8, 8, 8, 8, 8, 8, 8, 8, 8, 8, 8, 8, 8, 8, 8, 8, 8, 8, 8, 8, 8, 8, 8, 8, 8, 8, 8, 8, 8, 8, 8, 8, 8, 8, 8, 8, 8, 8, 8, 8, 8, 8, 8, 8, 8, 8, 8, 8, 8, 8, 8, 8, 8, 8, 8, 8, 8, 8, 8, 8, 8, 8, 8, 8, 8, 8, 8, 8, 8, 8, 8, 8, 8, 8, 8, 8, 8, 8, 8, 8, 8, 8, 8, 8, 8, 8, 8, 8, 8, 8, 8, 8, 8, 8, 8, 8, 8, 8]⟩ : ByteArray) (b.val : Int)).toNat; 1 ≤ t ∧ t ≤ 8 ∧ 2 ^ (t - 1) ≤ b.val ∧ b.val < 2 ^ t) := by decide +kernel
  exact ⟨_, by have := bt_range (⟨#[0, 1, 2, 2, 3, 3, 3, 3, 4, 4, 4, 4, 4, 4, 4, 4, 5, 5, 5, 5, 5, 5, 5, 5, 5, 5, 5, 5, 5, 5, 5, 5, 6, 6, 6, 6, 6, 6, 6, 6, 6, 6, 6, 6, 6, 6, 6, 6, 6, 6, 6, 6, 6, 6, 6, 6, 6, 6, 6, 6, 6, 6, 6, 6, 7, 7, 7, 7, 7, 7, 7, 7, 7, 7, 7, 7, 7, 7, 7, 7, 7, 7, 7, 7, 7, 7, 7, 7, 7, 7, 7, 7, 7, 7, 7, 7, 7, 7, 7, 7, 7, 7, 7, 7, 7, 7, 7, 7, 7, 7, 7, 7, 7, 7, 7, 7, 7, 7, 7, 7, 7, 7, 7, 7, 7, 7, 7, 7, 8, 8, 8, 8, 8, 8, 8, 8, 8, 8, 8, 8, 8, 8, 8, 8, 8, 8, 8, 8, 8, 8, 8, 8, 8, 8, 8, 8, 8, 8, 8, 8, 8, 8, 8, 8, 8, 8, 8, 8, 8, 8, 8, 8, 8, 8, 8, 8, 8, 8, 8, 8, 8, 8, 8, 8, 8, 8, 8, 8, 8, 8, 8, 8, 8, 8, 8, 8, 8, 8, 8, 8, 8, 8, 8, 8, 8, 8, 8, 8, 8, 8, 8, 8, 8, 8, 8, 8, 8, 8, 8, 8, 8, 8, 8, 8, 8, 8, 8, 8, 8, 8, 8, 8, 8, 8, 8, 8, 8, 8, 8, 8, 8, 8, 8, 8, 8, 8, 8, 8, 8, 8, 8, 8, 8, 8, 8, 8]⟩ : ByteArray) (b.val : Int); rw [Int.toNat_of_nonneg this.1], h b hb⟩
/-- A head of one byte, found in the table. -/
theorem len_head {x m : Nat} (h0 : 0 < x / 2 ^ m) (h1 : x / 2 ^ m < 256) {c : Int} (hc : c = ((x / 2 ^ m : Nat) : Int)) {tab : ByteArray} (ht : ∀ b : Fin 256, 0 < b.val → ∃ t : Nat, bt tab (b.val : Int) = (t : Int) ∧ 1 ≤ t ∧ t ≤ 8 ∧ 2 ^ (t - 1) ≤ b.val ∧ b.val < 2 ^ t) :
    ∃ t : Nat, bt tab c = (t : Int) ∧ 1 ≤ t ∧ t ≤ 8 ∧ 2 ^ (m + t - 1) ≤ x ∧ x < 2 ^ (m + t) := by
  obtain ⟨t, e, t1, t8, b0, b1⟩ := ht ⟨x / 2 ^ m, h1⟩ h0
  subst hc
  exact ⟨t, e, t1, t8, bits_of_head t1 b0 b1⟩
set_option maxRecDepth 100000 in
theorem len_low {x : Nat} (h0 : 0 < x) (h1 : x < 4294967296) (n : Nat) (hn : n ≤ 32) (k : Nat) : ∃ t : Nat, bits_Len64.j0 (k + 1) (x : Int) (n : Int) = some ((n + t : Nat) : Int) ∧ 1 ≤ t ∧ t ≤ 32 ∧ 2 ^ (t - 1) ≤ x ∧ x < 2 ^ t := by
  rw [bits_Len64.j0]
  by_cases c1 : (x : Int) ≥ 65536
  · rw [if_pos c1]
    by_cases c2 : (x : Int) / 65536 ≥ 256
    · rw [if_pos c2, if_pos (by omega), if_pos (by omega)]
      obtain ⟨t, e, t1, t8, b0, b1⟩ := len_head (x := x) (m := 24) (by omega) (by omega) (c := (x : Int) / 65536 / 256 % 256) (by omega) len8
      refine ⟨24 + t, ?_, by omega, by omega, b0, b1⟩
      rw [e, w64_in (n := (t : Int)) (by omega) (by omega), w64_in (n := (n : Int) + 16) (by omega) (by omega), w64_in (n := (n : Int) + 16 + 8) (by omega) (by omega), w64_in (by omega) (by omega)]
      congr 1; omega
    · rw [if_neg c2, if_pos (by omega), if_pos (by omega)]
      obtain ⟨t, e, t1, t8, b0, b1⟩ := len_head (x := x) (m := 16) (by omega) (by omega) (c := (x : Int) / 65536 % 256) (by omega) len8
      refine ⟨16 + t, ?_, by omega, by omega, b0, b1⟩
      rw [e, w64_in (n := (t : Int)) (by omega) (by omega), w64_in (n := (n : Int) + 16) (by omega) (by omega), w64_in (by omega) (by omega)]
      congr 1; omega
  · rw [if_neg c1]
    by_cases c2 : (x : Int) ≥ 256
    · rw [if_pos c2, if_pos (by omega), if_pos (by omega)]
      obtain ⟨t, e, t1, t8, b0, b1⟩ := len_head (x := x) (m := 8) (by omega) (by omega) (c := (x : Int) / 256 % 256) (by omega) len8
      refine ⟨8 + t, ?_, by omega, by omega, b0, b1⟩
      rw [e, w64_in (n := (t : Int)) (by omega) (by omega), w64_in (n := (n : Int) + 8) (by omega) (by omega), w64_in (by omega) (by omega)]
      congr 1; omega
    · rw [if_neg c2, if_pos (by omega), if_pos (by omega)]
      obtain ⟨t, e, t1, t8, b0, b1⟩ := len_head (x := x) (m := 0) (by omega) (by omega) (c := (x : Int) % 256) (by omega) len8
      refine ⟨0 + t, ?_, by omega, by omega, b0, b1⟩
      rw [e, w64_in (n := (t : Int)) (by omega) (by omega), w64_in (by omega) (by omega)]
      congr 1; omega
theorem lead_tells {x : Nat} (h0 : 0 < x) (h1 : x < 18446744073709551616) (k : Nat) : ∃ s : Nat, bits_LeadingZeros64.f (k + 1) (x : Int) = some (s : Int) ∧ s < 64 ∧ 9223372036854775808 ≤ x * 2 ^ s ∧ x * 2 ^ s < 18446744073709551616 := by
  have key : ∃ t : Nat, bits_Len64.f (k + 1) (x : Int) = some (t : Int) ∧ 1 ≤ t ∧ t ≤ 64 ∧ 2 ^ (t - 1) ≤ x ∧ x < 2 ^ t := by
    unfold bits_Len64.f
    by_cases c : (x : Int) ≥ 4294967296
    · rw [if_pos c]
      have hd : (x : Int) / 4294967296 = ((x / 2 ^ 32 : Nat) : Int) := by omega
      obtain ⟨t, e, t1, t2, b0, b1⟩ := len_low (x := x / 2 ^ 32) (by omega) (by omega) 32 (by omega) k
      have hb := bits_of_head t1 b0 b1
      exact ⟨32 + t, by rw [hd]; exact e, by omega, by omega, hb.1, hb.2⟩
    · rw [if_neg c]
      obtain ⟨t, e, t1, t2, b0, b1⟩ := len_low (x := x) h0 (by omega) 0 (by omega) k
      exact ⟨t, by rw [Nat.zero_add] at e; exact e, t1, by omega, b0, b1⟩
  obtain ⟨t, e, t1, t64, b0, b1⟩ := key
  refine ⟨64 - t, ?_, by omega, ?_, ?_⟩
  · unfold bits_LeadingZeros64.f
    rw [e]
    simp only [Option.bind_some]
    rw [w64_in (by omega) (by omega)]
    congr 1; omega
  · have h := Nat.mul_le_mul_right (2 ^ (64 - t)) b0
    rw [← Nat.pow_add, show t - 1 + (64 - t) = 63 by omega] at h
    exact h
  · have h := Nat.mul_lt_mul_of_pos_right b1 (Nat.two_pow_pos (64 - t))
    rw [← Nat.pow_add, show t + (64 - t) = 64 by omega] at h
    exact h
theorem dig1 {y a b u d n e s : Nat} (hy : y = 4294967296 * a + b) (ha : 2147483648 ≤ a) (hb : b < 4294967296) (hyl : y < 18446744073709551616) (hu : u < y) (hd : d < 4294967296) (hn : n = 4294967296 * u + d) : ∀ (t k q r : Nat), q ≤ 4294967297 → n / y ≤ q → q * a + r = u → r < 4294967296 → 4294967296 ≤ r + t * 2147483648 → 2 * t + 2 ≤ k →
    ∃ k', k ≤ k' + 2 * t + 2 ∧ bits_Div64.l0 k (y : Int) (s : Int) (a : Int) (b : Int) (u : Int) (d : Int) (e : Int) (q : Int) (r : Int) = bits_Div64.j2 k' (y : Int) (s : Int) (a : Int) (b : Int) (u : Int) (d : Int) (e : Int) ((n / y : Nat) : Int)
  | 0, k, q, r, _, _, _, hr, ht, _ => by omega
  | t + 1, k, q, r, hq, hl, hqr, hr, ht, hk => by
    obtain ⟨k, rfl⟩ : ∃ m, k = m + 1 + 1 := ⟨k - 2, by omega⟩
    have ask := dig_ask hy hu hd hqr hn
    have stop : ¬ n / y < q → ∃ k', k + 1 + 1 ≤ k' + 2 * (t + 1) + 2 ∧ bits_Div64.j1 (k + 1) (y : Int) (s : Int) (a : Int) (b : Int) (u : Int) (d : Int) (e : Int) (q : Int) (r : Int) false = bits_Div64.j2 k' (y : Int) (s : Int) (a : Int) (b : Int) (u : Int) (d : Int) (e : Int) ((n / y : Nat) : Int) := fun h => by
      refine ⟨k, by omega, ?_⟩
      rw [bits_Div64.j1, if_neg (by simp), show n / y = q by omega]
    have go : n / y < q → ∃ k', k + 1 + 1 ≤ k' + 2 * (t + 1) + 2 ∧ bits_Div64.j1 (k + 1) (y : Int) (s : Int) (a : Int) (b : Int) (u : Int) (d : Int) (e : Int) (q : Int) (r : Int) true = bits_Div64.j2 k' (y : Int) (s : Int) (a : Int) (b : Int) (u : Int) (d : Int) (e : Int) ((n / y : Nat) : Int) := fun h => by
      have hq0 : 1 ≤ q := Nat.lt_of_le_of_lt (Nat.zero_le _) h
      have ha2 : q * a ≥ a := Nat.le_mul_of_pos_left _ (by omega)
      have hq1 : (q - 1) * a + (r + a) = u := by
        have : q * a = (q - 1) * a + a := by rw [← Nat.succ_mul]; congr 1; omega
        omega
      rw [bits_Div64.j1, if_pos rfl]
      have h1 : IntKind.u64.wrap ((q : Int) - 1) = ((q - 1 : Nat) : Int) := by rw [u64_in (by omega) (by omega)]; omega
      rw [h1]
      have h2 : IntKind.u64.wrap ((r : Int) + (a : Int)) = ((r + a : Nat) : Int) := by rw [u64_in (by omega) (by omega)]; omega
      rw [h2]
      by_cases c : r + a ≥ 4294967296
      · rw [if_pos (by omega)]
        refine ⟨k, by omega, ?_⟩
        rw [dig_stop hy hb hu hq1 hn c (by omega) (by omega)]
      · rw [if_neg (by omega)]
        obtain ⟨k', hk', e'⟩ := dig1 (e := e) (s := s) hy ha hb hyl hu hd hn t k (q - 1) (r + a) (by omega) (by omega) hq1 (by omega) (by omega) (by omega)
        exact ⟨k', by omega, e'⟩
    rw [bits_Div64.l0]
    by_cases c : (q : Int) ≥ 4294967296
    · rw [if_pos c]
      exact go (ask.mp (.inl (by omega)))
    · rw [if_neg c]
      have hbq : q * b ≤ 4294967295 * 4294967295 := Nat.mul_le_mul (by omega) (by omega)
      have h1 : IntKind.u64.wrap ((q : Int) * (b : Int)) = ((q * b : Nat) : Int) := by
        rw [← Int.natCast_mul, u64_in (by omega) (by omega)]
      have h2 : IntKind.u64.wrap (IntKind.u64.wrap (4294967296 * (r : Int)) + (d : Int)) = ((4294967296 * r + d : Nat) : Int) := by
        rw [u64_in (n := 4294967296 * (r : Int)) (by omega) (by omega), u64_in (by omega) (by omega)]; omega
      rw [h1, h2]
      by_cases c2 : q * b > 4294967296 * r + d
      · rw [show decide (((q * b : Nat) : Int) > ((4294967296 * r + d : Nat) : Int)) = true by simp only [decide_eq_true_eq]; omega]
        exact go (ask.mp (.inr c2))
      · rw [show decide (((q * b : Nat) : Int) > ((4294967296 * r + d : Nat) : Int)) = false by simp only [decide_eq_false_iff_not]; omega]
        exact stop (fun h => by have := ask.mpr h; omega)
theorem dig2 {y a b u d n p s : Nat} (hy : y = 4294967296 * a + b) (ha : 2147483648 ≤ a) (hb : b < 4294967296) (hyl : y < 18446744073709551616) (hu : u < y) (hd : d < 4294967296) (hn : n = 4294967296 * u + d) : ∀ (t k q r : Nat), p < 4294967296 → s < 64 → q ≤ 4294967297 → n / y ≤ q → q * a + r = u → r < 4294967296 → 4294967296 ≤ r + t * 2147483648 → 2 * t + 2 ≤ k →
    bits_Div64.l1 k (y : Int) (s : Int) (a : Int) (b : Int) (d : Int) (p : Int) (r : Int) (u : Int) (q : Int) = some (((4294967296 * p + n / y : Nat) : Int), ((n % y / 2 ^ s : Nat) : Int))
  | 0, k, q, r, _, _, _, _, _, hr, ht, _ => by omega
  | t + 1, k, q, r, hp, hs, hq, hl, hqr, hr, ht, hk => by
    obtain ⟨k, rfl⟩ : ∃ m, k = m + 1 + 1 := ⟨k - 2, by omega⟩
    have ask := dig_ask hy hu hd hqr hn
    have hz := dig_small hu hn hd
    have hlast : n / y = q → some (IntKind.u64.wrap (IntKind.u64.wrap ((p : Int) * 4294967296) + (q : Int)), shr .u64 (IntKind.u64.wrap (IntKind.u64.wrap (IntKind.u64.wrap ((u : Int) * 4294967296) + (d : Int)) - IntKind.u64.wrap ((q : Int) * (y : Int)))) (s : Int)) = some (((4294967296 * p + n / y : Nat) : Int), ((n % y / 2 ^ s : Nat) : Int)) := fun h => by
      have e1 : 4294967296 * u + d = q * y + n % y := by rw [← hn, ← h, Nat.mul_comm]; exact (Nat.div_add_mod n y).symm
      have hm : n % y < y := Nat.mod_lt _ (by omega)
      rw [← Int.natCast_mul, rest_wrap e1 (by omega) hd, shr_u64 _ _ (by omega) (by omega) (by omega), u64_in (n := (p : Int) * 4294967296) (by omega) (by omega), u64_in (by omega) (by omega), ← h]
      simp only [Int.toNat_natCast]
      congr 2
      generalize n / y = z
      omega
    have stop : ¬ n / y < q → bits_Div64.j4 (k + 1) (y : Int) (s : Int) (a : Int) (b : Int) (d : Int) (p : Int) (r : Int) (u : Int) (q : Int) false = some (((4294967296 * p + n / y : Nat) : Int), ((n % y / 2 ^ s : Nat) : Int)) := fun h => by
      rw [bits_Div64.j4, if_neg (by simp), if_pos (by omega)]
      exact hlast (by omega)
    have go : n / y < q → bits_Div64.j4 (k + 1) (y : Int) (s : Int) (a : Int) (b : Int) (d : Int) (p : Int) (r : Int) (u : Int) (q : Int) true = some (((4294967296 * p + n / y : Nat) : Int), ((n % y / 2 ^ s : Nat) : Int)) := fun h => by
      have hq0 : 1 ≤ q := Nat.lt_of_le_of_lt (Nat.zero_le _) h
      have ha2 : q * a ≥ a := Nat.le_mul_of_pos_left _ (by omega)
      have hq1 : (q - 1) * a + (r + a) = u := by
        have : q * a = (q - 1) * a + a := by rw [← Nat.succ_mul]; congr 1; omega
        omega
      rw [bits_Div64.j4, if_pos rfl]
      have h1 : IntKind.u64.wrap ((q : Int) - 1) = ((q - 1 : Nat) : Int) := by rw [u64_in (by omega) (by omega)]; omega
      rw [h1]
      have h2 : IntKind.u64.wrap ((r : Int) + (a : Int)) = ((r + a : Nat) : Int) := by rw [u64_in (by omega) (by omega)]; omega
      rw [h2]
      by_cases c : r + a ≥ 4294967296
      · rw [if_pos (by omega), if_pos (by omega)]
        have e2 := dig_stop hy hb hu hq1 hn c (by omega) (by omega)
        have e1 : 4294967296 * u + d = (q - 1) * y + n % y := by rw [← hn, e2, Nat.mul_comm]; exact (Nat.div_add_mod n y).symm
        have hm : n % y < y := Nat.mod_lt _ (by omega)
        rw [← Int.natCast_mul, rest_wrap e1 (by omega) hd, shr_u64 _ _ (by omega) (by omega) (by omega), u64_in (n := (p : Int) * 4294967296) (by omega) (by omega), u64_in (by omega) (by omega), ← e2]
        simp only [Int.toNat_natCast]
        congr 2
        generalize q - 1 = z
        omega
      · rw [if_neg (by omega)]
        exact dig2 hy ha hb hyl hu hd hn t k (q - 1) (r + a) hp hs (by omega) (by omega) hq1 (by omega) (by omega) (by omega)
    rw [bits_Div64.l1]
    by_cases c : (q : Int) ≥ 4294967296
    · rw [if_pos c]
      exact go (ask.mp (.inl (by omega)))
    · rw [if_neg c]
      have hbq : q * b ≤ 4294967295 * 4294967295 := Nat.mul_le_mul (by omega) (by omega)
      have h1 : IntKind.u64.wrap ((q : Int) * (b : Int)) = ((q * b : Nat) : Int) := by
        rw [← Int.natCast_mul, u64_in (by omega) (by omega)]
      have h2 : IntKind.u64.wrap (IntKind.u64.wrap (4294967296 * (r : Int)) + (d : Int)) = ((4294967296 * r + d : Nat) : Int) := by
        rw [u64_in (n := 4294967296 * (r : Int)) (by omega) (by omega), u64_in (by omega) (by omega)]; omega
      rw [h1, h2]
      by_cases c2 : q * b > 4294967296 * r + d
      · rw [show decide (((q * b : Nat) : Int) > ((4294967296 * r + d : Nat) : Int)) = true by simp only [decide_eq_true_eq]; omega]
        exact go (ask.mp (.inr c2))
      · rw [show decide (((q * b : Nat) : Int) > ((4294967296 * r + d : Nat) : Int)) = false by simp only [decide_eq_false_iff_not]; omega]
        exact stop (fun h => by have := ask.mpr h; omega)
theorem div64_tells {H L D : Nat} (hH : H < D) (hL : L < 18446744073709551616) (hD : D < 18446744073709551616) {k : Nat} (hk : 20 ≤ k) :
    bits_Div64.f k (H : Int) (L : Int) (D : Int) = some ((((18446744073709551616 * H + L) / D : Nat) : Int), (((18446744073709551616 * H + L) % D : Nat) : Int)) := by
  unfold bits_Div64.f
  rw [if_neg (by omega), if_neg (by omega)]
  by_cases h0 : (H : Int) = 0
  · obtain rfl : H = 0 := by omega
    have h1 : L / D ≤ L := Nat.div_le_self _ _
    rw [if_pos h0, tdiv_nat, tmod_nat, Nat.mul_zero, Nat.zero_add]
    generalize L / D = z at *
    rw [u64_in (by omega) (by omega)]
  · rw [if_neg h0]
    obtain ⟨k1, rfl⟩ : ∃ m, k = m + 1 := ⟨k - 1, by omega⟩
    obtain ⟨s, hs, hs64, hy0, hy1⟩ := lead_tells (x := D) (by omega) hD k1
    have h64 : IntKind.u64.wrap (64 - (s : Int)) = ((64 - s : Nat) : Int) := by rw [u64_in (by omega) (by omega)]; omega
    have hps := Nat.two_pow_pos s
    have hL2 : L / 2 ^ (64 - s) < 2 ^ s := by
      rw [Nat.div_lt_iff_lt_mul (Nat.two_pow_pos _), ← Nat.pow_add, show s + (64 - s) = 64 by omega]
      exact hL
    have hHs : (H + 1) * 2 ^ s ≤ D * 2 ^ s := Nat.mul_le_mul_right _ hH
    rw [Nat.add_mul, Nat.one_mul] at hHs
    have eD : shl .u64 (D : Int) (s : Int) = ((D * 2 ^ s : Nat) : Int) := by
      unfold shl
      rw [show min ((s : Int)).toNat IntKind.u64.bits = s by simp [IntKind.bits]; omega, show ((D : Int)) * 2 ^ s = ((D * 2 ^ s : Nat) : Int) by simp, u64_in (by omega) (by omega)]
    have eH : shl .u64 (H : Int) (s : Int) = ((H * 2 ^ s : Nat) : Int) := by
      unfold shl
      rw [show min ((s : Int)).toNat IntKind.u64.bits = s by simp [IntKind.bits]; omega, show ((H : Int)) * 2 ^ s = ((H * 2 ^ s : Nat) : Int) by simp, u64_in (by omega) (by omega)]
    have eL : shl .u64 (L : Int) (s : Int) = ((L * 2 ^ s % 18446744073709551616 : Nat) : Int) := by
      unfold shl
      rw [show min ((s : Int)).toNat IntKind.u64.bits = s by simp [IntKind.bits]; omega, show ((L : Int)) * 2 ^ s = ((L * 2 ^ s : Nat) : Int) by simp, u64_emod]
      rfl
    have eR : shr .u64 (L : Int) ((64 - s : Nat) : Int) = ((L / 2 ^ (64 - s) : Nat) : Int) := by
      unfold shr
      rw [show min (((64 - s : Nat) : Int)).toNat IntKind.u64.bits = 64 - s by simp [IntKind.bits]]
      simp
    have eO : Go.bits .or .u64 ((H * 2 ^ s : Nat) : Int) ((L / 2 ^ (64 - s) : Nat) : Int) = ((H * 2 ^ s + L / 2 ^ (64 - s) : Nat) : Int) := by
      rw [u64_or_nat _ _ (by omega) (by omega)]
      have := Nat.two_pow_add_eq_or_of_lt hL2 H
      rw [Nat.mul_comm (2 ^ s)] at this
      rw [this]
    rw [hs]
    simp only [Option.bind_some]
    rw [u64_in (n := (s : Int)) (by omega) (by omega), h64, if_pos (by omega), if_pos (by omega), eD, eH, eL, eR, eO]
    have hsplit : L * 2 ^ s = 18446744073709551616 * (L / 2 ^ (64 - s)) + L * 2 ^ s % 18446744073709551616 := by
      have e1 : L * 2 ^ s / 18446744073709551616 = L / 2 ^ (64 - s) := by
        rw [show (18446744073709551616 : Nat) = 2 ^ (64 - s) * 2 ^ s by rw [← Nat.pow_add, show 64 - s + s = 64 by omega]]
        exact Nat.mul_div_mul_right _ _ hps
      rw [← e1]; exact (Nat.div_add_mod _ _).symm
    have hN : (18446744073709551616 * H + L) * 2 ^ s = 18446744073709551616 * (H * 2 ^ s + L / 2 ^ (64 - s)) + L * 2 ^ s % 18446744073709551616 := by
      rw [Nat.add_mul, Nat.mul_assoc]; omega
    have hfin : ∀ q r : Nat, 18446744073709551616 * (H * 2 ^ s + L / 2 ^ (64 - s)) + L * 2 ^ s % 18446744073709551616 = q * (D * 2 ^ s) + r → r < D * 2 ^ s → q = (18446744073709551616 * H + L) / D ∧ r / 2 ^ s = (18446744073709551616 * H + L) % D := fun q r h1 h2 => by
      rw [← hN] at h1
      have e1 : (18446744073709551616 * H + L) * 2 ^ s / (D * 2 ^ s) = q := by
        rw [h1, Nat.mul_comm q, Nat.mul_add_div (by omega), Nat.div_eq_of_lt h2, Nat.add_zero]
      have e2 : (18446744073709551616 * H + L) * 2 ^ s % (D * 2 ^ s) = r := by
        rw [h1, Nat.mul_comm q, Nat.mul_add_mod, Nat.mod_eq_of_lt h2]
      rw [Nat.mul_div_mul_right _ _ hps] at e1
      rw [Nat.mul_mod_mul_right] at e2
      refine ⟨e1.symm, ?_⟩
      rw [← e2, Nat.mul_div_cancel _ hps]
    have hu : H * 2 ^ s + L / 2 ^ (64 - s) < D * 2 ^ s := by omega
    have hlow : L * 2 ^ s % 18446744073709551616 < 18446744073709551616 := Nat.mod_lt _ (by omega)
    clear eD eH eL eR eO hsplit hN hHs hL2 h64
    generalize H * 2 ^ s + L / 2 ^ (64 - s) = u at *
    generalize L * 2 ^ s % 18446744073709551616 = w at *
    generalize D * 2 ^ s = y at *
    have ey : (y : Int) / 4294967296 = ((y / 4294967296 : Nat) : Int) := by omega
    have ew : (w : Int) / 4294967296 = ((w / 4294967296 : Nat) : Int) := by omega
    have my : Go.bits .and .u64 (y : Int) 4294967295 = ((y % 4294967296 : Nat) : Int) := by rw [and_u64 _ (by omega) (by omega)]; omega
    have mw : Go.bits .and .u64 (w : Int) 4294967295 = ((w % 4294967296 : Nat) : Int) := by rw [and_u64 _ (by omega) (by omega)]; omega
    rw [ey, ew, my, mw]
    have hy : y = 4294967296 * (y / 4294967296) + y % 4294967296 := by omega
    have ha : 2147483648 ≤ y / 4294967296 := by omega
    have hb : y % 4294967296 < 4294967296 := by omega
    have hd1 : w / 4294967296 < 4294967296 := by omega
    have hd0 : w % 4294967296 < 4294967296 := by omega
    have hw : w = 4294967296 * (w / 4294967296) + w % 4294967296 := by omega
    generalize y / 4294967296 = a at *
    generalize y % 4294967296 = b at *
    generalize w / 4294967296 = d1 at *
    generalize w % 4294967296 = d0 at *
    have first : ∀ v : Nat, v < y → IntKind.u64.wrap (Int.tdiv (v : Int) (a : Int)) = ((v / a : Nat) : Int) ∧ IntKind.u64.wrap ((v : Int) - IntKind.u64.wrap (((v / a : Nat) : Int) * (a : Int))) = ((v % a : Nat) : Int) := fun v hv => by
      have h1 : v / a ≤ v := Nat.div_le_self _ _
      have h2 : v / a * a + v % a = v := by rw [Nat.mul_comm]; exact Nat.div_add_mod v a
      rw [tdiv_nat, ← Int.natCast_mul]
      generalize v / a * a = m at *
      generalize v % a = o at *
      generalize v / a = z at *
      refine ⟨by rw [u64_in (by omega) (by omega)], ?_⟩
      rw [u64_in (n := ((m : Nat) : Int)) (by omega) (by omega), u64_in (by omega) (by omega)]
      omega
    obtain ⟨f1, f2⟩ := first u hu
    rw [if_neg (by omega), f1, f2]
    have hua : u % a < a := Nat.mod_lt _ (by omega)
    have hual : a < 4294967296 := by omega
    obtain ⟨k2, hk2, e2⟩ := dig1 (e := d0) (s := s) hy ha hb hy1 hu hd1 rfl 2 (k1 + 1) (u / a) (u % a) (dig_first_le hy ha hb hu) (dig_first_ge hy (by omega) rfl hd1) (by rw [Nat.mul_comm]; exact Nat.div_add_mod u a) (by omega) (by omega) (by omega)
    rw [e2]
    obtain ⟨k3, rfl⟩ : ∃ m, k2 = m + 1 := ⟨k2 - 1, by omega⟩
    rw [bits_Div64.j2, if_neg (by omega)]
    have hz := dig_small hu (n := 4294967296 * u + d1) rfl hd1
    have hm1 : (4294967296 * u + d1) % y < y := Nat.mod_lt _ (by omega)
    have r1 : 4294967296 * u + d1 = (4294967296 * u + d1) / y * y + (4294967296 * u + d1) % y := by rw [Nat.mul_comm _ y]; exact (Nat.div_add_mod _ y).symm
    have rw1 := rest_wrap r1 (by omega) hd1
    rw [← Int.natCast_mul, rw1]
    obtain ⟨g1, g2⟩ := first _ hm1
    rw [g1, g2]
    generalize (4294967296 * u + d1) % y = u2 at *
    generalize (4294967296 * u + d1) / y = q1 at *
    have hua2 : u2 % a < a := Nat.mod_lt _ (by omega)
    rw [dig2 hy ha hb hy1 hm1 hd0 rfl 2 k3 (u2 / a) (u2 % a) hz hs64 (dig_first_le hy ha hb hm1) (dig_first_ge hy (by omega) rfl hd0) (by rw [Nat.mul_comm]; exact Nat.div_add_mod u2 a) (by omega) (by omega) (by omega)]
    have r2 : 4294967296 * u2 + d0 = (4294967296 * u2 + d0) / y * y + (4294967296 * u2 + d0) % y := by rw [Nat.mul_comm _ y]; exact (Nat.div_add_mod _ y).symm
    have hm2 : (4294967296 * u2 + d0) % y < y := Nat.mod_lt _ (by omega)
    generalize (4294967296 * u2 + d0) % y = r at *
    generalize (4294967296 * u2 + d0) / y = q0 at *
    have last := hfin (4294967296 * q1 + q0) r (by
      rw [Nat.add_mul, Nat.mul_assoc]
      omega) hm2
    rw [last.1, last.2]
theorem un_wrap (a : Int) : IntKind.u64.wrap a = (un a : Int) := by rw [IntKind.wrap_u64, un_eq]
theorem wide_impl (a b : Int) : impl_MulWide.f a b = some (wrap64 ((un a * un b / 18446744073709551616 : Nat) : Int), wrap64 ((un a * un b % 18446744073709551616 : Nat) : Int)) := by
  unfold impl_MulWide.f
  rw [IntKind.wrap_u64, IntKind.wrap_u64, ← un_eq, ← un_eq, mul64_tells (un_lt' a) (un_lt' b), Option.bind_some]
theorem wide_spec2 (a b : Int) {k : Nat} (hk : 64 < k) : spec_MulWide.f k a b = some (wrap64 ((un a * un b / 18446744073709551616 : Nat) : Int), wrap64 ((un a * un b % 18446744073709551616 : Nat) : Int)) := by
  unfold spec_MulWide.f
  rw [IntKind.wrap_u64, IntKind.wrap_u64, ← un_eq, ← un_eq, wide_spec (un_lt' a) (un_lt' b) hk, Option.bind_some]
theorem times_tells (a b : Int) : laws_times.f a b = some (wrap64 ((un a * un b % 18446744073709551616 : Nat) : Int)) := by
  unfold laws_times.f
  rw [un_wrap a, un_wrap b, ← Int.natCast_mul, IntKind.wrap_u64]
  rfl
theorem plus_tells (a b : Int) : laws_plus.f a b = some (wrap64 (((un a + un b) % 18446744073709551616 : Nat) : Int)) := by
  unfold laws_plus.f
  rw [un_wrap a, un_wrap b, ← Int.natCast_add, IntKind.wrap_u64]
  rfl
theorem below_impl (a b : Int) : impl_BelowU.f a b = some (decide (un a < un b)) := by
  unfold impl_BelowU.f
  rw [un_wrap, un_wrap]
  congr 1
  rw [decide_eq_decide]
  omega
theorem below_spec (a b : Int) : spec_BelowU.f a b = some (decide (un a < un b)) := by
  unfold spec_BelowU.f
  rw [un_wrap, un_wrap]
  congr 1
  rw [decide_eq_decide]
  omega
theorem divideWide_impl {k : Nat} (hk : 20 ≤ k) (h l d : Int) : impl_DivideWide.f k h l d = some (if un h < un d then (wrap64 (((18446744073709551616 * un h + un l) / un d : Nat) : Int), wrap64 (((18446744073709551616 * un h + un l) % un d : Nat) : Int), 0) else (0, 0, 16)) := by
  unfold impl_DivideWide.f
  rw [below_impl, Option.bind_some, un_wrap, un_wrap, un_wrap]
  by_cases c : un h < un d
  · rw [if_pos (decide_eq_true c), if_pos c, div64_tells c (un_lt' l) (un_lt' d) hk, Option.bind_some]
  · rw [if_neg (by simp [c]), if_neg c]
theorem un_back {a : Int} (ha : -9223372036854775808 ≤ a ∧ a ≤ 9223372036854775807) : wrap64 ((un a : Nat) : Int) = a := (eq_wrap ha).symm
/-- The product over its second number. -/
theorem back_tells {k : Nat} (hk : 20 ≤ k) {A B : Int} (hA : -9223372036854775808 ≤ A ∧ A ≤ 9223372036854775807) (hB : -9223372036854775808 ≤ B ∧ B ≤ 9223372036854775807) :
    ∃ x11 x12 x13 : Int, impl_DivideWide.f k (wrap64 ((un A * un B / 18446744073709551616 : Nat) : Int)) (wrap64 ((un A * un B % 18446744073709551616 : Nat) : Int)) B = some (x11, x12, x13) ∧
      (if B = 0 then (some (x13 == 16)) else (if x13 = 0 then (if x11 = A then (some (x12 == 0)) else (some false)) else (some false))) = some true := by
  have hD := un_lt' B
  have hlt := un_lt' A
  have hq : un A * un B / 18446744073709551616 < 18446744073709551616 := by
    rw [Nat.div_lt_iff_lt_mul (by decide)]
    have : un A * un B ≤ 18446744073709551615 * 18446744073709551615 := Nat.mul_le_mul (by omega) (by omega)
    omega
  rw [divideWide_impl hk, un_wnat hq, un_wnat (Nat.mod_lt _ (by decide)), Nat.div_add_mod]
  by_cases c : un A * un B / 18446744073709551616 < un B
  · rw [if_pos c]
    have hpos : 0 < un B := by omega
    have hB0 : B ≠ 0 := fun h => by rw [h] at hpos; exact absurd hpos (by decide)
    refine ⟨_, _, _, rfl, ?_⟩
    rw [if_neg hB0, if_pos rfl, Nat.mul_div_cancel _ hpos, Nat.mul_mod_left, un_back hA, if_pos rfl, show wrap64 ((0 : Nat) : Int) = 0 from w64_in (by omega) (by omega)]
    rfl
  · rw [if_neg c]
    have hB0 : B = 0 := by
      rcases Nat.eq_zero_or_pos (un B) with h | h
      · unfold un at h; omega
      · exfalso
        apply c
        rw [Nat.div_lt_iff_lt_mul (by decide), Nat.mul_comm]
        exact Nat.mul_lt_mul_of_pos_left hlt h
    refine ⟨_, _, _, rfl, ?_⟩
    rw [if_pos hB0]
    rfl
/-- A long division put back. -/
theorem again {h a q r D P : Nat} (hh : h < D) (ha : a < 18446744073709551616) (hD : D < 18446744073709551616) (hr : r < D) (e : P + r = 18446744073709551616 * h + a) :
    (P % 18446744073709551616 + r) % 18446744073709551616 = a ∧ (a < P % 18446744073709551616 → P / 18446744073709551616 + 1 = h) ∧ (¬ a < P % 18446744073709551616 → P / 18446744073709551616 = h) := by
  omega
theorem quot_lt {h a D : Nat} (hh : h < D) (ha : a < 18446744073709551616) : (18446744073709551616 * h + a) / D < 18446744073709551616 := by
  rw [Nat.div_lt_iff_lt_mul (by omega)]
  have : 18446744073709551616 * (h + 1) ≤ 18446744073709551616 * D := Nat.mul_le_mul_left _ hh
  omega
theorem tail_tells {k : Nat} {A B x11 x12 x13 : Int} (T : (if B = 0 then (some (x13 == 16)) else (if x13 = 0 then (if x11 = A then (some (x12 == 0)) else (some false)) else (some false))) = some true) : laws_FnWide.j4 (k + 1) A B x11 x12 x13 false = some true := by
  simp only [laws_FnWide.j4]
  rw [if_neg (by decide)]
  exact T
theorem third {k : Nat} {A B x11 x12 x13 h r : Int} (hr : un r < un B) (T : (if B = 0 then (some (x13 == 16)) else (if x13 = 0 then (if x11 = A then (some (x12 == 0)) else (some false)) else (some false))) = some true) : laws_FnWide.j3 (k + 2) A B x11 x12 x13 h r h A = some true := by
  rw [show k + 2 = k + 1 + 1 from rfl]
  rw [laws_FnWide.j3, if_pos rfl, if_pos rfl, below_impl, Option.bind_some, decide_eq_true hr]
  exact tail_tells T
theorem j2_miss {k : Nat} {A B x11 x12 x13 h : Int} (T : (if B = 0 then (some (x13 == 16)) else (if x13 = 0 then (if x11 = A then (some (x12 == 0)) else (some false)) else (some false))) = some true) : laws_FnWide.j2 (k + 1) A B x11 x12 x13 h 0 0 16 false = some true := by
  rw [laws_FnWide.j2, if_neg (by decide), if_neg (by decide)]
  exact T
theorem j2_hit {k : Nat} {A B x11 x12 x13 h : Int} (hA : -9223372036854775808 ≤ A ∧ A ≤ 9223372036854775807) (h0 : 0 ≤ h) (h9 : h < 9) (hh : un h < un B) (T : (if B = 0 then (some (x13 == 16)) else (if x13 = 0 then (if x11 = A then (some (x12 == 0)) else (some false)) else (some false))) = some true) :
    laws_FnWide.j2 (k + 3) A B x11 x12 x13 h (wrap64 (((18446744073709551616 * un h + un A) / un B : Nat) : Int)) (wrap64 (((18446744073709551616 * un h + un A) % un B : Nat) : Int)) 0 false = some true := by
  rw [show k + 3 = k + 2 + 1 from rfl]
  rw [laws_FnWide.j2, if_neg (by decide), if_pos rfl]
  have hq := quot_lt hh (un_lt' A)
  have hr : (18446744073709551616 * un h + un A) % un B < un B := Nat.mod_lt _ (by omega)
  have hD := un_lt' B
  have e : (18446744073709551616 * un h + un A) / un B * un B + (18446744073709551616 * un h + un A) % un B = 18446744073709551616 * un h + un A := by rw [Nat.mul_comm]; exact Nat.div_add_mod _ _
  have hru : un (wrap64 (((18446744073709551616 * un h + un A) % un B : Nat) : Int)) = (18446744073709551616 * un h + un A) % un B := un_wnat (by omega)
  rw [wide_impl, un_wnat hq]
  generalize (18446744073709551616 * un h + un A) / un B = q at *
  generalize (18446744073709551616 * un h + un A) % un B = r at *
  generalize q * un B = P at *
  obtain ⟨g1, g2, g3⟩ := again (q := q) hh (un_lt' A) hD hr e
  have hP : un (wrap64 ((P % 18446744073709551616 : Nat) : Int)) = P % 18446744073709551616 := un_wnat (Nat.mod_lt _ (by decide))
  rw [Option.bind_some]
  simp only []
  rw [plus_tells, Option.bind_some, hP, hru, g1, below_impl, Option.bind_some, un_wnat (un_lt' A), hP, un_back hA]
  have hun : un h = h.toNat := by unfold un; omega
  by_cases c : un A < P % 18446744073709551616
  · rw [if_pos (decide_eq_true c), plus_tells, Option.bind_some]
    have e3 : wrap64 (((un (wrap64 ((P / 18446744073709551616 : Nat) : Int)) + un 1) % 18446744073709551616 : Nat) : Int) = h := by
      have := g2 c
      rw [un_wnat (by omega), show un 1 = 1 from rfl, this, hun]
      rw [w64_in (by omega) (by omega)]; omega
    rw [e3]
    exact third (by rw [hru]; exact hr) T
  · rw [if_neg (by simp [c])]
    have e3 : wrap64 ((P / 18446744073709551616 : Nat) : Int) = h := by
      have := g3 c
      rw [this, hun]
      rw [w64_in (by omega) (by omega)]; omega
    rw [e3]
    exact third (by rw [hru]; exact hr) T
theorem FnWide : laws_FnWide.Pure := by
  intro l0 l1 _ h0 hb0 _ h1 hb1
  refine ⟨200, ?_⟩
  obtain ⟨A, eA, hA⟩ := number_tells hb0
  obtain ⟨B, eB, hB⟩ := number_tells hb1
  obtain ⟨h, eh, hh0, hh9⟩ := at_tells hb1 (by omega) 0 (by omega) (by omega) (n := 9) (by omega) (by omega)
  have key : ∀ b, laws_FnWide.j0 200 l0 l1 b = some true := fun b => by
    cases b
    rotate_left
    · rfl
    obtain ⟨x11, x12, x13, ed, T⟩ := back_tells (k := 198) (by omega) hA hB
    rw [laws_FnWide.j0, if_neg (by decide), eA, Option.bind_some, eB, Option.bind_some, wide_impl, Option.bind_some, wide_spec2 _ _ (by omega), Option.bind_some, if_pos rfl, if_pos rfl, times_tells, Option.bind_some, bne_self_eq_false]
    simp only []
    rw [laws_FnWide.j1, if_neg (by decide), ed, Option.bind_some, eh, Option.bind_some, divideWide_impl (by omega), Option.bind_some, below_impl, Option.bind_some, below_spec]
    by_cases c : un h < un B
    · rw [if_pos c, decide_eq_true c]
      simp only []
      rw [if_neg (by decide), Option.bind_some, Option.bind_some, bne_self_eq_false]
      exact j2_hit (k := 195) hA hh0 hh9 c T
    · rw [if_neg c, decide_eq_false c]
      simp only []
      rw [if_neg (by decide), Option.bind_some, Option.bind_some, bne_self_eq_false]
      exact j2_miss (k := 197) T
  unfold laws_FnWide.f
  split
  · exact key _
  · exact key _

end Go.Proofs.Ytdljhgmgpnpfiaa.Pure
