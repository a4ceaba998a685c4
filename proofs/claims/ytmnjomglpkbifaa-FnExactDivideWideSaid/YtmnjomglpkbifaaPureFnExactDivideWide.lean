/- The program's DivideWide answers as the reference's at every three numbers. -/
import Derived.Test.YtmnjomglpkbifaaPFnExactDivideWidex2
import Derived.Test.YtmnjomglpkbifaaNumE
namespace Go.Proofs.Ytmnjomglpkbifaa.Pure
open Go.RowKit Go.Proofs.Ytmnjomglpkbifaa.PFnExactDivideWide Go.Proofs.YtmnjomglpkbifaaW.PrintWords Go.Proofs.YtmnjomglpkbifaaW.PrintLast Go.Proofs.YtmnjomglpkbifaaW.PrintMore Go.Proofs.Ytmnjomglpkbifaa.Num

theorem divs_loop {H L D : Nat} (hH : H < D) (hL : L < 18446744073709551616) (hD : D < 18446744073709551616) : ∀ (j k q r : Nat), j ≤ 64 → j < k → r < D → q * D + r = H * 2 ^ (64 - j) + L / 2 ^ j →
    spec_l01Divide.l0 k (L : Int) (D : Int) (q : Int) (r : Int) ((j : Int) - 1) = some ((((18446744073709551616 * H + L) / D : Nat) : Int), (((18446744073709551616 * H + L) % D : Nat) : Int))
  | j, 0, _, _, _, hk, _, _ => by omega
  | 0, k + 1, q, r, _, _, hr, hp => by
    simp only [spec_l01Divide.l0]
    rw [if_neg (by omega)]
    simp only [Nat.sub_zero, Nat.pow_zero, Nat.div_one] at hp
    have e : 18446744073709551616 * H + L = r + D * q := by rw [Nat.mul_comm D]; omega
    rw [e, Nat.add_mul_div_left _ _ (by omega), Nat.add_mul_mod_self_left, Nat.div_eq_of_lt hr, Nat.mod_eq_of_lt hr, Nat.zero_add]
  | j + 1, k + 1, q, r, hj, hk, hr, hp => by
    simp only [spec_l01Divide.l0]
    have hst := shr_step (L := L) H (show j < 64 by omega)
    rw [← hp] at hst
    have hi : IntKind.u64.wrap ((j : Int)) = (j : Int) := u64_in (by omega) (by omega)
    have e : Int.tmod (shr .u64 (L : Int) (j : Int)) 2 = ((L / 2 ^ j % 2 : Nat) : Int) := by
      rw [shr_u64 _ _ (by omega) (by omega) (by omega)]
      simpa using tmod_nat (L / 2 ^ j) 2
    have hb2 : L / 2 ^ j % 2 < 2 := Nat.mod_lt _ (by omega)
    have hpow : 2 ^ (64 - j) ≤ 2 ^ 64 := Nat.pow_le_pow_right (by decide) (by omega)
    have hN : H * 2 ^ (64 - j) + L / 2 ^ j ≤ 18446744073709551616 * H + L := by
      have h1 : H * 2 ^ (64 - j) ≤ H * 2 ^ 64 := Nat.mul_le_mul_left _ hpow
      have h2 : L / 2 ^ j ≤ L := Nat.div_le_self _ _
      omega
    rw [if_pos (by omega), show ((j + 1 : Nat) : Int) - 1 = (j : Int) by omega, hi, if_pos (by omega), e, show wrap64 ((j : Int) - 1) = (j : Int) - 1 from w64_in (by omega) (by omega)]
    have g0 := div_bit0 (b := L / 2 ^ j % 2) hp
    have g1 := div_bit (b := L / 2 ^ j % 2) hp
    rw [← hp] at g0 g1
    rw [hst] at hN
    generalize L / 2 ^ j % 2 = b at *
    by_cases hc : 2 * r + b < D
    · have hq : 2 * q < 18446744073709551616 := quo_lt (q := 2 * q) (r := 2 * r + b) (by omega) hH hL
      have hr2 : IntKind.u64.wrap (IntKind.u64.wrap ((r : Int) * 2) + (b : Int)) = ((2 * r + b : Nat) : Int) := by
        rw [u64_in (n := (r : Int) * 2) (by omega) (by omega), u64_in (by omega) (by omega)]; omega
      have hq2 : IntKind.u64.wrap ((q : Int) * 2) = ((2 * q : Nat) : Int) := by rw [u64_in (by omega) (by omega)]; omega
      rw [if_neg (by omega), hr2, if_neg (by omega), hq2]
      exact divs_loop hH hL hD j k (2 * q) (2 * r + b) (by omega) (by omega) hc (by omega)
    · have g2 := g1.resolve_right hc
      have hq : 2 * q + 1 < 18446744073709551616 := quo_lt (q := 2 * q + 1) (r := 2 * r + b - D) (by omega) hH hL
      have hq2 : IntKind.u64.wrap (IntKind.u64.wrap ((q : Int) * 2) + 1) = ((2 * q + 1 : Nat) : Int) := by
        rw [u64_in (n := (q : Int) * 2) (by omega) (by omega), u64_in (by omega) (by omega)]; omega
      have hr2 : IntKind.u64.wrap (IntKind.u64.wrap (IntKind.u64.wrap ((r : Int) * 2) + (b : Int)) - (D : Int)) = ((2 * r + b - D : Nat) : Int) := by
        simp only [u64_emod]; omega
      have done := divs_loop hH hL hD j k (2 * q + 1) (2 * r + b - D) (by omega) (by omega) (by omega) (by omega)
      rw [hq2, hr2]
      by_cases ht : (r : Int) / 9223372036854775808 = 1
      · rw [if_pos ht]; exact done
      · rw [if_neg ht, if_pos (by rw [u64_in (n := (r : Int) * 2) (by omega) (by omega), u64_in (by omega) (by omega)]; omega)]; exact done
theorem divs_tells {H L D : Nat} (hH : H < D) (hL : L < 18446744073709551616) (hD : D < 18446744073709551616) {k : Nat} (hk : 64 < k) :
    spec_l01Divide.f k (H : Int) (L : Int) (D : Int) = some ((((18446744073709551616 * H + L) / D : Nat) : Int), (((18446744073709551616 * H + L) % D : Nat) : Int)) := by
  unfold spec_l01Divide.f
  refine divs_loop hH hL hD 64 k 0 H (by omega) hk hH ?_
  rw [Nat.div_eq_of_lt (by omega)]
  simp
theorem len8 : ∀ b : Fin 256, 0 < b.val → ∃ t : Nat, bt (⟨#[0, 1, 2, 2, 3, 3, 3, 3, 4, 4, 4, 4, 4, 4, 4, 4, 5, 5, 5, 5, 5, 5, 5, 5, 5, 5, 5, 5, 5, 5, 5, 5, 6, 6, 6, 6, 6, 6, 6, 6, 6, 6, 6, 6, 6, 6, 6, 6, 6, 6, 6, 6, 6, 6, 6, 6, 6, 6, 6, 6, 6, 6, 6, 6, 7, 7, 7, 7, 7, 7, 7, 7, 7, 7, 7, 7, 7, 7, 7, 7, 7, 7, 7, 7, 7, 7, 7, 7, 7, 7, 7, 7, 7, 7, 7, 7, 7, 7, 7, 7, 7, 7, 7, 7, 7, 7, 7, 7, 7, 7, 7, 7, 7, 7, 7, 7, 7, 7, 7, 7, 7, 7, 7, 7, 7, 7, 7, 7, 8, 8, 8, 8, 8, 8, 8, 8, 8, 8, 8, 8, 8, 8, 8, 8, 8, 8, 8, 8, 8, 8, 8, 8, 8, 8, 8, 8, 8, 8, 8, 8, 8, 8, 8, 8, 8, 8, 8, 8, 8, 8, 8, 8, 8, 8, 8, 8, 8, 8, 8, 8, 8, 8, 8, 8, 8, 8, 8, 8, 8, 8, 8, 8, 8, 8, 8, 8, 8, 8, 8, 8, 8, 8, 8, 8, 8, 8, 8, 8, 8, 8, 8, 8, 8, 8, 8, 8, 8, 8, 8, 8, 8, 8, 8, 8, 8, 8, 8, 8, 8, 8, 8, 8, 8, 8, 8, 8, 8, 8, 8, 8, 8, 8, 8, 8, 8, 8, 8, 8, 8, 8, 8, 8, 8, 8, 8, 8]⟩ : ByteArray) (b.val : Int) = (t : Int) ∧ 1 ≤ t ∧ t ≤ 8 ∧ 2 ^ (t - 1) ≤ b.val ∧ b.val < 2 ^ t := by
  intro b hb
  have h : ∀ b : Fin 256, 0 < b.val → (let t := (bt (⟨#[0, 1, 2, 2, 3, 3, 3, 3, 4, 4, 4, 4, 4, 4, 4, 4, 5, 5, 5, 5, 5, 5, 5, 5, 5, 5, 5, 5, 5, 5, 5, 5, 6, 6, 6, 6, 6, 6, 6, 6, 6, 6, 6, 6, 6, 6, 6, 6, 6, 6, 6, 6, 6, 6, 6, 6, 6, 6, 6, 6, 6, 6, 6, 6, 7, 7, 7, 7, 7, 7, 7, 7, 7, 7, 7, 7, 7, 7, 7, 7, 7, 7, 7, 7, 7, 7, 7, 7, 7, 7, 7, 7, 7, 7, 7, 7, 7, 7, 7, 7, 7, 7, 7, 7, 7, 7, 7, 7, 7, 7, 7, 7, 7, 7, 7, 7, 7, 7, 7, 7, 7, 7, 7, 7, 7, 7, 7, 7, 8, 8, 8, 8, 8, 8, 8, 8, 8, 8, 8, 8, 8, 8, 8, 8, 8, 8, 8, 8, 8, 8, 8, 8, 8, 8, 8, 8, 8, 8, 8, 8, 8, 8, 8, 8, 8, 8, 8, 8, 8, 8, 8, 8, 8, 8, 8, 8, 8, 8, 8, 8, 8, 8, 8, 8, 8, 8, 8, 8, 8, 8, 8, 8, 8, 8, 8, 8, 8, 8, 8, 8, 8, 8, 8, 8, 8, 8, 8, 8, 8, 8, 8, 8, 8, 8, 8, 8, 8, 8, 8, 8, 8, 8, 8, 8, 8, 8, 8, 8, 8, 8, 8, 8, 8, 8, 8, 8, 8, 8, 8, 8, 8, 8, 8, 8, 8, 8, 8, 8, 8, 8, 8, 8, 8, 8, 8, 8]⟩ : ByteArray) (b.val : Int)).toNat; 1 ≤ t ∧ t ≤ 8 ∧ 2 ^ (t - 1) ≤ b.val ∧ b.val < 2 ^ t) := by decide +kernel
  exact ⟨_, by have := bt_range (⟨#[0, 1, 2, 2, 3, 3, 3, 3, 4, 4, 4, 4, 4, 4, 4, 4, 5, 5, 5, 5, 5, 5, 5, 5, 5, 5, 5, 5, 5, 5, 5, 5, 6, 6, 6, 6, 6, 6, 6, 6, 6, 6, 6, 6, 6, 6, 6, 6, 6, 6, 6, 6, 6, 6, 6, 6, 6, 6, 6, 6, 6, 6, 6, 6, 7, 7, 7, 7, 7, 7, 7, 7, 7, 7, 7, 7, 7, 7, 7, 7, 7, 7, 7, 7, 7, 7, 7, 7, 7, 7, 7, 7, 7, 7, 7, 7, 7, 7, 7, 7, 7, 7, 7, 7, 7, 7, 7, 7, 7, 7, 7, 7, 7, 7, 7, 7, 7, 7, 7, 7, 7, 7, 7, 7, 7, 7, 7, 7, 8, 8, 8, 8, 8, 8, 8, 8, 8, 8, 8, 8, 8, 8, 8, 8, 8, 8, 8, 8, 8, 8, 8, 8, 8, 8, 8, 8, 8, 8, 8, 8, 8, 8, 8, 8, 8, 8, 8, 8, 8, 8, 8, 8, 8, 8, 8, 8, 8, 8, 8, 8, 8, 8, 8, 8, 8, 8, 8, 8, 8, 8, 8, 8, 8, 8, 8, 8, 8, 8, 8, 8, 8, 8, 8, 8, 8, 8, 8, 8, 8, 8, 8, 8, 8, 8, 8, 8, 8, 8, 8, 8, 8, 8, 8, 8, 8, 8, 8, 8, 8, 8, 8, 8, 8, 8, 8, 8, 8, 8, 8, 8, 8, 8, 8, 8, 8, 8, 8, 8, 8, 8, 8, 8, 8, 8, 8, 8]⟩ : ByteArray) (b.val : Int); rw [Int.toNat_of_nonneg this.1], h b hb⟩
/-- A head of one byte, found in the table. -/
theorem len_head {x m : Nat} (h0 : 0 < x / 2 ^ m) (h1 : x / 2 ^ m < 256) {c : Int} (hc : c = ((x / 2 ^ m : Nat) : Int)) {tab : ByteArray} (ht : ∀ b : Fin 256, 0 < b.val → ∃ t : Nat, bt tab (b.val : Int) = (t : Int) ∧ 1 ≤ t ∧ t ≤ 8 ∧ 2 ^ (t - 1) ≤ b.val ∧ b.val < 2 ^ t) :
    ∃ t : Nat, bt tab c = (t : Int) ∧ 1 ≤ t ∧ t ≤ 8 ∧ 2 ^ (m + t - 1) ≤ x ∧ x < 2 ^ (m + t) := by
  obtain ⟨t, e, t1, t8, b0, b1⟩ := ht ⟨x / 2 ^ m, h1⟩ h0
  subst hc
  exact ⟨t, e, t1, t8, bits_of_head t1 b0 b1⟩
set_option maxRecDepth 100000 in
theorem len_low {x : Nat} (h0 : 0 < x) (h1 : x < 4294967296) (n : Nat) (hn : n ≤ 32) (k : Nat) : ∃ t : Nat, bits_Len64.j0 (k + 1) (x : Int) (n : Int) = some ((n + t : Nat) : Int) ∧ 1 ≤ t ∧ t ≤ 32 ∧ 2 ^ (t - 1) ≤ x ∧ x < 2 ^ t := by
  rw [bits_Len64.j0]
  by_cases c1 : (x : Int) ≥ 65536
  · rw [if_pos c1]
    by_cases c2 : (x : Int) / 65536 ≥ 256
    · rw [if_pos c2, if_pos (by omega), if_pos (by omega)]
      obtain ⟨t, e, t1, t8, b0, b1⟩ := len_head (x := x) (m := 24) (by omega) (by omega) (c := (x : Int) / 65536 / 256 % 256) (by omega) len8
      refine ⟨24 + t, ?_, by omega, by omega, b0, b1⟩
      rw [e, w64_in (n := (t : Int)) (by omega) (by omega), w64_in (n := (n : Int) + 16) (by omega) (by omega), w64_in (n := (n : Int) + 16 + 8) (by omega) (by omega), w64_in (by omega) (by omega)]
      congr 1; omega
    · rw [if_neg c2, if_pos (by omega), if_pos (by omega)]
      obtain ⟨t, e, t1, t8, b0, b1⟩ := len_head (x := x) (m := 16) (by omega) (by omega) (c := (x : Int) / 65536 % 256) (by omega) len8
      refine ⟨16 + t, ?_, by omega, by omega, b0, b1⟩
      rw [e, w64_in (n := (t : Int)) (by omega) (by omega), w64_in (n := (n : Int) + 16) (by omega) (by omega), w64_in (by omega) (by omega)]
      congr 1; omega
  · rw [if_neg c1]
    by_cases c2 : (x : Int) ≥ 256
    · rw [if_pos c2, if_pos (by omega), if_pos (by omega)]
      obtain ⟨t, e, t1, t8, b0, b1⟩ := len_head (x := x) (m := 8) (by omega) (by omega) (c := (x : Int) / 256 % 256) (by omega) len8
      refine ⟨8 + t, ?_, by omega, by omega, b0, b1⟩
      rw [e, w64_in (n := (t : Int)) (by omega) (by omega), w64_in (n := (n : Int) + 8) (by omega) (by omega), w64_in (by omega) (by omega)]
      congr 1; omega
    · rw [if_neg c2, if_pos (by omega), if_pos (by omega)]
      obtain ⟨t, e, t1, t8, b0, b1⟩ := len_head (x := x) (m := 0) (by omega) (by omega) (c := (x : Int) % 256) (by omega) len8
      refine ⟨0 + t, ?_, by omega, by omega, b0, b1⟩
      rw [e, w64_in (n := (t : Int)) (by omega) (by omega), w64_in (by omega) (by omega)]
      congr 1; omega
theorem lead_tells {x : Nat} (h0 : 0 < x) (h1 : x < 18446744073709551616) (k : Nat) : ∃ s : Nat, bits_LeadingZeros64.f (k + 1) (x : Int) = some (s : Int) ∧ s < 64 ∧ 9223372036854775808 ≤ x * 2 ^ s ∧ x * 2 ^ s < 18446744073709551616 := by
  have key : ∃ t : Nat, bits_Len64.f (k + 1) (x : Int) = some (t : Int) ∧ 1 ≤ t ∧ t ≤ 64 ∧ 2 ^ (t - 1) ≤ x ∧ x < 2 ^ t := by
    unfold bits_Len64.f
    by_cases c : (x : Int) ≥ 4294967296
    · rw [if_pos c]
      have hd : (x : Int) / 4294967296 = ((x / 2 ^ 32 : Nat) : Int) := by omega
      obtain ⟨t, e, t1, t2, b0, b1⟩ := len_low (x := x / 2 ^ 32) (by omega) (by omega) 32 (by omega) k
      have hb := bits_of_head t1 b0 b1
      exact ⟨32 + t, by rw [hd]; exact e, by omega, by omega, hb.1, hb.2⟩
    · rw [if_neg c]
      obtain ⟨t, e, t1, t2, b0, b1⟩ := len_low (x := x) h0 (by omega) 0 (by omega) k
      exact ⟨t, by rw [Nat.zero_add] at e; exact e, t1, by omega, b0, b1⟩
  obtain ⟨t, e, t1, t64, b0, b1⟩ := key
  refine ⟨64 - t, ?_, by omega, ?_, ?_⟩
  · unfold bits_LeadingZeros64.f
    rw [e]
    simp only [Option.bind_some]
    rw [w64_in (by omega) (by omega)]
    congr 1; omega
  · have h := Nat.mul_le_mul_right (2 ^ (64 - t)) b0
    rw [← Nat.pow_add, show t - 1 + (64 - t) = 63 by omega] at h
    exact h
  · have h := Nat.mul_lt_mul_of_pos_right b1 (Nat.two_pow_pos (64 - t))
    rw [← Nat.pow_add, show t + (64 - t) = 64 by omega] at h
    exact h
theorem dig1 {y a b u d n e s : Nat} (hy : y = 4294967296 * a + b) (ha : 2147483648 ≤ a) (hb : b < 4294967296) (hyl : y < 18446744073709551616) (hu : u < y) (hd : d < 4294967296) (hn : n = 4294967296 * u + d) : ∀ (t k q r : Nat), q ≤ 4294967297 → n / y ≤ q → q * a + r = u → r < 4294967296 → 4294967296 ≤ r + t * 2147483648 → 2 * t + 2 ≤ k →
    ∃ k', k ≤ k' + 2 * t + 2 ∧ bits_Div64.l0 k (y : Int) (s : Int) (a : Int) (b : Int) (u : Int) (d : Int) (e : Int) (q : Int) (r : Int) = bits_Div64.j2 k' (y : Int) (s : Int) (a : Int) (b : Int) (u : Int) (d : Int) (e : Int) ((n / y : Nat) : Int)
  | 0, k, q, r, _, _, _, hr, ht, _ => by omega
  | t + 1, k, q, r, hq, hl, hqr, hr, ht, hk => by
    obtain ⟨k, rfl⟩ : ∃ m, k = m + 1 + 1 := ⟨k - 2, by omega⟩
    have ask := dig_ask hy hu hd hqr hn
    have stop : ¬ n / y < q → ∃ k', k + 1 + 1 ≤ k' + 2 * (t + 1) + 2 ∧ bits_Div64.j1 (k + 1) (y : Int) (s : Int) (a : Int) (b : Int) (u : Int) (d : Int) (e : Int) (q : Int) (r : Int) false = bits_Div64.j2 k' (y : Int) (s : Int) (a : Int) (b : Int) (u : Int) (d : Int) (e : Int) ((n / y : Nat) : Int) := fun h => by
      refine ⟨k, by omega, ?_⟩
      rw [bits_Div64.j1, if_neg (by simp), show n / y = q by omega]
    have go : n / y < q → ∃ k', k + 1 + 1 ≤ k' + 2 * (t + 1) + 2 ∧ bits_Div64.j1 (k + 1) (y : Int) (s : Int) (a : Int) (b : Int) (u : Int) (d : Int) (e : Int) (q : Int) (r : Int) true = bits_Div64.j2 k' (y : Int) (s : Int) (a : Int) (b : Int) (u : Int) (d : Int) (e : Int) ((n / y : Nat) : Int) := fun h => by
      have hq0 : 1 ≤ q := Nat.lt_of_le_of_lt (Nat.zero_le _) h
      have ha2 : q * a ≥ a := Nat.le_mul_of_pos_left _ (by omega)
      have hq1 : (q - 1) * a + (r + a) = u := by
        have : q * a = (q - 1) * a + a := by rw [← Nat.succ_mul]; congr 1; omega
        omega
      rw [bits_Div64.j1, if_pos rfl]
      have h1 : IntKind.u64.wrap ((q : Int) - 1) = ((q - 1 : Nat) : Int) := by rw [u64_in (by omega) (by omega)]; omega
      rw [h1]
      have h2 : IntKind.u64.wrap ((r : Int) + (a : Int)) = ((r + a : Nat) : Int) := by rw [u64_in (by omega) (by omega)]; omega
      rw [h2]
      by_cases c : r + a ≥ 4294967296
      · rw [if_pos (by omega)]
        refine ⟨k, by omega, ?_⟩
        rw [dig_stop hy hb hu hq1 hn c (by omega) (by omega)]
      · rw [if_neg (by omega)]
        obtain ⟨k', hk', e'⟩ := dig1 (e := e) (s := s) hy ha hb hyl hu hd hn t k (q - 1) (r + a) (by omega) (by omega) hq1 (by omega) (by omega) (by omega)
        exact ⟨k', by omega, e'⟩
    rw [bits_Div64.l0]
    by_cases c : (q : Int) ≥ 4294967296
    · rw [if_pos c]
      exact go (ask.mp (.inl (by omega)))
    · rw [if_neg c]
      have hbq : q * b ≤ 4294967295 * 4294967295 := Nat.mul_le_mul (by omega) (by omega)
      have h1 : IntKind.u64.wrap ((q : Int) * (b : Int)) = ((q * b : Nat) : Int) := by
        rw [← Int.natCast_mul, u64_in (by omega) (by omega)]
      have h2 : IntKind.u64.wrap (IntKind.u64.wrap (4294967296 * (r : Int)) + (d : Int)) = ((4294967296 * r + d : Nat) : Int) := by
        rw [u64_in (n := 4294967296 * (r : Int)) (by omega) (by omega), u64_in (by omega) (by omega)]; omega
      rw [h1, h2]
      by_cases c2 : q * b > 4294967296 * r + d
      · rw [show decide (((q * b : Nat) : Int) > ((4294967296 * r + d : Nat) : Int)) = true by simp only [decide_eq_true_eq]; omega]
        exact go (ask.mp (.inr c2))
      · rw [show decide (((q * b : Nat) : Int) > ((4294967296 * r + d : Nat) : Int)) = false by simp only [decide_eq_false_iff_not]; omega]
        exact stop (fun h => by have := ask.mpr h; omega)
theorem dig2 {y a b u d n p s : Nat} (hy : y = 4294967296 * a + b) (ha : 2147483648 ≤ a) (hb : b < 4294967296) (hyl : y < 18446744073709551616) (hu : u < y) (hd : d < 4294967296) (hn : n = 4294967296 * u + d) : ∀ (t k q r : Nat), p < 4294967296 → s < 64 → q ≤ 4294967297 → n / y ≤ q → q * a + r = u → r < 4294967296 → 4294967296 ≤ r + t * 2147483648 → 2 * t + 2 ≤ k →
    bits_Div64.l1 k (y : Int) (s : Int) (a : Int) (b : Int) (d : Int) (p : Int) (r : Int) (u : Int) (q : Int) = some (((4294967296 * p + n / y : Nat) : Int), ((n % y / 2 ^ s : Nat) : Int))
  | 0, k, q, r, _, _, _, _, _, hr, ht, _ => by omega
  | t + 1, k, q, r, hp, hs, hq, hl, hqr, hr, ht, hk => by
    obtain ⟨k, rfl⟩ : ∃ m, k = m + 1 + 1 := ⟨k - 2, by omega⟩
    have ask := dig_ask hy hu hd hqr hn
    have hz := dig_small hu hn hd
    have hlast : n / y = q → some (IntKind.u64.wrap (IntKind.u64.wrap ((p : Int) * 4294967296) + (q : Int)), shr .u64 (IntKind.u64.wrap (IntKind.u64.wrap (IntKind.u64.wrap ((u : Int) * 4294967296) + (d : Int)) - IntKind.u64.wrap ((q : Int) * (y : Int)))) (s : Int)) = some (((4294967296 * p + n / y : Nat) : Int), ((n % y / 2 ^ s : Nat) : Int)) := fun h => by
      have e1 : 4294967296 * u + d = q * y + n % y := by rw [← hn, ← h, Nat.mul_comm]; exact (Nat.div_add_mod n y).symm
      have hm : n % y < y := Nat.mod_lt _ (by omega)
      rw [← Int.natCast_mul, rest_wrap e1 (by omega) hd, shr_u64 _ _ (by omega) (by omega) (by omega), u64_in (n := (p : Int) * 4294967296) (by omega) (by omega), u64_in (by omega) (by omega), ← h]
      simp only [Int.toNat_natCast]
      congr 2
      generalize n / y = z
      omega
    have stop : ¬ n / y < q → bits_Div64.j4 (k + 1) (y : Int) (s : Int) (a : Int) (b : Int) (d : Int) (p : Int) (r : Int) (u : Int) (q : Int) false = some (((4294967296 * p + n / y : Nat) : Int), ((n % y / 2 ^ s : Nat) : Int)) := fun h => by
      rw [bits_Div64.j4, if_neg (by simp), if_pos (by omega)]
      exact hlast (by omega)
    have go : n / y < q → bits_Div64.j4 (k + 1) (y : Int) (s : Int) (a : Int) (b : Int) (d : Int) (p : Int) (r : Int) (u : Int) (q : Int) true = some (((4294967296 * p + n / y : Nat) : Int), ((n % y / 2 ^ s : Nat) : Int)) := fun h => by
      have hq0 : 1 ≤ q := Nat.lt_of_le_of_lt (Nat.zero_le _) h
      have ha2 : q * a ≥ a := Nat.le_mul_of_pos_left _ (by omega)
      have hq1 : (q - 1) * a + (r + a) = u := by
        have : q * a = (q - 1) * a + a := by rw [← Nat.succ_mul]; congr 1; omega
        omega
      rw [bits_Div64.j4, if_pos rfl]
      have h1 : IntKind.u64.wrap ((q : Int) - 1) = ((q - 1 : Nat) : Int) := by rw [u64_in (by omega) (by omega)]; omega
      rw [h1]
      have h2 : IntKind.u64.wrap ((r : Int) + (a : Int)) = ((r + a : Nat) : Int) := by rw [u64_in (by omega) (by omega)]; omega
      rw [h2]
      by_cases c : r + a ≥ 4294967296
      · rw [if_pos (by omega), if_pos (by omega)]
        have e2 := dig_stop hy hb hu hq1 hn c (by omega) (by omega)
        have e1 : 4294967296 * u + d = (q - 1) * y + n % y := by rw [← hn, e2, Nat.mul_comm]; exact (Nat.div_add_mod n y).symm
        have hm : n % y < y := Nat.mod_lt _ (by omega)
        rw [← Int.natCast_mul, rest_wrap e1 (by omega) hd, shr_u64 _ _ (by omega) (by omega) (by omega), u64_in (n := (p : Int) * 4294967296) (by omega) (by omega), u64_in (by omega) (by omega), ← e2]
        simp only [Int.toNat_natCast]
        congr 2
        generalize q - 1 = z
        omega
      · rw [if_neg (by omega)]
        exact dig2 hy ha hb hyl hu hd hn t k (q - 1) (r + a) hp hs (by omega) (by omega) hq1 (by omega) (by omega) (by omega)
    rw [bits_Div64.l1]
    by_cases c : (q : Int) ≥ 4294967296
    · rw [if_pos c]
      exact go (ask.mp (.inl (by omega)))
    · rw [if_neg c]
      have hbq : q * b ≤ 4294967295 * 4294967295 := Nat.mul_le_mul (by omega) (by omega)
      have h1 : IntKind.u64.wrap ((q : Int) * (b : Int)) = ((q * b : Nat) : Int) := by
        rw [← Int.natCast_mul, u64_in (by omega) (by omega)]
      have h2 : IntKind.u64.wrap (IntKind.u64.wrap (4294967296 * (r : Int)) + (d : Int)) = ((4294967296 * r + d : Nat) : Int) := by
        rw [u64_in (n := 4294967296 * (r : Int)) (by omega) (by omega), u64_in (by omega) (by omega)]; omega
      rw [h1, h2]
      by_cases c2 : q * b > 4294967296 * r + d
      · rw [show decide (((q * b : Nat) : Int) > ((4294967296 * r + d : Nat) : Int)) = true by simp only [decide_eq_true_eq]; omega]
        exact go (ask.mp (.inr c2))
      · rw [show decide (((q * b : Nat) : Int) > ((4294967296 * r + d : Nat) : Int)) = false by simp only [decide_eq_false_iff_not]; omega]
        exact stop (fun h => by have := ask.mpr h; omega)
theorem div64_tells {H L D : Nat} (hH : H < D) (hL : L < 18446744073709551616) (hD : D < 18446744073709551616) {k : Nat} (hk : 20 ≤ k) :
    bits_Div64.f k (H : Int) (L : Int) (D : Int) = some ((((18446744073709551616 * H + L) / D : Nat) : Int), (((18446744073709551616 * H + L) % D : Nat) : Int)) := by
  unfold bits_Div64.f
  rw [if_neg (by omega), if_neg (by omega)]
  by_cases h0 : (H : Int) = 0
  · obtain rfl : H = 0 := by omega
    have h1 : L / D ≤ L := Nat.div_le_self _ _
    rw [if_pos h0, tdiv_nat, tmod_nat, Nat.mul_zero, Nat.zero_add]
    generalize L / D = z at *
    rw [u64_in (by omega) (by omega)]
  · rw [if_neg h0]
    obtain ⟨k1, rfl⟩ : ∃ m, k = m + 1 := ⟨k - 1, by omega⟩
    obtain ⟨s, hs, hs64, hy0, hy1⟩ := lead_tells (x := D) (by omega) hD k1
    have h64 : IntKind.u64.wrap (64 - (s : Int)) = ((64 - s : Nat) : Int) := by rw [u64_in (by omega) (by omega)]; omega
    have hps := Nat.two_pow_pos s
    have hL2 : L / 2 ^ (64 - s) < 2 ^ s := by
      rw [Nat.div_lt_iff_lt_mul (Nat.two_pow_pos _), ← Nat.pow_add, show s + (64 - s) = 64 by omega]
      exact hL
    have hHs : (H + 1) * 2 ^ s ≤ D * 2 ^ s := Nat.mul_le_mul_right _ hH
    rw [Nat.add_mul, Nat.one_mul] at hHs
    have eD : shl .u64 (D : Int) (s : Int) = ((D * 2 ^ s : Nat) : Int) := by
      unfold shl
      rw [show min ((s : Int)).toNat IntKind.u64.bits = s by simp [IntKind.bits]; omega, show ((D : Int)) * 2 ^ s = ((D * 2 ^ s : Nat) : Int) by simp, u64_in (by omega) (by omega)]
    have eH : shl .u64 (H : Int) (s : Int) = ((H * 2 ^ s : Nat) : Int) := by
      unfold shl
      rw [show min ((s : Int)).toNat IntKind.u64.bits = s by simp [IntKind.bits]; omega, show ((H : Int)) * 2 ^ s = ((H * 2 ^ s : Nat) : Int) by simp, u64_in (by omega) (by omega)]
    have eL : shl .u64 (L : Int) (s : Int) = ((L * 2 ^ s % 18446744073709551616 : Nat) : Int) := by
      unfold shl
      rw [show min ((s : Int)).toNat IntKind.u64.bits = s by simp [IntKind.bits]; omega, show ((L : Int)) * 2 ^ s = ((L * 2 ^ s : Nat) : Int) by simp, u64_emod]
      rfl
    have eR : shr .u64 (L : Int) ((64 - s : Nat) : Int) = ((L / 2 ^ (64 - s) : Nat) : Int) := by
      unfold shr
      rw [show min (((64 - s : Nat) : Int)).toNat IntKind.u64.bits = 64 - s by simp [IntKind.bits]]
      simp
    have eO : Go.bits .or .u64 ((H * 2 ^ s : Nat) : Int) ((L / 2 ^ (64 - s) : Nat) : Int) = ((H * 2 ^ s + L / 2 ^ (64 - s) : Nat) : Int) := by
      rw [u64_or_nat _ _ (by omega) (by omega)]
      have := Nat.two_pow_add_eq_or_of_lt hL2 H
      rw [Nat.mul_comm (2 ^ s)] at this
      rw [this]
    rw [hs]
    simp only [Option.bind_some]
    rw [u64_in (n := (s : Int)) (by omega) (by omega), h64, if_pos (by omega), if_pos (by omega), eD, eH, eL, eR, eO]
    have hsplit : L * 2 ^ s = 18446744073709551616 * (L / 2 ^ (64 - s)) + L * 2 ^ s % 18446744073709551616 := by
      have e1 : L * 2 ^ s / 18446744073709551616 = L / 2 ^ (64 - s) := by
        rw [show (18446744073709551616 : Nat) = 2 ^ (64 - s) * 2 ^ s by rw [← Nat.pow_add, show 64 - s + s = 64 by omega]]
        exact Nat.mul_div_mul_right _ _ hps
      rw [← e1]; exact (Nat.div_add_mod _ _).symm
    have hN : (18446744073709551616 * H + L) * 2 ^ s = 18446744073709551616 * (H * 2 ^ s + L / 2 ^ (64 - s)) + L * 2 ^ s % 18446744073709551616 := by
      rw [Nat.add_mul, Nat.mul_assoc]; omega
    have hfin : ∀ q r : Nat, 18446744073709551616 * (H * 2 ^ s + L / 2 ^ (64 - s)) + L * 2 ^ s % 18446744073709551616 = q * (D * 2 ^ s) + r → r < D * 2 ^ s → q = (18446744073709551616 * H + L) / D ∧ r / 2 ^ s = (18446744073709551616 * H + L) % D := fun q r h1 h2 => by
      rw [← hN] at h1
      have e1 : (18446744073709551616 * H + L) * 2 ^ s / (D * 2 ^ s) = q := by
        rw [h1, Nat.mul_comm q, Nat.mul_add_div (by omega), Nat.div_eq_of_lt h2, Nat.add_zero]
      have e2 : (18446744073709551616 * H + L) * 2 ^ s % (D * 2 ^ s) = r := by
        rw [h1, Nat.mul_comm q, Nat.mul_add_mod, Nat.mod_eq_of_lt h2]
      rw [Nat.mul_div_mul_right _ _ hps] at e1
      rw [Nat.mul_mod_mul_right] at e2
      refine ⟨e1.symm, ?_⟩
      rw [← e2, Nat.mul_div_cancel _ hps]
    have hu : H * 2 ^ s + L / 2 ^ (64 - s) < D * 2 ^ s := by omega
    have hlow : L * 2 ^ s % 18446744073709551616 < 18446744073709551616 := Nat.mod_lt _ (by omega)
    clear eD eH eL eR eO hsplit hN hHs hL2 h64
    generalize H * 2 ^ s + L / 2 ^ (64 - s) = u at *
    generalize L * 2 ^ s % 18446744073709551616 = w at *
    generalize D * 2 ^ s = y at *
    have ey : (y : Int) / 4294967296 = ((y / 4294967296 : Nat) : Int) := by omega
    have ew : (w : Int) / 4294967296 = ((w / 4294967296 : Nat) : Int) := by omega
    have my : Go.bits .and .u64 (y : Int) 4294967295 = ((y % 4294967296 : Nat) : Int) := by rw [and_u64 _ (by omega) (by omega)]; omega
    have mw : Go.bits .and .u64 (w : Int) 4294967295 = ((w % 4294967296 : Nat) : Int) := by rw [and_u64 _ (by omega) (by omega)]; omega
    rw [ey, ew, my, mw]
    have hy : y = 4294967296 * (y / 4294967296) + y % 4294967296 := by omega
    have ha : 2147483648 ≤ y / 4294967296 := by omega
    have hb : y % 4294967296 < 4294967296 := by omega
    have hd1 : w / 4294967296 < 4294967296 := by omega
    have hd0 : w % 4294967296 < 4294967296 := by omega
    have hw : w = 4294967296 * (w / 4294967296) + w % 4294967296 := by omega
    generalize y / 4294967296 = a at *
    generalize y % 4294967296 = b at *
    generalize w / 4294967296 = d1 at *
    generalize w % 4294967296 = d0 at *
    have first : ∀ v : Nat, v < y → IntKind.u64.wrap (Int.tdiv (v : Int) (a : Int)) = ((v / a : Nat) : Int) ∧ IntKind.u64.wrap ((v : Int) - IntKind.u64.wrap (((v / a : Nat) : Int) * (a : Int))) = ((v % a : Nat) : Int) := fun v hv => by
      have h1 : v / a ≤ v := Nat.div_le_self _ _
      have h2 : v / a * a + v % a = v := by rw [Nat.mul_comm]; exact Nat.div_add_mod v a
      rw [tdiv_nat, ← Int.natCast_mul]
      generalize v / a * a = m at *
      generalize v % a = o at *
      generalize v / a = z at *
      refine ⟨by rw [u64_in (by omega) (by omega)], ?_⟩
      rw [u64_in (n := ((m : Nat) : Int)) (by omega) (by omega), u64_in (by omega) (by omega)]
      omega
    obtain ⟨f1, f2⟩ := first u hu
    rw [if_neg (by omega), f1, f2]
    have hua : u % a < a := Nat.mod_lt _ (by omega)
    have hual : a < 4294967296 := by omega
    obtain ⟨k2, hk2, e2⟩ := dig1 (e := d0) (s := s) hy ha hb hy1 hu hd1 rfl 2 (k1 + 1) (u / a) (u % a) (dig_first_le hy ha hb hu) (dig_first_ge hy (by omega) rfl hd1) (by rw [Nat.mul_comm]; exact Nat.div_add_mod u a) (by omega) (by omega) (by omega)
    rw [e2]
    obtain ⟨k3, rfl⟩ : ∃ m, k2 = m + 1 := ⟨k2 - 1, by omega⟩
    rw [bits_Div64.j2, if_neg (by omega)]
    have hz := dig_small hu (n := 4294967296 * u + d1) rfl hd1
    have hm1 : (4294967296 * u + d1) % y < y := Nat.mod_lt _ (by omega)
    have r1 : 4294967296 * u + d1 = (4294967296 * u + d1) / y * y + (4294967296 * u + d1) % y := by rw [Nat.mul_comm _ y]; exact (Nat.div_add_mod _ y).symm
    have rw1 := rest_wrap r1 (by omega) hd1
    rw [← Int.natCast_mul, rw1]
    obtain ⟨g1, g2⟩ := first _ hm1
    rw [g1, g2]
    generalize (4294967296 * u + d1) % y = u2 at *
    generalize (4294967296 * u + d1) / y = q1 at *
    have hua2 : u2 % a < a := Nat.mod_lt _ (by omega)
    rw [dig2 hy ha hb hy1 hm1 hd0 rfl 2 k3 (u2 / a) (u2 % a) hz hs64 (dig_first_le hy ha hb hm1) (dig_first_ge hy (by omega) rfl hd0) (by rw [Nat.mul_comm]; exact Nat.div_add_mod u2 a) (by omega) (by omega) (by omega)]
    have r2 : 4294967296 * u2 + d0 = (4294967296 * u2 + d0) / y * y + (4294967296 * u2 + d0) % y := by rw [Nat.mul_comm _ y]; exact (Nat.div_add_mod _ y).symm
    have hm2 : (4294967296 * u2 + d0) % y < y := Nat.mod_lt _ (by omega)
    generalize (4294967296 * u2 + d0) % y = r at *
    generalize (4294967296 * u2 + d0) / y = q0 at *
    have last := hfin (4294967296 * q1 + q0) r (by
      rw [Nat.add_mul, Nat.mul_assoc]
      omega) hm2
    rw [last.1, last.2]
theorem both {k : Nat} {a b c : Int} {p : Int × Int × Int} (h1 : spec_DivideWide.f k a b c = some p) (h2 : impl_DivideWide.f k a b c = some p) : laws_FnExactDivideWide.f k a b c = some true := by
  unfold laws_FnExactDivideWide.f
  rw [h1, h2]
  simp only [Option.bind_some, if_true]
theorem un_wrap (a : Int) : IntKind.u64.wrap a = (un a : Int) := by rw [IntKind.wrap_u64, un_eq]
theorem divideWide_spec {k : Nat} (hk : 64 < k) (h l d : Int) : spec_DivideWide.f k h l d = some (if un h < un d then (wrap64 (((18446744073709551616 * un h + un l) / un d : Nat) : Int), wrap64 (((18446744073709551616 * un h + un l) % un d : Nat) : Int), 0) else (0, 0, 16)) := by
  unfold spec_DivideWide.f
  rw [un_wrap, un_wrap, un_wrap]
  by_cases c : un h < un d
  · rw [if_neg (by omega), divs_tells c (un_lt' l) (un_lt' d) hk, if_pos c]
    rfl
  · rw [if_pos (by omega), if_neg c]
theorem divideWide_impl {k : Nat} (hk : 20 ≤ k) (h l d : Int) : impl_DivideWide.f k h l d = some (if un h < un d then (wrap64 (((18446744073709551616 * un h + un l) / un d : Nat) : Int), wrap64 (((18446744073709551616 * un h + un l) % un d : Nat) : Int), 0) else (0, 0, 16)) := by
  unfold impl_DivideWide.f impl_BelowU.f
  rw [un_wrap, un_wrap, un_wrap]
  by_cases c : un h < un d
  · rw [show decide (((un h : Nat) : Int) < ((un d : Nat) : Int)) = true by simp only [decide_eq_true_eq]; omega, if_pos c]
    simp only [Option.bind_some, if_true]
    rw [div64_tells c (un_lt' l) (un_lt' d) hk]
    rfl
  · rw [show decide (((un h : Nat) : Int) < ((un d : Nat) : Int)) = false by simp only [decide_eq_false_iff_not]; omega, if_neg c]
    rfl
theorem FnExactDivideWide : laws_FnExactDivideWide.Pure := fun a b c _ _ _ => ⟨65, both (divideWide_spec (by omega) a b c) (divideWide_impl (by omega) a b c)⟩

end Go.Proofs.Ytmnjomglpkbifaa.Pure
