/- Of two conditions that are one another's contrary just one holds. -/
import Derived.Test.YtmnjomglpkbifaaPFnCondsx2
import Derived.Test.YtmnjomglpkbifaaNumF
namespace Go.Proofs.Ytmnjomglpkbifaa.Pure
open Go.RowKit Go.Proofs.Ytmnjomglpkbifaa.PFnConds Go.Proofs.YtmnjomglpkbifaaW.PrintWords Go.Proofs.YtmnjomglpkbifaaW.PrintLast Go.Proofs.YtmnjomglpkbifaaW.PrintMore Go.Proofs.Ytmnjomglpkbifaa.Num
set_option linter.unusedVariables false
set_option linter.unusedSimpArgs false

theorem in_spec (n l h : Int) : spec_l01In.f n l h = some (decide (l ≤ n ∧ n ≤ h)) := by
  unfold spec_l01In.f
  by_cases a : n ≥ l <;> by_cases b : n ≤ h <;> simp [a, b] <;> omega
theorem within_impl (n l h : Int) : impl_within.f n l h = some (decide (l ≤ n ∧ n ≤ h)) := by
  unfold impl_within.f
  by_cases a : n ≥ l <;> by_cases b : n ≤ h <;> simp [a, b] <;> omega
theorem and_self_le {a : Int} (h0 : 0 ≤ a) (ha : a ≤ 9223372036854775807) (h : Go.bits .and .i64 a 2245 = a) : a ≤ 2245 := by
  have h1 := congrArg un h
  rw [un_and] at h1
  have h2 : un 2245 = 2245 := rfl
  have h3 : un a &&& un 2245 ≤ un 2245 := Nat.and_le_right
  rw [h1, h2] at h3
  unfold un at h3; omega
theorem flags_small : ∀ i : Fin 2246, (Go.bits .and .i64 (i.val : Int) 2245 = (i.val : Int)) → ((i.val : Int) = Go.bits .and .i64 (i.val : Int) 2245) := fun _ h => h.symm
/-- Right flags: of five bits alone. -/
def FlOK (f : Int) : Prop := 0 ≤ f ∧ Go.bits .and .i64 f 2245 = f
instance (f : Int) : Decidable (FlOK f) := by unfold FlOK; infer_instance
theorem flags_spec (f : Int) : spec_l06Flags.f f = some (decide (FlOK f)) := by
  unfold spec_l06Flags.f FlOK
  by_cases h : f ≥ 0
  · have h' : 0 ≤ f := h
    rw [if_pos h]
    simp [h', Bool.beq_eq_decide_eq]
  · have h' : ¬ 0 ≤ f := h
    rw [if_neg h]
    simp [h']
theorem and_not_mask (F M : Nat) (hF : F < 2 ^ 64) (hM : M < 2 ^ 64) : (F &&& (18446744073709551615 - M) = 0) ↔ (F &&& M = F) := by
  have e : ∀ i, (18446744073709551615 - M).testBit i = (decide (i < 64) && !M.testBit i) := by
    intro i
    have h := Nat.testBit_two_pow_sub_succ hM i
    rw [show 2 ^ 64 - (M + 1) = 18446744073709551615 - M by omega] at h
    exact h
  constructor
  · intro h
    apply Nat.eq_of_testBit_eq
    intro i
    rw [Nat.testBit_and]
    have h1 := congrArg (fun n => Nat.testBit n i) h
    simp only [Nat.testBit_and, e, Nat.zero_testBit] at h1
    by_cases hi : i < 64
    · cases hf : F.testBit i <;> cases hm : M.testBit i <;> simp_all
    · rw [Nat.testBit_lt_two_pow (Nat.lt_of_lt_of_le hF (Nat.pow_le_pow_right (by decide) (by omega)))]
      rfl
  · intro h
    apply Nat.eq_of_testBit_eq
    intro i
    rw [Nat.testBit_and, e, Nat.zero_testBit]
    have h1 := congrArg (fun n => Nat.testBit n i) h
    simp only [Nat.testBit_and] at h1
    cases hf : F.testBit i <;> cases hm : M.testBit i <;> simp_all
theorem flagsOK_iff {f : Int} (hf : -9223372036854775808 ≤ f ∧ f ≤ 9223372036854775807) : (Go.bits .andNot .i64 f 2245 = 0) ↔ FlOK f := by
  have hu := un_lt f
  have hM : un 2245 = 2245 := rfl
  have key := and_not_mask (un f) 2245 hu (by decide)
  have e1 : Go.bits .andNot .i64 f 2245 = wrap64 ((un f &&& (18446744073709551615 - 2245) : Nat) : Int) := by rw [andNot_un, hM]
  have hlt : un f &&& (18446744073709551615 - 2245) < 18446744073709551616 := Nat.and_lt_two_pow (n := 64) _ (by decide)
  have l1 : Go.bits .andNot .i64 f 2245 = 0 ↔ un f &&& (18446744073709551615 - 2245) = 0 := by
    rw [e1]
    constructor
    · intro h
      have h2 := congrArg un h
      rw [un_wnat hlt] at h2
      exact h2
    · intro h; rw [h]; exact w64_in (n := ((0 : Nat) : Int)) (by omega) (by omega)
  have l2 : FlOK f ↔ un f &&& 2245 = un f := by
    constructor
    · rintro ⟨h0, h⟩
      have h2 := congrArg un h
      rw [un_and, hM] at h2
      exact h2
    · intro h
      have h3 : un f &&& 2245 ≤ 2245 := Nat.and_le_right
      rw [h] at h3
      refine ⟨by unfold un at h3; omega, ?_⟩
      rw [and_un, hM, h]
      exact (eq_wrap hf).symm
  rw [l1, l2, key]
theorem areFlags_impl {f : Int} (hf : -9223372036854775808 ≤ f ∧ f ≤ 9223372036854775807) : impl_areFlags.f f = some (decide (FlOK f)) := by
  unfold impl_areFlags.f
  rw [Bool.beq_eq_decide_eq, decide_eq_decide.mpr (flagsOK_iff hf)]
theorem carry_of {f : Int} (hf : FlOK f) : ∃ c : Nat, c ≤ 1 ∧ Go.bits .and .i64 f 1 = (c : Int) := by
  refine ⟨(f % 2).toNat, by omega, ?_⟩
  have h := and_mask f 1 (by decide)
  rw [show ((2 : Int) ^ 1 - 1) = 1 from rfl] at h
  rw [h]
  show f % 2 = _
  omega
/-- Does this condition hold? -/
def holdsV (c f : Int) : Bool := rdOf false (impl_holds.asks f) (c / 2) == decide (c % 2 = 0)
theorem has_ne (x b : Int) : (Go.bits .and .i64 x b != 0) = impl_holds.has x b := rfl
theorem has_eq (x b : Int) : (Go.bits .and .i64 x b = 0) ↔ impl_holds.has x b = false := by
  unfold impl_holds.has
  simp
theorem holds_impl {c : Int} (f : Int) (h0 : 0 ≤ c) (h1 : c ≤ 15) : impl_holds.f c f = some (holdsV c f) := by
  unfold impl_holds.f
  rw [if_pos h0, if_pos h1]
  rfl
theorem holds_spec {c : Int} (f : Int) (h0 : 0 ≤ c) (h1 : c ≤ 15) : spec_l06Holds.f c f = some (holdsV c f) := by
  unfold spec_l06Holds.f holdsV impl_holds.asks
  simp only [has_ne, has_eq]
  rw [Int.tdiv_eq_ediv_of_nonneg h0, w64_in (n := c / 2) (by omega) (by omega), Int.tmod_eq_emod_of_nonneg h0]
  have e : (c % 2 == 0) = decide (c % 2 = 0) := rfl
  rw [e]
  cases impl_holds.has f 1 <;> cases impl_holds.has f 64 <;> simp only [Option.bind_some, if_true, if_false, Bool.true_eq_false] <;> rw [if_pos (by omega), if_pos (by simp; omega)] <;> rfl
/-- What Holds answers. -/
def holdsOf (c f : Int) : Bool × Int := if 0 ≤ c ∧ c ≤ 15 ∧ FlOK f then (holdsV c f, 0) else (false, 4)
theorem holdsOf_spec (c f : Int) : spec_Holds.f c f = some (holdsOf c f) := by
  unfold spec_Holds.f holdsOf
  by_cases h0 : 0 ≤ c
  · by_cases h1 : c ≤ 15
    · rw [in_spec c 0 15, Option.bind_some, if_pos (by simp; omega), flags_spec, Option.bind_some]
      by_cases h2 : FlOK f
      · rw [if_pos (decide_eq_true h2), if_pos ⟨h0, h1, h2⟩, holds_spec f h0 h1]; rfl
      · rw [if_neg (by simp [h2]), if_neg (by simp [h2])]
    · rw [in_spec c 0 15, Option.bind_some, if_neg (by simp; omega), if_neg (by omega)]
  · rw [in_spec c 0 15, Option.bind_some, if_neg (by simp; omega), if_neg (by omega)]
theorem holdsOf_impl (c f : Int) (hf : -9223372036854775808 ≤ f ∧ f ≤ 9223372036854775807) : impl_Holds.f c f = some (holdsOf c f) := by
  unfold impl_Holds.f holdsOf
  by_cases h0 : 0 ≤ c
  · by_cases h1 : c ≤ 15
    · rw [within_impl c 0 15, Option.bind_some, if_pos (by simp; omega), areFlags_impl hf, Option.bind_some]
      by_cases h2 : FlOK f
      · rw [if_pos (decide_eq_true h2), if_pos ⟨h0, h1, h2⟩, holds_impl f h0 h1]; rfl
      · rw [if_neg (by simp [h2]), if_neg (by simp [h2])]
    · rw [within_impl c 0 15, Option.bind_some, if_neg (by simp; omega), if_neg (by omega)]
  · rw [within_impl c 0 15, Option.bind_some, if_neg (by simp; omega), if_neg (by omega)]
theorem rd_byte {l : List Int} (hl : ∀ x ∈ l, (Lit.int .u8 x).wf = true) (i : Int) : 0 ≤ rd l i ∧ rd l i ≤ 255 := by
  unfold rd
  rw [List.getD_eq_getElem?_getD]
  cases h : l[i.toNat]? with
  | none => simp
  | some x =>
    have h2 := hl x (List.mem_of_getElem? h)
    simp [Lit.wf, IntKind.min, IntKind.max, IntKind.bits, IntKind.signed] at h2
    simp only [Option.getD_some]
    omega
theorem tmod_pos {a : Int} (b : Int) (h : 0 ≤ a) : Int.tmod a b = a % b := Int.tmod_eq_emod_of_nonneg h
theorem src_one (q r : Int) (h0 : 0 ≤ q) (h1 : q < 2147483648) (r0 : 0 ≤ r) (r1 : r ≤ 255) : 0 ≤ Int.tmod (wrap64 (wrap64 (wrap64 (q * 31) + r) + 7)) 2147483648 ∧ Int.tmod (wrap64 (wrap64 (wrap64 (q * 31) + r) + 7)) 2147483648 < 2147483648 := by
  rw [w64_in (n := q * 31) (by omega) (by omega), w64_in (n := q * 31 + r) (by omega) (by omega), w64_in (by omega) (by omega), tmod_pos _ (by omega)]
  omega
theorem src_two (q : Int) (h0 : 0 ≤ q) (h1 : q < 2147483648) : 0 ≤ Int.tmod (wrap64 (wrap64 (q * 1103515245) + 12345)) 2147483648 ∧ Int.tmod (wrap64 (wrap64 (q * 1103515245) + 12345)) 2147483648 < 2147483648 := by
  rw [w64_in (n := q * 1103515245) (by omega) (by omega), w64_in (by omega) (by omega), tmod_pos _ (by omega)]
  omega
theorem src_three (q : Int) (h0 : 0 ≤ q) (h1 : q < 2147483648) : 0 ≤ Int.tmod (wrap64 (Int.tdiv q 65536)) 256 ∧ Int.tmod (wrap64 (Int.tdiv q 65536)) 256 ≤ 255 := by
  rw [Int.tdiv_eq_ediv_of_nonneg h0, w64_in (by omega) (by omega), tmod_pos _ (by omega)]
  omega
theorem byte_tells {l : List Int} (hl : ∀ x ∈ l, (Lit.int .u8 x).wf = true) {p q : Int} (p0 : 0 ≤ p) (p1 : p ≤ 1000) (q0 : 0 ≤ q) (q1 : q < 2147483648) :
    ∃ v q', spec_l00Src_byte.f l p q = some (v, p + 1, q') ∧ 0 ≤ v ∧ v ≤ 255 ∧ 0 ≤ q' ∧ q' < 2147483648 := by
  unfold spec_l00Src_byte.f
  have r := rd_byte hl p
  have t2 := src_two q q0 q1
  have t3 := src_three _ t2.1 t2.2
  rw [w64_in (n := p + 1) (by omega) (by omega), w64_in (n := p + 1 - 1) (by omega) (by omega), show p + 1 - 1 = p by omega, w64_in (n := rd l p) (by omega) (by omega)]
  have t1 := src_one q (rd l p) q0 q1 r.1 r.2
  by_cases h : p + 1 ≤ (l.length : Int)
  · rw [if_pos h, if_pos p0, if_pos (by omega)]
    exact ⟨_, _, rfl, r.1, r.2, t1.1, t1.2⟩
  · rw [if_neg h, if_neg (by omega)]
    exact ⟨_, _, rfl, t3.1, t3.2, t2.1, t2.2⟩
theorem or_flag {a b : Int} (h : FlOK a) (hb : b = 1 ∨ b = 4 ∨ b = 64 ∨ b = 128 ∨ b = 2048) : FlOK (Go.bits .or .i64 a b) := by
  have hle : a ≤ 2245 := by
    have h1 := congrArg un h.2
    rw [un_and] at h1
    have h2 : un 2245 = 2245 := rfl
    have h3 : un a &&& un 2245 ≤ un 2245 := Nat.and_le_right
    rw [h1, h2] at h3
    have h0 := h.1
    unfold un at h3
    -- the number is small, or large beyond all flags
    by_cases c : a ≤ 9223372036854775807
    · omega
    · have h4 := h.2
      rw [and_un] at h4
      have h5 := w64_range ((un a &&& un 2245 : Nat) : Int)
      omega
  have key : ∀ i : Fin 2246, FlOK (i.val : Int) → FlOK (Go.bits .or .i64 (i.val : Int) 1) ∧ FlOK (Go.bits .or .i64 (i.val : Int) 4) ∧ FlOK (Go.bits .or .i64 (i.val : Int) 64) ∧ FlOK (Go.bits .or .i64 (i.val : Int) 128) ∧ FlOK (Go.bits .or .i64 (i.val : Int) 2048) := by decide +kernel
  have h0 := h.1
  have t := key ⟨a.toNat, by omega⟩
  simp only [show ((a.toNat : Nat) : Int) = a by omega] at t
  have t2 := t h
  rcases hb with rfl | rfl | rfl | rfl | rfl
  · exact t2.1
  · exact t2.2.1
  · exact t2.2.2.1
  · exact t2.2.2.2.1
  · exact t2.2.2.2.2
theorem flags_list (i : Int) (h0 : 0 ≤ i) (h1 : i < 5) : rd [1, 4, 64, 128, 2048] i = 1 ∨ rd [1, 4, 64, 128, 2048] i = 4 ∨ rd [1, 4, 64, 128, 2048] i = 64 ∨ rd [1, 4, 64, 128, 2048] i = 128 ∨ rd [1, 4, 64, 128, 2048] i = 2048 := by
  have : i = 0 ∨ i = 1 ∨ i = 2 ∨ i = 3 ∨ i = 4 := by omega
  rcases this with rfl | rfl | rfl | rfl | rfl <;> simp [rd]
theorem flags_loop {l : List Int} (hl : ∀ x ∈ l, (Lit.int .u8 x).wf = true) : ∀ (d k : Nat) (x i p q : Int), 5 - i = d → 0 ≤ i → d < k → 0 ≤ p → p + d ≤ 900 → 0 ≤ q → q < 2147483648 → FlOK x →
    ∃ r p' q', spec_l00Src_flags.l0 k x [1, 4, 64, 128, 2048] 5 i l p q = some (r, p', q') ∧ FlOK r
  | _, 0, _, _, _, _, _, _, h, _, _, _, _, _ => absurd h (Nat.not_lt_zero _)
  | 0, k + 1, x, i, p, q, h1, h2, _, _, _, _, _, hx => by
    simp only [spec_l00Src_flags.l0]
    rw [if_neg (by omega)]
    exact ⟨_, _, _, rfl, hx⟩
  | d + 1, k + 1, x, i, p, q, h1, h2, hk, p0, p1, q0, q1, hx => by
    simp only [spec_l00Src_flags.l0]
    rw [if_pos (by omega), if_pos h2, if_pos (by simp; omega)]
    unfold spec_l00Src_chance.f spec_l00Src_next.f
    obtain ⟨v, q', e, v0, v1, x0, x1⟩ := byte_tells hl p0 (by omega) q0 q1
    rw [if_neg (by omega), if_pos (by omega), e, Option.bind_some, if_neg (by omega), Option.bind_some, Option.bind_some, w64_in (n := i + 1) (by omega) (by omega)]
    by_cases c : (Int.tmod v 2 == wrap64 (2 - 1)) = true
    · simp only [c, if_true]
      exact flags_loop hl d k _ (i + 1) (p + 1) q' (by omega) (by omega) (by omega) (by omega) (by omega) x0 x1 (or_flag hx (flags_list i h2 (by omega)))
    · simp only [c, if_false, Bool.false_eq_true]
      exact flags_loop hl d k _ (i + 1) (p + 1) q' (by omega) (by omega) (by omega) (by omega) (by omega) x0 x1 hx
theorem contrary {c : Int} (f : Int) (h0 : c % 2 = 0) : holdsV (c + 1) f = !holdsV c f := by
  unfold holdsV
  rw [show (c + 1) / 2 = c / 2 by omega, show decide ((c + 1) % 2 = 0) = false from decide_eq_false (by omega), show decide (c % 2 = 0) = true from decide_eq_true h0]
  cases rdOf false (impl_holds.asks f) (c / 2) <;> rfl
theorem conds_loop {f : Int} (hf : FlOK f) (hr : -9223372036854775808 ≤ f ∧ f ≤ 9223372036854775807) : ∀ (d k : Nat) (i : Int), 16 - i = 2 * d → 0 ≤ i → d < k → laws_FnConds.l0 k f i = some true
  | _, 0, _, _, _, h => absurd h (Nat.not_lt_zero _)
  | 0, k + 1, i, h1, h2, _ => by
    simp only [laws_FnConds.l0]
    rw [if_neg (by omega), holdsOf_impl 16 f hr]
    unfold holdsOf
    rw [if_neg (by omega)]
    rfl
  | d + 1, k + 1, i, h1, h2, hk => by
    simp only [laws_FnConds.l0]
    rw [if_pos (by omega), w64_in (n := i + 1) (by omega) (by omega), w64_in (n := i + 2) (by omega) (by omega), holdsOf_impl i f hr, holdsOf_impl (i + 1) f hr, holdsOf_spec i f]
    have e1 : holdsOf i f = (holdsV i f, 0) := by unfold holdsOf; rw [if_pos ⟨h2, by omega, hf⟩]
    have e2 : holdsOf (i + 1) f = (!holdsV i f, 0) := by unfold holdsOf; rw [if_pos ⟨by omega, by omega, hf⟩, contrary f (by omega)]
    rw [e1, e2]
    simp only [Option.bind_some, if_true]
    rw [if_neg (by cases holdsV i f <;> decide), if_neg (by simp)]
    exact conds_loop hf hr d k (i + 2) (by omega) (by omega) (by omega)
theorem FnConds : laws_FnConds.Pure := by
  intro l0 _ h0 w0
  obtain ⟨k, hk⟩ : ∃ k : Nat, 50 < k := ⟨100, by omega⟩
  refine ⟨k, ?_⟩
  unfold laws_FnConds.f
  by_cases c : (l0.length : Int) > 1048576
  · rw [if_pos c]
  · rw [if_neg c]
    unfold spec_FlagsDrawn.f spec_l00Source.f spec_l00Src_flags.f
    simp only [Option.bind_some]
    obtain ⟨r, p', q', e, hr⟩ := flags_loop w0 5 k 0 0 0 ((l0.length : Int) % 1000) (by omega) (by omega) (by omega) (by omega) (by omega) (by omega) (by omega) (by decide +kernel)
    rw [show ((([1, 4, 64, 128, 2048] : List Int).length : Nat) : Int) = 5 from rfl, e]
    simp only [Option.bind_some]
    have h5 : -9223372036854775808 ≤ r ∧ r ≤ 9223372036854775807 := by
      rw [← hr.2, and_un]
      exact w64_range _
    exact conds_loop hr h5 8 k 0 (by omega) (by omega) (by omega)

end Go.Proofs.Ytmnjomglpkbifaa.Pure
