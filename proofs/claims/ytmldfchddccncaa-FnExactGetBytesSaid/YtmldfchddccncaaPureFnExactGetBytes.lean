/- What GetBytes answers is what the reference answers. -/
import Derived.Test.YtmldfchddccncaaPFnExactGetBytesx8
import Derived.Test.YtmldfchddccncaaNumC
import Derived.Test.YtmldfchddccncaaOpen
namespace Go.Proofs.Ytmldfchddccncaa.Pure
open Go.RowKit Go.Proofs.Ytmldfchddccncaa.PFnExactGetBytes Go.Proofs.YtmldfchddccncaaW.PrintWords Go.Proofs.YtmldfchddccncaaW.PrintLast Go.Proofs.YtmldfchddccncaaW.PrintMore Go.Proofs.Ytmldfchddccncaa.Num
set_option linter.unusedVariables false
set_option linter.unusedSimpArgs false

/-- A memory that came in, opened. -/
theorem open_mem {H : Type} {enc : TypeId × Value → H} {W : World} {r : Reach} {b0 base : Nat} {spare : Nat → Bool} {held : Bool} {v : Value} {d : DataW H} {p : List MemPlace}
    (hv : Value.okWide Try.prog W r b0 24 v) (h : DataW.Trod enc Try.prog W base spare held 24 v d p) :
    ∃ (A : Option Addr) (c : Nat) (l : List S66), v = .agg #[.slice A l.length c] ∧ Kd.C k66 W A l.length l ∧ l.length ≤ c ∧ (l.length ≤ 9223372036854775807 ∧ ∀ x ∈ l, x.f2.size ≤ 9223372036854775807) := by
  obtain ⟨A, c, l, rfl, hc, hm, hx, hw⟩ := Open.open_pages Try.underlying24 (by kernel_rfl) (by kernel_rfl) Try.underlying22 Try.underlying66 (by kernel_rfl) (by kernel_rfl) Try.underlying3 Try.underlying3 Try.underlying9 hv h
  refine ⟨A, c, l.map fun x => (⟨x.1, x.2.1, x.2.2⟩ : S66), by simp, ⟨rfl, by simp; omega, fun hp => ?_⟩, by simpa using hc, by simp; omega, fun x hxx => ?_⟩
  · rw [List.length_map] at hp
    obtain ⟨ad, rfl, hcell⟩ := hx hp
    refine ⟨ad, rfl, fun j q hj => ?_⟩
    rw [List.getElem?_map] at hj
    obtain ⟨y, hy, rfl⟩ := Option.map_eq_some_iff.1 hj
    obtain ⟨h0, h1, h2⟩ := hcell j y hy
    refine ⟨_, rfl, k66_mk W _, fun i u hi => ?_⟩
    match i, hi with
    | 0, hi => obtain rfl := Option.some.inj hi; exact h0
    | 1, hi => obtain rfl := Option.some.inj hi; exact h1
    | 2, hi => obtain rfl := Option.some.inj hi; exact h2
  · obtain ⟨y, hy, rfl⟩ := List.mem_map.1 hxx
    exact (hw y hy).2.2
theorem in_spec (n l h : Int) : spec_l01In.f n l h = some (decide (l ≤ n ∧ n ≤ h)) := by
  unfold spec_l01In.f
  by_cases a : n ≥ l <;> by_cases b : n ≤ h <;> simp [a, b] <;> omega
theorem within_impl (n l h : Int) : impl_within.f n l h = some (decide (l ≤ n ∧ n ≤ h)) := by
  unfold impl_within.f
  by_cases a : n ≥ l <;> by_cases b : n ≤ h <;> simp [a, b] <;> omega
/-- A page of the law's own type as one of the program's. -/
def conv (x : S66) : S55 := ⟨x.f0, x.f1, x.f2⟩
theorem rd66_get {l : List S66} {i : Nat} (h : i < l.length) : rd_T66 l (i : Int) = l[i] := by
  unfold rd_T66
  simp [List.getD_eq_getElem?_getD, List.getElem?_eq_getElem h]
theorem rd55_get {l : List S55} {i : Nat} (h : i < l.length) : rd_T55 l (i : Int) = l[i] := by
  unfold rd_T55
  simp [List.getD_eq_getElem?_getD, List.getElem?_eq_getElem h]
theorem sz_loop (l : List S66) (hl : l.length ≤ 1048576) (hx : ∀ x ∈ l, x.f2.size ≤ 9223372036854775807) : ∀ (d k i : Nat) (left : Int), i + d = l.length → d < k → 0 ≤ left → left ≤ 1048576 →
    ∃ r, laws_szPageS.l0 k l left (i : Int) = some r ∧ (r < 0 ∨ (0 ≤ r ∧ r ≤ left ∧ ∀ j : Nat, i ≤ j → ∀ h : j < l.length, (l[j].f2.size : Int) ≤ left))
  | _, 0, _, _, _, h, _, _ => absurd h (Nat.not_lt_zero _)
  | 0, k + 1, i, left, h1, _, h0, h3 => by
    simp only [laws_szPageS.l0]
    rw [if_neg (by omega)]
    exact ⟨left, rfl, .inr ⟨h0, Int.le_refl _, fun j hj hl => by omega⟩⟩
  | d + 1, k + 1, i, left, h1, h2, h0, h3 => by
    simp only [laws_szPageS.l0]
    have hi : i < l.length := by omega
    have hs := hx l[i] (List.getElem_mem hi)
    rw [if_pos (by omega), if_pos (by omega), rd66_get hi]
    unfold laws_szPage.f
    rw [w64_in (n := left - _) (by omega) (by omega)]
    by_cases c : left - (l[i].f2.size : Int) < 0
    · rw [if_pos c, Option.bind_some, if_pos (by omega)]
      exact ⟨_, rfl, .inl (by omega)⟩
    · rw [if_neg c, Option.bind_some, if_neg c, w64_in (n := (i : Int) + 1) (by omega) (by omega)]
      obtain ⟨r, e, hr⟩ := sz_loop l hl hx d k (i + 1) (left - (l[i].f2.size : Int)) (by omega) (by omega) (by omega) (by omega)
      refine ⟨r, e, ?_⟩
      rcases hr with hr | ⟨r0, r1, hr⟩
      · exact .inl hr
      · refine .inr ⟨r0, by omega, fun j hj hjl => ?_⟩
        by_cases e : j = i
        · subst e; omega
        · have := hr j (by omega) hjl
          omega
theorem sz_tells (l : List S66) (hl : l.length ≤ 9223372036854775807) (hx : ∀ x ∈ l, x.f2.size ≤ 9223372036854775807) {k : Nat} (hk : 1048580 ≤ k) {left : Int} (h0 : 0 ≤ left) (h1 : left ≤ 1048576) :
    ∃ r, laws_szMemory.f k l left = some r ∧ (r < 0 ∨ (0 ≤ r ∧ r ≤ left ∧ (l.length : Int) ≤ left ∧ ∀ x ∈ l, (x.f2.size : Int) ≤ left)) := by
  unfold laws_szMemory.f laws_szPageS.f
  rw [w64_in (n := left - _) (by omega) (by omega)]
  by_cases c : left - (l.length : Int) < 0
  · rw [if_pos c, Option.bind_some, if_pos (by omega)]
    exact ⟨_, rfl, .inl (by omega)⟩
  · rw [if_neg c]
    obtain ⟨r, e, hr⟩ := sz_loop l (by omega) hx l.length k 0 (left - (l.length : Int)) (by omega) (by omega) (by omega) (by omega)
    rw [show ((0 : Nat) : Int) = 0 from rfl] at e
    rw [e, Option.bind_some]
    by_cases c2 : r < 0
    · rw [if_pos c2]
      exact ⟨_, rfl, .inl (by omega)⟩
    · rw [if_neg c2]
      refine ⟨_, rfl, .inr ⟨by omega, by omega, by omega, fun x hx => ?_⟩⟩
      rcases hr with hr | ⟨_, _, hr⟩
      · omega
      · obtain ⟨j, hj, rfl⟩ := List.mem_iff_getElem.1 hx
        have := hr j (by omega) hj
        omega
theorem to_loop (l : List S66) (hl : l.length ≤ 1048576) : ∀ (d k i : Nat), i + d = l.length → d < k →
    laws_toPageS.l0 k l ((l.take i).map conv ++ List.replicate d z55) (i : Int) = some (l.map conv)
  | _, 0, _, _, h => absurd h (Nat.not_lt_zero _)
  | 0, k + 1, i, h1, _ => by
    simp only [laws_toPageS.l0]
    rw [if_neg (by omega), List.take_of_length_le (by omega)]
    simp
  | d + 1, k + 1, i, h1, h2 => by
    simp only [laws_toPageS.l0]
    have hi : i < l.length := by omega
    rw [if_pos (by omega), if_pos (by omega), rd66_get hi]
    unfold laws_toPage.f
    rw [Option.bind_some, if_pos (by simp; omega), w64_in (n := (i : Int) + 1) (by omega) (by omega), Int.toNat_natCast]
    have e : ((l.take i).map conv ++ List.replicate (d + 1) z55).set i (⟨l[i].f0, l[i].f1, l[i].f2⟩ : S55) = (l.take (i + 1)).map conv ++ List.replicate d z55 := by
      have hlen : ((l.take i).map conv).length = i := by simp; omega
      rw [List.set_append_right _ _ (by omega), hlen, Nat.sub_self, List.replicate_succ, List.set_cons_zero, List.take_succ_eq_append_getElem hi, List.map_append, List.append_assoc]
      rfl
    rw [e]
    exact to_loop l hl d k (i + 1) (by omega) (by omega)
theorem to_tells (l : List S66) (hl : l.length ≤ 1048576) {k : Nat} (hk : 1048580 ≤ k) : laws_toMemory.f k l = some (l.map conv) := by
  unfold laws_toMemory.f laws_toPageS.f
  rw [if_pos (by omega), if_pos (by omega), Int.toNat_natCast]
  have h := to_loop l hl l.length k 0 (by omega) (by omega)
  rw [List.take_zero, List.map_nil, List.nil_append] at h
  rw [show (0 : Int) = ((0 : Nat) : Int) from rfl, h, Option.bind_some]
theorem eq_loop (l : List S55) (hl : l.length ≤ 1048576) : ∀ (d k i : Nat), i + d = l.length → d < k → laws_eqPageS.l0 k l l (i : Int) = some true
  | _, 0, _, _, h => absurd h (Nat.not_lt_zero _)
  | 0, k + 1, i, h1, _ => by
    simp only [laws_eqPageS.l0]
    rw [if_neg (by omega)]
  | d + 1, k + 1, i, h1, h2 => by
    simp only [laws_eqPageS.l0]
    unfold laws_eqPage.f
    rw [if_pos (by omega), if_pos (by omega), if_pos (by omega), if_pos rfl, if_pos rfl, if_pos rfl, Option.bind_some, if_pos rfl, w64_in (n := (i : Int) + 1) (by omega) (by omega)]
    exact eq_loop l hl d k (i + 1) (by omega) (by omega)
theorem eq_tells (l : List S55) (hl : l.length ≤ 1048576) {k : Nat} (hk : 1048580 ≤ k) : laws_eqMemory.f k l l = some true := by
  unfold laws_eqMemory.f laws_eqPageS.f
  rw [if_pos rfl, show (0 : Int) = ((0 : Nat) : Int) from rfl, eq_loop l hl l.length k 0 (by omega) (by omega), Option.bind_some, if_pos rfl]
/-- Is page i right, and behind the one ahead of it? -/
def pgOK (l : List S55) (i : Int) : Bool :=
  decide (0 ≤ (rd_T55 l i).f0 ∧ (rd_T55 l i).f0 ≤ 65535 ∧ (rd_T55 l i).f0 % 256 = 0) && (decide (0 ≤ (rd_T55 l i).f1 ∧ (rd_T55 l i).f1 ≤ 7) && (decide (((rd_T55 l i).f2.size : Int) = 256) && decide (0 < i → (rd_T55 l (i - 1)).f0 < (rd_T55 l i).f0)))
def allFrom (l : List S55) (i : Int) : Nat → Bool
  | 0 => true
  | d + 1 => pgOK l i && allFrom l (i + 1) d
def memOK (l : List S55) : Bool := decide (l.length ≤ 32) && allFrom l 0 l.length
theorem base_spec (b : Int) : spec_l02Base.f b = some (decide (0 ≤ b ∧ b ≤ 65535 ∧ b % 256 = 0)) := by
  unfold spec_l02Base.f
  rw [in_spec, Option.bind_some]
  by_cases c : 0 ≤ b ∧ b ≤ 65535
  · rw [if_pos (decide_eq_true c), Int.tmod_eq_emod_of_nonneg c.1, Bool.beq_eq_decide_eq]
    congr 1
    rw [decide_eq_decide]
    exact ⟨fun h => ⟨c.1, c.2, h⟩, fun h => h.2.2⟩
  · rw [if_neg (by simpa using c)]
    congr 1
    exact (decide_eq_false (fun h => c ⟨h.1, h.2.1⟩)).symm
theorem perm_spec (b : Int) : spec_l02Perm.f b = some (decide (0 ≤ b ∧ b ≤ 7)) := by
  unfold spec_l02Perm.f
  rw [in_spec, Option.bind_some]
theorem base_impl (b : Int) : impl_isBase.f b = some (decide (0 ≤ b ∧ b ≤ 65535 ∧ b % 256 = 0)) := by
  unfold impl_isBase.f
  rw [within_impl, Option.bind_some]
  by_cases c : 0 ≤ b ∧ b ≤ 65535
  · rw [if_pos (decide_eq_true c), Int.tmod_eq_emod_of_nonneg c.1, Bool.beq_eq_decide_eq]
    congr 1
    rw [decide_eq_decide]
    exact ⟨fun h => ⟨c.1, c.2, h⟩, fun h => h.2.2⟩
  · rw [if_neg (by simpa using c)]
    congr 1
    exact (decide_eq_false (fun h => c ⟨h.1, h.2.1⟩)).symm
theorem perm_impl (b : Int) : impl_isPerm.f b = some (decide (0 ≤ b ∧ b ≤ 7)) := by
  unfold impl_isPerm.f
  rw [within_impl, Option.bind_some]
theorem ok_spec_loop (l : List S55) (hl : l.length ≤ 1048576) : ∀ (d k : Nat) (i : Int), i + d = l.length → 0 ≤ i → d < k → spec_MemoryOK.l0 k i l = some (allFrom l i d)
  | _, 0, _, _, _, h => absurd h (Nat.not_lt_zero _)
  | 0, k + 1, i, h1, h0, _ => by
    simp only [spec_MemoryOK.l0]
    rw [if_neg (by omega)]
    rfl
  | d + 1, k + 1, i, h1, h0, h2 => by
    have ih := ok_spec_loop l hl d k (i + 1) (by omega) (by omega) (by omega)
    simp only [spec_MemoryOK.l0, allFrom]
    unfold pgOK
    rw [if_pos (by omega), if_pos h0, base_spec, Option.bind_some]
    by_cases c1 : 0 ≤ (rd_T55 l i).f0 ∧ (rd_T55 l i).f0 ≤ 65535 ∧ (rd_T55 l i).f0 % 256 = 0
    · rw [if_pos (decide_eq_true c1), perm_spec, Option.bind_some, decide_eq_true c1, Bool.true_and]
      by_cases c2 : 0 ≤ (rd_T55 l i).f1 ∧ (rd_T55 l i).f1 ≤ 7
      · rw [if_pos (decide_eq_true c2), decide_eq_true c2, Bool.true_and]
        by_cases c3 : ((rd_T55 l i).f2.size : Int) = 256
        · rw [if_pos c3, decide_eq_true c3, Bool.true_and, w64_in (n := i + 1) (by omega) (by omega), ih]
          by_cases c4 : i > 0
          · rw [if_pos c4, w64_in (n := i - 1) (by omega) (by omega), if_pos (by omega), if_pos (by omega)]
            by_cases c5 : (rd_T55 l i).f0 ≤ (rd_T55 l (i - 1)).f0
            · rw [if_pos c5, decide_eq_false (fun h => by have := h c4; omega), Bool.false_and]
            · rw [if_neg c5, decide_eq_true (fun _ => by omega), Bool.true_and]
          · rw [if_neg c4, decide_eq_true (fun h => absurd h c4), Bool.true_and]
        · rw [if_neg c3, decide_eq_false c3, Bool.false_and, Bool.false_and]
      · rw [if_neg (by simpa using c2), decide_eq_false c2, Bool.false_and, Bool.false_and]
    · rw [if_neg (by simpa using c1), decide_eq_false c1, Bool.false_and, Bool.false_and]
theorem ok_impl_loop (l : List S55) (hl : l.length ≤ 1048576) : ∀ (d k : Nat) (i : Int), i + d = l.length → 0 ≤ i → d < k → impl_MemoryOK.l0 k l (l.length : Int) i l = some (allFrom l i d && decide ((l.length : Int) ≤ 32))
  | _, 0, _, _, _, h => absurd h (Nat.not_lt_zero _)
  | 0, k + 1, i, h1, h0, _ => by
    simp only [impl_MemoryOK.l0]
    rw [if_neg (by omega)]
    rfl
  | d + 1, k + 1, i, h1, h0, h2 => by
    have ih := ok_impl_loop l hl d k (i + 1) (by omega) (by omega) (by omega)
    simp only [impl_MemoryOK.l0, allFrom]
    unfold pgOK
    rw [if_pos (by omega), if_pos h0, if_pos (by omega), base_impl, Option.bind_some]
    by_cases c1 : 0 ≤ (rd_T55 l i).f0 ∧ (rd_T55 l i).f0 ≤ 65535 ∧ (rd_T55 l i).f0 % 256 = 0
    · rw [if_pos (decide_eq_true c1), perm_impl, Option.bind_some, decide_eq_true c1, Bool.true_and]
      by_cases c2 : 0 ≤ (rd_T55 l i).f1 ∧ (rd_T55 l i).f1 ≤ 7
      · rw [if_pos (decide_eq_true c2), decide_eq_true c2, Bool.true_and]
        by_cases c3 : ((rd_T55 l i).f2.size : Int) = 256
        · rw [if_pos c3, decide_eq_true c3, Bool.true_and, w64_in (n := i + 1) (by omega) (by omega), ih]
          by_cases c4 : i > 0
          · rw [if_pos c4, w64_in (n := i - 1) (by omega) (by omega), if_pos (by omega), if_pos (by omega)]
            by_cases c5 : (rd_T55 l i).f0 ≤ (rd_T55 l (i - 1)).f0
            · rw [if_pos c5, decide_eq_false (fun h => by have := h c4; omega), Bool.false_and, Bool.false_and]
            · rw [if_neg c5, decide_eq_true (fun _ => by omega), Bool.true_and]
          · rw [if_neg c4, decide_eq_true (fun h => absurd h c4), Bool.true_and]
        · rw [if_neg c3, decide_eq_false c3, Bool.false_and, Bool.false_and, Bool.false_and]
      · rw [if_neg (by simpa using c2), decide_eq_false c2, Bool.false_and, Bool.false_and, Bool.false_and]
    · rw [if_neg (by simpa using c1), decide_eq_false c1, Bool.false_and, Bool.false_and, Bool.false_and]
theorem ok_spec (l : List S55) (hl : l.length ≤ 1048576) {k : Nat} (hk : 1048580 ≤ k) : spec_MemoryOK.f k l = some (memOK l) := by
  unfold spec_MemoryOK.f memOK
  by_cases c : (l.length : Int) > 32
  · rw [if_pos c, decide_eq_false (by omega), Bool.false_and]
  · rw [if_neg c, decide_eq_true (by omega), Bool.true_and, ok_spec_loop l hl l.length k 0 (by omega) (by omega) (by omega)]
theorem ok_impl (l : List S55) (hl : l.length ≤ 1048576) {k : Nat} (hk : 1048580 ≤ k) : impl_MemoryOK.f k l = some (memOK l) := by
  unfold impl_MemoryOK.f memOK
  rw [ok_impl_loop l hl l.length k 0 (by omega) (by omega) (by omega), Bool.and_comm]
  congr 2
  rw [decide_eq_decide]
  omega
theorem allFrom_at {l : List S55} : ∀ (d : Nat) (i : Int) (j : Nat), allFrom l i d = true → j < d → pgOK l (i + j) = true
  | 0, _, _, _, h => absurd h (Nat.not_lt_zero _)
  | d + 1, i, 0, h, _ => by
    simp only [allFrom, Bool.and_eq_true] at h
    simpa using h.1
  | d + 1, i, j + 1, h, hj => by
    simp only [allFrom, Bool.and_eq_true] at h
    have := allFrom_at d (i + 1) j h.2 (by omega)
    rw [show i + 1 + (j : Int) = i + ((j + 1 : Nat) : Int) by omega] at this
    exact this
/-- What right memory is like. -/
theorem memOK_facts {l : List S55} (h : memOK l = true) : l.length ≤ 32 ∧ ∀ i : Int, 0 ≤ i → i < l.length →
    0 ≤ (rd_T55 l i).f0 ∧ (rd_T55 l i).f0 ≤ 65535 ∧ (rd_T55 l i).f0 % 256 = 0 ∧ 0 ≤ (rd_T55 l i).f1 ∧ (rd_T55 l i).f1 ≤ 7 ∧ ((rd_T55 l i).f2.size : Int) = 256 ∧ (0 < i → (rd_T55 l (i - 1)).f0 < (rd_T55 l i).f0) := by
  unfold memOK at h
  simp only [Bool.and_eq_true, decide_eq_true_eq] at h
  refine ⟨h.1, fun i h0 h1 => ?_⟩
  have hp := allFrom_at l.length 0 i.toNat h.2 (by omega)
  rw [show (0 : Int) + (i.toNat : Int) = i by omega] at hp
  unfold pgOK at hp
  simp only [Bool.and_eq_true, decide_eq_true_eq] at hp
  exact ⟨hp.1.1, hp.1.2.1, hp.1.2.2, hp.2.1.1, hp.2.1.2, hp.2.2.1, hp.2.2.2⟩
/-- The number of the page that has an address; -1 of none. -/
def pgOf (l : List S55) (a : Int) : Int := if 0 ≤ a ∧ a ≤ 65535 then impl_Memory_pageOf.find (a - a % 256) l 0 else -1
theorem page_impl (l : List S55) (a : Int) : impl_Memory_pageOf.f l a = some (pgOf l a) := by
  unfold impl_Memory_pageOf.f pgOf
  by_cases h0 : 0 ≤ a
  · by_cases h1 : a ≤ 65535
    · rw [if_pos h0, if_pos h1, if_pos ⟨h0, h1⟩]
    · rw [if_pos h0, if_neg h1, if_neg (by omega)]
  · rw [if_neg h0, if_neg (by omega)]
theorem find_facts (b : Int) : ∀ (l : List S55) (i : Int), impl_Memory_pageOf.find b l i = -1 ∧ (∀ x ∈ l, x.f0 ≠ b) ∨ ∃ j : Nat, ∃ h : j < l.length, impl_Memory_pageOf.find b l i = i + j ∧ l[j].f0 = b
  | [], i => .inl ⟨rfl, by simp⟩
  | x :: xs, i => by
    simp only [impl_Memory_pageOf.find]
    by_cases c : (x.f0 == b) = true
    · rw [if_pos c]
      exact .inr ⟨0, by simp, by simp, by simpa using c⟩
    · rw [if_neg c]
      rcases find_facts b xs (i + 1) with ⟨h1, h2⟩ | ⟨j, hj, h1, h2⟩
      · refine .inl ⟨h1, fun y hy => ?_⟩
        rcases List.mem_cons.1 hy with rfl | hy
        · simpa using c
        · exact h2 y hy
      · exact .inr ⟨j + 1, by simp; omega, by rw [h1]; omega, by simpa using h2⟩
theorem pgOf_facts (l : List S55) (a : Int) : pgOf l a = -1 ∨ (0 ≤ pgOf l a ∧ pgOf l a < l.length ∧ 0 ≤ a ∧ a ≤ 65535 ∧ (rd_T55 l (pgOf l a)).f0 = a - a % 256) := by
  unfold pgOf
  by_cases c : 0 ≤ a ∧ a ≤ 65535
  · rw [if_pos c]
    rcases find_facts (a - a % 256) l 0 with ⟨h, _⟩ | ⟨j, hj, h1, h2⟩
    · exact .inl h
    · refine .inr ⟨by omega, by omega, c.1, c.2, ?_⟩
      rw [h1, show (0 : Int) + (j : Int) = (j : Int) by omega, rd55_get hj]
      exact h2
  · rw [if_neg c]
    exact .inl rfl
theorem find_loop {l : List S55} (hl : memOK l = true) (a : Int) (ha : -9223372036854775808 ≤ a ∧ a ≤ 9223372036854775807) : ∀ (d k i : Nat), i + d = l.length → d < k →
    spec_l02Find.l0 k a (i : Int) l = some (if 0 ≤ a ∧ a ≤ 65535 then impl_Memory_pageOf.find (a - a % 256) (l.drop i) i else -1)
  | _, 0, _, _, h => absurd h (Nat.not_lt_zero _)
  | 0, k + 1, i, h1, _ => by
    simp only [spec_l02Find.l0]
    rw [if_neg (by omega), List.drop_of_length_le (by omega)]
    simp [impl_Memory_pageOf.find]
  | d + 1, k + 1, i, h1, h2 => by
    have ih := find_loop hl a ha d k (i + 1) (by omega) (by omega)
    obtain ⟨h32, hf⟩ := memOK_facts hl
    have hi : i < l.length := by omega
    obtain ⟨f1, f2, f3, _, _, _, _⟩ := hf (i : Int) (by omega) (by omega)
    rw [rd55_get hi] at f1 f2 f3
    simp only [spec_l02Find.l0]
    rw [if_pos (by omega), if_pos (by omega), rd55_get hi, w64_in (n := (i : Int) + 1) (by omega) (by omega), show (i : Int) + 1 = ((i + 1 : Nat) : Int) by omega, ih]
    rw [List.drop_eq_getElem_cons hi]
    simp only [impl_Memory_pageOf.find]
    rw [show (i : Int) + 1 = ((i + 1 : Nat) : Int) by omega]
    by_cases c : l[i].f0 ≤ a
    · rw [if_pos c, w64_in (n := a - _) (by omega) (by omega)]
      by_cases c2 : a - l[i].f0 < 256
      · have e : l[i].f0 = a - a % 256 := by omega
        rw [if_pos c2, if_pos (by omega), if_pos (by simpa using e)]
      · have e : ¬ (l[i].f0 == a - a % 256) = true := by simp; omega
        rw [if_neg c2, if_neg e]
    · by_cases c2 : 0 ≤ a ∧ a ≤ 65535
      · have e : ¬ (l[i].f0 == a - a % 256) = true := by simp; omega
        rw [if_neg c, if_neg e]
      · rw [if_neg c, if_neg c2, if_neg c2]
theorem find_spec {l : List S55} (hl : memOK l = true) (a : Int) (ha : -9223372036854775808 ≤ a ∧ a ≤ 9223372036854775807) {k : Nat} (hk : 32 < k) : spec_l02Find.f k l a = some (pgOf l a) := by
  unfold spec_l02Find.f pgOf
  have h32 := (memOK_facts hl).1
  have h := find_loop hl a ha l.length k 0 (by omega) (by omega)
  rw [List.drop_zero] at h
  exact h
/-- The byte at an address that there is. -/
def byteAtA (l : List S55) (a : Int) : Int := bt (rd_T55 l (pgOf l a)).f2 (a % 256)
def memFrom (l : List S55) (a i : Int) : Nat → List Int
  | 0 => []
  | d + 1 => byteAtA l (a + i) :: memFrom l a (i + 1) d
theorem page_at {l : List S55} (hl : memOK l = true) {a : Int} (hp : 0 ≤ pgOf l a) : pgOf l a < l.length ∧ 0 ≤ a ∧ a ≤ 65535 ∧ (rd_T55 l (pgOf l a)).f0 = a - a % 256 ∧ ((rd_T55 l (pgOf l a)).f2.size : Int) = 256 ∧ 0 ≤ (rd_T55 l (pgOf l a)).f1 ∧ (rd_T55 l (pgOf l a)).f1 ≤ 7 := by
  rcases pgOf_facts l a with h | ⟨p0, p1, a0, a1, e⟩
  · omega
  · obtain ⟨_, _, _, g1, g2, g3, _⟩ := (memOK_facts hl).2 _ p0 p1
    exact ⟨p1, a0, a1, e, g3, g1, g2⟩
theorem get_loop {l : List S55} (hl : memOK l = true) (a n : Int) (a0 : 0 ≤ a) (a1 : a ≤ 65535) (hn : n ≤ 70000) : ∀ (d k : Nat) (i : Int) (acc : List Int), i + d = n → 0 ≤ i → d + 40 < k → acc.length = i → (∀ j, i ≤ j → j < n → 0 ≤ pgOf l (a + j)) →
    spec_l02Get.l0 k a n acc i l = some (strOfNums (acc ++ memFrom l a i d))
  | _, 0, _, _, _, _, h, _, _ => absurd h (Nat.not_lt_zero _)
  | 0, k + 1, i, acc, h1, h0, _, _, _ => by
    simp only [spec_l02Get.l0]
    rw [if_neg (by omega)]
    simp [memFrom]
  | d + 1, k + 1, i, acc, h1, h0, h2, h3, hp => by
    have hpi := hp i (Int.le_refl _) (by omega)
    obtain ⟨p1, b0, b1, e, hs, _, _⟩ := page_at hl hpi
    simp only [spec_l02Get.l0]
    rw [if_pos (by omega), w64_in (n := a + i) (by omega) (by omega), find_spec hl (a + i) (by omega) (by omega), Option.bind_some, if_pos hpi, if_pos p1, e, w64_in (n := a + i - _) (by omega) (by omega), if_pos (by omega), if_pos (by omega), if_pos (by omega), w64_in (n := i + 1) (by omega) (by omega)]
    rw [get_loop hl a n a0 a1 hn d k (i + 1) _ (by omega) (by omega) (by omega) (by simp; omega) (fun j hj hj2 => hp j (by omega) hj2), List.append_assoc]
    rw [show a + i - (a + i - (a + i) % 256) = (a + i) % 256 by omega]
    rfl
theorem bytes_loop {l : List S55} (hl : memOK l = true) (a n : Int) (a0 : 0 ≤ a) (a1 : a ≤ 65535) (hn : n ≤ 70000) : ∀ (d k : Nat) (i : Int) (acc : List Int), i + d = n → 0 ≤ i → d + 40 < k → acc.length = i → (∀ j, i ≤ j → j < n → 0 ≤ pgOf l (a + j)) →
    impl_Memory_bytes.l0 k a (acc ++ List.replicate d 0) n i l = some (strOfNums (acc ++ memFrom l a i d))
  | _, 0, _, _, _, _, h, _, _ => absurd h (Nat.not_lt_zero _)
  | 0, k + 1, i, acc, h1, h0, _, _, _ => by
    simp only [impl_Memory_bytes.l0]
    rw [if_neg (by omega)]
    simp [memFrom]
  | d + 1, k + 1, i, acc, h1, h0, h2, h3, hp => by
    have hpi := hp i (Int.le_refl _) (by omega)
    obtain ⟨p1, b0, b1, e, hs, _, _⟩ := page_at hl hpi
    simp only [impl_Memory_bytes.l0]
    rw [if_pos (by omega), w64_in (n := a + i) (by omega) (by omega), page_impl, Option.bind_some, if_pos hpi, if_pos p1, Int.tmod_eq_emod_of_nonneg b0, if_pos (by omega), if_pos (by omega), if_pos h0, if_pos (by simp; omega), w64_in (n := i + 1) (by omega) (by omega)]
    have es : (acc ++ List.replicate (d + 1) (0 : Int)).set i.toNat (bt (rd_T55 l (pgOf l (a + i))).f2 ((a + i) % 256)) = (acc ++ [byteAtA l (a + i)]) ++ List.replicate d 0 := by
      rw [List.set_append_right _ _ (by omega), show i.toNat - acc.length = 0 by omega, List.replicate_succ, List.set_cons_zero, List.append_assoc]
      rfl
    rw [es, bytes_loop hl a n a0 a1 hn d k (i + 1) _ (by omega) (by omega) (by omega) (by simp; omega) (fun j hj hj2 => hp j (by omega) hj2), List.append_assoc]
    rfl
theorem get_spec {l : List S55} (hl : memOK l = true) (a n : Int) (a0 : 0 ≤ a) (a1 : a ≤ 65535) (n0 : 0 ≤ n) (hn : n ≤ 70000) {k : Nat} (hk : 100000 ≤ k) (hp : ∀ j, 0 ≤ j → j < n → 0 ≤ pgOf l (a + j)) : spec_l02Get.f k l a n = some (strOfNums (memFrom l a 0 n.toNat)) := by
  unfold spec_l02Get.f
  rw [get_loop hl a n a0 a1 hn n.toNat k 0 [] (by omega) (by omega) (by omega) rfl hp]
  rfl
theorem bytes_impl {l : List S55} (hl : memOK l = true) (a n : Int) (a0 : 0 ≤ a) (a1 : a ≤ 65535) (n0 : 0 ≤ n) (hn : n ≤ 70000) {k : Nat} (hk : 100000 ≤ k) (hp : ∀ j, 0 ≤ j → j < n → 0 ≤ pgOf l (a + j)) : impl_Memory_bytes.f k l a n = some (strOfNums (memFrom l a 0 n.toNat)) := by
  unfold impl_Memory_bytes.f
  have h := bytes_loop hl a n a0 a1 hn n.toNat k 0 [] (by omega) (by omega) (by omega) rfl hp
  rw [List.nil_append, List.nil_append] at h
  rw [if_pos n0, if_pos (by omega), Option.bind_some, List.length_replicate, show ((n.toNat : Nat) : Int) = n by omega, h]
/-- Are all of these bytes there? Both ways of asking. -/
theorem has_loop {l : List S55} (hl : memOK l = true) (a n : Int) (a0 : 0 ≤ a) (a1 : a ≤ 65535) (hn : n ≤ 70000) : ∀ (d k : Nat) (i : Int), i + d = n → 0 ≤ i → d + 40 < k →
    ∃ b : Bool, spec_l02Has.l0 k a n i l = some b ∧ impl_Memory_fault.l0 k a 0 n i l = some (if b = true then 0 else 13) ∧ (b = true → ∀ j, i ≤ j → j < n → 0 ≤ pgOf l (a + j))
  | _, 0, _, _, _, h => absurd h (Nat.not_lt_zero _)
  | 0, k + 1, i, h1, h0, _ => by
    refine ⟨true, ?_, ?_, fun _ j hj hj2 => by omega⟩
    · simp only [spec_l02Has.l0]
      rw [if_neg (by omega)]
    · simp only [impl_Memory_fault.l0]
      rw [if_neg (by omega)]
      rfl
  | d + 1, k + 1, i, h1, h0, h2 => by
    simp only [spec_l02Has.l0, impl_Memory_fault.l0]
    rw [w64_in (n := a + i) (by omega) (by omega), w64_in (n := i + 1) (by omega) (by omega), find_spec hl (a + i) (by omega) (by omega), page_impl]
    simp only [Option.bind_some]
    by_cases c : pgOf l (a + i) < 0
    · refine ⟨false, ?_, ?_, fun h => by cases h⟩
      · rw [if_pos (by omega), if_pos c]
      · rw [if_pos (by omega), if_pos c]; rfl
    · obtain ⟨b, e1, e2, hb⟩ := has_loop hl a n a0 a1 hn d k (i + 1) (by omega) (by omega) (by omega)
      refine ⟨b, ?_, ?_, fun h j hj hj2 => ?_⟩
      · rw [if_pos (by omega), if_neg c, e1]
      · rw [if_pos (by omega), if_neg c, if_true, e2]
      · by_cases e : j = i
        · subst e; omega
        · exact hb h j (by omega) hj2
theorem has_tells {l : List S55} (hl : memOK l = true) (a n : Int) (ha : -9223372036854775808 ≤ a ∧ a ≤ 9223372036854775807) (n0 : 0 ≤ n) (hn : n ≤ 70000) {k : Nat} (hk : 100000 ≤ k) :
    ∃ b : Bool, spec_l02Has.f (k + 1) l a n = some b ∧ impl_Memory_fault.f (k + 1) l a n 0 = some (if b = true then 0 else 13) ∧ (b = true → 0 < n → 0 ≤ a ∧ a ≤ 65535 ∧ ∀ j, 0 ≤ j → j < n → 0 ≤ pgOf l (a + j)) := by
  unfold spec_l02Has.f impl_Memory_fault.f
  by_cases c : n > 0
  · by_cases r : 0 ≤ a ∧ a ≤ 65535
    · obtain ⟨b, e1, _, hb⟩ := has_loop hl a n r.1 r.2 hn n.toNat k 0 (by omega) (by omega) (by omega)
      obtain ⟨b', e1', e2, hb'⟩ := has_loop hl a n r.1 r.2 hn n.toNat (k + 1) 0 (by omega) (by omega) (by omega)
      have hbb : b = b' := by
        have h := spec_l02Has.mono_l k
        have h2 : LeO (spec_l02Has.l0 k a n 0 l) (spec_l02Has.l0 (k + 1) a n 0 l) := by
          first | exact h.2 _ _ _ _ | exact h.1 _ _ _ _
        have h3 := h2 b e1
        rw [e1'] at h3
        exact (Option.some.inj h3).symm
      refine ⟨b, ?_, by rw [hbb]; exact e2, fun h _ => ⟨r.1, r.2, hb h⟩⟩
      rw [if_pos c, in_spec, Option.bind_some, decide_eq_true r]
      simp only [spec_l02Has.j0]
      rw [if_neg (by decide), e1]
    · refine ⟨false, ?_, ?_, fun h => by cases h⟩
      · rw [if_pos c, in_spec, Option.bind_some, decide_eq_false r]
        simp [spec_l02Has.j0]
      · simp only [impl_Memory_fault.l0]
        have hp : pgOf l a = -1 := by
          rcases pgOf_facts l a with h | ⟨_, _, h1, h2, _⟩
          · exact h
          · exact absurd ⟨h1, h2⟩ r
        rw [if_pos c, show a + 0 = a by omega, w64_in ha.1 ha.2, page_impl, Option.bind_some, if_pos (by omega)]
        rfl
  · refine ⟨true, ?_, ?_, fun _ h => absurd h c⟩
    · rw [if_neg c]
      simp only [spec_l02Has.j0]
      rw [if_neg (by decide)]
      obtain ⟨m, rfl⟩ : ∃ m, k = m + 1 := ⟨k - 1, by omega⟩
      simp only [spec_l02Has.l0]
      rw [if_neg (by omega)]
    · simp only [impl_Memory_fault.l0]
      rw [if_neg (by omega)]
      rfl
theorem getBytes_tells (l : List S55) (hl : l.length ≤ 1048576) (a n : Int) (ha : -9223372036854775808 ≤ a ∧ a ≤ 9223372036854775807) {k : Nat} (hk : 1048580 ≤ k) : ∃ r, spec_GetBytes.f (k + 1) l a n = some r ∧ impl_GetBytes.f (k + 1) l a n = some r := by
  unfold spec_GetBytes.f impl_GetBytes.f
  rw [ok_spec l hl (k := k + 1) (by omega), ok_impl l hl (k := k + 1) (by omega), in_spec, within_impl]
  simp only [Option.bind_some]
  cases h : memOK l
  · exact ⟨_, rfl, rfl⟩
  · rw [if_pos rfl, if_pos rfl]
    by_cases c : 0 ≤ n ∧ n ≤ 8192
    · rw [if_pos (decide_eq_true c), if_pos (decide_eq_true c)]
      obtain ⟨b, e1, e2, hb⟩ := has_tells h a n ha c.1 (by omega) (k := k) (by omega)
      rw [e1, e2]
      simp only [Option.bind_some]
      cases b with
      | false => exact ⟨_, rfl, rfl⟩
      | true =>
        rw [if_pos rfl, if_pos rfl]
        by_cases n0 : 0 < n
        · obtain ⟨a0, a1, hp⟩ := hb rfl n0
          rw [get_spec h a n a0 a1 c.1 (by omega) (k := k + 1) (by omega) hp, bytes_impl h a n a0 a1 c.1 (by omega) (k := k + 1) (by omega) hp]
          exact ⟨_, rfl, rfl⟩
        · obtain rfl : n = 0 := by omega
          unfold spec_l02Get.f impl_Memory_bytes.f
          simp only [spec_l02Get.l0, impl_Memory_bytes.l0]
          exact ⟨_, rfl, rfl⟩
    · rw [if_neg (by simpa using c), if_neg (by simpa using c)]
      exact ⟨_, rfl, rfl⟩
theorem FnExactGetBytes (l : List S66) (a n : Int) (hl : l.length ≤ 9223372036854775807) (hx : ∀ x ∈ l, x.f2.size ≤ 9223372036854775807) (ha : (Lit.int .i64 a).wf = true) : ∃ k, laws_FnExactGetBytes.f k l a n = some true := by
  obtain ⟨k, hk⟩ : ∃ k : Nat, 1048580 ≤ k := ⟨1048580, by omega⟩
  refine ⟨k + 1, ?_⟩
  unfold laws_FnExactGetBytes.f
  obtain ⟨r, e, hr⟩ := sz_tells l hl hx (k := k + 1) (by omega) (left := 1048576) (by omega) (by omega)
  rw [e, Option.bind_some]
  by_cases c : r < 0
  · rw [if_pos c]
  · rw [if_neg c]
    rcases hr with hr | ⟨_, _, h3, _⟩
    · omega
    have hl2 : (l.map conv).length ≤ 1048576 := by simp; omega
    obtain ⟨q, e1, e2⟩ := getBytes_tells (l.map conv) hl2 a n (wf_i64 ha) hk
    rw [to_tells l (by omega) (k := k + 1) (by omega), Option.bind_some, e1, Option.bind_some, Option.bind_some, e2, Option.bind_some, if_pos rfl]
    simp only [laws_FnExactGetBytes.j0]
    rw [if_neg (by simp), to_tells l (by omega) hk, Option.bind_some, eq_tells _ hl2 hk, Option.bind_some, if_pos rfl]
/-- The walk, at what has been shown. -/
theorem FnExactGetBytes_walk (W : World) (A : Option Addr) (c : Nat) (l : List S66) (a n : Int) (R : Kd.C k66 W A l.length l) (C : l.length ≤ c) (w : l.length ≤ 9223372036854775807 ∧ ∀ x ∈ l, x.f2.size ≤ 9223372036854775807) (wa : (Lit.int .i64 a).wf = true) (_wn : (Lit.int .i64 n).wf = true) :
    Calls Try.prog 7 #[.agg #[.slice A l.length c], .int .i64 a, .int .i64 n] W fun e W' => e = .returned (.bool true) ∧ Below W.heap.size W W' := by
  obtain ⟨k, hk⟩ := FnExactGetBytes l a n w.1 w.2 wa
  exact laws_FnExactGetBytes.calls k A c l a n true W R C hk

end Go.Proofs.Ytmldfchddccncaa.Pure
