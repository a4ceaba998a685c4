/- What AddPage answers is what the reference answers, and what it answers is memory of its own. -/
import Derived.Test.YtmldfchddccncaaPFnExactAddPagex6
import Derived.Test.YtmldfchddccncaaNumC
import Derived.Test.YtmldfchddccncaaOpen
namespace Go.Proofs.Ytmldfchddccncaa.Pure
open Go.RowKit Go.Proofs.Ytmldfchddccncaa.PFnExactAddPage Go.Proofs.YtmldfchddccncaaW.PrintWords Go.Proofs.YtmldfchddccncaaW.PrintLast Go.Proofs.YtmldfchddccncaaW.PrintMore Go.Proofs.Ytmldfchddccncaa.Num
set_option linter.unusedVariables false
set_option linter.unusedSimpArgs false

/-- A memory that came in, opened. -/
theorem open_mem {H : Type} {enc : TypeId × Value → H} {W : World} {r : Reach} {b0 base : Nat} {spare : Nat → Bool} {held : Bool} {v : Value} {d : DataW H} {p : List MemPlace}
    (hv : Value.okWide Try.prog W r b0 24 v) (h : DataW.Trod enc Try.prog W base spare held 24 v d p) :
    ∃ (A : Option Addr) (c : Nat) (l : List S66), v = .agg #[.slice A l.length c] ∧ Kd.C k66 W A l.length l ∧ l.length ≤ c ∧ (l.length ≤ 9223372036854775807 ∧ ∀ x ∈ l, x.f2.size ≤ 9223372036854775807) := by
  obtain ⟨A, c, l, rfl, hc, hm, hx, hw⟩ := Open.open_pages Try.underlying24 (by kernel_rfl) (by kernel_rfl) Try.underlying22 Try.underlying66 (by kernel_rfl) (by kernel_rfl) Try.underlying3 Try.underlying3 Try.underlying9 hv h
  refine ⟨A, c, l.map fun x => (⟨x.1, x.2.1, x.2.2⟩ : S66), by simp, ⟨rfl, by simp; omega, fun hp => ?_⟩, by simpa using hc, by simp; omega, fun x hxx => ?_⟩
  · rw [List.length_map] at hp
    obtain ⟨ad, rfl, hcell⟩ := hx hp
    refine ⟨ad, rfl, fun j q hj => ?_⟩
    rw [List.getElem?_map] at hj
    obtain ⟨y, hy, rfl⟩ := Option.map_eq_some_iff.1 hj
    obtain ⟨h0, h1, h2⟩ := hcell j y hy
    refine ⟨_, rfl, k66_mk W _, fun i u hi => ?_⟩
    match i, hi with
    | 0, hi => obtain rfl := Option.some.inj hi; exact h0
    | 1, hi => obtain rfl := Option.some.inj hi; exact h1
    | 2, hi => obtain rfl := Option.some.inj hi; exact h2
  · obtain ⟨y, hy, rfl⟩ := List.mem_map.1 hxx
    exact (hw y hy).2.2
theorem in_spec (n l h : Int) : spec_l01In.f n l h = some (decide (l ≤ n ∧ n ≤ h)) := by
  unfold spec_l01In.f
  by_cases a : n ≥ l <;> by_cases b : n ≤ h <;> simp [a, b] <;> omega
theorem within_impl (n l h : Int) : impl_within.f n l h = some (decide (l ≤ n ∧ n ≤ h)) := by
  unfold impl_within.f
  by_cases a : n ≥ l <;> by_cases b : n ≤ h <;> simp [a, b] <;> omega
/-- A page of the law's own type as one of the program's. -/
def conv (x : S66) : S55 := ⟨x.f0, x.f1, x.f2⟩
theorem rd66_get {l : List S66} {i : Nat} (h : i < l.length) : rd_T66 l (i : Int) = l[i] := by
  unfold rd_T66
  simp [List.getD_eq_getElem?_getD, List.getElem?_eq_getElem h]
theorem rd55_get {l : List S55} {i : Nat} (h : i < l.length) : rd_T55 l (i : Int) = l[i] := by
  unfold rd_T55
  simp [List.getD_eq_getElem?_getD, List.getElem?_eq_getElem h]
theorem sz_loop (l : List S66) (hl : l.length ≤ 1048576) (hx : ∀ x ∈ l, x.f2.size ≤ 9223372036854775807) : ∀ (d k i : Nat) (left : Int), i + d = l.length → d < k → 0 ≤ left → left ≤ 1048576 →
    ∃ r, laws_szPageS.l0 k l left (i : Int) = some r ∧ (r < 0 ∨ (0 ≤ r ∧ r ≤ left ∧ ∀ j : Nat, i ≤ j → ∀ h : j < l.length, (l[j].f2.size : Int) ≤ left))
  | _, 0, _, _, _, h, _, _ => absurd h (Nat.not_lt_zero _)
  | 0, k + 1, i, left, h1, _, h0, h3 => by
    simp only [laws_szPageS.l0]
    rw [if_neg (by omega)]
    exact ⟨left, rfl, .inr ⟨h0, Int.le_refl _, fun j hj hl => by omega⟩⟩
  | d + 1, k + 1, i, left, h1, h2, h0, h3 => by
    simp only [laws_szPageS.l0]
    have hi : i < l.length := by omega
    have hs := hx l[i] (List.getElem_mem hi)
    rw [if_pos (by omega), if_pos (by omega), rd66_get hi]
    unfold laws_szPage.f
    rw [w64_in (n := left - _) (by omega) (by omega)]
    by_cases c : left - (l[i].f2.size : Int) < 0
    · rw [if_pos c, Option.bind_some, if_pos (by omega)]
      exact ⟨_, rfl, .inl (by omega)⟩
    · rw [if_neg c, Option.bind_some, if_neg c, w64_in (n := (i : Int) + 1) (by omega) (by omega)]
      obtain ⟨r, e, hr⟩ := sz_loop l hl hx d k (i + 1) (left - (l[i].f2.size : Int)) (by omega) (by omega) (by omega) (by omega)
      refine ⟨r, e, ?_⟩
      rcases hr with hr | ⟨r0, r1, hr⟩
      · exact .inl hr
      · refine .inr ⟨r0, by omega, fun j hj hjl => ?_⟩
        by_cases e : j = i
        · subst e; omega
        · have := hr j (by omega) hjl
          omega
theorem sz_tells (l : List S66) (hl : l.length ≤ 9223372036854775807) (hx : ∀ x ∈ l, x.f2.size ≤ 9223372036854775807) {k : Nat} (hk : 1048580 ≤ k) {left : Int} (h0 : 0 ≤ left) (h1 : left ≤ 1048576) :
    ∃ r, laws_szMemory.f k l left = some r ∧ (r < 0 ∨ (0 ≤ r ∧ r ≤ left ∧ (l.length : Int) ≤ left ∧ ∀ x ∈ l, (x.f2.size : Int) ≤ left)) := by
  unfold laws_szMemory.f laws_szPageS.f
  rw [w64_in (n := left - _) (by omega) (by omega)]
  by_cases c : left - (l.length : Int) < 0
  · rw [if_pos c, Option.bind_some, if_pos (by omega)]
    exact ⟨_, rfl, .inl (by omega)⟩
  · rw [if_neg c]
    obtain ⟨r, e, hr⟩ := sz_loop l (by omega) hx l.length k 0 (left - (l.length : Int)) (by omega) (by omega) (by omega) (by omega)
    rw [show ((0 : Nat) : Int) = 0 from rfl] at e
    rw [e, Option.bind_some]
    by_cases c2 : r < 0
    · rw [if_pos c2]
      exact ⟨_, rfl, .inl (by omega)⟩
    · rw [if_neg c2]
      refine ⟨_, rfl, .inr ⟨by omega, by omega, by omega, fun x hx => ?_⟩⟩
      rcases hr with hr | ⟨_, _, hr⟩
      · omega
      · obtain ⟨j, hj, rfl⟩ := List.mem_iff_getElem.1 hx
        have := hr j (by omega) hj
        omega
theorem to_loop (l : List S66) (hl : l.length ≤ 1048576) : ∀ (d k i : Nat), i + d = l.length → d < k →
    laws_toPageS.l0 k l ((l.take i).map conv ++ List.replicate d z55) (i : Int) = some (l.map conv)
  | _, 0, _, _, h => absurd h (Nat.not_lt_zero _)
  | 0, k + 1, i, h1, _ => by
    simp only [laws_toPageS.l0]
    rw [if_neg (by omega), List.take_of_length_le (by omega)]
    simp
  | d + 1, k + 1, i, h1, h2 => by
    simp only [laws_toPageS.l0]
    have hi : i < l.length := by omega
    rw [if_pos (by omega), if_pos (by omega), rd66_get hi]
    unfold laws_toPage.f
    rw [Option.bind_some, if_pos (by simp; omega), w64_in (n := (i : Int) + 1) (by omega) (by omega), Int.toNat_natCast]
    have e : ((l.take i).map conv ++ List.replicate (d + 1) z55).set i (⟨l[i].f0, l[i].f1, l[i].f2⟩ : S55) = (l.take (i + 1)).map conv ++ List.replicate d z55 := by
      have hlen : ((l.take i).map conv).length = i := by simp; omega
      rw [List.set_append_right _ _ (by omega), hlen, Nat.sub_self, List.replicate_succ, List.set_cons_zero, List.take_succ_eq_append_getElem hi, List.map_append, List.append_assoc]
      rfl
    rw [e]
    exact to_loop l hl d k (i + 1) (by omega) (by omega)
theorem to_tells (l : List S66) (hl : l.length ≤ 1048576) {k : Nat} (hk : 1048580 ≤ k) : laws_toMemory.f k l = some (l.map conv) := by
  unfold laws_toMemory.f laws_toPageS.f
  rw [if_pos (by omega), if_pos (by omega), Int.toNat_natCast]
  have h := to_loop l hl l.length k 0 (by omega) (by omega)
  rw [List.take_zero, List.map_nil, List.nil_append] at h
  rw [show (0 : Int) = ((0 : Nat) : Int) from rfl, h, Option.bind_some]
theorem eq_loop (l : List S55) (hl : l.length ≤ 1048576) : ∀ (d k i : Nat), i + d = l.length → d < k → laws_eqPageS.l0 k l l (i : Int) = some true
  | _, 0, _, _, h => absurd h (Nat.not_lt_zero _)
  | 0, k + 1, i, h1, _ => by
    simp only [laws_eqPageS.l0]
    rw [if_neg (by omega)]
  | d + 1, k + 1, i, h1, h2 => by
    simp only [laws_eqPageS.l0]
    unfold laws_eqPage.f
    rw [if_pos (by omega), if_pos (by omega), if_pos (by omega), if_pos rfl, if_pos rfl, if_pos rfl, Option.bind_some, if_pos rfl, w64_in (n := (i : Int) + 1) (by omega) (by omega)]
    exact eq_loop l hl d k (i + 1) (by omega) (by omega)
theorem eq_tells (l : List S55) (hl : l.length ≤ 1048576) {k : Nat} (hk : 1048580 ≤ k) : laws_eqMemory.f k l l = some true := by
  unfold laws_eqMemory.f laws_eqPageS.f
  rw [if_pos rfl, show (0 : Int) = ((0 : Nat) : Int) from rfl, eq_loop l hl l.length k 0 (by omega) (by omega), Option.bind_some, if_pos rfl]
/-- Is page i right, and behind the one ahead of it? -/
def pgOK (l : List S55) (i : Int) : Bool :=
  decide (0 ≤ (rd_T55 l i).f0 ∧ (rd_T55 l i).f0 ≤ 65535 ∧ (rd_T55 l i).f0 % 256 = 0) && (decide (0 ≤ (rd_T55 l i).f1 ∧ (rd_T55 l i).f1 ≤ 7) && (decide (((rd_T55 l i).f2.size : Int) = 256) && decide (0 < i → (rd_T55 l (i - 1)).f0 < (rd_T55 l i).f0)))
def allFrom (l : List S55) (i : Int) : Nat → Bool
  | 0 => true
  | d + 1 => pgOK l i && allFrom l (i + 1) d
def memOK (l : List S55) : Bool := decide (l.length ≤ 32) && allFrom l 0 l.length
theorem base_spec (b : Int) : spec_l02Base.f b = some (decide (0 ≤ b ∧ b ≤ 65535 ∧ b % 256 = 0)) := by
  unfold spec_l02Base.f
  rw [in_spec, Option.bind_some]
  by_cases c : 0 ≤ b ∧ b ≤ 65535
  · rw [if_pos (decide_eq_true c), Int.tmod_eq_emod_of_nonneg c.1, Bool.beq_eq_decide_eq]
    congr 1
    rw [decide_eq_decide]
    exact ⟨fun h => ⟨c.1, c.2, h⟩, fun h => h.2.2⟩
  · rw [if_neg (by simpa using c)]
    congr 1
    exact (decide_eq_false (fun h => c ⟨h.1, h.2.1⟩)).symm
theorem perm_spec (b : Int) : spec_l02Perm.f b = some (decide (0 ≤ b ∧ b ≤ 7)) := by
  unfold spec_l02Perm.f
  rw [in_spec, Option.bind_some]
theorem base_impl (b : Int) : impl_isBase.f b = some (decide (0 ≤ b ∧ b ≤ 65535 ∧ b % 256 = 0)) := by
  unfold impl_isBase.f
  rw [within_impl, Option.bind_some]
  by_cases c : 0 ≤ b ∧ b ≤ 65535
  · rw [if_pos (decide_eq_true c), Int.tmod_eq_emod_of_nonneg c.1, Bool.beq_eq_decide_eq]
    congr 1
    rw [decide_eq_decide]
    exact ⟨fun h => ⟨c.1, c.2, h⟩, fun h => h.2.2⟩
  · rw [if_neg (by simpa using c)]
    congr 1
    exact (decide_eq_false (fun h => c ⟨h.1, h.2.1⟩)).symm
theorem perm_impl (b : Int) : impl_isPerm.f b = some (decide (0 ≤ b ∧ b ≤ 7)) := by
  unfold impl_isPerm.f
  rw [within_impl, Option.bind_some]
theorem ok_spec_loop (l : List S55) (hl : l.length ≤ 1048576) : ∀ (d k : Nat) (i : Int), i + d = l.length → 0 ≤ i → d < k → spec_MemoryOK.l0 k i l = some (allFrom l i d)
  | _, 0, _, _, _, h => absurd h (Nat.not_lt_zero _)
  | 0, k + 1, i, h1, h0, _ => by
    simp only [spec_MemoryOK.l0]
    rw [if_neg (by omega)]
    rfl
  | d + 1, k + 1, i, h1, h0, h2 => by
    have ih := ok_spec_loop l hl d k (i + 1) (by omega) (by omega) (by omega)
    simp only [spec_MemoryOK.l0, allFrom]
    unfold pgOK
    rw [if_pos (by omega), if_pos h0, base_spec, Option.bind_some]
    by_cases c1 : 0 ≤ (rd_T55 l i).f0 ∧ (rd_T55 l i).f0 ≤ 65535 ∧ (rd_T55 l i).f0 % 256 = 0
    · rw [if_pos (decide_eq_true c1), perm_spec, Option.bind_some, decide_eq_true c1, Bool.true_and]
      by_cases c2 : 0 ≤ (rd_T55 l i).f1 ∧ (rd_T55 l i).f1 ≤ 7
      · rw [if_pos (decide_eq_true c2), decide_eq_true c2, Bool.true_and]
        by_cases c3 : ((rd_T55 l i).f2.size : Int) = 256
        · rw [if_pos c3, decide_eq_true c3, Bool.true_and, w64_in (n := i + 1) (by omega) (by omega), ih]
          by_cases c4 : i > 0
          · rw [if_pos c4, w64_in (n := i - 1) (by omega) (by omega), if_pos (by omega), if_pos (by omega)]
            by_cases c5 : (rd_T55 l i).f0 ≤ (rd_T55 l (i - 1)).f0
            · rw [if_pos c5, decide_eq_false (fun h => by have := h c4; omega), Bool.false_and]
            · rw [if_neg c5, decide_eq_true (fun _ => by omega), Bool.true_and]
          · rw [if_neg c4, decide_eq_true (fun h => absurd h c4), Bool.true_and]
        · rw [if_neg c3, decide_eq_false c3, Bool.false_and, Bool.false_and]
      · rw [if_neg (by simpa using c2), decide_eq_false c2, Bool.false_and, Bool.false_and]
    · rw [if_neg (by simpa using c1), decide_eq_false c1, Bool.false_and, Bool.false_and]
theorem ok_impl_loop (l : List S55) (hl : l.length ≤ 1048576) : ∀ (d k : Nat) (i : Int), i + d = l.length → 0 ≤ i → d < k → impl_MemoryOK.l0 k l (l.length : Int) i l = some (allFrom l i d && decide ((l.length : Int) ≤ 32))
  | _, 0, _, _, _, h => absurd h (Nat.not_lt_zero _)
  | 0, k + 1, i, h1, h0, _ => by
    simp only [impl_MemoryOK.l0]
    rw [if_neg (by omega)]
    rfl
  | d + 1, k + 1, i, h1, h0, h2 => by
    have ih := ok_impl_loop l hl d k (i + 1) (by omega) (by omega) (by omega)
    simp only [impl_MemoryOK.l0, allFrom]
    unfold pgOK
    rw [if_pos (by omega), if_pos h0, if_pos (by omega), base_impl, Option.bind_some]
    by_cases c1 : 0 ≤ (rd_T55 l i).f0 ∧ (rd_T55 l i).f0 ≤ 65535 ∧ (rd_T55 l i).f0 % 256 = 0
    · rw [if_pos (decide_eq_true c1), perm_impl, Option.bind_some, decide_eq_true c1, Bool.true_and]
      by_cases c2 : 0 ≤ (rd_T55 l i).f1 ∧ (rd_T55 l i).f1 ≤ 7
      · rw [if_pos (decide_eq_true c2), decide_eq_true c2, Bool.true_and]
        by_cases c3 : ((rd_T55 l i).f2.size : Int) = 256
        · rw [if_pos c3, decide_eq_true c3, Bool.true_and, w64_in (n := i + 1) (by omega) (by omega), ih]
          by_cases c4 : i > 0
          · rw [if_pos c4, w64_in (n := i - 1) (by omega) (by omega), if_pos (by omega), if_pos (by omega)]
            by_cases c5 : (rd_T55 l i).f0 ≤ (rd_T55 l (i - 1)).f0
            · rw [if_pos c5, decide_eq_false (fun h => by have := h c4; omega), Bool.false_and, Bool.false_and]
            · rw [if_neg c5, decide_eq_true (fun _ => by omega), Bool.true_and]
          · rw [if_neg c4, decide_eq_true (fun h => absurd h c4), Bool.true_and]
        · rw [if_neg c3, decide_eq_false c3, Bool.false_and, Bool.false_and, Bool.false_and]
      · rw [if_neg (by simpa using c2), decide_eq_false c2, Bool.false_and, Bool.false_and, Bool.false_and]
    · rw [if_neg (by simpa using c1), decide_eq_false c1, Bool.false_and, Bool.false_and, Bool.false_and]
theorem ok_spec (l : List S55) (hl : l.length ≤ 1048576) {k : Nat} (hk : 1048580 ≤ k) : spec_MemoryOK.f k l = some (memOK l) := by
  unfold spec_MemoryOK.f memOK
  by_cases c : (l.length : Int) > 32
  · rw [if_pos c, decide_eq_false (by omega), Bool.false_and]
  · rw [if_neg c, decide_eq_true (by omega), Bool.true_and, ok_spec_loop l hl l.length k 0 (by omega) (by omega) (by omega)]
theorem ok_impl (l : List S55) (hl : l.length ≤ 1048576) {k : Nat} (hk : 1048580 ≤ k) : impl_MemoryOK.f k l = some (memOK l) := by
  unfold impl_MemoryOK.f memOK
  rw [ok_impl_loop l hl l.length k 0 (by omega) (by omega) (by omega), Bool.and_comm]
  congr 2
  rw [decide_eq_decide]
  omega
theorem allFrom_at {l : List S55} : ∀ (d : Nat) (i : Int) (j : Nat), allFrom l i d = true → j < d → pgOK l (i + j) = true
  | 0, _, _, _, h => absurd h (Nat.not_lt_zero _)
  | d + 1, i, 0, h, _ => by
    simp only [allFrom, Bool.and_eq_true] at h
    simpa using h.1
  | d + 1, i, j + 1, h, hj => by
    simp only [allFrom, Bool.and_eq_true] at h
    have := allFrom_at d (i + 1) j h.2 (by omega)
    rw [show i + 1 + (j : Int) = i + ((j + 1 : Nat) : Int) by omega] at this
    exact this
/-- What right memory is like. -/
theorem memOK_facts {l : List S55} (h : memOK l = true) : l.length ≤ 32 ∧ ∀ i : Int, 0 ≤ i → i < l.length →
    0 ≤ (rd_T55 l i).f0 ∧ (rd_T55 l i).f0 ≤ 65535 ∧ (rd_T55 l i).f0 % 256 = 0 ∧ 0 ≤ (rd_T55 l i).f1 ∧ (rd_T55 l i).f1 ≤ 7 ∧ ((rd_T55 l i).f2.size : Int) = 256 ∧ (0 < i → (rd_T55 l (i - 1)).f0 < (rd_T55 l i).f0) := by
  unfold memOK at h
  simp only [Bool.and_eq_true, decide_eq_true_eq] at h
  refine ⟨h.1, fun i h0 h1 => ?_⟩
  have hp := allFrom_at l.length 0 i.toNat h.2 (by omega)
  rw [show (0 : Int) + (i.toNat : Int) = i by omega] at hp
  unfold pgOK at hp
  simp only [Bool.and_eq_true, decide_eq_true_eq] at hp
  exact ⟨hp.1.1, hp.1.2.1, hp.1.2.2, hp.2.1.1, hp.2.1.2, hp.2.2.1, hp.2.2.2⟩
/-- The number of the page that has an address; -1 of none. -/
def pgOf (l : List S55) (a : Int) : Int := if 0 ≤ a ∧ a ≤ 65535 then impl_Memory_pageOf.find (a - a % 256) l 0 else -1
theorem page_impl (l : List S55) (a : Int) : impl_Memory_pageOf.f l a = some (pgOf l a) := by
  unfold impl_Memory_pageOf.f pgOf
  by_cases h0 : 0 ≤ a
  · by_cases h1 : a ≤ 65535
    · rw [if_pos h0, if_pos h1, if_pos ⟨h0, h1⟩]
    · rw [if_pos h0, if_neg h1, if_neg (by omega)]
  · rw [if_neg h0, if_neg (by omega)]
theorem find_facts (b : Int) : ∀ (l : List S55) (i : Int), impl_Memory_pageOf.find b l i = -1 ∧ (∀ x ∈ l, x.f0 ≠ b) ∨ ∃ j : Nat, ∃ h : j < l.length, impl_Memory_pageOf.find b l i = i + j ∧ l[j].f0 = b
  | [], i => .inl ⟨rfl, by simp⟩
  | x :: xs, i => by
    simp only [impl_Memory_pageOf.find]
    by_cases c : (x.f0 == b) = true
    · rw [if_pos c]
      exact .inr ⟨0, by simp, by simp, by simpa using c⟩
    · rw [if_neg c]
      rcases find_facts b xs (i + 1) with ⟨h1, h2⟩ | ⟨j, hj, h1, h2⟩
      · refine .inl ⟨h1, fun y hy => ?_⟩
        rcases List.mem_cons.1 hy with rfl | hy
        · simpa using c
        · exact h2 y hy
      · exact .inr ⟨j + 1, by simp; omega, by rw [h1]; omega, by simpa using h2⟩
theorem pgOf_facts (l : List S55) (a : Int) : pgOf l a = -1 ∨ (0 ≤ pgOf l a ∧ pgOf l a < l.length ∧ 0 ≤ a ∧ a ≤ 65535 ∧ (rd_T55 l (pgOf l a)).f0 = a - a % 256) := by
  unfold pgOf
  by_cases c : 0 ≤ a ∧ a ≤ 65535
  · rw [if_pos c]
    rcases find_facts (a - a % 256) l 0 with ⟨h, _⟩ | ⟨j, hj, h1, h2⟩
    · exact .inl h
    · refine .inr ⟨by omega, by omega, c.1, c.2, ?_⟩
      rw [h1, show (0 : Int) + (j : Int) = (j : Int) by omega, rd55_get hj]
      exact h2
  · rw [if_neg c]
    exact .inl rfl
theorem find_loop {l : List S55} (hl : memOK l = true) (a : Int) (ha : -9223372036854775808 ≤ a ∧ a ≤ 9223372036854775807) : ∀ (d k i : Nat), i + d = l.length → d < k →
    spec_l02Find.l0 k a (i : Int) l = some (if 0 ≤ a ∧ a ≤ 65535 then impl_Memory_pageOf.find (a - a % 256) (l.drop i) i else -1)
  | _, 0, _, _, h => absurd h (Nat.not_lt_zero _)
  | 0, k + 1, i, h1, _ => by
    simp only [spec_l02Find.l0]
    rw [if_neg (by omega), List.drop_of_length_le (by omega)]
    simp [impl_Memory_pageOf.find]
  | d + 1, k + 1, i, h1, h2 => by
    have ih := find_loop hl a ha d k (i + 1) (by omega) (by omega)
    obtain ⟨h32, hf⟩ := memOK_facts hl
    have hi : i < l.length := by omega
    obtain ⟨f1, f2, f3, _, _, _, _⟩ := hf (i : Int) (by omega) (by omega)
    rw [rd55_get hi] at f1 f2 f3
    simp only [spec_l02Find.l0]
    rw [if_pos (by omega), if_pos (by omega), rd55_get hi, w64_in (n := (i : Int) + 1) (by omega) (by omega), show (i : Int) + 1 = ((i + 1 : Nat) : Int) by omega, ih]
    rw [List.drop_eq_getElem_cons hi]
    simp only [impl_Memory_pageOf.find]
    rw [show (i : Int) + 1 = ((i + 1 : Nat) : Int) by omega]
    by_cases c : l[i].f0 ≤ a
    · rw [if_pos c, w64_in (n := a - _) (by omega) (by omega)]
      by_cases c2 : a - l[i].f0 < 256
      · have e : l[i].f0 = a - a % 256 := by omega
        rw [if_pos c2, if_pos (by omega), if_pos (by simpa using e)]
      · have e : ¬ (l[i].f0 == a - a % 256) = true := by simp; omega
        rw [if_neg c2, if_neg e]
    · by_cases c2 : 0 ≤ a ∧ a ≤ 65535
      · have e : ¬ (l[i].f0 == a - a % 256) = true := by simp; omega
        rw [if_neg c, if_neg e]
      · rw [if_neg c, if_neg c2, if_neg c2]
theorem find_spec {l : List S55} (hl : memOK l = true) (a : Int) (ha : -9223372036854775808 ≤ a ∧ a ≤ 9223372036854775807) {k : Nat} (hk : 32 < k) : spec_l02Find.f k l a = some (pgOf l a) := by
  unfold spec_l02Find.f pgOf
  have h32 := (memOK_facts hl).1
  have h := find_loop hl a ha l.length k 0 (by omega) (by omega)
  rw [List.drop_zero] at h
  exact h
theorem text_loop : ∀ (n k : Nat) (v : Int) (acc : ByteArray), 0 ≤ v → v < 10 ^ n → n < k → acc.size + n ≤ 1000 → ∃ t, laws_markText.l0 k v acc = some t
  | _, 0, _, _, _, _, h, _ => absurd h (Nat.not_lt_zero _)
  | 0, k + 1, v, acc, h0, h1, _, hs => by
    simp only [laws_markText.l0]
    rw [if_neg (by simp at h1; omega), if_pos (by omega)]
    exact ⟨_, rfl⟩
  | n + 1, k + 1, v, acc, h0, h1, h2, hs => by
    simp only [laws_markText.l0]
    by_cases c : v > 0
    · have hp : (0 : Int) < 10 ^ n := Int.pow_pos (by omega)
      have h3 : v < 10 ^ n * 10 := by rw [Int.pow_succ] at h1; exact h1
      have hd : v / 10 < 10 ^ n := Int.ediv_lt_of_lt_mul (by omega) h3
      by_cases big : v ≤ 9223372036854775807
      · rw [if_pos c, Option.bind_some, if_pos (by rw [strOfNums_size]; simp; omega), Int.tdiv_eq_ediv_of_nonneg h0, w64_in (n := v / 10) (by omega) (by omega)]
        exact text_loop n k (v / 10) _ (by omega) hd (by omega) (by rw [ByteArray.size_append, strOfNums_size]; simp; omega)
      · rw [if_pos c, Option.bind_some, if_pos (by rw [strOfNums_size]; simp; omega), Int.tdiv_eq_ediv_of_nonneg h0]
        by_cases w0 : 0 ≤ wrap64 (v / 10)
        · have hw := w64_range (v / 10)
          by_cases hle : wrap64 (v / 10) < 10 ^ n
          · exact text_loop n k _ _ w0 hle (by omega) (by rw [ByteArray.size_append, strOfNums_size]; simp; omega)
          · exfalso
            apply hle
            have : wrap64 (v / 10) ≤ v / 10 := by
              by_cases z : v / 10 ≤ 9223372036854775807
              · rw [w64_in (by omega) z]; omega
              · omega
            omega
        · obtain ⟨m, rfl⟩ : ∃ m, k = m + 1 := ⟨k - 1, by omega⟩
          simp only [laws_markText.l0]
          rw [if_neg (by omega), if_pos (by rw [ByteArray.size_append, strOfNums_size]; simp; omega)]
          exact ⟨_, rfl⟩
    · rw [if_neg c, if_pos (by omega)]
      exact ⟨_, rfl⟩
/-- The text of a mark. -/
def tx (v : Int) : ByteArray := (laws_markText.f 30 v).getD ByteArray.empty
theorem text_tells {v : Int} (h0 : 0 ≤ v) (h1 : v < 10000000000) {k : Nat} (hk : 30 ≤ k) : laws_markText.f k v = some (tx v) := by
  have hex : ∃ t, laws_markText.f 30 v = some t := by
    unfold laws_markText.f
    by_cases c : v ≤ 0
    · rw [if_pos c]; exact ⟨_, rfl⟩
    · rw [if_neg c]
      exact text_loop 10 30 v _ h0 (by simpa using h1) (by omega) (by decide)
  obtain ⟨t, ht⟩ := hex
  have e : tx v = t := by unfold tx; rw [ht]; rfl
  rw [e]
  exact at_rounds (laws_markText.mono v) hk ht
/-- A marked page. -/
def mkd (j : Nat) : S55 := ⟨1 + 3 * j, 1 + 3 * j + 1, tx (1 + 3 * j + 1 + 1)⟩
theorem rd55_set (xs : List S55) (i : Nat) (v : S55) (h : i < xs.length) : rd_T55 (xs.set i v) (i : Int) = v := by
  rw [rd55_get (by rw [List.length_set]; exact h)]
  simp
theorem mark_loop : ∀ (d k i : Nat) (rest : List S55), rest.length = d → d + 40 < k → i + d ≤ 1048576 →
    laws_markPageS.l0 k ((List.range i).map mkd ++ rest) (1 + 3 * (i : Int)) (i : Int) = some (1 + 3 * ((i + d : Nat) : Int), (List.range (i + d)).map mkd)
  | _, 0, _, _, _, h, _ => absurd h (Nat.not_lt_zero _)
  | 0, k + 1, i, rest, h1, _, _ => by
    simp only [laws_markPageS.l0]
    obtain rfl : rest = [] := List.eq_nil_of_length_eq_zero h1
    rw [if_neg (by simp)]
    simp
  | d + 1, k + 1, i, rest, h1, h2, h3 => by
    match rest, h1 with
    | r :: rs, h1 =>
      have hlen : i < ((List.range i).map mkd ++ r :: rs).length := by simp
      simp only [laws_markPageS.l0]
      rw [if_pos (by exact_mod_cast hlen), if_pos (by omega), Option.bind_some, Option.bind_some, w64_in (n := 1 + 3 * (i : Int) + 1) (by omega) (by omega), w64_in (n := 1 + 3 * (i : Int) + 1 + 1) (by omega) (by omega), w64_in (n := 1 + 3 * (i : Int) + 1 + 1 + 1) (by omega) (by omega), w64_in (n := (i : Int) + 1) (by omega) (by omega), text_tells (by omega) (by omega) (by omega), Option.bind_some]
      simp only [Int.toNat_natCast]
      have hs : ∀ v, rd_T55 (((List.range i).map mkd ++ r :: rs).set i v) (i : Int) = v := fun v => rd55_set _ i v hlen
      have hs2 : ∀ u v, rd_T55 ((((List.range i).map mkd ++ r :: rs).set i u).set i v) (i : Int) = v := fun u v => rd55_set _ i v (by rw [List.length_set]; exact hlen)
      simp only [hs, hs2, List.set_set]
      have e : ((List.range i).map mkd ++ r :: rs).set i (⟨1 + 3 * (i : Int), 1 + 3 * (i : Int) + 1, tx (1 + 3 * (i : Int) + 1 + 1)⟩ : S55) = (List.range (i + 1)).map mkd ++ rs := by
        rw [List.set_append_right _ _ (by simp), List.range_succ, List.map_append, List.append_assoc]
        simp [mkd]
      rw [e, show 1 + 3 * (i : Int) + 1 + 1 + 1 = 1 + 3 * ((i + 1 : Nat) : Int) by omega, show (i : Int) + 1 = ((i + 1 : Nat) : Int) by omega, mark_loop d k (i + 1) rs (by simpa using h1) (by omega) (by omega)]
      rw [show i + 1 + d = i + (d + 1) by omega]
theorem mark_tells (l : List S55) (hl : l.length ≤ 1048576) {k : Nat} (hk : 1048680 ≤ k) : laws_markMemory.f k l 1 = some (1 + 3 * (l.length : Int), (List.range l.length).map mkd) := by
  unfold laws_markMemory.f laws_markPageS.f
  have h := mark_loop l.length k 0 l rfl (by omega) (by omega)
  simp only [List.range_zero, List.map_nil, List.nil_append, Nat.zero_add, Int.natCast_zero, Int.mul_zero, Int.add_zero] at h
  rw [h, Option.bind_some]
theorem held_loop (n : Nat) (hn : n ≤ 1048576) : ∀ (d k i : Nat), i + d = n → d + 40 < k → laws_heldPageS.l0 k ((List.range n).map mkd) (1 + 3 * (i : Int)) (i : Int) = some (1 + 3 * (n : Int))
  | _, 0, _, _, h => absurd h (Nat.not_lt_zero _)
  | 0, k + 1, i, h1, _ => by
    simp only [laws_heldPageS.l0]
    rw [if_neg (by simp; omega)]
    congr 1; omega
  | d + 1, k + 1, i, h1, h2 => by
    have hi : i < ((List.range n).map mkd).length := by simp; omega
    have hr : rd_T55 ((List.range n).map mkd) (i : Int) = mkd i := by rw [rd55_get hi]; simp
    simp only [laws_heldPageS.l0]
    rw [if_pos (by exact_mod_cast hi), if_pos (by omega), hr, w64_in (n := 1 + 3 * (i : Int) + 1) (by omega) (by omega), w64_in (n := 1 + 3 * (i : Int) + 1 + 1) (by omega) (by omega), w64_in (n := 1 + 3 * (i : Int) + 1 + 1 + 1) (by omega) (by omega), w64_in (n := (i : Int) + 1) (by omega) (by omega), if_pos (show (mkd i).f0 = 1 + 3 * (i : Int) from rfl), if_pos (show (mkd i).f1 = 1 + 3 * (i : Int) + 1 from rfl), text_tells (by omega) (by omega) (by omega), Option.bind_some, if_pos (show (mkd i).f2.toList = (tx (1 + 3 * (i : Int) + 1 + 1)).toList from rfl)]
    rw [show 1 + 3 * (i : Int) + 1 + 1 + 1 = 1 + 3 * ((i + 1 : Nat) : Int) by omega, show (i : Int) + 1 = ((i + 1 : Nat) : Int) by omega]
    exact held_loop n hn d k (i + 1) (by omega) (by omega)
theorem held_tells (n : Nat) (hn : n ≤ 1048576) {k : Nat} (hk : 1048680 ≤ k) : laws_heldMemory.f k ((List.range n).map mkd) 1 = some (1 + 3 * (n : Int)) := by
  unfold laws_heldMemory.f laws_heldPageS.f
  have h := held_loop n hn n k 0 (by omega) (by omega)
  simp only [Int.natCast_zero, Int.mul_zero, Int.add_zero] at h
  rw [h, Option.bind_some, if_neg (by omega)]
theorem own_spec (l : List S55) (hl : l.length ≤ 1048576) : spec_l02Own.f l = some l := by
  unfold spec_l02Own.f
  rw [Option.bind_some, if_pos (by simp; omega), List.nil_append]
theorem copy_impl (l : List S55) (hl : l.length ≤ 1048576) : impl_copyMemory.f l = some l := by
  unfold impl_copyMemory.f impl_Page_64.f
  rw [if_pos (by omega), Option.bind_some]
/-- The page in its place: ahead of the first page that lies behind it. -/
def ins (b : Int) (q : S55) : List S55 → List S55
  | [] => [q]
  | x :: xs => if b < x.f0 then q :: x :: xs else x :: ins b q xs
theorem ins_length (b : Int) (q : S55) : ∀ l : List S55, (ins b q l).length = l.length + 1
  | [] => rfl
  | x :: xs => by
    unfold ins
    by_cases h : b < x.f0
    · rw [if_pos h]; rfl
    · rw [if_neg h, List.length_cons, ins_length b q xs, List.length_cons]
theorem add_loop (l : List S55) (hl : l.length ≤ 1000) (a p : Int) (z : ByteArray) : ∀ (d k i : Nat) (out : List S55) (b : Bool), i + d = l.length → d < k → out.length ≤ i + b.toNat →
    spec_l02Add.l0 k a out b (i : Int) l a p z = some (out ++ (if b = true then l.drop i else ins a ⟨a, p, z⟩ (l.drop i)))
  | 0, k, i, out, b, hi, hk, ho => by
    obtain ⟨k, rfl⟩ : ∃ m, k = m + 1 := ⟨k - 1, by omega⟩
    simp only [spec_l02Add.l0]
    rw [if_neg (by omega), List.drop_eq_nil_of_le (by omega)]
    cases b with
    | true => simp
    | false => simp only [Bool.toNat_false, Nat.add_zero] at ho; rw [if_neg Bool.false_ne_true, if_pos (by omega), if_neg Bool.false_ne_true]; rfl
  | d + 1, k, i, out, b, hi, hk, ho => by
    obtain ⟨k, rfl⟩ : ∃ m, k = m + 1 := ⟨k - 1, by omega⟩
    have hlt : i < l.length := by omega
    have hw : wrap64 ((i : Int) + 1) = ((i + 1 : Nat) : Int) := by unfold wrap64; omega
    have hrd : rd_T55 l (i : Int) = l[i] := rd55_get hlt
    have hdr : l.drop i = l[i] :: l.drop (i + 1) := List.drop_eq_getElem_cons hlt
    have he : (⟨(rd_T55 l (i : Int)).f0, (rd_T55 l (i : Int)).f1, (rd_T55 l (i : Int)).f2⟩ : S55) = l[i] := hrd
    simp only [spec_l02Add.l0]
    rw [if_pos (by omega), hw, he, hrd]
    cases b with
    | true =>
      simp only [Bool.toNat_true] at ho
      rw [if_pos rfl, if_pos (by omega), if_pos (by omega), add_loop l hl a p z d k (i + 1) _ true (by omega) (by omega) (by simp; omega), if_pos rfl, if_pos rfl, hdr]
      simp
    | false =>
      simp only [Bool.toNat_false, Nat.add_zero] at ho
      rw [if_neg Bool.false_ne_true, if_pos (by omega), if_neg Bool.false_ne_true, hdr, ins]
      by_cases c : a < l[i].f0
      · rw [if_pos c, if_pos (by omega), Option.bind_some, if_pos (by simp; omega), add_loop l hl a p z d k (i + 1) _ true (by omega) (by omega) (by simp; omega), if_pos rfl, if_pos c]
        simp
      · rw [if_neg c, if_pos (by omega), add_loop l hl a p z d k (i + 1) _ false (by omega) (by omega) (by simp; omega), if_neg Bool.false_ne_true, if_neg c]
        simp
def z256 : ByteArray := strOfNums (List.replicate 256 0)
theorem add_spec (l : List S55) (hl : l.length ≤ 1000) (a p : Int) {k : Nat} (hk : 1000 < k) : spec_l02Add.f k l a p = some (ins a ⟨a, p, z256⟩ l) := by
  unfold spec_l02Add.f
  rw [if_pos (by omega)]
  have h := add_loop l hl a p z256 l.length k 0 [] false (by omega) (by omega) (by simp)
  rw [if_neg Bool.false_ne_true, List.drop_zero, List.nil_append] at h
  exact h
theorem repeat_tells : strings_Repeat.f (⟨#[0]⟩ : ByteArray) 256 = some z256 := by decide +kernel
theorem find_ins (b : Int) (q : S55) : ∀ (l : List S55) (i : Int), (impl_Memory_with.find b l i = -1 ∧ ins b q l = l ++ [q]) ∨ ∃ j : Nat, impl_Memory_with.find b l i = i + j ∧ j ≤ l.length ∧ ins b q l = l.take j ++ q :: l.drop j
  | [], i => .inl ⟨rfl, rfl⟩
  | x :: xs, i => by
    unfold impl_Memory_with.find ins
    by_cases c : b < x.f0
    · rw [if_pos (decide_eq_true c), if_pos c]
      exact .inr ⟨0, by omega, Nat.zero_le _, rfl⟩
    · rw [if_neg (fun h => c (of_decide_eq_true h)), if_neg c]
      rcases find_ins b q xs (i + 1) with ⟨h1, h2⟩ | ⟨j, h1, h2, h3⟩
      · exact .inl ⟨h1, by rw [h2]; rfl⟩
      · refine .inr ⟨j + 1, by rw [h1]; omega, by simp; omega, ?_⟩
        rw [h3]
        simp
theorem with_tells (l : List S55) (hl : l.length ≤ 1000) (a p : Int) (z : ByteArray) : impl_Memory_with.f l a p z = some (ins a ⟨a, p, z⟩ l) := by
  unfold impl_Memory_with.f withAt
  rw [if_pos (by omega)]
  rcases find_ins a ⟨a, p, z⟩ l 0 with ⟨h1, h2⟩ | ⟨j, h1, h2, h3⟩
  · rw [h1, if_pos (by omega), h2, List.take_length, List.drop_length]
  · rw [h1, if_neg (by omega), h3, show ((0 : Int) + (j : Int)).toNat = j by omega]
theorem addPage_tells (l : List S55) (hl : l.length ≤ 1048576) (a p : Int) (ha : -9223372036854775808 ≤ a ∧ a ≤ 9223372036854775807) :
    ∃ (g : List S55) (c : Int), g.length ≤ 1048576 ∧ ∀ k, 1048580 ≤ k → spec_AddPage.f (k + 1) l a p = some (g, c) ∧ impl_AddPage.f (k + 1) l a p = some (g, c) := by
  by_cases h : memOK l = true
  · have h32 := (memOK_facts h).1
    by_cases c1 : 0 ≤ a ∧ a ≤ 65535 ∧ a % 256 = 0
    · by_cases c2 : 0 ≤ p ∧ p ≤ 7
      · have hs : ∀ {k : Nat}, 1048580 ≤ k → spec_AddPage.f (k + 1) l a p = (if pgOf l a ≥ 0 then some (l, 13) else if (l.length : Int) = 32 then some (l, 7) else some (ins a ⟨a, p, z256⟩ l, 0)) := fun {k} hk => by
          unfold spec_AddPage.f
          rw [ok_spec l hl (k := k + 1) (by omega), Option.bind_some, if_pos h, base_spec, Option.bind_some, if_pos (decide_eq_true c1), perm_spec, Option.bind_some, decide_eq_true c2]
          simp only [spec_AddPage.j0]
          rw [if_neg (by decide), find_spec h a ha (by omega), Option.bind_some, own_spec l hl, Option.bind_some, Option.bind_some, add_spec l (by omega) a p (by omega), Option.bind_some]
        have hi : ∀ {k : Nat}, 1048580 ≤ k → impl_AddPage.f (k + 1) l a p = (if pgOf l a ≥ 0 then some (l, 13) else if (l.length : Int) = 32 then some (l, 7) else some (ins a ⟨a, p, z256⟩ l, 0)) := fun {k} hk => by
          unfold impl_AddPage.f
          rw [ok_impl l hl (k := k + 1) (by omega), Option.bind_some, if_pos h, base_impl, Option.bind_some, if_pos (decide_eq_true c1), perm_impl, Option.bind_some, decide_eq_true c2]
          simp only [impl_AddPage.j0]
          rw [if_neg (by decide), page_impl, Option.bind_some, copy_impl l hl, Option.bind_some, Option.bind_some, repeat_tells, Option.bind_some, with_tells l (by omega) a p z256, Option.bind_some]
        by_cases c3 : pgOf l a ≥ 0
        · exact ⟨l, 13, by omega, fun k hk => ⟨by rw [hs hk, if_pos c3], by rw [hi hk, if_pos c3]⟩⟩
        · by_cases c4 : (l.length : Int) = 32
          · exact ⟨l, 7, by omega, fun k hk => ⟨by rw [hs hk, if_neg c3, if_pos c4], by rw [hi hk, if_neg c3, if_pos c4]⟩⟩
          · exact ⟨ins a ⟨a, p, z256⟩ l, 0, by rw [ins_length]; omega, fun k hk => ⟨by rw [hs hk, if_neg c3, if_neg c4], by rw [hi hk, if_neg c3, if_neg c4]⟩⟩
      · refine ⟨[], 4, by simp, fun k hk => ⟨?_, ?_⟩⟩
        · unfold spec_AddPage.f
          rw [ok_spec l hl (k := k + 1) (by omega), Option.bind_some, if_pos h, base_spec, Option.bind_some, if_pos (decide_eq_true c1), perm_spec, Option.bind_some, decide_eq_false c2]
          simp [spec_AddPage.j0]
        · unfold impl_AddPage.f
          rw [ok_impl l hl (k := k + 1) (by omega), Option.bind_some, if_pos h, base_impl, Option.bind_some, if_pos (decide_eq_true c1), perm_impl, Option.bind_some, decide_eq_false c2]
          simp [impl_AddPage.j0]
    · refine ⟨[], 4, by simp, fun k hk => ⟨?_, ?_⟩⟩
      · unfold spec_AddPage.f
        rw [ok_spec l hl (k := k + 1) (by omega), Option.bind_some, if_pos h, base_spec, Option.bind_some, if_neg (by simpa using c1)]
        simp [spec_AddPage.j0]
      · unfold impl_AddPage.f
        rw [ok_impl l hl (k := k + 1) (by omega), Option.bind_some, if_pos h, base_impl, Option.bind_some, if_neg (by simpa using c1)]
        simp [impl_AddPage.j0]
  · refine ⟨[], 1, by simp, fun k hk => ⟨?_, ?_⟩⟩
    · unfold spec_AddPage.f
      rw [ok_spec l hl (k := k + 1) (by omega), Option.bind_some, if_neg h]
    · unfold impl_AddPage.f
      rw [ok_impl l hl (k := k + 1) (by omega), Option.bind_some, if_neg h]
theorem FnExactAddPage (l : List S66) (a p : Int) (hl : l.length ≤ 9223372036854775807) (hx : ∀ x ∈ l, x.f2.size ≤ 9223372036854775807) (ha : (Lit.int .i64 a).wf = true) : ∃ k, laws_FnExactAddPage.f k l a p = some true := by
  obtain ⟨k, hk⟩ : ∃ k : Nat, 1048680 ≤ k := ⟨1048680, by omega⟩
  refine ⟨k + 3, ?_⟩
  unfold laws_FnExactAddPage.f
  obtain ⟨r, e, hr⟩ := sz_tells l hl hx (k := k + 3) (by omega) (left := 1048576) (by omega) (by omega)
  rw [e, Option.bind_some]
  by_cases c : r < 0
  · rw [if_pos c]
  · rw [if_neg c]
    rcases hr with hr | ⟨_, _, h3, _⟩
    · omega
    have hl2 : (l.map conv).length ≤ 1048576 := by simp; omega
    obtain ⟨g, q, hg, hgk⟩ := addPage_tells (l.map conv) hl2 a p (wf_i64 ha)
    rw [to_tells l (by omega) (k := k + 3) (by omega), Option.bind_some, (hgk (k + 2) (by omega)).1, Option.bind_some, Option.bind_some, (hgk (k + 2) (by omega)).2, Option.bind_some, eq_tells g (by omega) (k := k + 3) (by omega), Option.bind_some, if_pos rfl]
    simp only [laws_FnExactAddPage.j0]
    rw [if_neg (by simp), to_tells l (by omega) (k := k + 2) (by omega), Option.bind_some, eq_tells _ hl2 (k := k + 2) (by omega), Option.bind_some, if_pos rfl]
    have hle : l.length ≤ 1048576 := by omega
    · rw [mark_tells (l.map conv) (by simp; omega) (k := k + 2) (by omega), Option.bind_some, if_neg (by omega), eq_tells g (by omega) (k := k + 2) (by omega), Option.bind_some, if_pos rfl]
      simp only [laws_FnExactAddPage.j1]
      rw [if_neg (by simp), mark_tells g hg (k := k + 1) (by omega), Option.bind_some, held_tells g.length hg (k := k + 1) (by omega), Option.bind_some, if_neg (by omega), if_pos rfl, to_tells l (by omega) (k := k + 1) (by omega), Option.bind_some, (hgk k (by omega)).2, Option.bind_some, eq_tells g (by omega) (k := k + 1) (by omega), Option.bind_some, if_pos rfl]
      simp only [laws_FnExactAddPage.j2]
      rw [if_neg (by simp), held_tells g.length hg hk, Option.bind_some, if_neg (by omega), if_pos rfl]
/-- The walk, at what has been shown. -/
theorem FnExactAddPage_walk (W : World) (A : Option Addr) (c : Nat) (l : List S66) (a p : Int) (R : Kd.C k66 W A l.length l) (C : l.length ≤ c) (w : l.length ≤ 9223372036854775807 ∧ ∀ x ∈ l, x.f2.size ≤ 9223372036854775807) (wa : (Lit.int .i64 a).wf = true) (_wp : (Lit.int .i64 p).wf = true) :
    Calls Try.prog 3 #[.agg #[.slice A l.length c], .int .i64 a, .int .i64 p] W fun e W' => e = .returned (.bool true) ∧ Below W.heap.size W W' := by
  obtain ⟨k, hk⟩ := FnExactAddPage l a p w.1 w.2 wa
  exact laws_FnExactAddPage.calls k A c l a p true W R C hk

end Go.Proofs.Ytmldfchddccncaa.Pure
