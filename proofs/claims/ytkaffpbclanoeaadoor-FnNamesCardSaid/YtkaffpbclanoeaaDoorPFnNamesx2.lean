-- Written for this claim by the session's own program, out of the translation. Not trusted: Lean checks it.
import Derived.Test.YtkaffpbclanoeaaDoorPFnNamesx0
namespace Go.Proofs.YtkaffpbclanoeaaDoor.PFnNames
open Go.RowKit Go.Proofs.YtkaffpbclanoeaaDoorW.PrintWords Go.Proofs.YtkaffpbclanoeaaDoorW.PrintLast Go.Proofs.YtkaffpbclanoeaaDoorW.PrintMore
attribute [local go_sem] max2_int min2_int max_two min_two max_three min_three max_four min_four   -- for this text's walks alone
set_option linter.unusedVariables false
set_option linter.unnecessarySimpa false
set_option linter.unusedSimpArgs false

/-! ### impl_within: function 38 -/
def impl_within.f (a0 : Int) (a1 : Int) (a2 : Int) : Option (Bool) := if a0 ≥ a1 then (some (decide (a0 ≤ a2))) else (some false)
set_option maxHeartbeats 8000000 in
set_option maxRecDepth 100000 in
theorem impl_within.calls (a0 : Int) (a1 : Int) (a2 : Int) (r : Bool) (w : World) (h : impl_within.f a0 a1 a2 = some r) :
    Calls Tryd.prog 38 #[.int .i64 a0, .int .i64 a1, .int .i64 a2] w fun e w' => e = .returned (.bool r) ∧ Drawn0 w w' := by
  have H : (if a0 ≥ a1 then (some (decide (a0 ≤ a2))) else (some false)) = some r := h
  clear h
  by_cases c4 : a0 ≥ a1
  · rw [if_pos c4] at H
    have c4b0 : decide (a1 ≤ a0) = true := decide_eq_true c4
    clear c4
    obtain rfl := Option.some.inj H
    go_enter Tryd.func38, Tryd.ntmps38
    go_wp2
    go_ret
    exact ⟨by first | rfl | (simp; done) | (simp [*]; done), by repeat (first | exact Drawn0.refl _ | apply Drawn0.step)⟩
  · rw [if_neg c4] at H
    have c4b0 : decide (a1 ≤ a0) = false := decide_eq_false c4
    clear c4
    obtain rfl := Option.some.inj H
    go_enter Tryd.func38, Tryd.ntmps38
    go_wp2
    go_ret
    exact ⟨by first | rfl | (simp; done) | (simp [*]; done), by repeat (first | exact Drawn0.refl _ | apply Drawn0.step)⟩

/-! ### impl_isSize: function 46 -/
def impl_isSize.f (a0 : Int) : Option (Bool) := if a0 = 1 then (some true) else (if a0 = 2 then (some true) else (if a0 = 4 then (some true) else (some (a0 == 8))))
set_option maxHeartbeats 8000000 in
set_option maxRecDepth 100000 in
theorem impl_isSize.calls (a0 : Int) (r : Bool) (w : World) (h : impl_isSize.f a0 = some r) :
    Calls Tryd.prog 46 #[.int .i64 a0] w fun e w' => e = .returned (.bool r) ∧ Drawn0 w w' := by
  have H : (if a0 = 1 then (some true) else (if a0 = 2 then (some true) else (if a0 = 4 then (some true) else (some (a0 == 8))))) = some r := h
  clear h
  by_cases c2 : a0 = 1
  · rw [if_pos c2] at H
    have c2b0 : (a0 == 1) = true := beq_iff_eq.mpr c2
    have c2b1 : (a0 != 1) = false := bne_eq_false_iff_eq.mpr c2
    clear c2
    obtain rfl := Option.some.inj H
    go_enter Tryd.func46, Tryd.ntmps46
    go_wp2
    go_ret
    exact ⟨by first | rfl | (simp; done) | (simp [*]; done), by repeat (first | exact Drawn0.refl _ | apply Drawn0.step)⟩
  · rw [if_neg c2] at H
    have c2b0 : (a0 == 1) = false := beq_eq_false_iff_ne.mpr c2
    have c2b1 : (a0 != 1) = true := bne_iff_ne.mpr c2
    by_cases c3 : a0 = 2
    · rw [if_pos c3] at H
      have c3b0 : (a0 == 2) = true := beq_iff_eq.mpr c3
      have c3b1 : (a0 != 2) = false := bne_eq_false_iff_eq.mpr c3
      clear c3
      obtain rfl := Option.some.inj H
      go_enter Tryd.func46, Tryd.ntmps46
      go_wp2
      go_ret
      exact ⟨by first | rfl | (simp; done) | (simp [*]; done), by repeat (first | exact Drawn0.refl _ | apply Drawn0.step)⟩
    · rw [if_neg c3] at H
      have c3b0 : (a0 == 2) = false := beq_eq_false_iff_ne.mpr c3
      have c3b1 : (a0 != 2) = true := bne_iff_ne.mpr c3
      by_cases c4 : a0 = 4
      · rw [if_pos c4] at H
        have c4b0 : (a0 == 4) = true := beq_iff_eq.mpr c4
        have c4b1 : (a0 != 4) = false := bne_eq_false_iff_eq.mpr c4
        clear c4
        obtain rfl := Option.some.inj H
        go_enter Tryd.func46, Tryd.ntmps46
        go_wp2
        go_ret
        exact ⟨by first | rfl | (simp; done) | (simp [*]; done), by repeat (first | exact Drawn0.refl _ | apply Drawn0.step)⟩
      · rw [if_neg c4] at H
        have c4b0 : (a0 == 4) = false := beq_eq_false_iff_ne.mpr c4
        have c4b1 : (a0 != 4) = true := bne_iff_ne.mpr c4
        obtain rfl := Option.some.inj H
        go_enter Tryd.func46, Tryd.ntmps46
        go_wp2
        go_ret
        exact ⟨by first | rfl | (simp; done) | (simp [*]; done), by repeat (first | exact Drawn0.refl _ | apply Drawn0.step)⟩

/-! ### impl_isHigh: function 47 -/
def impl_isHigh.f (a0 : Int) : Option (Bool) := (impl_within.f a0 16 19).bind fun t101 => (some t101)
set_option maxHeartbeats 8000000 in
set_option maxRecDepth 100000 in
theorem impl_isHigh.calls (a0 : Int) (r : Bool) (w : World) (h : impl_isHigh.f a0 = some r) :
    Calls Tryd.prog 47 #[.int .i64 a0] w fun e w' => e = .returned (.bool r) ∧ Drawn0 w w' := by
  have H : ((impl_within.f a0 16 19).bind fun t101 => (some t101)) = some r := h
  clear h
  replace H := Option.bind_eq_some_iff.mp H
  obtain ⟨t101, A20, H⟩ := H
  replace H : (some t101) = some r := H
  have A2 := Aside0.mk A20
  clear A20
  obtain rfl := Option.some.inj H
  go_enter Tryd.func47, Tryd.ntmps47
  go_wp2_with (first | ((with_reducible refine gate_callee (f := 38) rfl ?_); refine goesL_ (some 4) rfl rfl Tryd.func38 (by kernel_rfl) rfl #[.int .i64 a0, .int .i64 16, .int .i64 19] rfl (by (try simp only [List.map_toArray, List.map_cons, List.map_nil]); first | done | rfl | (simp only [List.length_drop, List.length_take]; rfl)) ?_; (with_reducible refine (impl_within.calls a0 16 19 t101 _ A2.out).mono ?_); rintro e w' ⟨rfl, ⟨nd, rfl⟩⟩; refine ⟨_, rfl, ?_⟩))
  go_ret
  exact ⟨by first | rfl | (simp; done) | (simp [*]; done), by repeat (first | exact Drawn0.refl _ | apply Drawn0.step)⟩

/-! ### impl_isReg: function 26 -/
def impl_isReg.f (a0 : Int) (a1 : Int) : Option (Bool) := (impl_isSize.f a1).bind fun t102 => (if t102 = true then ((impl_within.f a0 0 15).bind fun t103 => (if t103 = true then (some true) else (if a1 = 1 then ((impl_isHigh.f a0).bind fun t104 => (some t104)) else (some false)))) else (some false))
set_option maxHeartbeats 8000000 in
set_option maxRecDepth 100000 in
theorem impl_isReg.calls (a0 : Int) (a1 : Int) (r : Bool) (w : World) (h : impl_isReg.f a0 a1 = some r) :
    Calls Tryd.prog 26 #[.int .i64 a0, .int .i64 a1] w fun e w' => e = .returned (.bool r) ∧ Drawn0 w w' := by
  have H : ((impl_isSize.f a1).bind fun t102 => (if t102 = true then ((impl_within.f a0 0 15).bind fun t103 => (if t103 = true then (some true) else (if a1 = 1 then ((impl_isHigh.f a0).bind fun t104 => (some t104)) else (some false)))) else (some false))) = some r := h
  clear h
  replace H := Option.bind_eq_some_iff.mp H
  obtain ⟨t102, A30, H⟩ := H
  replace H : (if t102 = true then ((impl_within.f a0 0 15).bind fun t103 => (if t103 = true then (some true) else (if a1 = 1 then ((impl_isHigh.f a0).bind fun t104 => (some t104)) else (some false)))) else (some false)) = some r := H
  have A3 := Aside0.mk A30
  clear A30
  by_cases c4 : t102 = true
  · subst c4
    have H1 : ((impl_within.f a0 0 15).bind fun t103 => (if t103 = true then (some true) else (if a1 = 1 then ((impl_isHigh.f a0).bind fun t104 => (some t104)) else (some false)))) = some r := by rw [if_pos rfl] at H; exact H
    clear H
    have H := H1
    clear H1
    replace H := Option.bind_eq_some_iff.mp H
    obtain ⟨t103, A50, H⟩ := H
    replace H : (if t103 = true then (some true) else (if a1 = 1 then ((impl_isHigh.f a0).bind fun t104 => (some t104)) else (some false))) = some r := H
    have A5 := Aside0.mk A50
    clear A50
    by_cases c6 : t103 = true
    · subst c6
      have H1 : (some true) = some r := by rw [if_pos rfl] at H; exact H
      clear H
      have H := H1
      clear H1
      obtain rfl := Option.some.inj H
      go_enter Tryd.func26, Tryd.ntmps26
      go_wp2_with (first | ((with_reducible refine gate_callee (f := 46) rfl ?_); refine goesL_ (some 6) rfl rfl Tryd.func46 (by kernel_rfl) rfl #[.int .i64 a1] rfl (by (try simp only [List.map_toArray, List.map_cons, List.map_nil]); first | done | rfl | (simp only [List.length_drop, List.length_take]; rfl)) ?_; (with_reducible refine (impl_isSize.calls a1 true _ A3.out).mono ?_); rintro e w' ⟨rfl, ⟨nd, rfl⟩⟩; refine ⟨_, rfl, ?_⟩) | (go_at_call 38; (with_reducible refine (impl_within.calls a0 0 15 true _ A5.out).mono ?_); rintro e w' ⟨rfl, ⟨nd, rfl⟩⟩))
      go_ret
      exact ⟨by first | rfl | (simp; done) | (simp [*]; done), by repeat (first | exact Drawn0.refl _ | apply Drawn0.step)⟩
    · replace c6 := Bool.eq_false_iff.mpr c6
      subst c6
      have H1 : (if a1 = 1 then ((impl_isHigh.f a0).bind fun t104 => (some t104)) else (some false)) = some r := by rw [if_neg (show ¬ (false = true) by decide)] at H; exact H
      clear H
      have H := H1
      clear H1
      by_cases c7 : a1 = 1
      · rw [if_pos c7] at H
        have c7b0 : (a1 == 1) = true := beq_iff_eq.mpr c7
        have c7b1 : (a1 != 1) = false := bne_eq_false_iff_eq.mpr c7
        clear c7
        replace H := Option.bind_eq_some_iff.mp H
        obtain ⟨t104, A80, H⟩ := H
        replace H : (some t104) = some r := H
        have A8 := Aside0.mk A80
        clear A80
        obtain rfl := Option.some.inj H
        go_enter Tryd.func26, Tryd.ntmps26
        go_wp2_with (first | ((with_reducible refine gate_callee (f := 46) rfl ?_); refine goesL_ (some 6) rfl rfl Tryd.func46 (by kernel_rfl) rfl #[.int .i64 a1] rfl (by (try simp only [List.map_toArray, List.map_cons, List.map_nil]); first | done | rfl | (simp only [List.length_drop, List.length_take]; rfl)) ?_; (with_reducible refine (impl_isSize.calls a1 true _ A3.out).mono ?_); rintro e w' ⟨rfl, ⟨nd, rfl⟩⟩; refine ⟨_, rfl, ?_⟩) | (go_at_call 38; (with_reducible refine (impl_within.calls a0 0 15 false _ A5.out).mono ?_); rintro e w' ⟨rfl, ⟨nd, rfl⟩⟩) | (go_at_call 47; (with_reducible refine (impl_isHigh.calls a0 t104 _ A8.out).mono ?_); rintro e w' ⟨rfl, ⟨nd, rfl⟩⟩))
        go_ret
        exact ⟨by first | rfl | (simp; done) | (simp [*]; done), by repeat (first | exact Drawn0.refl _ | apply Drawn0.step)⟩
      · rw [if_neg c7] at H
        have c7b0 : (a1 == 1) = false := beq_eq_false_iff_ne.mpr c7
        have c7b1 : (a1 != 1) = true := bne_iff_ne.mpr c7
        obtain rfl := Option.some.inj H
        go_enter Tryd.func26, Tryd.ntmps26
        go_wp2_with (first | ((with_reducible refine gate_callee (f := 46) rfl ?_); refine goesL_ (some 6) rfl rfl Tryd.func46 (by kernel_rfl) rfl #[.int .i64 a1] rfl (by (try simp only [List.map_toArray, List.map_cons, List.map_nil]); first | done | rfl | (simp only [List.length_drop, List.length_take]; rfl)) ?_; (with_reducible refine (impl_isSize.calls a1 true _ A3.out).mono ?_); rintro e w' ⟨rfl, ⟨nd, rfl⟩⟩; refine ⟨_, rfl, ?_⟩) | (go_at_call 38; (with_reducible refine (impl_within.calls a0 0 15 false _ A5.out).mono ?_); rintro e w' ⟨rfl, ⟨nd, rfl⟩⟩))
        go_ret
        exact ⟨by first | rfl | (simp; done) | (simp [*]; done), by repeat (first | exact Drawn0.refl _ | apply Drawn0.step)⟩
  · replace c4 := Bool.eq_false_iff.mpr c4
    subst c4
    have H1 : (some false) = some r := by rw [if_neg (show ¬ (false = true) by decide)] at H; exact H
    clear H
    have H := H1
    clear H1
    obtain rfl := Option.some.inj H
    go_enter Tryd.func26, Tryd.ntmps26
    go_wp2_with (first | ((with_reducible refine gate_callee (f := 46) rfl ?_); refine goesL_ (some 6) rfl rfl Tryd.func46 (by kernel_rfl) rfl #[.int .i64 a1] rfl (by (try simp only [List.map_toArray, List.map_cons, List.map_nil]); first | done | rfl | (simp only [List.length_drop, List.length_take]; rfl)) ?_; (with_reducible refine (impl_isSize.calls a1 false _ A3.out).mono ?_); rintro e w' ⟨rfl, ⟨nd, rfl⟩⟩; refine ⟨_, rfl, ?_⟩))
    go_ret
    exact ⟨by first | rfl | (simp; done) | (simp [*]; done), by repeat (first | exact Drawn0.refl _ | apply Drawn0.step)⟩

/-! ### strconv_Itoa_48: function 48 -/
/-- The digits of a small number. -/
def strconv_Itoa_48.f (a0 : Int) : Option ByteArray := if 0 ≤ a0 ∧ a0 < 100 then some ⟨(Lib.decDigits a0.toNat).toArray⟩ else none
theorem strconv_Itoa_48.calls (a0 : Int) (r : ByteArray) (w : World) (h : strconv_Itoa_48.f a0 = some r) :
    Calls Tryd.prog 48 #[.int .i64 a0] w fun e w' => e = .returned (.string r) ∧ Drawn0 w w' := by
  unfold strconv_Itoa_48.f at h
  by_cases h0 : 0 ≤ a0 ∧ a0 < 100
  · rw [if_pos h0] at h
    obtain rfl := Option.some.inj h
    have := Tryd.strconv_Itoa_small a0.toNat (by omega) w
    rw [show ((a0.toNat : Nat) : Int) = a0 by omega] at this
    exact this.mono fun e w' ⟨h1, h2⟩ => ⟨h1, ⟨0, h2⟩⟩
  · rw [if_neg h0] at h
    cases h


/-- What a table says. -/
def tab (L : List (Nat × Int × ByteArray)) (c : Nat → Bool) (a0 : Int) : ByteArray := match L with
  | [] => ⟨#[]⟩
  | (i, n, s) :: r => if a0 = n ∧ c i = true then s else tab r c a0
theorem keyed3 : Maps.Keyed Tryd.prog 3 := Maps.int_keyed Tryd.underlying3
noncomputable abbrev R9 := plainElem (H := Unit) Tryd.prog 9
def Has (w : World) (base : Nat) (v : Value) (x : Nat) (s : ByteArray) (a0 : Int) : Prop :=
  ∃ b D, v = .map (some b) ∧ base ≤ b ∧ w.ownsMap Tryd.prog 3 R9 b x D ∧ Maps.IsMap D ∧ D.atKey (.int .i64 a0) (.lit (.string [])) = .lit (.string s.data.toList)
theorem Has.kept {w w' : World} {base x : Nat} {v : Value} {s : ByteArray} {a0 : Int} {row : Option Nat} (h : Has w base v x s a0) (hg : w.grownBy w' row) (hne : ∀ b, v = .map (some b) → some b ≠ row) : Has w' base v x s a0 := by
  obtain ⟨b, D, rfl, h1, h2, h3⟩ := h
  exact ⟨b, D, rfl, h1, h2.kept hg (hne b rfl), h3⟩
theorem Has.made (w : World) (base : Nat) (hb : base ≤ w.heap.size) (a0 : Int) : Has (w.alloc (.map #[] 0)) base (.map (some w.heap.size)) 0 ⟨#[]⟩ a0 :=
  ⟨_, _, rfl, hb, World.ownsMap_made w _ _ _, Maps.isMap_empty, rfl⟩
theorem Has.put {w : World} {base x : Nat} {v : Value} {s : ByteArray} {a0 : Int} (h : Has w base v x s a0) (hx : x < 100) {n : Int} (hn : (Lit.int .i64 n).wf = true) {t : ByteArray} (ht : t.size ≤ maxLen) :
    ∃ w' b, v = .map (some b) ∧ (Instr.mapUpdate 52 v (.int .i64 n) (.string t)).run Tryd.prog w = .ok () w' ∧ w.grownBy w' (some b) ∧ Has w' base v (x + 1) (if a0 = n then t else s) a0 := by
  obtain ⟨b, D, rfl, h1, h2, h3, h4⟩ := h
  obtain ⟨w', hrun, h5, h6⟩ := h2.update (t := 52) (e := 9) keyed3 Tryd.underlying52 (by unfold maxLen; omega) (key := .int .i64 n) (kl := .int .i64 n) (val := .string t) (Maps.keyOf_int_mk Tryd.underlying3 hn) (plainElem_string Tryd.underlying9 ht)
  refine ⟨w', b, rfl, hrun, h6, b, _, rfl, h1, h5, h3.put _ _, ?_⟩
  by_cases e : a0 = n
  · subst e
    rw [if_pos rfl]
    exact Maps.atKey_put_same (k := .int .i64 a0) h3 trivial _ _
  · rw [if_neg e, Maps.atKey_put_other (by intro h; exact e (by injection h)) , h4]
theorem Has.look {w : World} {base x : Nat} {v : Value} {s : ByteArray} {a0 : Int} (h : Has w base v x s a0) (ha : (Lit.int .i64 a0).wf = true) :
    (Instr.lookup 52 v (.int .i64 a0) false).run Tryd.prog w = .ok (.string s) w := by
  obtain ⟨b, D, rfl, h1, h2, h3, h4⟩ := h
  obtain ⟨u, ps, hrun, hu⟩ := h2.lookup (t := 52) (e := 9) keyed3 Tryd.underlying52 (z := .string ⟨#[]⟩) (by rfl) (plainElem_string Tryd.underlying9 (by decide)) (key := .int .i64 a0) (kl := .int .i64 a0) (Maps.keyOf_int_mk Tryd.underlying3 ha)
  rw [hrun]
  rw [h4] at hu
  have : u = .string s := by
    unfold R9 plainElem at hu
    rw [Tryd.underlying9] at hu
    cases u <;> simp at hu
    rename_i q
    obtain ⟨_, hu, _⟩ := hu
    congr 1
    exact ByteArray.ext hu
  rw [this]

theorem Has.le {w : World} {base x y : Nat} {v : Value} {s t : ByteArray} {a0 : Int} (h : Has w base v x s a0) (hx : x ≤ y) (hs : s = t) : Has w base v y t a0 := by
  subst hs
  obtain ⟨b, D, rfl, h1, h2, h3⟩ := h
  exact ⟨b, D, rfl, h1, h2.mono hx, h3⟩
theorem Has.ne_new {w : World} {base x : Nat} {v : Value} {s : ByteArray} {a0 : Int} (h : Has w base v x s a0) : v ≠ .map (some w.heap.size) := by
  obtain ⟨b, D, rfl, h1, h2, h3⟩ := h
  intro e
  injection e with e
  injection e with e
  have := h2.lt
  omega
abbrev T1 : List (Nat × Int × ByteArray) := [(1, 2, ⟨#[]⟩), (2, 4, ⟨#[101]⟩), (3, 8, ⟨#[114]⟩)]
abbrev T2 : List (Nat × Int × ByteArray) := [(8, 1, ⟨#[98]⟩), (9, 2, ⟨#[119]⟩), (10, 4, ⟨#[100]⟩), (11, 8, ⟨#[]⟩)]
def pre27 (a0 : Int) : ByteArray := tab T1 (fun _ => true) a0
def post27 (a0 : Int) : ByteArray := tab T2 (fun _ => true) a0
structure Rel27 (w0 : World) (a0 : Int) (c : Nat → Bool) (w : World) (v4 v5 v11 v12 v13 v14 v15 v16 v17 v18 : Value) : Prop where
  bel : Below w0.heap.size w0 w
  z1 : c 0 = false → c 1 = false ∧ c 2 = false ∧ c 3 = false ∧ c 4 = false
  z2 : c 7 = false → c 8 = false ∧ c 9 = false ∧ c 10 = false ∧ c 11 = false ∧ c 12 = false
  m1 : c 0 = true → Has w w0.heap.size v11 ((c 1).toNat + (c 2).toNat + (c 3).toNat) (tab T1 c a0) a0
  f1 : c 4 = true → c 1 = true ∧ c 2 = true ∧ c 3 = true ∧ v12 = v11
  k1 : c 5 = true → v13 = .int .i64 a0
  l1 : c 6 = true → v14 = .string (pre27 a0)
  m2 : c 7 = true → Has w w0.heap.size v15 ((c 8).toNat + (c 9).toNat + (c 10).toNat + (c 11).toNat) (tab T2 c a0) a0
  f2 : c 12 = true → c 8 = true ∧ c 9 = true ∧ c 10 = true ∧ c 11 = true ∧ v16 = v15
  k2 : c 13 = true → v17 = .int .i64 a0
  l2 : c 14 = true → v18 = .string (post27 a0)
  s1 : c 15 = true → v4 = .string (pre27 a0)
  s2 : c 16 = true → v5 = .string (post27 a0)
  ne : c 0 = true → c 7 = true → v11 ≠ v15
theorem exec_value {P : Program} {s : Sem Value} {v : Value} {w w' : World} (h : s.run P w = .ok v w') : (do pure (Next.value (← s)) : Sem Next).run P w = .ok (.value v) w' := by simp [h, Result.andThen]
theorem exec_skip {P : Program} {s : Sem Unit} {w w' : World} (h : s.run P w = .ok () w') : (do s; pure .skip : Sem Next).run P w = .ok .skip w' := by simp [h, Result.andThen]
theorem wpOp_value {P : Program} {ops : Array Oper} {Q : Exit → Act → World → Prop} {i : Nat} {o : Oper} {a : Act} {w w' : World} {v : Value} {K : Act → World → Prop} (ho : ops[i]? = some o) (hg : o.guard = none) (hrun : (execOp a.eval o).run P w = .ok (.value v) w') (h : K (a.put o.dst v) w') : wpOp P ops Q i K a w :=
  wpOp_plain ho hg (by unfold Oper.wp; rw [hrun]; exact h)
theorem wpOp_skip {P : Program} {ops : Array Oper} {Q : Exit → Act → World → Prop} {i : Nat} {o : Oper} {a : Act} {w w' : World} {K : Act → World → Prop} (ho : ops[i]? = some o) (hg : o.guard = none) (hrun : (execOp a.eval o).run P w = .ok .skip w') (h : K (a.put o.dst undef) w') : wpOp P ops Q i K a w :=
  wpOp_plain ho hg (by unfold Oper.wp; rw [hrun]; exact h)
def Inv27 (w0 : World) (a0 : Int) (v3 v10 : Value) (c : Nat → Bool) (a : Act) (w : World) : Prop :=
  ∃ v4 v5 v11 v12 v13 v14 v15 v16 v17 v18, a = ⟨#[.int .i64 a0, undef, .slice none 0 0, v3, v4, v5, undef, undef, undef, undef, v10, v11, v12, v13, v14, v15, v16, v17, v18, undef, undef, undef, undef, undef, undef, undef, undef, undef, undef, undef, undef, undef, undef, undef, undef, undef, undef, undef, undef, undef, undef, undef, undef, undef, undef, undef, undef, undef, undef, undef, undef, undef, undef, undef], []⟩ ∧ Rel27 w0 a0 c w v4 v5 v11 v12 v13 v14 v15 v16 v17 v18
theorem step27_0 {w0 : World} {a0 : Int} (ha : (Lit.int .i64 a0).wf = true) {v3 v10 : Value} {c : Nat → Bool} {a : Act} {w : World} {ops : Array Oper} {o : Oper} {Q : Exit → Act → World → Prop} (hc : c 0 = false) (ho : ops[0]? = some o) (hg : o.guard = none) (hop : o.op = .makeMap 52 none) (hdst : o.dst = (some 11)) (hI : Inv27 w0 a0 v3 v10 c a w) : wpOp Tryd.prog ops Q 0 (fun a' w' => Inv27 w0 a0 v3 v10 (fun j => if j = 0 then true else c j) a' w') a w := by
  obtain ⟨dst, op, ty, ps, af, gd⟩ := o
  simp only at hg hop hdst
  subst hg hop hdst
  obtain ⟨v4, v5, v11, v12, v13, v14, v15, v16, v17, v18, rfl, R⟩ := hI
  obtain ⟨y1, y2, y3, y4⟩ := R.z1 hc
  refine wpOp_value ho rfl (exec_value (run_makeMap 52 w)) ?_
  refine ⟨v4, v5, (.map (some w.heap.size)), v12, v13, v14, v15, v16, v17, v18, rfl, ?_⟩
  exact { bel := R.bel.alloc R.bel.size _
          z1 := fun h => absurd h (by simp)
          z2 := by simpa [hc] using R.z2
          m1 := fun _ => (Has.made w w0.heap.size R.bel.size a0).le (Nat.zero_le _) (by simp [tab, y1, y2, y3, y4])
          f1 := fun h => absurd h (by simp [y1, y2, y3, y4])
          k1 := by simpa [hc] using R.k1
          l1 := by simpa [hc] using R.l1
          m2 := fun h => ((R.m2 (by simpa using h)).kept (World.grownBy_alloc w _ none) (by simp)).le (by simp) (by simp [tab])
          f2 := by simpa [hc] using R.f2
          k2 := by simpa [hc] using R.k2
          l2 := by simpa [hc] using R.l2
          s1 := by simpa [hc] using R.s1
          s2 := by simpa [hc] using R.s2
          ne := fun _ h => (R.m2 (by simpa using h)).ne_new.symm }
theorem step27_7 {w0 : World} {a0 : Int} (ha : (Lit.int .i64 a0).wf = true) {v3 v10 : Value} {c : Nat → Bool} {a : Act} {w : World} {ops : Array Oper} {o : Oper} {Q : Exit → Act → World → Prop} (hc : c 7 = false) (ho : ops[7]? = some o) (hg : o.guard = none) (hop : o.op = .makeMap 52 none) (hdst : o.dst = (some 15)) (hI : Inv27 w0 a0 v3 v10 c a w) : wpOp Tryd.prog ops Q 7 (fun a' w' => Inv27 w0 a0 v3 v10 (fun j => if j = 7 then true else c j) a' w') a w := by
  obtain ⟨dst, op, ty, ps, af, gd⟩ := o
  simp only at hg hop hdst
  subst hg hop hdst
  obtain ⟨v4, v5, v11, v12, v13, v14, v15, v16, v17, v18, rfl, R⟩ := hI
  obtain ⟨y1, y2, y3, y4, y5⟩ := R.z2 hc
  refine wpOp_value ho rfl (exec_value (run_makeMap 52 w)) ?_
  refine ⟨v4, v5, v11, v12, v13, v14, (.map (some w.heap.size)), v16, v17, v18, rfl, ?_⟩
  exact { bel := R.bel.alloc R.bel.size _
          z1 := by simpa [hc] using R.z1
          z2 := fun h => absurd h (by simp)
          m1 := fun h => ((R.m1 (by simpa using h)).kept (World.grownBy_alloc w _ none) (by simp)).le (by simp) (by simp [tab])
          f1 := by simpa [hc] using R.f1
          k1 := by simpa [hc] using R.k1
          l1 := by simpa [hc] using R.l1
          m2 := fun _ => (Has.made w w0.heap.size R.bel.size a0).le (Nat.zero_le _) (by simp [tab, y1, y2, y3, y4, y5])
          f2 := fun h => absurd h (by simp [y1, y2, y3, y4, y5])
          k2 := by simpa [hc] using R.k2
          l2 := by simpa [hc] using R.l2
          s1 := by simpa [hc] using R.s1
          s2 := by simpa [hc] using R.s2
          ne := fun h _ => (R.m1 (by simpa using h)).ne_new }
theorem step27_1 {w0 : World} {a0 : Int} (ha : (Lit.int .i64 a0).wf = true) {v3 v10 : Value} {c : Nat → Bool} {a : Act} {w : World} {ops : Array Oper} {o : Oper} {Q : Exit → Act → World → Prop} (hc : c 1 = false) (ho : ops[1]? = some o) (hg : o.guard = none) (hop : o.op = .insert 52 (.tmp 11) (.const (.int .i64 2)) (.const (.string ⟨#[]⟩))) (hdst : o.dst = none) (d0 : c 0 = true) (hI : Inv27 w0 a0 v3 v10 c a w) : wpOp Tryd.prog ops Q 1 (fun a' w' => Inv27 w0 a0 v3 v10 (fun j => if j = 1 then true else c j) a' w') a w := by
  obtain ⟨dst, op, ty, ps, af, gd⟩ := o
  simp only at hg hop hdst
  subst hg hop hdst
  obtain ⟨v4, v5, v11, v12, v13, v14, v15, v16, v17, v18, rfl, R⟩ := hI
  have g1 := Bool.toNat_le (c 1)
  have g2 := Bool.toNat_le (c 2)
  have g3 := Bool.toNat_le (c 3)
  have hm := R.m1 d0
  obtain ⟨w', b, hb, hrun, hgrow, hnew⟩ := hm.put (by omega) (n := 2) (by decide) (t := ⟨#[]⟩) (by decide)
  have hbase : w0.heap.size ≤ b := by
    obtain ⟨b', _, e, hb', _⟩ := hm
    rw [hb] at e
    injection e with e
    injection e with e
    omega
  refine wpOp_skip ho rfl (exec_skip hrun) ?_
  refine ⟨v4, v5, v11, v12, v13, v14, v15, v16, v17, v18, rfl, ?_⟩
  exact { bel := R.bel.grown hgrow R.bel.size (fun k e => by injection e with e; omega)
          z1 := fun h => absurd h (by simp [d0])
          z2 := by simpa [hc] using R.z2
          m1 := fun _ => hnew.le (by simp [hc]; try omega) (by by_cases e : a0 = 2 <;> simp [tab, e, hc])
          f1 := fun h => by have := R.f1 (by simpa using h); simp [hc] at this
          k1 := by simpa [hc] using R.k1
          l1 := by simpa [hc] using R.l1
          m2 := fun h => ((R.m2 (by simpa using h)).kept hgrow (fun b' e1 e2 => (R.ne d0 (by simpa using h)) (by rw [hb, e1]; rw [Option.some.inj e2]))).le (by simp) (by simp [tab])
          f2 := by simpa [hc] using R.f2
          k2 := by simpa [hc] using R.k2
          l2 := by simpa [hc] using R.l2
          s1 := by simpa [hc] using R.s1
          s2 := by simpa [hc] using R.s2
          ne := by simpa [hc] using R.ne }
theorem step27_2 {w0 : World} {a0 : Int} (ha : (Lit.int .i64 a0).wf = true) {v3 v10 : Value} {c : Nat → Bool} {a : Act} {w : World} {ops : Array Oper} {o : Oper} {Q : Exit → Act → World → Prop} (hc : c 2 = false) (ho : ops[2]? = some o) (hg : o.guard = none) (hop : o.op = .insert 52 (.tmp 11) (.const (.int .i64 4)) (.const (.string ⟨#[101]⟩))) (hdst : o.dst = none) (d0 : c 0 = true) (hI : Inv27 w0 a0 v3 v10 c a w) : wpOp Tryd.prog ops Q 2 (fun a' w' => Inv27 w0 a0 v3 v10 (fun j => if j = 2 then true else c j) a' w') a w := by
  obtain ⟨dst, op, ty, ps, af, gd⟩ := o
  simp only at hg hop hdst
  subst hg hop hdst
  obtain ⟨v4, v5, v11, v12, v13, v14, v15, v16, v17, v18, rfl, R⟩ := hI
  have g1 := Bool.toNat_le (c 1)
  have g2 := Bool.toNat_le (c 2)
  have g3 := Bool.toNat_le (c 3)
  have hm := R.m1 d0
  obtain ⟨w', b, hb, hrun, hgrow, hnew⟩ := hm.put (by omega) (n := 4) (by decide) (t := ⟨#[101]⟩) (by decide)
  have hbase : w0.heap.size ≤ b := by
    obtain ⟨b', _, e, hb', _⟩ := hm
    rw [hb] at e
    injection e with e
    injection e with e
    omega
  refine wpOp_skip ho rfl (exec_skip hrun) ?_
  refine ⟨v4, v5, v11, v12, v13, v14, v15, v16, v17, v18, rfl, ?_⟩
  exact { bel := R.bel.grown hgrow R.bel.size (fun k e => by injection e with e; omega)
          z1 := fun h => absurd h (by simp [d0])
          z2 := by simpa [hc] using R.z2
          m1 := fun _ => hnew.le (by simp [hc]; try omega) (by by_cases e : a0 = 4 <;> simp [tab, e, hc])
          f1 := fun h => by have := R.f1 (by simpa using h); simp [hc] at this
          k1 := by simpa [hc] using R.k1
          l1 := by simpa [hc] using R.l1
          m2 := fun h => ((R.m2 (by simpa using h)).kept hgrow (fun b' e1 e2 => (R.ne d0 (by simpa using h)) (by rw [hb, e1]; rw [Option.some.inj e2]))).le (by simp) (by simp [tab])
          f2 := by simpa [hc] using R.f2
          k2 := by simpa [hc] using R.k2
          l2 := by simpa [hc] using R.l2
          s1 := by simpa [hc] using R.s1
          s2 := by simpa [hc] using R.s2
          ne := by simpa [hc] using R.ne }
theorem step27_3 {w0 : World} {a0 : Int} (ha : (Lit.int .i64 a0).wf = true) {v3 v10 : Value} {c : Nat → Bool} {a : Act} {w : World} {ops : Array Oper} {o : Oper} {Q : Exit → Act → World → Prop} (hc : c 3 = false) (ho : ops[3]? = some o) (hg : o.guard = none) (hop : o.op = .insert 52 (.tmp 11) (.const (.int .i64 8)) (.const (.string ⟨#[114]⟩))) (hdst : o.dst = none) (d0 : c 0 = true) (hI : Inv27 w0 a0 v3 v10 c a w) : wpOp Tryd.prog ops Q 3 (fun a' w' => Inv27 w0 a0 v3 v10 (fun j => if j = 3 then true else c j) a' w') a w := by
  obtain ⟨dst, op, ty, ps, af, gd⟩ := o
  simp only at hg hop hdst
  subst hg hop hdst
  obtain ⟨v4, v5, v11, v12, v13, v14, v15, v16, v17, v18, rfl, R⟩ := hI
  have g1 := Bool.toNat_le (c 1)
  have g2 := Bool.toNat_le (c 2)
  have g3 := Bool.toNat_le (c 3)
  have hm := R.m1 d0
  obtain ⟨w', b, hb, hrun, hgrow, hnew⟩ := hm.put (by omega) (n := 8) (by decide) (t := ⟨#[114]⟩) (by decide)
  have hbase : w0.heap.size ≤ b := by
    obtain ⟨b', _, e, hb', _⟩ := hm
    rw [hb] at e
    injection e with e
    injection e with e
    omega
  refine wpOp_skip ho rfl (exec_skip hrun) ?_
  refine ⟨v4, v5, v11, v12, v13, v14, v15, v16, v17, v18, rfl, ?_⟩
  exact { bel := R.bel.grown hgrow R.bel.size (fun k e => by injection e with e; omega)
          z1 := fun h => absurd h (by simp [d0])
          z2 := by simpa [hc] using R.z2
          m1 := fun _ => hnew.le (by simp [hc]; try omega) (by by_cases e : a0 = 8 <;> simp [tab, e, hc])
          f1 := fun h => by have := R.f1 (by simpa using h); simp [hc] at this
          k1 := by simpa [hc] using R.k1
          l1 := by simpa [hc] using R.l1
          m2 := fun h => ((R.m2 (by simpa using h)).kept hgrow (fun b' e1 e2 => (R.ne d0 (by simpa using h)) (by rw [hb, e1]; rw [Option.some.inj e2]))).le (by simp) (by simp [tab])
          f2 := by simpa [hc] using R.f2
          k2 := by simpa [hc] using R.k2
          l2 := by simpa [hc] using R.l2
          s1 := by simpa [hc] using R.s1
          s2 := by simpa [hc] using R.s2
          ne := by simpa [hc] using R.ne }
theorem step27_8 {w0 : World} {a0 : Int} (ha : (Lit.int .i64 a0).wf = true) {v3 v10 : Value} {c : Nat → Bool} {a : Act} {w : World} {ops : Array Oper} {o : Oper} {Q : Exit → Act → World → Prop} (hc : c 8 = false) (ho : ops[8]? = some o) (hg : o.guard = none) (hop : o.op = .insert 52 (.tmp 15) (.const (.int .i64 1)) (.const (.string ⟨#[98]⟩))) (hdst : o.dst = none) (d7 : c 7 = true) (hI : Inv27 w0 a0 v3 v10 c a w) : wpOp Tryd.prog ops Q 8 (fun a' w' => Inv27 w0 a0 v3 v10 (fun j => if j = 8 then true else c j) a' w') a w := by
  obtain ⟨dst, op, ty, ps, af, gd⟩ := o
  simp only at hg hop hdst
  subst hg hop hdst
  obtain ⟨v4, v5, v11, v12, v13, v14, v15, v16, v17, v18, rfl, R⟩ := hI
  have g8 := Bool.toNat_le (c 8)
  have g9 := Bool.toNat_le (c 9)
  have g10 := Bool.toNat_le (c 10)
  have g11 := Bool.toNat_le (c 11)
  have hm := R.m2 d7
  obtain ⟨w', b, hb, hrun, hgrow, hnew⟩ := hm.put (by omega) (n := 1) (by decide) (t := ⟨#[98]⟩) (by decide)
  have hbase : w0.heap.size ≤ b := by
    obtain ⟨b', _, e, hb', _⟩ := hm
    rw [hb] at e
    injection e with e
    injection e with e
    omega
  refine wpOp_skip ho rfl (exec_skip hrun) ?_
  refine ⟨v4, v5, v11, v12, v13, v14, v15, v16, v17, v18, rfl, ?_⟩
  exact { bel := R.bel.grown hgrow R.bel.size (fun k e => by injection e with e; omega)
          z1 := by simpa [hc] using R.z1
          z2 := fun h => absurd h (by simp [d7])
          m1 := fun h => ((R.m1 (by simpa using h)).kept hgrow (fun b' e1 e2 => (R.ne (by simpa using h) d7) (by rw [hb, e1]; rw [Option.some.inj e2]))).le (by simp) (by simp [tab])
          f1 := by simpa [hc] using R.f1
          k1 := by simpa [hc] using R.k1
          l1 := by simpa [hc] using R.l1
          m2 := fun _ => hnew.le (by simp [hc]; try omega) (by by_cases e : a0 = 1 <;> simp [tab, e, hc])
          f2 := fun h => by have := R.f2 (by simpa using h); simp [hc] at this
          k2 := by simpa [hc] using R.k2
          l2 := by simpa [hc] using R.l2
          s1 := by simpa [hc] using R.s1
          s2 := by simpa [hc] using R.s2
          ne := by simpa [hc] using R.ne }
theorem step27_9 {w0 : World} {a0 : Int} (ha : (Lit.int .i64 a0).wf = true) {v3 v10 : Value} {c : Nat → Bool} {a : Act} {w : World} {ops : Array Oper} {o : Oper} {Q : Exit → Act → World → Prop} (hc : c 9 = false) (ho : ops[9]? = some o) (hg : o.guard = none) (hop : o.op = .insert 52 (.tmp 15) (.const (.int .i64 2)) (.const (.string ⟨#[119]⟩))) (hdst : o.dst = none) (d7 : c 7 = true) (hI : Inv27 w0 a0 v3 v10 c a w) : wpOp Tryd.prog ops Q 9 (fun a' w' => Inv27 w0 a0 v3 v10 (fun j => if j = 9 then true else c j) a' w') a w := by
  obtain ⟨dst, op, ty, ps, af, gd⟩ := o
  simp only at hg hop hdst
  subst hg hop hdst
  obtain ⟨v4, v5, v11, v12, v13, v14, v15, v16, v17, v18, rfl, R⟩ := hI
  have g8 := Bool.toNat_le (c 8)
  have g9 := Bool.toNat_le (c 9)
  have g10 := Bool.toNat_le (c 10)
  have g11 := Bool.toNat_le (c 11)
  have hm := R.m2 d7
  obtain ⟨w', b, hb, hrun, hgrow, hnew⟩ := hm.put (by omega) (n := 2) (by decide) (t := ⟨#[119]⟩) (by decide)
  have hbase : w0.heap.size ≤ b := by
    obtain ⟨b', _, e, hb', _⟩ := hm
    rw [hb] at e
    injection e with e
    injection e with e
    omega
  refine wpOp_skip ho rfl (exec_skip hrun) ?_
  refine ⟨v4, v5, v11, v12, v13, v14, v15, v16, v17, v18, rfl, ?_⟩
  exact { bel := R.bel.grown hgrow R.bel.size (fun k e => by injection e with e; omega)
          z1 := by simpa [hc] using R.z1
          z2 := fun h => absurd h (by simp [d7])
          m1 := fun h => ((R.m1 (by simpa using h)).kept hgrow (fun b' e1 e2 => (R.ne (by simpa using h) d7) (by rw [hb, e1]; rw [Option.some.inj e2]))).le (by simp) (by simp [tab])
          f1 := by simpa [hc] using R.f1
          k1 := by simpa [hc] using R.k1
          l1 := by simpa [hc] using R.l1
          m2 := fun _ => hnew.le (by simp [hc]; try omega) (by by_cases e : a0 = 2 <;> simp [tab, e, hc])
          f2 := fun h => by have := R.f2 (by simpa using h); simp [hc] at this
          k2 := by simpa [hc] using R.k2
          l2 := by simpa [hc] using R.l2
          s1 := by simpa [hc] using R.s1
          s2 := by simpa [hc] using R.s2
          ne := by simpa [hc] using R.ne }
theorem step27_10 {w0 : World} {a0 : Int} (ha : (Lit.int .i64 a0).wf = true) {v3 v10 : Value} {c : Nat → Bool} {a : Act} {w : World} {ops : Array Oper} {o : Oper} {Q : Exit → Act → World → Prop} (hc : c 10 = false) (ho : ops[10]? = some o) (hg : o.guard = none) (hop : o.op = .insert 52 (.tmp 15) (.const (.int .i64 4)) (.const (.string ⟨#[100]⟩))) (hdst : o.dst = none) (d7 : c 7 = true) (hI : Inv27 w0 a0 v3 v10 c a w) : wpOp Tryd.prog ops Q 10 (fun a' w' => Inv27 w0 a0 v3 v10 (fun j => if j = 10 then true else c j) a' w') a w := by
  obtain ⟨dst, op, ty, ps, af, gd⟩ := o
  simp only at hg hop hdst
  subst hg hop hdst
  obtain ⟨v4, v5, v11, v12, v13, v14, v15, v16, v17, v18, rfl, R⟩ := hI
  have g8 := Bool.toNat_le (c 8)
  have g9 := Bool.toNat_le (c 9)
  have g10 := Bool.toNat_le (c 10)
  have g11 := Bool.toNat_le (c 11)
  have hm := R.m2 d7
  obtain ⟨w', b, hb, hrun, hgrow, hnew⟩ := hm.put (by omega) (n := 4) (by decide) (t := ⟨#[100]⟩) (by decide)
  have hbase : w0.heap.size ≤ b := by
    obtain ⟨b', _, e, hb', _⟩ := hm
    rw [hb] at e
    injection e with e
    injection e with e
    omega
  refine wpOp_skip ho rfl (exec_skip hrun) ?_
  refine ⟨v4, v5, v11, v12, v13, v14, v15, v16, v17, v18, rfl, ?_⟩
  exact { bel := R.bel.grown hgrow R.bel.size (fun k e => by injection e with e; omega)
          z1 := by simpa [hc] using R.z1
          z2 := fun h => absurd h (by simp [d7])
          m1 := fun h => ((R.m1 (by simpa using h)).kept hgrow (fun b' e1 e2 => (R.ne (by simpa using h) d7) (by rw [hb, e1]; rw [Option.some.inj e2]))).le (by simp) (by simp [tab])
          f1 := by simpa [hc] using R.f1
          k1 := by simpa [hc] using R.k1
          l1 := by simpa [hc] using R.l1
          m2 := fun _ => hnew.le (by simp [hc]; try omega) (by by_cases e : a0 = 4 <;> simp [tab, e, hc])
          f2 := fun h => by have := R.f2 (by simpa using h); simp [hc] at this
          k2 := by simpa [hc] using R.k2
          l2 := by simpa [hc] using R.l2
          s1 := by simpa [hc] using R.s1
          s2 := by simpa [hc] using R.s2
          ne := by simpa [hc] using R.ne }
theorem step27_11 {w0 : World} {a0 : Int} (ha : (Lit.int .i64 a0).wf = true) {v3 v10 : Value} {c : Nat → Bool} {a : Act} {w : World} {ops : Array Oper} {o : Oper} {Q : Exit → Act → World → Prop} (hc : c 11 = false) (ho : ops[11]? = some o) (hg : o.guard = none) (hop : o.op = .insert 52 (.tmp 15) (.const (.int .i64 8)) (.const (.string ⟨#[]⟩))) (hdst : o.dst = none) (d7 : c 7 = true) (hI : Inv27 w0 a0 v3 v10 c a w) : wpOp Tryd.prog ops Q 11 (fun a' w' => Inv27 w0 a0 v3 v10 (fun j => if j = 11 then true else c j) a' w') a w := by
  obtain ⟨dst, op, ty, ps, af, gd⟩ := o
  simp only at hg hop hdst
  subst hg hop hdst
  obtain ⟨v4, v5, v11, v12, v13, v14, v15, v16, v17, v18, rfl, R⟩ := hI
  have g8 := Bool.toNat_le (c 8)
  have g9 := Bool.toNat_le (c 9)
  have g10 := Bool.toNat_le (c 10)
  have g11 := Bool.toNat_le (c 11)
  have hm := R.m2 d7
  obtain ⟨w', b, hb, hrun, hgrow, hnew⟩ := hm.put (by omega) (n := 8) (by decide) (t := ⟨#[]⟩) (by decide)
  have hbase : w0.heap.size ≤ b := by
    obtain ⟨b', _, e, hb', _⟩ := hm
    rw [hb] at e
    injection e with e
    injection e with e
    omega
  refine wpOp_skip ho rfl (exec_skip hrun) ?_
  refine ⟨v4, v5, v11, v12, v13, v14, v15, v16, v17, v18, rfl, ?_⟩
  exact { bel := R.bel.grown hgrow R.bel.size (fun k e => by injection e with e; omega)
          z1 := by simpa [hc] using R.z1
          z2 := fun h => absurd h (by simp [d7])
          m1 := fun h => ((R.m1 (by simpa using h)).kept hgrow (fun b' e1 e2 => (R.ne (by simpa using h) d7) (by rw [hb, e1]; rw [Option.some.inj e2]))).le (by simp) (by simp [tab])
          f1 := by simpa [hc] using R.f1
          k1 := by simpa [hc] using R.k1
          l1 := by simpa [hc] using R.l1
          m2 := fun _ => hnew.le (by simp [hc]; try omega) (by by_cases e : a0 = 8 <;> simp [tab, e, hc])
          f2 := fun h => by have := R.f2 (by simpa using h); simp [hc] at this
          k2 := by simpa [hc] using R.k2
          l2 := by simpa [hc] using R.l2
          s1 := by simpa [hc] using R.s1
          s2 := by simpa [hc] using R.s2
          ne := by simpa [hc] using R.ne }
theorem step27_4 {w0 : World} {a0 : Int} (ha : (Lit.int .i64 a0).wf = true) {v3 v10 : Value} {c : Nat → Bool} {a : Act} {w : World} {ops : Array Oper} {o : Oper} {Q : Exit → Act → World → Prop} (hc : c 4 = false) (ho : ops[4]? = some o) (hg : o.guard = none) (hop : o.op = .move (.tmp 11)) (hdst : o.dst = (some 12)) (d0 : c 0 = true) (d1 : c 1 = true) (d2 : c 2 = true) (d3 : c 3 = true) (hI : Inv27 w0 a0 v3 v10 c a w) : wpOp Tryd.prog ops Q 4 (fun a' w' => Inv27 w0 a0 v3 v10 (fun j => if j = 4 then true else c j) a' w') a w := by
  obtain ⟨dst, op, ty, ps, af, gd⟩ := o
  simp only at hg hop hdst
  subst hg hop hdst
  obtain ⟨v4, v5, v11, v12, v13, v14, v15, v16, v17, v18, rfl, R⟩ := hI
  refine wpOp_value ho rfl (rfl) ?_
  refine ⟨v4, v5, v11, v11, v13, v14, v15, v16, v17, v18, rfl, ?_⟩
  exact { bel := R.bel
          z1 := fun h => absurd h (by simp [d0])
          z2 := by simpa [hc] using R.z2
          m1 := by simpa [tab, hc] using R.m1
          f1 := fun _ => ⟨by simp [d1], by simp [d2], by simp [d3], rfl⟩
          k1 := by simpa [hc] using R.k1
          l1 := by simpa [hc] using R.l1
          m2 := by simpa [tab, hc] using R.m2
          f2 := by simpa [hc] using R.f2
          k2 := by simpa [hc] using R.k2
          l2 := by simpa [hc] using R.l2
          s1 := by simpa [hc] using R.s1
          s2 := by simpa [hc] using R.s2
          ne := by simpa [hc] using R.ne }
theorem step27_12 {w0 : World} {a0 : Int} (ha : (Lit.int .i64 a0).wf = true) {v3 v10 : Value} {c : Nat → Bool} {a : Act} {w : World} {ops : Array Oper} {o : Oper} {Q : Exit → Act → World → Prop} (hc : c 12 = false) (ho : ops[12]? = some o) (hg : o.guard = none) (hop : o.op = .move (.tmp 15)) (hdst : o.dst = (some 16)) (d7 : c 7 = true) (d8 : c 8 = true) (d9 : c 9 = true) (d10 : c 10 = true) (d11 : c 11 = true) (hI : Inv27 w0 a0 v3 v10 c a w) : wpOp Tryd.prog ops Q 12 (fun a' w' => Inv27 w0 a0 v3 v10 (fun j => if j = 12 then true else c j) a' w') a w := by
  obtain ⟨dst, op, ty, ps, af, gd⟩ := o
  simp only at hg hop hdst
  subst hg hop hdst
  obtain ⟨v4, v5, v11, v12, v13, v14, v15, v16, v17, v18, rfl, R⟩ := hI
  refine wpOp_value ho rfl (rfl) ?_
  refine ⟨v4, v5, v11, v12, v13, v14, v15, v15, v17, v18, rfl, ?_⟩
  exact { bel := R.bel
          z1 := by simpa [hc] using R.z1
          z2 := fun h => absurd h (by simp [d7])
          m1 := by simpa [tab, hc] using R.m1
          f1 := by simpa [hc] using R.f1
          k1 := by simpa [hc] using R.k1
          l1 := by simpa [hc] using R.l1
          m2 := by simpa [tab, hc] using R.m2
          f2 := fun _ => ⟨by simp [d8], by simp [d9], by simp [d10], by simp [d11], rfl⟩
          k2 := by simpa [hc] using R.k2
          l2 := by simpa [hc] using R.l2
          s1 := by simpa [hc] using R.s1
          s2 := by simpa [hc] using R.s2
          ne := by simpa [hc] using R.ne }
theorem step27_5 {w0 : World} {a0 : Int} (ha : (Lit.int .i64 a0).wf = true) {v3 v10 : Value} {c : Nat → Bool} {a : Act} {w : World} {ops : Array Oper} {o : Oper} {Q : Exit → Act → World → Prop} (hc : c 5 = false) (ho : ops[5]? = some o) (hg : o.guard = none) (hop : o.op = .move (.tmp 0)) (hdst : o.dst = (some 13)) (hI : Inv27 w0 a0 v3 v10 c a w) : wpOp Tryd.prog ops Q 5 (fun a' w' => Inv27 w0 a0 v3 v10 (fun j => if j = 5 then true else c j) a' w') a w := by
  obtain ⟨dst, op, ty, ps, af, gd⟩ := o
  simp only at hg hop hdst
  subst hg hop hdst
  obtain ⟨v4, v5, v11, v12, v13, v14, v15, v16, v17, v18, rfl, R⟩ := hI
  refine wpOp_value ho rfl (rfl) ?_
  refine ⟨v4, v5, v11, v12, (.int .i64 a0), v14, v15, v16, v17, v18, rfl, ?_⟩
  exact { bel := R.bel
          z1 := by simpa [hc] using R.z1
          z2 := by simpa [hc] using R.z2
          m1 := by simpa [tab, hc] using R.m1
          f1 := by simpa [hc] using R.f1
          k1 := fun _ => rfl
          l1 := by simpa [hc] using R.l1
          m2 := by simpa [tab, hc] using R.m2
          f2 := by simpa [hc] using R.f2
          k2 := by simpa [hc] using R.k2
          l2 := by simpa [hc] using R.l2
          s1 := by simpa [hc] using R.s1
          s2 := by simpa [hc] using R.s2
          ne := by simpa [hc] using R.ne }
theorem step27_13 {w0 : World} {a0 : Int} (ha : (Lit.int .i64 a0).wf = true) {v3 v10 : Value} {c : Nat → Bool} {a : Act} {w : World} {ops : Array Oper} {o : Oper} {Q : Exit → Act → World → Prop} (hc : c 13 = false) (ho : ops[13]? = some o) (hg : o.guard = none) (hop : o.op = .move (.tmp 0)) (hdst : o.dst = (some 17)) (hI : Inv27 w0 a0 v3 v10 c a w) : wpOp Tryd.prog ops Q 13 (fun a' w' => Inv27 w0 a0 v3 v10 (fun j => if j = 13 then true else c j) a' w') a w := by
  obtain ⟨dst, op, ty, ps, af, gd⟩ := o
  simp only at hg hop hdst
  subst hg hop hdst
  obtain ⟨v4, v5, v11, v12, v13, v14, v15, v16, v17, v18, rfl, R⟩ := hI
  refine wpOp_value ho rfl (rfl) ?_
  refine ⟨v4, v5, v11, v12, v13, v14, v15, v16, (.int .i64 a0), v18, rfl, ?_⟩
  exact { bel := R.bel
          z1 := by simpa [hc] using R.z1
          z2 := by simpa [hc] using R.z2
          m1 := by simpa [tab, hc] using R.m1
          f1 := by simpa [hc] using R.f1
          k1 := by simpa [hc] using R.k1
          l1 := by simpa [hc] using R.l1
          m2 := by simpa [tab, hc] using R.m2
          f2 := by simpa [hc] using R.f2
          k2 := fun _ => rfl
          l2 := by simpa [hc] using R.l2
          s1 := by simpa [hc] using R.s1
          s2 := by simpa [hc] using R.s2
          ne := by simpa [hc] using R.ne }
theorem step27_6 {w0 : World} {a0 : Int} (ha : (Lit.int .i64 a0).wf = true) {v3 v10 : Value} {c : Nat → Bool} {a : Act} {w : World} {ops : Array Oper} {o : Oper} {Q : Exit → Act → World → Prop} (hc : c 6 = false) (ho : ops[6]? = some o) (hg : o.guard = none) (hop : o.op = .lookup 52 (.tmp 12) (.tmp 13) false) (hdst : o.dst = (some 14)) (d4 : c 4 = true) (d5 : c 5 = true) (hI : Inv27 w0 a0 v3 v10 c a w) : wpOp Tryd.prog ops Q 6 (fun a' w' => Inv27 w0 a0 v3 v10 (fun j => if j = 6 then true else c j) a' w') a w := by
  obtain ⟨dst, op, ty, ps, af, gd⟩ := o
  simp only at hg hop hdst
  subst hg hop hdst
  obtain ⟨v4, v5, v11, v12, v13, v14, v15, v16, v17, v18, rfl, R⟩ := hI
  obtain ⟨e1, e2, e3, rfl⟩ := R.f1 d4
  obtain rfl := R.k1 d5
  have d0 : c 0 = true := by
    cases h : c 0
    · have := (R.z1 h).1; simp [e1] at this
    · rfl
  have hl := ((R.m1 d0).le (Nat.le_refl _) (show tab T1 c a0 = pre27 a0 by simp [tab, pre27, e1, e2, e3])).look ha
  refine wpOp_value ho rfl (exec_value hl) ?_
  refine ⟨v4, v5, v12, v12, (.int .i64 a0), (.string (pre27 a0)), v15, v16, v17, v18, rfl, ?_⟩
  exact { bel := R.bel
          z1 := by simpa [hc] using R.z1
          z2 := by simpa [hc] using R.z2
          m1 := by simpa [tab, hc] using R.m1
          f1 := by simpa [hc] using R.f1
          k1 := by simpa [hc] using R.k1
          l1 := fun _ => rfl
          m2 := by simpa [tab, hc] using R.m2
          f2 := by simpa [hc] using R.f2
          k2 := by simpa [hc] using R.k2
          l2 := by simpa [hc] using R.l2
          s1 := by simpa [hc] using R.s1
          s2 := by simpa [hc] using R.s2
          ne := by simpa [hc] using R.ne }
theorem step27_14 {w0 : World} {a0 : Int} (ha : (Lit.int .i64 a0).wf = true) {v3 v10 : Value} {c : Nat → Bool} {a : Act} {w : World} {ops : Array Oper} {o : Oper} {Q : Exit → Act → World → Prop} (hc : c 14 = false) (ho : ops[14]? = some o) (hg : o.guard = none) (hop : o.op = .lookup 52 (.tmp 16) (.tmp 17) false) (hdst : o.dst = (some 18)) (d12 : c 12 = true) (d13 : c 13 = true) (hI : Inv27 w0 a0 v3 v10 c a w) : wpOp Tryd.prog ops Q 14 (fun a' w' => Inv27 w0 a0 v3 v10 (fun j => if j = 14 then true else c j) a' w') a w := by
  obtain ⟨dst, op, ty, ps, af, gd⟩ := o
  simp only at hg hop hdst
  subst hg hop hdst
  obtain ⟨v4, v5, v11, v12, v13, v14, v15, v16, v17, v18, rfl, R⟩ := hI
  obtain ⟨e1, e2, e3, e4, rfl⟩ := R.f2 d12
  obtain rfl := R.k2 d13
  have d7 : c 7 = true := by
    cases h : c 7
    · have := (R.z2 h).1; simp [e1] at this
    · rfl
  have hl := ((R.m2 d7).le (Nat.le_refl _) (show tab T2 c a0 = post27 a0 by simp [tab, post27, e1, e2, e3, e4])).look ha
  refine wpOp_value ho rfl (exec_value hl) ?_
  refine ⟨v4, v5, v11, v12, v13, v14, v16, v16, (.int .i64 a0), (.string (post27 a0)), rfl, ?_⟩
  exact { bel := R.bel
          z1 := by simpa [hc] using R.z1
          z2 := by simpa [hc] using R.z2
          m1 := by simpa [tab, hc] using R.m1
          f1 := by simpa [hc] using R.f1
          k1 := by simpa [hc] using R.k1
          l1 := by simpa [hc] using R.l1
          m2 := by simpa [tab, hc] using R.m2
          f2 := by simpa [hc] using R.f2
          k2 := by simpa [hc] using R.k2
          l2 := fun _ => rfl
          s1 := by simpa [hc] using R.s1
          s2 := by simpa [hc] using R.s2
          ne := by simpa [hc] using R.ne }
theorem step27_15 {w0 : World} {a0 : Int} (ha : (Lit.int .i64 a0).wf = true) {v3 v10 : Value} {c : Nat → Bool} {a : Act} {w : World} {ops : Array Oper} {o : Oper} {Q : Exit → Act → World → Prop} (hc : c 15 = false) (ho : ops[15]? = some o) (hg : o.guard = none) (hop : o.op = .assign (.tmp 14)) (hdst : o.dst = (some 4)) (d6 : c 6 = true) (hI : Inv27 w0 a0 v3 v10 c a w) : wpOp Tryd.prog ops Q 15 (fun a' w' => Inv27 w0 a0 v3 v10 (fun j => if j = 15 then true else c j) a' w') a w := by
  obtain ⟨dst, op, ty, ps, af, gd⟩ := o
  simp only at hg hop hdst
  subst hg hop hdst
  obtain ⟨v4, v5, v11, v12, v13, v14, v15, v16, v17, v18, rfl, R⟩ := hI
  refine wpOp_value ho rfl (rfl) ?_
  refine ⟨v14, v5, v11, v12, v13, v14, v15, v16, v17, v18, rfl, ?_⟩
  exact { bel := R.bel
          z1 := by simpa [hc] using R.z1
          z2 := by simpa [hc] using R.z2
          m1 := by simpa [tab, hc] using R.m1
          f1 := by simpa [hc] using R.f1
          k1 := by simpa [hc] using R.k1
          l1 := by simpa [hc] using R.l1
          m2 := by simpa [tab, hc] using R.m2
          f2 := by simpa [hc] using R.f2
          k2 := by simpa [hc] using R.k2
          l2 := by simpa [hc] using R.l2
          s1 := fun _ => R.l1 d6
          s2 := by simpa [hc] using R.s2
          ne := by simpa [hc] using R.ne }
theorem step27_16 {w0 : World} {a0 : Int} (ha : (Lit.int .i64 a0).wf = true) {v3 v10 : Value} {c : Nat → Bool} {a : Act} {w : World} {ops : Array Oper} {o : Oper} {Q : Exit → Act → World → Prop} (hc : c 16 = false) (ho : ops[16]? = some o) (hg : o.guard = none) (hop : o.op = .assign (.tmp 18)) (hdst : o.dst = (some 5)) (d14 : c 14 = true) (hI : Inv27 w0 a0 v3 v10 c a w) : wpOp Tryd.prog ops Q 16 (fun a' w' => Inv27 w0 a0 v3 v10 (fun j => if j = 16 then true else c j) a' w') a w := by
  obtain ⟨dst, op, ty, ps, af, gd⟩ := o
  simp only at hg hop hdst
  subst hg hop hdst
  obtain ⟨v4, v5, v11, v12, v13, v14, v15, v16, v17, v18, rfl, R⟩ := hI
  refine wpOp_value ho rfl (rfl) ?_
  refine ⟨v4, v18, v11, v12, v13, v14, v15, v16, v17, v18, rfl, ?_⟩
  exact { bel := R.bel
          z1 := by simpa [hc] using R.z1
          z2 := by simpa [hc] using R.z2
          m1 := by simpa [tab, hc] using R.m1
          f1 := by simpa [hc] using R.f1
          k1 := by simpa [hc] using R.k1
          l1 := by simpa [hc] using R.l1
          m2 := by simpa [tab, hc] using R.m2
          f2 := by simpa [hc] using R.f2
          k2 := by simpa [hc] using R.k2
          l2 := by simpa [hc] using R.l2
          s1 := by simpa [hc] using R.s1
          s2 := fun _ => R.l2 d14
          ne := by simpa [hc] using R.ne }
theorem inv27_start (w : World) (a0 : Int) (v3 v10 : Value) : Inv27 w a0 v3 v10 (fun _ => false) ⟨#[.int .i64 a0, undef, .slice none 0 0, v3, undef, undef, undef, undef, undef, undef, v10, undef, undef, undef, undef, undef, undef, undef, undef, undef, undef, undef, undef, undef, undef, undef, undef, undef, undef, undef, undef, undef, undef, undef, undef, undef, undef, undef, undef, undef, undef, undef, undef, undef, undef, undef, undef, undef, undef, undef, undef, undef, undef, undef], []⟩ { w with drawn := w.drawn + 1 } := by
  refine ⟨undef, undef, undef, undef, undef, undef, undef, undef, undef, undef, rfl, ?_⟩
  constructor <;> try simp
  exact (Below.refl w.heap.size w).trans ⟨rfl, rfl, rfl, Nat.le_refl _, fun _ _ => rfl⟩
/-! ### impl_regNames: function 27 -/
mutual
def impl_regNames.l0 : Nat → Int → ByteArray → ByteArray → List ByteArray → List ByteArray → Int → Int → Option (List ByteArray)
  | 0, _, _, _, _, _, _, _ => none
  | k + 1, x0, x4, x5, x6, x20, x21, x22 => if x22 < x21 then (if 0 ≤ x22 then (if x22 < (x20.length : Int) then (if x4.size + (rdOf ByteArray.empty x20 x22).size ≤ 9223372036854775807 then (if x6.length < 8796093022208 then (impl_regNames.l0 k x0 x4 x5 (x6 ++ [x4 ++ (rdOf ByteArray.empty x20 x22)]) x20 x21 (wrap64 (x22 + 1))) else (none)) else (none)) else (none)) else (none)) else (if x0 = 1 then (impl_regNames.j1 k x0 x5 (([(⟨#[97, 108]⟩ : ByteArray), (⟨#[99, 108]⟩ : ByteArray), (⟨#[100, 108]⟩ : ByteArray), (⟨#[98, 108]⟩ : ByteArray), (⟨#[115, 112, 108]⟩ : ByteArray), (⟨#[98, 112, 108]⟩ : ByteArray), (⟨#[115, 105, 108]⟩ : ByteArray), (⟨#[100, 105, 108]⟩ : ByteArray)] : List ByteArray))) else (impl_regNames.j1 k x0 x5 x6))
def impl_regNames.j1 : Nat → Int → ByteArray → List ByteArray → Option (List ByteArray)
  | 0, _, _, _ => none
  | k + 1, x0, x5, x6 => impl_regNames.l1 k x0 x5 x6 8
def impl_regNames.l1 : Nat → Int → ByteArray → List ByteArray → Int → Option (List ByteArray)
  | 0, _, _, _, _ => none
  | k + 1, x0, x5, x6, x9 => if x9 < 16 then ((strconv_Itoa_48.f x9).bind fun t137 => (if 1 + t137.size ≤ 9223372036854775807 then (if ((⟨#[114]⟩ : ByteArray) ++ t137).size + x5.size ≤ 9223372036854775807 then (if x6.length < 8796093022208 then (impl_regNames.l1 k x0 x5 (x6 ++ [((⟨#[114]⟩ : ByteArray) ++ t137) ++ x5]) (wrap64 (x9 + 1))) else (none)) else (none)) else (none))) else (if x0 = 1 then ((some (([(⟨#[97, 104]⟩ : ByteArray), (⟨#[99, 104]⟩ : ByteArray), (⟨#[100, 104]⟩ : ByteArray), (⟨#[98, 104]⟩ : ByteArray)] : List ByteArray) : List ByteArray)).bind fun y141 => (if x6.length + y141.length < 8796093022208 then (some (x6 ++ y141)) else (none))) else (some x6))
end
def impl_regNames.g (k : Nat) (a0 : Int) : Option (List ByteArray) := (some (([(⟨#[97, 120]⟩ : ByteArray), (⟨#[99, 120]⟩ : ByteArray), (⟨#[100, 120]⟩ : ByteArray), (⟨#[98, 120]⟩ : ByteArray), (⟨#[115, 112]⟩ : ByteArray), (⟨#[98, 112]⟩ : ByteArray), (⟨#[115, 105]⟩ : ByteArray), (⟨#[100, 105]⟩ : ByteArray)] : List ByteArray) : List ByteArray)).bind fun y124 => (impl_regNames.l0 k a0 (pre27 a0) (post27 a0) (([] : List ByteArray)) y124 (y124.length : Int) 0)
theorem impl_regNames.mono_l : ∀ k, (∀ y0 y1 y2 y3 y4 y5 y6, LeO (impl_regNames.l0 k y0 y1 y2 y3 y4 y5 y6) (impl_regNames.l0 (k + 1) y0 y1 y2 y3 y4 y5 y6)) ∧ (∀ y0 y1 y2, LeO (impl_regNames.j1 k y0 y1 y2) (impl_regNames.j1 (k + 1) y0 y1 y2)) ∧ (∀ y0 y1 y2 y3, LeO (impl_regNames.l1 k y0 y1 y2 y3) (impl_regNames.l1 (k + 1) y0 y1 y2 y3))
  | 0 => ⟨fun _ _ _ _ _ _ _ r h => by simp [impl_regNames.l0] at h, fun _ _ _ r h => by simp [impl_regNames.j1] at h, fun _ _ _ _ r h => by simp [impl_regNames.l1] at h⟩
  | k + 1 => by
    obtain ⟨ih0, ih1, ih2⟩ := impl_regNames.mono_l k
    refine ⟨?_, ?_, ?_⟩
    · intro y0 y1 y2 y3 y4 y5 y6
      unfold impl_regNames.l0
      repeat' first
      | (with_reducible exact ih0 _ _ _ _ _ _ _)
      | (with_reducible exact ih1 _ _ _)
      | (with_reducible exact ih2 _ _ _ _)
      | (with_reducible exact LeO.refl _)
      | (with_reducible exact LeO.none _)
      | (with_reducible refine LeO.ite ?_ ?_)
      | (with_reducible refine LeO.bind ?_ (fun _ => ?_))
      | exact ih0 _ _ _ _ _ _ _
      | exact ih1 _ _ _
      | exact ih2 _ _ _ _
      | exact LeO.none _
      | refine LeO.ite ?_ ?_
      | refine LeO.bind ?_ (fun _ => ?_)
    · intro y0 y1 y2
      unfold impl_regNames.j1
      repeat' first
      | (with_reducible exact ih0 _ _ _ _ _ _ _)
      | (with_reducible exact ih1 _ _ _)
      | (with_reducible exact ih2 _ _ _ _)
      | (with_reducible exact LeO.refl _)
      | (with_reducible exact LeO.none _)
      | (with_reducible refine LeO.ite ?_ ?_)
      | (with_reducible refine LeO.bind ?_ (fun _ => ?_))
      | exact ih0 _ _ _ _ _ _ _
      | exact ih1 _ _ _
      | exact ih2 _ _ _ _
      | exact LeO.none _
      | refine LeO.ite ?_ ?_
      | refine LeO.bind ?_ (fun _ => ?_)
    · intro y0 y1 y2 y3
      unfold impl_regNames.l1
      repeat' first
      | (with_reducible exact ih0 _ _ _ _ _ _ _)
      | (with_reducible exact ih1 _ _ _)
      | (with_reducible exact ih2 _ _ _ _)
      | (with_reducible exact LeO.refl _)
      | (with_reducible exact LeO.none _)
      | (with_reducible refine LeO.ite ?_ ?_)
      | (with_reducible refine LeO.bind ?_ (fun _ => ?_))
      | exact ih0 _ _ _ _ _ _ _
      | exact ih1 _ _ _
      | exact ih2 _ _ _ _
      | exact LeO.none _
      | refine LeO.ite ?_ ?_
      | refine LeO.bind ?_ (fun _ => ?_)
theorem impl_regNames.gmono : ∀ a0 k, LeO (impl_regNames.g k a0) (impl_regNames.g (k + 1) a0) := by
  intro a0 k
  obtain ⟨ih0, ih1, ih2⟩ := impl_regNames.mono_l k
  unfold impl_regNames.g
  repeat' first
      | (with_reducible exact ih0 _ _ _ _ _ _ _)
      | (with_reducible exact ih1 _ _ _)
      | (with_reducible exact ih2 _ _ _ _)
      | (with_reducible exact LeO.refl _)
      | (with_reducible exact LeO.none _)
      | (with_reducible refine LeO.ite ?_ ?_)
      | (with_reducible refine LeO.bind ?_ (fun _ => ?_))
      | exact ih0 _ _ _ _ _ _ _
      | exact ih1 _ _ _
      | exact ih2 _ _ _ _
      | exact LeO.none _
      | refine LeO.ite ?_ ?_
      | refine LeO.bind ?_ (fun _ => ?_)
set_option maxHeartbeats 8000000 in
set_option maxRecDepth 100000 in
theorem impl_regNames.gcalls (k : Nat) (a0 : Int) (r : List ByteArray) (w : World) (ha : (Lit.int .i64 a0).wf = true) (h : impl_regNames.g k a0 = some r) :
    Calls Tryd.prog 27 #[.int .i64 a0] w fun e w' => ∃ v0_ : Value, e = .returned (v0_) ∧ Kd.R Kd.string 9 w' w.heap.size (fun _ => True) v0_ r ∧ Below w.heap.size w w' := by
  have HB := Aside0.mk (Below.refl w.heap.size w)
  have H : ((some (([(⟨#[97, 120]⟩ : ByteArray), (⟨#[99, 120]⟩ : ByteArray), (⟨#[100, 120]⟩ : ByteArray), (⟨#[98, 120]⟩ : ByteArray), (⟨#[115, 112]⟩ : ByteArray), (⟨#[98, 112]⟩ : ByteArray), (⟨#[115, 105]⟩ : ByteArray), (⟨#[100, 105]⟩ : ByteArray)] : List ByteArray) : List ByteArray)).bind fun y124 => (impl_regNames.l0 k a0 (pre27 a0) (post27 a0) (([] : List ByteArray)) y124 (y124.length : Int) 0)) = some r := h
  clear h
  obtain ⟨y124, hy124⟩ : ∃ y_ : List ByteArray, y_ = (([(⟨#[97, 120]⟩ : ByteArray), (⟨#[99, 120]⟩ : ByteArray), (⟨#[100, 120]⟩ : ByteArray), (⟨#[98, 120]⟩ : ByteArray), (⟨#[115, 112]⟩ : ByteArray), (⟨#[98, 112]⟩ : ByteArray), (⟨#[115, 105]⟩ : ByteArray), (⟨#[100, 105]⟩ : ByteArray)] : List ByteArray)) := ⟨_, rfl⟩
  replace H : (impl_regNames.l0 k a0 (pre27 a0) (post27 a0) (([] : List ByteArray)) y124 (y124.length : Int) 0) = some r := by first | (rw [hy124]; with_reducible exact H) | (have H2_ := (Option.bind_some _ _).symm.trans H; rw [hy124]; with_reducible exact H2_) | (have H2_ := (Option.bind_some _ _).symm.trans H; with_reducible exact H2_) | with_reducible exact H | (rw [hy124]; exact H) | exact H
  have Ny124 := Aside0.mk hy124
  clear hy124
  obtain ⟨y127, hy127⟩ : ∃ y_ : List ByteArray, y_ = (([] : List ByteArray)) := ⟨_, rfl⟩
  replace H : (impl_regNames.l0 k a0 (pre27 a0) (post27 a0) y127 y124 (y124.length : Int) 0) = some r := by first | (rw [hy127]; with_reducible exact H) | (have H2_ := (Option.bind_some _ _).symm.trans H; rw [hy127]; with_reducible exact H2_) | (have H2_ := (Option.bind_some _ _).symm.trans H; with_reducible exact H2_) | with_reducible exact H | (rw [hy127]; exact H) | exact H
  have Ny127 := Aside0.mk hy127
  clear hy127
  have H' := Aside0.mk H
  clear H
  go_enter Tryd.func27, Tryd.ntmps27
  go_wp2_with (first | ((with_reducible refine gate_dst (N := 10) rfl ?_); refine Kd.R_lit Kd.string _ 9 ?hg (N := 10) ?hd (xs := ([(⟨#[97, 120]⟩ : ByteArray), (⟨#[99, 120]⟩ : ByteArray), (⟨#[100, 120]⟩ : ByteArray), (⟨#[98, 120]⟩ : ByteArray), (⟨#[115, 112]⟩ : ByteArray), (⟨#[98, 112]⟩ : ByteArray), (⟨#[115, 105]⟩ : ByteArray), (⟨#[100, 105]⟩ : ByteArray)] : List ByteArray)) (inner := [.string (⟨#[97, 120]⟩ : ByteArray), .string (⟨#[99, 120]⟩ : ByteArray), .string (⟨#[100, 120]⟩ : ByteArray), .string (⟨#[98, 120]⟩ : ByteArray), .string (⟨#[115, 112]⟩ : ByteArray), .string (⟨#[98, 112]⟩ : ByteArray), .string (⟨#[115, 105]⟩ : ByteArray), .string (⟨#[100, 105]⟩ : ByteArray)]) (ok := fun _ => True) (okp := fun _ => True) ?hr ?hp (fun _ hk => hk) trivial (Below.refl _ _) (Nat.le_refl _) (by simp) ?_; (case hd => rfl); (case hg => rfl); (case hr => first | (go_simp; done) | (go_simp; rfl)); (case hp => exact (Reps.one (show Kd.M Kd.string _ _ _ (⟨#[97, 120]⟩ : ByteArray) [.string (⟨#[97, 120]⟩ : ByteArray)] from rfl) (Reps.one (show Kd.M Kd.string _ _ _ (⟨#[99, 120]⟩ : ByteArray) [.string (⟨#[99, 120]⟩ : ByteArray)] from rfl) (Reps.one (show Kd.M Kd.string _ _ _ (⟨#[100, 120]⟩ : ByteArray) [.string (⟨#[100, 120]⟩ : ByteArray)] from rfl) (Reps.one (show Kd.M Kd.string _ _ _ (⟨#[98, 120]⟩ : ByteArray) [.string (⟨#[98, 120]⟩ : ByteArray)] from rfl) (Reps.one (show Kd.M Kd.string _ _ _ (⟨#[115, 112]⟩ : ByteArray) [.string (⟨#[115, 112]⟩ : ByteArray)] from rfl) (Reps.one (show Kd.M Kd.string _ _ _ (⟨#[98, 112]⟩ : ByteArray) [.string (⟨#[98, 112]⟩ : ByteArray)] from rfl) (Reps.one (show Kd.M Kd.string _ _ _ (⟨#[115, 105]⟩ : ByteArray) [.string (⟨#[115, 105]⟩ : ByteArray)] from rfl) (Reps.one (show Kd.M Kd.string _ _ _ (⟨#[100, 105]⟩ : ByteArray) [.string (⟨#[100, 105]⟩ : ByteArray)] from rfl) (Reps.none _ _)))))))))); intro v125 w2 ho3 hb hg_ hnew_; clear hg_ hnew_; (first | rw [← Ny124.out] at ho3 | (simp only [Int.reduceToNat] at ho3; rw [← Ny124.out] at ho3)); have n0_ := Aside0.mk (Kd.R_lower ho3 (below_size (by repeat (first | (with_reducible first | exact HB.out | apply below_alloc | apply pw_below_drewN | apply below_drew1) | exact HB.out)))); have n1_ := Aside0.mk (below_step (by repeat (first | (with_reducible first | exact HB.out | apply below_alloc | apply pw_below_drewN | apply below_drew1) | exact HB.out)) hb); clear HB; have HO126 := n0_; have HB := n1_; clear n0_ n1_; clear hb ho3) | ((with_reducible refine gate_dst (N := 19) rfl ?_); refine Kd.R_lit Kd.string _ 9 ?hg (N := 19) ?hd (xs := ([] : List ByteArray)) (inner := []) (ok := fun _ => True) (okp := fun _ => True) ?hr ?hp (fun _ hk => hk) trivial (Below.refl _ _) (Nat.le_refl _) (by simp) ?_; (case hd => rfl); (case hg => rfl); (case hr => first | (go_simp; done) | (go_simp; rfl)); (case hp => exact (Reps.none _ _)); intro v128 w4 ho5 hb hg_ hnew_; clear hg_ hnew_; (first | rw [← Ny127.out] at ho5 | (simp only [Int.reduceToNat] at ho5; rw [← Ny127.out] at ho5)); have n0_ := Aside0.mk (Kd.R_elder' (by (with_reducible repeat (first | apply Kd.R_alloc | apply Kd.R_drewN | apply Kd.R_drew)); exact HO126.out) (Kd.R_base ho5) hb); have n1_ := Aside0.mk (Kd.R_lower (Kd.R_new' ho5 (Kd.R_lt (by (with_reducible repeat (first | apply Kd.R_alloc | apply Kd.R_drewN | apply Kd.R_drew)); exact HO126.out))) (below_size (by repeat (first | (with_reducible first | exact HB.out | apply below_alloc | apply pw_below_drewN | apply below_drew1) | exact HB.out)))); have n2_ := Aside0.mk (below_step (by repeat (first | (with_reducible first | exact HB.out | apply below_alloc | apply pw_below_drewN | apply below_drew1) | exact HB.out)) hb); clear HO126; clear HB; have HO126 := n0_; have HO129 := n1_; have HB := n2_; clear n0_ n1_ n2_; clear hb ho5; obtain ⟨Ao6, co6, eo6⟩ := Kd.R_slice HO126.out; subst eo6))
  refine wp_region_inv2 (Inv := Inv27 _ a0 _ _) (by kernel_rfl) (by kernel_rfl) (inv27_start _ a0 _ _) ?_ ?_
  case _ =>
    intro c a w1 i hi hc hd hI
    have hi' : i < 17 := hi
    have hii : i = 0 ∨ i = 1 ∨ i = 2 ∨ i = 3 ∨ i = 4 ∨ i = 5 ∨ i = 6 ∨ i = 7 ∨ i = 8 ∨ i = 9 ∨ i = 10 ∨ i = 11 ∨ i = 12 ∨ i = 13 ∨ i = 14 ∨ i = 15 ∨ i = 16 := by omega
    rcases hii with rfl | rfl | rfl | rfl | rfl | rfl | rfl | rfl | rfl | rfl | rfl | rfl | rfl | rfl | rfl | rfl | rfl
    · exact step27_0 ha hc rfl rfl rfl rfl  hI
    · exact step27_1 ha hc rfl rfl rfl rfl (hd 0 (by kernel_rfl)) hI
    · exact step27_2 ha hc rfl rfl rfl rfl (hd 0 (by kernel_rfl)) hI
    · exact step27_3 ha hc rfl rfl rfl rfl (hd 0 (by kernel_rfl)) hI
    · exact step27_4 ha hc rfl rfl rfl rfl (hd 0 (by kernel_rfl)) (hd 1 (by kernel_rfl)) (hd 2 (by kernel_rfl)) (hd 3 (by kernel_rfl)) hI
    · exact step27_5 ha hc rfl rfl rfl rfl  hI
    · exact step27_6 ha hc rfl rfl rfl rfl (hd 4 (by kernel_rfl)) (hd 5 (by kernel_rfl)) hI
    · exact step27_7 ha hc rfl rfl rfl rfl  hI
    · exact step27_8 ha hc rfl rfl rfl rfl (hd 7 (by kernel_rfl)) hI
    · exact step27_9 ha hc rfl rfl rfl rfl (hd 7 (by kernel_rfl)) hI
    · exact step27_10 ha hc rfl rfl rfl rfl (hd 7 (by kernel_rfl)) hI
    · exact step27_11 ha hc rfl rfl rfl rfl (hd 7 (by kernel_rfl)) hI
    · exact step27_12 ha hc rfl rfl rfl rfl (hd 7 (by kernel_rfl)) (hd 8 (by kernel_rfl)) (hd 9 (by kernel_rfl)) (hd 10 (by kernel_rfl)) (hd 11 (by kernel_rfl)) hI
    · exact step27_13 ha hc rfl rfl rfl rfl  hI
    · exact step27_14 ha hc rfl rfl rfl rfl (hd 12 (by kernel_rfl)) (hd 13 (by kernel_rfl)) hI
    · exact step27_15 ha hc rfl rfl rfl rfl (hd 6 (by kernel_rfl)) hI
    · exact step27_16 ha hc rfl rfl rfl rfl (hd 14 (by kernel_rfl)) hI
  intro c a w1 hl hI
  obtain ⟨v4, v5, v11, v12, v13, v14, v15, v16, v17, v18, rfl, R⟩ := hI
  obtain rfl := R.s1 (hl 15 (by decide))
  obtain rfl := R.s2 (hl 16 (by decide))
  have hbel := R.bel
  clear R hl
  have n0_ := Aside0.mk (Kd.R_below (by (with_reducible repeat (first | apply Kd.R_alloc | apply Kd.R_drewN | apply Kd.R_drew)); exact HO126.out) hbel)
  have n1_ := Aside0.mk (below_step (by repeat (first | (with_reducible first | exact HB.out | apply below_alloc | apply pw_below_drewN | apply below_drew1) | exact HB.out)) hbel)
  clear HO126; clear HB
  have HO126 := n0_
  have HB := n1_
  clear n0_ n1_ hbel
  go_wp2_with (first | ((with_reducible refine gate_dst (N := 10) rfl ?_); refine Kd.R_lit Kd.string _ 9 ?hg (N := 10) ?hd (xs := ([(⟨#[97, 120]⟩ : ByteArray), (⟨#[99, 120]⟩ : ByteArray), (⟨#[100, 120]⟩ : ByteArray), (⟨#[98, 120]⟩ : ByteArray), (⟨#[115, 112]⟩ : ByteArray), (⟨#[98, 112]⟩ : ByteArray), (⟨#[115, 105]⟩ : ByteArray), (⟨#[100, 105]⟩ : ByteArray)] : List ByteArray)) (inner := [.string (⟨#[97, 120]⟩ : ByteArray), .string (⟨#[99, 120]⟩ : ByteArray), .string (⟨#[100, 120]⟩ : ByteArray), .string (⟨#[98, 120]⟩ : ByteArray), .string (⟨#[115, 112]⟩ : ByteArray), .string (⟨#[98, 112]⟩ : ByteArray), .string (⟨#[115, 105]⟩ : ByteArray), .string (⟨#[100, 105]⟩ : ByteArray)]) (ok := fun _ => True) (okp := fun _ => True) ?hr ?hp (fun _ hk => hk) trivial (Below.refl _ _) (Nat.le_refl _) (by simp) ?_; (case hd => rfl); (case hg => rfl); (case hr => first | (go_simp; done) | (go_simp; rfl)); (case hp => exact (Reps.one (show Kd.M Kd.string _ _ _ (⟨#[97, 120]⟩ : ByteArray) [.string (⟨#[97, 120]⟩ : ByteArray)] from rfl) (Reps.one (show Kd.M Kd.string _ _ _ (⟨#[99, 120]⟩ : ByteArray) [.string (⟨#[99, 120]⟩ : ByteArray)] from rfl) (Reps.one (show Kd.M Kd.string _ _ _ (⟨#[100, 120]⟩ : ByteArray) [.string (⟨#[100, 120]⟩ : ByteArray)] from rfl) (Reps.one (show Kd.M Kd.string _ _ _ (⟨#[98, 120]⟩ : ByteArray) [.string (⟨#[98, 120]⟩ : ByteArray)] from rfl) (Reps.one (show Kd.M Kd.string _ _ _ (⟨#[115, 112]⟩ : ByteArray) [.string (⟨#[115, 112]⟩ : ByteArray)] from rfl) (Reps.one (show Kd.M Kd.string _ _ _ (⟨#[98, 112]⟩ : ByteArray) [.string (⟨#[98, 112]⟩ : ByteArray)] from rfl) (Reps.one (show Kd.M Kd.string _ _ _ (⟨#[115, 105]⟩ : ByteArray) [.string (⟨#[115, 105]⟩ : ByteArray)] from rfl) (Reps.one (show Kd.M Kd.string _ _ _ (⟨#[100, 105]⟩ : ByteArray) [.string (⟨#[100, 105]⟩ : ByteArray)] from rfl) (Reps.none _ _)))))))))); intro v125 w2 ho3 hb hg_ hnew_; clear hg_ hnew_; (first | rw [← Ny124.out] at ho3 | (simp only [Int.reduceToNat] at ho3; rw [← Ny124.out] at ho3)); have n0_ := Aside0.mk (Kd.R_lower ho3 (below_size (by repeat (first | (with_reducible first | exact HB.out | apply below_alloc | apply pw_below_drewN | apply below_drew1) | exact HB.out)))); have n1_ := Aside0.mk (below_step (by repeat (first | (with_reducible first | exact HB.out | apply below_alloc | apply pw_below_drewN | apply below_drew1) | exact HB.out)) hb); clear HB; have HO126 := n0_; have HB := n1_; clear n0_ n1_; clear hb ho3) | ((with_reducible refine gate_dst (N := 19) rfl ?_); refine Kd.R_lit Kd.string _ 9 ?hg (N := 19) ?hd (xs := ([] : List ByteArray)) (inner := []) (ok := fun _ => True) (okp := fun _ => True) ?hr ?hp (fun _ hk => hk) trivial (Below.refl _ _) (Nat.le_refl _) (by simp) ?_; (case hd => rfl); (case hg => rfl); (case hr => first | (go_simp; done) | (go_simp; rfl)); (case hp => exact (Reps.none _ _)); intro v128 w4 ho5 hb hg_ hnew_; clear hg_ hnew_; (first | rw [← Ny127.out] at ho5 | (simp only [Int.reduceToNat] at ho5; rw [← Ny127.out] at ho5)); have n0_ := Aside0.mk (Kd.R_elder' (by (with_reducible repeat (first | apply Kd.R_alloc | apply Kd.R_drewN | apply Kd.R_drew)); exact HO126.out) (Kd.R_base ho5) hb); have n1_ := Aside0.mk (Kd.R_lower (Kd.R_new' ho5 (Kd.R_lt (by (with_reducible repeat (first | apply Kd.R_alloc | apply Kd.R_drewN | apply Kd.R_drew)); exact HO126.out))) (below_size (by repeat (first | (with_reducible first | exact HB.out | apply below_alloc | apply pw_below_drewN | apply below_drew1) | exact HB.out)))); have n2_ := Aside0.mk (below_step (by repeat (first | (with_reducible first | exact HB.out | apply below_alloc | apply pw_below_drewN | apply below_drew1) | exact HB.out)) hb); clear HO126; clear HB; have HO126 := n0_; have HO129 := n1_; have HB := n2_; clear n0_ n1_ n2_; clear hb ho5; obtain ⟨Ao6, co6, eo6⟩ := Kd.R_slice HO126.out; subst eo6))
  go_loopg [6, 22] k (fun kq v6 v22 w' => ∃ (x6_1 : List ByteArray) (x22_1 : Int), v22 = .int .i64 x22_1 ∧ Aside0 (impl_regNames.l0 kq a0 (pre27 a0) (post27 a0) x6_1 y124 (y124.length : Int) x22_1 = some r) ∧ Aside0 (kq ≤ k) ∧ Aside0 (Kd.R Kd.string 9 w' w.heap.size (fun k_ => some k_ ≠ ((.slice Ao6 y124.length co6) : Value).ownBlock) v6 x6_1) ∧ Aside0 (Kd.R Kd.string 9 w' w.heap.size (fun k_ => some k_ ≠ (v6 : Value).ownBlock) (.slice Ao6 y124.length co6) y124) ∧ Aside0 (Below w.heap.size w w'))
  case atStart => exact ⟨(y127), (0), (by first | rfl | (simp; done) | (simp [*]; done)), H', ⟨Nat.le_refl _⟩, ⟨by (with_reducible repeat (first | apply Kd.R_alloc | apply Kd.R_drewN | apply Kd.R_drew)); exact Kd.R_mono HO129.out (fun _ hk => hk.2)⟩, ⟨by (with_reducible repeat (first | apply Kd.R_alloc | apply Kd.R_drewN | apply Kd.R_drew)); exact Kd.R_mono HO126.out (fun _ hk => hk.2)⟩, ⟨by repeat (first | (with_reducible first | exact HB.out | apply below_alloc | apply pw_below_drewN | apply below_drew1) | exact HB.out)⟩⟩
  case round =>
    clear H'
    try clear c2
    try clear p2
    obtain ⟨x6_1, x22_1, rfl, HA, HK1, HO_6, HO_20, HB⟩ := hrel
    cases gk with
    | zero => exact absurd HA.out (by simp [impl_regNames.l0])
    | succ k1 =>
      have H := HA.out
      clear HA
      simp only [impl_regNames.l0] at H
      by_cases c7 : x22_1 < (y124.length : Int)
      · rw [if_pos c7] at H
        have c7b0 : decide (x22_1 < (y124.length : Int)) = true := decide_eq_true c7
        clear c7
        by_cases c8 : 0 ≤ x22_1
        · rw [if_pos c8] at H
          have c8b0 : decide (0 ≤ x22_1) = true := decide_eq_true c8
          clear c8
          by_cases c9 : x22_1 < (y124.length : Int)
          · rw [if_pos c9] at H
            have c9b0 : decide (x22_1 < (y124.length : Int)) = true := decide_eq_true c9
            clear c9
            by_cases c10 : (pre27 a0).size + (rdOf ByteArray.empty y124 x22_1).size ≤ 9223372036854775807
            · rw [if_pos c10] at H
              have c10b0 := eq_true c10
              have c10b1 : decide ((pre27 a0).size + (rdOf ByteArray.empty y124 x22_1).size ≤ 9223372036854775807) = true := decide_eq_true c10
              try have c10b2 : (9223372036854775807 < (pre27 a0).size + (rdOf ByteArray.empty y124 x22_1).size) = False := eq_false (Nat.not_lt.2 c10)
              by_cases c11 : x6_1.length < 8796093022208
              · rw [if_pos c11] at H
                have LMc11 := Aside0.mk c11
                clear c11
                obtain ⟨y131, hy131⟩ : ∃ y_ : List ByteArray, y_ = (x6_1 ++ [(pre27 a0) ++ (rdOf ByteArray.empty y124 x22_1)]) := ⟨_, rfl⟩
                replace H : (impl_regNames.l0 k1 a0 (pre27 a0) (post27 a0) y131 y124 (y124.length : Int) (wrap64 (x22_1 + 1))) = some r := by first | (rw [hy131]; with_reducible exact H) | (have H2_ := (Option.bind_some _ _).symm.trans H; rw [hy131]; with_reducible exact H2_) | (have H2_ := (Option.bind_some _ _).symm.trans H; with_reducible exact H2_) | with_reducible exact H | (rw [hy131]; exact H) | exact H
                have Ny131 := Aside0.mk hy131
                clear hy131
                have H' := Aside0.mk H
                clear H
                have p130 : 0 ≤ (x22_1 : Int) := of_decide_eq_true (by first | (with_reducible assumption) | assumption)
                have q130 : x22_1 < (y124.length : Int) := of_decide_eq_true (by first | (with_reducible assumption) | assumption)
                obtain ⟨ad130, e130, hx130_0⟩ := Kd.at_string (Kd.R_reads' HO_20.out).2.2 x22_1 p130 q130
                cases e130
                replace p130 := eq_true p130
                replace q130 := eq_true q130
                go_wp2_with (first | ((with_reducible refine gate_builtin (b := .append) (xs := #[.tmp 26, .tmp 30]) rfl ?_); at_builtin; refine Kd.R_append Kd.string (w0 := w) w.heap.size rfl (.tmp 26) (.tmp 30) 41 9 (.string ⟨#[]⟩) 16 rfl Tryd.underlying41 info9 rfl (by decide) (by omega) u6 x6_1 ((pre27 a0) ++ (rdOf ByteArray.empty y124 x22_1)) [.string ((pre27 a0) ++ (rdOf ByteArray.empty y124 x22_1))] (fun k_ => some k_ ≠ (.slice (some ad130) y124.length co6 : Value).ownBlock) (fun _ => False) rfl rfl ?aP (fun _ hk => hk.elim) ?aF ?aO ?aB ?aS ?aL ?_; (case aP => exact rfl); (case aB => exact (by repeat (first | (with_reducible first | exact HB.out | apply below_alloc | apply pw_below_drewN | apply below_drew1) | exact HB.out))); (case aF => exact (fun k_ hk => Kd.fresh' (Kd.R_lt (by (with_reducible repeat (first | apply Kd.R_alloc | apply Kd.R_drewN | apply Kd.R_drew)); exact HO_20.out)) k_ hk)); (case aO => exact (by (with_reducible repeat (first | apply Kd.R_alloc | apply Kd.R_drewN | apply Kd.R_drew)); exact HO_6.out)); (case aS => exact (below_size (by repeat (first | (with_reducible first | exact HB.out | apply below_alloc | apply pw_below_drewN | apply below_drew1) | exact HB.out)))); (case aL => have := LMc11.out; omega); intro v132 w12 ho hb hg hat; rw [← Ny131.out] at ho; have n0_ := Aside0.mk (Kd.R_after (ok := (fun _ => True)) (by (with_reducible repeat (first | apply Kd.R_alloc | apply Kd.R_drewN | apply Kd.R_drew)); exact Kd.R_mono HO_20.out (fun _ hk => ⟨trivial, hk⟩)) hg hat); have n1_ := Aside0.mk (hb); have n2_ := Aside0.mk (ho); clear HO_20; clear HB; clear HO_6; have HO_20 := n0_; have HB := n1_; have HO133 := n2_; clear n0_ n1_ n2_; clear ho hb hg hat))
                go_roundg k1
                case measure => have := HK1.out; omega
                case rel => exact ⟨(y131), (wrap64 (x22_1 + 1)), (by first | rfl | (simp; done) | (simp [*]; done)), H', ⟨by have := HK1.out; omega⟩, ⟨by (with_reducible repeat (first | apply Kd.R_alloc | apply Kd.R_drewN | apply Kd.R_drew)); exact HO133.out⟩, ⟨by (with_reducible repeat (first | apply Kd.R_alloc | apply Kd.R_drewN | apply Kd.R_drew)); exact Kd.R_mono HO_20.out (fun _ hk => hk.2)⟩, ⟨by repeat (first | (with_reducible first | exact HB.out | apply below_alloc | apply pw_below_drewN | apply below_drew1) | exact HB.out)⟩⟩
              · rw [if_neg c11] at H
                exact absurd H (by simp)
            · rw [if_neg c10] at H
              exact absurd H (by simp)
          · rw [if_neg c9] at H
            exact absurd H (by simp)
        · rw [if_neg c8] at H
          exact absurd H (by simp)
      · rw [if_neg c7] at H
        have c7b0 : decide (x22_1 < (y124.length : Int)) = false := decide_eq_false c7
        clear c7
        have HC13 := Aside0.mk H
        clear H
        go_upto_if 34 with (fail)
        go_cut [6] (fun v6 wc => ∃ (kq : Nat) (x6_12 : List ByteArray), Aside0 (impl_regNames.j1 kq a0 (post27 a0) x6_12 = some r) ∧ Aside0 (kq ≤ k1) ∧ Aside0 (Kd.R Kd.string 9 wc w.heap.size (fun _ => True) v6 x6_12) ∧ Aside0 (Below w.heap.size w wc))
        case first =>
          have H := HC13.out
          clear HC13
          by_cases c14 : a0 = 1
          · rw [if_pos c14] at H
            have c14b0 : (a0 == 1) = true := beq_iff_eq.mpr c14
            have c14b1 : (a0 != 1) = false := bne_eq_false_iff_eq.mpr c14
            clear c14
            (first | rw [c14b0] | (simp only [i64_w, i32_w]; rw [c14b0]) | skip)
            obtain ⟨y134, hy134⟩ : ∃ y_ : List ByteArray, y_ = (([(⟨#[97, 108]⟩ : ByteArray), (⟨#[99, 108]⟩ : ByteArray), (⟨#[100, 108]⟩ : ByteArray), (⟨#[98, 108]⟩ : ByteArray), (⟨#[115, 112, 108]⟩ : ByteArray), (⟨#[98, 112, 108]⟩ : ByteArray), (⟨#[115, 105, 108]⟩ : ByteArray), (⟨#[100, 105, 108]⟩ : ByteArray)] : List ByteArray)) := ⟨_, rfl⟩
            replace H : (impl_regNames.j1 k1 a0 (post27 a0) y134) = some r := by first | (rw [hy134]; with_reducible exact H) | (have H2_ := (Option.bind_some _ _).symm.trans H; rw [hy134]; with_reducible exact H2_) | (have H2_ := (Option.bind_some _ _).symm.trans H; with_reducible exact H2_) | with_reducible exact H | (rw [hy134]; exact H) | exact H
            have Ny134 := Aside0.mk hy134
            clear hy134
            have H' := Aside0.mk H
            clear H
            go_wp2_with (first | ((with_reducible refine gate_dst (N := 35) rfl ?_); refine Kd.R_lit Kd.string _ 9 ?hg (N := 35) ?hd (xs := ([(⟨#[97, 108]⟩ : ByteArray), (⟨#[99, 108]⟩ : ByteArray), (⟨#[100, 108]⟩ : ByteArray), (⟨#[98, 108]⟩ : ByteArray), (⟨#[115, 112, 108]⟩ : ByteArray), (⟨#[98, 112, 108]⟩ : ByteArray), (⟨#[115, 105, 108]⟩ : ByteArray), (⟨#[100, 105, 108]⟩ : ByteArray)] : List ByteArray)) (inner := [.string (⟨#[97, 108]⟩ : ByteArray), .string (⟨#[99, 108]⟩ : ByteArray), .string (⟨#[100, 108]⟩ : ByteArray), .string (⟨#[98, 108]⟩ : ByteArray), .string (⟨#[115, 112, 108]⟩ : ByteArray), .string (⟨#[98, 112, 108]⟩ : ByteArray), .string (⟨#[115, 105, 108]⟩ : ByteArray), .string (⟨#[100, 105, 108]⟩ : ByteArray)]) (ok := fun _ => True) (okp := fun _ => True) ?hr ?hp (fun _ hk => hk) trivial (Below.refl _ _) (Nat.le_refl _) (by simp) ?_; (case hd => rfl); (case hg => rfl); (case hr => first | (go_simp; done) | (go_simp; rfl)); (case hp => exact (Reps.one (show Kd.M Kd.string _ _ _ (⟨#[97, 108]⟩ : ByteArray) [.string (⟨#[97, 108]⟩ : ByteArray)] from rfl) (Reps.one (show Kd.M Kd.string _ _ _ (⟨#[99, 108]⟩ : ByteArray) [.string (⟨#[99, 108]⟩ : ByteArray)] from rfl) (Reps.one (show Kd.M Kd.string _ _ _ (⟨#[100, 108]⟩ : ByteArray) [.string (⟨#[100, 108]⟩ : ByteArray)] from rfl) (Reps.one (show Kd.M Kd.string _ _ _ (⟨#[98, 108]⟩ : ByteArray) [.string (⟨#[98, 108]⟩ : ByteArray)] from rfl) (Reps.one (show Kd.M Kd.string _ _ _ (⟨#[115, 112, 108]⟩ : ByteArray) [.string (⟨#[115, 112, 108]⟩ : ByteArray)] from rfl) (Reps.one (show Kd.M Kd.string _ _ _ (⟨#[98, 112, 108]⟩ : ByteArray) [.string (⟨#[98, 112, 108]⟩ : ByteArray)] from rfl) (Reps.one (show Kd.M Kd.string _ _ _ (⟨#[115, 105, 108]⟩ : ByteArray) [.string (⟨#[115, 105, 108]⟩ : ByteArray)] from rfl) (Reps.one (show Kd.M Kd.string _ _ _ (⟨#[100, 105, 108]⟩ : ByteArray) [.string (⟨#[100, 105, 108]⟩ : ByteArray)] from rfl) (Reps.none _ _)))))))))); intro v135 w15 ho16 hb hg_ hnew_; clear hg_ hnew_; (first | rw [← Ny134.out] at ho16 | (simp only [Int.reduceToNat] at ho16; rw [← Ny134.out] at ho16)); have n0_ := Aside0.mk (Kd.R_elder' (by (with_reducible repeat (first | apply Kd.R_alloc | apply Kd.R_drewN | apply Kd.R_drew)); exact HO_6.out) (Kd.R_base ho16) hb); have n1_ := Aside0.mk (Kd.R_elder' (by (with_reducible repeat (first | apply Kd.R_alloc | apply Kd.R_drewN | apply Kd.R_drew)); exact HO_20.out) (Kd.R_base ho16) hb); have n2_ := Aside0.mk (Kd.R_lower (Kd.R_new' (Kd.R_new' ho16 (Kd.R_lt (by (with_reducible repeat (first | apply Kd.R_alloc | apply Kd.R_drewN | apply Kd.R_drew)); exact HO_6.out))) (Kd.R_lt (by (with_reducible repeat (first | apply Kd.R_alloc | apply Kd.R_drewN | apply Kd.R_drew)); exact HO_20.out))) (below_size (by repeat (first | (with_reducible first | exact HB.out | apply below_alloc | apply pw_below_drewN | apply below_drew1) | exact HB.out)))); have n3_ := Aside0.mk (below_step (by repeat (first | (with_reducible first | exact HB.out | apply below_alloc | apply pw_below_drewN | apply below_drew1) | exact HB.out)) hb); clear HO_6; clear HO_20; clear HB; have HO_6 := n0_; have HO_20 := n1_; have HO136 := n2_; have HB := n3_; clear n0_ n1_ n2_ n3_; clear hb ho16))
            (first | go_meet | ((try simp only [c14b0] at *); (try simp only [c14b1] at *); go_meet))
            case rel => (try rw [c14b0]); (try rw [c14b0] at H'); (try rw [c14b1]); (try rw [c14b1] at H'); exact ⟨_, (y134), H', ⟨by have := HK1.out; first | omega | exact Nat.le_refl _⟩, ⟨by (with_reducible repeat (first | apply Kd.R_alloc | apply Kd.R_drewN | apply Kd.R_drew)); exact Kd.R_mono HO136.out (fun _ hk => trivial)⟩, ⟨by repeat (first | (with_reducible first | exact HB.out | apply below_alloc | apply pw_below_drewN | apply below_drew1) | exact HB.out)⟩⟩
          · rw [if_neg c14] at H
            have c14b0 : (a0 == 1) = false := beq_eq_false_iff_ne.mpr c14
            have c14b1 : (a0 != 1) = true := bne_iff_ne.mpr c14
            (first | rw [c14b0] | (simp only [i64_w, i32_w]; rw [c14b0]) | skip)
            have H' := Aside0.mk H
            clear H
            go_wp2
            (first | go_meet | ((try simp only [c14b0] at *); (try simp only [c14b1] at *); go_meet))
            case rel => (try rw [c14b0]); (try rw [c14b0] at H'); (try rw [c14b1]); (try rw [c14b1] at H'); exact ⟨_, (x6_1), H', ⟨by have := HK1.out; first | omega | exact Nat.le_refl _⟩, ⟨by (with_reducible repeat (first | apply Kd.R_alloc | apply Kd.R_drewN | apply Kd.R_drew)); exact Kd.R_mono HO_6.out (fun _ hk => trivial)⟩, ⟨by repeat (first | (with_reducible first | exact HB.out | apply below_alloc | apply pw_below_drewN | apply below_drew1) | exact HB.out)⟩⟩
        case rest =>
          clear HC13
          try clear c1
          try clear p1
          try clear q1
          try clear hx1
          try clear c2
          try clear p2
          try clear p6
          try clear c7
          try clear c7b0
          try clear c8
          try clear c8b0
          try clear c9
          try clear c9b0
          try clear c10
          try clear c10b0
          try clear c10b1
          try clear c10b2
          try clear c11
          try clear p13
          try clear q13
          try clear hx13
          try clear c14
          try clear c14b0
          try clear c14b1
          try clear hx130_0
          try clear p130
          try clear p2
          try clear q130
          obtain ⟨kq, x6_12, HA, HJ12, HO_6, HB⟩ := hcut
          cases kq with
          | zero => exact absurd HA.out (by simp [impl_regNames.j1])
          | succ kj12 =>
            have H := HA.out
            clear HA
            simp only [impl_regNames.j1] at H
            have H' := Aside0.mk H
            clear H
            go_wp2
            go_loopg [6, 9] kj12 (fun kq v6 v9 w' => ∃ (x6_3 : List ByteArray) (x9_3 : Int), v9 = .int .i64 x9_3 ∧ Aside0 (impl_regNames.l1 kq a0 (post27 a0) x6_3 x9_3 = some r) ∧ Aside0 (kq ≤ kj12) ∧ Aside0 (Kd.R Kd.string 9 w' w.heap.size (fun _ => True) v6 x6_3) ∧ Aside0 (Below w.heap.size w w'))
            case atStart => exact ⟨(x6_12), (8), (by first | rfl | (simp; done) | (simp [*]; done)), H', ⟨Nat.le_refl _⟩, ⟨by (with_reducible repeat (first | apply Kd.R_alloc | apply Kd.R_drewN | apply Kd.R_drew)); exact HO_6.out⟩, ⟨by repeat (first | (with_reducible first | exact HB.out | apply below_alloc | apply pw_below_drewN | apply below_drew1) | exact HB.out)⟩⟩
            case round =>
              clear H'
              try clear c1
              try clear p1
              try clear q1
              try clear hx1
              try clear c2
              try clear p2
              try clear p6
              try clear c7
              try clear c7b0
              try clear c8
              try clear c8b0
              try clear c9
              try clear c9b0
              try clear c10
              try clear c10b0
              try clear c10b1
              try clear c10b2
              try clear c11
              try clear p13
              try clear q13
              try clear hx13
              try clear c14
              try clear c14b0
              try clear c14b1
              try clear hx130_0
              try clear p1
              try clear p13
              try clear p130
              try clear p2
              try clear p6
              try clear q1
              try clear q13
              try clear q130
              obtain ⟨x6_3, x9_3, rfl, HA, HK3, HO_6, HB⟩ := hrel
              cases gk with
              | zero => exact absurd HA.out (by simp [impl_regNames.l1])
              | succ k3 =>
                have H := HA.out
                clear HA
                simp only [impl_regNames.l1] at H
                by_cases c17 : x9_3 < 16
                · rw [if_pos c17] at H
                  have c17b0 : decide (x9_3 < 16) = true := decide_eq_true c17
                  clear c17
                  replace H := Option.bind_eq_some_iff.mp H
                  obtain ⟨t137, A180, H⟩ := H
                  replace H : (if 1 + t137.size ≤ 9223372036854775807 then (if ((⟨#[114]⟩ : ByteArray) ++ t137).size + (post27 a0).size ≤ 9223372036854775807 then (if x6_3.length < 8796093022208 then (impl_regNames.l1 k3 a0 (post27 a0) (x6_3 ++ [((⟨#[114]⟩ : ByteArray) ++ t137) ++ (post27 a0)]) (wrap64 (x9_3 + 1))) else (none)) else (none)) else (none)) = some r := H
                  have A18 := Aside0.mk A180
                  clear A180
                  by_cases c19 : 1 + t137.size ≤ 9223372036854775807
                  · rw [if_pos c19] at H
                    have c19b0 := eq_true c19
                    have c19b1 : decide (1 + t137.size ≤ 9223372036854775807) = true := decide_eq_true c19
                    try have c19b2 : (9223372036854775807 < 1 + t137.size) = False := eq_false (Nat.not_lt.2 c19)
                    by_cases c20 : ((⟨#[114]⟩ : ByteArray) ++ t137).size + (post27 a0).size ≤ 9223372036854775807
                    · rw [if_pos c20] at H
                      have c20b0 := eq_true c20
                      have c20b1 : decide (((⟨#[114]⟩ : ByteArray) ++ t137).size + (post27 a0).size ≤ 9223372036854775807) = true := decide_eq_true c20
                      try have c20b2 : (9223372036854775807 < ((⟨#[114]⟩ : ByteArray) ++ t137).size + (post27 a0).size) = False := eq_false (Nat.not_lt.2 c20)
                      have c20q : 1 + t137.size + (post27 a0).size ≤ 9223372036854775807 := by have := c20; rw [ByteArray.size_append] at this; exact this
                      have c20q0 := eq_true c20q
                      have c20q1 : decide (1 + t137.size + (post27 a0).size ≤ 9223372036854775807) = true := decide_eq_true c20q
                      have c20q2 : (9223372036854775807 < 1 + t137.size + (post27 a0).size) = False := eq_false (Nat.not_lt.2 c20q)
                      by_cases c21 : x6_3.length < 8796093022208
                      · rw [if_pos c21] at H
                        have LMc21 := Aside0.mk c21
                        clear c21
                        obtain ⟨y138, hy138⟩ : ∃ y_ : List ByteArray, y_ = (x6_3 ++ [((⟨#[114]⟩ : ByteArray) ++ t137) ++ (post27 a0)]) := ⟨_, rfl⟩
                        replace H : (impl_regNames.l1 k3 a0 (post27 a0) y138 (wrap64 (x9_3 + 1))) = some r := by first | (rw [hy138]; with_reducible exact H) | (have H2_ := (Option.bind_some _ _).symm.trans H; rw [hy138]; with_reducible exact H2_) | (have H2_ := (Option.bind_some _ _).symm.trans H; with_reducible exact H2_) | with_reducible exact H | (rw [hy138]; exact H) | exact H
                        have Ny138 := Aside0.mk hy138
                        clear hy138
                        have H' := Aside0.mk H
                        clear H
                        go_wp2_with (first | ((with_reducible refine gate_callee (f := 48) rfl ?_); refine goesL_ (some 42) rfl rfl Tryd.func48 (by kernel_rfl) rfl #[.int .i64 x9_3] rfl (by (try simp only [List.map_toArray, List.map_cons, List.map_nil]); first | done | rfl | (simp only [List.length_drop, List.length_take]; rfl)) ?_; (with_reducible refine (strconv_Itoa_48.calls x9_3 t137 _ A18.out).mono ?_); rintro e w' ⟨rfl, ⟨nd, rfl⟩⟩; refine ⟨_, rfl, ?_⟩) | ((with_reducible refine gate_builtin (b := .append) (xs := #[.tmp 40, .tmp 46]) rfl ?_); at_builtin; refine Kd.R_append Kd.string (w0 := w) w.heap.size rfl (.tmp 40) (.tmp 46) 41 9 (.string ⟨#[]⟩) 16 rfl Tryd.underlying41 info9 rfl (by decide) (by omega) u6 x6_3 (((⟨#[114]⟩ : ByteArray) ++ t137) ++ (post27 a0)) [.string (((⟨#[114]⟩ : ByteArray) ++ t137) ++ (post27 a0))] (fun _ => True) (fun _ => False) rfl rfl ?aP (fun _ hk => hk.elim) ?aF ?aO ?aB ?aS ?aL ?_; (case aP => exact rfl); (case aB => exact (by repeat (first | (with_reducible first | exact HB.out | apply below_alloc | apply pw_below_drewN | apply below_drew1) | exact HB.out))); (case aF => exact (fun _ _ => trivial)); (case aO => exact (by (with_reducible repeat (first | apply Kd.R_alloc | apply Kd.R_drewN | apply Kd.R_drew)); exact HO_6.out)); (case aS => exact (below_size (by repeat (first | (with_reducible first | exact HB.out | apply below_alloc | apply pw_below_drewN | apply below_drew1) | exact HB.out)))); (case aL => have := LMc21.out; omega); intro v139 w22 ho hb hg hat; rw [← Ny138.out] at ho; have n0_ := Aside0.mk (hb); have n1_ := Aside0.mk (ho); clear HB; clear HO_6; have HB := n0_; have HO140 := n1_; clear n0_ n1_; clear ho hb hg hat))
                        go_roundg k3
                        case measure => have := HK1.out; have := HJ12.out; have := HK3.out; omega
                        case rel => (try rw [c14b0]); (try rw [c14b0] at H'); (try rw [c14b1]); (try rw [c14b1] at H'); exact ⟨(y138), (wrap64 (x9_3 + 1)), (by first | rfl | (simp; done) | (simp [*]; done)), H', ⟨by have := HK1.out; have := HJ12.out; have := HK3.out; omega⟩, ⟨by (with_reducible repeat (first | apply Kd.R_alloc | apply Kd.R_drewN | apply Kd.R_drew)); exact HO140.out⟩, ⟨by repeat (first | (with_reducible first | exact HB.out | apply below_alloc | apply pw_below_drewN | apply below_drew1) | exact HB.out)⟩⟩
                      · rw [if_neg c21] at H
                        exact absurd H (by simp)
                    · rw [if_neg c20] at H
                      exact absurd H (by simp)
                  · rw [if_neg c19] at H
                    exact absurd H (by simp)
                · rw [if_neg c17] at H
                  have c17b0 : decide (x9_3 < 16) = false := decide_eq_false c17
                  clear c17
                  by_cases c23 : a0 = 1
                  · rw [if_pos c23] at H
                    have c23b0 : (a0 == 1) = true := beq_iff_eq.mpr c23
                    have c23b1 : (a0 != 1) = false := bne_eq_false_iff_eq.mpr c23
                    clear c23
                    obtain ⟨y141, hy141⟩ : ∃ y_ : List ByteArray, y_ = (([(⟨#[97, 104]⟩ : ByteArray), (⟨#[99, 104]⟩ : ByteArray), (⟨#[100, 104]⟩ : ByteArray), (⟨#[98, 104]⟩ : ByteArray)] : List ByteArray)) := ⟨_, rfl⟩
                    replace H : (if x6_3.length + y141.length < 8796093022208 then (some (x6_3 ++ y141)) else (none)) = some r := by first | (rw [hy141]; with_reducible exact H) | (have H2_ := (Option.bind_some _ _).symm.trans H; rw [hy141]; with_reducible exact H2_) | (have H2_ := (Option.bind_some _ _).symm.trans H; with_reducible exact H2_) | with_reducible exact H | (rw [hy141]; exact H) | exact H
                    have Ny141 := Aside0.mk hy141
                    clear hy141
                    by_cases c24 : x6_3.length + y141.length < 8796093022208
                    · rw [if_pos c24] at H
                      have LMc24 := Aside0.mk c24
                      clear c24
                      obtain ⟨y144, hy144⟩ : ∃ y_ : List ByteArray, y_ = (x6_3 ++ y141) := ⟨_, rfl⟩
                      replace H : (some y144) = some r := by first | (rw [hy144]; with_reducible exact H) | (have H2_ := (Option.bind_some _ _).symm.trans H; rw [hy144]; with_reducible exact H2_) | (have H2_ := (Option.bind_some _ _).symm.trans H; with_reducible exact H2_) | with_reducible exact H | (rw [hy144]; exact H) | exact H
                      have Ny144 := Aside0.mk hy144
                      clear hy144
                      obtain rfl := Option.some.inj H
                      go_wp2_with (first | ((with_reducible refine gate_dst (N := 51) rfl ?_); refine Kd.R_lit Kd.string _ 9 ?hg (N := 51) ?hd (xs := ([(⟨#[97, 104]⟩ : ByteArray), (⟨#[99, 104]⟩ : ByteArray), (⟨#[100, 104]⟩ : ByteArray), (⟨#[98, 104]⟩ : ByteArray)] : List ByteArray)) (inner := [.string (⟨#[97, 104]⟩ : ByteArray), .string (⟨#[99, 104]⟩ : ByteArray), .string (⟨#[100, 104]⟩ : ByteArray), .string (⟨#[98, 104]⟩ : ByteArray)]) (ok := fun _ => True) (okp := fun _ => True) ?hr ?hp (fun _ hk => hk) trivial (Below.refl _ _) (Nat.le_refl _) (by simp) ?_; (case hd => rfl); (case hg => rfl); (case hr => first | (go_simp; done) | (go_simp; rfl)); (case hp => exact (Reps.one (show Kd.M Kd.string _ _ _ (⟨#[97, 104]⟩ : ByteArray) [.string (⟨#[97, 104]⟩ : ByteArray)] from rfl) (Reps.one (show Kd.M Kd.string _ _ _ (⟨#[99, 104]⟩ : ByteArray) [.string (⟨#[99, 104]⟩ : ByteArray)] from rfl) (Reps.one (show Kd.M Kd.string _ _ _ (⟨#[100, 104]⟩ : ByteArray) [.string (⟨#[100, 104]⟩ : ByteArray)] from rfl) (Reps.one (show Kd.M Kd.string _ _ _ (⟨#[98, 104]⟩ : ByteArray) [.string (⟨#[98, 104]⟩ : ByteArray)] from rfl) (Reps.none _ _)))))); intro v142 w25 ho26 hb hg_ hnew_; clear hg_ hnew_; (first | rw [← Ny141.out] at ho26 | (simp only [Int.reduceToNat] at ho26; rw [← Ny141.out] at ho26)); have n0_ := Aside0.mk (Kd.R_elder' (by (with_reducible repeat (first | apply Kd.R_alloc | apply Kd.R_drewN | apply Kd.R_drew)); exact HO_6.out) (Kd.R_base ho26) hb); have n1_ := Aside0.mk (Kd.R_lower (Kd.R_new' ho26 (Kd.R_lt (by (with_reducible repeat (first | apply Kd.R_alloc | apply Kd.R_drewN | apply Kd.R_drew)); exact HO_6.out))) (below_size (by repeat (first | (with_reducible first | exact HB.out | apply below_alloc | apply pw_below_drewN | apply below_drew1) | exact HB.out)))); have n2_ := Aside0.mk (below_step (by repeat (first | (with_reducible first | exact HB.out | apply below_alloc | apply pw_below_drewN | apply below_drew1) | exact HB.out)) hb); clear HO_6; clear HB; have HO_6 := n0_; have HO143 := n1_; have HB := n2_; clear n0_ n1_ n2_; clear hb ho26; obtain ⟨Ao28, co28, eo28⟩ := Kd.R_slice HO143.out; subst eo28) | ((with_reducible refine gate_builtin (b := .append) (xs := #[.tmp 50, .tmp 51]) rfl ?_); at_builtin; refine Kd.R_append_rows Kd.string (w0 := w) w.heap.size rfl (.tmp 50) (.tmp 51) 41 9 (.string ⟨#[]⟩) 16 rfl Tryd.underlying41 info9 rfl (by decide) (by omega) u6 x6_3 y141 _ _ _ (fun k_ => some k_ ≠ (.slice Ao28 y141.length co28 : Value).ownBlock) (fun _ => False) rfl rfl ?aO ?aR (fun _ _ h => h) (fun _ h => h.elim) ?aF ?aB ?aS ?aL ?_; (case aR => repeat (first | exact (Kd.R_reads' HO143.out).2.2 | (with_reducible refine Kd.C_alloc ?_ _) | (with_reducible refine Kd.C_drewN ?_ _) | (with_reducible refine Kd.C_drew ?_))); (case aB => exact (by repeat (first | (with_reducible first | exact HB.out | apply below_alloc | apply pw_below_drewN | apply below_drew1) | exact HB.out))); (case aF => exact (fun k_ hk => Kd.fresh' (Kd.R_lt (by (with_reducible repeat (first | apply Kd.R_alloc | apply Kd.R_drewN | apply Kd.R_drew)); exact HO143.out)) k_ hk)); (case aO => exact (by (with_reducible repeat (first | apply Kd.R_alloc | apply Kd.R_drewN | apply Kd.R_drew)); exact Kd.R_mono HO_6.out (fun _ hk => hk.2))); (case aS => exact (below_size (by repeat (first | (with_reducible first | exact HB.out | apply below_alloc | apply pw_below_drewN | apply below_drew1) | exact HB.out)))); (case aL => have := LMc24.out; omega); intro v145 w27 ho hb hg hat; rw [← Ny144.out] at ho; have n0_ := Aside0.mk (Kd.R_after (ok := (fun _ => True)) (by (with_reducible repeat (first | apply Kd.R_alloc | apply Kd.R_drewN | apply Kd.R_drew)); exact HO143.out) hg hat); have n1_ := Aside0.mk (hb); have n2_ := Aside0.mk (ho); clear HO143; clear HB; clear HO_6; have HO143 := n0_; have HB := n1_; have HO146 := n2_; clear n0_ n1_ n2_; clear ho hb hg hat))
                      go_ret
                      exact ⟨_, by first | rfl | (simp [errW_none, errW_some] <;> rfl) | (simp [*, errW_none, errW_some] <;> rfl), by (with_reducible repeat (first | apply Kd.R_alloc | apply Kd.R_drewN | apply Kd.R_drew)); exact Kd.R_mono HO146.out (fun _ hk => trivial), by repeat (first | (with_reducible first | exact HB.out | apply below_alloc | apply pw_below_drewN | apply below_drew1) | exact HB.out)⟩
                    · rw [if_neg c24] at H
                      exact absurd H (by simp)
                  · rw [if_neg c23] at H
                    have c23b0 : (a0 == 1) = false := beq_eq_false_iff_ne.mpr c23
                    have c23b1 : (a0 != 1) = true := bne_iff_ne.mpr c23
                    obtain rfl := Option.some.inj H
                    go_wp2
                    go_ret
                    exact ⟨_, by first | rfl | (simp [errW_none, errW_some] <;> rfl) | (simp [*, errW_none, errW_some] <;> rfl), by (with_reducible repeat (first | apply Kd.R_alloc | apply Kd.R_drewN | apply Kd.R_drew)); exact HO_6.out, by repeat (first | (with_reducible first | exact HB.out | apply below_alloc | apply pw_below_drewN | apply below_drew1) | exact HB.out)⟩

def impl_regNames.f (k : Nat) (a0 : Int) : Option (List ByteArray) := if (Lit.int .i64 a0).wf = true then impl_regNames.g k a0 else none
theorem impl_regNames.mono : ∀ a0 k, LeO (impl_regNames.f k a0) (impl_regNames.f (k + 1) a0) := by
  intro a0 k
  unfold impl_regNames.f
  exact LeO.ite (impl_regNames.gmono a0 k) (LeO.refl _)
theorem impl_regNames.calls (k : Nat) (a0 : Int) (r : List ByteArray) (w : World) (h : impl_regNames.f k a0 = some r) :
    Calls Tryd.prog 27 #[.int .i64 a0] w fun e w' => ∃ v0_ : Value, e = .returned (v0_) ∧ Kd.R Kd.string 9 w' w.heap.size (fun _ => True) v0_ r ∧ Below w.heap.size w w' := by
  unfold impl_regNames.f at h
  by_cases ha : (Lit.int .i64 a0).wf = true
  · rw [if_pos ha] at h
    exact impl_regNames.gcalls k a0 r w ha h
  · rw [if_neg ha] at h
    cases h

end Go.Proofs.YtkaffpbclanoeaaDoor.PFnNames
