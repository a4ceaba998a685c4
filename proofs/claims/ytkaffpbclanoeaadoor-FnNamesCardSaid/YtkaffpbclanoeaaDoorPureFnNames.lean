/- The law of FnNames: operations, conditions and registers are read back from their names, at every two rows of bytes. -/
import Derived.Test.YtkaffpbclanoeaaDoorPFnNamesx10
import Derived.Lib.Strings
namespace Go.Proofs.YtkaffpbclanoeaaDoor.Pure
open Go.RowKit Go.Proofs.YtkaffpbclanoeaaDoor.PFnNames Go.Proofs.YtkaffpbclanoeaaDoorW.PrintWords Go.Proofs.YtkaffpbclanoeaaDoorW.PrintLast Go.Proofs.YtkaffpbclanoeaaDoorW.PrintMore
set_option linter.unusedVariables false
set_option linter.unusedSimpArgs false
theorem w64_in {n : Int} (h0 : -9223372036854775808 ≤ n) (h1 : n ≤ 9223372036854775807) : wrap64 n = n := by unfold wrap64; omega
theorem rd_byte {l : List Int} (hl : ∀ x ∈ l, (Lit.int .u8 x).wf = true) (i : Int) : 0 ≤ rd l i ∧ rd l i ≤ 255 := by
  unfold rd
  rw [List.getD_eq_getElem?_getD]
  cases h : l[i.toNat]? with
  | none => simp
  | some x =>
    have h2 := hl x (List.mem_of_getElem? h)
    simp [Lit.wf, IntKind.min, IntKind.max, IntKind.bits, IntKind.signed] at h2
    simp only [Option.getD_some]
    omega
theorem tmod_pos {a : Int} (b : Int) (h : 0 ≤ a) : Int.tmod a b = a % b := Int.tmod_eq_emod_of_nonneg h
theorem at_tells {l : List Int} (hl : ∀ x ∈ l, (Lit.int .u8 x).wf = true) (hlen : l.length ≤ 140737488351232) (i : Int) (i0 : 0 ≤ i) (i1 : i ≤ 1000) {n : Int} (n1 : 1 < n) (n2 : n ≤ 2147483648) : ∃ v, laws_at.f l i n = some v ∧ 0 ≤ v ∧ v < n := by
  unfold laws_at.f
  rw [if_neg (by omega)]
  by_cases h : (l.length : Int) = 0
  · rw [if_pos h, if_neg (by omega), w64_in (by omega) (by omega), tmod_pos _ (by omega)]
    exact ⟨_, rfl, Int.emod_nonneg _ (by omega), Int.emod_lt_of_pos _ (by omega)⟩
  · have r1 := rd_byte hl (i % (l.length : Int))
    have r2 := rd_byte hl ((i + 1) % (l.length : Int))
    have m1 := Int.emod_nonneg i h
    have m2 := Int.emod_lt_of_pos i (b := (l.length : Int)) (by omega)
    have m3 := Int.emod_nonneg (i + 1) h
    have m4 := Int.emod_lt_of_pos (i + 1) (b := (l.length : Int)) (by omega)
    have d0 : 0 ≤ i / (l.length : Int) := Int.ediv_nonneg i0 (by omega)
    have d1 : i / (l.length : Int) ≤ i := Int.ediv_le_self _ i0
    rw [if_neg h, w64_in (n := i + 1) (by omega) (by omega), tmod_pos _ i0, tmod_pos (a := i + 1) _ (by omega), Int.tdiv_eq_ediv_of_nonneg i0, if_pos m1, if_pos m2, if_pos m3, if_pos m4, if_neg (by omega)]
    generalize rd l (i % (l.length : Int)) = a at *
    generalize rd l ((i + 1) % (l.length : Int)) = b at *
    generalize i / (l.length : Int) = d at *
    clear m1 m2 m3 m4
    rw [w64_in (n := a) (by omega) (by omega), w64_in (n := b) (by omega) (by omega), w64_in (n := d) (by omega) (by omega), w64_in (n := a * 31) (by omega) (by omega), w64_in (n := a * 31 + b) (by omega) (by omega), w64_in (by omega) (by omega), tmod_pos _ (by omega)]
    exact ⟨_, rfl, Int.emod_nonneg _ (by omega), Int.emod_lt_of_pos _ (by omega)⟩
theorem size_tells {l : List Int} (hl : ∀ x ∈ l, (Lit.int .u8 x).wf = true) (hlen : l.length ≤ 140737488351232) (i : Int) (i0 : 0 ≤ i) (i1 : i ≤ 1000) : ∃ v, laws_sizeAt.f l i = some v ∧ (v = 1 ∨ v = 2 ∨ v = 4 ∨ v = 8) := by
  obtain ⟨x, e, h0, h1⟩ := at_tells hl hlen i i0 i1 (n := 4) (by omega) (by omega)
  unfold laws_sizeAt.f
  rw [Option.bind_some, e, Option.bind_some, if_pos h0, if_pos (by simpa using h1)]
  have : x = 0 ∨ x = 1 ∨ x = 2 ∨ x = 3 := by omega
  rcases this with rfl | rfl | rfl | rfl
  · exact ⟨1, rfl, by omega⟩
  · exact ⟨2, rfl, by omega⟩
  · exact ⟨4, rfl, by omega⟩
  · exact ⟨8, rfl, by omega⟩
/-- The place of a text in a list of texts, counted from i on; -1 where it isn't there. -/
def srch (s : ByteArray) : List ByteArray → Int → Int
  | [], _ => -1
  | x :: xs, i => if x.data.toList = s.data.toList then i else srch s xs (i + 1)
theorem drop_at {L : List ByteArray} {i : Int} (h0 : 0 ≤ i) (h1 : i < L.length) : L.drop i.toNat = rdOf ByteArray.empty L i :: L.drop (i + 1).toNat := by
  have hl : i.toNat < L.length := by omega
  rw [List.drop_eq_getElem_cons hl, show (i + 1).toNat = i.toNat + 1 by omega]
  unfold rdOf
  rw [List.getD_eq_getElem?_getD, List.getElem?_eq_getElem hl]
  rfl
theorem index_l0 (L : List ByteArray) (s : ByteArray) (hL : L.length ≤ 1000000) : ∀ (k : Nat) (i : Int), 0 ≤ i → i ≤ L.length → (L.length : Int) - i < k → slices_Index_string_string.l0 k L s (L.length : Int) i = some (srch s (L.drop i.toNat) i)
  | 0, i, h0, h1, hk => by omega
  | k + 1, i, h0, h1, hk => by
    simp only [slices_Index_string_string.l0]
    by_cases hlt : i < (L.length : Int)
    · rw [if_pos hlt, if_pos h0, if_pos hlt, drop_at h0 hlt]
      unfold srch
      by_cases e : (rdOf ByteArray.empty L i).toList = s.toList
      · rw [if_pos e.symm, if_pos (by rw [← Go.Lib.toList_data, ← Go.Lib.toList_data]; exact e)]
      · rw [if_neg (fun h => e h.symm), if_neg (by rw [← Go.Lib.toList_data, ← Go.Lib.toList_data]; exact e), show wrap64 (i + 1) = i + 1 by unfold wrap64; omega]
        exact index_l0 L s hL k (i + 1) (by omega) (by omega) (by omega)
    · rw [if_neg hlt, List.drop_eq_nil_of_le (by omega)]
      rfl
theorem index_tells {L : List ByteArray} (s : ByteArray) {k : Nat} (hL : L.length < k) (hk : k ≤ 1000) : slices_Index_string_string.f k L s = some (srch s L 0) := by
  unfold slices_Index_string_string.f
  rw [index_l0 L s (by omega) k 0 (by omega) (by omega) (by omega)]
  rfl
/-! The operations -/
theorem ops_all : ∀ o : Fin 44, impl_OpName.f ((o.val : Int) + 1) = spec_OpName.f ((o.val : Int) + 1) ∧ (impl_OpName.f ((o.val : Int) + 1)).isSome = true ∧ mx 0 (srch ((impl_OpName.f ((o.val : Int) + 1)).getD ByteArray.empty) (impl_opNames.f.getD []) 0) = (o.val : Int) + 1 := by decide +kernel
theorem names_45 : ∃ L, impl_opNames.f = some L ∧ L.length = 45 := ⟨_, rfl, rfl⟩
theorem op_back (x : Int) (h0 : 1 ≤ x) (h1 : x ≤ 44) : ∃ t, impl_OpName.f x = some t ∧ spec_OpName.f x = some t ∧ impl_OpOf.f 104 t = some x := by
  have h := ops_all ⟨(x - 1).toNat, by omega⟩
  simp only [show (((x - 1).toNat : Nat) : Int) + 1 = x by omega] at h
  obtain ⟨e1, e2, e3⟩ := h
  obtain ⟨t, ht⟩ := Option.isSome_iff_exists.1 e2
  obtain ⟨L, hL, hl⟩ := names_45
  rw [ht, hL] at e3
  refine ⟨t, ht, by rw [← e1, ht], ?_⟩
  unfold impl_OpOf.f
  rw [hL, Option.bind_some, index_tells t (by omega) (by omega), Option.bind_some]
  exact congrArg some e3
/-! The conditions -/
theorem conds_all : ∀ o : Fin 16, impl_CondName.f (o.val : Int) = spec_CondName.f (o.val : Int) ∧ (impl_CondName.f (o.val : Int)).isSome = true ∧ srch ((impl_CondName.f (o.val : Int)).getD ByteArray.empty) (impl_condNames.f.getD []) 0 = (o.val : Int) := by decide +kernel
theorem conds_16 : ∃ L, impl_condNames.f = some L ∧ L.length = 16 := ⟨_, rfl, rfl⟩
theorem cond_back (x : Int) (h0 : 0 ≤ x) (h1 : x ≤ 15) : ∃ t, impl_CondName.f x = some t ∧ spec_CondName.f x = some t ∧ impl_CondOf.f 104 t = some x := by
  have h := conds_all ⟨x.toNat, by omega⟩
  simp only [show ((x.toNat : Nat) : Int) = x by omega] at h
  obtain ⟨e1, e2, e3⟩ := h
  obtain ⟨t, ht⟩ := Option.isSome_iff_exists.1 e2
  obtain ⟨L, hL, hl⟩ := conds_16
  rw [ht, hL] at e3
  refine ⟨t, ht, by rw [← e1, ht], ?_⟩
  unfold impl_CondOf.f
  rw [hL, Option.bind_some, index_tells t (by omega) (by omega), Option.bind_some]
  exact congrArg some e3
/-! The classes -/
theorem class_all : ∀ o : Fin 44, impl_ClassOf.f 107 ((o.val : Int) + 1) = spec_ClassOf.f 107 ((o.val : Int) + 1) ∧ (impl_ClassOf.f 107 ((o.val : Int) + 1)).map Prod.snd = some 0 := by decide +kernel
theorem class_back (x : Int) (h0 : 1 ≤ x) (h1 : x ≤ 44) : ∃ c, impl_ClassOf.f 107 x = some (c, 0) ∧ spec_ClassOf.f 107 x = some (c, 0) := by
  have h := class_all ⟨(x - 1).toNat, by omega⟩
  simp only [show (((x - 1).toNat : Nat) : Int) + 1 = x by omega] at h
  obtain ⟨e1, e2⟩ := h
  cases e : impl_ClassOf.f 107 x with
  | none => rw [e] at e2; cases e2
  | some p =>
    obtain ⟨c, d⟩ := p
    rw [e] at e2
    obtain rfl : d = 0 := by simpa using e2
    exact ⟨c, rfl, by rw [← e1, e]⟩
/-! The shapes -/
instance dec2 : DecidableEq (Int × Int) := instDecidableEqProd
instance dec3 : DecidableEq (Bool × Int × Int) := instDecidableEqProd
instance dec4 : DecidableEq (Int × Bool × Int × Int) := instDecidableEqProd
instance dec5 : DecidableEq (Int × Int × Bool × Int × Int) := instDecidableEqProd
instance dec6 : DecidableEq (Int × Int × Int × Bool × Int × Int) := instDecidableEqProd
instance dec7 : DecidableEq (Option (Int × Int × Int × Bool × Int × Int)) := fun a b => inferInstance
theorem shape_all : ∀ (s : Bool) (b : Fin 256), impl_ShapeOf.f 107 s (b.val : Int) = spec_ShapeOf.f s (b.val : Int) ∧ (impl_ShapeOf.f 107 s (b.val : Int)).isSome = true := by decide +kernel
theorem shape_back (s : Bool) (b : Int) (h0 : 0 ≤ b) (h1 : b < 256) : ∃ r, impl_ShapeOf.f 107 s b = some r ∧ spec_ShapeOf.f s b = some r := by
  have h := shape_all s ⟨b.toNat, by omega⟩
  simp only [show ((b.toNat : Nat) : Int) = b by omega] at h
  obtain ⟨r, hr⟩ := Option.isSome_iff_exists.1 h.2
  exact ⟨r, hr, by rw [← h.1, hr]⟩
/-! The groups -/
theorem group_all : ∀ i : Fin 7, ∀ j : Fin 8, impl_GroupOp.f 105 ((i.val : Int) + 1) (j.val : Int) = spec_GroupOp.f 105 ((i.val : Int) + 1) (j.val : Int) ∧ (impl_GroupOp.f 105 ((i.val : Int) + 1) (j.val : Int)).isSome = true := by decide +kernel
theorem group_back (a0 a1 : Int) : ∃ r, impl_GroupOp.f 105 a0 a1 = some r ∧ spec_GroupOp.f 105 a0 a1 = some r := by
  by_cases h0 : 1 ≤ a0 ∧ a0 ≤ 7 ∧ 0 ≤ a1 ∧ a1 ≤ 7
  · obtain ⟨h1, h2, h3, h4⟩ := h0
    have h := group_all ⟨(a0 - 1).toNat, by omega⟩ ⟨a1.toNat, by omega⟩
    simp only [show (((a0 - 1).toNat : Nat) : Int) + 1 = a0 by omega, show ((a1.toNat : Nat) : Int) = a1 by omega] at h
    obtain ⟨r, hr⟩ := Option.isSome_iff_exists.1 h.2
    exact ⟨r, hr, by rw [← h.1, hr]⟩
  · refine ⟨(0, 4), ?_⟩
    unfold spec_GroupOp.f impl_GroupOp.f spec_l01In.f impl_within.f
    by_cases b1 : a0 ≥ 1
    · by_cases b2 : a0 ≤ 7
      · by_cases b3 : a1 ≥ 0
        · have b4 : ¬ a1 ≤ 7 := by omega
          simp [b1, b2, b3, b4, spec_GroupOp.j0, impl_GroupOp.j0]
        · simp [b1, b2, b3, spec_GroupOp.j0, impl_GroupOp.j0]
      · simp [b1, b2, spec_GroupOp.j0, impl_GroupOp.j0]
    · simp [b1, spec_GroupOp.j0, impl_GroupOp.j0]
/-! The registers -/
theorem regs_more (a : Int) {L : List ByteArray} (h : impl_regNames.f 60 a = some L) : ∀ d, impl_regNames.f (60 + d) a = some L
  | 0 => h
  | d + 1 => impl_regNames.mono a (60 + d) _ (regs_more a h d)
theorem regs_at {a : Int} {L : List ByteArray} (h : impl_regNames.f 60 a = some L) {k : Nat} (hk : 60 ≤ k) : impl_regNames.f k a = some L := by
  obtain ⟨d, rfl⟩ : ∃ d, k = 60 + d := ⟨k - 60, by omega⟩
  exact regs_more a h d
def R1 : List ByteArray := (impl_regNames.f 60 1).getD []
def R2 : List ByteArray := (impl_regNames.f 60 2).getD []
def R4 : List ByteArray := (impl_regNames.f 60 4).getD []
def R8 : List ByteArray := (impl_regNames.f 60 8).getD []
theorem e1 : impl_regNames.f 60 1 = some R1 := by kernel_rfl
theorem e2 : impl_regNames.f 60 2 = some R2 := by kernel_rfl
theorem e4 : impl_regNames.f 60 4 = some R4 := by kernel_rfl
theorem e8 : impl_regNames.f 60 8 = some R8 := by kernel_rfl
theorem n1 : R1.length = 20 := by kernel_rfl
theorem n2 : R2.length = 16 := by kernel_rfl
theorem n4 : R4.length = 16 := by kernel_rfl
theorem n8 : R8.length = 16 := by kernel_rfl
def look (s : ByteArray) : Int × Int × Int := if srch s R1 0 ≥ 0 then (srch s R1 0, 1, 0) else if srch s R2 0 ≥ 0 then (srch s R2 0, 2, 0) else if srch s R4 0 ≥ 0 then (srch s R4 0, 4, 0) else if srch s R8 0 ≥ 0 then (srch s R8 0, 8, 0) else (0, 0, 3)
theorem look1 : ∀ i : Fin 20, look (rdOf ByteArray.empty R1 (i.val : Int)) = ((i.val : Int), 1, 0) ∧ (rdOf ByteArray.empty R1 (i.val : Int)).size ≤ 100 := by decide +kernel
theorem look2 : ∀ i : Fin 16, look (rdOf ByteArray.empty R2 (i.val : Int)) = ((i.val : Int), 2, 0) ∧ (rdOf ByteArray.empty R2 (i.val : Int)).size ≤ 100 := by decide +kernel
theorem look4 : ∀ i : Fin 16, look (rdOf ByteArray.empty R4 (i.val : Int)) = ((i.val : Int), 4, 0) ∧ (rdOf ByteArray.empty R4 (i.val : Int)).size ≤ 100 := by decide +kernel
theorem look8 : ∀ i : Fin 16, look (rdOf ByteArray.empty R8 (i.val : Int)) = ((i.val : Int), 8, 0) ∧ (rdOf ByteArray.empty R8 (i.val : Int)).size ≤ 100 := by decide +kernel
theorem impl_step {k : Nat} {s : ByteArray} {i x : Int} {L : List ByteArray} {t : Int} (h0 : 0 ≤ i) (h4 : i < 4) (z : rd ([1, 2, 4, 8] : List Int) i = x) (q : impl_regNames.f k x = some L) (r : slices_Index_string_string.f k L s = some t) : impl_RegOf.l0 (k + 1) s [1, 2, 4, 8] 4 i = if t ≥ 0 then some (t, x, 0) else impl_RegOf.l0 k s [1, 2, 4, 8] 4 (wrap64 (i + 1)) := by
  rw [impl_RegOf.l0, if_pos h4, if_pos h0, if_pos (by simpa using h4), z, q, Option.bind_some, r, Option.bind_some]
theorem regof_tells (s : ByteArray) (hs : s.size ≤ 100) : impl_RegOf.f 107 s = some (look s) := by
  unfold impl_RegOf.f
  rw [if_neg (by omega), Option.bind_some]
  have z1 : rd ([1, 2, 4, 8] : List Int) 0 = 1 := rfl
  have z2 : rd ([1, 2, 4, 8] : List Int) 1 = 2 := rfl
  have z3 : rd ([1, 2, 4, 8] : List Int) 2 = 4 := rfl
  have z4 : rd ([1, 2, 4, 8] : List Int) 3 = 8 := rfl
  have zl : ((([1, 2, 4, 8] : List Int).length : Nat) : Int) = 4 := rfl
  have u1 : wrap64 (0 + 1) = 1 := by unfold wrap64; omega
  have u2 : wrap64 (1 + 1) = 2 := by unfold wrap64; omega
  have u3 : wrap64 (2 + 1) = 3 := by unfold wrap64; omega
  have u4 : wrap64 (3 + 1) = 4 := by unfold wrap64; omega
  unfold look
  rw [zl]
  rw [impl_step (k := 106) (i := 0) (by omega) (by omega) z1 (regs_at e1 (by omega)) (index_tells s (by rw [n1]; omega) (by omega))]
  by_cases g1 : srch s R1 0 ≥ 0
  · rw [if_pos g1, if_pos g1]
  rw [if_neg g1, if_neg g1, u1]
  rw [impl_step (k := 105) (i := 1) (by omega) (by omega) z2 (regs_at e2 (by omega)) (index_tells s (by rw [n2]; omega) (by omega))]
  by_cases g2 : srch s R2 0 ≥ 0
  · rw [if_pos g2, if_pos g2]
  rw [if_neg g2, if_neg g2, u2]
  rw [impl_step (k := 104) (i := 2) (by omega) (by omega) z3 (regs_at e4 (by omega)) (index_tells s (by rw [n4]; omega) (by omega))]
  by_cases g3 : srch s R4 0 ≥ 0
  · rw [if_pos g3, if_pos g3]
  rw [if_neg g3, if_neg g3, u3]
  rw [impl_step (k := 103) (i := 3) (by omega) (by omega) z4 (regs_at e8 (by omega)) (index_tells s (by rw [n8]; omega) (by omega))]
  by_cases g4 : srch s R8 0 ≥ 0
  · rw [if_pos g4, if_pos g4]
  rw [if_neg g4, if_neg g4, u4]
  rw [impl_RegOf.l0, if_neg (by omega)]
theorem isReg_at (a n : Int) (hn : n = 1 ∨ n = 2 ∨ n = 4 ∨ n = 8) (h : 0 ≤ a ∧ a ≤ 15 ∨ n = 1 ∧ 16 ≤ a ∧ a ≤ 19) : impl_isReg.f a n = some true := by
  have key : (∀ i : Fin 16, impl_isReg.f (i.val : Int) 1 = some true ∧ impl_isReg.f (i.val : Int) 2 = some true ∧ impl_isReg.f (i.val : Int) 4 = some true ∧ impl_isReg.f (i.val : Int) 8 = some true) ∧ ∀ i : Fin 20, impl_isReg.f (i.val : Int) 1 = some true := by decide +kernel
  rcases h with ⟨h0, h1⟩ | ⟨rfl, h0, h1⟩
  · have t := key.1 ⟨a.toNat, by omega⟩
    simp only [show ((a.toNat : Nat) : Int) = a by omega] at t
    rcases hn with rfl | rfl | rfl | rfl
    · exact t.1
    · exact t.2.1
    · exact t.2.2.1
    · exact t.2.2.2
  · have t := key.2 ⟨a.toNat, by omega⟩
    simp only [show ((a.toNat : Nat) : Int) = a by omega] at t
    exact t
theorem regname_tells {a n : Int} {L : List ByteArray} (hr : impl_isReg.f a n = some true) (h : impl_regNames.f 60 n = some L) (h0 : 0 ≤ a) (h1 : a < (L.length : Int)) : impl_RegName.f 107 a n = some (rdOf ByteArray.empty L a) := by
  unfold impl_RegName.f
  rw [hr, Option.bind_some, if_pos rfl, regs_at h (by omega), Option.bind_some, if_pos h0, if_pos h1]
theorem reg_back (a n : Int) (hn : n = 1 ∨ n = 2 ∨ n = 4 ∨ n = 8) (h : 0 ≤ a ∧ a ≤ 15 ∨ n = 1 ∧ 16 ≤ a ∧ a ≤ 19) : ∃ t, impl_RegName.f 107 a n = some t ∧ impl_RegOf.f 107 t = some (a, n, 0) := by
  have hr := isReg_at a n hn h
  rcases hn with rfl | rfl | rfl | rfl
  · have t := look1 ⟨a.toNat, by omega⟩
    simp only [show ((a.toNat : Nat) : Int) = a by omega] at t
    exact ⟨_, regname_tells hr e1 (by omega) (by rw [n1]; omega), by rw [regof_tells _ t.2, t.1]⟩
  · have t := look2 ⟨a.toNat, by omega⟩
    simp only [show ((a.toNat : Nat) : Int) = a by omega] at t
    exact ⟨_, regname_tells hr e2 (by omega) (by rw [n2]; omega), by rw [regof_tells _ t.2, t.1]⟩
  · have t := look4 ⟨a.toNat, by omega⟩
    simp only [show ((a.toNat : Nat) : Int) = a by omega] at t
    exact ⟨_, regname_tells hr e4 (by omega) (by rw [n4]; omega), by rw [regof_tells _ t.2, t.1]⟩
  · have t := look8 ⟨a.toNat, by omega⟩
    simp only [show ((a.toNat : Nat) : Int) = a by omega] at t
    exact ⟨_, regname_tells hr e8 (by omega) (by rw [n8]; omega), by rw [regof_tells _ t.2, t.1]⟩
/-! The law -/
theorem j5_holds (op cond size reg c : Int) (o0 : 1 ≤ op) (o1 : op ≤ 44) (c0 : 0 ≤ cond) (c1 : cond ≤ 15) : laws_FnNames.j5 105 op cond size reg reg size 0 c 0 c = some true := by
  obtain ⟨t, e1, e2, e3⟩ := op_back op o0 o1
  obtain ⟨u, f1, f2, f3⟩ := cond_back cond c0 c1
  rw [laws_FnNames.j5, e1, Option.bind_some, e3, Option.bind_some, if_pos rfl, Option.bind_some, e2, Option.bind_some, if_pos rfl, f1, Option.bind_some, f3, Option.bind_some, if_pos rfl, Option.bind_some, f2, Option.bind_some, if_pos rfl, if_pos rfl, if_pos rfl, if_pos rfl, if_pos rfl]
  simp
theorem j4_holds {l : List Int} (hl : ∀ x ∈ l, (Lit.int .u8 x).wf = true) (hlen : l.length ≤ 140737488351232) (op cond size reg c : Int) (o0 : 1 ≤ op) (o1 : op ≤ 44) (c0 : 0 ≤ cond) (c1 : cond ≤ 15) (b : Bool) (r1 r2 r3 : Int) (r4 : Bool) (r5 : Int) : laws_FnNames.j4 106 l op cond size reg reg size 0 c 0 c b r1 r2 r3 r4 r5 = some true := by
  have J := j5_holds op cond size reg c o0 o1 c0 c1
  rw [laws_FnNames.j4]
  cases b with
  | false => rw [if_neg (by simp)]; exact J
  | true =>
    obtain ⟨x, e, _, _⟩ := at_tells hl hlen 4 (by omega) (by omega) (n := 8) (by omega) (by omega)
    obtain ⟨g, g1, g2⟩ := group_back r3 x
    rw [if_pos rfl, e, Option.bind_some, g1, Option.bind_some, Option.bind_some, g2, Option.bind_some, if_pos rfl, if_pos rfl]
    exact J
theorem j3_holds {l : List Int} (hl : ∀ x ∈ l, (Lit.int .u8 x).wf = true) (hlen : l.length ≤ 140737488351232) (op cond size reg c : Int) (o0 : 1 ≤ op) (o1 : op ≤ 44) (c0 : 0 ≤ cond) (c1 : cond ≤ 15) (d r1 r2 r3 : Int) (r4 : Bool) (r5 : Int) : laws_FnNames.j3 107 l op cond size reg reg size 0 c 0 c d false r1 r2 r3 r4 r5 = some true := by
  rw [laws_FnNames.j3, if_neg (by simp)]
  split
  · exact j4_holds hl hlen op cond size reg c o0 o1 c0 c1 _ _ _ _ _ _
  · exact j4_holds hl hlen op cond size reg c o0 o1 c0 c1 _ _ _ _ _ _
theorem j2_holds {l : List Int} (hl : ∀ x ∈ l, (Lit.int .u8 x).wf = true) (hlen : l.length ≤ 140737488351232) (op cond size reg : Int) (o0 : 1 ≤ op) (o1 : op ≤ 44) (c0 : 0 ≤ cond) (c1 : cond ≤ 15) (hn : size = 1 ∨ size = 2 ∨ size = 4 ∨ size = 8) (h : 0 ≤ reg ∧ reg ≤ 15 ∨ size = 1 ∧ 16 ≤ reg ∧ reg ≤ 19) : laws_FnNames.j2 108 l op cond size reg = some true := by
  obtain ⟨t, e1, e2⟩ := reg_back reg size hn h
  obtain ⟨c, f1, f2⟩ := class_back op o0 o1
  obtain ⟨x, g1, _, _⟩ := at_tells hl hlen 2 (by omega) (by omega) (n := 2) (by omega) (by omega)
  obtain ⟨y, g2, y0, y1⟩ := at_tells hl hlen 3 (by omega) (by omega) (n := 256) (by omega) (by omega)
  obtain ⟨z, p1, p2⟩ := shape_back (x == 1) y y0 y1
  rw [laws_FnNames.j2, e1, Option.bind_some, e2, Option.bind_some, f1, Option.bind_some, f2, Option.bind_some, g1, Option.bind_some, g2, Option.bind_some, p1, Option.bind_some, Option.bind_some, Option.bind_some, p2, Option.bind_some]
  rw [if_neg (by simp), show (z.2.2.2.2.2 != z.2.2.2.2.2) = false by simp]
  exact j3_holds hl hlen op cond size reg c o0 o1 c0 c1 _ _ _ _ _ _
theorem j1_holds {l : List Int} (hl : ∀ x ∈ l, (Lit.int .u8 x).wf = true) (hlen : l.length ≤ 140737488351232) (op cond size reg : Int) (o0 : 1 ≤ op) (o1 : op ≤ 44) (c0 : 0 ≤ cond) (c1 : cond ≤ 15) (hn : size = 1 ∨ size = 2 ∨ size = 4 ∨ size = 8) (h0 : 0 ≤ reg) (h1 : reg ≤ 15) (b : Bool) (hb : b = true → size = 1) : laws_FnNames.j1 109 l op cond size reg b = some true := by
  rw [laws_FnNames.j1]
  cases b with
  | false => rw [if_neg (by simp)]; exact j2_holds hl hlen op cond size reg o0 o1 c0 c1 hn (.inl ⟨h0, h1⟩)
  | true =>
    obtain ⟨x, e, x0, x1⟩ := at_tells hl hlen 1 (by omega) (by omega) (n := 4) (by omega) (by omega)
    rw [if_pos rfl, e, Option.bind_some, w64_in (n := 16 + x) (by omega) (by omega)]
    exact j2_holds hl hlen op cond size _ o0 o1 c0 c1 hn (.inr ⟨hb rfl, by omega, by omega⟩)
theorem j0_holds {l m : List Int} (hl : ∀ x ∈ l, (Lit.int .u8 x).wf = true) (hlen : l.length ≤ 140737488351232) (hm : ∀ x ∈ m, (Lit.int .u8 x).wf = true) (hmlen : m.length ≤ 140737488351232) : laws_FnNames.j0 110 l m false = some true := by
  rw [laws_FnNames.j0, if_neg (by simp)]
  obtain ⟨o, e1, o0, o1⟩ := at_tells hm hmlen 0 (by omega) (by omega) (n := 44) (by omega) (by omega)
  obtain ⟨c, e2, c0, c1⟩ := at_tells hm hmlen 1 (by omega) (by omega) (n := 16) (by omega) (by omega)
  obtain ⟨s, e3, hs⟩ := size_tells hm hmlen 2 (by omega) (by omega)
  obtain ⟨r, e4, r0, r1⟩ := at_tells hm hmlen 3 (by omega) (by omega) (n := 16) (by omega) (by omega)
  rw [e1, Option.bind_some, e2, Option.bind_some, e3, Option.bind_some, e4, Option.bind_some, w64_in (n := 1 + o) (by omega) (by omega)]
  by_cases h : s = 1
  · obtain ⟨x, e5, _, _⟩ := at_tells hl hlen 0 (by omega) (by omega) (n := 3) (by omega) (by omega)
    rw [if_pos h, e5, Option.bind_some]
    exact j1_holds hl hlen _ c s r (by omega) (by omega) c0 (by omega) hs r0 (by omega) _ (fun _ => h)
  · rw [if_neg h]
    exact j1_holds hl hlen _ c s r (by omega) (by omega) c0 (by omega) hs r0 (by omega) _ (fun x => absurd x (by simp))
theorem FnNames : laws_FnNames.Pure := by
  intro l0 l1 _ h0 w0 _ h1 w1
  refine ⟨110, ?_⟩
  unfold laws_FnNames.f
  by_cases a : (l0.length : Int) > 1048576
  · rw [if_pos a, laws_FnNames.j0, if_pos rfl]
  rw [if_neg a]
  by_cases b : (l1.length : Int) > 1048576
  · rw [decide_eq_true b, laws_FnNames.j0, if_pos rfl]
  · rw [decide_eq_false b]
    exact j0_holds w0 (by omega) w1 (by omega)
end Go.Proofs.YtkaffpbclanoeaaDoor.Pure
