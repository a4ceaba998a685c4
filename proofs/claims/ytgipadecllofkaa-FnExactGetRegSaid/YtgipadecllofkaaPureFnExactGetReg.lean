/- The law of GetReg. -/
import Derived.Test.YtgipadecllofkaaPFnExactGetRegx1
import Derived.Test.YtgipadecllofkaaNumD
import Derived.Test.YtgipadecllofkaaNumH
namespace Go.Proofs.Ytgipadecllofkaa.Pure
open Go.RowKit Go.Proofs.Ytgipadecllofkaa.PFnExactGetReg Go.Proofs.YtgipadecllofkaaW.PrintWords Go.Proofs.YtgipadecllofkaaW.PrintLast Go.Proofs.YtgipadecllofkaaW.PrintMore Go.Proofs.Ytgipadecllofkaa.Num
set_option linter.unusedVariables false
set_option linter.unusedSimpArgs false

theorem and_self_le {a : Int} (h0 : 0 ≤ a) (ha : a ≤ 9223372036854775807) (h : Go.bits .and .i64 a 2245 = a) : a ≤ 2245 := by
  have h1 := congrArg un h
  rw [un_and] at h1
  have h2 : un 2245 = 2245 := rfl
  have h3 : un a &&& un 2245 ≤ un 2245 := Nat.and_le_right
  rw [h1, h2] at h3
  unfold un at h3; omega
theorem flags_small : ∀ i : Fin 2246, (Go.bits .and .i64 (i.val : Int) 2245 = (i.val : Int)) → ((i.val : Int) = Go.bits .and .i64 (i.val : Int) 2245) := fun _ h => h.symm
/-- Right flags: of five bits alone. -/
def FlOK (f : Int) : Prop := 0 ≤ f ∧ Go.bits .and .i64 f 2245 = f
instance (f : Int) : Decidable (FlOK f) := by unfold FlOK; infer_instance
theorem flags_spec (f : Int) : spec_l06Flags.f f = some (decide (FlOK f)) := by
  unfold spec_l06Flags.f FlOK
  by_cases h : f ≥ 0
  · have h' : 0 ≤ f := h
    rw [if_pos h]
    simp [h', Bool.beq_eq_decide_eq]
  · have h' : ¬ 0 ≤ f := h
    rw [if_neg h]
    simp [h']
theorem and_not_mask (F M : Nat) (hF : F < 2 ^ 64) (hM : M < 2 ^ 64) : (F &&& (18446744073709551615 - M) = 0) ↔ (F &&& M = F) := by
  have e : ∀ i, (18446744073709551615 - M).testBit i = (decide (i < 64) && !M.testBit i) := by
    intro i
    have h := Nat.testBit_two_pow_sub_succ hM i
    rw [show 2 ^ 64 - (M + 1) = 18446744073709551615 - M by omega] at h
    exact h
  constructor
  · intro h
    apply Nat.eq_of_testBit_eq
    intro i
    rw [Nat.testBit_and]
    have h1 := congrArg (fun n => Nat.testBit n i) h
    simp only [Nat.testBit_and, e, Nat.zero_testBit] at h1
    by_cases hi : i < 64
    · cases hf : F.testBit i <;> cases hm : M.testBit i <;> simp_all
    · rw [Nat.testBit_lt_two_pow (Nat.lt_of_lt_of_le hF (Nat.pow_le_pow_right (by decide) (by omega)))]
      rfl
  · intro h
    apply Nat.eq_of_testBit_eq
    intro i
    rw [Nat.testBit_and, e, Nat.zero_testBit]
    have h1 := congrArg (fun n => Nat.testBit n i) h
    simp only [Nat.testBit_and] at h1
    cases hf : F.testBit i <;> cases hm : M.testBit i <;> simp_all
theorem flagsOK_iff {f : Int} (hf : -9223372036854775808 ≤ f ∧ f ≤ 9223372036854775807) : (Go.bits .andNot .i64 f 2245 = 0) ↔ FlOK f := by
  have hu := un_lt f
  have hM : un 2245 = 2245 := rfl
  have key := and_not_mask (un f) 2245 hu (by decide)
  have e1 : Go.bits .andNot .i64 f 2245 = wrap64 ((un f &&& (18446744073709551615 - 2245) : Nat) : Int) := by rw [andNot_un, hM]
  have hlt : un f &&& (18446744073709551615 - 2245) < 18446744073709551616 := Nat.and_lt_two_pow (n := 64) _ (by decide)
  have l1 : Go.bits .andNot .i64 f 2245 = 0 ↔ un f &&& (18446744073709551615 - 2245) = 0 := by
    rw [e1]
    constructor
    · intro h
      have h2 := congrArg un h
      rw [un_wnat hlt] at h2
      exact h2
    · intro h; rw [h]; exact w64_in (n := ((0 : Nat) : Int)) (by omega) (by omega)
  have l2 : FlOK f ↔ un f &&& 2245 = un f := by
    constructor
    · rintro ⟨h0, h⟩
      have h2 := congrArg un h
      rw [un_and, hM] at h2
      exact h2
    · intro h
      have h3 : un f &&& 2245 ≤ 2245 := Nat.and_le_right
      rw [h] at h3
      refine ⟨by unfold un at h3; omega, ?_⟩
      rw [and_un, hM, h]
      exact (eq_wrap hf).symm
  rw [l1, l2, key]
theorem areFlags_impl {f : Int} (hf : -9223372036854775808 ≤ f ∧ f ≤ 9223372036854775807) : impl_areFlags.f f = some (decide (FlOK f)) := by
  unfold impl_areFlags.f
  rw [Bool.beq_eq_decide_eq, decide_eq_decide.mpr (flagsOK_iff hf)]
theorem carry_of {f : Int} (hf : FlOK f) : ∃ c : Nat, c ≤ 1 ∧ Go.bits .and .i64 f 1 = (c : Int) := by
  refine ⟨(f % 2).toNat, by omega, ?_⟩
  have h := and_mask f 1 (by decide)
  rw [show ((2 : Int) ^ 1 - 1) = 1 from rfl] at h
  rw [h]
  show f % 2 = _
  omega
theorem size_spec (s : Int) : spec_l01Size.f s = some (decide (Sz s)) := by
  unfold spec_l01Size.f Sz
  by_cases h1 : s = 1 <;> by_cases h2 : s = 2 <;> by_cases h4 : s = 4 <;> by_cases h8 : s = 8 <;> simp_all
theorem size_impl (s : Int) : impl_isSize.f s = some (decide (Sz s)) := size_spec s
theorem bit_spec (a i : Int) (h0 : 0 ≤ i) (h1 : i < 64) : spec_l01Bit.f a i = some (bit a i) := by
  unfold spec_l01Bit.f
  have hi : IntKind.u64.wrap i = i := u64_in h0 (by omega)
  have ha : IntKind.u64.wrap a = (un a : Int) := by rw [IntKind.wrap_u64, un_eq]
  rw [hi, if_pos h0, ha, shr_u64 _ _ (by omega) h0 h1, Int.toNat_natCast]
  unfold bit
  have e : Int.tmod ((un a / 2 ^ i.toNat : Nat) : Int) 2 = ((un a / 2 ^ i.toNat % 2 : Nat) : Int) := by
    rw [Int.tmod_eq_emod_of_nonneg (Int.natCast_nonneg _)]; rfl
  rw [e]
  rcases Nat.mod_two_eq_zero_or_one (un a / 2 ^ i.toNat) with h | h <;> rw [h] <;> simp
theorem zero_loop (a : Int) (n : Nat) (hn : n ≤ 64) : ∀ (j k : Nat), j ≤ n → j < k →
    spec_l01Zero.l0 k a ((un a % 2 ^ n / 2 ^ j : Nat) : Int) ((j : Int) - 1) = some (wrap64 ((un a % 2 ^ n : Nat) : Int))
  | j, 0, _, hk => by omega
  | 0, k + 1, _, _ => by
    simp only [spec_l01Zero.l0]
    rw [if_neg (by omega)]
    simp
  | j + 1, k + 1, hj, hk => by
    simp only [spec_l01Zero.l0]
    rw [if_pos (by omega), show ((j + 1 : Nat) : Int) - 1 = (j : Int) by omega, bit_spec _ _ (by omega) (by omega)]
    simp only [Option.bind_some]
    have hl := un_lt' a
    have h2 : un a % 2 ^ n ≤ un a := Nat.mod_le _ _
    have h3 := half_step (un a % 2 ^ n) j
    have h4 := mod_bit (un a) n j (by omega)
    have h5 : un a % 2 ^ n / 2 ^ j ≤ un a % 2 ^ n := Nat.div_le_self _ _
    have e : IntKind.u64.wrap (IntKind.u64.wrap (2 * ((un a % 2 ^ n / 2 ^ (j + 1) : Nat) : Int)) + IntKind.u64.wrap (bit a (j : Int))) = ((un a % 2 ^ n / 2 ^ j : Nat) : Int) := by
      unfold bit
      rw [Int.toNat_natCast, ← h4]
      rw [u64_in (n := 2 * _) (by omega) (by omega), u64_in (n := ((un a % 2 ^ n / 2 ^ j % 2 : Nat) : Int)) (by omega) (by omega), u64_in (by omega) (by omega)]
      omega
    rw [e, show wrap64 ((j : Int) - 1) = (j : Int) - 1 from w64_in (by omega) (by omega)]
    exact zero_loop a n hn j k (by omega) (by omega)
theorem zero_spec {k : Nat} {a s : Int} (hs : Sz s) (ha : -9223372036854775808 ≤ a ∧ a ≤ 9223372036854775807) (hk : 64 < k) : spec_l01Zero.f k a s = some (zeroZ a s) := by
  unfold spec_l01Zero.f
  have h8 : 0 ≤ 8 * s ∧ 8 * s ≤ 64 := by rcases hs with rfl | rfl | rfl | rfl <;> omega
  rw [w64_in (n := 8 * s) (by omega) (by omega), w64_in (by omega) (by omega), ← zeroZ_un hs ha]
  have h := zero_loop a (8 * s).toNat (by omega) (8 * s).toNat k (by omega) (by omega)
  rw [show un a % 2 ^ (8 * s).toNat / 2 ^ (8 * s).toNat = 0 from Nat.div_eq_of_lt (Nat.mod_lt _ (Nat.two_pow_pos _)), show (((8 * s).toNat : Nat) : Int) = 8 * s by omega] at h
  exact h
theorem zero_impl {a s : Int} (hs : Sz s) : impl_zero.f a s = some (zeroZ a s) := by
  unfold impl_zero.f
  rcases hs with rfl | rfl | rfl | rfl
  · rw [if_neg (by omega), if_pos (by unfold wrap64; omega), show wrap64 (shl .i64 1 (wrap64 (8 * 1)) - 1) = 2 ^ 8 - 1 by decide +kernel, and_mask _ _ (by decide)]; rfl
  · rw [if_neg (by omega), if_pos (by unfold wrap64; omega), show wrap64 (shl .i64 1 (wrap64 (8 * 2)) - 1) = 2 ^ 16 - 1 by decide +kernel, and_mask _ _ (by decide)]; rfl
  · rw [if_neg (by omega), if_pos (by unfold wrap64; omega), show wrap64 (shl .i64 1 (wrap64 (8 * 4)) - 1) = 2 ^ 32 - 1 by decide +kernel, and_mask _ _ (by decide)]; rfl
  · rw [if_pos rfl]; rfl
theorem in_spec (a lo hi : Int) : spec_l01In.f a lo hi = some (decide (lo ≤ a ∧ a ≤ hi)) := by
  unfold spec_l01In.f
  by_cases h : a ≥ lo
  · rw [if_pos h]; congr 1; exact decide_eq_decide.mpr ⟨fun g => ⟨h, g⟩, fun g => g.2⟩
  · rw [if_neg h]; congr 1; exact (decide_eq_false (fun g => h g.1)).symm
theorem in_impl (a lo hi : Int) : impl_within.f a lo hi = some (decide (lo ≤ a ∧ a ≤ hi)) := in_spec a lo hi
/-- A register that there is, of that size. -/
def RegOK (a s : Int) : Prop := Sz s ∧ 0 ≤ a ∧ (a ≤ 15 ∨ (s = 1 ∧ a ≤ 19))
instance (a s : Int) : Decidable (RegOK a s) := by unfold RegOK; infer_instance
theorem regOK_spec (a s : Int) : spec_l07RegOK.f a s = some (decide (RegOK a s)) := by
  unfold spec_l07RegOK.f
  rw [size_spec, Option.bind_some]
  by_cases hs : Sz s
  · rw [if_pos (by simpa using hs), in_spec, Option.bind_some]
    by_cases h1 : 0 ≤ a ∧ a ≤ 15
    · rw [if_pos (by simpa using h1), decide_eq_true (show RegOK a s from ⟨hs, h1.1, Or.inl h1.2⟩)]
    · rw [if_neg (by simpa using h1)]
      by_cases h2 : s = 1
      · rw [if_pos h2, in_spec, Option.bind_some]
        congr 1
        exact decide_eq_decide.mpr (show (16 ≤ a ∧ a ≤ 19) ↔ RegOK a s from ⟨fun g => ⟨hs, by omega, Or.inr ⟨h2, g.2⟩⟩, fun g => by obtain ⟨_, g1, g2⟩ := g; omega⟩)
      · rw [if_neg h2, decide_eq_false (fun g : RegOK a s => by obtain ⟨_, g1, g2⟩ := g; omega)]
  · rw [if_neg (by simpa using hs), decide_eq_false (fun g : RegOK a s => hs g.1)]
theorem regOK_impl (a s : Int) : impl_isReg.f a s = some (decide (RegOK a s)) := by
  rw [← regOK_spec]
  have hh : impl_isHigh.f a = spec_l01In.f a 16 19 := by unfold impl_isHigh.f; rw [in_impl, in_spec]; rfl
  unfold impl_isReg.f spec_l07RegOK.f
  rw [hh]
  rfl
theorem rd_range {x : List Int} (hw : ∀ n ∈ x, (Lit.int .i64 n).wf = true) (i : Int) : -9223372036854775808 ≤ rdOf 0 x i ∧ rdOf 0 x i ≤ 9223372036854775807 := by
  unfold rdOf
  rw [List.getD_eq_getElem?_getD]
  cases h : x[i.toNat]? with
  | none => simp
  | some n => exact wf_i64 (hw n (List.mem_of_getElem? h))
theorem high_eq (v : Int) : zeroZ (wrap64 (shr .u64 (IntKind.u64.wrap v) 8)) 1 = zeroZ (shr .i64 v 8) 1 := by
  have h1 := lowByte_shr (a := v) (i := 1) (by omega)
  have h2 := lowByte_un (a := v) (i := 1) (by omega)
  rw [zeroZ_one, zeroZ_one]
  have e1 : (8 * ((1 : Nat) : Int)) = 8 := rfl
  have e2 : IntKind.u64.wrap 8 = 8 := rfl
  rw [e1] at h1 h2
  rw [e2] at h2
  rw [h1, ← h2]
  generalize shr .u64 (IntKind.u64.wrap v) 8 = z
  unfold wrap64
  omega
/-- What a register holds, as it is got. -/
def getZ (x : List Int) (a s : Int) : Int := if a < 16 then zeroZ (rdOf 0 x a) s else zeroZ (shr .i64 (rdOf 0 x (a - 16)) 8) 1
theorem get_spec {x : List Int} (hw : ∀ n ∈ x, (Lit.int .i64 n).wf = true) {a s : Int} (h : RegOK a s) {k : Nat} (hk : 64 < k) : spec_l07Get.f k x a s = some (getZ x a s) := by
  obtain ⟨hs, h0, h1⟩ := h
  unfold spec_l07Get.f getZ
  rw [if_pos h0]
  by_cases c : a < 16
  · rw [if_pos c, if_pos c, zero_spec hs (rd_range hw _) hk]
  · rw [if_neg c, if_neg c, if_pos (by omega), zero_spec (show Sz 1 by unfold Sz; omega) (w64_range _) hk, high_eq]
theorem get_impl {x : List Int} {a s : Int} (h : RegOK a s) : impl_Cpu_get.f x a s = some (getZ x a s) := by
  obtain ⟨hs, h0, h1⟩ := h
  unfold impl_Cpu_get.f getZ
  rw [if_pos h0]
  by_cases c : a < 16
  · rw [if_pos c, if_pos c, zero_impl hs]
  · rw [if_neg c, if_neg c, if_pos (by omega), zero_impl (show Sz 1 by unfold Sz; omega)]
theorem getReg_tells {x : List Int} (hw : ∀ n ∈ x, (Lit.int .i64 n).wf = true) {q : Int} (hq : (Lit.int .i64 q).wf = true) (a s : Int) : ∃ r c, spec_GetReg.f 100 x q a s = some (r, c) ∧ impl_GetReg.f x q a s = some (r, c) := by
  unfold spec_GetReg.f impl_GetReg.f
  rw [flags_spec, areFlags_impl (wf_i64 hq), Option.bind_some, Option.bind_some]
  by_cases f : FlOK q
  · rw [if_pos (by simpa using f), if_pos (by simpa using f), regOK_spec, regOK_impl, Option.bind_some, Option.bind_some]
    by_cases g : RegOK a s
    · rw [if_pos (by simpa using g), if_pos (by simpa using g), get_spec hw g (by omega), get_impl g]
      exact ⟨_, _, rfl, rfl⟩
    · rw [if_neg (by simpa using g), if_neg (by simpa using g)]
      exact ⟨_, _, rfl, rfl⟩
  · rw [if_neg (by simpa using f), if_neg (by simpa using f)]
    exact ⟨_, _, rfl, rfl⟩
/-- The walk, at what has been shown. -/
theorem FnExactGetReg_walk (W : World) (x : List Int) (p q a s : Int) (hx : x.length = 16) (hw : ∀ n ∈ x, (Lit.int .i64 n).wf = true) (_wp : (Lit.int .i64 p).wf = true) (wq : (Lit.int .i64 q).wf = true) (_wa : (Lit.int .i64 a).wf = true) (_ws : (Lit.int .i64 s).wf = true) :
    Calls Try.prog 5 #[.agg (cellsI (x ++ [p, q])), .int .i64 a, .int .i64 s] W fun e W' => e = .returned (.bool true) ∧ Below W.heap.size W W' := by
  obtain ⟨r, c, h1, h2⟩ := getReg_tells hw wq a s
  exact laws_FnExactGetReg.calls 100 x p q hx a s r c W h1 h2

end Go.Proofs.Ytgipadecllofkaa.Pure
