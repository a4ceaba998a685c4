/- The law of SetReg. -/
import Derived.Test.YtgipadecllofkaaPFnExactSetRegx2
import Derived.Test.YtgipadecllofkaaNumD
import Derived.Test.YtgipadecllofkaaNumH
namespace Go.Proofs.Ytgipadecllofkaa.Pure
open Go.RowKit Go.Proofs.Ytgipadecllofkaa.PFnExactSetReg Go.Proofs.YtgipadecllofkaaW.PrintWords Go.Proofs.YtgipadecllofkaaW.PrintLast Go.Proofs.YtgipadecllofkaaW.PrintMore Go.Proofs.Ytgipadecllofkaa.Num
set_option linter.unusedVariables false
set_option linter.unusedSimpArgs false

theorem and_self_le {a : Int} (h0 : 0 ≤ a) (ha : a ≤ 9223372036854775807) (h : Go.bits .and .i64 a 2245 = a) : a ≤ 2245 := by
  have h1 := congrArg un h
  rw [un_and] at h1
  have h2 : un 2245 = 2245 := rfl
  have h3 : un a &&& un 2245 ≤ un 2245 := Nat.and_le_right
  rw [h1, h2] at h3
  unfold un at h3; omega
theorem flags_small : ∀ i : Fin 2246, (Go.bits .and .i64 (i.val : Int) 2245 = (i.val : Int)) → ((i.val : Int) = Go.bits .and .i64 (i.val : Int) 2245) := fun _ h => h.symm
/-- Right flags: of five bits alone. -/
def FlOK (f : Int) : Prop := 0 ≤ f ∧ Go.bits .and .i64 f 2245 = f
instance (f : Int) : Decidable (FlOK f) := by unfold FlOK; infer_instance
theorem flags_spec (f : Int) : spec_l06Flags.f f = some (decide (FlOK f)) := by
  unfold spec_l06Flags.f FlOK
  by_cases h : f ≥ 0
  · have h' : 0 ≤ f := h
    rw [if_pos h]
    simp [h', Bool.beq_eq_decide_eq]
  · have h' : ¬ 0 ≤ f := h
    rw [if_neg h]
    simp [h']
theorem and_not_mask (F M : Nat) (hF : F < 2 ^ 64) (hM : M < 2 ^ 64) : (F &&& (18446744073709551615 - M) = 0) ↔ (F &&& M = F) := by
  have e : ∀ i, (18446744073709551615 - M).testBit i = (decide (i < 64) && !M.testBit i) := by
    intro i
    have h := Nat.testBit_two_pow_sub_succ hM i
    rw [show 2 ^ 64 - (M + 1) = 18446744073709551615 - M by omega] at h
    exact h
  constructor
  · intro h
    apply Nat.eq_of_testBit_eq
    intro i
    rw [Nat.testBit_and]
    have h1 := congrArg (fun n => Nat.testBit n i) h
    simp only [Nat.testBit_and, e, Nat.zero_testBit] at h1
    by_cases hi : i < 64
    · cases hf : F.testBit i <;> cases hm : M.testBit i <;> simp_all
    · rw [Nat.testBit_lt_two_pow (Nat.lt_of_lt_of_le hF (Nat.pow_le_pow_right (by decide) (by omega)))]
      rfl
  · intro h
    apply Nat.eq_of_testBit_eq
    intro i
    rw [Nat.testBit_and, e, Nat.zero_testBit]
    have h1 := congrArg (fun n => Nat.testBit n i) h
    simp only [Nat.testBit_and] at h1
    cases hf : F.testBit i <;> cases hm : M.testBit i <;> simp_all
theorem flagsOK_iff {f : Int} (hf : -9223372036854775808 ≤ f ∧ f ≤ 9223372036854775807) : (Go.bits .andNot .i64 f 2245 = 0) ↔ FlOK f := by
  have hu := un_lt f
  have hM : un 2245 = 2245 := rfl
  have key := and_not_mask (un f) 2245 hu (by decide)
  have e1 : Go.bits .andNot .i64 f 2245 = wrap64 ((un f &&& (18446744073709551615 - 2245) : Nat) : Int) := by rw [andNot_un, hM]
  have hlt : un f &&& (18446744073709551615 - 2245) < 18446744073709551616 := Nat.and_lt_two_pow (n := 64) _ (by decide)
  have l1 : Go.bits .andNot .i64 f 2245 = 0 ↔ un f &&& (18446744073709551615 - 2245) = 0 := by
    rw [e1]
    constructor
    · intro h
      have h2 := congrArg un h
      rw [un_wnat hlt] at h2
      exact h2
    · intro h; rw [h]; exact w64_in (n := ((0 : Nat) : Int)) (by omega) (by omega)
  have l2 : FlOK f ↔ un f &&& 2245 = un f := by
    constructor
    · rintro ⟨h0, h⟩
      have h2 := congrArg un h
      rw [un_and, hM] at h2
      exact h2
    · intro h
      have h3 : un f &&& 2245 ≤ 2245 := Nat.and_le_right
      rw [h] at h3
      refine ⟨by unfold un at h3; omega, ?_⟩
      rw [and_un, hM, h]
      exact (eq_wrap hf).symm
  rw [l1, l2, key]
theorem areFlags_impl {f : Int} (hf : -9223372036854775808 ≤ f ∧ f ≤ 9223372036854775807) : impl_areFlags.f f = some (decide (FlOK f)) := by
  unfold impl_areFlags.f
  rw [Bool.beq_eq_decide_eq, decide_eq_decide.mpr (flagsOK_iff hf)]
theorem carry_of {f : Int} (hf : FlOK f) : ∃ c : Nat, c ≤ 1 ∧ Go.bits .and .i64 f 1 = (c : Int) := by
  refine ⟨(f % 2).toNat, by omega, ?_⟩
  have h := and_mask f 1 (by decide)
  rw [show ((2 : Int) ^ 1 - 1) = 1 from rfl] at h
  rw [h]
  show f % 2 = _
  omega
theorem size_spec (s : Int) : spec_l01Size.f s = some (decide (Sz s)) := by
  unfold spec_l01Size.f Sz
  by_cases h1 : s = 1 <;> by_cases h2 : s = 2 <;> by_cases h4 : s = 4 <;> by_cases h8 : s = 8 <;> simp_all
theorem size_impl (s : Int) : impl_isSize.f s = some (decide (Sz s)) := size_spec s
theorem bit_spec (a i : Int) (h0 : 0 ≤ i) (h1 : i < 64) : spec_l01Bit.f a i = some (bit a i) := by
  unfold spec_l01Bit.f
  have hi : IntKind.u64.wrap i = i := u64_in h0 (by omega)
  have ha : IntKind.u64.wrap a = (un a : Int) := by rw [IntKind.wrap_u64, un_eq]
  rw [hi, if_pos h0, ha, shr_u64 _ _ (by omega) h0 h1, Int.toNat_natCast]
  unfold bit
  have e : Int.tmod ((un a / 2 ^ i.toNat : Nat) : Int) 2 = ((un a / 2 ^ i.toNat % 2 : Nat) : Int) := by
    rw [Int.tmod_eq_emod_of_nonneg (Int.natCast_nonneg _)]; rfl
  rw [e]
  rcases Nat.mod_two_eq_zero_or_one (un a / 2 ^ i.toNat) with h | h <;> rw [h] <;> simp
theorem zero_loop (a : Int) (n : Nat) (hn : n ≤ 64) : ∀ (j k : Nat), j ≤ n → j < k →
    spec_l01Zero.l0 k a ((un a % 2 ^ n / 2 ^ j : Nat) : Int) ((j : Int) - 1) = some (wrap64 ((un a % 2 ^ n : Nat) : Int))
  | j, 0, _, hk => by omega
  | 0, k + 1, _, _ => by
    simp only [spec_l01Zero.l0]
    rw [if_neg (by omega)]
    simp
  | j + 1, k + 1, hj, hk => by
    simp only [spec_l01Zero.l0]
    rw [if_pos (by omega), show ((j + 1 : Nat) : Int) - 1 = (j : Int) by omega, bit_spec _ _ (by omega) (by omega)]
    simp only [Option.bind_some]
    have hl := un_lt' a
    have h2 : un a % 2 ^ n ≤ un a := Nat.mod_le _ _
    have h3 := half_step (un a % 2 ^ n) j
    have h4 := mod_bit (un a) n j (by omega)
    have h5 : un a % 2 ^ n / 2 ^ j ≤ un a % 2 ^ n := Nat.div_le_self _ _
    have e : IntKind.u64.wrap (IntKind.u64.wrap (2 * ((un a % 2 ^ n / 2 ^ (j + 1) : Nat) : Int)) + IntKind.u64.wrap (bit a (j : Int))) = ((un a % 2 ^ n / 2 ^ j : Nat) : Int) := by
      unfold bit
      rw [Int.toNat_natCast, ← h4]
      rw [u64_in (n := 2 * _) (by omega) (by omega), u64_in (n := ((un a % 2 ^ n / 2 ^ j % 2 : Nat) : Int)) (by omega) (by omega), u64_in (by omega) (by omega)]
      omega
    rw [e, show wrap64 ((j : Int) - 1) = (j : Int) - 1 from w64_in (by omega) (by omega)]
    exact zero_loop a n hn j k (by omega) (by omega)
theorem zero_spec {k : Nat} {a s : Int} (hs : Sz s) (ha : -9223372036854775808 ≤ a ∧ a ≤ 9223372036854775807) (hk : 64 < k) : spec_l01Zero.f k a s = some (zeroZ a s) := by
  unfold spec_l01Zero.f
  have h8 : 0 ≤ 8 * s ∧ 8 * s ≤ 64 := by rcases hs with rfl | rfl | rfl | rfl <;> omega
  rw [w64_in (n := 8 * s) (by omega) (by omega), w64_in (by omega) (by omega), ← zeroZ_un hs ha]
  have h := zero_loop a (8 * s).toNat (by omega) (8 * s).toNat k (by omega) (by omega)
  rw [show un a % 2 ^ (8 * s).toNat / 2 ^ (8 * s).toNat = 0 from Nat.div_eq_of_lt (Nat.mod_lt _ (Nat.two_pow_pos _)), show (((8 * s).toNat : Nat) : Int) = 8 * s by omega] at h
  exact h
theorem zero_impl {a s : Int} (hs : Sz s) : impl_zero.f a s = some (zeroZ a s) := by
  unfold impl_zero.f
  rcases hs with rfl | rfl | rfl | rfl
  · rw [if_neg (by omega), if_pos (by unfold wrap64; omega), show wrap64 (shl .i64 1 (wrap64 (8 * 1)) - 1) = 2 ^ 8 - 1 by decide +kernel, and_mask _ _ (by decide)]; rfl
  · rw [if_neg (by omega), if_pos (by unfold wrap64; omega), show wrap64 (shl .i64 1 (wrap64 (8 * 2)) - 1) = 2 ^ 16 - 1 by decide +kernel, and_mask _ _ (by decide)]; rfl
  · rw [if_neg (by omega), if_pos (by unfold wrap64; omega), show wrap64 (shl .i64 1 (wrap64 (8 * 4)) - 1) = 2 ^ 32 - 1 by decide +kernel, and_mask _ _ (by decide)]; rfl
  · rw [if_pos rfl]; rfl
theorem in_spec (a lo hi : Int) : spec_l01In.f a lo hi = some (decide (lo ≤ a ∧ a ≤ hi)) := by
  unfold spec_l01In.f
  by_cases h : a ≥ lo
  · rw [if_pos h]; congr 1; exact decide_eq_decide.mpr ⟨fun g => ⟨h, g⟩, fun g => g.2⟩
  · rw [if_neg h]; congr 1; exact (decide_eq_false (fun g => h g.1)).symm
theorem in_impl (a lo hi : Int) : impl_within.f a lo hi = some (decide (lo ≤ a ∧ a ≤ hi)) := in_spec a lo hi
/-- A register that there is, of that size. -/
def RegOK (a s : Int) : Prop := Sz s ∧ 0 ≤ a ∧ (a ≤ 15 ∨ (s = 1 ∧ a ≤ 19))
instance (a s : Int) : Decidable (RegOK a s) := by unfold RegOK; infer_instance
theorem regOK_spec (a s : Int) : spec_l07RegOK.f a s = some (decide (RegOK a s)) := by
  unfold spec_l07RegOK.f
  rw [size_spec, Option.bind_some]
  by_cases hs : Sz s
  · rw [if_pos (by simpa using hs), in_spec, Option.bind_some]
    by_cases h1 : 0 ≤ a ∧ a ≤ 15
    · rw [if_pos (by simpa using h1), decide_eq_true (show RegOK a s from ⟨hs, h1.1, Or.inl h1.2⟩)]
    · rw [if_neg (by simpa using h1)]
      by_cases h2 : s = 1
      · rw [if_pos h2, in_spec, Option.bind_some]
        congr 1
        exact decide_eq_decide.mpr (show (16 ≤ a ∧ a ≤ 19) ↔ RegOK a s from ⟨fun g => ⟨hs, by omega, Or.inr ⟨h2, g.2⟩⟩, fun g => by obtain ⟨_, g1, g2⟩ := g; omega⟩)
      · rw [if_neg h2, decide_eq_false (fun g : RegOK a s => by obtain ⟨_, g1, g2⟩ := g; omega)]
  · rw [if_neg (by simpa using hs), decide_eq_false (fun g : RegOK a s => hs g.1)]
theorem regOK_impl (a s : Int) : impl_isReg.f a s = some (decide (RegOK a s)) := by
  rw [← regOK_spec]
  have hh : impl_isHigh.f a = spec_l01In.f a 16 19 := by unfold impl_isHigh.f; rw [in_impl, in_spec]; rfl
  unfold impl_isReg.f spec_l07RegOK.f
  rw [hh]
  rfl
theorem rd_range {x : List Int} (hw : ∀ n ∈ x, (Lit.int .i64 n).wf = true) (i : Int) : -9223372036854775808 ≤ rdOf 0 x i ∧ rdOf 0 x i ≤ 9223372036854775807 := by
  unfold rdOf
  rw [List.getD_eq_getElem?_getD]
  cases h : x[i.toNat]? with
  | none => simp
  | some n => exact wf_i64 (hw n (List.mem_of_getElem? h))

theorem u64_un (v : Int) : IntKind.u64.wrap v = ((un v : Nat) : Int) := by rw [IntKind.wrap_u64]; unfold un; omega
theorem un_u64 (v : Int) : un (IntKind.u64.wrap v) = un v := by rw [u64_un]; exact un_nat (un_lt' v)
theorem or_u64 (a b : Int) : Go.bits .or .u64 a b = ((un a ||| un b : Nat) : Int) := by
  show IntKind.u64.wrap ((BitVec.ofInt 64 a ||| BitVec.ofInt 64 b).toNat : Int) = _
  rw [BitVec.toNat_or, un_bv, un_bv]
  have := Nat.or_lt_two_pow (un_lt a) (un_lt b)
  exact u64_in (by omega) (by omega)
theorem andNot_u64 (a b : Int) : Go.bits .andNot .u64 a b = ((un a &&& (18446744073709551615 - un b) : Nat) : Int) := by
  show IntKind.u64.wrap ((BitVec.ofInt 64 a &&& ~~~(BitVec.ofInt 64 b)).toNat : Int) = _
  rw [BitVec.toNat_and, BitVec.toNat_not, un_bv, un_bv]
  have : un a &&& (18446744073709551615 - un b) ≤ un a := Nat.and_le_left
  have := un_lt' a
  show IntKind.u64.wrap ((un a &&& (18446744073709551615 - un b) : Nat) : Int) = _
  exact u64_in (by omega) (by omega)
theorem keep_high (U n : Nat) (hU : U < 2 ^ 64) (hn : n ≤ 64) : U &&& (18446744073709551615 - (2 ^ n - 1)) = 2 ^ n * (U / 2 ^ n) := by
  have hp : 2 ^ n ≤ 2 ^ 64 := Nat.pow_le_pow_right (by decide) hn
  have hpos : 0 < 2 ^ n := Nat.two_pow_pos n
  apply Nat.eq_of_testBit_eq
  intro i
  have h := Nat.testBit_two_pow_sub_succ (show 2 ^ n - 1 < 2 ^ 64 by omega) i
  rw [show 2 ^ 64 - (2 ^ n - 1 + 1) = 18446744073709551615 - (2 ^ n - 1) by omega] at h
  rw [Nat.testBit_and, h, Nat.testBit_two_pow_sub_one, Nat.testBit_two_pow_mul, Nat.testBit_div_two_pow]
  by_cases c : i < n
  · have c' : ¬ n ≤ i := by omega
    simp [c, c']
  · have c' : n ≤ i := by omega
    by_cases c2 : i < 64
    · simp [c, c', c2, show i - n + n = i by omega]
    · have : U.testBit i = false := Nat.testBit_lt_two_pow (Nat.lt_of_lt_of_le hU (Nat.pow_le_pow_right (by decide) (by omega)))
      simp [c, c', show i - n + n = i by omega, this]
theorem low1_eq (v z : Int) (h0 : 0 ≤ z) (h1 : z < 256) :
    wrap64 (Go.bits BinOp.or IntKind.u64 (Go.bits BinOp.andNot IntKind.u64 (IntKind.u64.wrap v) 255) (IntKind.u64.wrap (IntKind.u64.wrap z))) = wrap64 (v + wrap64 (z - zeroZ v 1)) := by
  have hb := un_lt' v
  have hk := keep_high (un v) 8 (un_lt v) (by omega)
  have e255 : un 255 = 2 ^ 8 - 1 := rfl
  have hz : un z = z.toNat := by unfold un; omega
  have hlt : 2 ^ 8 * (un v / 2 ^ 8) < 18446744073709551616 := by omega
  have ho := Nat.two_pow_add_eq_or_of_lt (i := 8) (b := z.toNat) (by omega) (un v / 2 ^ 8)
  rw [or_u64, andNot_u64, un_u64, un_u64, un_u64, e255, hk, un_nat hlt, hz, ← ho, zeroZ_one]
  have hv : ((un v : Nat) : Int) = v % 18446744073709551616 := un_eq v
  generalize un v = U at *
  unfold wrap64
  omega
theorem low2_eq (v z : Int) (h0 : 0 ≤ z) (h1 : z < 65536) :
    wrap64 (Go.bits BinOp.or IntKind.u64 (Go.bits BinOp.andNot IntKind.u64 (IntKind.u64.wrap v) 65535) (IntKind.u64.wrap (IntKind.u64.wrap z))) = wrap64 (v + wrap64 (z - zeroZ v 2)) := by
  have hb := un_lt' v
  have hk := keep_high (un v) 16 (un_lt v) (by omega)
  have e255 : un 65535 = 2 ^ 16 - 1 := rfl
  have hz : un z = z.toNat := by unfold un; omega
  have hlt : 2 ^ 16 * (un v / 2 ^ 16) < 18446744073709551616 := by omega
  have ho := Nat.two_pow_add_eq_or_of_lt (i := 16) (b := z.toNat) (by omega) (un v / 2 ^ 16)
  rw [or_u64, andNot_u64, un_u64, un_u64, un_u64, e255, hk, un_nat hlt, hz, ← ho, zeroZ_two]
  have hv : ((un v : Nat) : Int) = v % 18446744073709551616 := un_eq v
  generalize un v = U at *
  unfold wrap64
  omega
theorem high_set (v z : Int) (h0 : 0 ≤ z) (h1 : z < 256) :
    wrap64 (Go.bits BinOp.or IntKind.u64 (Go.bits BinOp.andNot IntKind.u64 (IntKind.u64.wrap v) 65280) (IntKind.u64.wrap (IntKind.u64.wrap z * 256))) = Go.bits BinOp.or IntKind.i64 (Go.bits BinOp.andNot IntKind.i64 v 65280) (IntKind.i64.wrap (z * 256)) := by
  have hle : un v &&& (18446744073709551615 - un 65280) ≤ un v := Nat.and_le_left
  have hb := un_lt' v
  rw [or_u64, andNot_u64, un_u64, un_u64, or_un, andNot_un, un_nat (by omega), un_wnat (by omega), i64_wrap, un_w64, u64_in (n := z) (by omega) (by omega)]
theorem zero1_range (v : Int) : 0 ≤ zeroZ v 1 ∧ zeroZ v 1 < 256 := by rw [zeroZ_one]; omega
theorem zero2_range (v : Int) : 0 ≤ zeroZ v 2 ∧ zeroZ v 2 < 65536 := by rw [zeroZ_two]; omega
/-- The walk, at what has been shown. -/
theorem FnExactSetReg_walk (W : World) (x : List Int) (p q a s v : Int) (hx : x.length = 16) (hw : ∀ n ∈ x, (Lit.int .i64 n).wf = true) (_wp : (Lit.int .i64 p).wf = true) (wq : (Lit.int .i64 q).wf = true) (_wa : (Lit.int .i64 a).wf = true) (_ws : (Lit.int .i64 s).wf = true) (wv : (Lit.int .i64 v).wf = true) :
    Calls Try.prog 7 #[.agg (cellsI (x ++ [p, q])), .int .i64 a, .int .i64 s, .int .i64 v] W fun e W' => e = .returned (.bool true) ∧ Below W.heap.size W W' := by
  have fs := flags_spec q
  have fi := areFlags_impl (wf_i64 wq)
  have rs := regOK_spec a s
  have ri := regOK_impl a s
  by_cases f : FlOK q
  · rw [decide_eq_true f] at fs fi
    by_cases g : RegOK a s
    · rw [decide_eq_true g] at rs ri
      obtain ⟨hs, h0, h1⟩ := g
      have key : ∃ (i : Nat) (hi : i < 16) (n : Int),
          (∀ W : World, Calls Try.prog 56 #[.agg (cellsI (x ++ [p, q])), .int .i64 a, .int .i64 s, .int .i64 v] W fun e w' => e = .returned (.agg (cellsI (x.set i n ++ [p, q]))) ∧ Below W.heap.size W w') ∧
          (∀ (g : Nat) (W : World), W.heap[g]? = some (.cells (cellsI (x ++ [p, q])) 40 (0, 0)) → Calls Try.prog 57 #[.pointer (some ⟨g, 0, none⟩), .int .i64 a, .int .i64 s, .int .i64 v] W fun e w' => e = .returned (.tuple #[]) ∧ ∃ w2, Below W.heap.size W w2 ∧ w' = w2.setCell ⟨g, i, none⟩ (.int .i64 n)) := by
        by_cases c : a < 16
        · obtain ⟨i, rfl⟩ := Int.eq_ofNat_of_zero_le h0
          have hi : i < 16 := by omega
          have hzs : spec_l01Zero.f 100 v s = some (zeroZ v s) := zero_spec hs (wf_i64 wv) (by omega)
          have hzi : impl_zero.f v s = some (zeroZ v s) := zero_impl hs
          by_cases c4 : 4 ≤ s
          · exact ⟨i, hi, zeroZ v s, fun W => spec_l07Set.big 100 x p q hx i hi s v _ c4 W hzs, fun g W hg => impl_Cpu_set.big x p q hx i hi s v _ c4 g W hg hzi⟩
          · have hlow := fun g W hg => impl_Cpu_set.low x p q hx i hi s v (zeroZ v s) (by omega) (zeroZ (rdOf 0 x (i : Int)) s) (zero_impl hs) g W hg hzi
            refine ⟨i, hi, _, ?_, hlow⟩
            rcases (show s = 1 ∨ s = 2 by unfold Sz at hs; omega) with rfl | rfl
            · have hsp := fun W => spec_l07Set.one 100 x p q hx i hi v _ W hzs
              rw [low1_eq _ _ (zero1_range v).1 (zero1_range v).2] at hsp
              exact hsp
            · have hsp := fun W => spec_l07Set.two 100 x p q hx i hi v _ W hzs
              rw [low2_eq _ _ (zero2_range v).1 (zero2_range v).2] at hsp
              exact hsp
        · obtain ⟨i, rfl⟩ : ∃ i : Nat, a = (i : Int) + 16 := ⟨(a - 16).toNat, by omega⟩
          have h2 : s = 1 ∧ i < 4 := by omega
          obtain ⟨rfl, hi⟩ := h2
          have hzs : spec_l01Zero.f 100 v 1 = some (zeroZ v 1) := zero_spec hs (wf_i64 wv) (by omega)
          have hsp := fun W => spec_l07Set.high 100 x p q hx i (by omega) v _ W hzs
          rw [high_set _ _ (zero1_range v).1 (zero1_range v).2] at hsp
          exact ⟨i, by omega, _, hsp, fun g W hg => impl_Cpu_set.high x p q hx i hi 1 v (zeroZ v 1) g W hg (zero_impl hs)⟩
      obtain ⟨i, hi, n, hS, hI⟩ := key
      have hy : (x.set i n).length = 16 := by rw [List.length_set]; exact hx
      exact laws_FnExactSetReg.calls x p q hx a s v (x.set i n) p q hy 0 W (fun W => spec_SetReg.good x p q hx a s v W fs rs _ hy hS) (fun W => impl_SetReg.good x p q hx a s v W fi ri i hi n hI)
    · rw [decide_eq_false g] at rs ri
      exact laws_FnExactSetReg.calls x p q hx a s v (List.replicate 16 0) 0 0 rfl 4 W (fun W => spec_SetReg.bad4 x p q hx a s v W fs rs) (fun W => impl_SetReg.bad4 x p q hx a s v W fi ri)
  · rw [decide_eq_false f] at fs fi
    exact laws_FnExactSetReg.calls x p q hx a s v (List.replicate 16 0) 0 0 rfl 1 W (fun W => spec_SetReg.bad1 x p q hx a s v W fs) (fun W => impl_SetReg.bad1 x p q hx a s v W fi)

end Go.Proofs.Ytgipadecllofkaa.Pure
