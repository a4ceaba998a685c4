/- The law of AddressOf. -/
import Derived.Test.YtgipadecllofkaaPFnExactAddressOfx3
import Derived.Test.YtgipadecllofkaaPFnExactAddressOfx4
import Derived.Test.YtgipadecllofkaaNumD
import Derived.Test.YtgipadecllofkaaNumH
namespace Go.Proofs.Ytgipadecllofkaa.Pure
open Go.RowKit Go.Proofs.Ytgipadecllofkaa.PFnExactAddressOf Go.Proofs.YtgipadecllofkaaW.PrintWords Go.Proofs.YtgipadecllofkaaW.PrintLast Go.Proofs.YtgipadecllofkaaW.PrintMore Go.Proofs.Ytgipadecllofkaa.Num
set_option linter.unusedVariables false
set_option linter.unusedSimpArgs false

theorem size_spec (s : Int) : spec_l01Size.f s = some (decide (Sz s)) := by
  unfold spec_l01Size.f Sz
  by_cases h1 : s = 1 <;> by_cases h2 : s = 2 <;> by_cases h4 : s = 4 <;> by_cases h8 : s = 8 <;> simp_all
theorem in_spec (n l h : Int) : spec_l01In.f n l h = some (decide (l ≤ n ∧ n ≤ h)) := by
  unfold spec_l01In.f
  by_cases a : n ≥ l <;> by_cases b : n ≤ h <;> simp [a, b] <;> omega
theorem within_impl (n l h : Int) : impl_within.f n l h = some (decide (l ≤ n ∧ n ≤ h)) := by
  unfold impl_within.f
  by_cases a : n ≥ l <;> by_cases b : n ≤ h <;> simp [a, b] <;> omega
theorem sign_impl {a s : Int} (hs : Sz s) (ha : -9223372036854775808 ≤ a ∧ a ≤ 9223372036854775807) : impl_sign.f a s = some (signZ a s) := by
  unfold impl_sign.f shl shr signZ
  rcases hs with rfl | rfl | rfl | rfl
  · rw [show wrap64 (64 - wrap64 (8 * 1)) = 56 by decide +kernel]
    simp only [i64_wrap, IntKind.bits, show min (Int.toNat 56) 64 = 56 from rfl]
    unfold wrap64
    simp
    omega
  · rw [show wrap64 (64 - wrap64 (8 * 2)) = 48 by decide +kernel]
    simp only [i64_wrap, IntKind.bits, show min (Int.toNat 48) 64 = 48 from rfl]
    unfold wrap64
    simp
    omega
  · rw [show wrap64 (64 - wrap64 (8 * 4)) = 32 by decide +kernel]
    simp only [i64_wrap, IntKind.bits, show min (Int.toNat 32) 64 = 32 from rfl]
    unfold wrap64
    simp
    omega
  · rw [show wrap64 (64 - wrap64 (8 * 8)) = 0 by decide +kernel]
    simp only [i64_wrap, IntKind.bits, show min (Int.toNat 0) 64 = 0 from rfl]
    unfold wrap64
    simp
    omega
/-- Right memory, of kind 2: register, base, index, scale, displacement, number. -/
def MemOK (r b i s d m : Int) : Prop := r = 0 ∧ m = 0 ∧ (-1 ≤ b ∧ b ≤ 16) ∧ (-1 ≤ i ∧ i ≤ 15) ∧ i ≠ 4 ∧ Sz s ∧ (-2147483648 ≤ d ∧ d ≤ 2147483647) ∧ (0 ≤ i ∨ s = 1) ∧ (b = 16 → i < 0)
instance (r b i s d m : Int) : Decidable (MemOK r b i s d m) := by unfold MemOK; infer_instance
theorem l04_mem (r b i s d m z : Int) : spec_l04Operand.f 2 r b i s d m z = some (decide (MemOK r b i s d m)) := by
  unfold spec_l04Operand.f
  rw [if_neg (by omega), if_pos rfl]
  by_cases h1 : r = 0
  rotate_left
  · rw [if_neg h1]; simp [MemOK, h1]
  rw [if_pos h1]
  by_cases h2 : m = 0
  rotate_left
  · rw [if_neg h2]; simp [MemOK, h2]
  rw [if_pos h2]
  simp only [in_spec, size_spec, Option.bind_some, decide_eq_true_eq]
  by_cases h3 : -1 ≤ b ∧ b ≤ 16
  rotate_left
  · rw [if_neg h3]; simp [MemOK, h3]
  rw [if_pos h3]
  by_cases h4 : -1 ≤ i ∧ i ≤ 15
  rotate_left
  · rw [if_neg h4]; simp [MemOK, h4]
  rw [if_pos h4]
  by_cases h5 : i = 4
  · rw [if_pos h5]; simp [MemOK, h5]
  rw [if_neg h5]
  by_cases h6 : Sz s
  rotate_left
  · rw [if_neg h6]; simp [MemOK, h6]
  rw [if_pos h6]
  by_cases h7 : -2147483648 ≤ d ∧ d ≤ 2147483647
  rotate_left
  · rw [if_neg h7]; simp [MemOK, h7]
  rw [if_pos h7]
  have hm : MemOK r b i s d m ↔ ((0 ≤ i ∨ s = 1) ∧ (b = 16 → i < 0)) := ⟨fun h => h.2.2.2.2.2.2.2, fun h => ⟨h1, h2, h3, h4, h5, h6, h7, h⟩⟩
  rw [show decide (MemOK r b i s d m) = decide ((0 ≤ i ∨ s = 1) ∧ (b = 16 → i < 0)) from decide_eq_decide.mpr hm]
  have h8' : (i < 0) ↔ ¬ 0 ≤ i := by omega
  by_cases h8 : 0 ≤ i <;> by_cases h9 : b = 16 <;> by_cases h10 : s = 1 <;> simp [h8', h8, h9, h10]
theorem fits_impl (d : Int) (hd : -9223372036854775808 ≤ d ∧ d ≤ 9223372036854775807) : impl_fits.f d 4 = some (decide (-2147483648 ≤ d ∧ d ≤ 2147483647)) := by
  unfold impl_fits.f
  rw [sign_impl (by unfold Sz; omega) hd]
  simp only [Option.bind_some]
  have e : signZ d 4 = (d + 2147483648) % 4294967296 - 2147483648 := rfl
  rw [e]
  by_cases h : -2147483648 ≤ d ∧ d ≤ 2147483647
  · have : ((d + 2147483648) % 4294967296 - 2147483648 == d) = true := by rw [beq_iff_eq]; omega
    rw [this]; simp [h]
  · have : ((d + 2147483648) % 4294967296 - 2147483648 == d) = false := by rw [beq_eq_false_iff_ne]; omega
    rw [this]; simp [h]
theorem isMem_impl (r b i s d m : Int) (hd : -9223372036854775808 ≤ d ∧ d ≤ 9223372036854775807) : impl_Operand_isMem.f 2 r b i s d m = some (decide (MemOK r b i s d m)) := by
  unfold impl_Operand_isMem.f
  simp only [within_impl, fits_impl d hd, Option.bind_some, decide_eq_true_eq, if_true]
  by_cases h1 : r = 0
  rotate_left
  · simp [MemOK, h1]
  by_cases h2 : m = 0
  rotate_left
  · simp [MemOK, h2]
  by_cases h3 : -1 ≤ b ∧ b ≤ 16
  rotate_left
  · simp [MemOK, h3]
  by_cases h4 : -1 ≤ i ∧ i ≤ 15
  rotate_left
  · simp [MemOK, h4]
  by_cases h5 : i = 4
  · simp [MemOK, h5]
  by_cases h7 : -2147483648 ≤ d ∧ d ≤ 2147483647
  rotate_left
  · simp [MemOK, h7]
  simp only [MemOK, h1, h2, h3, h4, h5, h7, if_true, if_false, and_self, true_and, ne_eq, not_false_eq_true, Sz]
  by_cases s1 : s = 1
  · by_cases h9 : b = 16 <;> by_cases h10 : i = -1 <;> simp [s1, h9, h10] <;> omega
  · by_cases h10 : i = -1
    · simp [s1, h10]
    · have hi : 0 ≤ i := by omega
      by_cases s2 : s = 2 <;> by_cases s4 : s = 4 <;> by_cases s8 : s = 8 <;> by_cases h9 : b = 16 <;> simp [s1, s2, s4, s8, h9, h10, hi] <;> omega
theorem and_self_le {a : Int} (h0 : 0 ≤ a) (ha : a ≤ 9223372036854775807) (h : Go.bits .and .i64 a 2245 = a) : a ≤ 2245 := by
  have h1 := congrArg un h
  rw [un_and] at h1
  have h2 : un 2245 = 2245 := rfl
  have h3 : un a &&& un 2245 ≤ un 2245 := Nat.and_le_right
  rw [h1, h2] at h3
  unfold un at h3; omega
theorem flags_small : ∀ i : Fin 2246, (Go.bits .and .i64 (i.val : Int) 2245 = (i.val : Int)) → ((i.val : Int) = Go.bits .and .i64 (i.val : Int) 2245) := fun _ h => h.symm
/-- Right flags: of five bits alone. -/
def FlOK (f : Int) : Prop := 0 ≤ f ∧ Go.bits .and .i64 f 2245 = f
instance (f : Int) : Decidable (FlOK f) := by unfold FlOK; infer_instance
theorem flags_spec (f : Int) : spec_l06Flags.f f = some (decide (FlOK f)) := by
  unfold spec_l06Flags.f FlOK
  by_cases h : f ≥ 0
  · have h' : 0 ≤ f := h
    rw [if_pos h]
    simp [h', Bool.beq_eq_decide_eq]
  · have h' : ¬ 0 ≤ f := h
    rw [if_neg h]
    simp [h']
theorem and_not_mask (F M : Nat) (hF : F < 2 ^ 64) (hM : M < 2 ^ 64) : (F &&& (18446744073709551615 - M) = 0) ↔ (F &&& M = F) := by
  have e : ∀ i, (18446744073709551615 - M).testBit i = (decide (i < 64) && !M.testBit i) := by
    intro i
    have h := Nat.testBit_two_pow_sub_succ hM i
    rw [show 2 ^ 64 - (M + 1) = 18446744073709551615 - M by omega] at h
    exact h
  constructor
  · intro h
    apply Nat.eq_of_testBit_eq
    intro i
    rw [Nat.testBit_and]
    have h1 := congrArg (fun n => Nat.testBit n i) h
    simp only [Nat.testBit_and, e, Nat.zero_testBit] at h1
    by_cases hi : i < 64
    · cases hf : F.testBit i <;> cases hm : M.testBit i <;> simp_all
    · rw [Nat.testBit_lt_two_pow (Nat.lt_of_lt_of_le hF (Nat.pow_le_pow_right (by decide) (by omega)))]
      rfl
  · intro h
    apply Nat.eq_of_testBit_eq
    intro i
    rw [Nat.testBit_and, e, Nat.zero_testBit]
    have h1 := congrArg (fun n => Nat.testBit n i) h
    simp only [Nat.testBit_and] at h1
    cases hf : F.testBit i <;> cases hm : M.testBit i <;> simp_all
theorem flagsOK_iff {f : Int} (hf : -9223372036854775808 ≤ f ∧ f ≤ 9223372036854775807) : (Go.bits .andNot .i64 f 2245 = 0) ↔ FlOK f := by
  have hu := un_lt f
  have hM : un 2245 = 2245 := rfl
  have key := and_not_mask (un f) 2245 hu (by decide)
  have e1 : Go.bits .andNot .i64 f 2245 = wrap64 ((un f &&& (18446744073709551615 - 2245) : Nat) : Int) := by rw [andNot_un, hM]
  have hlt : un f &&& (18446744073709551615 - 2245) < 18446744073709551616 := Nat.and_lt_two_pow (n := 64) _ (by decide)
  have l1 : Go.bits .andNot .i64 f 2245 = 0 ↔ un f &&& (18446744073709551615 - 2245) = 0 := by
    rw [e1]
    constructor
    · intro h
      have h2 := congrArg un h
      rw [un_wnat hlt] at h2
      exact h2
    · intro h; rw [h]; exact w64_in (n := ((0 : Nat) : Int)) (by omega) (by omega)
  have l2 : FlOK f ↔ un f &&& 2245 = un f := by
    constructor
    · rintro ⟨h0, h⟩
      have h2 := congrArg un h
      rw [un_and, hM] at h2
      exact h2
    · intro h
      have h3 : un f &&& 2245 ≤ 2245 := Nat.and_le_right
      rw [h] at h3
      refine ⟨by unfold un at h3; omega, ?_⟩
      rw [and_un, hM, h]
      exact (eq_wrap hf).symm
  rw [l1, l2, key]
theorem areFlags_impl {f : Int} (hf : -9223372036854775808 ≤ f ∧ f ≤ 9223372036854775807) : impl_areFlags.f f = some (decide (FlOK f)) := by
  unfold impl_areFlags.f
  rw [Bool.beq_eq_decide_eq, decide_eq_decide.mpr (flagsOK_iff hf)]
theorem carry_of {f : Int} (hf : FlOK f) : ∃ c : Nat, c ≤ 1 ∧ Go.bits .and .i64 f 1 = (c : Int) := by
  refine ⟨(f % 2).toNat, by omega, ?_⟩
  have h := and_mask f 1 (by decide)
  rw [show ((2 : Int) ^ 1 - 1) = 1 from rfl] at h
  rw [h]
  show f % 2 = _
  omega
theorem plus_eq (a b : Int) : spec_l07Plus.f a b = some (wrap64 (a + b)) := by
  unfold spec_l07Plus.f
  congr 1
  rw [IntKind.wrap_u64, IntKind.wrap_u64, IntKind.wrap_u64]
  unfold wrap64
  omega
theorem mul_mod (a b M : Int) : (a % M * (b % M)) % M = a * b % M := (Int.mul_emod a b M).symm
theorem times_eq (a b : Int) : wrap64 (IntKind.u64.wrap (IntKind.u64.wrap a * IntKind.u64.wrap b)) = wrap64 (a * b) := by
  rw [IntKind.wrap_u64, IntKind.wrap_u64, IntKind.wrap_u64, mul_mod]
  generalize a * b = m
  unfold wrap64
  omega
theorem l04_not {k : Int} (hk : k ≠ 2) (r b i s d m : Int) : impl_Operand_isMem.f k r b i s d m = some false := by
  unfold impl_Operand_isMem.f
  simp only [if_neg hk]
  repeat' split
  all_goals first | rfl | contradiction
theorem isMem_not (k r b i s d m : Int) (hd : -9223372036854775808 ≤ d ∧ d ≤ 9223372036854775807) (h : ¬ (k = 2 ∧ MemOK r b i s d m)) : impl_Operand_isMem.f k r b i s d m = some false := by
  by_cases hk : k = 2
  · subst hk
    rw [isMem_impl r b i s d m hd]
    simp only [true_and] at h
    simp [h]
  · exact l04_not hk r b i s d m
/-- The walk, at what has been shown. -/
theorem FnExactAddressOf_walk (W : World) (x : List Int) (p q d0 d1 d2 d3 d4 d5 d6 n : Int) (hx : x.length = 16) (hw : ∀ n ∈ x, (Lit.int .i64 n).wf = true) (wp : (Lit.int .i64 p).wf = true) (wq : (Lit.int .i64 q).wf = true) (w0 : (Lit.int .i64 d0).wf = true) (w1 : (Lit.int .i64 d1).wf = true) (w2 : (Lit.int .i64 d2).wf = true) (w3 : (Lit.int .i64 d3).wf = true) (w4 : (Lit.int .i64 d4).wf = true) (w5 : (Lit.int .i64 d5).wf = true) (w6 : (Lit.int .i64 d6).wf = true) (wn : (Lit.int .i64 n).wf = true) :
    Calls Try.prog 6 #[.agg (cellsI (x ++ [p, q])), .agg #[.int .i64 d0, .int .i64 d1, .int .i64 d2, .int .i64 d3, .int .i64 d4, .int .i64 d5, .int .i64 d6], .int .i64 n] W fun e W' => e = .returned (.bool true) ∧ Below W.heap.size W W' := by
  have h5 := wf_i64 w5
  have hfi := areFlags_impl (wf_i64 wq)
  have hfs := flags_spec q
  by_cases hf : FlOK q
  rotate_left
  · rw [decide_eq_false hf] at hfi hfs
    exact laws_FnExactAddressOf.calls x p q hx d0 d1 d2 d3 d4 d5 d6 n 0 1 W (fun W => spec_AddressOf.bad1 x p q hx d0 d1 d2 d3 d4 d5 d6 n W hfs) (fun W => impl_AddressOf.bad1 x p q hx d0 d1 d2 d3 d4 d5 d6 n W hfi)
  rw [decide_eq_true hf] at hfi hfs
  by_cases hk : d0 = 2
  rotate_left
  · exact laws_FnExactAddressOf.calls x p q hx d0 d1 d2 d3 d4 d5 d6 n 0 1 W (fun W => spec_AddressOf.bad2 x p q hx d0 d1 d2 d3 d4 d5 d6 n W hfs hk) (fun W => impl_AddressOf.bad2 x p q hx d0 d1 d2 d3 d4 d5 d6 n W hfi (isMem_not _ _ _ _ _ _ _ h5 (fun h => hk h.1)))
  by_cases hm : MemOK d1 d2 d3 d4 d5 d6
  rotate_left
  · exact laws_FnExactAddressOf.calls x p q hx d0 d1 d2 d3 d4 d5 d6 n 0 1 W (fun W => spec_AddressOf.bad3 x p q hx d0 d1 d2 d3 d4 d5 d6 n W hfs hk (by rw [hk, l04_mem]; simp [hm])) (fun W => impl_AddressOf.bad2 x p q hx d0 d1 d2 d3 d4 d5 d6 n W hfi (isMem_not _ _ _ _ _ _ _ h5 (fun h => hm h.2)))
  have ms : spec_l04Operand.f d0 d1 d2 d3 d4 d5 d6 8 = some true := by rw [hk, l04_mem]; simp [hm]
  have mi : impl_Operand_isMem.f d0 d1 d2 d3 d4 d5 d6 = some true := by rw [hk, isMem_impl _ _ _ _ _ _ h5]; simp [hm]
  obtain ⟨_, _, hb, hi, _⟩ := hm
  have go : ∀ r : Int, (∀ W : World, Calls Try.prog 54 #[.agg (cellsI (x ++ [p, q])), .agg #[.int .i64 d0, .int .i64 d1, .int .i64 d2, .int .i64 d3, .int .i64 d4, .int .i64 d5, .int .i64 d6], .int .i64 n] W fun e w' => e = .returned (.int .i64 r) ∧ Below W.heap.size W w') →
      (∀ (g : Nat) (W : World), W.heap[g]? = some (.cells (cellsI (x ++ [p, q])) 40 (0, 0)) → Calls Try.prog 55 #[.pointer (some ⟨g, 0, none⟩), .agg #[.int .i64 d0, .int .i64 d1, .int .i64 d2, .int .i64 d3, .int .i64 d4, .int .i64 d5, .int .i64 d6], .int .i64 n] W fun e w' => e = .returned (.int .i64 r) ∧ Below W.heap.size W w') →
      Calls Try.prog 6 #[.agg (cellsI (x ++ [p, q])), .agg #[.int .i64 d0, .int .i64 d1, .int .i64 d2, .int .i64 d3, .int .i64 d4, .int .i64 d5, .int .i64 d6], .int .i64 n] W fun e W' => e = .returned (.bool true) ∧ Below W.heap.size W W' := fun r h1 h2 =>
    laws_FnExactAddressOf.calls x p q hx d0 d1 d2 d3 d4 d5 d6 n r 0 W (fun W => spec_AddressOf.good x p q hx d0 d1 d2 d3 d4 d5 d6 n W hfs hk ms r h1) (fun W => impl_AddressOf.good x p q hx d0 d1 d2 d3 d4 d5 d6 n W hfi mi r h2)
  by_cases c16 : d2 = 16
  · subst c16
    by_cases c3 : 0 ≤ d3
    · obtain ⟨j, rfl⟩ := Int.eq_ofNat_of_zero_le c3
      exact go _ (fun W => spec_l07Address.cAX x p q hx d0 d1 d4 d5 d6 n j (by omega) _ (plus_eq _ _) _ (by rw [times_eq]; exact plus_eq _ _) W) (fun g W hg => impl_Cpu_address.cAX x p q hx d0 d1 d4 d5 d6 n j (by omega) g W hg)
    · exact go _ (fun W => spec_l07Address.cAY x p q hx d0 d1 d3 d4 d5 d6 n (by omega) _ (plus_eq _ _) W) (fun g W hg => impl_Cpu_address.cAY x p q hx d0 d1 d3 d4 d5 d6 n (by omega) g W hg)
  · by_cases c2 : 0 ≤ d2
    · obtain ⟨i, rfl⟩ := Int.eq_ofNat_of_zero_le c2
      by_cases c3 : 0 ≤ d3
      · obtain ⟨j, rfl⟩ := Int.eq_ofNat_of_zero_le c3
        exact go _ (fun W => spec_l07Address.cBX x p q hx d0 d1 d4 d5 d6 n i (by omega) j (by omega) _ (plus_eq _ _) _ (by rw [times_eq]; exact plus_eq _ _) W) (fun g W hg => impl_Cpu_address.cBX x p q hx d0 d1 d4 d5 d6 n i (by omega) j (by omega) g W hg)
      · exact go _ (fun W => spec_l07Address.cBY x p q hx d0 d1 d3 d4 d5 d6 n i (by omega) (by omega) _ (plus_eq _ _) W) (fun g W hg => impl_Cpu_address.cBY x p q hx d0 d1 d3 d4 d5 d6 n i (by omega) (by omega) g W hg)
    · by_cases c3 : 0 ≤ d3
      · obtain ⟨j, rfl⟩ := Int.eq_ofNat_of_zero_le c3
        exact go _ (fun W => spec_l07Address.cCX x p q hx d0 d1 d2 d4 d5 d6 n (by omega) j (by omega) _ (by rw [times_eq]; exact plus_eq _ _) W) (fun g W hg => impl_Cpu_address.cCX x p q hx d0 d1 d2 d4 d5 d6 n (by omega) j (by omega) g W hg)
      · exact go _ (fun W => spec_l07Address.cCY x p q hx d0 d1 d2 d3 d4 d5 d6 n (by omega) (by omega) W) (fun g W hg => impl_Cpu_address.cCY x p q hx d0 d1 d2 d3 d4 d5 d6 n (by omega) (by omega) g W hg)

end Go.Proofs.Ytgipadecllofkaa.Pure
