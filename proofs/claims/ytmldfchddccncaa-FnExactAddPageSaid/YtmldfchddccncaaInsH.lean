/- Memory.with: its contract. -/
import Derived.Test.YtmldfchddccncaaInsG
set_option linter.unusedVariables false
set_option linter.unusedSimpArgs false
namespace Go.Proofs.Ytmldfchddccncaa.PFnExactAddPage
open Go.RowKit Go.Proofs.YtmldfchddccncaaW.PrintWords Go.Proofs.YtmldfchddccncaaW.PrintLast Go.Proofs.YtmldfchddccncaaW.PrintMore
theorem Fr.lit {a : Act} {n : Nat} {L : List (Nat × Value)} (hs : a.tmps.size = n) (hd : a.defers = []) (h : ∀ p ∈ L, a.tmps[p.1]? = some p.2) : Fr a n L := by
  refine ⟨hs, hd, fun j v hj => ?_⟩
  induction L with
  | nil => cases hj
  | cons p L ih =>
    rw [List.lookup_cons] at hj
    cases e : j == p.1 with
    | true =>
      rw [e] at hj
      have : j = p.1 := by simpa using e
      subst this
      simp only [Option.some.injEq] at hj
      subst hj
      exact h p List.mem_cons_self
    | false => rw [e] at hj; exact ih (fun q hq => h q (List.mem_cons_of_mem _ hq)) hj
/-- Where the page goes: ahead of the first page that lies behind it. -/
def withAt (l : List S55) (b : Int) : Nat := if impl_Memory_with.find b l 0 < 0 then l.length else (impl_Memory_with.find b l 0).toNat
theorem withAt_le (l : List S55) (b : Int) : withAt l b ≤ l.length := by
  unfold withAt
  rcases impl_Memory_with.find_le b l 0 (by omega) with h | h
  · rw [if_pos (by omega)]; exact Nat.le_refl _
  · rw [if_neg (by omega)]; omega
def impl_Memory_with.f (l0_0 : List S55) (a1_0 a1_1 : Int) (a1_2 : ByteArray) : Option (List S55) :=
  if l0_0.length < 4398046511104 then some (l0_0.take (withAt l0_0 a1_0) ++ (⟨a1_0, a1_1, a1_2⟩ : S55) :: l0_0.drop (withAt l0_0 a1_0)) else none
set_option maxHeartbeats 4000000 in
set_option maxRecDepth 100000 in
theorem impl_Memory_with.calls (A0_0 : Option Addr) (c0_0 : Nat) (l0_0 : List (S55)) (a1_0 : Int) (a1_1 : Int) (a1_2 : ByteArray) (r : List (S55)) (w : World) (hr0_0 : Kd.C k55 w A0_0 l0_0.length l0_0) (hc0_0 : l0_0.length ≤ c0_0) (h : impl_Memory_with.f l0_0 a1_0 a1_1 a1_2 = some r) :
    Calls Try.prog 43 #[.agg #[.slice A0_0 l0_0.length c0_0], .agg #[.int .i64 a1_0, .int .i64 a1_1, .string a1_2]] w fun e w' => ∃ v0_ : Value, e = .returned (.agg #[v0_]) ∧ Kd.R k55 55 w' w.heap.size (fun _ => True) v0_ r ∧ Below w.heap.size w w' := by
  unfold impl_Memory_with.f at h
  by_cases hl : l0_0.length < 4398046511104
  rotate_left
  · rw [if_neg hl] at h; cases h
  rw [if_pos hl] at h
  obtain rfl := Option.some.inj h
  clear h
  have tail := fun b2 b3 b4 W => with_tail w b2 b3 b4 A0_0 c0_0 l0_0 ⟨a1_0, a1_1, a1_2⟩ (withAt l0_0 a1_0) hr0_0 hc0_0 hl (withAt_le _ _) W
  have TA := Aside0.mk tail
  have HC := Aside0.mk hr0_0
  clear tail hr0_0
  have hu28 := Try.underlying28
  have hmf : ∀ (fn : Fn) (first cap : Array Value) (w : World), (Instr.makeFunc fn first cap).run Try.prog w = .ok (.func fn first cap) w := fun _ _ _ _ => rfl
  have hix := fun W (hb : Below w.heap.size w W) g (hg : W.cell? ⟨g, 0, none⟩ = some (.int .i64 a1_0)) => impl_Memory_with.index A0_0 c0_0 l0_0 a1_0 g W (Kd.C_below HC.out hb) hg
  have hwa : withAt l0_0 a1_0 = if impl_Memory_with.find a1_0 l0_0 0 < 0 then l0_0.length else (impl_Memory_with.find a1_0 l0_0 0).toNat := rfl
  have hle := impl_Memory_with.find_le a1_0 l0_0 0 (by omega)
  obtain ⟨f, hf⟩ : ∃ f, f = impl_Memory_with.find a1_0 l0_0 0 := ⟨_, rfl⟩
  rw [← hf] at hix hwa hle
  have HX := Aside0.mk hix
  have HWA := Aside0.mk hwa
  clear hix hwa hle hf hc0_0 hl
  obtain ⟨W0, hW0⟩ : ∃ W0, W0 = ((w.alloc (.cells #[.slice A0_0 l0_0.length c0_0] 28)).alloc (.cells #[.int .i64 a1_0, .int .i64 a1_1, .string a1_2] 55)).alloc (.cells #[.slice none 0 0] 28) := ⟨_, rfl⟩
  have m2 : W0.heap[w.heap.size]? = some (.cells #[.slice A0_0 l0_0.length c0_0] 28 (0, 0)) := by rw [hW0]; exact blk_alloc (blk_alloc (blk_new w _) _) _
  have m3 : W0.heap[w.heap.size + 1]? = some (.cells (pageRow ⟨a1_0, a1_1, a1_2⟩) 55 (0, 0)) := by
    have := blk_new (w.alloc (.cells #[.slice A0_0 l0_0.length c0_0] 28)) (.cells #[.int .i64 a1_0, .int .i64 a1_1, .string a1_2] 55)
    rw [show (w.alloc (.cells #[.slice A0_0 l0_0.length c0_0] 28)).heap.size = w.heap.size + 1 from Array.size_push _] at this
    rw [hW0]; exact blk_alloc this _
  have m4 : W0.heap[w.heap.size + 1 + 1]? = some (.cells #[.slice none 0 0] 28 (0, 0)) := by
    have := blk_new ((w.alloc (.cells #[.slice A0_0 l0_0.length c0_0] 28)).alloc (.cells #[.int .i64 a1_0, .int .i64 a1_1, .string a1_2] 55)) (.cells #[.slice none 0 0] 28)
    rw [show ((w.alloc (.cells #[.slice A0_0 l0_0.length c0_0] 28)).alloc (.cells #[.int .i64 a1_0, .int .i64 a1_1, .string a1_2] 55)).heap.size = w.heap.size + 1 + 1 from (Array.size_push _).trans (congrArg (· + 1) (Array.size_push _))] at this
    rw [hW0]; exact this
  have mB : Below w.heap.size w W0 := by rw [hW0]; exact below_alloc (below_alloc (below_alloc (Below.refl _ _) _) _) _
  have hcall : Calls Try.prog 62 #[.slice A0_0 l0_0.length c0_0, .func (Fn.func 65) #[] #[.pointer (some ⟨w.heap.size + 1, 0, none⟩)]] W0 fun e w' => e = .returned (.int .i64 f) ∧ w'.heap[w.heap.size]? = some (.cells #[.slice A0_0 l0_0.length c0_0] 28 (0, 0)) ∧ w'.heap[w.heap.size + 1]? = some (.cells (pageRow ⟨a1_0, a1_1, a1_2⟩) 55 (0, 0)) ∧ w'.heap[w.heap.size + 1 + 1]? = some (.cells #[.slice none 0 0] 28 (0, 0)) ∧ Below w.heap.size w w' :=
    (HX.out W0 mB (w.heap.size + 1) ((cell_of_row W0 _ 0 _ 55 (0, 0) m3).trans rfl)).mono fun e w' hq => ⟨hq.1, blk_below m2 hq.2, blk_below m3 hq.2, blk_below m4 hq.2, below_step mB hq.2⟩
  rw [hW0] at hcall
  have HCA := Aside0.mk hcall
  clear hcall m2 m3 m4 mB hW0
  by_cases hn : f < 0
  · have e5 : ((withAt l0_0 a1_0 : Nat) : Int) = (l0_0.length : Int) := by rw [HWA.out, if_pos hn]
    have E5 := Aside0.mk e5
    clear e5
    go_enter Try.func43, Try.ntmps43
    go_upto_region 4 with (go_at_call 62; refine HCA.out.mono ?_; rintro e w' ⟨rfl, k2, k3, k4, hb⟩; have K2 := Aside0.mk k2; have K3 := Aside0.mk k3; have K4 := Aside0.mk k4; have HB := Aside0.mk hb; have kc : w'.cell? ⟨w.heap.size, 0, none⟩ = some (.slice A0_0 l0_0.length c0_0) := (cell_of_row w' _ 0 _ 28 (0, 0) k2).trans rfl; clear k2 k3 k4 hb)
    refine cl_start (n := 23) (L := [(5, .int .i64 ((withAt l0_0 a1_0 : Nat) : Int)), (4, .pointer (some ⟨w.heap.size + 1 + 1, 0, none⟩)), (3, .pointer (some ⟨w.heap.size + 1, 0, none⟩)), (2, .pointer (some ⟨w.heap.size, 0, none⟩))]) (TA.out _ _ _ _ HB.out (by omega) K2.out K3.out K4.out _ (by assumption)) (Fr.lit rfl rfl (by
      intro p hp
      simp only [List.mem_cons, List.not_mem_nil, or_false] at hp
      rcases hp with rfl | rfl | rfl | rfl
      · rw [E5.out]; rfl
      all_goals rfl))
  · have e5 : ((withAt l0_0 a1_0 : Nat) : Int) = f := by rw [HWA.out, if_neg hn]; omega
    have E5 := Aside0.mk e5
    clear e5
    go_enter Try.func43, Try.ntmps43
    go_upto_region 4 with (go_at_call 62; refine HCA.out.mono ?_; rintro e w' ⟨rfl, k2, k3, k4, hb⟩; have K2 := Aside0.mk k2; have K3 := Aside0.mk k3; have K4 := Aside0.mk k4; have HB := Aside0.mk hb; have kc : w'.cell? ⟨w.heap.size, 0, none⟩ = some (.slice A0_0 l0_0.length c0_0) := (cell_of_row w' _ 0 _ 28 (0, 0) k2).trans rfl; clear k2 k3 k4 hb)
    refine cl_start (n := 23) (L := [(5, .int .i64 ((withAt l0_0 a1_0 : Nat) : Int)), (4, .pointer (some ⟨w.heap.size + 1 + 1, 0, none⟩)), (3, .pointer (some ⟨w.heap.size + 1, 0, none⟩)), (2, .pointer (some ⟨w.heap.size, 0, none⟩))]) (TA.out _ _ _ _ HB.out (by omega) K2.out K3.out K4.out _ (by assumption)) (Fr.lit rfl rfl (by
      intro p hp
      simp only [List.mem_cons, List.not_mem_nil, or_false] at hp
      rcases hp with rfl | rfl | rfl | rfl
      · rw [E5.out]; rfl
      all_goals rfl))
end Go.Proofs.Ytmldfchddccncaa.PFnExactAddPage
