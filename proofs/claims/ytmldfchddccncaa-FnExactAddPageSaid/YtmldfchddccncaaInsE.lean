/- slices.IndexFunc at a row of pages: the first page that lies behind a base. -/
import Derived.Test.YtmldfchddccncaaInsD
set_option linter.unusedVariables false
set_option linter.unusedSimpArgs false
namespace Go.Proofs.Ytmldfchddccncaa.PFnExactAddPage
open Go.RowKit Go.Proofs.YtmldfchddccncaaW.PrintWords Go.Proofs.YtmldfchddccncaaW.PrintLast Go.Proofs.YtmldfchddccncaaW.PrintMore
/-- The first page whose Base is above b, counted from i on; -1 of none. -/
def impl_Memory_with.find (b : Int) : List S55 → Int → Int
  | [], _ => -1
  | x :: xs, i => if decide (b < x.f0) = true then i else impl_Memory_with.find b xs (i + 1)
theorem impl_Memory_with.closure (x0 x1 : Int) (x2 : ByteArray) (a : Int) (g : Nat) (w : World) (hc : w.cell? ⟨g, 0, none⟩ = some (.int .i64 a)) :
    Calls Try.prog 65 #[.agg #[.int .i64 x0, .int .i64 x1, .string x2], .pointer (some ⟨g, 0, none⟩)] w fun e w' => e = .returned (.bool (decide (a < x0))) ∧ Below w.heap.size w w' := by
  have hb := World.block_lt_of_cell? w _ hc
  have hc2 : (w.alloc (.cells #[.int .i64 x0, .int .i64 x1, .string x2] 55)).cell? ⟨g, 0, none⟩ = some (.int .i64 a) := by rw [World.cell?_alloc_past _ _ _ hb]; exact hc
  clear hc hb
  go_enter Try.func65, Try.ntmps65
  go_wp2
  go_ret
  exact ⟨by first | rfl | (simp; done), (Below.refl _ _).alloc (Nat.le_refl _) _⟩
set_option maxHeartbeats 4000000 in
set_option maxRecDepth 100000 in
theorem impl_Memory_with.index (A : Option Addr) (c : Nat) (l : List S55) (a : Int) (g : Nat) (w : World) (hr : Kd.C k55 w A l.length l) (hg : w.cell? ⟨g, 0, none⟩ = some (.int .i64 a)) :
    Calls Try.prog 62 #[.slice A l.length c, .func (Fn.func 65) #[] #[.pointer (some ⟨g, 0, none⟩)]] w fun e w' => e = .returned (.int .i64 (impl_Memory_with.find a l 0)) ∧ Below w.heap.size w w' := by
  have hu := Try.underlying55
  have hmax := hr.2.1
  have HR := Aside0.mk hr
  have HG := Aside0.mk hg
  clear hr hg
  go_enter Try.func62, Try.ntmps62
  go_wp2
  go_loopw [8] (fun i wr => ∃ k : Nat, i = .int .i64 k ∧ k ≤ l.length ∧ Aside0 (impl_Memory_with.find a l 0 = impl_Memory_with.find a (l.drop k) k) ∧ Aside0 (Below w.heap.size w wr)) (fun i _ => l.length - (intOf i).toNat)
  case atStart => exact ⟨0, rfl, Nat.zero_le _, ⟨rfl⟩, ⟨Below.refl _ _⟩⟩
  case round =>
    obtain ⟨k, rfl, hk, HF, HB⟩ := hrel
    by_cases hlt : k < l.length
    · obtain ⟨ad, ea, x0, x1, x2⟩ := at_T55 HR.out (k : Int) (by omega) (by omega)
      rw [Int.toNat_natCast] at x0 x1 x2
      cases ea
      replace x0 := pw_cell_below HB.out x0
      replace x1 := pw_cell_below HB.out x1
      replace x2 := pw_cell_below HB.out x2
      have hgr := Aside0.mk (pw_cell_below HB.out HG.out)
      have HF' := HF.out
      rw [List.drop_eq_getElem_cons hlt] at HF'
      simp only [impl_Memory_with.find] at HF'
      have hrd : rd_T55 l (k : Int) = l[k] := by unfold rd_T55; simp [List.getD_eq_getElem?_getD, List.getElem?_eq_getElem hlt]
      rw [hrd] at x0 x1 x2
      by_cases hq : decide (a < l[k].f0) = true
      · rw [if_pos hq] at HF'
        have HF := Aside0.mk HF'
        clear HF' hrd
        have HQ := Aside0.mk hq
        clear hq
        go_wp2_with (go_at_call 65; refine (impl_Memory_with.closure _ _ _ a g _ hgr.out).mono ?_; rintro e w' ⟨rfl, hb⟩; rw [HQ.out]; have HB2 := Aside0.mk (below_step HB.out hb); clear hb)
        go_ret
        exact ⟨by rw [HF.out]; rfl, HB2.out⟩
      · rw [if_neg hq] at HF'
        have HF := Aside0.mk HF'
        clear HF' hrd
        have HQ := Aside0.mk (Bool.eq_false_iff.2 hq)
        clear hq
        go_wp2_with (go_at_call 65; refine (impl_Memory_with.closure _ _ _ a g _ hgr.out).mono ?_; rintro e w' ⟨rfl, hb⟩; rw [HQ.out]; have HB2 := Aside0.mk (below_step HB.out hb); clear hb)
        go_roundw
        case rel => exact ⟨k + 1, by go_num, by omega, HF, HB2⟩
        case measure => simp [intOf]; omega
    · obtain rfl : k = l.length := by omega
      have HF' := HF.out
      rw [List.drop_length] at HF'
      have HF := Aside0.mk HF'
      clear HF'
      go_wp2
      go_ret
      exact ⟨by rw [HF.out]; rfl, HB.out⟩
/-- Where the page goes. -/
theorem impl_Memory_with.find_le (b : Int) : ∀ (l : List S55) (i : Int), 0 ≤ i → (impl_Memory_with.find b l i = -1 ∨ (i ≤ impl_Memory_with.find b l i ∧ impl_Memory_with.find b l i < i + l.length))
  | [], i, h => .inl rfl
  | x :: xs, i, h => by
    rw [impl_Memory_with.find]
    by_cases q : decide (b < x.f0) = true
    · rw [if_pos q]; right; simp only [List.length_cons]; omega
    · rw [if_neg q]
      rcases impl_Memory_with.find_le b xs (i + 1) (by omega) with h1 | h1
      · exact .inl h1
      · right; simp only [List.length_cons]; omega
end Go.Proofs.Ytmldfchddccncaa.PFnExactAddPage
