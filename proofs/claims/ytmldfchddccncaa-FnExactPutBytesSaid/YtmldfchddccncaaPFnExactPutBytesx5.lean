-- Written for this claim by the session's own program, out of the translation. Not trusted: Lean checks it.
import Derived.Test.YtmldfchddccncaaPFnExactPutBytesx0
import Derived.Test.YtmldfchddccncaaPFnExactPutBytesx3
import Derived.Test.YtmldfchddccncaaPFnExactPutBytesx4
namespace Go.Proofs.Ytmldfchddccncaa.PFnExactPutBytes
open Go.RowKit Go.Proofs.YtmldfchddccncaaW.PrintWords Go.Proofs.YtmldfchddccncaaW.PrintLast Go.Proofs.YtmldfchddccncaaW.PrintMore
attribute [local go_sem] max2_int min2_int max_two min_two max_three min_three max_four min_four   -- for this text's walks alone
set_option linter.unusedVariables false
set_option linter.unusedSimpArgs false

/-! ### impl_Memory_lay: function 59 -/
def impl_Memory_lay.l0 (l : List S55) : Nat → Int → ByteArray → List S55 → Option (List S55)
  | 0, _, _, _ => none
  | k + 1, a, t, o => if t.size = 0 then some o else (impl_Memory_pageOf.f l a).bind fun i =>
      if 0 ≤ a ∧ a ≤ 65535 ∧ 0 ≤ i ∧ i < o.length ∧ (rd_T55 o i).f2.size = 256 ∧ t.size ≤ 1048576 then
        impl_Memory_lay.l0 l k (a + putRoom t a) (t.extract (putRoom t a) t.size) (o.set i.toNat ⟨(rd_T55 o i).f0, (rd_T55 o i).f1, putBytes (rd_T55 o i).f2 t (a % 256).toNat (putRoom t a)⟩)
      else none
def impl_Memory_lay.f (l0_0 : List S55) (a1 : Int) (a2 : ByteArray) : Option (List S55) := (impl_copyMemory.f l0_0).bind fun o => impl_Memory_lay.l0 l0_0 (a2.size + 1) a1 a2 o
def impl_Memory_lay.T7 : Bool × List (List Nat × List Nat) := (true,
  [([], []), ([], []), ([1], [1]), ([2], [2]), ([3], [3]), ([], []), ([4, 5], [4, 5]), ([], []), ([], []),
    ([7, 8], [7, 8]), ([6, 9], [6, 9]), ([], []), ([11], [11]), ([12], [12]), ([13], [13]), ([], []), ([], []),
    ([15, 16], [15, 16]), ([14, 17], [14, 17]), ([10, 18], [10, 18]),
    ([0, 0, 1, 2, 3, 4, 5, 6, 7, 8, 9, 10, 11, 12, 13, 14, 15, 16, 17, 18, 19], [0]),
    ([20, 0, 1, 2, 3, 4, 5, 6, 7, 8, 9, 10, 11, 12, 13, 14, 15, 16, 17, 18, 19], [20]),
    ([21, 19, 0, 1, 2, 3, 4, 5, 6, 7, 8, 9, 10, 11, 12, 13, 14, 15, 16, 17, 18, 19], [19, 21])])
set_option maxHeartbeats 8000000 in
set_option maxRecDepth 100000 in
theorem impl_Memory_lay.calls (A0_0 : Option Addr) (c0_0 : Nat) (l0_0 : List (S55)) (a1 : Int) (a2 : ByteArray) (r : List (S55)) (w : World) (hr0_0 : Kd.C k55 w A0_0 l0_0.length l0_0) (hc0_0 : l0_0.length ≤ c0_0) (h : impl_Memory_lay.f l0_0 a1 a2 = some r) :
    Calls Try.prog 59 #[.agg #[.slice A0_0 l0_0.length c0_0], .int .i64 a1, .string a2] w fun e w' => ∃ v0_ : Value, e = .returned (.agg #[v0_]) ∧ Kd.R k55 55 w' w.heap.size (fun _ => True) v0_ r ∧ Below w.heap.size w w' := by
  have hu28 := Try.underlying28
  have hu55 := Try.underlying55
  obtain ⟨o0, ho, hl⟩ := Option.bind_eq_some_iff.mp (show (impl_copyMemory.f l0_0).bind (fun o => impl_Memory_lay.l0 l0_0 (a2.size + 1) a1 a2 o) = some r from h)
  have HO := Aside0.mk ho
  have HL := Aside0.mk hl
  have HR := Aside0.mk hr0_0
  have HC := Aside0.mk hc0_0
  clear h ho hl hr0_0 hc0_0
  go_enter Try.func59, Try.ntmps59
  go_wp2_with (go_at_call 42; refine (impl_copyMemory.calls A0_0 c0_0 l0_0 o0 _ (Kd.C_below HR.out (by repeat (first | exact Below.refl _ _ | apply below_alloc | apply pw_below_drewN | apply below_drew1))) HC.out HO.out).mono ?_; rintro e w1 ⟨v0, rfl, hR, hB⟩; obtain ⟨Ao, co, eo⟩ := Kd.R_slice hR; subst eo; have B3 := Aside0.mk (blk_below (blk_below (blk_new w (.cells #[.slice A0_0 l0_0.length c0_0] 28)) (below_alloc (Below.refl _ _) (.cells #[.slice none 0 0] 28))) hB); have B6 := Aside0.mk (blk_below (blk_new (w.alloc (.cells #[.slice A0_0 l0_0.length c0_0] 28)) (.cells #[.slice none 0 0] 28)) hB); have BL := Aside0.mk (below_step (below_alloc (below_alloc (Below.refl _ _) (.cells #[.slice A0_0 l0_0.length c0_0] 28)) (.cells #[.slice none 0 0] 28)) hB); have RW : Aside0 (Kd.R k55 55 w1 w.heap.size (fun _ => True) (.slice Ao o0.length co) o0) := Aside0.mk (Kd.R_lower hR (by simp only [World.size_alloc]; omega)); clear hR hB)
  have HH : Aside0 (PutHolds w (w1.alloc (.cells #[.slice Ao o0.length co] 28)) w.heap.size (w.heap.size + 1) w1.heap.size (.slice A0_0 l0_0.length c0_0) Ao co o0) := by
    have h6 := B6.out
    rw [World.size_alloc] at h6
    have hb := below_alloc (Below.refl w1.heap.size w1) (.cells #[.slice Ao o0.length co] 28)
    exact ⟨blk_below B3.out hb, blk_below h6 hb, blk_new _ _, Kd.R_below RW.out hb, below_step BL.out hb⟩
  have HSZ := Aside0.mk BL.out.size
  clear B3 B6 BL RW HO
  go_loopg [1, 2] (a2.size + 1) (fun kq va vt w' => ∃ (a : Int) (t : ByteArray) (o : List S55), va = .int .i64 a ∧ vt = .string t ∧ Aside0 (impl_Memory_lay.l0 l0_0 kq a t o = some r) ∧ Aside0 (kq ≤ a2.size + 1) ∧ Aside0 (PutHolds w w' w.heap.size (w.heap.size + 1) w1.heap.size (.slice A0_0 l0_0.length c0_0) Ao co o))
  case atStart => exact ⟨a1, a2, o0, rfl, rfl, HL, ⟨Nat.le_refl _⟩, HH⟩
  case round =>
    clear HL HH
    obtain ⟨a, t, o, rfl, rfl, HA, HK1, HH⟩ := hrel
    cases gk with
    | zero => exact absurd HA.out (by simp [impl_Memory_lay.l0])
    | succ k1 =>
      have H := HA.out
      clear HA
      simp only [impl_Memory_lay.l0] at H
      have hc3 := (blk_cell HH.out.b3 0).trans (show _ = some (Value.slice A0_0 l0_0.length c0_0) from rfl)
      have hc7 := (blk_cell HH.out.b7 0).trans (show _ = some (Value.slice Ao o.length co) from rfl)
      by_cases ht : t.size = 0
      · rw [if_pos ht] at H
        obtain rfl := Option.some.inj H
        have hc6 := (blk_cell HH.out.b6 0).trans (show _ = some (Value.slice none 0 0) from rfl)
        have hf6 := blk_frozen HH.out.b6 0
        have d0 : decide (0 < t.size) = false := decide_eq_false (by omega)
        clear H ht
        go_wp2
        have BX : Aside0 ((wr.setCell ⟨w.heap.size + 1, 0, none⟩ (.slice Ao o.length co)).heap[w.heap.size + 1]? = some (.cells #[.slice Ao o.length co] 28 (0, 0))) := ⟨blk_put (cs := #[.slice none 0 0]) HH.out.b6 0 _ rfl⟩
        refine bodyPost_ret (results_cell_row rfl _ _ (w.heap.size + 1) 28 #[.slice Ao o.length co] (0, 0) _ rfl BX.out Try.underlying28 rfl (by kernel_rfl)) rfl ?_
        exact ⟨_, rfl, Kd.R_mono (Kd.R_far (p := ⟨w.heap.size + 1, 0, none⟩) (Kd.R_types HH.out.row HH.out.b6 (by decide)) (fun _ hk => hk.2) _) (fun _ _ => trivial), below_set HH.out.bel (Nat.le_succ _)⟩
      · rw [if_neg ht] at H
        obtain ⟨i, hi, H⟩ := Option.bind_eq_some_iff.mp H
        by_cases hc : 0 ≤ a ∧ a ≤ 65535 ∧ 0 ≤ i ∧ i < o.length ∧ (rd_T55 o i).f2.size = 256 ∧ t.size ≤ 1048576
        · rw [if_pos hc] at H
          obtain ⟨q0, q1, q2, q3, q4, q6⟩ := hc
          obtain ⟨j, rfl⟩ := Int.eq_ofNat_of_zero_le q2
          simp only [Int.ofNat_eq_natCast, Int.toNat_natCast] at *
          have HI := Aside0.mk hi
          have HN := Aside0.mk H
          have d0 : decide (0 < t.size) = true := decide_eq_true (by omega)
          have q3' : j < o.length := by omega
          obtain ⟨p, hp⟩ : ∃ p : Nat, a % 256 = p := ⟨(a % 256).toNat, by omega⟩
          obtain ⟨n, hn⟩ : ∃ n : Nat, 256 - p = n := ⟨_, rfl⟩
          obtain ⟨dd, hdd⟩ : ∃ dd : ByteArray, (rd_T55 o (j : Int)).f2 = dd := ⟨_, rfl⟩
          have W2 := Aside0.mk (putW (256 - (p : Int)) n (by omega) (by omega))
          have p1 : p ≤ 255 := by omega
          have hds : dd.size = 256 := by rw [← hdd]; exact q4
          have QD := Aside0.mk hdd
          have hroom : putRoom t a = if n < t.size then n else t.size := by
            unfold putRoom
            rw [hp, Int.toNat_natCast, hn, Nat.min_def]
            split <;> split <;> omega
          have HP := Aside0.mk hp
          have HM := Aside0.mk hroom
          clear hi H ht q4 q3 hdd hp hroom
          by_cases hA : n < t.size
          · have HA := Aside0.mk (show putRoom t a = n by rw [HM.out, if_pos hA])
            have HN2 := HN.out
            rw [HA.out, HP.out, QD.out, Int.toNat_natCast] at HN2
            have HN3 := Aside0.mk HN2
            clear HN2 HN
            have n1 : n ≤ 256 := by omega
            have b1 : p ≤ dd.size := by omega
            have b2 : (p : Int) ≤ (dd.size : Int) := by omega
            obtain ⟨q, hq⟩ : ∃ q : Nat, p + n = q := ⟨_, rfl⟩
            have b3 : q ≤ dd.size := by omega
            have b4 : (q : Int) ≤ (dd.size : Int) := by omega
            have b5 : n ≤ t.size := by omega
            have W3 := putW ((p : Int) + (n : Int)) q (by omega) (by omega)
            obtain ⟨X, hx1, hx2⟩ := putAdd (P := Try.prog) dd t p n hds q6
            rw [hq] at hx2
            clear hq
            obtain ⟨hs', hs⟩ := W3
            have hp := HP.out
            obtain ⟨hw2, hw2'⟩ := W2.out
            clear hn hds
            go_wp2_with (go_at_call 41; refine (impl_Memory_pageOf.calls A0_0 c0_0 l0_0 a _ _ (Kd.C_below HR.out HH.out.bel) HC.out HI.out).mono ?_; rintro e w2 ⟨rfl, hb⟩; have HH2 := Aside0.mk (HH.out.below hb); obtain ⟨g, eA, x0, x2, f2, hset⟩ := HH2.out.elem j q3'; cases eA; clear hset hb f2; rw [QD.out] at x2; have hc7' := (blk_cell HH2.out.b7 0).trans (show _ = some (Value.slice (some ⟨g, 0, none⟩) o.length co) from rfl))
            refine wp_region_still_tail 22 (by kernel_rfl) (tail_of (T := impl_Memory_lay.T7) (by kernel_rfl) (by kernel_rfl)) ?_
            simp only [List.take_succ_cons, List.take_zero, List.drop_succ_cons, List.drop_zero]
            repeat still_step
            try refine wpStill_nil ?_
            change wpList _ _ _ _ _ w2.drew
            have HH3 := Aside0.mk HH2.out.drew
            obtain ⟨g', eA', z0, z2, f2, hset⟩ := HH3.out.elem j q3'
            obtain rfl : g = g' := by injection eA' with h1; injection h1
            have HS := Aside0.mk (hset (putBytes dd t p n))
            clear hset eA' z0 HH2 HH3 HH x0 x2 hc7' hp hs hs' hx1 hx2
            generalize w2.drew = w3 at *
            go_wp2
            go_roundg k1
            case measure => have := HK1.out; omega
            case rel => exact ⟨a + (n : Nat), t.extract n t.size, _, by first | rfl | (simp; done) | go_num, by first | rfl | (simp; done), HN3, ⟨by have := HK1.out; omega⟩, HS⟩
          · have HA := Aside0.mk (show putRoom t a = t.size by rw [HM.out, if_neg hA])
            have HN2 := HN.out
            rw [HA.out, HP.out, QD.out, Int.toNat_natCast] at HN2
            have HN3 := Aside0.mk HN2
            clear HN2 HN
            have b1 : p ≤ dd.size := by omega
            have b2 : (p : Int) ≤ (dd.size : Int) := by omega
            obtain ⟨q, hq⟩ : ∃ q : Nat, p + t.size = q := ⟨_, rfl⟩
            have b3 : q ≤ dd.size := by omega
            have b4 : (q : Int) ≤ (dd.size : Int) := by omega
            have b5 : t.size ≤ t.size := by omega
            have W3 := putW ((p : Int) + (t.size : Int)) q (by omega) (by omega)
            obtain ⟨X, hx1, hx2⟩ := putAdd (P := Try.prog) dd t p t.size hds q6
            rw [show t.extract 0 t.size = t by simp] at hx1
            rw [hq] at hx2
            clear hq
            obtain ⟨hs', hs⟩ := W3
            have hp := HP.out
            obtain ⟨hw2, hw2'⟩ := W2.out
            clear hn hds
            go_wp2_with (go_at_call 41; refine (impl_Memory_pageOf.calls A0_0 c0_0 l0_0 a _ _ (Kd.C_below HR.out HH.out.bel) HC.out HI.out).mono ?_; rintro e w2 ⟨rfl, hb⟩; have HH2 := Aside0.mk (HH.out.below hb); obtain ⟨g, eA, x0, x2, f2, hset⟩ := HH2.out.elem j q3'; cases eA; clear hset hb f2; rw [QD.out] at x2; have hc7' := (blk_cell HH2.out.b7 0).trans (show _ = some (Value.slice (some ⟨g, 0, none⟩) o.length co) from rfl))
            refine wp_region_still_tail 22 (by kernel_rfl) (tail_of (T := impl_Memory_lay.T7) (by kernel_rfl) (by kernel_rfl)) ?_
            simp only [List.take_succ_cons, List.take_zero, List.drop_succ_cons, List.drop_zero]
            repeat still_step
            try refine wpStill_nil ?_
            change wpList _ _ _ _ _ w2.drew
            have HH3 := Aside0.mk HH2.out.drew
            obtain ⟨g', eA', z0, z2, f2, hset⟩ := HH3.out.elem j q3'
            obtain rfl : g = g' := by injection eA' with h1; injection h1
            have HS := Aside0.mk (hset (putBytes dd t p t.size))
            clear hset eA' z0 HH2 HH3 HH x0 x2 hc7' hp hs hs' hx1 hx2
            generalize w2.drew = w3 at *
            go_wp2
            go_roundg k1
            case measure => have := HK1.out; omega
            case rel => exact ⟨a + (t.size : Nat), t.extract t.size t.size, _, by first | rfl | (simp; done) | go_num, by first | rfl | (simp; done), HN3, ⟨by have := HK1.out; omega⟩, HS⟩
        · rw [if_neg hc] at H
          exact absurd H (by simp)


/-! ### impl_PutBytes: function 31 -/
def impl_PutBytes.j0 : Nat → Int → ByteArray → Bool → List (S55) → Option ((List (S55)) × Int)
  | 0, _, _, _, _ => none
  | k + 1, x1, x2, x18, x184000 => if x18 = true then ((impl_copyMemory.f x184000).bind fun t187 => (some (t187, 13))) else ((impl_Memory_lay.f x184000 x1 x2).bind fun t190 => (some (t190, 0)))
def impl_PutBytes.f (k : Nat) (l0_0 : List (S55)) (a1 : Int) (a2 : ByteArray) : Option ((List (S55)) × Int) := if (a2.size : Int) > 65536 then (some (([] : List (S55)), 2)) else ((impl_MemoryOK.f k l0_0).bind fun t185 => (if t185 = true then (if (a2.size : Int) > 8192 then (impl_PutBytes.j0 k a1 a2 true l0_0) else ((impl_Memory_fault.f k l0_0 a1 (a2.size : Int) 0).bind fun t186 => (impl_PutBytes.j0 k a1 a2 (t186 != 0) l0_0))) else (some (([] : List (S55)), 1))))
theorem impl_PutBytes.mono_l : ∀ k, (∀ y0 y1 y2 y3, LeO (impl_PutBytes.j0 k y0 y1 y2 y3) (impl_PutBytes.j0 (k + 1) y0 y1 y2 y3))
  | 0 => fun _ _ _ _ r h => by simp [impl_PutBytes.j0] at h
  | k + 1 => by
    have ih0 := impl_PutBytes.mono_l k
    · intro y0 y1 y2 y3
      unfold impl_PutBytes.j0
      repeat' first
      | (with_reducible exact ih0 _ _ _ _)
      | (with_reducible exact impl_MemoryOK.mono _ _)
      | (with_reducible exact impl_Memory_fault.mono _ _ _ _ _)
      | (with_reducible exact LeO.refl _)
      | (with_reducible exact LeO.none _)
      | (with_reducible refine LeO.ite ?_ ?_)
      | (with_reducible refine LeO.bind ?_ (fun _ => ?_))
      | exact ih0 _ _ _ _
      | exact impl_MemoryOK.mono _ _
      | exact impl_Memory_fault.mono _ _ _ _ _
      | exact LeO.none _
      | refine LeO.ite ?_ ?_
      | refine LeO.bind ?_ (fun _ => ?_)
theorem impl_PutBytes.mono : ∀ a0 a1 a2 k, LeO (impl_PutBytes.f k a0 a1 a2) (impl_PutBytes.f (k + 1) a0 a1 a2) := by
  intro a0 a1 a2 k
  have ih0 := impl_PutBytes.mono_l k
  unfold impl_PutBytes.f
  repeat' first
      | (with_reducible exact ih0 _ _ _ _)
      | (with_reducible exact impl_MemoryOK.mono _ _)
      | (with_reducible exact impl_Memory_fault.mono _ _ _ _ _)
      | (with_reducible exact LeO.refl _)
      | (with_reducible exact LeO.none _)
      | (with_reducible refine LeO.ite ?_ ?_)
      | (with_reducible refine LeO.bind ?_ (fun _ => ?_))
      | exact ih0 _ _ _ _
      | exact impl_MemoryOK.mono _ _
      | exact impl_Memory_fault.mono _ _ _ _ _
      | exact LeO.none _
      | refine LeO.ite ?_ ?_
      | refine LeO.bind ?_ (fun _ => ?_)
set_option maxHeartbeats 8000000 in
set_option maxRecDepth 100000 in
theorem impl_PutBytes.calls (k : Nat) (A0_0 : Option Addr) (c0_0 : Nat) (l0_0 : List (S55)) (a1 : Int) (a2 : ByteArray) (r1 : List (S55)) (r2 : Int) (w : World) (hr0_0 : Kd.C k55 w A0_0 l0_0.length l0_0) (hc0_0 : l0_0.length ≤ c0_0) (h : impl_PutBytes.f k l0_0 a1 a2 = some (r1, r2)) :
    Calls Try.prog 31 #[.agg #[.slice A0_0 l0_0.length c0_0], .int .i64 a1, .string a2] w fun e w' => ∃ v0_ : Value, e = .returned (.tuple #[.agg #[v0_], .int .i64 r2]) ∧ Kd.R k55 55 w' w.heap.size (fun _ => True) v0_ r1 ∧ Below w.heap.size w w' := by
  have hu28 := Try.underlying28
  have HR0_0 := Aside0.mk hr0_0
  have HC0_0 := Aside0.mk hc0_0
  clear hr0_0 hc0_0
  have HB := Aside0.mk (Below.refl w.heap.size w)
  have H : (if (a2.size : Int) > 65536 then (some (([] : List (S55)), 2)) else ((impl_MemoryOK.f k l0_0).bind fun t185 => (if t185 = true then (if (a2.size : Int) > 8192 then (impl_PutBytes.j0 k a1 a2 true l0_0) else ((impl_Memory_fault.f k l0_0 a1 (a2.size : Int) 0).bind fun t186 => (impl_PutBytes.j0 k a1 a2 (t186 != 0) l0_0))) else (some (([] : List (S55)), 1))))) = some (r1, r2) := h
  clear h
  by_cases c4 : (a2.size : Int) > 65536
  · rw [if_pos c4] at H
    have c4b0 : decide (65536 < (a2.size : Int)) = true := decide_eq_true c4
    have c4b1 : decide (65536 < a2.size) = true := decide_eq_true (by omega)
    clear c4
    simp only [Option.some.injEq, Prod.mk.injEq] at H
    obtain ⟨rfl, rfl⟩ := H
    go_enter Try.func31, Try.ntmps31
    go_wp2_with (first | ((with_reducible refine gate_dst (N := 3) rfl ?_); (try (refine gate_guard (by rfl) ?_; dsimp only)); refine box_event ?hg (N := 3) ?hd (cs := #[.slice A0_0 l0_0.length c0_0]) (t := 28) ?hr ?_; (case hd => rfl); (case hg => rfl); (case hr => first | (go_simp; done) | (go_simp; rfl)); intro gb183 hg w5 hbox hb; have n0_ := Aside0.mk (below_step (by repeat (first | (with_reducible first | exact HB.out | apply below_alloc | apply pw_below_drewN | apply below_drew1) | exact HB.out)) hb); have n1_ := Aside0.mk (hbox); have n2_ := Aside0.mk ((by rw [hg]; exact (below_size (by repeat (first | (with_reducible first | exact HB.out | apply below_alloc | apply pw_below_drewN | apply below_drew1) | exact HB.out))) : w.heap.size ≤ gb183)); have n3_ := Aside0.mk ((by rw [hg]; exact (below_size (by repeat (first | (with_reducible first | exact HB.out | apply below_alloc | apply pw_below_drewN | apply below_drew1) | exact HB.out))) : w.heap.size ≤ gb183)); clear HB; have HB := n0_; have BK183 := n1_; have GW183 := n2_; have GE183 := n3_; clear n0_ n1_ n2_ n3_; clear hb hbox hg) | ((with_reducible refine gate_dst (N := 6) rfl ?_); (try (refine gate_guard (by rfl) ?_; dsimp only)); refine box_event ?hg (N := 6) ?hd (cs := #[.slice none 0 0]) (t := 28) ?hr ?_; (case hd => rfl); (case hg => rfl); (case hr => first | (go_simp; done) | (go_simp; rfl)); intro gb184 hg w6 hbox hb; have n0_ := Aside0.mk (blk_below (g := gb183) (o := .cells #[.slice A0_0 l0_0.length c0_0] 28 (0, 0)) (by (with_reducible repeat (first | refine blk_drewN ?_ _ | refine blk_drew ?_ | refine blk_alloc ?_ _)); exact BK183.out) hb); have n1_ := Aside0.mk (below_step (by repeat (first | (with_reducible first | exact HB.out | apply below_alloc | apply pw_below_drewN | apply below_drew1 | refine below_set ?_ GE183.out) | exact HB.out)) hb); have n2_ := Aside0.mk (hbox); have n3_ := Aside0.mk ((by rw [hg]; exact (below_size (by repeat (first | (with_reducible first | exact HB.out | apply below_alloc | apply pw_below_drewN | apply below_drew1 | refine below_set ?_ GE183.out) | exact HB.out))) : w.heap.size ≤ gb184)); have n4_ := Aside0.mk ((by rw [hg]; exact (below_size (by repeat (first | (with_reducible first | exact HB.out | apply below_alloc | apply pw_below_drewN | apply below_drew1 | refine below_set ?_ GE183.out) | exact HB.out))) : w.heap.size ≤ gb184)); have n5_ := Aside0.mk ((by rw [hg]; exact Nat.ne_of_lt (blk_lt (g := gb183) (o := .cells #[.slice A0_0 l0_0.length c0_0] 28 (0, 0)) (by (with_reducible repeat (first | refine blk_drewN ?_ _ | refine blk_drew ?_ | refine blk_alloc ?_ _)); exact BK183.out)) : gb183 ≠ gb184)); have n6_ := Aside0.mk ((by rw [hg]; exact Nat.ne_of_gt (blk_lt (g := gb183) (o := .cells #[.slice A0_0 l0_0.length c0_0] 28 (0, 0)) (by (with_reducible repeat (first | refine blk_drewN ?_ _ | refine blk_drew ?_ | refine blk_alloc ?_ _)); exact BK183.out)) : gb184 ≠ gb183)); clear BK183; clear HB; have BK183 := n0_; have HB := n1_; have BK184 := n2_; have GW184 := n3_; have GE184 := n4_; have NB183_184 := n5_; have NB184_183 := n6_; clear n0_ n1_ n2_ n3_ n4_ n5_ n6_; clear hb hbox hg; have hnb7 := NB184_183.out; have hnc7 := NB183_184.out; have hcz8_0 : w6.cell? ⟨gb184, 0, none⟩ = some (.slice none 0 0) := (blk_cell BK184.out 0).trans rfl; have hfz8_0 := blk_frozen BK184.out 0))
    refine bodyPost_ret (results_ct rfl _ _ gb184 28 #[.slice none 0 0] (0, 0) _ rfl (by (with_reducible repeat (first | refine blk_drewN ?_ _ | refine blk_drew ?_ | refine blk_alloc ?_ _)); refine blk_put (cs := #[.slice none 0 0]) ?_ 0 _ rfl; (with_reducible repeat (first | refine blk_drewN ?_ _ | refine blk_drew ?_ | refine blk_alloc ?_ _)); exact BK184.out) Try.underlying28 rfl (by kernel_rfl)) rfl ?_
    exact ⟨_, by first | rfl | (simp [errW_none, errW_some] <;> rfl) | (simp [*, errW_none, errW_some] <;> rfl), by first | exact Kd.R_nil _ _ _ _ _ | exact Kd.N_nil _ _ _ _ _ | exact Kd.V_nil _ _ _ _ _ | exact Kd.Q_nil _ _ _ _ _ | exact Kd.S_nil _ _ _ _ _, by repeat (first | (with_reducible first | exact HB.out | apply below_alloc | apply pw_below_drewN | apply below_drew1 | refine below_set ?_ GE183.out | refine below_set ?_ GE184.out) | exact HB.out)⟩
  · rw [if_neg c4] at H
    have c4b0 : decide (65536 < (a2.size : Int)) = false := decide_eq_false c4
    have c4b1 : decide (65536 < a2.size) = false := decide_eq_false (by omega)
    clear c4
    replace H := Option.bind_eq_some_iff.mp H
    obtain ⟨t185, A90, H⟩ := H
    replace H : (if t185 = true then (if (a2.size : Int) > 8192 then (impl_PutBytes.j0 k a1 a2 true l0_0) else ((impl_Memory_fault.f k l0_0 a1 (a2.size : Int) 0).bind fun t186 => (impl_PutBytes.j0 k a1 a2 (t186 != 0) l0_0))) else (some (([] : List (S55)), 1))) = some (r1, r2) := H
    have A9 := Aside0.mk A90
    clear A90
    by_cases c10 : t185 = true
    · subst c10
      have H1 : (if (a2.size : Int) > 8192 then (impl_PutBytes.j0 k a1 a2 true l0_0) else ((impl_Memory_fault.f k l0_0 a1 (a2.size : Int) 0).bind fun t186 => (impl_PutBytes.j0 k a1 a2 (t186 != 0) l0_0))) = some (r1, r2) := by rw [if_pos rfl] at H; exact H
      clear H
      have H := H1
      clear H1
      have HC11 := Aside0.mk H
      clear H
      go_enter Try.func31, Try.ntmps31
      go_upto_region 5 with (first | ((with_reducible refine gate_dst (N := 3) rfl ?_); (try (refine gate_guard (by rfl) ?_; dsimp only)); refine box_event ?hg (N := 3) ?hd (cs := #[.slice A0_0 l0_0.length c0_0]) (t := 28) ?hr ?_; (case hd => rfl); (case hg => rfl); (case hr => first | (go_simp; done) | (go_simp; rfl)); intro gb183 hg w12 hbox hb; have n0_ := Aside0.mk (below_step (by repeat (first | (with_reducible first | exact HB.out | apply below_alloc | apply pw_below_drewN | apply below_drew1) | exact HB.out)) hb); have n1_ := Aside0.mk (hbox); have n2_ := Aside0.mk ((by rw [hg]; exact (below_size (by repeat (first | (with_reducible first | exact HB.out | apply below_alloc | apply pw_below_drewN | apply below_drew1) | exact HB.out))) : w.heap.size ≤ gb183)); have n3_ := Aside0.mk ((by rw [hg]; exact (below_size (by repeat (first | (with_reducible first | exact HB.out | apply below_alloc | apply pw_below_drewN | apply below_drew1) | exact HB.out))) : w.heap.size ≤ gb183)); clear HB; have HB := n0_; have BK183 := n1_; have GW183 := n2_; have GE183 := n3_; clear n0_ n1_ n2_ n3_; clear hb hbox hg) | ((with_reducible refine gate_dst (N := 6) rfl ?_); (try (refine gate_guard (by rfl) ?_; dsimp only)); refine box_event ?hg (N := 6) ?hd (cs := #[.slice none 0 0]) (t := 28) ?hr ?_; (case hd => rfl); (case hg => rfl); (case hr => first | (go_simp; done) | (go_simp; rfl)); intro gb184 hg w13 hbox hb; have n0_ := Aside0.mk (blk_below (g := gb183) (o := .cells #[.slice A0_0 l0_0.length c0_0] 28 (0, 0)) (by (with_reducible repeat (first | refine blk_drewN ?_ _ | refine blk_drew ?_ | refine blk_alloc ?_ _)); exact BK183.out) hb); have n1_ := Aside0.mk (below_step (by repeat (first | (with_reducible first | exact HB.out | apply below_alloc | apply pw_below_drewN | apply below_drew1 | refine below_set ?_ GE183.out) | exact HB.out)) hb); have n2_ := Aside0.mk (hbox); have n3_ := Aside0.mk ((by rw [hg]; exact (below_size (by repeat (first | (with_reducible first | exact HB.out | apply below_alloc | apply pw_below_drewN | apply below_drew1 | refine below_set ?_ GE183.out) | exact HB.out))) : w.heap.size ≤ gb184)); have n4_ := Aside0.mk ((by rw [hg]; exact (below_size (by repeat (first | (with_reducible first | exact HB.out | apply below_alloc | apply pw_below_drewN | apply below_drew1 | refine below_set ?_ GE183.out) | exact HB.out))) : w.heap.size ≤ gb184)); have n5_ := Aside0.mk ((by rw [hg]; exact Nat.ne_of_lt (blk_lt (g := gb183) (o := .cells #[.slice A0_0 l0_0.length c0_0] 28 (0, 0)) (by (with_reducible repeat (first | refine blk_drewN ?_ _ | refine blk_drew ?_ | refine blk_alloc ?_ _)); exact BK183.out)) : gb183 ≠ gb184)); have n6_ := Aside0.mk ((by rw [hg]; exact Nat.ne_of_gt (blk_lt (g := gb183) (o := .cells #[.slice A0_0 l0_0.length c0_0] 28 (0, 0)) (by (with_reducible repeat (first | refine blk_drewN ?_ _ | refine blk_drew ?_ | refine blk_alloc ?_ _)); exact BK183.out)) : gb184 ≠ gb183)); clear BK183; clear HB; have BK183 := n0_; have HB := n1_; have BK184 := n2_; have GW184 := n3_; have GE184 := n4_; have NB183_184 := n5_; have NB184_183 := n6_; clear n0_ n1_ n2_ n3_ n4_ n5_ n6_; clear hb hbox hg; have hnb14 := NB183_184.out; have hnc14 := NB184_183.out; have hcz15_0 : w13.cell? ⟨gb183, 0, none⟩ = some (.slice A0_0 l0_0.length c0_0) := (blk_cell BK183.out 0).trans rfl; have hfz15_0 := blk_frozen BK183.out 0) | ((with_reducible refine gate_callee (f := 19) rfl ?_); refine goesL_ (some 15) rfl rfl Try.func19 (by kernel_rfl) rfl #[.agg #[.slice A0_0 l0_0.length c0_0]] rfl (by (try simp only [List.map_toArray, List.map_cons, List.map_nil]); first | done | rfl | (simp only [List.length_drop, List.length_take]; rfl)) ?_; (with_reducible refine (impl_MemoryOK.calls k _ _ l0_0 true _ ?side1 ?side2 A9.out).mono ?_); (case side1 => repeat (first | exact (Kd.C_below HR0_0.out HB.out) | (with_reducible refine Kd.C_alloc ?_ _) | (with_reducible refine Kd.C_drewN ?_ _) | (with_reducible refine Kd.C_drew ?_))); (case side2 => exact HC0_0.out); rintro e w16 ⟨rfl, hb⟩; refine ⟨_, rfl, ?_⟩; have n0_ := Aside0.mk (blk_below (g := gb183) (o := .cells #[.slice A0_0 l0_0.length c0_0] 28 (0, 0)) (by (with_reducible repeat (first | refine blk_drewN ?_ _ | refine blk_drew ?_ | refine blk_alloc ?_ _)); exact BK183.out) hb); have n1_ := Aside0.mk (blk_below (g := gb184) (o := .cells #[.slice none 0 0] 28 (0, 0)) (by (with_reducible repeat (first | refine blk_drewN ?_ _ | refine blk_drew ?_ | refine blk_alloc ?_ _)); exact BK184.out) hb); have n2_ := Aside0.mk (below_step (by repeat (first | (with_reducible first | exact HB.out | apply below_alloc | apply pw_below_drewN | apply below_drew1 | refine below_set ?_ GE183.out | refine below_set ?_ GE184.out) | exact HB.out)) hb); clear BK183; clear BK184; clear HB; have BK183 := n0_; have BK184 := n1_; have HB := n2_; clear n0_ n1_ n2_; (try clear hb); (try clear hb2); (try clear hk); (try clear hi)))
      (try simp only [Act.put, List.setIfInBounds_toArray, List.set_cons_zero, List.set_cons_succ])
      go_cut [18] (fun v18 wc => ∃ (kq : Nat) (x18_10 : Bool), v18 = .bool x18_10 ∧ Aside0 (impl_PutBytes.j0 kq a1 a2 x18_10 l0_0 = some (r1, r2)) ∧ Aside0 (kq ≤ k) ∧ Aside0 (wc.heap[gb183]? = some (.cells #[(.slice A0_0 l0_0.length c0_0)] 28 (0, 0))) ∧ Aside0 (wc.heap[gb184]? = some (.cells #[(.slice none 0 0)] 28 (0, 0))) ∧ Aside0 (Below w.heap.size w wc))
      case first =>
        have H := HC11.out
        clear HC11
        by_cases c17 : (a2.size : Int) > 8192
        · rw [if_pos c17] at H
          have c17b0 : decide (8192 < (a2.size : Int)) = true := decide_eq_true c17
          have c17b1 : decide (8192 < a2.size) = true := decide_eq_true (by omega)
          clear c17
          (first | rw [c17b0] | (simp only [i64_w, i32_w]; rw [c17b0]) | skip)
          have H' := Aside0.mk H
          clear H
          go_wp2
          go_meet
          case rel => exact ⟨_, (true), (by first | rfl | (simp; done) | (simp [*]; done)), H', ⟨by first | omega | exact Nat.le_refl _⟩, ⟨by (with_reducible repeat (first | refine blk_drewN ?_ _ | refine blk_drew ?_ | refine blk_alloc ?_ _)); exact BK183.out⟩, ⟨by (with_reducible repeat (first | refine blk_drewN ?_ _ | refine blk_drew ?_ | refine blk_alloc ?_ _)); exact BK184.out⟩, ⟨by repeat (first | (with_reducible first | exact HB.out | apply below_alloc | apply pw_below_drewN | apply below_drew1 | refine below_set ?_ GE183.out | refine below_set ?_ GE184.out) | exact HB.out)⟩⟩
        · rw [if_neg c17] at H
          have c17b0 : decide (8192 < (a2.size : Int)) = false := decide_eq_false c17
          have c17b1 : decide (8192 < a2.size) = false := decide_eq_false (by omega)
          clear c17
          (first | rw [c17b0] | (simp only [i64_w, i32_w]; rw [c17b0]) | skip)
          replace H := Option.bind_eq_some_iff.mp H
          obtain ⟨t186, A180, H⟩ := H
          replace H : (impl_PutBytes.j0 k a1 a2 (t186 != 0) l0_0) = some (r1, r2) := H
          have A18 := Aside0.mk A180
          clear A180
          have H' := Aside0.mk H
          clear H
          have hnb19 := NB183_184.out
          have hnc19 := NB184_183.out
          have hcz20_0 : w16.cell? ⟨gb183, 0, none⟩ = some (.slice A0_0 l0_0.length c0_0) := (blk_cell BK183.out 0).trans rfl
          have hfz20_0 := blk_frozen BK183.out 0
          go_wp2_with (first | (go_at_call 54; (with_reducible refine (impl_Memory_fault.calls k _ _ l0_0 a1 (a2.size : Int) 0 t186 _ ?side1 ?side2 A18.out).mono ?_); (case side1 => repeat (first | exact (Kd.C_below HR0_0.out HB.out) | (with_reducible refine Kd.C_alloc ?_ _) | (with_reducible refine Kd.C_drewN ?_ _) | (with_reducible refine Kd.C_drew ?_))); (case side2 => exact HC0_0.out); rintro e w21 ⟨rfl, hb⟩; have n0_ := Aside0.mk (blk_below (g := gb183) (o := .cells #[.slice A0_0 l0_0.length c0_0] 28 (0, 0)) (by (with_reducible repeat (first | refine blk_drewN ?_ _ | refine blk_drew ?_ | refine blk_alloc ?_ _)); exact BK183.out) hb); have n1_ := Aside0.mk (blk_below (g := gb184) (o := .cells #[.slice none 0 0] 28 (0, 0)) (by (with_reducible repeat (first | refine blk_drewN ?_ _ | refine blk_drew ?_ | refine blk_alloc ?_ _)); exact BK184.out) hb); have n2_ := Aside0.mk (below_step (by repeat (first | (with_reducible first | exact HB.out | apply below_alloc | apply pw_below_drewN | apply below_drew1 | refine below_set ?_ GE183.out | refine below_set ?_ GE184.out) | exact HB.out)) hb); clear BK183; clear BK184; clear HB; have BK183 := n0_; have BK184 := n1_; have HB := n2_; clear n0_ n1_ n2_; (try clear hb); (try clear hb2); (try clear hk); (try clear hi)))
          go_meet
          case rel => exact ⟨_, ((t186 != 0)), (by first | rfl | (simp; done) | (simp [*]; done)), H', ⟨by first | omega | exact Nat.le_refl _⟩, ⟨by (with_reducible repeat (first | refine blk_drewN ?_ _ | refine blk_drew ?_ | refine blk_alloc ?_ _)); exact BK183.out⟩, ⟨by (with_reducible repeat (first | refine blk_drewN ?_ _ | refine blk_drew ?_ | refine blk_alloc ?_ _)); exact BK184.out⟩, ⟨by repeat (first | (with_reducible first | exact HB.out | apply below_alloc | apply pw_below_drewN | apply below_drew1 | refine below_set ?_ GE183.out | refine below_set ?_ GE184.out) | exact HB.out)⟩⟩
      case rest =>
        clear HC11
        try clear c1
        try clear p2
        try clear c3
        try clear c4
        try clear c4b0
        try clear c4b1
        try clear c7
        try clear c10
        try clear c14
        try clear c17
        try clear c17b0
        try clear c17b1
        try clear c19
        try clear hcz15_0
        try clear hcz20_0
        try clear hcz8_0
        try clear hfz15_0
        try clear hfz20_0
        try clear hfz8_0
        obtain ⟨kq, x18_10, rfl, HA, HJ10, BK183, BK184, HB⟩ := hcut
        cases kq with
        | zero => exact absurd HA.out (by simp [impl_PutBytes.j0])
        | succ kj10 =>
          have H := HA.out
          clear HA
          simp only [impl_PutBytes.j0] at H
          by_cases c22 : x18_10 = true
          · subst c22
            have H1 : ((impl_copyMemory.f l0_0).bind fun t187 => (some (t187, 13))) = some (r1, r2) := by rw [if_pos rfl] at H; exact H
            clear H
            have H := H1
            clear H1
            replace H := Option.bind_eq_some_iff.mp H
            obtain ⟨t187, A230, H⟩ := H
            replace H : (some (t187, 13)) = some (r1, r2) := H
            have A23 := Aside0.mk A230
            clear A230
            simp only [Option.some.injEq, Prod.mk.injEq] at H
            obtain ⟨rfl, rfl⟩ := H
            have hnb24 := NB183_184.out
            have hnc24 := NB184_183.out
            have hcz25_0 : wc.cell? ⟨gb183, 0, none⟩ = some (.slice A0_0 l0_0.length c0_0) := (blk_cell BK183.out 0).trans rfl
            have hfz25_0 := blk_frozen BK183.out 0
            go_wp2_with (first | ((with_reducible refine gate_callee (f := 42) rfl ?_); refine goesL_ (some 31) rfl rfl Try.func42 (by kernel_rfl) rfl #[.agg #[.slice A0_0 l0_0.length c0_0]] rfl (by (try simp only [List.map_toArray, List.map_cons, List.map_nil]); first | done | rfl | (simp only [List.length_drop, List.length_take]; rfl)) ?_; (with_reducible refine (impl_copyMemory.calls _ _ l0_0 t187 _ ?side1 ?side2 A23.out).mono ?_); (case side1 => repeat (first | exact (Kd.C_below HR0_0.out HB.out) | (with_reducible refine Kd.C_alloc ?_ _) | (with_reducible refine Kd.C_drewN ?_ _) | (with_reducible refine Kd.C_drew ?_))); (case side2 => exact HC0_0.out); rintro e w26 ⟨v188, rfl, ho0, hb⟩; refine ⟨_, rfl, ?_⟩; have n0_ := Aside0.mk (Kd.R_lower ho0 (below_size (by repeat (first | (with_reducible first | exact HB.out | apply below_alloc | apply pw_below_drewN | apply below_drew1 | refine below_set ?_ GE183.out | refine below_set ?_ GE184.out) | exact HB.out)))); have n1_ := Aside0.mk (blk_below (g := gb183) (o := .cells #[.slice A0_0 l0_0.length c0_0] 28 (0, 0)) (by (with_reducible repeat (first | refine blk_drewN ?_ _ | refine blk_drew ?_ | refine blk_alloc ?_ _)); exact BK183.out) hb); have n2_ := Aside0.mk (blk_below (g := gb184) (o := .cells #[.slice none 0 0] 28 (0, 0)) (by (with_reducible repeat (first | refine blk_drewN ?_ _ | refine blk_drew ?_ | refine blk_alloc ?_ _)); exact BK184.out) hb); have n3_ := Aside0.mk (below_step (by repeat (first | (with_reducible first | exact HB.out | apply below_alloc | apply pw_below_drewN | apply below_drew1 | refine below_set ?_ GE183.out | refine below_set ?_ GE184.out) | exact HB.out)) hb); clear BK183; clear BK184; clear HB; have HO189 := n0_; have BK183 := n1_; have BK184 := n2_; have HB := n3_; clear n0_ n1_ n2_ n3_; (try clear hb); (try clear hb2); (try clear hk); (try clear hi); (try clear ho0); obtain ⟨Ao27, co27, eo27⟩ := Kd.R_slice HO189.out; subst eo27; have hcz28_0 : w26.cell? ⟨gb184, 0, none⟩ = some (.slice none 0 0) := (blk_cell BK184.out 0).trans rfl; have hfz28_0 := blk_frozen BK184.out 0))
            refine bodyPost_ret (results_ct rfl _ _ gb184 28 #[.slice Ao27 t187.length co27] (0, 0) _ rfl (by (with_reducible repeat (first | refine blk_drewN ?_ _ | refine blk_drew ?_ | refine blk_alloc ?_ _)); refine blk_put (cs := #[.slice none 0 0]) ?_ 0 _ rfl; (with_reducible repeat (first | refine blk_drewN ?_ _ | refine blk_drew ?_ | refine blk_alloc ?_ _)); exact BK184.out) Try.underlying28 rfl (by kernel_rfl)) rfl ?_
            exact ⟨_, by first | rfl | (simp [errW_none, errW_some] <;> rfl) | (simp [*, errW_none, errW_some] <;> rfl), by (with_reducible repeat (first | apply Kd.R_alloc | apply Kd.R_drewN | apply Kd.R_drew)); exact Kd.R_mono (Kd.R_far (p := ⟨gb184, 0, none⟩) (Kd.R_types HO189.out BK184.out (by decide)) (fun _ hk => hk.2) (.slice Ao27 t187.length co27)) (fun _ hk => trivial), by repeat (first | (with_reducible first | exact HB.out | apply below_alloc | apply pw_below_drewN | apply below_drew1 | refine below_set ?_ GE183.out | refine below_set ?_ GE184.out) | exact HB.out)⟩
          · replace c22 := Bool.eq_false_iff.mpr c22
            subst c22
            have H1 : ((impl_Memory_lay.f l0_0 a1 a2).bind fun t190 => (some (t190, 0))) = some (r1, r2) := by rw [if_neg (show ¬ (false = true) by decide)] at H; exact H
            clear H
            have H := H1
            clear H1
            replace H := Option.bind_eq_some_iff.mp H
            obtain ⟨t190, A290, H⟩ := H
            replace H : (some (t190, 0)) = some (r1, r2) := H
            have A29 := Aside0.mk A290
            clear A290
            simp only [Option.some.injEq, Prod.mk.injEq] at H
            obtain ⟨rfl, rfl⟩ := H
            have hnb30 := NB183_184.out
            have hnc30 := NB184_183.out
            have hcz31_0 : wc.cell? ⟨gb183, 0, none⟩ = some (.slice A0_0 l0_0.length c0_0) := (blk_cell BK183.out 0).trans rfl
            have hfz31_0 := blk_frozen BK183.out 0
            go_wp2_with (first | ((with_reducible refine gate_callee (f := 59) rfl ?_); refine goesL_ (some 35) rfl rfl Try.func59 (by kernel_rfl) rfl #[.agg #[.slice A0_0 l0_0.length c0_0], .int .i64 a1, .string a2] rfl (by (try simp only [List.map_toArray, List.map_cons, List.map_nil]); first | done | rfl | (simp only [List.length_drop, List.length_take]; rfl)) ?_; (with_reducible refine (impl_Memory_lay.calls _ _ l0_0 a1 a2 t190 _ ?side1 ?side2 A29.out).mono ?_); (case side1 => repeat (first | exact (Kd.C_below HR0_0.out HB.out) | (with_reducible refine Kd.C_alloc ?_ _) | (with_reducible refine Kd.C_drewN ?_ _) | (with_reducible refine Kd.C_drew ?_))); (case side2 => exact HC0_0.out); rintro e w32 ⟨v191, rfl, ho0, hb⟩; refine ⟨_, rfl, ?_⟩; have n0_ := Aside0.mk (Kd.R_lower ho0 (below_size (by repeat (first | (with_reducible first | exact HB.out | apply below_alloc | apply pw_below_drewN | apply below_drew1 | refine below_set ?_ GE183.out | refine below_set ?_ GE184.out) | exact HB.out)))); have n1_ := Aside0.mk (blk_below (g := gb183) (o := .cells #[.slice A0_0 l0_0.length c0_0] 28 (0, 0)) (by (with_reducible repeat (first | refine blk_drewN ?_ _ | refine blk_drew ?_ | refine blk_alloc ?_ _)); exact BK183.out) hb); have n2_ := Aside0.mk (blk_below (g := gb184) (o := .cells #[.slice none 0 0] 28 (0, 0)) (by (with_reducible repeat (first | refine blk_drewN ?_ _ | refine blk_drew ?_ | refine blk_alloc ?_ _)); exact BK184.out) hb); have n3_ := Aside0.mk (below_step (by repeat (first | (with_reducible first | exact HB.out | apply below_alloc | apply pw_below_drewN | apply below_drew1 | refine below_set ?_ GE183.out | refine below_set ?_ GE184.out) | exact HB.out)) hb); clear BK183; clear BK184; clear HB; have HO192 := n0_; have BK183 := n1_; have BK184 := n2_; have HB := n3_; clear n0_ n1_ n2_ n3_; (try clear hb); (try clear hb2); (try clear hk); (try clear hi); (try clear ho0); obtain ⟨Ao33, co33, eo33⟩ := Kd.R_slice HO192.out; subst eo33; have hcz34_0 : w32.cell? ⟨gb184, 0, none⟩ = some (.slice none 0 0) := (blk_cell BK184.out 0).trans rfl; have hfz34_0 := blk_frozen BK184.out 0))
            refine bodyPost_ret (results_ct rfl _ _ gb184 28 #[.slice Ao33 t190.length co33] (0, 0) _ rfl (by (with_reducible repeat (first | refine blk_drewN ?_ _ | refine blk_drew ?_ | refine blk_alloc ?_ _)); refine blk_put (cs := #[.slice none 0 0]) ?_ 0 _ rfl; (with_reducible repeat (first | refine blk_drewN ?_ _ | refine blk_drew ?_ | refine blk_alloc ?_ _)); exact BK184.out) Try.underlying28 rfl (by kernel_rfl)) rfl ?_
            exact ⟨_, by first | rfl | (simp [errW_none, errW_some] <;> rfl) | (simp [*, errW_none, errW_some] <;> rfl), by (with_reducible repeat (first | apply Kd.R_alloc | apply Kd.R_drewN | apply Kd.R_drew)); exact Kd.R_mono (Kd.R_far (p := ⟨gb184, 0, none⟩) (Kd.R_types HO192.out BK184.out (by decide)) (fun _ hk => hk.2) (.slice Ao33 t190.length co33)) (fun _ hk => trivial), by repeat (first | (with_reducible first | exact HB.out | apply below_alloc | apply pw_below_drewN | apply below_drew1 | refine below_set ?_ GE183.out | refine below_set ?_ GE184.out) | exact HB.out)⟩
    · replace c10 := Bool.eq_false_iff.mpr c10
      subst c10
      have H1 : (some (([] : List (S55)), 1)) = some (r1, r2) := by rw [if_neg (show ¬ (false = true) by decide)] at H; exact H
      clear H
      have H := H1
      clear H1
      simp only [Option.some.injEq, Prod.mk.injEq] at H
      obtain ⟨rfl, rfl⟩ := H
      go_enter Try.func31, Try.ntmps31
      go_wp2_with (first | ((with_reducible refine gate_dst (N := 3) rfl ?_); (try (refine gate_guard (by rfl) ?_; dsimp only)); refine box_event ?hg (N := 3) ?hd (cs := #[.slice A0_0 l0_0.length c0_0]) (t := 28) ?hr ?_; (case hd => rfl); (case hg => rfl); (case hr => first | (go_simp; done) | (go_simp; rfl)); intro gb183 hg w35 hbox hb; have n0_ := Aside0.mk (below_step (by repeat (first | (with_reducible first | exact HB.out | apply below_alloc | apply pw_below_drewN | apply below_drew1) | exact HB.out)) hb); have n1_ := Aside0.mk (hbox); have n2_ := Aside0.mk ((by rw [hg]; exact (below_size (by repeat (first | (with_reducible first | exact HB.out | apply below_alloc | apply pw_below_drewN | apply below_drew1) | exact HB.out))) : w.heap.size ≤ gb183)); have n3_ := Aside0.mk ((by rw [hg]; exact (below_size (by repeat (first | (with_reducible first | exact HB.out | apply below_alloc | apply pw_below_drewN | apply below_drew1) | exact HB.out))) : w.heap.size ≤ gb183)); clear HB; have HB := n0_; have BK183 := n1_; have GW183 := n2_; have GE183 := n3_; clear n0_ n1_ n2_ n3_; clear hb hbox hg) | ((with_reducible refine gate_dst (N := 6) rfl ?_); (try (refine gate_guard (by rfl) ?_; dsimp only)); refine box_event ?hg (N := 6) ?hd (cs := #[.slice none 0 0]) (t := 28) ?hr ?_; (case hd => rfl); (case hg => rfl); (case hr => first | (go_simp; done) | (go_simp; rfl)); intro gb184 hg w36 hbox hb; have n0_ := Aside0.mk (blk_below (g := gb183) (o := .cells #[.slice A0_0 l0_0.length c0_0] 28 (0, 0)) (by (with_reducible repeat (first | refine blk_drewN ?_ _ | refine blk_drew ?_ | refine blk_alloc ?_ _)); exact BK183.out) hb); have n1_ := Aside0.mk (below_step (by repeat (first | (with_reducible first | exact HB.out | apply below_alloc | apply pw_below_drewN | apply below_drew1 | refine below_set ?_ GE183.out) | exact HB.out)) hb); have n2_ := Aside0.mk (hbox); have n3_ := Aside0.mk ((by rw [hg]; exact (below_size (by repeat (first | (with_reducible first | exact HB.out | apply below_alloc | apply pw_below_drewN | apply below_drew1 | refine below_set ?_ GE183.out) | exact HB.out))) : w.heap.size ≤ gb184)); have n4_ := Aside0.mk ((by rw [hg]; exact (below_size (by repeat (first | (with_reducible first | exact HB.out | apply below_alloc | apply pw_below_drewN | apply below_drew1 | refine below_set ?_ GE183.out) | exact HB.out))) : w.heap.size ≤ gb184)); have n5_ := Aside0.mk ((by rw [hg]; exact Nat.ne_of_lt (blk_lt (g := gb183) (o := .cells #[.slice A0_0 l0_0.length c0_0] 28 (0, 0)) (by (with_reducible repeat (first | refine blk_drewN ?_ _ | refine blk_drew ?_ | refine blk_alloc ?_ _)); exact BK183.out)) : gb183 ≠ gb184)); have n6_ := Aside0.mk ((by rw [hg]; exact Nat.ne_of_gt (blk_lt (g := gb183) (o := .cells #[.slice A0_0 l0_0.length c0_0] 28 (0, 0)) (by (with_reducible repeat (first | refine blk_drewN ?_ _ | refine blk_drew ?_ | refine blk_alloc ?_ _)); exact BK183.out)) : gb184 ≠ gb183)); clear BK183; clear HB; have BK183 := n0_; have HB := n1_; have BK184 := n2_; have GW184 := n3_; have GE184 := n4_; have NB183_184 := n5_; have NB184_183 := n6_; clear n0_ n1_ n2_ n3_ n4_ n5_ n6_; clear hb hbox hg; have hnb37 := NB183_184.out; have hnc37 := NB184_183.out; have hcz38_0 : w36.cell? ⟨gb183, 0, none⟩ = some (.slice A0_0 l0_0.length c0_0) := (blk_cell BK183.out 0).trans rfl; have hfz38_0 := blk_frozen BK183.out 0) | ((with_reducible refine gate_callee (f := 19) rfl ?_); refine goesL_ (some 15) rfl rfl Try.func19 (by kernel_rfl) rfl #[.agg #[.slice A0_0 l0_0.length c0_0]] rfl (by (try simp only [List.map_toArray, List.map_cons, List.map_nil]); first | done | rfl | (simp only [List.length_drop, List.length_take]; rfl)) ?_; (with_reducible refine (impl_MemoryOK.calls k _ _ l0_0 false _ ?side1 ?side2 A9.out).mono ?_); (case side1 => repeat (first | exact (Kd.C_below HR0_0.out HB.out) | (with_reducible refine Kd.C_alloc ?_ _) | (with_reducible refine Kd.C_drewN ?_ _) | (with_reducible refine Kd.C_drew ?_))); (case side2 => exact HC0_0.out); rintro e w39 ⟨rfl, hb⟩; refine ⟨_, rfl, ?_⟩; have n0_ := Aside0.mk (blk_below (g := gb183) (o := .cells #[.slice A0_0 l0_0.length c0_0] 28 (0, 0)) (by (with_reducible repeat (first | refine blk_drewN ?_ _ | refine blk_drew ?_ | refine blk_alloc ?_ _)); exact BK183.out) hb); have n1_ := Aside0.mk (blk_below (g := gb184) (o := .cells #[.slice none 0 0] 28 (0, 0)) (by (with_reducible repeat (first | refine blk_drewN ?_ _ | refine blk_drew ?_ | refine blk_alloc ?_ _)); exact BK184.out) hb); have n2_ := Aside0.mk (below_step (by repeat (first | (with_reducible first | exact HB.out | apply below_alloc | apply pw_below_drewN | apply below_drew1 | refine below_set ?_ GE183.out | refine below_set ?_ GE184.out) | exact HB.out)) hb); clear BK183; clear BK184; clear HB; have BK183 := n0_; have BK184 := n1_; have HB := n2_; clear n0_ n1_ n2_; (try clear hb); (try clear hb2); (try clear hk); (try clear hi); have hcz40_0 : w39.cell? ⟨gb184, 0, none⟩ = some (.slice none 0 0) := (blk_cell BK184.out 0).trans rfl; have hfz40_0 := blk_frozen BK184.out 0))
      refine bodyPost_ret (results_ct rfl _ _ gb184 28 #[.slice none 0 0] (0, 0) _ rfl (by (with_reducible repeat (first | refine blk_drewN ?_ _ | refine blk_drew ?_ | refine blk_alloc ?_ _)); refine blk_put (cs := #[.slice none 0 0]) ?_ 0 _ rfl; (with_reducible repeat (first | refine blk_drewN ?_ _ | refine blk_drew ?_ | refine blk_alloc ?_ _)); exact BK184.out) Try.underlying28 rfl (by kernel_rfl)) rfl ?_
      exact ⟨_, by first | rfl | (simp [errW_none, errW_some] <;> rfl) | (simp [*, errW_none, errW_some] <;> rfl), by first | exact Kd.R_nil _ _ _ _ _ | exact Kd.N_nil _ _ _ _ _ | exact Kd.V_nil _ _ _ _ _ | exact Kd.Q_nil _ _ _ _ _ | exact Kd.S_nil _ _ _ _ _, by repeat (first | (with_reducible first | exact HB.out | apply below_alloc | apply pw_below_drewN | apply below_drew1 | refine below_set ?_ GE183.out | refine below_set ?_ GE184.out) | exact HB.out)⟩

end Go.Proofs.Ytmldfchddccncaa.PFnExactPutBytes
