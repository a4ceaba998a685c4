-- Written for this claim by the session's own program, out of the translation. Not trusted: Lean checks it.
import Derived.Test.YtgipadecllofkaaPFnExactSetRegx0
import Derived.Test.YtgipadecllofkaaPFnExactSetRegx1
namespace Go.Proofs.Ytgipadecllofkaa.PFnExactSetReg
open Go.RowKit Go.Proofs.YtgipadecllofkaaW.PrintWords Go.Proofs.YtgipadecllofkaaW.PrintLast Go.Proofs.YtgipadecllofkaaW.PrintMore
attribute [local go_sem] max2_int min2_int max_two min_two max_three min_three max_four min_four   -- for this text's walks alone
set_option linter.unusedVariables false
set_option linter.unusedSimpArgs false

/-! ### impl_SetReg: function 21 -/
theorem cpu_len2 (x : List Int) (hx : x.length = 16) (i : Nat) (n a b : Int) : (x.set i n ++ [a, b]).length = 18 := by rw [List.length_append, List.length_set, hx]; rfl
set_option maxHeartbeats 4000000 in
set_option maxRecDepth 100000 in
theorem impl_SetReg.bad1 (x : List Int) (p q : Int) (hx : x.length = 16) (a1 a2 v : Int) (w : World) (h1 : impl_areFlags.f q = some false) :
    Calls Try.prog 21 #[.agg (cellsI (x ++ [p, q])), .int .i64 a1, .int .i64 a2, .int .i64 v] w fun e w' => e = .returned (.tuple #[.agg (cellsI ((List.replicate 16 0 ++ [0, 0]))), .int .i64 1]) ∧ Below w.heap.size w w' := by
  have hu3 := Try.underlying40
  have hz : Aside0 (∀ o : List Int, o.length = 18 → (Try.prog.info? 40).map (·.size) = some (cellsI o).size) := ⟨fun o h => by rw [cellsI_size, h]; kernel_rfl⟩
  have HH := Aside0.mk (SetHolds.start w 40 (x ++ [p, q]) (List.replicate 16 0 ++ [0, 0]))

  have H1 := Aside0.mk h1
  clear h1
  go_enter Try.func21, Try.ntmps21
  go_wp2_with (first | (refine wpList_load_row rfl 40 _ rfl w.heap.size rfl 40 (cellsI (x ++ [p, q])) (0, 0) _ HH.out.b1 hu3 rfl (hz.out _ (cpu_len x hx p q)) ?_) | (go_at_call 52; refine (impl_CpuOK.calls x p q hx _ _ H1.out).mono ?_; rintro e w1 ⟨rfl, hb⟩; replace HH := Aside0.mk (HH.out.below hb); clear hb) | (refine wpList_store_row rfl 40 _ _ rfl (w.heap.size + 1) (cellsI (List.replicate 16 0 ++ [0, 0])) rfl rfl 40 _ HH.out.b2 (hz.out _ rfl) rfl (cellsI_all _) ?_))
  have HS := Aside0.mk (HH.out.row ((List.replicate 16 0 ++ [0, 0])))
  refine bodyPost_ret (results_ct rfl _ _ (w.heap.size + 1) 40 (cellsI ((List.replicate 16 0 ++ [0, 0]))) (0, 0) _ rfl HS.out.b2 hu3 rfl (hz.out _ rfl)) rfl ?_
  exact ⟨rfl, HS.out.bel⟩
set_option maxHeartbeats 4000000 in
set_option maxRecDepth 100000 in
theorem impl_SetReg.bad4 (x : List Int) (p q : Int) (hx : x.length = 16) (a1 a2 v : Int) (w : World) (h1 : impl_areFlags.f q = some true) (h2 : impl_isReg.f a1 a2 = some false) :
    Calls Try.prog 21 #[.agg (cellsI (x ++ [p, q])), .int .i64 a1, .int .i64 a2, .int .i64 v] w fun e w' => e = .returned (.tuple #[.agg (cellsI ((List.replicate 16 0 ++ [0, 0]))), .int .i64 4]) ∧ Below w.heap.size w w' := by
  have hu3 := Try.underlying40
  have hz : Aside0 (∀ o : List Int, o.length = 18 → (Try.prog.info? 40).map (·.size) = some (cellsI o).size) := ⟨fun o h => by rw [cellsI_size, h]; kernel_rfl⟩
  have HH := Aside0.mk (SetHolds.start w 40 (x ++ [p, q]) (List.replicate 16 0 ++ [0, 0]))

  have H1 := Aside0.mk h1
  have H2 := Aside0.mk h2
  clear h1 h2
  go_enter Try.func21, Try.ntmps21
  go_wp2_with (first | (refine wpList_load_row rfl 40 _ rfl w.heap.size rfl 40 (cellsI (x ++ [p, q])) (0, 0) _ HH.out.b1 hu3 rfl (hz.out _ (cpu_len x hx p q)) ?_) | (go_at_call 52; refine (impl_CpuOK.calls x p q hx _ _ H1.out).mono ?_; rintro e w1 ⟨rfl, hb⟩; replace HH := Aside0.mk (HH.out.below hb); clear hb) | (go_at_call 45; refine (impl_isReg.calls _ _ _ _ H2.out).mono ?_; rintro e w1 ⟨rfl, hb⟩; replace HH := Aside0.mk (HH.out.below hb.below); clear hb) | (refine wpList_store_row rfl 40 _ _ rfl (w.heap.size + 1) (cellsI (List.replicate 16 0 ++ [0, 0])) rfl rfl 40 _ HH.out.b2 (hz.out _ rfl) rfl (cellsI_all _) ?_))
  have HS := Aside0.mk (HH.out.row ((List.replicate 16 0 ++ [0, 0])))
  refine bodyPost_ret (results_ct rfl _ _ (w.heap.size + 1) 40 (cellsI ((List.replicate 16 0 ++ [0, 0]))) (0, 0) _ rfl HS.out.b2 hu3 rfl (hz.out _ rfl)) rfl ?_
  exact ⟨rfl, HS.out.bel⟩
set_option maxHeartbeats 4000000 in
set_option maxRecDepth 100000 in
theorem impl_SetReg.good (x : List Int) (p q : Int) (hx : x.length = 16) (a1 a2 v : Int) (w : World) (h1 : impl_areFlags.f q = some true) (h2 : impl_isReg.f a1 a2 = some true) (i : Nat) (hi : i < 16) (n : Int) (hc : ∀ (g : Nat) (W : World), W.heap[g]? = some (.cells (cellsI (x ++ [p, q])) 40 (0, 0)) → Calls Try.prog 57 #[.pointer (some ⟨g, 0, none⟩), .int .i64 a1, .int .i64 a2, .int .i64 v] W fun e w' => e = .returned (.tuple #[]) ∧ ∃ w2, Below W.heap.size W w2 ∧ w' = w2.setCell ⟨g, i, none⟩ (.int .i64 n)) :
    Calls Try.prog 21 #[.agg (cellsI (x ++ [p, q])), .int .i64 a1, .int .i64 a2, .int .i64 v] w fun e w' => e = .returned (.tuple #[.agg (cellsI (x.set i n ++ [p, q])), .int .i64 0]) ∧ Below w.heap.size w w' := by
  have hu3 := Try.underlying40
  have hz : Aside0 (∀ o : List Int, o.length = 18 → (Try.prog.info? 40).map (·.size) = some (cellsI o).size) := ⟨fun o h => by rw [cellsI_size, h]; kernel_rfl⟩
  have HH := Aside0.mk (SetHolds.start w 40 (x ++ [p, q]) (List.replicate 16 0 ++ [0, 0]))
  have H1 := Aside0.mk h1
  have H2 := Aside0.mk h2
  have HC := Aside0.mk hc
  clear h1 h2 hc
  go_enter Try.func21, Try.ntmps21
  go_wp2_with (first | (refine wpList_load_row rfl 40 _ rfl w.heap.size rfl 40 (cellsI (x ++ [p, q])) (0, 0) _ HH.out.b1 hu3 rfl (hz.out _ (cpu_len x hx p q)) ?_) | (go_at_call 52; refine (impl_CpuOK.calls x p q hx _ _ H1.out).mono ?_; rintro e w1 ⟨rfl, hb⟩; replace HH := Aside0.mk (HH.out.below hb); clear hb) | (go_at_call 45; refine (impl_isReg.calls _ _ _ _ H2.out).mono ?_; rintro e w1 ⟨rfl, hb⟩; replace HH := Aside0.mk (HH.out.below hb.below); clear hb) | (go_at_call 57; refine (HC.out _ _ HH.out.b1).mono ?_; rintro e w1 ⟨rfl, w2, hb, rfl⟩; replace HH := Aside0.mk ((HH.out.below hb).step i n); rw [cpu_set x hx p q n i hi] at HH; clear hb) | (refine wpList_load_row rfl 40 _ rfl w.heap.size rfl 40 (cellsI (x.set i n ++ [p, q])) (0, 0) _ HH.out.b1 hu3 rfl (hz.out _ (cpu_len2 x hx i n p q)) ?_) | (refine wpList_store_row rfl 40 _ _ rfl (w.heap.size + 1) (cellsI (x.set i n ++ [p, q])) rfl rfl 40 _ HH.out.b2 (hz.out _ (cpu_len2 x hx i n p q)) (by rw [cellsI_size, cellsI_size, cpu_len2 x hx]; rfl) (cellsI_all _) ?_))
  have HS := Aside0.mk (HH.out.row (x.set i n ++ [p, q]))
  refine bodyPost_ret (results_ct rfl _ _ (w.heap.size + 1) 40 (cellsI (x.set i n ++ [p, q])) (0, 0) _ rfl HS.out.b2 hu3 rfl (hz.out _ (cpu_len2 x hx i n p q))) rfl ?_
  exact ⟨rfl, HS.out.bel⟩


/-! ### laws_eqIntA16: function 58 -/
structure Eq16Holds (w W : World) (T : TypeId) (x : List Int) : Prop where
  b1 : W.heap[w.heap.size]? = some (.cells (cellsI x) T (0, 0))
  b2 : W.heap[w.heap.size + 1]? = some (.cells (cellsI x) T (0, 0))
  bel : Below w.heap.size w W
theorem Eq16Holds.start (w : World) (T : TypeId) (x : List Int) : Eq16Holds w ((w.alloc (.cells (cellsI x) T)).alloc (.cells (cellsI x) T)) T x := by
  have h1 := blk_below (blk_new w (.cells (cellsI x) T)) (below_alloc (Below.refl _ _) (.cells (cellsI x) T))
  have h2 := blk_new (w.alloc (.cells (cellsI x) T)) (.cells (cellsI x) T)
  rw [World.size_alloc] at h2
  exact ⟨h1, h2, below_alloc (below_alloc (Below.refl _ _) _) _⟩
theorem Eq16Holds.below {w W W1 : World} {T : TypeId} {x : List Int} (h : Eq16Holds w W T x) (hb : Below W.heap.size W W1) : Eq16Holds w W1 T x :=
  ⟨blk_below h.b1 hb, blk_below h.b2 hb, below_step h.bel hb⟩
set_option maxHeartbeats 4000000 in
set_option maxRecDepth 100000 in
theorem laws_eqIntA16.calls (x : List Int) (hx : x.length = 16) (w : World) :
    Calls Try.prog 58 #[.agg (cellsI x), .agg (cellsI x)] w fun e w' => e = .returned (.bool true) ∧ Below w.heap.size w w' := by
  have hu := Try.underlying35
  have HH := Aside0.mk (Eq16Holds.start w 35 x)
  go_enter Try.func58, Try.ntmps58
  go_wp2
  go_loopg [5] 16 (fun kq va w' => ∃ i : Nat, va = .int .i64 (i : Int) ∧ Aside0 (i + kq = 16) ∧ Aside0 (Eq16Holds w w' 35 x))
  case atStart => exact ⟨0, rfl, ⟨rfl⟩, HH⟩
  case round =>
    clear HH
    obtain ⟨i, rfl, HI, HH⟩ := hrel
    cases gk with
    | zero =>
      have hi : i = 16 := by have := HI.out; omega
      subst hi
      have d0 : decide ((16 : Int) < 16) = false := rfl
      go_wp2
      go_ret
      exact ⟨rfl, HH.out.bel⟩
    | succ k1 =>
      have hi : i < 16 := by have := HI.out; omega
      have d0 : decide ((i : Int) < 16) = true := decide_eq_true (by omega)
      have i0 : (0 : Int) ≤ (i : Int) := by omega
      have i1 : (i : Int) < 16 := by omega
      have hc1 := (blk_cell HH.out.b1 i).trans (cellsI_get x i (by omega))
      have hc2 := (blk_cell HH.out.b2 i).trans (cellsI_get x i (by omega))
      go_wp2
      go_quiet (fail)
      go_wp2
      go_roundg k1
      case measure => omega
      case rel => exact ⟨i + 1, by first | rfl | (simp; done) | go_num, ⟨by have := HI.out; omega⟩, ⟨HH.out.below (by repeat (first | exact Below.refl _ _ | apply pw_below_drewN | apply below_drew1))⟩⟩


/-! ### laws_eqCpu: function 22 -/
set_option maxHeartbeats 4000000 in
set_option maxRecDepth 100000 in
theorem laws_eqCpu.calls (x : List Int) (p q : Int) (hx : x.length = 16) (w : World) :
    Calls Try.prog 22 #[.agg (cellsI (x ++ [p, q])), .agg (cellsI (x ++ [p, q]))] w fun e w' => e = .returned (.bool true) ∧ Below w.heap.size w w' := by
  have hu := Aside0.mk Try.underlying35
  have hu3 := Try.underlying40
  have hz : Aside0 ((Try.prog.info? 35).map (·.size) = some (x.map (fun n => Value.int .i64 n)).length) := ⟨by rw [List.length_map, hx]; kernel_rfl⟩
  have HH := Aside0.mk (Eq16Holds.start w 40 (x ++ [p, q]))
  go_enter Try.func22, Try.ntmps22
  go_wp2_with (first | (refine wpList_load_mid rfl 35 _ rfl w.heap.size 0 rfl (x.map (fun n => Value.int .i64 n)) _ (range_of HH.out.b1) hu.out rfl hz.out ?_) | (refine wpList_load_mid rfl 35 _ rfl (w.heap.size + 1) 0 rfl (x.map (fun n => Value.int .i64 n)) _ (range_of HH.out.b2) hu.out rfl hz.out ?_) | (go_at_call 58; refine (laws_eqIntA16.calls x hx _).mono ?_; rintro e w1 ⟨rfl, hb⟩; have H1 := Aside0.mk (HH.out.below hb); have c1 := (blk_cell H1.out.b1 16).trans (cpu_get16 x hx p q); have c2 := (blk_cell H1.out.b1 17).trans (cpu_get17 x hx p q); have c3 := (blk_cell H1.out.b2 16).trans (cpu_get16 x hx p q); have c4 := (blk_cell H1.out.b2 17).trans (cpu_get17 x hx p q); clear hb))
  go_ret
  exact ⟨rfl, H1.out.bel⟩


/-! ### laws_FnExactSetReg: function 7 -/
theorem alloc_row (w1 : World) (T : TypeId) (z y : List Int) :
    ((w1.alloc (.cells (cellsI z) T)).setRow w1.heap.size (cellsI y)).heap[w1.heap.size]? = some (.cells (cellsI y) T (0, 0)) ∧
    (∀ (g : Nat) (o : Obj), w1.heap[g]? = some o → ((w1.alloc (.cells (cellsI z) T)).setRow w1.heap.size (cellsI y)).heap[g]? = some o) ∧
    (∀ (B : Nat) (w : World), B ≤ w1.heap.size → Below B w w1 → Below B w ((w1.alloc (.cells (cellsI z) T)).setRow w1.heap.size (cellsI y))) := by
  refine ⟨setRow_heap _ _ _ (cellsI y) _ _ (blk_new w1 (.cells (cellsI z) T)), fun g o h => ?_, fun B w hB hb => ?_⟩
  · exact (setRow_other _ w1.heap.size _ (cellsI y) (Nat.ne_of_lt (blk_lt h))).trans (blk_below h (below_alloc (Below.refl _ _) (.cells (cellsI z) T)))
  · exact belowRow (hb.trans ((below_alloc (Below.refl w1.heap.size w1) (.cells (cellsI z) T)).mono hB)) hB (cellsI y)
set_option maxHeartbeats 4000000 in
set_option maxRecDepth 100000 in
theorem laws_FnExactSetReg.calls (x : List Int) (p q : Int) (hx : x.length = 16) (a1 a2 a3 : Int) (y : List Int) (p2 q2 : Int) (hy : y.length = 16) (rc : Int) (w : World)
    (hS : ∀ W : World, Calls Try.prog 20 #[.agg (cellsI (x ++ [p, q])), .int .i64 a1, .int .i64 a2, .int .i64 a3] W fun e w' => e = .returned (.tuple #[.agg (cellsI (y ++ [p2, q2])), .int .i64 rc]) ∧ Below W.heap.size W w')
    (hI : ∀ W : World, Calls Try.prog 21 #[.agg (cellsI (x ++ [p, q])), .int .i64 a1, .int .i64 a2, .int .i64 a3] W fun e w' => e = .returned (.tuple #[.agg (cellsI (y ++ [p2, q2])), .int .i64 rc]) ∧ Below W.heap.size W w') :
    Calls Try.prog 7 #[.agg (cellsI (x ++ [p, q])), .int .i64 a1, .int .i64 a2, .int .i64 a3] w fun e w' => e = .returned (.bool true) ∧ Below w.heap.size w w' := by
  have hu := Try.underlying37
  have hu3 := Try.underlying40
  have hz7 : Aside0 ((Try.prog.info? 37).map (·.size) = some (cellsI (x ++ [p, q])).size) := ⟨by rw [cpu_size x hx]; kernel_rfl⟩
  have hz : Aside0 (∀ o : List Int, o.length = 18 → (Try.prog.info? 40).map (·.size) = some (cellsI o).size) := ⟨fun o h => by rw [cellsI_size, h]; kernel_rfl⟩
  have HB := Aside0.mk (blk_new w (.cells (cellsI (x ++ [p, q])) 37))
  have HL := Aside0.mk (below_alloc (Below.refl w.heap.size w) (.cells (cellsI (x ++ [p, q])) 37))
  have HS := Aside0.mk hS
  have HI := Aside0.mk hI
  clear hS hI
  go_enter Try.func7, Try.ntmps7
  go_wp2_with (first | (refine wpList_load_row rfl 37 _ rfl w.heap.size rfl 37 (cellsI (x ++ [p, q])) (0, 0) _ HB.out hu rfl hz7.out ?_) | (go_at_call 16; refine (laws_toCpu.calls x p q hx _).mono ?_; rintro e w1 ⟨rfl, hb⟩; replace HB := Aside0.mk (blk_below HB.out hb); replace HL := Aside0.mk (below_step HL.out hb); (try replace G1 := Aside0.mk (blk_below G1.out hb)); (try replace G2 := Aside0.mk (blk_below G2.out hb)); clear hb) | (go_at_call 20; refine (HS.out _).mono ?_; rintro e w1 ⟨rfl, hb⟩; replace HB := Aside0.mk (blk_below HB.out hb); replace HL := Aside0.mk (below_step HL.out hb); (try replace G1 := Aside0.mk (blk_below G1.out hb)); (try replace G2 := Aside0.mk (blk_below G2.out hb)); clear hb) | (go_at_call 21; refine (HI.out _).mono ?_; rintro e w1 ⟨rfl, hb⟩; replace HB := Aside0.mk (blk_below HB.out hb); replace HL := Aside0.mk (below_step HL.out hb); (try replace G1 := Aside0.mk (blk_below G1.out hb)); (try replace G2 := Aside0.mk (blk_below G2.out hb)); clear hb) | (change wpList _ _ _ _ _ (w1.alloc (.cells (cellsI (List.replicate 16 0 ++ [0, 0])) 40)); refine wpList_store_row rfl 40 _ _ rfl w1.heap.size (cellsI (y ++ [p2, q2])) rfl rfl 40 _ (blk_new w1 (.cells (cellsI (List.replicate 16 0 ++ [0, 0])) 40)) (hz.out _ (cpu_len y hy p2 q2)) (by rw [cellsI_size, cellsI_size, cpu_len y hy]; rfl) (cellsI_all _) ?_; obtain ⟨h1, h2, h3⟩ := alloc_row w1 40 (List.replicate 16 0 ++ [0, 0]) (y ++ [p2, q2]); generalize (w1.alloc (.cells (cellsI (List.replicate 16 0 ++ [0, 0])) 40)).setRow w1.heap.size (cellsI (y ++ [p2, q2])) = w3 at *; replace HL := Aside0.mk (h3 _ _ (Nat.le_of_lt (blk_lt HB.out)) HL.out); replace HB := Aside0.mk (h2 _ _ HB.out); replace G1 := Aside0.mk (h2 _ _ G1.out); have G2 := Aside0.mk h1; clear h1 h2 h3; generalize w1.heap.size = g2 at *) | (change wpList _ _ _ _ _ (w1.alloc (.cells (cellsI (List.replicate 16 0 ++ [0, 0])) 40)); refine wpList_store_row rfl 40 _ _ rfl w1.heap.size (cellsI (y ++ [p2, q2])) rfl rfl 40 _ (blk_new w1 (.cells (cellsI (List.replicate 16 0 ++ [0, 0])) 40)) (hz.out _ (cpu_len y hy p2 q2)) (by rw [cellsI_size, cellsI_size, cpu_len y hy]; rfl) (cellsI_all _) ?_; obtain ⟨h1, h2, h3⟩ := alloc_row w1 40 (List.replicate 16 0 ++ [0, 0]) (y ++ [p2, q2]); generalize (w1.alloc (.cells (cellsI (List.replicate 16 0 ++ [0, 0])) 40)).setRow w1.heap.size (cellsI (y ++ [p2, q2])) = w3 at *; replace HL := Aside0.mk (h3 _ _ (Nat.le_of_lt (blk_lt HB.out)) HL.out); replace HB := Aside0.mk (h2 _ _ HB.out); have G1 := Aside0.mk h1; clear h1 h2 h3; generalize w1.heap.size = g1 at *) | (refine wpList_load_row rfl 40 _ rfl g2 rfl 40 (cellsI (y ++ [p2, q2])) (0, 0) _ G2.out hu3 rfl (hz.out _ (cpu_len y hy p2 q2)) ?_) | (refine wpList_load_row rfl 40 _ rfl g1 rfl 40 (cellsI (y ++ [p2, q2])) (0, 0) _ G1.out hu3 rfl (hz.out _ (cpu_len y hy p2 q2)) ?_) | (go_at_call 22; refine (laws_eqCpu.calls y p2 q2 hy _).mono ?_; rintro e w1 ⟨rfl, hb⟩; replace HB := Aside0.mk (blk_below HB.out hb); replace HL := Aside0.mk (below_step HL.out hb); (try replace G1 := Aside0.mk (blk_below G1.out hb)); (try replace G2 := Aside0.mk (blk_below G2.out hb)); clear hb))
  go_ret
  exact ⟨rfl, HL.out⟩


end Go.Proofs.Ytgipadecllofkaa.PFnExactSetReg
