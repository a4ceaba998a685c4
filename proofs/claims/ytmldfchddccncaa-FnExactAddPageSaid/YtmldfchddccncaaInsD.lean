/- slices.Insert of one page into a row of one's own: its contract. -/
import Derived.Test.YtmldfchddccncaaInsB
import Derived.Test.YtmldfchddccncaaInsC
set_option linter.unusedVariables false
set_option linter.unusedSimpArgs false
namespace Go.Proofs.Ytmldfchddccncaa.PFnExactAddPage
open Go.RowKit Go.Proofs.YtmldfchddccncaaW.PrintWords Go.Proofs.YtmldfchddccncaaW.PrintLast Go.Proofs.YtmldfchddccncaaW.PrintMore
theorem flat_one {R : S55 → List Value → Prop} (hR : ∀ p c, R p c → c = [.int .i64 p.f0, .int .i64 p.f1, .string p.f2]) {l : List S55} {inner : List Value} (h : Reps R 3 l inner) : ∀ v ∈ inner, v.oneCell' = true :=
  Kd.reps_one h (by decide) (fun p c hc u hu => by
    rw [hR p c hc] at hu
    simp only [List.mem_cons, List.not_mem_nil, or_false] at hu
    rcases hu with rfl | rfl | rfl <;> rfl)
theorem page_one (p : S55) : ∀ v ∈ [Value.int .i64 p.f0, .int .i64 p.f1, .string p.f2], v.oneCell' = true := fun u hu => by
  simp only [List.mem_cons, List.not_mem_nil, or_false] at hu
  rcases hu with rfl | rfl | rfl <;> rfl
theorem reps_in {R R' : S55 → List Value → Prop} (hR : ∀ p c, R p c → c = [.int .i64 p.f0, .int .i64 p.f1, .string p.f2]) (hR' : ∀ p, R' p [.int .i64 p.f0, .int .i64 p.f1, .string p.f2]) {l : List S55} {inner : List Value} (h : Reps R 3 l inner) (i : Nat) (hi : i ≤ l.length) (p : S55) :
    Reps R' 3 (l.take i ++ p :: l.drop i) (inner.take (i * 3) ++ [.int .i64 p.f0, .int .i64 p.f1, .string p.f2] ++ inner.drop (i * 3)) := by
  have h2 : Reps R' 3 l inner := h.imp_ (fun q c hq => by rw [hR q c hq]; exact hR' q)
  have h3 : Reps R' 3 [p] [.int .i64 p.f0, .int .i64 p.f1, .string p.f2] := Reps.c3 (hR' p) (Reps.none _ _)
  have h4 := Kd.reps_append (Kd.reps_append (Kd.reps_take h2 hi) h3) (Kd.reps_drop (m := i) h2)
  rwa [List.append_assoc (l.take i), List.singleton_append] at h4
/-- What the row holds behind the page's coming. -/
theorem inner_in (cur : List Value) (n i : Nat) (hi : i ≤ n) (p : List Value) : (cur.take (n * 3)).take (i * 3) ++ p ++ (cur.take (n * 3)).drop (i * 3) = cur.take (i * 3) ++ p ++ (cur.drop (i * 3)).take ((n - i) * 3) := by
  rw [List.take_take, List.drop_take, show min (i * 3) (n * 3) = i * 3 by omega, show n * 3 - i * 3 = (n - i) * 3 by omega]
set_option maxHeartbeats 4000000 in
set_option maxRecDepth 100000 in
theorem insert_end (base : Nat) (w0 w : World) (A : Option Addr) (c : Nat) (l : List S55) (p : S55) (h : Nat) (HR : Kd.R k55 55 w base (fun _ => True) (.slice A l.length c) l) (HB : Below base w0 w) (hbase : base ≤ w.heap.size) (hl : l.length < 4398046511104)
    (hh : w.heap[h]? = some (.cells #[.int .i64 p.f0, .int .i64 p.f1, .string p.f2] 55 (0, 0))) (hA : (A = none ∧ c = 0 ∧ l.length = 0) ∨ ∃ g, A = some ⟨g, 0, none⟩ ∧ l.length ≤ c) :
    Calls Try.prog 66 #[.slice A l.length c, .int .i64 (l.length : Int), .slice (some ⟨h, 0, none⟩) 1 1] w fun e w' => ∃ v1, e = .returned v1 ∧ Kd.R k55 55 w' base (fun _ => True) v1 (l ++ [p]) ∧ Below base w0 w' ∧ w.grownBy w' (Value.slice A l.length c).ownBlock := by
  have u26 := run_underlying Try.underlying26
  have z55 := Try.sizeOf55
  have hrd : ReadsRow (fun (x : S55) (cs : List Value) => cs = [.int .i64 x.f0, .int .i64 x.f1, .string x.f2]) 3 w (some ⟨h, 0, none⟩) 1 [p] := by
    refine ⟨rfl, by decide, fun _ => ⟨_, rfl, fun j q hj => ?_⟩⟩
    cases j with
    | zero =>
      obtain rfl : p = q := by simpa using hj
      refine ⟨_, rfl, rfl, fun i u hu => ?_⟩
      rw [Addr.add_lit, Nat.zero_add, Nat.zero_mul, Nat.zero_add, cell_of_row w h i _ 55 (0, 0) hh, ← Array.getElem?_toList]
      exact hu
    | succ j => simp at hj
  have HRA := Aside0.mk HR
  have HBA := Aside0.mk HB
  have HSA := Aside0.mk hbase
  have HLA := Aside0.mk hl
  have HRD := Aside0.mk hrd
  clear HR HB hbase hl hrd hh
  rcases hA with ⟨rfl, rfl, h0⟩ | ⟨g, rfl, hlc⟩
  · go_enter Try.func66, Try.ntmps66
    go_wp2_with ((with_reducible refine gate_builtin (b := .append) (xs := #[.tmp 23, .tmp 24]) rfl ?_); at_builtin; refine Kd.R_append_rows k55 (w0 := w0) base rfl (.tmp 23) (.tmp 24) 26 55 (.agg #[(.int .i64 0), (.int .i64 0), (.string ⟨#[]⟩)]) 32 rfl Try.underlying26 info55 rfl (by decide) (by omega) _ l [p] _ _ _ (fun _ => True) (fun _ => False) rfl rfl HRA.out HRD.out (fun x cs hx => by subst hx; exact k55_mkM _ _ _ x) (fun _ h => h.elim) (fun _ _ => trivial) HBA.out HSA.out ?aL ?_; (case aL => have := HLA.out; omega); intro v2 w2 ho hb hg hat; have HO2 := Aside0.mk ho; have HB2 := Aside0.mk hb; have HG2 := Aside0.mk hg; clear ho hb hg hat)
    go_ret
    exact ⟨_, rfl, HO2.out, HB2.out, HG2.out⟩
  · rcases Nat.lt_or_ge l.length c with hq | hq
    · have hq2 : ¬ (c = l.length) := by omega
      go_enter Try.func66, Try.ntmps66
      go_wp2_with ((with_reducible refine gate_builtin (b := .append) (xs := #[.tmp 23, .tmp 24]) rfl ?_); at_builtin; refine Kd.R_append_rows k55 (w0 := w0) base rfl (.tmp 23) (.tmp 24) 26 55 (.agg #[(.int .i64 0), (.int .i64 0), (.string ⟨#[]⟩)]) 32 rfl Try.underlying26 info55 rfl (by decide) (by omega) _ l [p] _ _ _ (fun _ => True) (fun _ => False) rfl rfl HRA.out HRD.out (fun x cs hx => by subst hx; exact k55_mkM _ _ _ x) (fun _ h => h.elim) (fun _ _ => trivial) HBA.out HSA.out ?aL ?_; (case aL => have := HLA.out; omega); intro v2 w2 ho hb hg hat; have HO2 := Aside0.mk ho; have HB2 := Aside0.mk hb; have HG2 := Aside0.mk hg; clear ho hb hg hat)
      go_ret
      exact ⟨_, rfl, HO2.out, HB2.out, HG2.out⟩
    · obtain rfl : c = l.length := by omega
      go_enter Try.func66, Try.ntmps66
      go_wp2_with ((with_reducible refine gate_builtin (b := .append) (xs := #[.tmp 23, .tmp 24]) rfl ?_); at_builtin; refine Kd.R_append_rows k55 (w0 := w0) base rfl (.tmp 23) (.tmp 24) 26 55 (.agg #[(.int .i64 0), (.int .i64 0), (.string ⟨#[]⟩)]) 32 rfl Try.underlying26 info55 rfl (by decide) (by omega) _ l [p] _ _ _ (fun _ => True) (fun _ => False) rfl rfl HRA.out HRD.out (fun x cs hx => by subst hx; exact k55_mkM _ _ _ x) (fun _ h => h.elim) (fun _ _ => trivial) HBA.out HSA.out ?aL ?_; (case aL => have := HLA.out; omega); intro v2 w2 ho hb hg hat; have HO2 := Aside0.mk ho; have HB2 := Aside0.mk hb; have HG2 := Aside0.mk hg; clear ho hb hg hat)
      go_ret
      exact ⟨_, rfl, HO2.out, HB2.out, HG2.out⟩
theorem insert_calls (base : Nat) (w0 w : World) (v : Value) (l : List S55) (p : S55) (h i : Nat) (HR : Kd.R k55 55 w base (fun _ => True) v l) (HB : Below base w0 w) (hbase : base ≤ w.heap.size) (hi : i ≤ l.length) (hl : l.length < 4398046511104)
    (hh : w.heap[h]? = some (.cells #[.int .i64 p.f0, .int .i64 p.f1, .string p.f2] 55 (0, 0))) (hne : ∀ k, v.ownBlock = some k → h ≠ k) :
    Calls Try.prog 66 #[v, .int .i64 (i : Int), .slice (some ⟨h, 0, none⟩) 1 1] w fun e w' => ∃ v1, e = .returned v1 ∧ Kd.R k55 55 w' base (fun _ => True) v1 (l.take i ++ p :: l.drop i) ∧ Below base w0 w' ∧ w.grownBy w' v.ownBlock := by
  have HR0 := HR
  obtain ⟨hok, inner, ⟨hlen, hown⟩, hreps⟩ := HR
  have hop : ∀ {b2 : Nat} {ok2 : Nat → Prop} {W : World} (q : S55) (cs : List Value), k55.M W b2 ok2 q cs → cs = [.int .i64 q.f0, .int .i64 q.f1, .string q.f2] := fun q cs hq => k55_openM hq
  rcases Nat.lt_or_ge i l.length with hlt | hge
  · rcases hown with ⟨_, h0⟩ | ⟨g, cap, cur, rfl, hbg, hg, hnc, hcap, hsz, htk⟩
    · omega
    have hone : ∀ u ∈ cur.toList.take (l.length * 3), u.oneCell' = true := by
      have := flat_one hop hreps
      rw [← htk] at this
      exact this
    have hin := inner_in cur.toList l.length i hi [.int .i64 p.f0, .int .i64 p.f1, .string p.f2]
    have hsz' : cur.size = cap * 3 := hsz
    have htk' : cur.toList.take (l.length * 3) = inner := htk
    rw [htk'] at hin
    have hil : inner.length = l.length * 3 := hlen
    have hql : (inner.take (i * 3) ++ [Value.int .i64 p.f0, .int .i64 p.f1, .string p.f2] ++ inner.drop (i * 3)).length = (l.length + 1) * 3 := by
      simp only [List.length_append, List.length_take, List.length_drop, hil, List.length_cons, List.length_nil, Nat.min_def]
      split <;> omega
    have hc63 : cap ≤ 9223372036854775807 := by unfold maxLen at hcap; omega
    have hll : (l.take i ++ p :: l.drop i).length = l.length + 1 := by rw [List.length_append, List.length_cons, List.length_take, List.length_drop]; simp only [Nat.min_def]; split <;> omega
    rcases Nat.lt_or_ge cap (l.length + 1) with hno | hroom
    · refine (insert_grow w g h l.length cap i cur _ _ _ hg hh hlt hnc hno (by omega) hsz' hone (page_one p)).mono fun e w' hq => ?_
      obtain ⟨G, R, rfl, h1, h2, h3, h4, h5, h6⟩ := hq
      refine ⟨_, rfl, ⟨fun _ _ => trivial, _, ⟨?_, .inr ⟨w.heap.size, G, R, by rw [hll], hbase, h3, by rw [hll]; exact h1, h2, h4, ?_⟩⟩, reps_in (R' := k55.M w' base _) hop (fun q => k55_mkM _ _ _ q) hreps i hi p⟩, HB.trans (h6.mono hbase), ⟨h6.os, h6.tape, h6.output, h6.size, fun k hk _ => h6.block k hk⟩⟩
      · rw [hll]; exact hql
      · rw [hll]; exact h5.trans hin.symm
    · refine (insert_shift w g h l.length cap i cur _ _ _ hg hh (hne g rfl) hlt hroom hc63 hsz' hone (page_one p)).mono fun e w' hq => ?_
      obtain ⟨rfl, rfl⟩ := hq
      have hcl : cur.toList.length = cap * 3 := by rw [Array.length_toList, hsz']
      have hps : (putIn cur.toList l.length i [.int .i64 p.f0, .int .i64 p.f1, .string p.f2]).length = cap * 3 := by
        unfold putIn
        simp only [List.length_append, List.length_take, List.length_drop, hcl, List.length_cons, List.length_nil, Nat.min_def]
        split <;> (try split) <;> omega
      have hpt : (putIn cur.toList l.length i [.int .i64 p.f0, .int .i64 p.f1, .string p.f2]).take ((l.length + 1) * 3) = cur.toList.take (i * 3) ++ [.int .i64 p.f0, .int .i64 p.f1, .string p.f2] ++ (cur.toList.drop (i * 3)).take ((l.length - i) * 3) := by
        unfold putIn
        rw [List.take_left' (by
          simp only [List.length_append, List.length_take, List.length_drop, hcl, List.length_cons, List.length_nil, Nat.min_def]
          split <;> (try split) <;> omega)]
      refine ⟨_, rfl, ⟨fun _ _ => trivial, _, ⟨?_, .inr ⟨g, cap, _, by rw [hll], hbg, setRow_heap w.drew g cur _ 55 (0, 0) hg, by rw [hll]; exact hroom, hcap, ?_, ?_⟩⟩, reps_in (R' := k55.M _ base _) hop (fun q => k55_mkM _ _ _ q) hreps i hi p⟩, below_setRow (below_drew1 HB) hbg _, ⟨rfl, rfl, rfl, by rw [setRow_size]; exact Nat.le_refl _, fun k hk hkn => setRow_other w.drew g k _ (fun e => hkn (by rw [e]; rfl))⟩⟩
      · rw [hll]; exact hql
      · show (putIn _ _ _ _).toArray.size = _; rw [List.size_toArray]; exact hps
      · rw [hll]; exact hpt.trans hin.symm
  · obtain rfl : i = l.length := by omega
    obtain ⟨A, c, rfl⟩ := Kd.R_slice HR0
    rw [List.take_length, List.drop_length]
    refine insert_end base w0 w A c l p h HR0 HB hbase hl hh ?_
    rcases hown with ⟨e, h0⟩ | ⟨g, cap, cur, e, hbg, hg, hnc, hcap, hsz, htk⟩
    · simp only [Value.slice.injEq] at e
      exact .inl ⟨e.1, e.2.2, h0⟩
    · simp only [Value.slice.injEq] at e
      exact .inr ⟨g, e.1, by rw [e.2.2]; exact hnc⟩
end Go.Proofs.Ytmldfchddccncaa.PFnExactAddPage
