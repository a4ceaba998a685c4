/- Rows of whole numbers as cells of memory: what the walks of the processor's records hold. -/
import Derived.Test.YtmldfchddccncaaWWords
import Derived.Test.YtmldfchddccncaaWMore
import Derived.Deep.MidRow
set_option linter.unusedVariables false
namespace Go.Proofs.YtmldfchddccncaaW.PrintWords
open Go.RowKit
/-- A row of whole numbers, as cells. -/
abbrev cellsI (x : List Int) : Array Value := (x.map (fun n => Value.int .i64 n)).toArray
theorem cellsI_size (x : List Int) : (cellsI x).size = x.length := by simp [cellsI]
theorem cellsI_get (x : List Int) (i : Nat) (h : i < x.length) : (cellsI x)[i]? = some (.int .i64 (rdOf 0 x i)) := by
  simp [cellsI, rdOf, List.getElem?_map, List.getElem?_eq_getElem h]
theorem cellsI_put (x : List Int) (i : Nat) (n : Int) : (cellsI x).setIfInBounds i (.int .i64 n) = cellsI (x.set i n) := by
  apply Array.ext'
  simp [cellsI, List.map_set]
theorem cellsI_one (x : List Int) : ∀ v ∈ x.map (fun n => Value.int .i64 n), v.oneCell' = true := by
  intro v hv
  obtain ⟨n, _, rfl⟩ := List.mem_map.1 hv
  rfl
/-- The first i numbers of x, and then zeros. -/
def partI (x : List Int) (i : Nat) : List Int := x.take i ++ List.replicate (16 - i) 0
theorem partI_length {x : List Int} (hx : x.length = 16) {i : Nat} (hi : i ≤ 16) : (partI x i).length = 16 := by simp [partI]; omega
theorem partI_step {x : List Int} (hx : x.length = 16) {i : Nat} (hi : i < 16) : (partI x i).set i (rdOf 0 x i) = partI x (i + 1) := by
  unfold partI
  rw [List.set_append_right _ _ (by simp; omega), show i - (x.take i).length = 0 by simp; omega, show 16 - i = (16 - (i + 1)) + 1 by omega, List.replicate_succ, List.set_cons_zero, List.take_add_one, List.append_assoc]
  simp [rdOf, List.getElem?_eq_getElem (show i < x.length by omega)]
theorem cellsI_all (x : List Int) : (cellsI x).all (·.oneCell') = true := all_oneCell_toArray (cellsI_one x)
/-- What the loop holds of memory: the row that came in, the result's variable, the row that is laid. -/
structure A16Holds (w W : World) (T : TypeId) (x o : List Int) : Prop where
  b1 : W.heap[w.heap.size]? = some (.cells (cellsI x) T (0, 0))
  b2 : W.heap[w.heap.size + 1]? = some (.cells (cellsI (List.replicate 16 0)) T (0, 0))
  b3 : W.heap[w.heap.size + 1 + 1]? = some (.cells (cellsI o) T (0, 0))
  bel : Below w.heap.size w W
structure A16Holds2 (w W : World) (T : TypeId) (x : List Int) : Prop where
  b2 : W.heap[w.heap.size + 1]? = some (.cells (cellsI x) T (0, 0))
  bel : Below w.heap.size w W
theorem A16Holds.step {w W : World} {T : TypeId} {x o o' : List Int} (h : A16Holds w W T x o) (i : Nat) (n : Int) (e : o.set i n = o') : A16Holds w (W.setCell ⟨w.heap.size + 1 + 1, i, none⟩ (.int .i64 n)) T x o' :=
  ⟨blk_far h.b1 (show w.heap.size ≠ w.heap.size + 1 + 1 by omega) _, blk_far h.b2 (show w.heap.size + 1 ≠ w.heap.size + 1 + 1 by omega) _, blk_put h.b3 i _ (by rw [← e]; exact cellsI_put o i n), below_set h.bel (show w.heap.size ≤ w.heap.size + 1 + 1 by omega)⟩
theorem belowRow {B g : Nat} {w0 w : World} (hb : Below B w0 w) (hBg : B ≤ g) (cs : Array Value) : Below B w0 (w.setRow g cs) :=
  hb.trans ⟨rfl, rfl, rfl, by simp [World.setRow], fun k hk => setRow_other w g k cs (by omega)⟩
theorem A16Holds.start (w : World) (T : TypeId) (x o : List Int) : A16Holds w (((w.alloc (.cells (cellsI x) T)).alloc (.cells (cellsI (List.replicate 16 0)) T)).alloc (.cells (cellsI o) T)) T x o := by
  have h1 := blk_below (blk_below (blk_new w (.cells (cellsI x) T)) (below_alloc (Below.refl _ _) (.cells (cellsI (List.replicate 16 0)) T))) (below_alloc (Below.refl _ _) (.cells (cellsI o) T))
  have h2 := blk_below (blk_new (w.alloc (.cells (cellsI x) T)) (.cells (cellsI (List.replicate 16 0)) T)) (below_alloc (Below.refl _ _) (.cells (cellsI o) T))
  have h3 := blk_new ((w.alloc (.cells (cellsI x) T)).alloc (.cells (cellsI (List.replicate 16 0)) T)) (.cells (cellsI o) T)
  rw [World.size_alloc] at h2
  rw [World.size_alloc, World.size_alloc] at h3
  exact ⟨h1, h2, h3, below_alloc (below_alloc (below_alloc (Below.refl _ _) _) _) _⟩
theorem list16 (x : List Int) (h : x.length = 16) : ∃ a0 a1 a2 a3 a4 a5 a6 a7 a8 a9 b0 b1 b2 b3 b4 b5, x = [a0, a1, a2, a3, a4, a5, a6, a7, a8, a9, b0, b1, b2, b3, b4, b5] := by
  match x, h with
  | [a0, a1, a2, a3, a4, a5, a6, a7, a8, a9, b0, b1, b2, b3, b4, b5], _ => exact ⟨a0, a1, a2, a3, a4, a5, a6, a7, a8, a9, b0, b1, b2, b3, b4, b5, rfl⟩
/-- A row laid into another, from i on. -/
def setsI : List Int → Nat → List Int → List Int
  | o, _, [] => o
  | o, i, x :: xs => setsI (o.set i x) (i + 1) xs
theorem setsI_all (x : List Int) (h : x.length = 16) (a b : Int) : setsI (List.replicate 16 0 ++ [a, b]) 0 x = x ++ [a, b] := by
  obtain ⟨a0, a1, a2, a3, a4, a5, a6, a7, a8, a9, b0, b1, b2, b3, b4, b5, rfl⟩ := list16 x h
  rfl
theorem blk_puts {g : Nat} {T : TypeId} : ∀ (xs o : List Int) (i : Nat) (W : World), W.heap[g]? = some (.cells (cellsI o) T (0, 0)) → (W.setCells g i (xs.map (fun n => Value.int .i64 n))).heap[g]? = some (.cells (cellsI (setsI o i xs)) T (0, 0))
  | [], _, _, _, h => h
  | x :: xs, o, i, W, h => blk_puts xs (o.set i x) (i + 1) _ (blk_put h i _ (cellsI_put o i x))
theorem blk_puts_far {g k : Nat} {T : TypeId} {cs : Array Value} (hk : k ≠ g) : ∀ (xs : List Value) (i : Nat) (W : World), W.heap[k]? = some (.cells cs T (0, 0)) → (W.setCells g i xs).heap[k]? = some (.cells cs T (0, 0))
  | [], _, _, h => h
  | x :: xs, i, W, h => blk_puts_far hk xs (i + 1) _ (blk_far (p := ⟨g, i, none⟩) h hk x)
theorem belowSet {B : Nat} {w W : World} (hb : Below B w W) (g i : Nat) (u : Value) (hg : B ≤ g) : Below B w (W.setCell ⟨g, i, none⟩ u) :=
  hb.trans ⟨rfl, rfl, rfl, by simp [World.setCell], fun k hk => Below.heap_setCell W ⟨g, i, none⟩ u k (show k ≠ g by omega)⟩
theorem below_puts {g B : Nat} {w : World} (hB : B ≤ g) : ∀ (xs : List Value) (i : Nat) (W : World), Below B w W → Below B w (W.setCells g i xs)
  | [], _, _, h => h
  | x :: xs, i, W, h => below_puts hB xs (i + 1) _ (belowSet h g i x hB)
theorem range_of {W : World} {g : Nat} {T : TypeId} {x t : List Int} (h : W.heap[g]? = some (.cells (cellsI (x ++ t)) T (0, 0))) : W.rangeAt g 0 (x.map (fun n => Value.int .i64 n)) := fun j v hv => by
  have hj : j < x.length := by have := (List.getElem?_eq_some_iff.1 hv).1; simpa using this
  rw [Nat.zero_add, blk_cell h j]
  simp only [cellsI, List.getElem?_toArray, List.map_append]
  rw [List.getElem?_append_left (by simpa using hj), hv]
theorem there_of {W : World} {g : Nat} {T : TypeId} {C : Array Value} (h : W.heap[g]? = some (.cells C T (0, 0))) {n : Nat} (hn : n ≤ C.size) : W.there g 0 n := fun j hj => by
  rw [Nat.zero_add, blk_cell h j]
  refine ⟨?_, blk_frozen h j⟩
  rw [Array.getElem?_eq_getElem (by omega)]
  rfl
structure CpuHolds (w W : World) (T S : TypeId) (x o : List Int) : Prop where
  b1 : W.heap[w.heap.size]? = some (.cells (cellsI x) T (0, 0))
  b2 : W.heap[w.heap.size + 1]? = some (.cells (cellsI (List.replicate 16 0 ++ [0, 0])) S (0, 0))
  b3 : W.heap[w.heap.size + 1 + 1]? = some (.cells (cellsI o) S (0, 0))
  bel : Below w.heap.size w W
theorem CpuHolds.start (w : World) (T S : TypeId) (x o : List Int) : CpuHolds w (((w.alloc (.cells (cellsI x) T)).alloc (.cells (cellsI (List.replicate 16 0 ++ [0, 0])) S)).alloc (.cells (cellsI o) S)) T S x o := by
  have h1 := blk_below (blk_below (blk_new w (.cells (cellsI x) T)) (below_alloc (Below.refl _ _) (.cells (cellsI (List.replicate 16 0 ++ [0, 0])) S))) (below_alloc (Below.refl _ _) (.cells (cellsI o) S))
  have h2 := blk_below (blk_new (w.alloc (.cells (cellsI x) T)) (.cells (cellsI (List.replicate 16 0 ++ [0, 0])) S)) (below_alloc (Below.refl _ _) (.cells (cellsI o) S))
  have h3 := blk_new ((w.alloc (.cells (cellsI x) T)).alloc (.cells (cellsI (List.replicate 16 0 ++ [0, 0])) S)) (.cells (cellsI o) S)
  rw [World.size_alloc] at h2
  rw [World.size_alloc, World.size_alloc] at h3
  exact ⟨h1, h2, h3, below_alloc (below_alloc (below_alloc (Below.refl _ _) _) _) _⟩
theorem CpuHolds.below {w W W1 : World} {T S : TypeId} {x o : List Int} (h : CpuHolds w W T S x o) (hb : Below W.heap.size W W1) : CpuHolds w W1 T S x o :=
  ⟨blk_below h.b1 hb, blk_below h.b2 hb, blk_below h.b3 hb, below_step h.bel hb⟩
theorem CpuHolds.step {w W : World} {T S : TypeId} {x o o' : List Int} (h : CpuHolds w W T S x o) (i : Nat) (n : Int) (e : o.set i n = o') : CpuHolds w (W.setCell ⟨w.heap.size + 1 + 1, i, none⟩ (.int .i64 n)) T S x o' :=
  ⟨blk_far h.b1 (show w.heap.size ≠ w.heap.size + 1 + 1 by omega) _, blk_far h.b2 (show w.heap.size + 1 ≠ w.heap.size + 1 + 1 by omega) _, blk_put h.b3 i _ (by rw [← e]; exact cellsI_put o i n), below_set h.bel (show w.heap.size ≤ w.heap.size + 1 + 1 by omega)⟩
theorem CpuHolds.puts {w W : World} {T S : TypeId} {x o : List Int} (h : CpuHolds w W T S x o) (v : List Int) : CpuHolds w (W.setCells (w.heap.size + 1 + 1) 0 (cellsI v).toList) T S x (setsI o 0 v) :=
  ⟨blk_puts_far (by omega) _ _ _ h.b1, blk_puts_far (by omega) _ _ _ h.b2, blk_puts v o 0 W h.b3, below_puts (by omega) _ _ _ h.bel⟩
theorem cpu_set16 (x : List Int) (hx : x.length = 16) (a b n : Int) : (x ++ [a, b]).set 16 n = x ++ [n, b] := by
  rw [List.set_append_right _ _ (by omega), hx]; rfl
theorem cpu_set17 (x : List Int) (hx : x.length = 16) (a b n : Int) : (x ++ [a, b]).set 17 n = x ++ [a, n] := by
  rw [List.set_append_right _ _ (by omega), hx]; rfl
theorem cpu_get16 (x : List Int) (hx : x.length = 16) (a b : Int) : (cellsI (x ++ [a, b]))[16]? = some (.int .i64 a) := by
  obtain ⟨a0, a1, a2, a3, a4, a5, a6, a7, a8, a9, b0, b1, b2, b3, b4, b5, rfl⟩ := list16 x hx
  rfl
theorem cpu_get17 (x : List Int) (hx : x.length = 16) (a b : Int) : (cellsI (x ++ [a, b]))[17]? = some (.int .i64 b) := by
  obtain ⟨a0, a1, a2, a3, a4, a5, a6, a7, a8, a9, b0, b1, b2, b3, b4, b5, rfl⟩ := list16 x hx
  rfl
theorem cpu_size (x : List Int) (hx : x.length = 16) (a b : Int) : (cellsI (x ++ [a, b])).size = 18 := by rw [cellsI_size, List.length_append, hx]; rfl

end Go.Proofs.YtmldfchddccncaaW.PrintWords
