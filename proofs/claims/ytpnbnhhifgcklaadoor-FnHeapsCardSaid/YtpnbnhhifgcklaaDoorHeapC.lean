/- Contracts: heaps of older years dropped; the sorts of heaps. -/
import Derived.Test.YtpnbnhhifgcklaaDoorHeapB
import Derived.Test.YtpnbnhhifgcklaaDoorSlx
namespace Go.Proofs.YtpnbnhhifgcklaaDoor
open Go.ChangeShapes Go.WideShapes Go.ChangeAt Go.RowKit Go.Deep
set_option maxRecDepth 100000
theorem ret1s {v : Value} {k k' : IntKind} {a b a' b' : Int} (h : a = a') (h' : b = b') : Ending.returned (.tuple #[v, .int k a, .int k' b]) = .returned (.tuple #[v, .int k a', .int k' b']) := by rw [h, h']
theorem Heap.one : ∀ x, ∀ u ∈ Heap.cells x, u.oneCell' = true := by intro x u hu; simp [Heap.cells] at hu; rcases hu with rfl | rfl | rfl <;> rfl
theorem info_Heap' : (Tryd.prog.info? 27).map (fun i => (i.zero, i.size, i.bytes)) = some (some (.agg #[.string ByteArray.empty, .int .i64 0, .int .i64 0]), 3, 32) := by kernel_rfl
theorem info_string' : (Tryd.prog.info? 9).map (fun i => (i.zero, i.size, i.bytes)) = some (some (.string ByteArray.empty), 1, 16) := by kernel_rfl
theorem Own.alloc' {α : Type} {cells : α → List Value} {e s : Nat} {w : World} {base : Nat} {v : Value} {n : Nat} {l : List α} (h : Own cells e s w base v n l) (o : Obj) : Own cells e s (w.alloc o) base v n l := ⟨h.1, h.2.alloc o⟩
theorem heapsOk_at {l : List Heap} (h : heapsOk l = true) {x : Heap} (hx : x ∈ l) : (1800 ≤ x.fYear ∧ x.fYear ≤ 2100) ∧ (1 ≤ x.fBundles ∧ x.fBundles ≤ 1000) := by
  simp only [heapsOk, Bool.and_eq_true] at h
  obtain ⟨k, hk⟩ := List.mem_iff_getElem?.1 hx
  exact (Heap.ok_iff.1 (heapPair_ok h.1 (lt_of_get hk) hk)).2
theorem heapsOk_len {l : List Heap} (h : heapsOk l = true) : l.length ≤ 20 := by
  simp only [heapsOk, Bool.and_eq_true, decide_eq_true_eq] at h; exact h.2
/-! ### older years dropped -/
def keptTo (l : List Heap) (y : Int) (k : Nat) : List Heap := (l.take k).filter fun x => decide (y ≤ x.fYear)
theorem keptTo_yes {l : List Heap} {y : Int} {k : Nat} {x : Heap} (h : l[k]? = some x) (hy : y ≤ x.fYear) : keptTo l y (k + 1) = keptTo l y k ++ [x] := by
  unfold keptTo; rw [take_snoc h, List.filter_append]; simp [hy]
theorem keptTo_no {l : List Heap} {y : Int} {k : Nat} {x : Heap} (h : l[k]? = some x) (hy : ¬ y ≤ x.fYear) : keptTo l y (k + 1) = keptTo l y k := by
  unfold keptTo; rw [take_snoc h, List.filter_append]; simp [hy]
theorem keptTo_len (l : List Heap) (y : Int) (k : Nat) : (keptTo l y k).length ≤ k := by
  unfold keptTo
  have h1 := List.length_filter_le (fun x : Heap => decide (y ≤ x.fYear)) (l.take k)
  have h2 := List.length_take_le k l
  omega
def dropF (y : Int) (x : Heap) : Int := if y ≤ x.fYear then 0 else x.fBundles
theorem dropF_bound {l : List Heap} (h : heapsOk l = true) (y : Int) : ∀ x ∈ l, 0 ≤ dropF y x ∧ dropF y x ≤ 1000 := by
  intro x hx
  have := heapsOk_at h hx
  unfold dropF
  split <;> omega
def mDropOk (l : List Heap) (y : Int) : Bool := heapsOk l && inB y 1800 2100
def mDrop (l : List Heap) (y : Int) : List Heap := if mDropOk l y then keptTo l y l.length else []
def mDropN (l : List Heap) (y : Int) : Int := if mDropOk l y then sumOf (dropF y) l else 0
def mDropC (l : List Heap) (y : Int) : Int := if heapsOk l then (if inB y 1800 2100 then 0 else 2) else 1
theorem mDrop_len (l : List Heap) (y : Int) {n : Nat} (h : l.length = n) (hn : n ≤ 1048576) : (mDrop l y).length ≤ 1048576 := by
  unfold mDrop
  split
  · have := keptTo_len l y l.length; omega
  · simp
/-! ### the sorts -/
def sortsTo (l : List Heap) (k : Nat) : List ByteArray := (l.take k).map (·.fSort)
theorem sortsTo_snoc {l : List Heap} {k : Nat} {x : Heap} (h : l[k]? = some x) : sortsTo l (k + 1) = sortsTo l k ++ [x.fSort] := by
  unfold sortsTo; rw [take_snoc h, List.map_append]; rfl
def mSorts (l : List Heap) : List ByteArray := if heapsOk l then dedup (l.map (·.fSort)) else []
def mSortsC (l : List Heap) : Int := if heapsOk l then 0 else 1
theorem mSorts_len (l : List Heap) {n : Nat} (h : l.length = n) (hn : n ≤ 1048576) : (mSorts l).length ≤ 1048576 := by
  unfold mSorts
  split
  · have := dedup_len (l.map (·.fSort)); rw [List.length_map] at this; omega
  · simp
end Go.Proofs.YtpnbnhhifgcklaaDoor
