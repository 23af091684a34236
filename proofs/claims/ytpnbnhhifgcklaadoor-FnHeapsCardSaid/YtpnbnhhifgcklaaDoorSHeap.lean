/- The struct Heap: its cells, slices of it, and the contracts of the laws' own helpers on it (copying, comparing, measuring). -/
import Derived.Test.YtpnbnhhifgcklaaDoorKit
namespace Go.Proofs.YtpnbnhhifgcklaaDoor
open Go.ChangeShapes Go.WideShapes Go.ChangeAt Go.RowKit Go.Deep
set_option maxRecDepth 100000
structure Heap where
  fSort : ByteArray
  fYear : Int
  fBundles : Int
  deriving DecidableEq
def Heap.cells (x : Heap) : List Value := [.string x.fSort, .int .i64 x.fYear, .int .i64 x.fBundles]
def Heap.same (x y : Heap) : Bool := decide (x = y)
theorem Heap.same_true {x y : Heap} : x.same y = true ↔ x = y := by simp [Heap.same]
theorem Heap.same_false {x y : Heap} : x.same y = false ↔ ¬ x = y := by simp [Heap.same]
theorem Heap.len (x : Heap) : x.cells.length = 3 := rfl
theorem Arr.Heap {w : World} {B : Nat} {A : Option Addr} {n : Nat} {l : List Heap} (h : Arr Heap.cells 3 w B A n l) {k : Nat} (hk : k < n) : ∃ b o x, A = some ⟨b, o, none⟩ ∧ b < B ∧ l[k]? = some x ∧ w.cell? ⟨b, o + k * 3, none⟩ = some (.string x.fSort) ∧ w.cell? ⟨b, o + k * 3 + 1, none⟩ = some (.int .i64 x.fYear) ∧ w.cell? ⟨b, o + k * 3 + 2, none⟩ = some (.int .i64 x.fBundles) := by
  obtain ⟨b, o, x, e, hb, hx, hc⟩ := h.at_ hk
  exact ⟨b, o, x, e, hb, hx, hc 0 _ rfl, hc 1 _ rfl, hc 2 _ rfl⟩
theorem Own.Heap_at {e : TypeId} {w : World} {base g n c : Nat} {l : List Heap} (h : Own Heap.cells e 3 w base (.slice (some ⟨g, 0, none⟩) n c) n l) {k : Nat} (hk : k < n) :
    ∃ x, l[k]? = some x ∧ w.cell? ⟨g, k * 3, none⟩ = some (.string x.fSort) ∧ w.cell? ⟨g, k * 3 + 1, none⟩ = some (.int .i64 x.fYear) ∧ w.cell? ⟨g, k * 3 + 2, none⟩ = some (.int .i64 x.fBundles) ∧ w.frozen? ⟨g, k * 3, none⟩ = false ∧ w.frozen? ⟨g, k * 3 + 1, none⟩ = false ∧ w.frozen? ⟨g, k * 3 + 2, none⟩ = false := by
  obtain ⟨b, o, x, hA, _, hx, c0, c1, c2⟩ := (h.arr Heap.len).Heap hk
  injection hA with hA; injection hA with h1 h2; subst h1 h2
  simp only [Nat.zero_add] at c0 c1 c2
  exact ⟨x, hx, c0, c1, c2, h.2.frozenAt _, h.2.frozenAt _, h.2.frozenAt _⟩
theorem Own.Heap_store {e : TypeId} {w : World} {base g n c : Nat} {l : List Heap} (h : Own Heap.cells e 3 w base (.slice (some ⟨g, 0, none⟩) n c) n l) {k : Nat} (hk : k < n) (y0 : ByteArray) (y1 : Int) (y2 : Int) :
    Own Heap.cells e 3 (((w.setCell ⟨g, k * 3, none⟩ (.string y0)).setCell ⟨g, k * 3 + 1, none⟩ (.int .i64 y1)).setCell ⟨g, k * 3 + 2, none⟩ (.int .i64 y2)) base (.slice (some ⟨g, 0, none⟩) n c) n (l.set k ⟨y0, y1, y2⟩) := by
  have hkl : k < l.length := by rw [h.len]; exact hk
  have e0 : l[k]? = some l[k] := List.getElem?_eq_getElem hkl
  generalize l[k] = x at e0
  have h0 := h.cell (x := x) (x' := (⟨y0, x.fYear, x.fBundles⟩ : Heap)) (k := k) (j := 0) Heap.len e0 (by omega) rfl
  have e1 : (l.set k (⟨y0, x.fYear, x.fBundles⟩ : Heap))[k]? = some (⟨y0, x.fYear, x.fBundles⟩ : Heap) := List.getElem?_set_self hkl
  have h1 := h0.cell (x := (⟨y0, x.fYear, x.fBundles⟩ : Heap)) (x' := (⟨y0, y1, x.fBundles⟩ : Heap)) (k := k) (j := 1) Heap.len e1 (by omega) rfl
  have e2 : (l.set k (⟨y0, y1, x.fBundles⟩ : Heap))[k]? = some (⟨y0, y1, x.fBundles⟩ : Heap) := List.getElem?_set_self hkl
  rw [List.set_set] at h1
  have h2 := h1.cell (x := (⟨y0, y1, x.fBundles⟩ : Heap)) (x' := (⟨y0, y1, y2⟩ : Heap)) (k := k) (j := 2) Heap.len e2 (by omega) rfl
  have e3 : (l.set k (⟨y0, y1, y2⟩ : Heap))[k]? = some (⟨y0, y1, y2⟩ : Heap) := List.getElem?_set_self hkl
  rw [List.set_set] at h2
  exact h2
def Heap.fits (x : Heap) : Prop := x.fSort.size ≤ maxLen
def Heap.wt (x : Heap) : Int := (x.fSort.size : Int)
theorem Heap.wt_nonneg (x : Heap) : 0 ≤ x.wt := by unfold Heap.wt; omega
def Heap.pre (l : List Heap) : Int := (l.map Heap.wt).sum
theorem Heap.pre_nonneg (l : List Heap) : 0 ≤ Heap.pre l := by
  unfold Heap.pre
  induction l with
  | nil => simp
  | cons a l ih => have := a.wt_nonneg; simp only [List.map_cons, List.sum_cons]; omega
theorem Heap.pre_snoc {l : List Heap} {k : Nat} {x : Heap} (h : l[k]? = some x) : Heap.pre (l.take (k + 1)) = Heap.pre (l.take k) + x.wt := by
  unfold Heap.pre; rw [take_snoc h]; simp
theorem Heap.pre_le (l : List Heap) (k : Nat) : Heap.pre (l.take k) ≤ Heap.pre l := by
  have h := Heap.pre_nonneg (l.drop k)
  have : Heap.pre l = Heap.pre (l.take k) + Heap.pre (l.drop k) := by unfold Heap.pre; rw [← List.sum_append, ← List.map_append, List.take_append_drop]
  omega
theorem Heap.wt_le {l : List Heap} {x : Heap} (h : x ∈ l) : x.wt ≤ Heap.pre l := by
  obtain ⟨k, hk⟩ := List.mem_iff_getElem?.1 h
  have h1 := Heap.pre_snoc hk; have h2 := Heap.pre_le l (k + 1); have h3 := Heap.pre_nonneg (l.take k)
  omega
def Heap.tot (l : List Heap) : Int := l.length + Heap.pre l
end Go.Proofs.YtpnbnhhifgcklaaDoor
