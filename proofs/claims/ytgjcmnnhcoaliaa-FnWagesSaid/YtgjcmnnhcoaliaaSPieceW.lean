/- The struct PieceW: its cells, slices of it, and the contracts of the laws' own helpers on it (copying, comparing, measuring). -/
import Derived.Test.YtgjcmnnhcoaliaaKit
namespace Go.Proofs.Ytgjcmnnhcoaliaa
open Go.ChangeShapes Go.WideShapes Go.ChangeAt Go.RowKit Go.Deep
set_option maxRecDepth 100000
structure PieceW where
  fName : ByteArray
  fSort : ByteArray
  fDay : Int
  fMade : Int
  deriving DecidableEq
def PieceW.cells (x : PieceW) : List Value := [.string x.fName, .string x.fSort, .int .i64 x.fDay, .int .i64 x.fMade]
def PieceW.same (x y : PieceW) : Bool := decide (x = y)
theorem PieceW.same_true {x y : PieceW} : x.same y = true ↔ x = y := by simp [PieceW.same]
theorem PieceW.same_false {x y : PieceW} : x.same y = false ↔ ¬ x = y := by simp [PieceW.same]
theorem PieceW.len (x : PieceW) : x.cells.length = 4 := rfl
theorem Arr.PieceW {w : World} {B : Nat} {A : Option Addr} {n : Nat} {l : List PieceW} (h : Arr PieceW.cells 4 w B A n l) {k : Nat} (hk : k < n) : ∃ b o x, A = some ⟨b, o, none⟩ ∧ b < B ∧ l[k]? = some x ∧ w.cell? ⟨b, o + k * 4, none⟩ = some (.string x.fName) ∧ w.cell? ⟨b, o + k * 4 + 1, none⟩ = some (.string x.fSort) ∧ w.cell? ⟨b, o + k * 4 + 2, none⟩ = some (.int .i64 x.fDay) ∧ w.cell? ⟨b, o + k * 4 + 3, none⟩ = some (.int .i64 x.fMade) := by
  obtain ⟨b, o, x, e, hb, hx, hc⟩ := h.at_ hk
  exact ⟨b, o, x, e, hb, hx, hc 0 _ rfl, hc 1 _ rfl, hc 2 _ rfl, hc 3 _ rfl⟩
theorem Own.PieceW_at {e : TypeId} {w : World} {base g n c : Nat} {l : List PieceW} (h : Own PieceW.cells e 4 w base (.slice (some ⟨g, 0, none⟩) n c) n l) {k : Nat} (hk : k < n) :
    ∃ x, l[k]? = some x ∧ w.cell? ⟨g, k * 4, none⟩ = some (.string x.fName) ∧ w.cell? ⟨g, k * 4 + 1, none⟩ = some (.string x.fSort) ∧ w.cell? ⟨g, k * 4 + 2, none⟩ = some (.int .i64 x.fDay) ∧ w.cell? ⟨g, k * 4 + 3, none⟩ = some (.int .i64 x.fMade) ∧ w.frozen? ⟨g, k * 4, none⟩ = false ∧ w.frozen? ⟨g, k * 4 + 1, none⟩ = false ∧ w.frozen? ⟨g, k * 4 + 2, none⟩ = false ∧ w.frozen? ⟨g, k * 4 + 3, none⟩ = false := by
  obtain ⟨b, o, x, hA, _, hx, c0, c1, c2, c3⟩ := (h.arr PieceW.len).PieceW hk
  injection hA with hA; injection hA with h1 h2; subst h1 h2
  simp only [Nat.zero_add] at c0 c1 c2 c3
  exact ⟨x, hx, c0, c1, c2, c3, h.2.frozenAt _, h.2.frozenAt _, h.2.frozenAt _, h.2.frozenAt _⟩
theorem Own.PieceW_store {e : TypeId} {w : World} {base g n c : Nat} {l : List PieceW} (h : Own PieceW.cells e 4 w base (.slice (some ⟨g, 0, none⟩) n c) n l) {k : Nat} (hk : k < n) (y0 : ByteArray) (y1 : ByteArray) (y2 : Int) (y3 : Int) :
    Own PieceW.cells e 4 ((((w.setCell ⟨g, k * 4, none⟩ (.string y0)).setCell ⟨g, k * 4 + 1, none⟩ (.string y1)).setCell ⟨g, k * 4 + 2, none⟩ (.int .i64 y2)).setCell ⟨g, k * 4 + 3, none⟩ (.int .i64 y3)) base (.slice (some ⟨g, 0, none⟩) n c) n (l.set k ⟨y0, y1, y2, y3⟩) := by
  have hkl : k < l.length := by rw [h.len]; exact hk
  have e0 : l[k]? = some l[k] := List.getElem?_eq_getElem hkl
  generalize l[k] = x at e0
  have h0 := h.cell (x := x) (x' := (⟨y0, x.fSort, x.fDay, x.fMade⟩ : PieceW)) (k := k) (j := 0) PieceW.len e0 (by omega) rfl
  have e1 : (l.set k (⟨y0, x.fSort, x.fDay, x.fMade⟩ : PieceW))[k]? = some (⟨y0, x.fSort, x.fDay, x.fMade⟩ : PieceW) := List.getElem?_set_self hkl
  have h1 := h0.cell (x := (⟨y0, x.fSort, x.fDay, x.fMade⟩ : PieceW)) (x' := (⟨y0, y1, x.fDay, x.fMade⟩ : PieceW)) (k := k) (j := 1) PieceW.len e1 (by omega) rfl
  have e2 : (l.set k (⟨y0, y1, x.fDay, x.fMade⟩ : PieceW))[k]? = some (⟨y0, y1, x.fDay, x.fMade⟩ : PieceW) := List.getElem?_set_self hkl
  rw [List.set_set] at h1
  have h2 := h1.cell (x := (⟨y0, y1, x.fDay, x.fMade⟩ : PieceW)) (x' := (⟨y0, y1, y2, x.fMade⟩ : PieceW)) (k := k) (j := 2) PieceW.len e2 (by omega) rfl
  have e3 : (l.set k (⟨y0, y1, y2, x.fMade⟩ : PieceW))[k]? = some (⟨y0, y1, y2, x.fMade⟩ : PieceW) := List.getElem?_set_self hkl
  rw [List.set_set] at h2
  have h3 := h2.cell (x := (⟨y0, y1, y2, x.fMade⟩ : PieceW)) (x' := (⟨y0, y1, y2, y3⟩ : PieceW)) (k := k) (j := 3) PieceW.len e3 (by omega) rfl
  have e4 : (l.set k (⟨y0, y1, y2, y3⟩ : PieceW))[k]? = some (⟨y0, y1, y2, y3⟩ : PieceW) := List.getElem?_set_self hkl
  rw [List.set_set] at h3
  exact h3
def PieceW.fits (x : PieceW) : Prop := x.fName.size ≤ maxLen ∧ x.fSort.size ≤ maxLen
def PieceW.wt (x : PieceW) : Int := (x.fName.size : Int) + (x.fSort.size : Int)
theorem PieceW.wt_nonneg (x : PieceW) : 0 ≤ x.wt := by unfold PieceW.wt; omega
def PieceW.pre (l : List PieceW) : Int := (l.map PieceW.wt).sum
theorem PieceW.pre_nonneg (l : List PieceW) : 0 ≤ PieceW.pre l := by
  unfold PieceW.pre
  induction l with
  | nil => simp
  | cons a l ih => have := a.wt_nonneg; simp only [List.map_cons, List.sum_cons]; omega
theorem PieceW.pre_snoc {l : List PieceW} {k : Nat} {x : PieceW} (h : l[k]? = some x) : PieceW.pre (l.take (k + 1)) = PieceW.pre (l.take k) + x.wt := by
  unfold PieceW.pre; rw [take_snoc h]; simp
theorem PieceW.pre_le (l : List PieceW) (k : Nat) : PieceW.pre (l.take k) ≤ PieceW.pre l := by
  have h := PieceW.pre_nonneg (l.drop k)
  have : PieceW.pre l = PieceW.pre (l.take k) + PieceW.pre (l.drop k) := by unfold PieceW.pre; rw [← List.sum_append, ← List.map_append, List.take_append_drop]
  omega
theorem PieceW.wt_le {l : List PieceW} {x : PieceW} (h : x ∈ l) : x.wt ≤ PieceW.pre l := by
  obtain ⟨k, hk⟩ := List.mem_iff_getElem?.1 h
  have h1 := PieceW.pre_snoc hk; have h2 := PieceW.pre_le l (k + 1); have h3 := PieceW.pre_nonneg (l.take k)
  omega
def PieceW.tot (l : List PieceW) : Int := l.length + PieceW.pre l
end Go.Proofs.Ytgjcmnnhcoaliaa
