/- The struct Order: its cells, slices of it, and the contracts of the laws' own helpers on it (copying, comparing, measuring). -/
import Derived.Test.YtnfbeobdoieeiaaDoorKit
namespace Go.Proofs.YtnfbeobdoieeiaaDoor
open Go.ChangeShapes Go.WideShapes Go.ChangeAt Go.RowKit Go.Deep
set_option maxRecDepth 100000
structure Order where
  fWho : ByteArray
  fMany : Int
  fEach : Int
  fFrom : Int
  fDue : Int
  deriving DecidableEq
def Order.cells (x : Order) : List Value := [.string x.fWho, .int .i64 x.fMany, .int .i64 x.fEach, .int .i64 x.fFrom, .int .i64 x.fDue]
def Order.same (x y : Order) : Bool := decide (x = y)
theorem Order.same_true {x y : Order} : x.same y = true ↔ x = y := by simp [Order.same]
theorem Order.same_false {x y : Order} : x.same y = false ↔ ¬ x = y := by simp [Order.same]
theorem Order.len (x : Order) : x.cells.length = 5 := rfl
theorem Arr.Order {w : World} {B : Nat} {A : Option Addr} {n : Nat} {l : List Order} (h : Arr Order.cells 5 w B A n l) {k : Nat} (hk : k < n) : ∃ b o x, A = some ⟨b, o, none⟩ ∧ b < B ∧ l[k]? = some x ∧ w.cell? ⟨b, o + k * 5, none⟩ = some (.string x.fWho) ∧ w.cell? ⟨b, o + k * 5 + 1, none⟩ = some (.int .i64 x.fMany) ∧ w.cell? ⟨b, o + k * 5 + 2, none⟩ = some (.int .i64 x.fEach) ∧ w.cell? ⟨b, o + k * 5 + 3, none⟩ = some (.int .i64 x.fFrom) ∧ w.cell? ⟨b, o + k * 5 + 4, none⟩ = some (.int .i64 x.fDue) := by
  obtain ⟨b, o, x, e, hb, hx, hc⟩ := h.at_ hk
  exact ⟨b, o, x, e, hb, hx, hc 0 _ rfl, hc 1 _ rfl, hc 2 _ rfl, hc 3 _ rfl, hc 4 _ rfl⟩
theorem Own.Order_at {e : TypeId} {w : World} {base g n c : Nat} {l : List Order} (h : Own Order.cells e 5 w base (.slice (some ⟨g, 0, none⟩) n c) n l) {k : Nat} (hk : k < n) :
    ∃ x, l[k]? = some x ∧ w.cell? ⟨g, k * 5, none⟩ = some (.string x.fWho) ∧ w.cell? ⟨g, k * 5 + 1, none⟩ = some (.int .i64 x.fMany) ∧ w.cell? ⟨g, k * 5 + 2, none⟩ = some (.int .i64 x.fEach) ∧ w.cell? ⟨g, k * 5 + 3, none⟩ = some (.int .i64 x.fFrom) ∧ w.cell? ⟨g, k * 5 + 4, none⟩ = some (.int .i64 x.fDue) ∧ w.frozen? ⟨g, k * 5, none⟩ = false ∧ w.frozen? ⟨g, k * 5 + 1, none⟩ = false ∧ w.frozen? ⟨g, k * 5 + 2, none⟩ = false ∧ w.frozen? ⟨g, k * 5 + 3, none⟩ = false ∧ w.frozen? ⟨g, k * 5 + 4, none⟩ = false := by
  obtain ⟨b, o, x, hA, _, hx, c0, c1, c2, c3, c4⟩ := (h.arr Order.len).Order hk
  injection hA with hA; injection hA with h1 h2; subst h1 h2
  simp only [Nat.zero_add] at c0 c1 c2 c3 c4
  exact ⟨x, hx, c0, c1, c2, c3, c4, h.2.frozenAt _, h.2.frozenAt _, h.2.frozenAt _, h.2.frozenAt _, h.2.frozenAt _⟩
theorem Own.Order_store {e : TypeId} {w : World} {base g n c : Nat} {l : List Order} (h : Own Order.cells e 5 w base (.slice (some ⟨g, 0, none⟩) n c) n l) {k : Nat} (hk : k < n) (y0 : ByteArray) (y1 : Int) (y2 : Int) (y3 : Int) (y4 : Int) :
    Own Order.cells e 5 (((((w.setCell ⟨g, k * 5, none⟩ (.string y0)).setCell ⟨g, k * 5 + 1, none⟩ (.int .i64 y1)).setCell ⟨g, k * 5 + 2, none⟩ (.int .i64 y2)).setCell ⟨g, k * 5 + 3, none⟩ (.int .i64 y3)).setCell ⟨g, k * 5 + 4, none⟩ (.int .i64 y4)) base (.slice (some ⟨g, 0, none⟩) n c) n (l.set k ⟨y0, y1, y2, y3, y4⟩) := by
  have hkl : k < l.length := by rw [h.len]; exact hk
  have e0 : l[k]? = some l[k] := List.getElem?_eq_getElem hkl
  generalize l[k] = x at e0
  have h0 := h.cell (x := x) (x' := (⟨y0, x.fMany, x.fEach, x.fFrom, x.fDue⟩ : Order)) (k := k) (j := 0) Order.len e0 (by omega) rfl
  have e1 : (l.set k (⟨y0, x.fMany, x.fEach, x.fFrom, x.fDue⟩ : Order))[k]? = some (⟨y0, x.fMany, x.fEach, x.fFrom, x.fDue⟩ : Order) := List.getElem?_set_self hkl
  have h1 := h0.cell (x := (⟨y0, x.fMany, x.fEach, x.fFrom, x.fDue⟩ : Order)) (x' := (⟨y0, y1, x.fEach, x.fFrom, x.fDue⟩ : Order)) (k := k) (j := 1) Order.len e1 (by omega) rfl
  have e2 : (l.set k (⟨y0, y1, x.fEach, x.fFrom, x.fDue⟩ : Order))[k]? = some (⟨y0, y1, x.fEach, x.fFrom, x.fDue⟩ : Order) := List.getElem?_set_self hkl
  rw [List.set_set] at h1
  have h2 := h1.cell (x := (⟨y0, y1, x.fEach, x.fFrom, x.fDue⟩ : Order)) (x' := (⟨y0, y1, y2, x.fFrom, x.fDue⟩ : Order)) (k := k) (j := 2) Order.len e2 (by omega) rfl
  have e3 : (l.set k (⟨y0, y1, y2, x.fFrom, x.fDue⟩ : Order))[k]? = some (⟨y0, y1, y2, x.fFrom, x.fDue⟩ : Order) := List.getElem?_set_self hkl
  rw [List.set_set] at h2
  have h3 := h2.cell (x := (⟨y0, y1, y2, x.fFrom, x.fDue⟩ : Order)) (x' := (⟨y0, y1, y2, y3, x.fDue⟩ : Order)) (k := k) (j := 3) Order.len e3 (by omega) rfl
  have e4 : (l.set k (⟨y0, y1, y2, y3, x.fDue⟩ : Order))[k]? = some (⟨y0, y1, y2, y3, x.fDue⟩ : Order) := List.getElem?_set_self hkl
  rw [List.set_set] at h3
  have h4 := h3.cell (x := (⟨y0, y1, y2, y3, x.fDue⟩ : Order)) (x' := (⟨y0, y1, y2, y3, y4⟩ : Order)) (k := k) (j := 4) Order.len e4 (by omega) rfl
  have e5 : (l.set k (⟨y0, y1, y2, y3, y4⟩ : Order))[k]? = some (⟨y0, y1, y2, y3, y4⟩ : Order) := List.getElem?_set_self hkl
  rw [List.set_set] at h4
  exact h4
def Order.fits (x : Order) : Prop := x.fWho.size ≤ maxLen
def Order.wt (x : Order) : Int := (x.fWho.size : Int)
theorem Order.wt_nonneg (x : Order) : 0 ≤ x.wt := by unfold Order.wt; omega
def Order.pre (l : List Order) : Int := (l.map Order.wt).sum
theorem Order.pre_nonneg (l : List Order) : 0 ≤ Order.pre l := by
  unfold Order.pre
  induction l with
  | nil => simp
  | cons a l ih => have := a.wt_nonneg; simp only [List.map_cons, List.sum_cons]; omega
theorem Order.pre_snoc {l : List Order} {k : Nat} {x : Order} (h : l[k]? = some x) : Order.pre (l.take (k + 1)) = Order.pre (l.take k) + x.wt := by
  unfold Order.pre; rw [take_snoc h]; simp
theorem Order.pre_le (l : List Order) (k : Nat) : Order.pre (l.take k) ≤ Order.pre l := by
  have h := Order.pre_nonneg (l.drop k)
  have : Order.pre l = Order.pre (l.take k) + Order.pre (l.drop k) := by unfold Order.pre; rw [← List.sum_append, ← List.map_append, List.take_append_drop]
  omega
theorem Order.wt_le {l : List Order} {x : Order} (h : x ∈ l) : x.wt ≤ Order.pre l := by
  obtain ⟨k, hk⟩ := List.mem_iff_getElem?.1 h
  have h1 := Order.pre_snoc hk; have h2 := Order.pre_le l (k + 1); have h3 := Order.pre_nonneg (l.take k)
  omega
def Order.tot (l : List Order) : Int := l.length + Order.pre l
end Go.Proofs.YtnfbeobdoieeiaaDoor
