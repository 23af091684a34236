/- The struct Entry: its cells, slices of it, and the contracts of the laws' own helpers on it (copying, comparing, measuring). -/
import Derived.Test.YtceajnoppdfeaaaGreatDoorKit
namespace Go.Proofs.YtceajnoppdfeaaaGreatDoor
open Go.ChangeShapes Go.WideShapes Go.ChangeAt Go.RowKit Go.Deep
set_option maxRecDepth 100000
structure Entry where
  fDay : Int
  fWhat : ByteArray
  fValue : Int
  deriving DecidableEq
def Entry.cells (x : Entry) : List Value := [.int .i64 x.fDay, .string x.fWhat, .int .i64 x.fValue]
def Entry.same (x y : Entry) : Bool := decide (x = y)
theorem Entry.same_true {x y : Entry} : x.same y = true ↔ x = y := by simp [Entry.same]
theorem Entry.same_false {x y : Entry} : x.same y = false ↔ ¬ x = y := by simp [Entry.same]
theorem Entry.len (x : Entry) : x.cells.length = 3 := rfl
theorem Arr.Entry {w : World} {B : Nat} {A : Option Addr} {n : Nat} {l : List Entry} (h : Arr Entry.cells 3 w B A n l) {k : Nat} (hk : k < n) : ∃ b o x, A = some ⟨b, o, none⟩ ∧ b < B ∧ l[k]? = some x ∧ w.cell? ⟨b, o + k * 3, none⟩ = some (.int .i64 x.fDay) ∧ w.cell? ⟨b, o + k * 3 + 1, none⟩ = some (.string x.fWhat) ∧ w.cell? ⟨b, o + k * 3 + 2, none⟩ = some (.int .i64 x.fValue) := by
  obtain ⟨b, o, x, e, hb, hx, hc⟩ := h.at_ hk
  exact ⟨b, o, x, e, hb, hx, hc 0 _ rfl, hc 1 _ rfl, hc 2 _ rfl⟩
theorem Own.Entry_at {e : TypeId} {w : World} {base g n c : Nat} {l : List Entry} (h : Own Entry.cells e 3 w base (.slice (some ⟨g, 0, none⟩) n c) n l) {k : Nat} (hk : k < n) :
    ∃ x, l[k]? = some x ∧ w.cell? ⟨g, k * 3, none⟩ = some (.int .i64 x.fDay) ∧ w.cell? ⟨g, k * 3 + 1, none⟩ = some (.string x.fWhat) ∧ w.cell? ⟨g, k * 3 + 2, none⟩ = some (.int .i64 x.fValue) ∧ w.frozen? ⟨g, k * 3, none⟩ = false ∧ w.frozen? ⟨g, k * 3 + 1, none⟩ = false ∧ w.frozen? ⟨g, k * 3 + 2, none⟩ = false := by
  obtain ⟨b, o, x, hA, _, hx, c0, c1, c2⟩ := (h.arr Entry.len).Entry hk
  injection hA with hA; injection hA with h1 h2; subst h1 h2
  simp only [Nat.zero_add] at c0 c1 c2
  exact ⟨x, hx, c0, c1, c2, h.2.frozenAt _, h.2.frozenAt _, h.2.frozenAt _⟩
theorem Own.Entry_store {e : TypeId} {w : World} {base g n c : Nat} {l : List Entry} (h : Own Entry.cells e 3 w base (.slice (some ⟨g, 0, none⟩) n c) n l) {k : Nat} (hk : k < n) (y0 : Int) (y1 : ByteArray) (y2 : Int) :
    Own Entry.cells e 3 (((w.setCell ⟨g, k * 3, none⟩ (.int .i64 y0)).setCell ⟨g, k * 3 + 1, none⟩ (.string y1)).setCell ⟨g, k * 3 + 2, none⟩ (.int .i64 y2)) base (.slice (some ⟨g, 0, none⟩) n c) n (l.set k ⟨y0, y1, y2⟩) := by
  have hkl : k < l.length := by rw [h.len]; exact hk
  have e0 : l[k]? = some l[k] := List.getElem?_eq_getElem hkl
  generalize l[k] = x at e0
  have h0 := h.cell (x := x) (x' := (⟨y0, x.fWhat, x.fValue⟩ : Entry)) (k := k) (j := 0) Entry.len e0 (by omega) rfl
  have e1 : (l.set k (⟨y0, x.fWhat, x.fValue⟩ : Entry))[k]? = some (⟨y0, x.fWhat, x.fValue⟩ : Entry) := List.getElem?_set_self hkl
  have h1 := h0.cell (x := (⟨y0, x.fWhat, x.fValue⟩ : Entry)) (x' := (⟨y0, y1, x.fValue⟩ : Entry)) (k := k) (j := 1) Entry.len e1 (by omega) rfl
  have e2 : (l.set k (⟨y0, y1, x.fValue⟩ : Entry))[k]? = some (⟨y0, y1, x.fValue⟩ : Entry) := List.getElem?_set_self hkl
  rw [List.set_set] at h1
  have h2 := h1.cell (x := (⟨y0, y1, x.fValue⟩ : Entry)) (x' := (⟨y0, y1, y2⟩ : Entry)) (k := k) (j := 2) Entry.len e2 (by omega) rfl
  have e3 : (l.set k (⟨y0, y1, y2⟩ : Entry))[k]? = some (⟨y0, y1, y2⟩ : Entry) := List.getElem?_set_self hkl
  rw [List.set_set] at h2
  exact h2
def Entry.fits (x : Entry) : Prop := x.fWhat.size ≤ maxLen
def Entry.wt (x : Entry) : Int := (x.fWhat.size : Int)
theorem Entry.wt_nonneg (x : Entry) : 0 ≤ x.wt := by unfold Entry.wt; omega
def Entry.pre (l : List Entry) : Int := (l.map Entry.wt).sum
theorem Entry.pre_nonneg (l : List Entry) : 0 ≤ Entry.pre l := by
  unfold Entry.pre
  induction l with
  | nil => simp
  | cons a l ih => have := a.wt_nonneg; simp only [List.map_cons, List.sum_cons]; omega
theorem Entry.pre_snoc {l : List Entry} {k : Nat} {x : Entry} (h : l[k]? = some x) : Entry.pre (l.take (k + 1)) = Entry.pre (l.take k) + x.wt := by
  unfold Entry.pre; rw [take_snoc h]; simp
theorem Entry.pre_le (l : List Entry) (k : Nat) : Entry.pre (l.take k) ≤ Entry.pre l := by
  have h := Entry.pre_nonneg (l.drop k)
  have : Entry.pre l = Entry.pre (l.take k) + Entry.pre (l.drop k) := by unfold Entry.pre; rw [← List.sum_append, ← List.map_append, List.take_append_drop]
  omega
theorem Entry.wt_le {l : List Entry} {x : Entry} (h : x ∈ l) : x.wt ≤ Entry.pre l := by
  obtain ⟨k, hk⟩ := List.mem_iff_getElem?.1 h
  have h1 := Entry.pre_snoc hk; have h2 := Entry.pre_le l (k + 1); have h3 := Entry.pre_nonneg (l.take k)
  omega
def Entry.tot (l : List Entry) : Int := l.length + Entry.pre l
end Go.Proofs.YtceajnoppdfeaaaGreatDoor
