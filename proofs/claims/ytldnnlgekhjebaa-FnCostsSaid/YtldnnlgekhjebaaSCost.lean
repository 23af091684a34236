/- The struct Cost: its cells, slices of it, and the contracts of the laws' own helpers on it (copying, comparing, measuring). -/
import Derived.Test.YtldnnlgekhjebaaKit
namespace Go.Proofs.Ytldnnlgekhjebaa
open Go.ChangeShapes Go.WideShapes Go.ChangeAt Go.RowKit Go.Deep
set_option maxRecDepth 100000
structure Cost where
  fUnits : Int
  fHundred : Int
  deriving DecidableEq
def Cost.cells (x : Cost) : List Value := [.int .i64 x.fUnits, .int .i64 x.fHundred]
def Cost.same (x y : Cost) : Bool := decide (x = y)
theorem Cost.same_true {x y : Cost} : x.same y = true ↔ x = y := by simp [Cost.same]
theorem Cost.same_false {x y : Cost} : x.same y = false ↔ ¬ x = y := by simp [Cost.same]
theorem Cost.len (x : Cost) : x.cells.length = 2 := rfl
theorem Arr.Cost {w : World} {B : Nat} {A : Option Addr} {n : Nat} {l : List Cost} (h : Arr Cost.cells 2 w B A n l) {k : Nat} (hk : k < n) : ∃ b o x, A = some ⟨b, o, none⟩ ∧ b < B ∧ l[k]? = some x ∧ w.cell? ⟨b, o + k * 2, none⟩ = some (.int .i64 x.fUnits) ∧ w.cell? ⟨b, o + k * 2 + 1, none⟩ = some (.int .i64 x.fHundred) := by
  obtain ⟨b, o, x, e, hb, hx, hc⟩ := h.at_ hk
  exact ⟨b, o, x, e, hb, hx, hc 0 _ rfl, hc 1 _ rfl⟩
theorem Own.Cost_at {e : TypeId} {w : World} {base g n c : Nat} {l : List Cost} (h : Own Cost.cells e 2 w base (.slice (some ⟨g, 0, none⟩) n c) n l) {k : Nat} (hk : k < n) :
    ∃ x, l[k]? = some x ∧ w.cell? ⟨g, k * 2, none⟩ = some (.int .i64 x.fUnits) ∧ w.cell? ⟨g, k * 2 + 1, none⟩ = some (.int .i64 x.fHundred) ∧ w.frozen? ⟨g, k * 2, none⟩ = false ∧ w.frozen? ⟨g, k * 2 + 1, none⟩ = false := by
  obtain ⟨b, o, x, hA, _, hx, c0, c1⟩ := (h.arr Cost.len).Cost hk
  injection hA with hA; injection hA with h1 h2; subst h1 h2
  simp only [Nat.zero_add] at c0 c1
  exact ⟨x, hx, c0, c1, h.2.frozenAt _, h.2.frozenAt _⟩
theorem Own.Cost_store {e : TypeId} {w : World} {base g n c : Nat} {l : List Cost} (h : Own Cost.cells e 2 w base (.slice (some ⟨g, 0, none⟩) n c) n l) {k : Nat} (hk : k < n) (y0 : Int) (y1 : Int) :
    Own Cost.cells e 2 ((w.setCell ⟨g, k * 2, none⟩ (.int .i64 y0)).setCell ⟨g, k * 2 + 1, none⟩ (.int .i64 y1)) base (.slice (some ⟨g, 0, none⟩) n c) n (l.set k ⟨y0, y1⟩) := by
  have hkl : k < l.length := by rw [h.len]; exact hk
  have e0 : l[k]? = some l[k] := List.getElem?_eq_getElem hkl
  generalize l[k] = x at e0
  have h0 := h.cell (x := x) (x' := (⟨y0, x.fHundred⟩ : Cost)) (k := k) (j := 0) Cost.len e0 (by omega) rfl
  have e1 : (l.set k (⟨y0, x.fHundred⟩ : Cost))[k]? = some (⟨y0, x.fHundred⟩ : Cost) := List.getElem?_set_self hkl
  have h1 := h0.cell (x := (⟨y0, x.fHundred⟩ : Cost)) (x' := (⟨y0, y1⟩ : Cost)) (k := k) (j := 1) Cost.len e1 (by omega) rfl
  have e2 : (l.set k (⟨y0, y1⟩ : Cost))[k]? = some (⟨y0, y1⟩ : Cost) := List.getElem?_set_self hkl
  rw [List.set_set] at h1
  exact h1
def Cost.fits (_ : Cost) : Prop := True
def Cost.wt (_ : Cost) : Int := 0
theorem Cost.wt_nonneg (x : Cost) : 0 ≤ x.wt := by unfold Cost.wt; omega
def Cost.pre (l : List Cost) : Int := (l.map Cost.wt).sum
theorem Cost.pre_nonneg (l : List Cost) : 0 ≤ Cost.pre l := by
  unfold Cost.pre
  induction l with
  | nil => simp
  | cons a l ih => have := a.wt_nonneg; simp only [List.map_cons, List.sum_cons]; omega
theorem Cost.pre_snoc {l : List Cost} {k : Nat} {x : Cost} (h : l[k]? = some x) : Cost.pre (l.take (k + 1)) = Cost.pre (l.take k) + x.wt := by
  unfold Cost.pre; rw [take_snoc h]; simp
theorem Cost.pre_le (l : List Cost) (k : Nat) : Cost.pre (l.take k) ≤ Cost.pre l := by
  have h := Cost.pre_nonneg (l.drop k)
  have : Cost.pre l = Cost.pre (l.take k) + Cost.pre (l.drop k) := by unfold Cost.pre; rw [← List.sum_append, ← List.map_append, List.take_append_drop]
  omega
theorem Cost.wt_le {l : List Cost} {x : Cost} (h : x ∈ l) : x.wt ≤ Cost.pre l := by
  obtain ⟨k, hk⟩ := List.mem_iff_getElem?.1 h
  have h1 := Cost.pre_snoc hk; have h2 := Cost.pre_le l (k + 1); have h3 := Cost.pre_nonneg (l.take k)
  omega
def Cost.tot (l : List Cost) : Int := l.length + Cost.pre l
theorem Cost.pre_zero (l : List Cost) : Cost.pre l = 0 := by unfold Cost.pre; induction l with | nil => rfl | cons a l ih => simp only [List.map_cons, List.sum_cons, ih]; rfl
end Go.Proofs.Ytldnnlgekhjebaa
