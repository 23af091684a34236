/- The struct Rate: its cells, slices of it, and the contracts of the laws' own helpers on it (copying, comparing, measuring). -/
import Derived.Test.YtgjcmnnhcoaliaaKit
namespace Go.Proofs.Ytgjcmnnhcoaliaa
open Go.ChangeShapes Go.WideShapes Go.ChangeAt Go.RowKit Go.Deep
set_option maxRecDepth 100000
structure Rate where
  fSort : ByteArray
  fCents : Int
  deriving DecidableEq
def Rate.cells (x : Rate) : List Value := [.string x.fSort, .int .i64 x.fCents]
def Rate.same (x y : Rate) : Bool := decide (x = y)
theorem Rate.same_true {x y : Rate} : x.same y = true ↔ x = y := by simp [Rate.same]
theorem Rate.same_false {x y : Rate} : x.same y = false ↔ ¬ x = y := by simp [Rate.same]
theorem Rate.len (x : Rate) : x.cells.length = 2 := rfl
theorem Arr.Rate {w : World} {B : Nat} {A : Option Addr} {n : Nat} {l : List Rate} (h : Arr Rate.cells 2 w B A n l) {k : Nat} (hk : k < n) : ∃ b o x, A = some ⟨b, o, none⟩ ∧ b < B ∧ l[k]? = some x ∧ w.cell? ⟨b, o + k * 2, none⟩ = some (.string x.fSort) ∧ w.cell? ⟨b, o + k * 2 + 1, none⟩ = some (.int .i64 x.fCents) := by
  obtain ⟨b, o, x, e, hb, hx, hc⟩ := h.at_ hk
  exact ⟨b, o, x, e, hb, hx, hc 0 _ rfl, hc 1 _ rfl⟩
theorem Own.Rate_at {e : TypeId} {w : World} {base g n c : Nat} {l : List Rate} (h : Own Rate.cells e 2 w base (.slice (some ⟨g, 0, none⟩) n c) n l) {k : Nat} (hk : k < n) :
    ∃ x, l[k]? = some x ∧ w.cell? ⟨g, k * 2, none⟩ = some (.string x.fSort) ∧ w.cell? ⟨g, k * 2 + 1, none⟩ = some (.int .i64 x.fCents) ∧ w.frozen? ⟨g, k * 2, none⟩ = false ∧ w.frozen? ⟨g, k * 2 + 1, none⟩ = false := by
  obtain ⟨b, o, x, hA, _, hx, c0, c1⟩ := (h.arr Rate.len).Rate hk
  injection hA with hA; injection hA with h1 h2; subst h1 h2
  simp only [Nat.zero_add] at c0 c1
  exact ⟨x, hx, c0, c1, h.2.frozenAt _, h.2.frozenAt _⟩
theorem Own.Rate_store {e : TypeId} {w : World} {base g n c : Nat} {l : List Rate} (h : Own Rate.cells e 2 w base (.slice (some ⟨g, 0, none⟩) n c) n l) {k : Nat} (hk : k < n) (y0 : ByteArray) (y1 : Int) :
    Own Rate.cells e 2 ((w.setCell ⟨g, k * 2, none⟩ (.string y0)).setCell ⟨g, k * 2 + 1, none⟩ (.int .i64 y1)) base (.slice (some ⟨g, 0, none⟩) n c) n (l.set k ⟨y0, y1⟩) := by
  have hkl : k < l.length := by rw [h.len]; exact hk
  have e0 : l[k]? = some l[k] := List.getElem?_eq_getElem hkl
  generalize l[k] = x at e0
  have h0 := h.cell (x := x) (x' := (⟨y0, x.fCents⟩ : Rate)) (k := k) (j := 0) Rate.len e0 (by omega) rfl
  have e1 : (l.set k (⟨y0, x.fCents⟩ : Rate))[k]? = some (⟨y0, x.fCents⟩ : Rate) := List.getElem?_set_self hkl
  have h1 := h0.cell (x := (⟨y0, x.fCents⟩ : Rate)) (x' := (⟨y0, y1⟩ : Rate)) (k := k) (j := 1) Rate.len e1 (by omega) rfl
  have e2 : (l.set k (⟨y0, y1⟩ : Rate))[k]? = some (⟨y0, y1⟩ : Rate) := List.getElem?_set_self hkl
  rw [List.set_set] at h1
  exact h1
def Rate.fits (x : Rate) : Prop := x.fSort.size ≤ maxLen
def Rate.wt (x : Rate) : Int := (x.fSort.size : Int)
theorem Rate.wt_nonneg (x : Rate) : 0 ≤ x.wt := by unfold Rate.wt; omega
def Rate.pre (l : List Rate) : Int := (l.map Rate.wt).sum
theorem Rate.pre_nonneg (l : List Rate) : 0 ≤ Rate.pre l := by
  unfold Rate.pre
  induction l with
  | nil => simp
  | cons a l ih => have := a.wt_nonneg; simp only [List.map_cons, List.sum_cons]; omega
theorem Rate.pre_snoc {l : List Rate} {k : Nat} {x : Rate} (h : l[k]? = some x) : Rate.pre (l.take (k + 1)) = Rate.pre (l.take k) + x.wt := by
  unfold Rate.pre; rw [take_snoc h]; simp
theorem Rate.pre_le (l : List Rate) (k : Nat) : Rate.pre (l.take k) ≤ Rate.pre l := by
  have h := Rate.pre_nonneg (l.drop k)
  have : Rate.pre l = Rate.pre (l.take k) + Rate.pre (l.drop k) := by unfold Rate.pre; rw [← List.sum_append, ← List.map_append, List.take_append_drop]
  omega
theorem Rate.wt_le {l : List Rate} {x : Rate} (h : x ∈ l) : x.wt ≤ Rate.pre l := by
  obtain ⟨k, hk⟩ := List.mem_iff_getElem?.1 h
  have h1 := Rate.pre_snoc hk; have h2 := Rate.pre_le l (k + 1); have h3 := Rate.pre_nonneg (l.take k)
  omega
def Rate.tot (l : List Rate) : Int := l.length + Rate.pre l
end Go.Proofs.Ytgjcmnnhcoaliaa
