/- Contracts of the laws' helpers on slices of numbers: copying and comparing. -/
import Derived.Test.YtnfbeobdoieeiaaDoorKit
namespace Go.Proofs.YtnfbeobdoieeiaaDoor
open Go.ChangeShapes Go.WideShapes Go.ChangeAt Go.RowKit Go.Deep
theorem Own.int_at {e : TypeId} {w : World} {base g n c : Nat} {l : List Int} (h : Own i64c e 1 w base (.slice (some ⟨g, 0, none⟩) n c) n l) {k : Nat} (hk : k < n) :
    ∃ x, l[k]? = some x ∧ w.cell? ⟨g, k, none⟩ = some (.int .i64 x) ∧ w.frozen? ⟨g, k, none⟩ = false := by
  obtain ⟨b, o, x, hA, _, hx, c0⟩ := (h.arr i64c_len).int hk
  injection hA with hA; injection hA with h1 h2; subst h1 h2
  simp only [Nat.zero_add] at c0
  exact ⟨x, hx, c0, h.2.frozenAt _⟩
theorem Own.int_store {e : TypeId} {w : World} {base g n c : Nat} {l : List Int} (h : Own i64c e 1 w base (.slice (some ⟨g, 0, none⟩) n c) n l) {k : Nat} (hk : k < n) (y : Int) :
    Own i64c e 1 (w.setCell ⟨g, k, none⟩ (.int .i64 y)) base (.slice (some ⟨g, 0, none⟩) n c) n (l.set k y) := by
  have hkl : k < l.length := by rw [h.len]; exact hk
  have := h.cell (x := l[k]) (x' := y) (k := k) (j := 0) (u := .int .i64 y) i64c_len (List.getElem?_eq_getElem hkl) (by omega) rfl
  simpa using this
end Go.Proofs.YtnfbeobdoieeiaaDoor
