/- A struct in a block of its own beside the source of choices. No statement is proved here. -/
import Derived.Test.YtpnbnhhifgcklaaDoorSrc
namespace Go.Proofs.YtpnbnhhifgcklaaDoor
open Go.ChangeShapes Go.WideShapes Go.ChangeAt Go.RowKit Go.Deep
theorem grown_set (w : World) (k i : Nat) (u : Value) : w.grownBy (w.setCell ⟨k, i, none⟩ u) (some k) := only_setCell (World.grownBy.refl _ _) (p := ⟨k, i, none⟩) rfl u
section
variable {α : Type} {cells : α → List Value} {e s : Nat} {W w w' : World} {base n g m k i : Nat} {v u : Value} {l : List α} {o : Obj}
theorem Src.cell (hs : Src w g m) (hk : g < k) : Src (w.setCell ⟨k, i, none⟩ u) g m := by
  have hl := hs.lt
  exact hs.kept (fun j hj => (grown_set w k i u).block j (by omega) (fun he => by injection he; omega))
theorem PS.cell (hd : PS W w g m) (hk : W.heap.size ≤ k) : PS W (w.setCell ⟨k, i, none⟩ u) g m :=
  ⟨⟨(grown_set w k i u).os.trans hd.1.os, (grown_set w k i u).tape.trans hd.1.tape, (grown_set w k i u).output.trans hd.1.output, Nat.le_trans hd.1.size (grown_set w k i u).size, fun j hj hne =>
    ((grown_set w k i u).block j (Nat.lt_of_lt_of_le hj hd.1.size) (fun he => by injection he; omega)).trans (hd.1.block j hj hne)⟩, hd.2.1, hd.2.2.cell (by have := hd.2.1; omega)⟩
theorem DS.cell (hd : DS W w g m) (hk : g < k) : DS W (w.setCell ⟨k, i, none⟩ u) g m :=
  ⟨hd.1.setCell (p := ⟨k, i, none⟩) (by have := hd.2.1; show _ ≤ k; omega) u, hd.2.1, hd.2.2.cell hk⟩
theorem Own.notNew (h : Own cells e s w base v n l) (hk : w.heap.size ≤ k) : v.ownBlock ≠ some k := fun he => by have := (h.2.lt k he).2; omega
theorem Own.box (h : Own cells e s w base v n l) (hk : v.ownBlock ≠ some k) : Own cells e s (w.setCell ⟨k, i, none⟩ u) base v n l := h.kept (grown_set w k i u) (.inr hk)
theorem box_kept (h : w.heap[k]? = some o) (hg : w.grownBy w' (some g)) (hne : k ≠ g) : w'.heap[k]? = some o :=
  (hg.block k (Array.getElem?_eq_some_iff.1 h).1 (fun e => hne (by injection e))).trans h
theorem box_new {a : Array Value} {t : TypeId} (hg : (w.alloc (.cells a t)).grownBy w' (some g)) (hne : g < w.heap.size) : w'.heap[w.heap.size]? = some (.cells a t (0, 0)) :=
  box_kept (heap_alloc_new w _) hg (by omega)
theorem box_set {cs : Array Value} {t : TypeId} (h : w.heap[k]? = some (.cells cs t (0, 0))) (i : Nat) (u : Value) : (w.setCell ⟨k, i, none⟩ u).heap[k]? = some (.cells (cs.setIfInBounds i u) t (0, 0)) := by
  simp [World.setCell, Array.getElem?_modify, h]
end
theorem brow1 {w : World} {u0 : Value} {t : TypeId} {g : Nat} (h : w.heap[g]? = some (.cells #[u0] t (0, 0))) :
    w.cell? ⟨g, 0, none⟩ = some u0 ∧ ∀ j : Nat, w.frozen? ⟨g, j, none⟩ = false :=
  ⟨by rw [cell_of_row _ _ _ _ _ _ h]; rfl, fun j => frozen_of_row _ _ _ _ _ h⟩
theorem brow2 {w : World} {u0 u1 : Value} {t : TypeId} {g : Nat} (h : w.heap[g]? = some (.cells #[u0, u1] t (0, 0))) :
    w.cell? ⟨g, 0, none⟩ = some u0 ∧ w.cell? ⟨g, 1, none⟩ = some u1 ∧ ∀ j : Nat, w.frozen? ⟨g, j, none⟩ = false :=
  ⟨by rw [cell_of_row _ _ _ _ _ _ h]; rfl, by rw [cell_of_row _ _ _ _ _ _ h]; rfl, fun j => frozen_of_row _ _ _ _ _ h⟩
theorem brow3 {w : World} {u0 u1 u2 : Value} {t : TypeId} {g : Nat} (h : w.heap[g]? = some (.cells #[u0, u1, u2] t (0, 0))) :
    w.cell? ⟨g, 0, none⟩ = some u0 ∧ w.cell? ⟨g, 1, none⟩ = some u1 ∧ w.cell? ⟨g, 2, none⟩ = some u2 ∧ ∀ j : Nat, w.frozen? ⟨g, j, none⟩ = false :=
  ⟨by rw [cell_of_row _ _ _ _ _ _ h]; rfl, by rw [cell_of_row _ _ _ _ _ _ h]; rfl, by rw [cell_of_row _ _ _ _ _ _ h]; rfl, fun j => frozen_of_row _ _ _ _ _ h⟩
theorem brow4 {w : World} {u0 u1 u2 u3 : Value} {t : TypeId} {g : Nat} (h : w.heap[g]? = some (.cells #[u0, u1, u2, u3] t (0, 0))) :
    w.cell? ⟨g, 0, none⟩ = some u0 ∧ w.cell? ⟨g, 1, none⟩ = some u1 ∧ w.cell? ⟨g, 2, none⟩ = some u2 ∧ w.cell? ⟨g, 3, none⟩ = some u3 ∧ ∀ j : Nat, w.frozen? ⟨g, j, none⟩ = false :=
  ⟨by rw [cell_of_row _ _ _ _ _ _ h]; rfl, by rw [cell_of_row _ _ _ _ _ _ h]; rfl, by rw [cell_of_row _ _ _ _ _ _ h]; rfl, by rw [cell_of_row _ _ _ _ _ _ h]; rfl, fun j => frozen_of_row _ _ _ _ _ h⟩
end Go.Proofs.YtpnbnhhifgcklaaDoor
