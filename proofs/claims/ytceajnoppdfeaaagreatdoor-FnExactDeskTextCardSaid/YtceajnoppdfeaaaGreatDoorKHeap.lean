/- Heap: contracts of the laws' helpers that write marks into a result and look for them again. -/
import Derived.Test.YtceajnoppdfeaaaGreatDoorSHeap
import Derived.Test.YtceajnoppdfeaaaGreatDoorMark
namespace Go.Proofs.YtceajnoppdfeaaaGreatDoor
open Go.ChangeShapes Go.WideShapes Go.ChangeAt Go.RowKit Go.Deep
set_option maxRecDepth 100000
def Heap.mk' (z : Int) : Heap := ⟨markS (z), z + 1, z + 1 + 1⟩
def Heap.marks (k : Int) (n : Nat) : List Heap := (List.range n).map fun (i : Nat) => Heap.mk' (k + 3 * (i : Int))
theorem Heap.marks_len (k : Int) (n : Nat) : (Heap.marks k n).length = n := by simp [Heap.marks]
theorem Heap.marks_snoc (k : Int) (n : Nat) : Heap.marks k (n + 1) = Heap.marks k n ++ [Heap.mk' (k + 3 * n)] := by simp [Heap.marks, List.range_succ]
theorem Heap.marks_get {k : Int} {n i : Nat} (h : i < n) : (Heap.marks k n)[i]? = some (Heap.mk' (k + 3 * i)) := by simp [Heap.marks, h]
theorem Heap.marks_set {l : List Heap} {k : Int} {i : Nat} (h : i < l.length) : (Heap.marks k i ++ l.drop i).set i (Heap.mk' (k + 3 * i)) = Heap.marks k (i + 1) ++ l.drop (i + 1) := by
  have hl := Heap.marks_len k i
  rw [List.set_append, if_neg (by omega), hl, Nat.sub_self, List.drop_eq_getElem_cons h, List.set_cons_zero, Heap.marks_snoc]
  simp
end Go.Proofs.YtceajnoppdfeaaaGreatDoor
