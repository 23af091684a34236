/- Kind: contracts of the laws' helpers that write marks into a result and look for them again. -/
import Derived.Test.YtceajnoppdfeaaaGreatDoorSKind
import Derived.Test.YtceajnoppdfeaaaGreatDoorMark
namespace Go.Proofs.YtceajnoppdfeaaaGreatDoor
open Go.ChangeShapes Go.WideShapes Go.ChangeAt Go.RowKit Go.Deep
set_option maxRecDepth 100000
def Kind.mk' (z : Int) : Kind := ⟨z, z + 1⟩
def Kind.marks (k : Int) (n : Nat) : List Kind := (List.range n).map fun (i : Nat) => Kind.mk' (k + 2 * (i : Int))
theorem Kind.marks_len (k : Int) (n : Nat) : (Kind.marks k n).length = n := by simp [Kind.marks]
theorem Kind.marks_snoc (k : Int) (n : Nat) : Kind.marks k (n + 1) = Kind.marks k n ++ [Kind.mk' (k + 2 * n)] := by simp [Kind.marks, List.range_succ]
theorem Kind.marks_get {k : Int} {n i : Nat} (h : i < n) : (Kind.marks k n)[i]? = some (Kind.mk' (k + 2 * i)) := by simp [Kind.marks, h]
theorem Kind.marks_set {l : List Kind} {k : Int} {i : Nat} (h : i < l.length) : (Kind.marks k i ++ l.drop i).set i (Kind.mk' (k + 2 * i)) = Kind.marks k (i + 1) ++ l.drop (i + 1) := by
  have hl := Kind.marks_len k i
  rw [List.set_append, if_neg (by omega), hl, Nat.sub_self, List.drop_eq_getElem_cons h, List.set_cons_zero, Kind.marks_snoc]
  simp
end Go.Proofs.YtceajnoppdfeaaaGreatDoor
