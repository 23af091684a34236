/- The busiest span of the orders: what both sides return. -/
import Derived.Test.YtnfbeobdoieeiaaDoorOrdP
import Derived.Test.YtnfbeobdoieeiaaDoorFrac
namespace Go.Proofs.YtnfbeobdoieeiaaDoor
open Go.ChangeShapes Go.WideShapes Go.ChangeAt Go.RowKit Go.Deep
set_option maxRecDepth 100000
def mBusyS (l : List Order) : Span := gridTo (stepS l) l start4 l.length
structure Busy where
  fr : Int
  till : Int
  num : Int
  den : Int
  code : Int
def mBusy (l : List Order) : Busy :=
  if ordersOk l then (if l.length = 0 then ⟨0, 0, 0, 0, 3⟩ else ⟨(mBusyS l).fr, (mBusyS l).till, lowN (mBusyS l).num (mBusyS l).den, lowD (mBusyS l).num (mBusyS l).den, 0⟩) else ⟨0, 0, 0, 0, 1⟩
theorem i64_mul {x : Int} (h : -5000 ≤ x ∧ x ≤ 300000000) : IntKind.i64.wrap x = x := IntWalk.i64_in _ (by omega)
end Go.Proofs.YtnfbeobdoieeiaaDoor
