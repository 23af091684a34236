/- The walk of the exact law of SumOfWhat. -/
import Derived.Test.YtmdnkkoacclfcaaDoorLogM
import Derived.Test.YtmdnkkoacclfcaaDoorMark
namespace Go.Proofs.YtmdnkkoacclfcaaDoor
open Go.ChangeShapes Go.WideShapes Go.ChangeAt Go.RowKit Go.Deep
set_option maxRecDepth 100000
set_option maxHeartbeats 1000000 in
theorem walkSumOfWhat (w : World) (hG : Gl w) (a0 : ByteArray) (z0 : a0.size ≤ maxLen) (a1 : ByteArray) (z1 : a1.size ≤ maxLen) (a2 : Int) (a3 : Int) :
    Calls Tryd.prog 7 #[.string a0, .string a1, .int .i64 a2, .int .i64 a3] w fun e w' => e = .returned (.bool true) ∧ Below w.heap.size w w' := by
  have z0' := z0
  unfold maxLen at z0
  have z1' := z1
  unfold maxLen at z1
  have hGh := hide hG
  clear hG
  have hB := hide (Below.refl w.heap.size w)
  have hGW := hGh
  by_cases g0 : 1048576 < (a0.size : Int)
  · skip
    go_enter Tryd.func7, Tryd.ntmps7
    go_wp2
    go_ret; exact ⟨rfl, hB.out⟩
  by_cases g1 : 1048576 < (a1.size : Int)
  · skip
    go_enter Tryd.func7, Tryd.ntmps7
    go_wp2
    go_ret; exact ⟨rfl, hB.out⟩
  go_enter Tryd.func7, Tryd.ntmps7
  go_wp2_with fail
  refine (sSum_any a0 a1 a2 a3 _ z1').mono ?_
  rintro e w1 ⟨rfl, hb⟩
  replace hB := hide (Below.up hB.out hb)
  clear hb
  go_wp2_with fail
  refine (iSum_any a0 a1 a2 a3 _ z1' (hGW.out.below hB.out)).mono ?_
  rintro e w1 ⟨rfl, hb⟩
  replace hB := hide (Below.up hB.out hb)
  clear hb
  go_wp2_with fail
  go_ret
  exact ⟨rfl, hB.out⟩
end Go.Proofs.YtmdnkkoacclfcaaDoor
