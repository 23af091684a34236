/- The walks of the exact laws of CheckLog and RecoverLog. -/
import Derived.Test.YtmdnkkoacclfcaaDoorLogG
import Derived.Test.YtmdnkkoacclfcaaDoorMark
namespace Go.Proofs.YtmdnkkoacclfcaaDoor
open Go.ChangeShapes Go.WideShapes Go.ChangeAt Go.RowKit Go.Deep
set_option maxRecDepth 100000
set_option maxHeartbeats 1000000 in
theorem walkCheckLog (w : World) (hG : Gl w) (a0 : ByteArray) (z0 : a0.size ≤ maxLen) :
    Calls Tryd.prog 5 #[.string a0] w fun e w' => e = .returned (.bool true) ∧ Below w.heap.size w w' := by
  have z0' := z0
  unfold maxLen at z0
  have hGh := hide hG
  clear hG
  have hB := hide (Below.refl w.heap.size w)
  have hGW := hGh
  by_cases g0 : 1048576 < (a0.size : Int)
  · skip
    go_enter Tryd.func5, Tryd.ntmps5
    go_wp2
    go_ret; exact ⟨rfl, hB.out⟩
  go_enter Tryd.func5, Tryd.ntmps5
  go_wp2_with fail
  refine (sCheck_any a0 _).mono ?_
  rintro e w1 ⟨rfl, hb⟩
  replace hB := hide (Below.up hB.out hb)
  clear hb
  go_wp2_with fail
  refine (iCheck_any a0 _ (hGW.out.below hB.out)).mono ?_
  rintro e w1 ⟨rfl, hb⟩
  replace hB := hide (Below.up hB.out hb)
  clear hb
  go_wp2_with fail
  go_ret
  exact ⟨rfl, hB.out⟩
set_option maxHeartbeats 1000000 in
theorem walkRecoverLog (w : World) (hG : Gl w) (a0 : ByteArray) (z0 : a0.size ≤ maxLen) :
    Calls Tryd.prog 6 #[.string a0] w fun e w' => e = .returned (.bool true) ∧ Below w.heap.size w w' := by
  have z0' := z0
  unfold maxLen at z0
  have hGh := hide hG
  clear hG
  have hB := hide (Below.refl w.heap.size w)
  have hGW := hGh
  by_cases g0 : 1048576 < (a0.size : Int)
  · skip
    go_enter Tryd.func6, Tryd.ntmps6
    go_wp2
    go_ret; exact ⟨rfl, hB.out⟩
  go_enter Tryd.func6, Tryd.ntmps6
  go_wp2_with fail
  refine (sRec_any a0 _).mono ?_
  rintro e w1 ⟨rfl, hb⟩
  replace hB := hide (Below.up hB.out hb)
  clear hb
  go_wp2_with fail
  refine (iRec_any a0 _ (hGW.out.below hB.out)).mono ?_
  rintro e w1 ⟨rfl, hb⟩
  replace hB := hide (Below.up hB.out hb)
  clear hb
  go_wp2_with fail
  go_ret
  exact ⟨rfl, hB.out⟩
end Go.Proofs.YtmdnkkoacclfcaaDoor
