/- The walk of the exact law of ValuesOf. -/
import Derived.Test.YtmdnkkoacclfcaaDoorLogK
import Derived.Test.YtmdnkkoacclfcaaDoorSInts
import Derived.Test.YtmdnkkoacclfcaaDoorKInt64
namespace Go.Proofs.YtmdnkkoacclfcaaDoor
open Go.ChangeShapes Go.WideShapes Go.ChangeAt Go.RowKit Go.Deep
set_option maxRecDepth 100000
set_option maxHeartbeats 1000000 in
theorem walkValuesOf (w : World) (hG : Gl w) (a0 : ByteArray) (z0 : a0.size ≤ maxLen) (a1 : ByteArray) (z1 : a1.size ≤ maxLen) :
    Calls Tryd.prog 9 #[.string a0, .string a1] w fun e w' => e = .returned (.bool true) ∧ Below w.heap.size w w' := by
  have z0' := z0
  unfold maxLen at z0
  have z1' := z1
  unfold maxLen at z1
  have hGh := hide hG
  clear hG
  have hB := hide (Below.refl w.heap.size w)
  have hGW := hGh
  by_cases g0 : 1048576 < (a0.size : Int)
  · skip
    go_enter Tryd.func9, Tryd.ntmps9
    go_wp2
    go_ret; exact ⟨rfl, hB.out⟩
  by_cases g1 : 1048576 < (a1.size : Int)
  · skip
    go_enter Tryd.func9, Tryd.ntmps9
    go_wp2
    go_ret; exact ⟨rfl, hB.out⟩
  have hL0 : (mVals a0 a1).length ≤ 1048576 := mVals_len a0 a1
  go_enter Tryd.func9, Tryd.ntmps9
  go_wp2_with fail
  refine (sVals_any a0 a1 _ z1').mono ?_
  rintro e w1 ⟨vW0, rfl, hoW0, hb⟩
  have hW0 := hide (hoW0.less hB.out.size)
  obtain ⟨AW0, cW0, rfl, _⟩ := hoW0.slice
  clear hoW0
  replace hB := hide (Below.up hB.out hb)
  clear hb
  go_wp2_with fail
  refine (iVals_any a0 a1 _ z1' (hGW.out.below hB.out)).mono ?_
  rintro e w1 ⟨vG0, rfl, hoG0, hb⟩
  have dd_hW0_hG0 := hide (hW0.out.apart hoG0 (Nat.le_refl _)).1
  have dd_hG0_hW0 := hide (hW0.out.apart hoG0 (Nat.le_refl _)).2
  replace hW0 := hide (hW0.out.below hb)
  have hG0 := hide (hoG0.less hB.out.size)
  obtain ⟨AG0, cG0, rfl, _⟩ := hoG0.slice
  clear hoG0
  replace hB := hide (Below.up hB.out hb)
  clear hb
  go_wp2_with fail
  refine (eqInts_any _ _ _ _ _ _ _ _ _ hL0 (hG0.out.arr i64c_len) (hW0.out.arr i64c_len)).mono ?_
  rintro e w1 ⟨rfl, hb⟩
  replace hW0 := hide (hW0.out.below hb)
  replace hG0 := hide (hG0.out.below hb)
  replace hB := hide (Below.up hB.out hb)
  clear hb
  go_wp2_with fail
  refine (markInt64S_any _ _ _ _ _ _ (by omega) (by omega) hL0 hG0.out).mono ?_
  rintro e w1 ⟨rfl, hg, ho⟩
  replace hW0 := hide (hW0.out.kept hg dd_hW0_hG0.out)
  replace hB := hide (hG0.out.markBelow hB.out hg)
  replace hG0 := hide ho
  clear ho
  clear hg
  go_wp2_with fail
  refine (heldInt64S_any _ _ _ _ _ (by omega) (by omega) hL0 (hG0.out.arr i64c_len)).mono ?_
  rintro e w1 ⟨rfl, hb⟩
  replace hW0 := hide (hW0.out.below hb)
  replace hG0 := hide (hG0.out.below hb)
  replace hB := hide (Below.up hB.out hb)
  clear hb
  go_wp2_with fail
  refine (iVals_any a0 a1 _ z1' (hGW.out.below hB.out)).mono ?_
  rintro e w1 ⟨vH0, rfl, hoH0, hb⟩
  replace hW0 := hide (hW0.out.below hb)
  replace hG0 := hide (hG0.out.below hb)
  have hH0 := hide (hoH0.less hB.out.size)
  obtain ⟨AH0, cH0, rfl, _⟩ := hoH0.slice
  clear hoH0
  replace hB := hide (Below.up hB.out hb)
  clear hb
  go_wp2_with fail
  refine (eqInts_any _ _ _ _ _ _ _ _ _ hL0 (hH0.out.arr i64c_len) (hW0.out.arr i64c_len)).mono ?_
  rintro e w1 ⟨rfl, hb⟩
  replace hW0 := hide (hW0.out.below hb)
  replace hG0 := hide (hG0.out.below hb)
  replace hH0 := hide (hH0.out.below hb)
  replace hB := hide (Below.up hB.out hb)
  clear hb
  go_wp2_with fail
  refine (heldInt64S_any _ _ _ _ _ (by omega) (by omega) hL0 (hG0.out.arr i64c_len)).mono ?_
  rintro e w1 ⟨rfl, hb⟩
  replace hW0 := hide (hW0.out.below hb)
  replace hG0 := hide (hG0.out.below hb)
  replace hH0 := hide (hH0.out.below hb)
  replace hB := hide (Below.up hB.out hb)
  clear hb
  go_wp2_with fail
  go_ret
  exact ⟨rfl, hB.out⟩
end Go.Proofs.YtmdnkkoacclfcaaDoor
