/- The walk of the exact law of NamesIn. -/
import Derived.Test.YtmdnkkoacclfcaaDoorLogR
import Derived.Test.YtmdnkkoacclfcaaDoorSStrs
import Derived.Test.YtmdnkkoacclfcaaDoorKString
namespace Go.Proofs.YtmdnkkoacclfcaaDoor
open Go.ChangeShapes Go.WideShapes Go.ChangeAt Go.RowKit Go.Deep
set_option maxRecDepth 100000
set_option maxHeartbeats 1000000 in
theorem walkNamesIn (w : World) (hG : Gl w) (a0 : ByteArray) (z0 : a0.size ≤ maxLen) :
    Calls Tryd.prog 11 #[.string a0] w fun e w' => e = .returned (.bool true) ∧ Below w.heap.size w w' := by
  have z0' := z0
  unfold maxLen at z0
  have hGh := hide hG
  clear hG
  have hB := hide (Below.refl w.heap.size w)
  have hGW := hGh
  by_cases g0 : 1048576 < (a0.size : Int)
  · skip
    go_enter Tryd.func11, Tryd.ntmps11
    go_wp2
    go_ret; exact ⟨rfl, hB.out⟩
  have hL0 : (mNames a0).length ≤ 1048576 := mNames_len a0
  go_enter Tryd.func11, Tryd.ntmps11
  go_wp2_with fail
  refine (sNames_any a0 _).mono ?_
  rintro e w1 ⟨vW0, rfl, hoW0, hb⟩
  have hW0 := hide (hoW0.less hB.out.size)
  obtain ⟨AW0, cW0, rfl, _⟩ := hoW0.slice
  clear hoW0
  replace hB := hide (Below.up hB.out hb)
  clear hb
  go_wp2_with fail
  refine (iNames_any a0 _ (hGW.out.below hB.out)).mono ?_
  rintro e w1 ⟨vG0, rfl, hoG0, hb⟩
  have dd_hW0_hG0 := hide (hW0.out.apart hoG0 (Nat.le_refl _)).1
  have dd_hG0_hW0 := hide (hW0.out.apart hoG0 (Nat.le_refl _)).2
  replace hW0 := hide (hW0.out.below hb)
  have hG0 := hide (hoG0.less hB.out.size)
  obtain ⟨AG0, cG0, rfl, _⟩ := hoG0.slice
  clear hoG0
  replace hB := hide (Below.up hB.out hb)
  clear hb
  go_wp2_with fail
  refine (eqStrs_any _ _ _ _ _ _ _ _ _ hL0 (hG0.out.arr strc_len) (hW0.out.arr strc_len)).mono ?_
  rintro e w1 ⟨rfl, hb⟩
  replace hW0 := hide (hW0.out.below hb)
  replace hG0 := hide (hG0.out.below hb)
  replace hB := hide (Below.up hB.out hb)
  clear hb
  go_wp2_with fail
  refine (markStringS_any _ _ _ _ _ _ (by omega) (by omega) hL0 hG0.out).mono ?_
  rintro e w1 ⟨rfl, hg, ho⟩
  replace hW0 := hide (hW0.out.kept hg dd_hW0_hG0.out)
  replace hB := hide (hG0.out.markBelow hB.out hg)
  replace hG0 := hide ho
  clear ho
  clear hg
  go_wp2_with fail
  refine (heldStringS_any _ _ _ _ _ (by omega) (by omega) hL0 (hG0.out.arr strc_len)).mono ?_
  rintro e w1 ⟨rfl, hb⟩
  replace hW0 := hide (hW0.out.below hb)
  replace hG0 := hide (hG0.out.below hb)
  replace hB := hide (Below.up hB.out hb)
  clear hb
  go_wp2_with fail
  refine (iNames_any a0 _ (hGW.out.below hB.out)).mono ?_
  rintro e w1 ⟨vH0, rfl, hoH0, hb⟩
  replace hW0 := hide (hW0.out.below hb)
  replace hG0 := hide (hG0.out.below hb)
  have hH0 := hide (hoH0.less hB.out.size)
  obtain ⟨AH0, cH0, rfl, _⟩ := hoH0.slice
  clear hoH0
  replace hB := hide (Below.up hB.out hb)
  clear hb
  go_wp2_with fail
  refine (eqStrs_any _ _ _ _ _ _ _ _ _ hL0 (hH0.out.arr strc_len) (hW0.out.arr strc_len)).mono ?_
  rintro e w1 ⟨rfl, hb⟩
  replace hW0 := hide (hW0.out.below hb)
  replace hG0 := hide (hG0.out.below hb)
  replace hH0 := hide (hH0.out.below hb)
  replace hB := hide (Below.up hB.out hb)
  clear hb
  go_wp2_with fail
  refine (heldStringS_any _ _ _ _ _ (by omega) (by omega) hL0 (hG0.out.arr strc_len)).mono ?_
  rintro e w1 ⟨rfl, hb⟩
  replace hW0 := hide (hW0.out.below hb)
  replace hG0 := hide (hG0.out.below hb)
  replace hH0 := hide (hH0.out.below hb)
  replace hB := hide (Below.up hB.out hb)
  clear hb
  go_wp2_with fail
  go_ret
  exact ⟨rfl, hB.out⟩
end Go.Proofs.YtmdnkkoacclfcaaDoor
