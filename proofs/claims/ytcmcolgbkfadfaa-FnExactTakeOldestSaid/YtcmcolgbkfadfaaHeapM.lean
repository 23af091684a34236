/- The walks of the exact laws of the heaps: the law calls the reference and the program at copies of its arguments, compares, and looks whether they share memory. -/
import Derived.Test.YtcmcolgbkfadfaaHeapE
import Derived.Test.YtcmcolgbkfadfaaKHeap
namespace Go.Proofs.Ytcmcolgbkfadfaa
open Go.ChangeShapes Go.WideShapes Go.ChangeAt Go.RowKit Go.Deep
set_option maxRecDepth 100000
set_option maxHeartbeats 2000000 in
theorem walkTakeOldest (w : World) (A0 : Option Addr) (n0 c0 : Nat) (l0 : List Heap) (hc0 : n0 ≤ c0) (hm0 : c0 ≤ maxLen) (hq0 : ∀ x ∈ l0, x.fits) (hr0 : Arr Heap.cells 3 w w.heap.size A0 n0 l0) (a1 : ByteArray) (z1 : a1.size ≤ maxLen) (a2 : Int) :
    Calls Try.prog 5 #[.slice A0 n0 c0, .string a1, .int .i64 a2] w fun e w' => e = .returned (.bool true) ∧ Below w.heap.size w w' := by
  have hN0 : n0 ≤ maxLen := Nat.le_trans hc0 hm0
  clear hc0 hm0
  have z1' := z1
  unfold maxLen at z1
  have hB := hide (Below.refl w.heap.size w)
  by_cases g1 : 1048576 < (a1.size : Int)
  · skip
    go_enter Try.func5, Try.ntmps5
    go_wp2
    go_ret; exact ⟨rfl, hB.out⟩
  by_cases g0 : 1048576 - Heap.tot l0 < 0
  · have hs0 := szv_neg g0
    go_enter Try.func5, Try.ntmps5
    go_wp2_with (first | (go_at_call 9; refine (szHeapS_any A0 n0 c0 l0 _ _ hN0 (by omega) (by omega) (hr0.go hB.out) hq0).mono ?_; rintro e whB ⟨rfl, hb⟩; have hB := hide (Below.up hB.out hb); clear hb))
    go_ret; exact ⟨rfl, hB.out⟩
  have hs0 := szv_pos (x := 1048576 - Heap.tot l0) (by omega)
  have hp0 := Heap.pre_nonneg l0
  have ht0 : Hid (Heap.tot l0 = n0 + Heap.pre l0) := by unfold Heap.tot; rw [hr0.len]; rfl
  have hT0 : 0 ≤ Heap.tot l0 := by have := ht0.out; omega
  have hn0 : n0 ≤ 1048576 := by have := ht0.out; omega
  have hL0 : (mTkL l0 a1 a2).length ≤ 1048576 := mTkL_len l0 a1 a2 hr0.len hn0
  have hL1 : (mTkT l0 a1 a2).length ≤ 1048576 := mTkT_len l0 a1 a2 hr0.len hn0
  go_enter Try.func5, Try.ntmps5
  go_wp2_with fail
  refine (szHeapS_any A0 n0 c0 l0 _ _ hN0 (by omega) (by omega) (hr0.go hB.out) hq0).mono ?_
  rintro e w1 ⟨rfl, hb⟩
  replace hB := hide (Below.up hB.out hb)
  clear hb
  go_wp2_with fail
  refine (toHeapS_any A0 n0 c0 l0 _ hn0 (hr0.go hB.out)).mono ?_
  rintro e w1 ⟨rfl, ho, hb⟩
  have hS0 := hide (ho.res.less hB.out.size)
  clear ho
  replace hB := hide (Below.up hB.out hb)
  clear hb
  go_wp2_with fail
  refine (sTake_any _ n0 _ l0 a1 a2 _ hn0 hq0 z1' (hS0.out.arr Heap.len)).mono ?_
  rintro e w1 ⟨vW0, vW1, rfl, hoW0, hoW1, hd, hb⟩
  have dd_hW0_hW1 := hide hd.1
  have dd_hW1_hW0 := hide hd.2
  clear hd
  replace hS0 := hide (hS0.out.below hb)
  have hW0 := hide (hoW0.less hB.out.size)
  have hW1 := hide (hoW1.less hB.out.size)
  obtain ⟨AW0, cW0, rfl, _⟩ := hoW0.slice
  clear hoW0
  obtain ⟨AW1, cW1, rfl, _⟩ := hoW1.slice
  clear hoW1
  replace hB := hide (Below.up hB.out hb)
  clear hb
  go_wp2_with fail
  refine (toHeapS_any A0 n0 c0 l0 _ hn0 (hr0.go hB.out)).mono ?_
  rintro e w1 ⟨rfl, ho, hb⟩
  have dd_hW0_hX0 := hide (hW0.out.apart ho.res (Nat.le_refl _)).1
  have dd_hW1_hX0 := hide (hW1.out.apart ho.res (Nat.le_refl _)).1
  replace hW0 := hide (hW0.out.below hb)
  replace hW1 := hide (hW1.out.below hb)
  have hX0 := hide (ho.res.less hB.out.size)
  clear ho
  replace hB := hide (Below.up hB.out hb)
  clear hb
  go_wp2_with fail
  refine (iTake_any _ n0 _ l0 a1 a2 _ hn0 hq0 z1' (hX0.out.arr Heap.len)).mono ?_
  rintro e w1 ⟨vG0, vG1, rfl, hoG0, hoG1, hd, hb⟩
  have dd_hW0_hG0 := hide (hW0.out.apart hoG0 (Nat.le_refl _)).1
  have dd_hG0_hW0 := hide (hW0.out.apart hoG0 (Nat.le_refl _)).2
  have dd_hW1_hG0 := hide (hW1.out.apart hoG0 (Nat.le_refl _)).1
  have dd_hG0_hW1 := hide (hW1.out.apart hoG0 (Nat.le_refl _)).2
  have dd_hX0_hG0 := hide (hX0.out.apart hoG0 (Nat.le_refl _)).1
  have dd_hG0_hX0 := hide (hX0.out.apart hoG0 (Nat.le_refl _)).2
  have dd_hW0_hG1 := hide (hW0.out.apart hoG1 (Nat.le_refl _)).1
  have dd_hG1_hW0 := hide (hW0.out.apart hoG1 (Nat.le_refl _)).2
  have dd_hW1_hG1 := hide (hW1.out.apart hoG1 (Nat.le_refl _)).1
  have dd_hG1_hW1 := hide (hW1.out.apart hoG1 (Nat.le_refl _)).2
  have dd_hX0_hG1 := hide (hX0.out.apart hoG1 (Nat.le_refl _)).1
  have dd_hG1_hX0 := hide (hX0.out.apart hoG1 (Nat.le_refl _)).2
  have dd_hG0_hG1 := hide hd.1
  have dd_hG1_hG0 := hide hd.2
  clear hd
  replace hW0 := hide (hW0.out.below hb)
  replace hW1 := hide (hW1.out.below hb)
  replace hX0 := hide (hX0.out.below hb)
  have hG0 := hide (hoG0.less hB.out.size)
  have hG1 := hide (hoG1.less hB.out.size)
  obtain ⟨AG0, cG0, rfl, _⟩ := hoG0.slice
  clear hoG0
  obtain ⟨AG1, cG1, rfl, _⟩ := hoG1.slice
  clear hoG1
  replace hB := hide (Below.up hB.out hb)
  clear hb
  go_wp2_with fail
  refine (eqHeapS_any _ _ _ _ _ _ _ _ _ hL0 (hG0.out.arr Heap.len) (hW0.out.arr Heap.len)).mono ?_
  rintro e w1 ⟨rfl, hb⟩
  replace hW0 := hide (hW0.out.below hb)
  replace hW1 := hide (hW1.out.below hb)
  replace hX0 := hide (hX0.out.below hb)
  replace hG0 := hide (hG0.out.below hb)
  replace hG1 := hide (hG1.out.below hb)
  replace hB := hide (Below.up hB.out hb)
  clear hb
  go_wp2_with fail
  refine (eqHeapS_any _ _ _ _ _ _ _ _ _ hL1 (hG1.out.arr Heap.len) (hW1.out.arr Heap.len)).mono ?_
  rintro e w1 ⟨rfl, hb⟩
  replace hW0 := hide (hW0.out.below hb)
  replace hW1 := hide (hW1.out.below hb)
  replace hX0 := hide (hX0.out.below hb)
  replace hG0 := hide (hG0.out.below hb)
  replace hG1 := hide (hG1.out.below hb)
  replace hB := hide (Below.up hB.out hb)
  clear hb
  go_wp2_with fail
  refine (toHeapS_any A0 n0 c0 l0 _ hn0 (hr0.go hB.out)).mono ?_
  rintro e w1 ⟨rfl, ho, hb⟩
  replace hW0 := hide (hW0.out.below hb)
  replace hW1 := hide (hW1.out.below hb)
  replace hX0 := hide (hX0.out.below hb)
  replace hG0 := hide (hG0.out.below hb)
  replace hG1 := hide (hG1.out.below hb)
  have hY0 := hide (ho.res.less hB.out.size)
  clear ho
  replace hB := hide (Below.up hB.out hb)
  clear hb
  go_wp2_with fail
  refine (eqHeapS_any _ _ _ _ _ _ _ _ _ hn0 (hX0.out.arr Heap.len) (hY0.out.arr Heap.len)).mono ?_
  rintro e w1 ⟨rfl, hb⟩
  replace hW0 := hide (hW0.out.below hb)
  replace hW1 := hide (hW1.out.below hb)
  replace hX0 := hide (hX0.out.below hb)
  replace hG0 := hide (hG0.out.below hb)
  replace hG1 := hide (hG1.out.below hb)
  replace hY0 := hide (hY0.out.below hb)
  replace hB := hide (Below.up hB.out hb)
  clear hb
  go_wp2_with fail
  refine (markHeapS_any _ _ _ _ _ _ (by omega) (by omega) hn0 hX0.out).mono ?_
  rintro e w1 ⟨rfl, hg, ho⟩
  replace hW0 := hide (hW0.out.kept hg dd_hW0_hX0.out)
  replace hW1 := hide (hW1.out.kept hg dd_hW1_hX0.out)
  replace hG0 := hide (hG0.out.kept hg dd_hG0_hX0.out)
  replace hG1 := hide (hG1.out.kept hg dd_hG1_hX0.out)
  replace hB := hide (hX0.out.markBelow hB.out hg)
  clear ho
  clear hg
  go_wp2_with fail
  refine (eqHeapS_any _ _ _ _ _ _ _ _ _ hL0 (hG0.out.arr Heap.len) (hW0.out.arr Heap.len)).mono ?_
  rintro e w1 ⟨rfl, hb⟩
  replace hW0 := hide (hW0.out.below hb)
  replace hW1 := hide (hW1.out.below hb)
  replace hG0 := hide (hG0.out.below hb)
  replace hG1 := hide (hG1.out.below hb)
  replace hB := hide (Below.up hB.out hb)
  clear hb
  go_wp2_with fail
  refine (eqHeapS_any _ _ _ _ _ _ _ _ _ hL1 (hG1.out.arr Heap.len) (hW1.out.arr Heap.len)).mono ?_
  rintro e w1 ⟨rfl, hb⟩
  replace hW0 := hide (hW0.out.below hb)
  replace hW1 := hide (hW1.out.below hb)
  replace hG0 := hide (hG0.out.below hb)
  replace hG1 := hide (hG1.out.below hb)
  replace hB := hide (Below.up hB.out hb)
  clear hb
  go_wp2_with fail
  refine (markHeapS_any _ _ _ _ _ _ (by omega) (by omega) hL0 hG0.out).mono ?_
  rintro e w1 ⟨rfl, hg, ho⟩
  replace hW0 := hide (hW0.out.kept hg dd_hW0_hG0.out)
  replace hW1 := hide (hW1.out.kept hg dd_hW1_hG0.out)
  replace hG1 := hide (hG1.out.kept hg dd_hG1_hG0.out)
  replace hB := hide (hG0.out.markBelow hB.out hg)
  replace hG0 := hide ho
  clear ho
  clear hg
  go_wp2_with fail
  refine (markHeapS_any _ _ _ _ _ _ (by omega) (by omega) hL1 hG1.out).mono ?_
  rintro e w1 ⟨rfl, hg, ho⟩
  replace hW0 := hide (hW0.out.kept hg dd_hW0_hG1.out)
  replace hW1 := hide (hW1.out.kept hg dd_hW1_hG1.out)
  replace hG0 := hide (hG0.out.kept hg dd_hG0_hG1.out)
  replace hB := hide (hG1.out.markBelow hB.out hg)
  replace hG1 := hide ho
  clear ho
  clear hg
  go_wp2_with fail
  refine (heldHeapS_any _ _ _ _ _ (by omega) (by omega) hL0 (hG0.out.arr Heap.len)).mono ?_
  rintro e w1 ⟨rfl, hb⟩
  replace hW0 := hide (hW0.out.below hb)
  replace hW1 := hide (hW1.out.below hb)
  replace hG0 := hide (hG0.out.below hb)
  replace hG1 := hide (hG1.out.below hb)
  replace hB := hide (Below.up hB.out hb)
  clear hb
  go_wp2_with fail
  refine (heldHeapS_any _ _ _ _ _ (by omega) (by omega) hL1 (hG1.out.arr Heap.len)).mono ?_
  rintro e w1 ⟨rfl, hb⟩
  replace hW0 := hide (hW0.out.below hb)
  replace hW1 := hide (hW1.out.below hb)
  replace hG0 := hide (hG0.out.below hb)
  replace hG1 := hide (hG1.out.below hb)
  replace hB := hide (Below.up hB.out hb)
  clear hb
  go_wp2_with fail
  refine (toHeapS_any A0 n0 c0 l0 _ hn0 (hr0.go hB.out)).mono ?_
  rintro e w1 ⟨rfl, ho, hb⟩
  replace hW0 := hide (hW0.out.below hb)
  replace hW1 := hide (hW1.out.below hb)
  replace hG0 := hide (hG0.out.below hb)
  replace hG1 := hide (hG1.out.below hb)
  have hZ0 := hide (ho.res.less hB.out.size)
  clear ho
  replace hB := hide (Below.up hB.out hb)
  clear hb
  go_wp2_with fail
  refine (iTake_any _ n0 _ l0 a1 a2 _ hn0 hq0 z1' (hZ0.out.arr Heap.len)).mono ?_
  rintro e w1 ⟨vH0, vH1, rfl, hoH0, hoH1, hd, hb⟩
  have dd_hH0_hH1 := hide hd.1
  have dd_hH1_hH0 := hide hd.2
  clear hd
  replace hW0 := hide (hW0.out.below hb)
  replace hW1 := hide (hW1.out.below hb)
  replace hG0 := hide (hG0.out.below hb)
  replace hG1 := hide (hG1.out.below hb)
  replace hZ0 := hide (hZ0.out.below hb)
  have hH0 := hide (hoH0.less hB.out.size)
  have hH1 := hide (hoH1.less hB.out.size)
  obtain ⟨AH0, cH0, rfl, _⟩ := hoH0.slice
  clear hoH0
  obtain ⟨AH1, cH1, rfl, _⟩ := hoH1.slice
  clear hoH1
  replace hB := hide (Below.up hB.out hb)
  clear hb
  go_wp2_with fail
  refine (eqHeapS_any _ _ _ _ _ _ _ _ _ hL0 (hH0.out.arr Heap.len) (hW0.out.arr Heap.len)).mono ?_
  rintro e w1 ⟨rfl, hb⟩
  replace hW0 := hide (hW0.out.below hb)
  replace hW1 := hide (hW1.out.below hb)
  replace hG0 := hide (hG0.out.below hb)
  replace hG1 := hide (hG1.out.below hb)
  replace hH0 := hide (hH0.out.below hb)
  replace hH1 := hide (hH1.out.below hb)
  replace hB := hide (Below.up hB.out hb)
  clear hb
  go_wp2_with fail
  refine (eqHeapS_any _ _ _ _ _ _ _ _ _ hL1 (hH1.out.arr Heap.len) (hW1.out.arr Heap.len)).mono ?_
  rintro e w1 ⟨rfl, hb⟩
  replace hW0 := hide (hW0.out.below hb)
  replace hW1 := hide (hW1.out.below hb)
  replace hG0 := hide (hG0.out.below hb)
  replace hG1 := hide (hG1.out.below hb)
  replace hH0 := hide (hH0.out.below hb)
  replace hH1 := hide (hH1.out.below hb)
  replace hB := hide (Below.up hB.out hb)
  clear hb
  go_wp2_with fail
  refine (heldHeapS_any _ _ _ _ _ (by omega) (by omega) hL0 (hG0.out.arr Heap.len)).mono ?_
  rintro e w1 ⟨rfl, hb⟩
  replace hW0 := hide (hW0.out.below hb)
  replace hW1 := hide (hW1.out.below hb)
  replace hG0 := hide (hG0.out.below hb)
  replace hG1 := hide (hG1.out.below hb)
  replace hH0 := hide (hH0.out.below hb)
  replace hH1 := hide (hH1.out.below hb)
  replace hB := hide (Below.up hB.out hb)
  clear hb
  go_wp2_with fail
  refine (heldHeapS_any _ _ _ _ _ (by omega) (by omega) hL1 (hG1.out.arr Heap.len)).mono ?_
  rintro e w1 ⟨rfl, hb⟩
  replace hW0 := hide (hW0.out.below hb)
  replace hW1 := hide (hW1.out.below hb)
  replace hG0 := hide (hG0.out.below hb)
  replace hG1 := hide (hG1.out.below hb)
  replace hH0 := hide (hH0.out.below hb)
  replace hH1 := hide (hH1.out.below hb)
  replace hB := hide (Below.up hB.out hb)
  clear hb
  go_wp2_with fail
  go_ret
  exact ⟨rfl, hB.out⟩
end Go.Proofs.Ytcmcolgbkfadfaa
