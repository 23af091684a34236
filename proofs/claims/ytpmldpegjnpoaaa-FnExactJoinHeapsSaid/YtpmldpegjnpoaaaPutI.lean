/- The walks of the exact laws of the heaps: the law calls the reference and the program at copies of its arguments, compares, and looks whether they share memory. -/
import Derived.Test.YtpmldpegjnpoaaaPutG
import Derived.Test.YtpmldpegjnpoaaaKHeap
import Derived.Deep.RegionHeld3
namespace Go.Proofs.Ytpmldpegjnpoaaa
open Go.ChangeShapes Go.WideShapes Go.ChangeAt Go.RowKit Go.Deep
set_option maxRecDepth 100000
set_option maxHeartbeats 2000000 in
theorem walkJoinHeaps (w : World) (A0 : Option Addr) (n0 c0 : Nat) (l0 : List Heap) (hc0 : n0 ≤ c0) (hm0 : c0 ≤ maxLen) (hq0 : ∀ x ∈ l0, x.fits) (hr0 : Arr Heap.cells 3 w w.heap.size A0 n0 l0) (A1 : Option Addr) (n1 c1 : Nat) (l1 : List Heap) (hc1 : n1 ≤ c1) (hm1 : c1 ≤ maxLen) (hq1 : ∀ x ∈ l1, x.fits) (hr1 : Arr Heap.cells 3 w w.heap.size A1 n1 l1) :
    Calls Try.prog 4 #[.slice A0 n0 c0, .slice A1 n1 c1] w fun e w' => e = .returned (.bool true) ∧ Below w.heap.size w w' := by
  have hN0 : n0 ≤ maxLen := Nat.le_trans hc0 hm0
  clear hc0 hm0
  have hN1 : n1 ≤ maxLen := Nat.le_trans hc1 hm1
  clear hc1 hm1
  have hB := hide (Below.refl w.heap.size w)
  by_cases g0 : 1048576 - Heap.tot l0 < 0
  · have hs0 := szv_neg g0
    go_enter Try.func4, Try.ntmps4
    go_wp2_with (first | (go_at_call 6; refine (szHeapS_any A0 n0 c0 l0 _ _ hN0 (by omega) (by omega) (hr0.go hB.out) hq0).mono ?_; rintro e whB ⟨rfl, hb⟩; have hB := hide (Below.up hB.out hb); clear hb))
    go_ret; exact ⟨rfl, hB.out⟩
  have hs0 := szv_pos (x := 1048576 - Heap.tot l0) (by omega)
  have hp0 := Heap.pre_nonneg l0
  have ht0 : Hid (Heap.tot l0 = n0 + Heap.pre l0) := by unfold Heap.tot; rw [hr0.len]; rfl
  have hT0 : 0 ≤ Heap.tot l0 := by have := ht0.out; omega
  have hn0 : n0 ≤ 1048576 := by have := ht0.out; omega
  by_cases g1 : 1048576 - Heap.tot l0 - Heap.tot l1 < 0
  · have hs1 := szv_neg g1
    go_enter Try.func4, Try.ntmps4
    go_wp2_with fail
    refine (szHeapS_any A0 n0 c0 l0 _ _ hN0 (by omega) (by omega) (hr0.go hB.out) hq0).mono ?_
    rintro e w1 ⟨rfl, hb⟩
    replace hB := hide (Below.up hB.out hb)
    clear hb
    go_wp2_with fail
    refine (szHeapS_any A1 n1 c1 l1 _ _ hN1 (by omega) (by omega) (hr1.go hB.out) hq1).mono ?_
    rintro e w1 ⟨rfl, hb⟩
    replace hB := hide (Below.up hB.out hb)
    clear hb
    go_wp2
    go_ret; exact ⟨rfl, hB.out⟩
  have hs1 := szv_pos (x := 1048576 - Heap.tot l0 - Heap.tot l1) (by omega)
  have hp1 := Heap.pre_nonneg l1
  have ht1 : Hid (Heap.tot l1 = n1 + Heap.pre l1) := by unfold Heap.tot; rw [hr1.len]; rfl
  have hT1 : 0 ≤ Heap.tot l1 := by have := ht1.out; omega
  have hn1 : n1 ≤ 1048576 := by have := ht1.out; omega
  have hL0 : (mJoinL l0 l1).length ≤ 1048576 := mJoinL_len l0 l1
  go_enter Try.func4, Try.ntmps4
  go_wp2_with fail
  refine (szHeapS_any A0 n0 c0 l0 _ _ hN0 (by omega) (by omega) (hr0.go hB.out) hq0).mono ?_
  rintro e w1 ⟨rfl, hb⟩
  replace hB := hide (Below.up hB.out hb)
  clear hb
  go_wp2_with fail
  refine (szHeapS_any A1 n1 c1 l1 _ _ hN1 (by omega) (by omega) (hr1.go hB.out) hq1).mono ?_
  rintro e w1 ⟨rfl, hb⟩
  replace hB := hide (Below.up hB.out hb)
  clear hb
  go_wp2_with fail
  refine (toHeapS_any A0 n0 c0 l0 _ hn0 (hr0.go hB.out)).mono ?_
  rintro e w1 ⟨rfl, ho, hb⟩
  have hS0 := hide (ho.res.less hB.out.size)
  clear ho
  replace hB := hide (Below.up hB.out hb)
  clear hb
  go_wp2_with fail
  refine (toHeapS_any A1 n1 c1 l1 _ hn1 (hr1.go hB.out)).mono ?_
  rintro e w1 ⟨rfl, ho, hb⟩
  replace hS0 := hide (hS0.out.below hb)
  have hS1 := hide (ho.res.less hB.out.size)
  clear ho
  replace hB := hide (Below.up hB.out hb)
  clear hb
  go_wp2_with fail
  refine (sJoin_any _ n0 _ l0 _ hn0 hq0 (hS0.out.arr Heap.len) _ n1 _ l1 hn1 hq1 (hS1.out.arr Heap.len)).mono ?_
  rintro e w1 ⟨vW0, rfl, hoW0, hb⟩
  replace hS0 := hide (hS0.out.below hb)
  replace hS1 := hide (hS1.out.below hb)
  have hW0 := hide (hoW0.less hB.out.size)
  obtain ⟨AW0, cW0, rfl, _⟩ := hoW0.slice
  clear hoW0
  replace hB := hide (Below.up hB.out hb)
  clear hb
  go_wp2_with fail
  refine (toHeapS_any A0 n0 c0 l0 _ hn0 (hr0.go hB.out)).mono ?_
  rintro e w1 ⟨rfl, ho, hb⟩
  have dd_hW0_hX0 := hide (hW0.out.apart ho.res (Nat.le_refl _)).1
  replace hW0 := hide (hW0.out.below hb)
  have hX0 := hide (ho.res.less hB.out.size)
  clear ho
  replace hB := hide (Below.up hB.out hb)
  clear hb
  go_wp2_with fail
  refine (toHeapS_any A1 n1 c1 l1 _ hn1 (hr1.go hB.out)).mono ?_
  rintro e w1 ⟨rfl, ho, hb⟩
  have dd_hW0_hX1 := hide (hW0.out.apart ho.res (Nat.le_refl _)).1
  have dd_hX0_hX1 := hide (hX0.out.apart ho.res (Nat.le_refl _)).1
  have dd_hX1_hX0 := hide (hX0.out.apart ho.res (Nat.le_refl _)).2
  replace hW0 := hide (hW0.out.below hb)
  replace hX0 := hide (hX0.out.below hb)
  have hX1 := hide (ho.res.less hB.out.size)
  clear ho
  replace hB := hide (Below.up hB.out hb)
  clear hb
  go_wp2_with fail
  refine (iJoin_any _ n0 _ l0 _ hn0 hq0 (hX0.out.arr Heap.len) _ n1 _ l1 hn1 hq1 (hX1.out.arr Heap.len)).mono ?_
  rintro e w1 ⟨vG0, rfl, hoG0, hb⟩
  have dd_hW0_hG0 := hide (hW0.out.apart hoG0 (Nat.le_refl _)).1
  have dd_hG0_hW0 := hide (hW0.out.apart hoG0 (Nat.le_refl _)).2
  have dd_hX0_hG0 := hide (hX0.out.apart hoG0 (Nat.le_refl _)).1
  have dd_hG0_hX0 := hide (hX0.out.apart hoG0 (Nat.le_refl _)).2
  have dd_hX1_hG0 := hide (hX1.out.apart hoG0 (Nat.le_refl _)).1
  have dd_hG0_hX1 := hide (hX1.out.apart hoG0 (Nat.le_refl _)).2
  replace hW0 := hide (hW0.out.below hb)
  replace hX0 := hide (hX0.out.below hb)
  replace hX1 := hide (hX1.out.below hb)
  have hG0 := hide (hoG0.less hB.out.size)
  obtain ⟨AG0, cG0, rfl, _⟩ := hoG0.slice
  clear hoG0
  replace hB := hide (Below.up hB.out hb)
  clear hb
  go_wp2_with fail
  refine (eqHeapS_any _ _ _ _ _ _ _ _ _ hL0 (hG0.out.arr Heap.len) (hW0.out.arr Heap.len)).mono ?_
  rintro e w1 ⟨rfl, hb⟩
  replace hW0 := hide (hW0.out.below hb)
  replace hX0 := hide (hX0.out.below hb)
  replace hX1 := hide (hX1.out.below hb)
  replace hG0 := hide (hG0.out.below hb)
  replace hB := hide (Below.up hB.out hb)
  clear hb
  go_wp2_with fail
  refine (toHeapS_any A0 n0 c0 l0 _ hn0 (hr0.go hB.out)).mono ?_
  rintro e w1 ⟨rfl, ho, hb⟩
  replace hW0 := hide (hW0.out.below hb)
  replace hX0 := hide (hX0.out.below hb)
  replace hX1 := hide (hX1.out.below hb)
  replace hG0 := hide (hG0.out.below hb)
  have hY0 := hide (ho.res.less hB.out.size)
  clear ho
  replace hB := hide (Below.up hB.out hb)
  clear hb
  go_wp2_with fail
  refine (eqHeapS_any _ _ _ _ _ _ _ _ _ hn0 (hX0.out.arr Heap.len) (hY0.out.arr Heap.len)).mono ?_
  rintro e w1 ⟨rfl, hb⟩
  replace hW0 := hide (hW0.out.below hb)
  replace hX0 := hide (hX0.out.below hb)
  replace hX1 := hide (hX1.out.below hb)
  replace hG0 := hide (hG0.out.below hb)
  replace hY0 := hide (hY0.out.below hb)
  replace hB := hide (Below.up hB.out hb)
  clear hb
  go_wp2_with fail
  refine (toHeapS_any A1 n1 c1 l1 _ hn1 (hr1.go hB.out)).mono ?_
  rintro e w1 ⟨rfl, ho, hb⟩
  replace hW0 := hide (hW0.out.below hb)
  replace hX0 := hide (hX0.out.below hb)
  replace hX1 := hide (hX1.out.below hb)
  replace hG0 := hide (hG0.out.below hb)
  have hY1 := hide (ho.res.less hB.out.size)
  clear ho
  replace hB := hide (Below.up hB.out hb)
  clear hb
  go_wp2_with fail
  refine (eqHeapS_any _ _ _ _ _ _ _ _ _ hn1 (hX1.out.arr Heap.len) (hY1.out.arr Heap.len)).mono ?_
  rintro e w1 ⟨rfl, hb⟩
  replace hW0 := hide (hW0.out.below hb)
  replace hX0 := hide (hX0.out.below hb)
  replace hX1 := hide (hX1.out.below hb)
  replace hG0 := hide (hG0.out.below hb)
  replace hY1 := hide (hY1.out.below hb)
  replace hB := hide (Below.up hB.out hb)
  clear hb
  go_wp2_with fail
  refine (markHeapS_any _ _ _ _ _ _ (by omega) (by omega) hn0 hX0.out).mono ?_
  rintro e w1 ⟨rfl, hg, ho⟩
  replace hW0 := hide (hW0.out.kept hg dd_hW0_hX0.out)
  replace hX1 := hide (hX1.out.kept hg dd_hX1_hX0.out)
  replace hG0 := hide (hG0.out.kept hg dd_hG0_hX0.out)
  replace hB := hide (hX0.out.markBelow hB.out hg)
  clear ho
  clear hg
  go_wp2_with fail
  refine (markHeapS_any _ _ _ _ _ _ (by omega) (by omega) hn1 hX1.out).mono ?_
  rintro e w1 ⟨rfl, hg, ho⟩
  replace hW0 := hide (hW0.out.kept hg dd_hW0_hX1.out)
  replace hG0 := hide (hG0.out.kept hg dd_hG0_hX1.out)
  replace hB := hide (hX1.out.markBelow hB.out hg)
  clear ho
  clear hg
  go_wp2_with fail
  refine (eqHeapS_any _ _ _ _ _ _ _ _ _ hL0 (hG0.out.arr Heap.len) (hW0.out.arr Heap.len)).mono ?_
  rintro e w1 ⟨rfl, hb⟩
  replace hW0 := hide (hW0.out.below hb)
  replace hG0 := hide (hG0.out.below hb)
  replace hB := hide (Below.up hB.out hb)
  clear hb
  go_wp2_with fail
  refine (markHeapS_any _ _ _ _ _ _ (by omega) (by omega) hL0 hG0.out).mono ?_
  rintro e w1 ⟨rfl, hg, ho⟩
  replace hW0 := hide (hW0.out.kept hg dd_hW0_hG0.out)
  replace hB := hide (hG0.out.markBelow hB.out hg)
  replace hG0 := hide ho
  clear ho
  clear hg
  go_wp2_with fail
  refine (heldHeapS_any _ _ _ _ _ (by omega) (by omega) hL0 (hG0.out.arr Heap.len)).mono ?_
  rintro e w1 ⟨rfl, hb⟩
  replace hW0 := hide (hW0.out.below hb)
  replace hG0 := hide (hG0.out.below hb)
  replace hB := hide (Below.up hB.out hb)
  clear hb
  go_wp2_with fail
  refine (toHeapS_any A0 n0 c0 l0 _ hn0 (hr0.go hB.out)).mono ?_
  rintro e w1 ⟨rfl, ho, hb⟩
  replace hW0 := hide (hW0.out.below hb)
  replace hG0 := hide (hG0.out.below hb)
  have hZ0 := hide (ho.res.less hB.out.size)
  clear ho
  replace hB := hide (Below.up hB.out hb)
  clear hb
  go_wp2_with fail
  refine (toHeapS_any A1 n1 c1 l1 _ hn1 (hr1.go hB.out)).mono ?_
  rintro e w1 ⟨rfl, ho, hb⟩
  replace hW0 := hide (hW0.out.below hb)
  replace hG0 := hide (hG0.out.below hb)
  replace hZ0 := hide (hZ0.out.below hb)
  have hZ1 := hide (ho.res.less hB.out.size)
  clear ho
  replace hB := hide (Below.up hB.out hb)
  clear hb
  go_wp2_with fail
  refine (iJoin_any _ n0 _ l0 _ hn0 hq0 (hZ0.out.arr Heap.len) _ n1 _ l1 hn1 hq1 (hZ1.out.arr Heap.len)).mono ?_
  rintro e w1 ⟨vH0, rfl, hoH0, hb⟩
  replace hW0 := hide (hW0.out.below hb)
  replace hG0 := hide (hG0.out.below hb)
  replace hZ0 := hide (hZ0.out.below hb)
  replace hZ1 := hide (hZ1.out.below hb)
  have hH0 := hide (hoH0.less hB.out.size)
  obtain ⟨AH0, cH0, rfl, _⟩ := hoH0.slice
  clear hoH0
  replace hB := hide (Below.up hB.out hb)
  clear hb
  go_wp2_with fail
  refine (eqHeapS_any _ _ _ _ _ _ _ _ _ hL0 (hH0.out.arr Heap.len) (hW0.out.arr Heap.len)).mono ?_
  rintro e w1 ⟨rfl, hb⟩
  replace hW0 := hide (hW0.out.below hb)
  replace hG0 := hide (hG0.out.below hb)
  replace hH0 := hide (hH0.out.below hb)
  replace hB := hide (Below.up hB.out hb)
  clear hb
  go_wp2_with fail
  refine (heldHeapS_any _ _ _ _ _ (by omega) (by omega) hL0 (hG0.out.arr Heap.len)).mono ?_
  rintro e w1 ⟨rfl, hb⟩
  replace hW0 := hide (hW0.out.below hb)
  replace hG0 := hide (hG0.out.below hb)
  replace hH0 := hide (hH0.out.below hb)
  replace hB := hide (Below.up hB.out hb)
  clear hb
  go_wp2_with fail
  go_ret
  exact ⟨rfl, hB.out⟩
end Go.Proofs.Ytpmldpegjnpoaaa
