/- The walks of the exact laws of the heaps: the law calls the reference and the program at copies of its arguments, compares, and looks whether they share memory. -/
import Derived.Test.YtpmldpegjnpoaaaPutG
import Derived.Test.YtpmldpegjnpoaaaKHeap
import Derived.Deep.RegionHeld3
namespace Go.Proofs.Ytpmldpegjnpoaaa
open Go.ChangeShapes Go.WideShapes Go.ChangeAt Go.RowKit Go.Deep
set_option maxRecDepth 100000
theorem mPutL_len2 (l : List Heap) (x : Heap) : (mPutL l x).length ≤ 1048576 := by
  unfold mPutL
  split
  · rename_i h0
    unfold mPutC at h0
    split at h0
    · have := hPut_len l x
      have := heapsOk_len (by assumption : heapsOk l = true)
      omega
    · cases h0
  · simp
set_option maxHeartbeats 2000000 in
theorem walkPutHeap (w : World) (A0 : Option Addr) (n0 c0 : Nat) (l0 : List Heap) (hc0 : n0 ≤ c0) (hm0 : c0 ≤ maxLen) (hq0 : ∀ x ∈ l0, x.fits) (hr0 : Arr Heap.cells 3 w w.heap.size A0 n0 l0) (x1 : Heap) (hq1 : x1.fits) :
    Calls Try.prog 3 #[.slice A0 n0 c0, .agg #[.string x1.fSort, .int .i64 x1.fYear, .int .i64 x1.fBundles]] w fun e w' => e = .returned (.bool true) ∧ Below w.heap.size w w' := by
  have hN0 : n0 ≤ maxLen := Nat.le_trans hc0 hm0
  clear hc0 hm0
  have hBw : Hid (Below w.heap.size w (w.alloc (.cells #[.string x1.fSort, .int .i64 x1.fYear, .int .i64 x1.fBundles] 24))) := hide ((Below.refl w.heap.size w).alloc (Nat.le_refl _) _)
  have cb1_0 : Hid ((w.alloc (.cells #[.string x1.fSort, .int .i64 x1.fYear, .int .i64 x1.fBundles] 24)).cell? ⟨w.heap.size, 0, none⟩ = some (.string x1.fSort)) := hide (by rw [cell_of_row _ _ _ _ _ _ (heap_alloc_new _ _)]; rfl)
  have cb1_1 : Hid ((w.alloc (.cells #[.string x1.fSort, .int .i64 x1.fYear, .int .i64 x1.fBundles] 24)).cell? ⟨w.heap.size, 1, none⟩ = some (.int .i64 x1.fYear)) := hide (by rw [cell_of_row _ _ _ _ _ _ (heap_alloc_new _ _)]; rfl)
  have cb1_2 : Hid ((w.alloc (.cells #[.string x1.fSort, .int .i64 x1.fYear, .int .i64 x1.fBundles] 24)).cell? ⟨w.heap.size, 2, none⟩ = some (.int .i64 x1.fBundles)) := hide (by rw [cell_of_row _ _ _ _ _ _ (heap_alloc_new _ _)]; rfl)
  have hzb : Hid (w.heap.size + 1 = (w.alloc (.cells #[.string x1.fSort, .int .i64 x1.fYear, .int .i64 x1.fBundles] 24)).heap.size) := hide (by simp)
  replace hr0 := hide (hr0.go hBw.out)
  by_cases g0 : 1048576 - Heap.tot l0 < 0
  · have hs0 := szv_neg g0
    go_enter Try.func3, Try.ntmps3
    go_wp2_with fail
    obtain ⟨W0, hW0⟩ : ∃ W0, W0 = (w.alloc (.cells #[.string x1.fSort, .int .i64 x1.fYear, .int .i64 x1.fBundles] 24)) := ⟨_, rfl⟩
    rw [← hW0] at hBw hzb cb1_0 cb1_1 cb1_2 hr0 ⊢
    clear hW0
    have hB := hide (Below.refl W0.heap.size W0)
    have hr0 := hr0.out
    refine (szHeapS_any A0 n0 c0 l0 _ _ hN0 (by omega) (by omega) (hr0.go hB.out) hq0).mono ?_
    rintro e w1 ⟨rfl, hb⟩
    replace hB := hide (Below.up hB.out hb)
    clear hb
    go_wp2
    go_ret; exact ⟨rfl, Below.up hBw.out hB.out⟩
  have hs0 := szv_pos (x := 1048576 - Heap.tot l0) (by omega)
  have hp0 := Heap.pre_nonneg l0
  have ht0 : Hid (Heap.tot l0 = n0 + Heap.pre l0) := by unfold Heap.tot; rw [hr0.len]; rfl
  have hT0 : 0 ≤ Heap.tot l0 := by have := ht0.out; omega
  have hn0 : n0 ≤ 1048576 := by have := ht0.out; omega
  by_cases g1 : 1048576 - Heap.tot l0 - x1.wt < 0
  · have hs1 := szv_neg g1
    go_enter Try.func3, Try.ntmps3
    go_wp2_with fail
    obtain ⟨W0, hW0⟩ : ∃ W0, W0 = (w.alloc (.cells #[.string x1.fSort, .int .i64 x1.fYear, .int .i64 x1.fBundles] 24)) := ⟨_, rfl⟩
    rw [← hW0] at hBw hzb cb1_0 cb1_1 cb1_2 hr0 ⊢
    clear hW0
    have hB := hide (Below.refl W0.heap.size W0)
    have hr0 := hr0.out
    refine (szHeapS_any A0 n0 c0 l0 _ _ hN0 (by omega) (by omega) (hr0.go hB.out) hq0).mono ?_
    rintro e w1 ⟨rfl, hb⟩
    replace hB := hide (Below.up hB.out hb)
    clear hb
    have bx1_0 := (hB.out.cell (p := ⟨w.heap.size, 0, none⟩) (by have := hzb.out; show w.heap.size < _; omega)).trans cb1_0.out
    have bx1_1 := (hB.out.cell (p := ⟨w.heap.size, 1, none⟩) (by have := hzb.out; show w.heap.size < _; omega)).trans cb1_1.out
    have bx1_2 := (hB.out.cell (p := ⟨w.heap.size, 2, none⟩) (by have := hzb.out; show w.heap.size < _; omega)).trans cb1_2.out
    go_wp2_with fail
    refine (szHeap_any x1 _ _ hq1 (by omega) (by omega)).mono ?_
    rintro e w1 ⟨rfl, hb⟩
    replace hB := hide (Below.up hB.out hb)
    clear hb
    go_wp2
    go_ret; exact ⟨rfl, Below.up hBw.out hB.out⟩
  have hs1 := szv_pos (x := 1048576 - Heap.tot l0 - x1.wt) (by omega)
  have hT1 := x1.wt_nonneg
  have hL0 : (mPutL l0 x1).length ≤ 1048576 := mPutL_len2 l0 x1
  go_enter Try.func3, Try.ntmps3
  go_wp2_with fail
  obtain ⟨W0, hW0⟩ : ∃ W0, W0 = (w.alloc (.cells #[.string x1.fSort, .int .i64 x1.fYear, .int .i64 x1.fBundles] 24)) := ⟨_, rfl⟩
  rw [← hW0] at hBw hzb cb1_0 cb1_1 cb1_2 hr0 ⊢
  clear hW0
  have hB := hide (Below.refl W0.heap.size W0)
  have hr0 := hr0.out
  refine (szHeapS_any A0 n0 c0 l0 _ _ hN0 (by omega) (by omega) (hr0.go hB.out) hq0).mono ?_
  rintro e w1 ⟨rfl, hb⟩
  replace hB := hide (Below.up hB.out hb)
  clear hb
  have bx1_0 := (hB.out.cell (p := ⟨w.heap.size, 0, none⟩) (by have := hzb.out; show w.heap.size < _; omega)).trans cb1_0.out
  have bx1_1 := (hB.out.cell (p := ⟨w.heap.size, 1, none⟩) (by have := hzb.out; show w.heap.size < _; omega)).trans cb1_1.out
  have bx1_2 := (hB.out.cell (p := ⟨w.heap.size, 2, none⟩) (by have := hzb.out; show w.heap.size < _; omega)).trans cb1_2.out
  go_wp2_with fail
  clear bx1_0 bx1_1 bx1_2
  refine (szHeap_any x1 _ _ hq1 (by omega) (by omega)).mono ?_
  rintro e w1 ⟨rfl, hb⟩
  replace hB := hide (Below.up hB.out hb)
  clear hb
  go_wp2_with fail
  have hd : Below w1.heap.size w1 w1.drew := below_drewN (Below.refl _ _) 1
  have bx1_0 := (hB.out.cell (p := ⟨w.heap.size, 0, none⟩) (by have := hzb.out; show w.heap.size < _; omega)).trans cb1_0.out
  have bx1_1 := (hB.out.cell (p := ⟨w.heap.size, 1, none⟩) (by have := hzb.out; show w.heap.size < _; omega)).trans cb1_1.out
  have bx1_2 := (hB.out.cell (p := ⟨w.heap.size, 2, none⟩) (by have := hzb.out; show w.heap.size < _; omega)).trans cb1_2.out
  replace hB := hide (Below.up hB.out hd)
  clear hd
  go_region_held3 (fun w' => w'.cell? ⟨w.heap.size, 0, none⟩ = some (.string x1.fSort) ∧ w'.cell? ⟨w.heap.size, 1, none⟩ = some (.int .i64 x1.fYear) ∧ w'.cell? ⟨w.heap.size, 2, none⟩ = some (.int .i64 x1.fBundles)) (first | go_keep | exact ⟨(hB.out.cell (p := ⟨w.heap.size, 0, none⟩) (by have := hzb.out; show w.heap.size < _; omega)).trans cb1_0.out, (hB.out.cell (p := ⟨w.heap.size, 1, none⟩) (by have := hzb.out; show w.heap.size < _; omega)).trans cb1_1.out, (hB.out.cell (p := ⟨w.heap.size, 2, none⟩) (by have := hzb.out; show w.heap.size < _; omega)).trans cb1_2.out⟩) (first | (go_at_call 9; refine (toHeapS_any A0 n0 c0 l0 _ hn0 (hr0.go hB.out)).mono ?_; rintro e w1 ⟨rfl, ho, hb⟩; have hS0 := hide (ho.res.less hB.out.size); clear ho; replace hB := hide (Below.up hB.out hb); clear hb) | (go_at_call 10; refine (toHeap_any _ _ _ _).mono ?_; rintro e w1 ⟨rfl, hb⟩; replace hS0 := hide (hS0.out.below hb); replace hB := hide (Below.up hB.out hb); clear hb) | (go_at_call 8; refine (sPutH_any _ _ n0 _ l0 _ hn0 (Nat.le_refl _) hq0 (hS0.out.arr Heap.len) x1 hq1).mono ?_; rintro e w1 ⟨vW0, rfl, hoW0, hb⟩; replace hS0 := hide (hS0.out.below hb); have hW0 := hide (hoW0.less hB.out.size); obtain ⟨AW0, cW0, rfl, _⟩ := hoW0.slice; clear hoW0; replace hB := hide (Below.up hB.out hb); clear hb) | fail)
  have bx1_0 := (hB.out.cell (p := ⟨w.heap.size, 0, none⟩) (by have := hzb.out; show w.heap.size < _; omega)).trans cb1_0.out
  have bx1_1 := (hB.out.cell (p := ⟨w.heap.size, 1, none⟩) (by have := hzb.out; show w.heap.size < _; omega)).trans cb1_1.out
  have bx1_2 := (hB.out.cell (p := ⟨w.heap.size, 2, none⟩) (by have := hzb.out; show w.heap.size < _; omega)).trans cb1_2.out
  go_wp2_with fail
  clear bx1_0 bx1_1 bx1_2
  refine (toHeapS_any A0 n0 c0 l0 _ hn0 (hr0.go hB.out)).mono ?_
  rintro e w1 ⟨rfl, ho, hb⟩
  have dd_hW0_hX0 := hide (hW0.out.apart ho.res (Nat.le_refl _)).1
  replace hW0 := hide (hW0.out.below hb)
  have hX0 := hide (ho.res.less hB.out.size)
  clear ho
  replace hB := hide (Below.up hB.out hb)
  clear hb
  have bx1_0 := (hB.out.cell (p := ⟨w.heap.size, 0, none⟩) (by have := hzb.out; show w.heap.size < _; omega)).trans cb1_0.out
  have bx1_1 := (hB.out.cell (p := ⟨w.heap.size, 1, none⟩) (by have := hzb.out; show w.heap.size < _; omega)).trans cb1_1.out
  have bx1_2 := (hB.out.cell (p := ⟨w.heap.size, 2, none⟩) (by have := hzb.out; show w.heap.size < _; omega)).trans cb1_2.out
  go_wp2_with fail
  clear bx1_0 bx1_1 bx1_2
  refine (toHeap_any _ _ _ _).mono ?_
  rintro e w1 ⟨rfl, hb⟩
  replace hW0 := hide (hW0.out.below hb)
  replace hX0 := hide (hX0.out.below hb)
  replace hB := hide (Below.up hB.out hb)
  clear hb
  have bx1_0 := (hB.out.cell (p := ⟨w.heap.size, 0, none⟩) (by have := hzb.out; show w.heap.size < _; omega)).trans cb1_0.out
  have bx1_1 := (hB.out.cell (p := ⟨w.heap.size, 1, none⟩) (by have := hzb.out; show w.heap.size < _; omega)).trans cb1_1.out
  have bx1_2 := (hB.out.cell (p := ⟨w.heap.size, 2, none⟩) (by have := hzb.out; show w.heap.size < _; omega)).trans cb1_2.out
  go_wp2_with fail
  clear bx1_0 bx1_1 bx1_2
  refine (iPutH_any _ n0 _ l0 _ hn0 hq0 (hX0.out.arr Heap.len) x1 hq1).mono ?_
  rintro e w1 ⟨vG0, rfl, hoG0, hb⟩
  have dd_hW0_hG0 := hide (hW0.out.apart hoG0 (Nat.le_refl _)).1
  have dd_hG0_hW0 := hide (hW0.out.apart hoG0 (Nat.le_refl _)).2
  have dd_hX0_hG0 := hide (hX0.out.apart hoG0 (Nat.le_refl _)).1
  have dd_hG0_hX0 := hide (hX0.out.apart hoG0 (Nat.le_refl _)).2
  replace hW0 := hide (hW0.out.below hb)
  replace hX0 := hide (hX0.out.below hb)
  have hG0 := hide (hoG0.less hB.out.size)
  obtain ⟨AG0, cG0, rfl, _⟩ := hoG0.slice
  clear hoG0
  replace hB := hide (Below.up hB.out hb)
  clear hb
  have bx1_0 := (hB.out.cell (p := ⟨w.heap.size, 0, none⟩) (by have := hzb.out; show w.heap.size < _; omega)).trans cb1_0.out
  have bx1_1 := (hB.out.cell (p := ⟨w.heap.size, 1, none⟩) (by have := hzb.out; show w.heap.size < _; omega)).trans cb1_1.out
  have bx1_2 := (hB.out.cell (p := ⟨w.heap.size, 2, none⟩) (by have := hzb.out; show w.heap.size < _; omega)).trans cb1_2.out
  go_wp2_with fail
  clear bx1_0 bx1_1 bx1_2
  refine (eqHeapS_any _ _ _ _ _ _ _ _ _ hL0 (hG0.out.arr Heap.len) (hW0.out.arr Heap.len)).mono ?_
  rintro e w1 ⟨rfl, hb⟩
  replace hW0 := hide (hW0.out.below hb)
  replace hX0 := hide (hX0.out.below hb)
  replace hG0 := hide (hG0.out.below hb)
  replace hB := hide (Below.up hB.out hb)
  clear hb
  have bx1_0 := (hB.out.cell (p := ⟨w.heap.size, 0, none⟩) (by have := hzb.out; show w.heap.size < _; omega)).trans cb1_0.out
  have bx1_1 := (hB.out.cell (p := ⟨w.heap.size, 1, none⟩) (by have := hzb.out; show w.heap.size < _; omega)).trans cb1_1.out
  have bx1_2 := (hB.out.cell (p := ⟨w.heap.size, 2, none⟩) (by have := hzb.out; show w.heap.size < _; omega)).trans cb1_2.out
  go_wp2_with fail
  clear bx1_0 bx1_1 bx1_2
  refine (toHeapS_any A0 n0 c0 l0 _ hn0 (hr0.go hB.out)).mono ?_
  rintro e w1 ⟨rfl, ho, hb⟩
  replace hW0 := hide (hW0.out.below hb)
  replace hX0 := hide (hX0.out.below hb)
  replace hG0 := hide (hG0.out.below hb)
  have hY0 := hide (ho.res.less hB.out.size)
  clear ho
  replace hB := hide (Below.up hB.out hb)
  clear hb
  have bx1_0 := (hB.out.cell (p := ⟨w.heap.size, 0, none⟩) (by have := hzb.out; show w.heap.size < _; omega)).trans cb1_0.out
  have bx1_1 := (hB.out.cell (p := ⟨w.heap.size, 1, none⟩) (by have := hzb.out; show w.heap.size < _; omega)).trans cb1_1.out
  have bx1_2 := (hB.out.cell (p := ⟨w.heap.size, 2, none⟩) (by have := hzb.out; show w.heap.size < _; omega)).trans cb1_2.out
  go_wp2_with fail
  clear bx1_0 bx1_1 bx1_2
  refine (eqHeapS_any _ _ _ _ _ _ _ _ _ hn0 (hX0.out.arr Heap.len) (hY0.out.arr Heap.len)).mono ?_
  rintro e w1 ⟨rfl, hb⟩
  replace hW0 := hide (hW0.out.below hb)
  replace hX0 := hide (hX0.out.below hb)
  replace hG0 := hide (hG0.out.below hb)
  replace hY0 := hide (hY0.out.below hb)
  replace hB := hide (Below.up hB.out hb)
  clear hb
  have bx1_0 := (hB.out.cell (p := ⟨w.heap.size, 0, none⟩) (by have := hzb.out; show w.heap.size < _; omega)).trans cb1_0.out
  have bx1_1 := (hB.out.cell (p := ⟨w.heap.size, 1, none⟩) (by have := hzb.out; show w.heap.size < _; omega)).trans cb1_1.out
  have bx1_2 := (hB.out.cell (p := ⟨w.heap.size, 2, none⟩) (by have := hzb.out; show w.heap.size < _; omega)).trans cb1_2.out
  go_wp2_with fail
  clear bx1_0 bx1_1 bx1_2
  refine (markHeapS_any _ _ _ _ _ _ (by omega) (by omega) hn0 hX0.out).mono ?_
  rintro e w1 ⟨rfl, hg, ho⟩
  replace hW0 := hide (hW0.out.kept hg dd_hW0_hX0.out)
  replace hG0 := hide (hG0.out.kept hg dd_hG0_hX0.out)
  replace hB := hide (hX0.out.markBelow hB.out hg)
  clear ho
  clear hg
  have bx1_0 := (hB.out.cell (p := ⟨w.heap.size, 0, none⟩) (by have := hzb.out; show w.heap.size < _; omega)).trans cb1_0.out
  have bx1_1 := (hB.out.cell (p := ⟨w.heap.size, 1, none⟩) (by have := hzb.out; show w.heap.size < _; omega)).trans cb1_1.out
  have bx1_2 := (hB.out.cell (p := ⟨w.heap.size, 2, none⟩) (by have := hzb.out; show w.heap.size < _; omega)).trans cb1_2.out
  go_wp2_with fail
  clear bx1_0 bx1_1 bx1_2
  refine (eqHeapS_any _ _ _ _ _ _ _ _ _ hL0 (hG0.out.arr Heap.len) (hW0.out.arr Heap.len)).mono ?_
  rintro e w1 ⟨rfl, hb⟩
  replace hW0 := hide (hW0.out.below hb)
  replace hG0 := hide (hG0.out.below hb)
  replace hB := hide (Below.up hB.out hb)
  clear hb
  have bx1_0 := (hB.out.cell (p := ⟨w.heap.size, 0, none⟩) (by have := hzb.out; show w.heap.size < _; omega)).trans cb1_0.out
  have bx1_1 := (hB.out.cell (p := ⟨w.heap.size, 1, none⟩) (by have := hzb.out; show w.heap.size < _; omega)).trans cb1_1.out
  have bx1_2 := (hB.out.cell (p := ⟨w.heap.size, 2, none⟩) (by have := hzb.out; show w.heap.size < _; omega)).trans cb1_2.out
  go_wp2_with fail
  clear bx1_0 bx1_1 bx1_2
  refine (markHeapS_any _ _ _ _ _ _ (by omega) (by omega) hL0 hG0.out).mono ?_
  rintro e w1 ⟨rfl, hg, ho⟩
  replace hW0 := hide (hW0.out.kept hg dd_hW0_hG0.out)
  replace hB := hide (hG0.out.markBelow hB.out hg)
  replace hG0 := hide ho
  clear ho
  clear hg
  have bx1_0 := (hB.out.cell (p := ⟨w.heap.size, 0, none⟩) (by have := hzb.out; show w.heap.size < _; omega)).trans cb1_0.out
  have bx1_1 := (hB.out.cell (p := ⟨w.heap.size, 1, none⟩) (by have := hzb.out; show w.heap.size < _; omega)).trans cb1_1.out
  have bx1_2 := (hB.out.cell (p := ⟨w.heap.size, 2, none⟩) (by have := hzb.out; show w.heap.size < _; omega)).trans cb1_2.out
  go_wp2_with fail
  clear bx1_0 bx1_1 bx1_2
  refine (heldHeapS_any _ _ _ _ _ (by omega) (by omega) hL0 (hG0.out.arr Heap.len)).mono ?_
  rintro e w1 ⟨rfl, hb⟩
  replace hW0 := hide (hW0.out.below hb)
  replace hG0 := hide (hG0.out.below hb)
  replace hB := hide (Below.up hB.out hb)
  clear hb
  go_wp2_with fail
  have hd : Below w1.heap.size w1 w1.drew := below_drewN (Below.refl _ _) 1
  have bx1_0 := (hB.out.cell (p := ⟨w.heap.size, 0, none⟩) (by have := hzb.out; show w.heap.size < _; omega)).trans cb1_0.out
  have bx1_1 := (hB.out.cell (p := ⟨w.heap.size, 1, none⟩) (by have := hzb.out; show w.heap.size < _; omega)).trans cb1_1.out
  have bx1_2 := (hB.out.cell (p := ⟨w.heap.size, 2, none⟩) (by have := hzb.out; show w.heap.size < _; omega)).trans cb1_2.out
  replace hB := hide (Below.up hB.out hd)
  replace hG0 := hide (hG0.out.below hd)
  replace hW0 := hide (hW0.out.below hd)
  clear hd
  go_region_held3 (fun w' => w'.cell? ⟨w.heap.size, 0, none⟩ = some (.string x1.fSort) ∧ w'.cell? ⟨w.heap.size, 1, none⟩ = some (.int .i64 x1.fYear) ∧ w'.cell? ⟨w.heap.size, 2, none⟩ = some (.int .i64 x1.fBundles)) (first | go_keep | exact ⟨(hB.out.cell (p := ⟨w.heap.size, 0, none⟩) (by have := hzb.out; show w.heap.size < _; omega)).trans cb1_0.out, (hB.out.cell (p := ⟨w.heap.size, 1, none⟩) (by have := hzb.out; show w.heap.size < _; omega)).trans cb1_1.out, (hB.out.cell (p := ⟨w.heap.size, 2, none⟩) (by have := hzb.out; show w.heap.size < _; omega)).trans cb1_2.out⟩) (first | (go_at_call 9; refine (toHeapS_any A0 n0 c0 l0 _ hn0 (hr0.go hB.out)).mono ?_; rintro e w1 ⟨rfl, ho, hb⟩; replace hW0 := hide (hW0.out.below hb); replace hG0 := hide (hG0.out.below hb); have hZ0 := hide (ho.res.less hB.out.size); clear ho; replace hB := hide (Below.up hB.out hb); clear hb) | (go_at_call 10; refine (toHeap_any _ _ _ _).mono ?_; rintro e w1 ⟨rfl, hb⟩; replace hW0 := hide (hW0.out.below hb); replace hG0 := hide (hG0.out.below hb); replace hZ0 := hide (hZ0.out.below hb); replace hB := hide (Below.up hB.out hb); clear hb) | (go_at_call 11; refine (iPutH_any _ n0 _ l0 _ hn0 hq0 (hZ0.out.arr Heap.len) x1 hq1).mono ?_; rintro e w1 ⟨vH0, rfl, hoH0, hb⟩; replace hW0 := hide (hW0.out.below hb); replace hG0 := hide (hG0.out.below hb); replace hZ0 := hide (hZ0.out.below hb); have hH0 := hide (hoH0.less hB.out.size); obtain ⟨AH0, cH0, rfl, _⟩ := hoH0.slice; clear hoH0; replace hB := hide (Below.up hB.out hb); clear hb) | fail)
  have bx1_0 := (hB.out.cell (p := ⟨w.heap.size, 0, none⟩) (by have := hzb.out; show w.heap.size < _; omega)).trans cb1_0.out
  have bx1_1 := (hB.out.cell (p := ⟨w.heap.size, 1, none⟩) (by have := hzb.out; show w.heap.size < _; omega)).trans cb1_1.out
  have bx1_2 := (hB.out.cell (p := ⟨w.heap.size, 2, none⟩) (by have := hzb.out; show w.heap.size < _; omega)).trans cb1_2.out
  go_wp2_with fail
  clear bx1_0 bx1_1 bx1_2
  refine (eqHeapS_any _ _ _ _ _ _ _ _ _ hL0 (hH0.out.arr Heap.len) (hW0.out.arr Heap.len)).mono ?_
  rintro e w1 ⟨rfl, hb⟩
  replace hW0 := hide (hW0.out.below hb)
  replace hG0 := hide (hG0.out.below hb)
  replace hH0 := hide (hH0.out.below hb)
  replace hB := hide (Below.up hB.out hb)
  clear hb
  have bx1_0 := (hB.out.cell (p := ⟨w.heap.size, 0, none⟩) (by have := hzb.out; show w.heap.size < _; omega)).trans cb1_0.out
  have bx1_1 := (hB.out.cell (p := ⟨w.heap.size, 1, none⟩) (by have := hzb.out; show w.heap.size < _; omega)).trans cb1_1.out
  have bx1_2 := (hB.out.cell (p := ⟨w.heap.size, 2, none⟩) (by have := hzb.out; show w.heap.size < _; omega)).trans cb1_2.out
  go_wp2_with fail
  clear bx1_0 bx1_1 bx1_2
  refine (heldHeapS_any _ _ _ _ _ (by omega) (by omega) hL0 (hG0.out.arr Heap.len)).mono ?_
  rintro e w1 ⟨rfl, hb⟩
  replace hW0 := hide (hW0.out.below hb)
  replace hG0 := hide (hG0.out.below hb)
  replace hH0 := hide (hH0.out.below hb)
  replace hB := hide (Below.up hB.out hb)
  clear hb
  go_wp2_with fail
  go_ret
  exact ⟨rfl, Below.up hBw.out hB.out⟩
end Go.Proofs.Ytpmldpegjnpoaaa
