/- The walk of the exact law of HeapText. -/
import Derived.Test.YtcmcolgbkfadfaaDoorHpT
namespace Go.Proofs.YtcmcolgbkfadfaaDoor
open Go.ChangeShapes Go.WideShapes Go.ChangeAt Go.RowKit Go.Deep
set_option maxRecDepth 100000
set_option maxHeartbeats 1000000 in
theorem walkHeapText (w : World) (hG : Gl w) (x0 : Heap) (hq0 : x0.fits) :
    Calls Tryd.prog 3 #[.agg #[.string x0.fSort, .int .i64 x0.fYear, .int .i64 x0.fBundles]] w fun e w' => e = .returned (.bool true) ∧ Below w.heap.size w w' := by
  have hGh := hide hG
  clear hG
  have hBw : Hid (Below w.heap.size w (w.alloc (.cells #[.string x0.fSort, .int .i64 x0.fYear, .int .i64 x0.fBundles] 23))) := hide ((Below.refl w.heap.size w).alloc (Nat.le_refl _) _)
  have cb0_0 : Hid ((w.alloc (.cells #[.string x0.fSort, .int .i64 x0.fYear, .int .i64 x0.fBundles] 23)).cell? ⟨w.heap.size, 0, none⟩ = some (.string x0.fSort)) := hide (by rw [cell_of_row _ _ _ _ _ _ (heap_alloc_new _ _)]; rfl)
  have cb0_1 : Hid ((w.alloc (.cells #[.string x0.fSort, .int .i64 x0.fYear, .int .i64 x0.fBundles] 23)).cell? ⟨w.heap.size, 1, none⟩ = some (.int .i64 x0.fYear)) := hide (by rw [cell_of_row _ _ _ _ _ _ (heap_alloc_new _ _)]; rfl)
  have cb0_2 : Hid ((w.alloc (.cells #[.string x0.fSort, .int .i64 x0.fYear, .int .i64 x0.fBundles] 23)).cell? ⟨w.heap.size, 2, none⟩ = some (.int .i64 x0.fBundles)) := hide (by rw [cell_of_row _ _ _ _ _ _ (heap_alloc_new _ _)]; rfl)
  have hzb : Hid (w.heap.size + 1 = (w.alloc (.cells #[.string x0.fSort, .int .i64 x0.fYear, .int .i64 x0.fBundles] 23)).heap.size) := hide (by simp)
  have hGW := hide (hGh.out.below hBw.out)
  by_cases g0 : 1048576 - x0.wt < 0
  · have hs0 := szv_neg g0
    go_enter Tryd.func3, Tryd.ntmps3
    go_wp2_with fail
    obtain ⟨W0, hW0⟩ : ∃ W0, W0 = (w.alloc (.cells #[.string x0.fSort, .int .i64 x0.fYear, .int .i64 x0.fBundles] 23)) := ⟨_, rfl⟩
    rw [← hW0] at hBw hzb cb0_0 cb0_1 cb0_2 hGW ⊢
    clear hW0
    have hB := hide (Below.refl W0.heap.size W0)
    refine (szHeap_any x0 _ _ hq0 (by omega) (by omega)).mono ?_
    rintro e w1 ⟨rfl, hb⟩
    replace hB := hide (Below.up hB.out hb)
    clear hb
    go_wp2
    go_ret; exact ⟨rfl, Below.up hBw.out hB.out⟩
  have hs0 := szv_pos (x := 1048576 - x0.wt) (by omega)
  have hT0 := x0.wt_nonneg
  go_enter Tryd.func3, Tryd.ntmps3
  go_wp2_with fail
  obtain ⟨W0, hW0⟩ : ∃ W0, W0 = (w.alloc (.cells #[.string x0.fSort, .int .i64 x0.fYear, .int .i64 x0.fBundles] 23)) := ⟨_, rfl⟩
  rw [← hW0] at hBw hzb cb0_0 cb0_1 cb0_2 hGW ⊢
  clear hW0
  have hB := hide (Below.refl W0.heap.size W0)
  refine (szHeap_any x0 _ _ hq0 (by omega) (by omega)).mono ?_
  rintro e w1 ⟨rfl, hb⟩
  replace hB := hide (Below.up hB.out hb)
  clear hb
  have bx0_0 := (hB.out.cell (p := ⟨w.heap.size, 0, none⟩) (by have := hzb.out; show w.heap.size < _; omega)).trans cb0_0.out
  have bx0_1 := (hB.out.cell (p := ⟨w.heap.size, 1, none⟩) (by have := hzb.out; show w.heap.size < _; omega)).trans cb0_1.out
  have bx0_2 := (hB.out.cell (p := ⟨w.heap.size, 2, none⟩) (by have := hzb.out; show w.heap.size < _; omega)).trans cb0_2.out
  go_wp2_with fail
  clear bx0_0 bx0_1 bx0_2
  refine (toHeap_any _ _ _ _).mono ?_
  rintro e w1 ⟨rfl, hb⟩
  replace hB := hide (Below.up hB.out hb)
  clear hb
  have bx0_0 := (hB.out.cell (p := ⟨w.heap.size, 0, none⟩) (by have := hzb.out; show w.heap.size < _; omega)).trans cb0_0.out
  have bx0_1 := (hB.out.cell (p := ⟨w.heap.size, 1, none⟩) (by have := hzb.out; show w.heap.size < _; omega)).trans cb0_1.out
  have bx0_2 := (hB.out.cell (p := ⟨w.heap.size, 2, none⟩) (by have := hzb.out; show w.heap.size < _; omega)).trans cb0_2.out
  go_wp2_with fail
  clear bx0_0 bx0_1 bx0_2
  refine (sHeapT_any x0 _ hq0).mono ?_
  rintro e w1 ⟨rfl, hb⟩
  replace hB := hide (Below.up hB.out hb)
  clear hb
  have bx0_0 := (hB.out.cell (p := ⟨w.heap.size, 0, none⟩) (by have := hzb.out; show w.heap.size < _; omega)).trans cb0_0.out
  have bx0_1 := (hB.out.cell (p := ⟨w.heap.size, 1, none⟩) (by have := hzb.out; show w.heap.size < _; omega)).trans cb0_1.out
  have bx0_2 := (hB.out.cell (p := ⟨w.heap.size, 2, none⟩) (by have := hzb.out; show w.heap.size < _; omega)).trans cb0_2.out
  go_wp2_with fail
  clear bx0_0 bx0_1 bx0_2
  refine (toHeap_any _ _ _ _).mono ?_
  rintro e w1 ⟨rfl, hb⟩
  replace hB := hide (Below.up hB.out hb)
  clear hb
  have bx0_0 := (hB.out.cell (p := ⟨w.heap.size, 0, none⟩) (by have := hzb.out; show w.heap.size < _; omega)).trans cb0_0.out
  have bx0_1 := (hB.out.cell (p := ⟨w.heap.size, 1, none⟩) (by have := hzb.out; show w.heap.size < _; omega)).trans cb0_1.out
  have bx0_2 := (hB.out.cell (p := ⟨w.heap.size, 2, none⟩) (by have := hzb.out; show w.heap.size < _; omega)).trans cb0_2.out
  go_wp2_with fail
  clear bx0_0 bx0_1 bx0_2
  refine (iHeapT_any x0 _ hq0 (hGW.out.below hB.out)).mono ?_
  rintro e w1 ⟨rfl, hb⟩
  replace hB := hide (Below.up hB.out hb)
  clear hb
  go_wp2_with fail
  go_ret
  exact ⟨rfl, Below.up hBw.out hB.out⟩
end Go.Proofs.YtcmcolgbkfadfaaDoor
