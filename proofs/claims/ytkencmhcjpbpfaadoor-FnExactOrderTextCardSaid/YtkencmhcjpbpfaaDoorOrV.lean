/- The walk of the exact law of OrderText. -/
import Derived.Test.YtkencmhcjpbpfaaDoorOrS
namespace Go.Proofs.YtkencmhcjpbpfaaDoor
open Go.ChangeShapes Go.WideShapes Go.ChangeAt Go.RowKit Go.Deep
set_option maxRecDepth 100000
set_option maxHeartbeats 1000000 in
theorem walkOrderText (w : World) (hG : Gl w) (x0 : Order) (hq0 : x0.fits) :
    Calls Tryd.prog 3 #[.agg #[.string x0.fWho, .int .i64 x0.fMany, .int .i64 x0.fEach, .int .i64 x0.fFrom, .int .i64 x0.fDue]] w fun e w' => e = .returned (.bool true) ∧ Below w.heap.size w w' := by
  have hGh := hide hG
  clear hG
  have hBw : Hid (Below w.heap.size w (w.alloc (.cells #[.string x0.fWho, .int .i64 x0.fMany, .int .i64 x0.fEach, .int .i64 x0.fFrom, .int .i64 x0.fDue] 23))) := hide ((Below.refl w.heap.size w).alloc (Nat.le_refl _) _)
  have cb0_0 : Hid ((w.alloc (.cells #[.string x0.fWho, .int .i64 x0.fMany, .int .i64 x0.fEach, .int .i64 x0.fFrom, .int .i64 x0.fDue] 23)).cell? ⟨w.heap.size, 0, none⟩ = some (.string x0.fWho)) := hide (by rw [cell_of_row _ _ _ _ _ _ (heap_alloc_new _ _)]; rfl)
  have cb0_1 : Hid ((w.alloc (.cells #[.string x0.fWho, .int .i64 x0.fMany, .int .i64 x0.fEach, .int .i64 x0.fFrom, .int .i64 x0.fDue] 23)).cell? ⟨w.heap.size, 1, none⟩ = some (.int .i64 x0.fMany)) := hide (by rw [cell_of_row _ _ _ _ _ _ (heap_alloc_new _ _)]; rfl)
  have cb0_2 : Hid ((w.alloc (.cells #[.string x0.fWho, .int .i64 x0.fMany, .int .i64 x0.fEach, .int .i64 x0.fFrom, .int .i64 x0.fDue] 23)).cell? ⟨w.heap.size, 2, none⟩ = some (.int .i64 x0.fEach)) := hide (by rw [cell_of_row _ _ _ _ _ _ (heap_alloc_new _ _)]; rfl)
  have cb0_3 : Hid ((w.alloc (.cells #[.string x0.fWho, .int .i64 x0.fMany, .int .i64 x0.fEach, .int .i64 x0.fFrom, .int .i64 x0.fDue] 23)).cell? ⟨w.heap.size, 3, none⟩ = some (.int .i64 x0.fFrom)) := hide (by rw [cell_of_row _ _ _ _ _ _ (heap_alloc_new _ _)]; rfl)
  have cb0_4 : Hid ((w.alloc (.cells #[.string x0.fWho, .int .i64 x0.fMany, .int .i64 x0.fEach, .int .i64 x0.fFrom, .int .i64 x0.fDue] 23)).cell? ⟨w.heap.size, 4, none⟩ = some (.int .i64 x0.fDue)) := hide (by rw [cell_of_row _ _ _ _ _ _ (heap_alloc_new _ _)]; rfl)
  have hzb : Hid (w.heap.size + 1 = (w.alloc (.cells #[.string x0.fWho, .int .i64 x0.fMany, .int .i64 x0.fEach, .int .i64 x0.fFrom, .int .i64 x0.fDue] 23)).heap.size) := hide (by simp)
  have hGW := hide (hGh.out.below hBw.out)
  by_cases g0 : 1048576 - x0.wt < 0
  · have hs0 := szv_neg g0
    go_enter Tryd.func3, Tryd.ntmps3
    go_wp2_with fail
    obtain ⟨W0, hW0⟩ : ∃ W0, W0 = (w.alloc (.cells #[.string x0.fWho, .int .i64 x0.fMany, .int .i64 x0.fEach, .int .i64 x0.fFrom, .int .i64 x0.fDue] 23)) := ⟨_, rfl⟩
    rw [← hW0] at hBw hzb cb0_0 cb0_1 cb0_2 cb0_3 cb0_4 hGW ⊢
    clear hW0
    have hB := hide (Below.refl W0.heap.size W0)
    refine (szOrder_any x0 _ _ hq0 (by omega) (by omega)).mono ?_
    rintro e w1 ⟨rfl, hb⟩
    replace hB := hide (Below.up hB.out hb)
    clear hb
    go_wp2
    go_ret; exact ⟨rfl, Below.up hBw.out hB.out⟩
  have hs0 := szv_pos (x := 1048576 - x0.wt) (by omega)
  have hT0 := x0.wt_nonneg
  go_enter Tryd.func3, Tryd.ntmps3
  go_wp2_with fail
  obtain ⟨W0, hW0⟩ : ∃ W0, W0 = (w.alloc (.cells #[.string x0.fWho, .int .i64 x0.fMany, .int .i64 x0.fEach, .int .i64 x0.fFrom, .int .i64 x0.fDue] 23)) := ⟨_, rfl⟩
  rw [← hW0] at hBw hzb cb0_0 cb0_1 cb0_2 cb0_3 cb0_4 hGW ⊢
  clear hW0
  have hB := hide (Below.refl W0.heap.size W0)
  refine (szOrder_any x0 _ _ hq0 (by omega) (by omega)).mono ?_
  rintro e w1 ⟨rfl, hb⟩
  replace hB := hide (Below.up hB.out hb)
  clear hb
  have bx0_0 := (hB.out.cell (p := ⟨w.heap.size, 0, none⟩) (by have := hzb.out; show w.heap.size < _; omega)).trans cb0_0.out
  have bx0_1 := (hB.out.cell (p := ⟨w.heap.size, 1, none⟩) (by have := hzb.out; show w.heap.size < _; omega)).trans cb0_1.out
  have bx0_2 := (hB.out.cell (p := ⟨w.heap.size, 2, none⟩) (by have := hzb.out; show w.heap.size < _; omega)).trans cb0_2.out
  have bx0_3 := (hB.out.cell (p := ⟨w.heap.size, 3, none⟩) (by have := hzb.out; show w.heap.size < _; omega)).trans cb0_3.out
  have bx0_4 := (hB.out.cell (p := ⟨w.heap.size, 4, none⟩) (by have := hzb.out; show w.heap.size < _; omega)).trans cb0_4.out
  go_wp2_with fail
  clear bx0_0 bx0_1 bx0_2 bx0_3 bx0_4
  refine (toOrder_any _ _ _ _ _ _).mono ?_
  rintro e w1 ⟨rfl, hb⟩
  replace hB := hide (Below.up hB.out hb)
  clear hb
  have bx0_0 := (hB.out.cell (p := ⟨w.heap.size, 0, none⟩) (by have := hzb.out; show w.heap.size < _; omega)).trans cb0_0.out
  have bx0_1 := (hB.out.cell (p := ⟨w.heap.size, 1, none⟩) (by have := hzb.out; show w.heap.size < _; omega)).trans cb0_1.out
  have bx0_2 := (hB.out.cell (p := ⟨w.heap.size, 2, none⟩) (by have := hzb.out; show w.heap.size < _; omega)).trans cb0_2.out
  have bx0_3 := (hB.out.cell (p := ⟨w.heap.size, 3, none⟩) (by have := hzb.out; show w.heap.size < _; omega)).trans cb0_3.out
  have bx0_4 := (hB.out.cell (p := ⟨w.heap.size, 4, none⟩) (by have := hzb.out; show w.heap.size < _; omega)).trans cb0_4.out
  go_wp2_with fail
  clear bx0_0 bx0_1 bx0_2 bx0_3 bx0_4
  refine (sOrderT_any x0 _ hq0).mono ?_
  rintro e w1 ⟨rfl, hb⟩
  replace hB := hide (Below.up hB.out hb)
  clear hb
  have bx0_0 := (hB.out.cell (p := ⟨w.heap.size, 0, none⟩) (by have := hzb.out; show w.heap.size < _; omega)).trans cb0_0.out
  have bx0_1 := (hB.out.cell (p := ⟨w.heap.size, 1, none⟩) (by have := hzb.out; show w.heap.size < _; omega)).trans cb0_1.out
  have bx0_2 := (hB.out.cell (p := ⟨w.heap.size, 2, none⟩) (by have := hzb.out; show w.heap.size < _; omega)).trans cb0_2.out
  have bx0_3 := (hB.out.cell (p := ⟨w.heap.size, 3, none⟩) (by have := hzb.out; show w.heap.size < _; omega)).trans cb0_3.out
  have bx0_4 := (hB.out.cell (p := ⟨w.heap.size, 4, none⟩) (by have := hzb.out; show w.heap.size < _; omega)).trans cb0_4.out
  go_wp2_with fail
  clear bx0_0 bx0_1 bx0_2 bx0_3 bx0_4
  refine (toOrder_any _ _ _ _ _ _).mono ?_
  rintro e w1 ⟨rfl, hb⟩
  replace hB := hide (Below.up hB.out hb)
  clear hb
  have bx0_0 := (hB.out.cell (p := ⟨w.heap.size, 0, none⟩) (by have := hzb.out; show w.heap.size < _; omega)).trans cb0_0.out
  have bx0_1 := (hB.out.cell (p := ⟨w.heap.size, 1, none⟩) (by have := hzb.out; show w.heap.size < _; omega)).trans cb0_1.out
  have bx0_2 := (hB.out.cell (p := ⟨w.heap.size, 2, none⟩) (by have := hzb.out; show w.heap.size < _; omega)).trans cb0_2.out
  have bx0_3 := (hB.out.cell (p := ⟨w.heap.size, 3, none⟩) (by have := hzb.out; show w.heap.size < _; omega)).trans cb0_3.out
  have bx0_4 := (hB.out.cell (p := ⟨w.heap.size, 4, none⟩) (by have := hzb.out; show w.heap.size < _; omega)).trans cb0_4.out
  go_wp2_with fail
  clear bx0_0 bx0_1 bx0_2 bx0_3 bx0_4
  refine (iOrderT_any x0 _ hq0 (hGW.out.below hB.out)).mono ?_
  rintro e w1 ⟨rfl, hb⟩
  replace hB := hide (Below.up hB.out hb)
  clear hb
  go_wp2_with fail
  go_ret
  exact ⟨rfl, Below.up hBw.out hB.out⟩
end Go.Proofs.YtkencmhcjpbpfaaDoor
