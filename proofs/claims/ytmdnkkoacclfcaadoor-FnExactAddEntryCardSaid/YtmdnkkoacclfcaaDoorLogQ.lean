/- The walk of the exact law of AddEntry. -/
import Derived.Test.YtmdnkkoacclfcaaDoorLogN
import Derived.Test.YtmdnkkoacclfcaaDoorMark
namespace Go.Proofs.YtmdnkkoacclfcaaDoor
open Go.ChangeShapes Go.WideShapes Go.ChangeAt Go.RowKit Go.Deep
set_option maxRecDepth 100000
set_option maxHeartbeats 1000000 in
theorem walkAddEntry (w : World) (hG : Gl w) (a0 : ByteArray) (z0 : a0.size ≤ maxLen) (x1 : Entry) (hq1 : x1.fits) :
    Calls Tryd.prog 8 #[.string a0, .agg #[.int .i64 x1.fDay, .string x1.fWhat, .int .i64 x1.fValue]] w fun e w' => e = .returned (.bool true) ∧ Below w.heap.size w w' := by
  have z0' := z0
  unfold maxLen at z0
  have hGh := hide hG
  clear hG
  have hBw : Hid (Below w.heap.size w (w.alloc (.cells #[.int .i64 x1.fDay, .string x1.fWhat, .int .i64 x1.fValue] 23))) := hide ((Below.refl w.heap.size w).alloc (Nat.le_refl _) _)
  have cb1_0 : Hid ((w.alloc (.cells #[.int .i64 x1.fDay, .string x1.fWhat, .int .i64 x1.fValue] 23)).cell? ⟨w.heap.size, 0, none⟩ = some (.int .i64 x1.fDay)) := hide (by rw [cell_of_row _ _ _ _ _ _ (heap_alloc_new _ _)]; rfl)
  have cb1_1 : Hid ((w.alloc (.cells #[.int .i64 x1.fDay, .string x1.fWhat, .int .i64 x1.fValue] 23)).cell? ⟨w.heap.size, 1, none⟩ = some (.string x1.fWhat)) := hide (by rw [cell_of_row _ _ _ _ _ _ (heap_alloc_new _ _)]; rfl)
  have cb1_2 : Hid ((w.alloc (.cells #[.int .i64 x1.fDay, .string x1.fWhat, .int .i64 x1.fValue] 23)).cell? ⟨w.heap.size, 2, none⟩ = some (.int .i64 x1.fValue)) := hide (by rw [cell_of_row _ _ _ _ _ _ (heap_alloc_new _ _)]; rfl)
  have hzb : Hid (w.heap.size + 1 = (w.alloc (.cells #[.int .i64 x1.fDay, .string x1.fWhat, .int .i64 x1.fValue] 23)).heap.size) := hide (by simp)
  have hGW := hide (hGh.out.below hBw.out)
  by_cases g0 : 1048576 < (a0.size : Int)
  · skip
    go_enter Tryd.func8, Tryd.ntmps8
    go_wp2
    go_ret; exact ⟨rfl, hBw.out⟩
  by_cases g1 : 1048576 - x1.wt < 0
  · have hs1 := szv_neg g1
    go_enter Tryd.func8, Tryd.ntmps8
    go_wp2_with fail
    obtain ⟨W0, hW0⟩ : ∃ W0, W0 = (w.alloc (.cells #[.int .i64 x1.fDay, .string x1.fWhat, .int .i64 x1.fValue] 23)) := ⟨_, rfl⟩
    rw [← hW0] at hBw hzb cb1_0 cb1_1 cb1_2 hGW ⊢
    clear hW0
    have hB := hide (Below.refl W0.heap.size W0)
    refine (szEntry_any x1 _ _ hq1 (by omega) (by omega)).mono ?_
    rintro e w1 ⟨rfl, hb⟩
    replace hB := hide (Below.up hB.out hb)
    clear hb
    go_wp2
    go_ret; exact ⟨rfl, Below.up hBw.out hB.out⟩
  have hs1 := szv_pos (x := 1048576 - x1.wt) (by omega)
  have hT1 := x1.wt_nonneg
  go_enter Tryd.func8, Tryd.ntmps8
  go_wp2_with fail
  obtain ⟨W0, hW0⟩ : ∃ W0, W0 = (w.alloc (.cells #[.int .i64 x1.fDay, .string x1.fWhat, .int .i64 x1.fValue] 23)) := ⟨_, rfl⟩
  rw [← hW0] at hBw hzb cb1_0 cb1_1 cb1_2 hGW ⊢
  clear hW0
  have hB := hide (Below.refl W0.heap.size W0)
  refine (szEntry_any x1 _ _ hq1 (by omega) (by omega)).mono ?_
  rintro e w1 ⟨rfl, hb⟩
  replace hB := hide (Below.up hB.out hb)
  clear hb
  have bx1_0 := (hB.out.cell (p := ⟨w.heap.size, 0, none⟩) (by have := hzb.out; show w.heap.size < _; omega)).trans cb1_0.out
  have bx1_1 := (hB.out.cell (p := ⟨w.heap.size, 1, none⟩) (by have := hzb.out; show w.heap.size < _; omega)).trans cb1_1.out
  have bx1_2 := (hB.out.cell (p := ⟨w.heap.size, 2, none⟩) (by have := hzb.out; show w.heap.size < _; omega)).trans cb1_2.out
  go_wp2_with fail
  clear bx1_0 bx1_1 bx1_2
  refine (toEntry_any _ _ _ _).mono ?_
  rintro e w1 ⟨rfl, hb⟩
  replace hB := hide (Below.up hB.out hb)
  clear hb
  have bx1_0 := (hB.out.cell (p := ⟨w.heap.size, 0, none⟩) (by have := hzb.out; show w.heap.size < _; omega)).trans cb1_0.out
  have bx1_1 := (hB.out.cell (p := ⟨w.heap.size, 1, none⟩) (by have := hzb.out; show w.heap.size < _; omega)).trans cb1_1.out
  have bx1_2 := (hB.out.cell (p := ⟨w.heap.size, 2, none⟩) (by have := hzb.out; show w.heap.size < _; omega)).trans cb1_2.out
  go_wp2_with fail
  clear bx1_0 bx1_1 bx1_2
  refine (sAdd_any a0 x1 _ hq1).mono ?_
  rintro e w1 ⟨rfl, hb⟩
  replace hB := hide (Below.up hB.out hb)
  clear hb
  have bx1_0 := (hB.out.cell (p := ⟨w.heap.size, 0, none⟩) (by have := hzb.out; show w.heap.size < _; omega)).trans cb1_0.out
  have bx1_1 := (hB.out.cell (p := ⟨w.heap.size, 1, none⟩) (by have := hzb.out; show w.heap.size < _; omega)).trans cb1_1.out
  have bx1_2 := (hB.out.cell (p := ⟨w.heap.size, 2, none⟩) (by have := hzb.out; show w.heap.size < _; omega)).trans cb1_2.out
  go_wp2_with fail
  clear bx1_0 bx1_1 bx1_2
  refine (toEntry_any _ _ _ _).mono ?_
  rintro e w1 ⟨rfl, hb⟩
  replace hB := hide (Below.up hB.out hb)
  clear hb
  have bx1_0 := (hB.out.cell (p := ⟨w.heap.size, 0, none⟩) (by have := hzb.out; show w.heap.size < _; omega)).trans cb1_0.out
  have bx1_1 := (hB.out.cell (p := ⟨w.heap.size, 1, none⟩) (by have := hzb.out; show w.heap.size < _; omega)).trans cb1_1.out
  have bx1_2 := (hB.out.cell (p := ⟨w.heap.size, 2, none⟩) (by have := hzb.out; show w.heap.size < _; omega)).trans cb1_2.out
  go_wp2_with fail
  clear bx1_0 bx1_1 bx1_2
  refine (iAdd_any a0 x1 _ hq1 (hGW.out.below hB.out)).mono ?_
  rintro e w1 ⟨rfl, hb⟩
  replace hB := hide (Below.up hB.out hb)
  clear hb
  go_wp2_with fail
  go_ret
  exact ⟨rfl, Below.up hBw.out hB.out⟩
end Go.Proofs.YtmdnkkoacclfcaaDoor
