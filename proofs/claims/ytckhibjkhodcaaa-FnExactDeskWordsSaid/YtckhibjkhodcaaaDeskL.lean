/- The walks of the exact laws of the console and the log: the law calls the reference and the program at copies of its arguments, compares, and looks whether they share memory. -/
import Derived.Test.YtckhibjkhodcaaaDeskA
import Derived.Test.YtckhibjkhodcaaaKString
namespace Go.Proofs.Ytckhibjkhodcaaa
open Go.ChangeShapes Go.WideShapes Go.ChangeAt Go.RowKit Go.Deep
set_option maxRecDepth 100000
set_option maxHeartbeats 1000000 in
theorem walkDeskWords (w : World)  :
    Calls Try.prog 3 #[] w fun e w' => e = .returned (.bool true) ∧ Below w.heap.size w w' := by
  have hB := hide (Below.refl w.heap.size w)
  have hL0 : (dkWords).length ≤ 1048576 := by decide
  go_enter Try.func3, Try.ntmps3
  go_wp2_with fail
  refine (sWords_any _).mono ?_
  rintro e w1 ⟨vW0, rfl, hoW0, hb⟩
  have hW0 := hide (hoW0.less hB.out.size)
  obtain ⟨AW0, cW0, rfl, _⟩ := hoW0.slice
  clear hoW0
  replace hB := hide (Below.up hB.out hb)
  clear hb
  go_wp2_with fail
  refine (iWords_any _).mono ?_
  rintro e w1 ⟨vG0, rfl, hoG0, hb⟩
  have dd_hW0_hG0 := hide (hW0.out.apart hoG0 (Nat.le_refl _)).1
  have dd_hG0_hW0 := hide (hW0.out.apart hoG0 (Nat.le_refl _)).2
  replace hW0 := hide (hW0.out.below hb)
  have hG0 := hide (hoG0.less hB.out.size)
  obtain ⟨AG0, cG0, rfl, _⟩ := hoG0.slice
  clear hoG0
  replace hB := hide (Below.up hB.out hb)
  clear hb
  go_wp2_with fail
  refine (eqStrs_any _ _ _ _ _ _ _ _ _ hL0 (hG0.out.arr strc_len) (hW0.out.arr strc_len)).mono ?_
  rintro e w1 ⟨rfl, hb⟩
  replace hW0 := hide (hW0.out.below hb)
  replace hG0 := hide (hG0.out.below hb)
  replace hB := hide (Below.up hB.out hb)
  clear hb
  go_wp2_with fail
  refine (markStringS_any _ _ _ _ _ _ (by omega) (by omega) hL0 hG0.out).mono ?_
  rintro e w1 ⟨rfl, hg, ho⟩
  replace hW0 := hide (hW0.out.kept hg dd_hW0_hG0.out)
  replace hB := hide (hG0.out.markBelow hB.out hg)
  replace hG0 := hide ho
  clear ho
  clear hg
  go_wp2_with fail
  refine (heldStringS_any _ _ _ _ _ (by omega) (by omega) hL0 (hG0.out.arr strc_len)).mono ?_
  rintro e w1 ⟨rfl, hb⟩
  replace hW0 := hide (hW0.out.below hb)
  replace hG0 := hide (hG0.out.below hb)
  replace hB := hide (Below.up hB.out hb)
  clear hb
  go_wp2_with fail
  refine (iWords_any _).mono ?_
  rintro e w1 ⟨vH0, rfl, hoH0, hb⟩
  replace hW0 := hide (hW0.out.below hb)
  replace hG0 := hide (hG0.out.below hb)
  have hH0 := hide (hoH0.less hB.out.size)
  obtain ⟨AH0, cH0, rfl, _⟩ := hoH0.slice
  clear hoH0
  replace hB := hide (Below.up hB.out hb)
  clear hb
  go_wp2_with fail
  refine (eqStrs_any _ _ _ _ _ _ _ _ _ hL0 (hH0.out.arr strc_len) (hW0.out.arr strc_len)).mono ?_
  rintro e w1 ⟨rfl, hb⟩
  replace hW0 := hide (hW0.out.below hb)
  replace hG0 := hide (hG0.out.below hb)
  replace hH0 := hide (hH0.out.below hb)
  replace hB := hide (Below.up hB.out hb)
  clear hb
  go_wp2_with fail
  refine (heldStringS_any _ _ _ _ _ (by omega) (by omega) hL0 (hG0.out.arr strc_len)).mono ?_
  rintro e w1 ⟨rfl, hb⟩
  replace hW0 := hide (hW0.out.below hb)
  replace hG0 := hide (hG0.out.below hb)
  replace hH0 := hide (hH0.out.below hb)
  replace hB := hide (Below.up hB.out hb)
  clear hb
  go_wp2_with fail
  go_ret
  exact ⟨rfl, hB.out⟩
set_option maxHeartbeats 1000000 in
theorem walkValidEntry (w : World) (x0 : Entry) (hq0 : x0.fits) :
    Calls Try.prog 6 #[.agg #[.int .i64 x0.fDay, .string x0.fWhat, .int .i64 x0.fValue]] w fun e w' => e = .returned (.bool true) ∧ Below w.heap.size w w' := by
  have hBw : Hid (Below w.heap.size w (w.alloc (.cells #[.int .i64 x0.fDay, .string x0.fWhat, .int .i64 x0.fValue] 42))) := hide ((Below.refl w.heap.size w).alloc (Nat.le_refl _) _)
  have cb0_0 : Hid ((w.alloc (.cells #[.int .i64 x0.fDay, .string x0.fWhat, .int .i64 x0.fValue] 42)).cell? ⟨w.heap.size, 0, none⟩ = some (.int .i64 x0.fDay)) := hide (by rw [cell_of_row _ _ _ _ _ _ (heap_alloc_new _ _)]; rfl)
  have cb0_1 : Hid ((w.alloc (.cells #[.int .i64 x0.fDay, .string x0.fWhat, .int .i64 x0.fValue] 42)).cell? ⟨w.heap.size, 1, none⟩ = some (.string x0.fWhat)) := hide (by rw [cell_of_row _ _ _ _ _ _ (heap_alloc_new _ _)]; rfl)
  have cb0_2 : Hid ((w.alloc (.cells #[.int .i64 x0.fDay, .string x0.fWhat, .int .i64 x0.fValue] 42)).cell? ⟨w.heap.size, 2, none⟩ = some (.int .i64 x0.fValue)) := hide (by rw [cell_of_row _ _ _ _ _ _ (heap_alloc_new _ _)]; rfl)
  have hzb : Hid (w.heap.size + 1 = (w.alloc (.cells #[.int .i64 x0.fDay, .string x0.fWhat, .int .i64 x0.fValue] 42)).heap.size) := hide (by simp)
  by_cases g0 : 1048576 - x0.wt < 0
  · have hs0 := szv_neg g0
    go_enter Try.func6, Try.ntmps6
    go_wp2_with fail
    obtain ⟨W0, hW0⟩ : ∃ W0, W0 = (w.alloc (.cells #[.int .i64 x0.fDay, .string x0.fWhat, .int .i64 x0.fValue] 42)) := ⟨_, rfl⟩
    rw [← hW0] at hBw hzb cb0_0 cb0_1 cb0_2 ⊢
    clear hW0
    have hB := hide (Below.refl W0.heap.size W0)
    refine (szEntry_any x0 _ _ hq0 (by omega) (by omega)).mono ?_
    rintro e w1 ⟨rfl, hb⟩
    replace hB := hide (Below.up hB.out hb)
    clear hb
    go_wp2
    go_ret; exact ⟨rfl, Below.up hBw.out hB.out⟩
  have hs0 := szv_pos (x := 1048576 - x0.wt) (by omega)
  have hT0 := x0.wt_nonneg
  go_enter Try.func6, Try.ntmps6
  go_wp2_with fail
  obtain ⟨W0, hW0⟩ : ∃ W0, W0 = (w.alloc (.cells #[.int .i64 x0.fDay, .string x0.fWhat, .int .i64 x0.fValue] 42)) := ⟨_, rfl⟩
  rw [← hW0] at hBw hzb cb0_0 cb0_1 cb0_2 ⊢
  clear hW0
  have hB := hide (Below.refl W0.heap.size W0)
  refine (szEntry_any x0 _ _ hq0 (by omega) (by omega)).mono ?_
  rintro e w1 ⟨rfl, hb⟩
  replace hB := hide (Below.up hB.out hb)
  clear hb
  have bx0_0 := (hB.out.cell (p := ⟨w.heap.size, 0, none⟩) (by have := hzb.out; show w.heap.size < _; omega)).trans cb0_0.out
  have bx0_1 := (hB.out.cell (p := ⟨w.heap.size, 1, none⟩) (by have := hzb.out; show w.heap.size < _; omega)).trans cb0_1.out
  have bx0_2 := (hB.out.cell (p := ⟨w.heap.size, 2, none⟩) (by have := hzb.out; show w.heap.size < _; omega)).trans cb0_2.out
  go_wp2_with fail
  clear bx0_0 bx0_1 bx0_2
  refine (toEntry_any _ _ _ _).mono ?_
  rintro e w1 ⟨rfl, hb⟩
  replace hB := hide (Below.up hB.out hb)
  clear hb
  have bx0_0 := (hB.out.cell (p := ⟨w.heap.size, 0, none⟩) (by have := hzb.out; show w.heap.size < _; omega)).trans cb0_0.out
  have bx0_1 := (hB.out.cell (p := ⟨w.heap.size, 1, none⟩) (by have := hzb.out; show w.heap.size < _; omega)).trans cb0_1.out
  have bx0_2 := (hB.out.cell (p := ⟨w.heap.size, 2, none⟩) (by have := hzb.out; show w.heap.size < _; omega)).trans cb0_2.out
  go_wp2_with fail
  clear bx0_0 bx0_1 bx0_2
  refine (sValidEntry_any x0 _ hq0).mono ?_
  rintro e w1 ⟨rfl, hb⟩
  replace hB := hide (Below.up hB.out hb)
  clear hb
  have bx0_0 := (hB.out.cell (p := ⟨w.heap.size, 0, none⟩) (by have := hzb.out; show w.heap.size < _; omega)).trans cb0_0.out
  have bx0_1 := (hB.out.cell (p := ⟨w.heap.size, 1, none⟩) (by have := hzb.out; show w.heap.size < _; omega)).trans cb0_1.out
  have bx0_2 := (hB.out.cell (p := ⟨w.heap.size, 2, none⟩) (by have := hzb.out; show w.heap.size < _; omega)).trans cb0_2.out
  go_wp2_with fail
  clear bx0_0 bx0_1 bx0_2
  refine (toEntry_any _ _ _ _).mono ?_
  rintro e w1 ⟨rfl, hb⟩
  replace hB := hide (Below.up hB.out hb)
  clear hb
  have bx0_0 := (hB.out.cell (p := ⟨w.heap.size, 0, none⟩) (by have := hzb.out; show w.heap.size < _; omega)).trans cb0_0.out
  have bx0_1 := (hB.out.cell (p := ⟨w.heap.size, 1, none⟩) (by have := hzb.out; show w.heap.size < _; omega)).trans cb0_1.out
  have bx0_2 := (hB.out.cell (p := ⟨w.heap.size, 2, none⟩) (by have := hzb.out; show w.heap.size < _; omega)).trans cb0_2.out
  go_wp2_with fail
  clear bx0_0 bx0_1 bx0_2
  refine (iEntry_any x0 _ hq0).mono ?_
  rintro e w1 ⟨rfl, hb⟩
  replace hB := hide (Below.up hB.out hb)
  clear hb
  go_wp2_with fail
  go_ret
  exact ⟨rfl, Below.up hBw.out hB.out⟩
end Go.Proofs.Ytckhibjkhodcaaa
