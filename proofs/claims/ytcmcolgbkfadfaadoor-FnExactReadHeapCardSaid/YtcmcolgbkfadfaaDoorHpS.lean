/- The walk of the exact law of ReadHeap. -/
import Derived.Test.YtcmcolgbkfadfaaDoorHpR
namespace Go.Proofs.YtcmcolgbkfadfaaDoor
open Go.ChangeShapes Go.WideShapes Go.ChangeAt Go.RowKit Go.Deep
set_option maxRecDepth 100000
theorem heap_cells3 {w : World} {x : Heap} {t : TypeId} {g : Nat} (h : w.heap[g]? = some (.cells #[.string x.fSort, .int .i64 x.fYear, .int .i64 x.fBundles] t (0, 0))) :
    w.cell? ⟨g, 0, none⟩ = some (.string x.fSort) ∧ w.cell? ⟨g, 1, none⟩ = some (.int .i64 x.fYear) ∧ w.cell? ⟨g, 2, none⟩ = some (.int .i64 x.fBundles) :=
  ⟨by rw [cell_of_row _ _ _ _ _ _ h]; rfl, by rw [cell_of_row _ _ _ _ _ _ h]; rfl, by rw [cell_of_row _ _ _ _ _ _ h]; rfl⟩
set_option maxHeartbeats 1000000 in
theorem walkReadHeap (w : World) (hG : Gl w) (a0 : ByteArray) (z0 : a0.size ≤ maxLen) :
    Calls Tryd.prog 4 #[.string a0] w fun e w' => e = .returned (.bool true) ∧ Below w.heap.size w w' := by
  unfold maxLen at z0
  have hGW := hide hG
  clear hG
  have hB := hide (Below.refl w.heap.size w)
  by_cases g0 : 1048576 < (a0.size : Int)
  · go_enter Tryd.func4, Tryd.ntmps4
    go_wp2
    go_ret; exact ⟨rfl, hB.out⟩
  go_enter Tryd.func4, Tryd.ntmps4
  go_wp2_with fail
  refine (sRh_any a0 _ (by omega)).mono ?_
  rintro e w1 ⟨rfl, hb⟩
  replace hB := hide (Below.up hB.out hb)
  clear hb
  go_wp2_with fail
  have hN := hide (heap_alloc_new w1 (.cells #[.string (rhHeap a0).fSort, .int .i64 (rhHeap a0).fYear, .int .i64 (rhHeap a0).fBundles] 26))
  have hB2 := hide (hB.out.alloc hB.out.size (.cells #[.string (rhHeap a0).fSort, .int .i64 (rhHeap a0).fYear, .int .i64 (rhHeap a0).fBundles] 26))
  have hlt : w1.heap.size < (w1.alloc (.cells #[.string (rhHeap a0).fSort, .int .i64 (rhHeap a0).fYear, .int .i64 (rhHeap a0).fBundles] 26)).heap.size := by simp
  obtain ⟨W1, hW1⟩ : ∃ W1, W1 = w1.alloc (.cells #[.string (rhHeap a0).fSort, .int .i64 (rhHeap a0).fYear, .int .i64 (rhHeap a0).fBundles] 26) := ⟨_, rfl⟩
  rw [← hW1] at hN hB2 hlt ⊢
  clear hW1
  refine (iRh_any a0 _ (by omega) (hGW.out.below hB2.out)).mono ?_
  rintro e w2 ⟨rfl, hb⟩
  replace hB2 := hide (Below.up hB2.out hb)
  replace hN := hide (keepb hN.out hb)
  clear hb
  have hlt2 : w1.heap.size < w2.heap.size := blk_lt hN.out
  obtain ⟨n0, n1, n2⟩ := heap_cells3 (keepb hN.out ((Below.refl w2.heap.size w2).alloc (Nat.le_refl _) (.cells #[.string (rhHeap a0).fSort, .int .i64 (rhHeap a0).fYear, .int .i64 (rhHeap a0).fBundles] 26)))
  obtain ⟨m0, m1, m2⟩ := heap_cells3 (heap_alloc_new w2 (.cells #[.string (rhHeap a0).fSort, .int .i64 (rhHeap a0).fYear, .int .i64 (rhHeap a0).fBundles] 26))
  go_wp2_with fail
  have hB3 := hide (hB2.out.alloc hB2.out.size (.cells #[.string (rhHeap a0).fSort, .int .i64 (rhHeap a0).fYear, .int .i64 (rhHeap a0).fBundles] 26))
  refine (eqHeap_any (rhHeap a0) (rhHeap a0) _).mono ?_
  rintro e w3 ⟨rfl, hb⟩
  replace hB3 := hide (Below.up hB3.out hb)
  clear hb n0 n1 n2 m0 m1 m2
  rw [Heap.same_true.2 rfl]
  cases kk : rhOk a0
  · go_wp2
    go_ret; exact ⟨rfl, hB3.out⟩
  · go_wp2
    go_ret; exact ⟨rfl, hB3.out⟩
end Go.Proofs.YtcmcolgbkfadfaaDoor
