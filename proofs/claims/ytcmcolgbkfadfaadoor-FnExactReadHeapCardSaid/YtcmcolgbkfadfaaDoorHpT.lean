/- Contracts: the text of a heap. -/
import Derived.Test.YtcmcolgbkfadfaaDoorHeapA
import Derived.Test.YtcmcolgbkfadfaaDoorDec
namespace Go.Proofs.YtcmcolgbkfadfaaDoor
open Go.ChangeShapes Go.WideShapes Go.ChangeAt Go.RowKit Go.Deep
set_option maxRecDepth 100000
theorem one_size (c : UInt8) : (⟨#[c]⟩ : ByteArray).size = 1 := rfl
theorem cat_run (a b : ByteArray) (h : a.size + b.size ≤ 9223372036854775807) : ∀ W : World, (Op.stringOp .add a b).run Tryd.prog W = .ok (.string (a ++ b)) W := fun W => run_string_add_sum W a b h
theorem name_size {s : ByteArray} (h : isName s = true) : s.size ≤ 12 := by
  simp [isName] at h; exact h.1.2
def heapB (x : Heap) : ByteArray := x.fSort ++ ⟨#[32]⟩ ++ decB x.fYear ++ ⟨#[32]⟩ ++ decB x.fBundles
def mHeapT (x : Heap) : ByteArray := if x.ok = true then heapB x else ⟨#[]⟩
set_option maxHeartbeats 1000000 in
theorem iHeapT_any (x : Heap) (w : World) (hx : x.fits) (hG : Gl w) :
    Calls Tryd.prog 9 #[.agg #[.string x.fSort, .int .i64 x.fYear, .int .i64 x.fBundles]] w fun e w' => e = .returned (.string (mHeapT x)) ∧ Below w.heap.size w w' := by
  have hGh := hide hG
  clear hG
  have k0 : (w.alloc (.cells #[.string x.fSort, .int .i64 x.fYear, .int .i64 x.fBundles] 26)).cell? ⟨w.heap.size, 0, none⟩ = some (.string x.fSort) := by rw [cell_of_row _ _ _ _ _ _ (heap_alloc_new w _)]; rfl
  have k1 : (w.alloc (.cells #[.string x.fSort, .int .i64 x.fYear, .int .i64 x.fBundles] 26)).cell? ⟨w.heap.size, 1, none⟩ = some (.int .i64 x.fYear) := by rw [cell_of_row _ _ _ _ _ _ (heap_alloc_new w _)]; rfl
  have k2 : (w.alloc (.cells #[.string x.fSort, .int .i64 x.fYear, .int .i64 x.fBundles] 26)).cell? ⟨w.heap.size, 2, none⟩ = some (.int .i64 x.fBundles) := by rw [cell_of_row _ _ _ _ _ _ (heap_alloc_new w _)]; rfl
  have hB := hide ((Below.refl w.heap.size w).alloc (Nat.le_refl _) (.cells #[.string x.fSort, .int .i64 x.fYear, .int .i64 x.fBundles] 26))
  have hz : w.heap.size < (w.alloc (.cells #[.string x.fSort, .int .i64 x.fYear, .int .i64 x.fBundles] 26)).heap.size := by simp
  cases hk : x.ok
  · have hm : Hid (mHeapT x = ⟨#[]⟩) := hide (by unfold mHeapT; rw [hk]; rfl)
    go_enter Tryd.func9, Tryd.ntmps9
    go_wp2_with (go_at_call 25; refine (iHeap_any x _ hx).mono ?_; rintro e w2 ⟨rfl, hb⟩; have hB2 := hide (Below.up hB.out hb); clear hb)
    go_ret
    exact ⟨by rw [hm.out]; rfl, hB2.out⟩
  have hm : Hid (mHeapT x = heapB x) := hide (by unfold mHeapT; rw [if_pos hk])
  obtain ⟨_, ⟨b1, b2⟩, b3, b4⟩ := Heap.ok_iff.1 hk
  have s1 := name_size (Heap.ok_iff.1 hk).1
  have s2 := decB_size x.fYear (by omega) (by omega)
  have s3 := decB_size x.fBundles (by omega) (by omega)
  have j1 := cat_run x.fSort ⟨#[32]⟩ (by simp only [one_size]; omega)
  have j2 := cat_run (x.fSort ++ ⟨#[32]⟩) (decB x.fYear) (by simp only [ByteArray.size_append, one_size]; omega)
  have j3 := cat_run (x.fSort ++ ⟨#[32]⟩ ++ decB x.fYear) ⟨#[32]⟩ (by simp only [ByteArray.size_append, one_size]; omega)
  have j4 := cat_run (x.fSort ++ ⟨#[32]⟩ ++ decB x.fYear ++ ⟨#[32]⟩) (decB x.fBundles) (by simp only [ByteArray.size_append, one_size]; omega)
  have q0 := hide k0
  have q1 := hide k1
  have q2 := hide k2
  go_enter Tryd.func9, Tryd.ntmps9
  go_wp2_with (first | (go_at_call 25; refine (iHeap_any x _ hx).mono ?_; rintro e w2 ⟨rfl, hb⟩; have hB2 := hide (Below.up hB.out hb); have k0 := keepc hb hz q0.out; have k1 := keepc hb hz q1.out; have k2 := keepc hb hz q2.out; have hz2 := Nat.lt_of_lt_of_le hz hb.size; clear hb) | fail)
  have p0 := hide k0
  have p1 := hide k1
  have p2 := hide k2
  have hC := hide (below_drewN (Below.refl w2.heap.size w2) 1)
  go_region_held3 (fun w' => w'.cell? ⟨w.heap.size, 0, none⟩ = some (.string x.fSort) ∧ w'.cell? ⟨w.heap.size, 1, none⟩ = some (.int .i64 x.fYear) ∧ w'.cell? ⟨w.heap.size, 2, none⟩ = some (.int .i64 x.fBundles)) (first | go_keep | exact ⟨keepc hC.out hz2 p0.out, keepc hC.out hz2 p1.out, keepc hC.out hz2 p2.out⟩)
    (first | (go_at_call 26; refine (iDec_any _ _ (by omega) (by omega) (by exact hGh.out.below (Below.up hB2.out hC.out))).mono ?_; rintro e w3 ⟨rfl, hb⟩; replace hC := hide (Below.up hC.out hb); clear hb) | fail)
  all_goals go_wp2
  all_goals go_ret
  all_goals exact ⟨by rw [hm.out]; rfl, Below.up hB2.out hC.out⟩
set_option maxHeartbeats 1000000 in
theorem sl23Text_any (b o : Nat) (x : Heap) (w : World) (hk : x.ok = true) (hlt : b < w.heap.size) (d0 : w.cell? ⟨b, o, none⟩ = some (.string x.fSort)) (d1 : w.cell? ⟨b, o + 1, none⟩ = some (.int .i64 x.fYear)) (d2 : w.cell? ⟨b, o + 2, none⟩ = some (.int .i64 x.fBundles)) :
    Calls Tryd.prog 24 #[.pointer (some ⟨b, o, none⟩)] w fun e w' => e = .returned (.string (heapB x)) ∧ Below w.heap.size w w' := by
  obtain ⟨_, ⟨b1, b2⟩, b3, b4⟩ := Heap.ok_iff.1 hk
  have s1 := name_size (Heap.ok_iff.1 hk).1
  have s2 := decB_size x.fYear (by omega) (by omega)
  have s3 := decB_size x.fBundles (by omega) (by omega)
  have j1 := cat_run x.fSort ⟨#[32]⟩ (by simp only [one_size]; omega)
  have j2 := cat_run (x.fSort ++ ⟨#[32]⟩) (decB x.fYear) (by simp only [ByteArray.size_append, one_size]; omega)
  have j3 := cat_run (x.fSort ++ ⟨#[32]⟩ ++ decB x.fYear) ⟨#[32]⟩ (by simp only [ByteArray.size_append, one_size]; omega)
  have j4 := cat_run (x.fSort ++ ⟨#[32]⟩ ++ decB x.fYear ++ ⟨#[32]⟩) (decB x.fBundles) (by simp only [ByteArray.size_append, one_size]; omega)
  clear hk
  have q0 := hide d0
  have q1 := hide d1
  have q2 := hide d2
  go_enter Tryd.func24, Tryd.ntmps24
  go_wp2_with fail
  have hC := hide (below_drewN (Below.refl w.heap.size w) 1)
  go_region_held3 (fun w' => w'.cell? ⟨b, o, none⟩ = some (.string x.fSort) ∧ w'.cell? ⟨b, o + 1, none⟩ = some (.int .i64 x.fYear) ∧ w'.cell? ⟨b, o + 2, none⟩ = some (.int .i64 x.fBundles)) (first | go_keep | exact ⟨keepc hC.out hlt q0.out, keepc hC.out hlt q1.out, keepc hC.out hlt q2.out⟩)
    (first | (go_at_call 44; refine (sDec_any _ _ (by omega) (by omega)).mono ?_; rintro e w2 ⟨rfl, hb⟩; replace hC := hide (Below.up hC.out hb); clear hb) | fail)
  all_goals go_wp2
  all_goals go_ret
  all_goals exact ⟨rfl, hC.out⟩
set_option maxHeartbeats 1000000 in
theorem sHeapT_any (x : Heap) (w : World) (hx : x.fits) :
    Calls Tryd.prog 7 #[.agg #[.string x.fSort, .int .i64 x.fYear, .int .i64 x.fBundles]] w fun e w' => e = .returned (.string (mHeapT x)) ∧ Below w.heap.size w w' := by
  have k0 : (w.alloc (.cells #[.string x.fSort, .int .i64 x.fYear, .int .i64 x.fBundles] 26)).cell? ⟨w.heap.size, 0, none⟩ = some (.string x.fSort) := by rw [cell_of_row _ _ _ _ _ _ (heap_alloc_new w _)]; rfl
  have k1 : (w.alloc (.cells #[.string x.fSort, .int .i64 x.fYear, .int .i64 x.fBundles] 26)).cell? ⟨w.heap.size, 1, none⟩ = some (.int .i64 x.fYear) := by rw [cell_of_row _ _ _ _ _ _ (heap_alloc_new w _)]; rfl
  have k2 : (w.alloc (.cells #[.string x.fSort, .int .i64 x.fYear, .int .i64 x.fBundles] 26)).cell? ⟨w.heap.size, 2, none⟩ = some (.int .i64 x.fBundles) := by rw [cell_of_row _ _ _ _ _ _ (heap_alloc_new w _)]; rfl
  have hB := hide ((Below.refl w.heap.size w).alloc (Nat.le_refl _) (.cells #[.string x.fSort, .int .i64 x.fYear, .int .i64 x.fBundles] 26))
  have hz : w.heap.size < (w.alloc (.cells #[.string x.fSort, .int .i64 x.fYear, .int .i64 x.fBundles] 26)).heap.size := by simp
  cases hk : x.ok
  · have hm : Hid (mHeapT x = ⟨#[]⟩) := hide (by unfold mHeapT; rw [hk]; rfl)
    go_enter Tryd.func7, Tryd.ntmps7
    go_wp2_with (go_at_call 23; refine (sOne_any w.heap.size 0 x _ hx k0 k1 k2).mono ?_; rintro e w' ⟨rfl, rfl⟩)
    go_ret
    exact ⟨by rw [hm.out]; rfl, hB.out⟩
  · have hm : Hid (mHeapT x = heapB x) := hide (by unfold mHeapT; rw [if_pos hk])
    go_enter Tryd.func7, Tryd.ntmps7
    go_wp2_with (first | (go_at_call 23; refine (sOne_any w.heap.size 0 x _ hx k0 k1 k2).mono ?_; rintro e w' ⟨rfl, rfl⟩) | (go_at_call 24; refine (sl23Text_any w.heap.size 0 x _ hk hz k0 k1 k2).mono ?_; rintro e w2 ⟨rfl, hb⟩; have hB2 := hide (Below.up hB.out hb); clear hb))
    go_ret
    exact ⟨by rw [hm.out]; rfl, hB2.out⟩
end Go.Proofs.YtcmcolgbkfadfaaDoor
