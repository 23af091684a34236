/- Contracts: the text of a heap. -/
import Derived.Test.YtpnbnhhifgcklaaDoorHeapA
import Derived.Test.YtpnbnhhifgcklaaDoorDec
namespace Go.Proofs.YtpnbnhhifgcklaaDoor
open Go.ChangeShapes Go.WideShapes Go.ChangeAt Go.RowKit Go.Deep
set_option maxRecDepth 100000
theorem one_size (c : UInt8) : (⟨#[c]⟩ : ByteArray).size = 1 := rfl
theorem cat_run (a b : ByteArray) (h : a.size + b.size ≤ 9223372036854775807) : ∀ W : World, (Op.stringOp .add a b).run Tryd.prog W = .ok (.string (a ++ b)) W := fun W => run_string_add_sum W a b h
theorem name_size {s : ByteArray} (h : isName s = true) : s.size ≤ 12 := by
  simp [isName] at h; exact h.1.2
def heapB (x : Heap) : ByteArray := x.fSort ++ ⟨#[32]⟩ ++ decB x.fYear ++ ⟨#[32]⟩ ++ decB x.fBundles
def mHeapT (x : Heap) : ByteArray := if x.ok = true then heapB x else ⟨#[]⟩
set_option maxHeartbeats 1000000 in
theorem iHeapT_any (x : Heap) (w : World) (hx : x.fits) (hG : Gl w) :
    Calls Tryd.prog 11 #[.agg #[.string x.fSort, .int .i64 x.fYear, .int .i64 x.fBundles]] w fun e w' => e = .returned (.string (mHeapT x)) ∧ Below w.heap.size w w' := by
  have hGh := hide hG
  clear hG
  have k0 : (w.alloc (.cells #[.string x.fSort, .int .i64 x.fYear, .int .i64 x.fBundles] 27)).cell? ⟨w.heap.size, 0, none⟩ = some (.string x.fSort) := by rw [cell_of_row _ _ _ _ _ _ (heap_alloc_new w _)]; rfl
  have k1 : (w.alloc (.cells #[.string x.fSort, .int .i64 x.fYear, .int .i64 x.fBundles] 27)).cell? ⟨w.heap.size, 1, none⟩ = some (.int .i64 x.fYear) := by rw [cell_of_row _ _ _ _ _ _ (heap_alloc_new w _)]; rfl
  have k2 : (w.alloc (.cells #[.string x.fSort, .int .i64 x.fYear, .int .i64 x.fBundles] 27)).cell? ⟨w.heap.size, 2, none⟩ = some (.int .i64 x.fBundles) := by rw [cell_of_row _ _ _ _ _ _ (heap_alloc_new w _)]; rfl
  have hB := hide ((Below.refl w.heap.size w).alloc (Nat.le_refl _) (.cells #[.string x.fSort, .int .i64 x.fYear, .int .i64 x.fBundles] 27))
  have hz : w.heap.size < (w.alloc (.cells #[.string x.fSort, .int .i64 x.fYear, .int .i64 x.fBundles] 27)).heap.size := by simp
  cases hk : x.ok
  · have hm : Hid (mHeapT x = ⟨#[]⟩) := hide (by unfold mHeapT; rw [hk]; rfl)
    go_enter Tryd.func11, Tryd.ntmps11
    go_wp2_with (go_at_call 20; refine (iHeap_any x _ hx).mono ?_; rintro e w2 ⟨rfl, hb⟩; have hB2 := hide (Below.up hB.out hb); clear hb)
    go_ret
    exact ⟨by rw [hm.out]; rfl, hB2.out⟩
  have hm : Hid (mHeapT x = heapB x) := hide (by unfold mHeapT; rw [if_pos hk])
  obtain ⟨_, ⟨b1, b2⟩, b3, b4⟩ := Heap.ok_iff.1 hk
  have s1 := name_size (Heap.ok_iff.1 hk).1
  have s2 := decB_size x.fYear (by omega) (by omega)
  have s3 := decB_size x.fBundles (by omega) (by omega)
  have j1 := cat_run x.fSort ⟨#[32]⟩ (by simp only [one_size]; omega)
  have j2 := cat_run (x.fSort ++ ⟨#[32]⟩) (decB x.fYear) (by simp only [ByteArray.size_append, one_size]; omega)
  have j3 := cat_run (x.fSort ++ ⟨#[32]⟩ ++ decB x.fYear) ⟨#[32]⟩ (by simp only [ByteArray.size_append, one_size]; omega)
  have j4 := cat_run (x.fSort ++ ⟨#[32]⟩ ++ decB x.fYear ++ ⟨#[32]⟩) (decB x.fBundles) (by simp only [ByteArray.size_append, one_size]; omega)
  have q0 := hide k0
  have q1 := hide k1
  have q2 := hide k2
  go_enter Tryd.func11, Tryd.ntmps11
  go_wp2_with (first | (go_at_call 20; refine (iHeap_any x _ hx).mono ?_; rintro e w2 ⟨rfl, hb⟩; have hB2 := hide (Below.up hB.out hb); have k0 := keepc hb hz q0.out; have k1 := keepc hb hz q1.out; have k2 := keepc hb hz q2.out; have hz2 := Nat.lt_of_lt_of_le hz hb.size; clear hb) | fail)
  have p0 := hide k0
  have p1 := hide k1
  have p2 := hide k2
  have hC := hide (below_drewN (Below.refl w2.heap.size w2) 1)
  go_region_held3 (fun w' => w'.cell? ⟨w.heap.size, 0, none⟩ = some (.string x.fSort) ∧ w'.cell? ⟨w.heap.size, 1, none⟩ = some (.int .i64 x.fYear) ∧ w'.cell? ⟨w.heap.size, 2, none⟩ = some (.int .i64 x.fBundles)) (first | go_keep | exact ⟨keepc hC.out hz2 p0.out, keepc hC.out hz2 p1.out, keepc hC.out hz2 p2.out⟩)
    (first | (go_at_call 28; refine (iDec_any _ _ (by omega) (by omega) (by exact hGh.out.below (Below.up hB2.out hC.out))).mono ?_; rintro e w3 ⟨rfl, hb⟩; replace hC := hide (Below.up hC.out hb); clear hb) | fail)
  all_goals go_wp2
  all_goals go_ret
  all_goals exact ⟨by rw [hm.out]; rfl, Below.up hB2.out hC.out⟩
end Go.Proofs.YtpnbnhhifgcklaaDoor
