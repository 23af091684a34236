/- Contracts: the stamp of an entry. -/
import Derived.Test.YtmdnkkoacclfcaaDoorEntB
namespace Go.Proofs.YtmdnkkoacclfcaaDoor
open Go.ChangeShapes Go.WideShapes Go.ChangeAt Go.RowKit Go.Deep
set_option maxRecDepth 100000
def mStamp (before : Int) (x : Entry) : Int × Int := if x.ok = false then (0, 1) else if inB before 0 65518 = false then (0, 2) else (stampB before (entB x), 0)
set_option maxHeartbeats 1000000 in
theorem iStampOf_any (before : Int) (x : Entry) (w : World) (hx : x.fits) (hG : Gl w) :
    Calls Tryd.prog 17 #[.int .i64 before, .agg #[.int .i64 x.fDay, .string x.fWhat, .int .i64 x.fValue]] w fun e w' => e = .returned (.tuple #[.int .i64 (mStamp before x).1, .int .i64 (mStamp before x).2]) ∧ Below w.heap.size w w' := by
  have hGh := hide hG
  clear hG
  have k0 : (w.alloc (.cells #[.int .i64 x.fDay, .string x.fWhat, .int .i64 x.fValue] 27)).cell? ⟨w.heap.size, 0, none⟩ = some (.int .i64 x.fDay) := by rw [cell_of_row _ _ _ _ _ _ (heap_alloc_new w _)]; rfl
  have k1 : (w.alloc (.cells #[.int .i64 x.fDay, .string x.fWhat, .int .i64 x.fValue] 27)).cell? ⟨w.heap.size, 1, none⟩ = some (.string x.fWhat) := by rw [cell_of_row _ _ _ _ _ _ (heap_alloc_new w _)]; rfl
  have k2 : (w.alloc (.cells #[.int .i64 x.fDay, .string x.fWhat, .int .i64 x.fValue] 27)).cell? ⟨w.heap.size, 2, none⟩ = some (.int .i64 x.fValue) := by rw [cell_of_row _ _ _ _ _ _ (heap_alloc_new w _)]; rfl
  have hB := hide ((Below.refl w.heap.size w).alloc (Nat.le_refl _) (.cells #[.int .i64 x.fDay, .string x.fWhat, .int .i64 x.fValue] 27))
  have hz : w.heap.size < (w.alloc (.cells #[.int .i64 x.fDay, .string x.fWhat, .int .i64 x.fValue] 27)).heap.size := by simp
  cases hk : x.ok
  · have hm : Hid (mStamp before x = (0, 1)) := hide (by unfold mStamp; rw [if_pos hk])
    go_enter Tryd.func17, Tryd.ntmps17
    go_wp2_with (first | (go_at_call 53; refine (iEntry_any x _ hx).mono ?_; rintro e w2 ⟨rfl, hb⟩; have m0 := keepc hb hz k0; have m1 := keepc hb hz k1; have m2 := keepc hb hz k2; have hB2 := hide (Below.up hB.out hb); clear hb) | fail)
    go_ret2
    exact ⟨by rw [hm.out]; rfl, hB2.out⟩
  · cases hr : inB before 0 65518
    · have hm : Hid (mStamp before x = (0, 2)) := hide (by unfold mStamp; rw [hk, hr]; rfl)
      go_enter Tryd.func17, Tryd.ntmps17
      go_wp2_with (first | (go_at_call 53; refine (iEntry_any x _ hx).mono ?_; rintro e w2 ⟨rfl, hb⟩; have m0 := keepc hb hz k0; have m1 := keepc hb hz k1; have m2 := keepc hb hz k2; have hB2 := hide (Below.up hB.out hb); clear hb) | (go_at_call 54; refine (within_any _ _ _ _).mono ?_; rintro e w' ⟨rfl, rfl⟩) | fail)
      go_ret2
      exact ⟨by rw [hm.out]; rfl, hB2.out⟩
    · have hm : Hid (mStamp before x = (stampB before (entB x), 0)) := hide (by unfold mStamp; rw [hk, hr]; rfl)
      obtain ⟨h0, h1⟩ := inB_true.1 hr
      go_enter Tryd.func17, Tryd.ntmps17
      go_wp2_with (first | (go_at_call 53; refine (iEntry_any x _ hx).mono ?_; rintro e w2 ⟨rfl, hb⟩; have m0 := keepc hb hz k0; have m1 := keepc hb hz k1; have m2 := keepc hb hz k2; have hB2 := hide (Below.up hB.out hb); clear hb) | (go_at_call 54; refine (within_any _ _ _ _).mono ?_; rintro e w' ⟨rfl, rfl⟩) | (go_at_call 55; refine (iStamp_any before x _ h0 h1 hk (hGh.out.below hB2.out)).mono ?_; rintro e w3 ⟨rfl, hb⟩; have hB3 := hide (Below.up hB2.out hb); clear hb) | fail)
      go_ret2
      exact ⟨by rw [hm.out]; rfl, hB3.out⟩
set_option maxHeartbeats 1000000 in
theorem sStampOf_any (before : Int) (x : Entry) (w : World) (hx : x.fits) :
    Calls Tryd.prog 15 #[.int .i64 before, .agg #[.int .i64 x.fDay, .string x.fWhat, .int .i64 x.fValue]] w fun e w' => e = .returned (.tuple #[.int .i64 (mStamp before x).1, .int .i64 (mStamp before x).2]) ∧ Below w.heap.size w w' := by
  have k0 : (w.alloc (.cells #[.int .i64 x.fDay, .string x.fWhat, .int .i64 x.fValue] 27)).cell? ⟨w.heap.size, 0, none⟩ = some (.int .i64 x.fDay) := by rw [cell_of_row _ _ _ _ _ _ (heap_alloc_new w _)]; rfl
  have k1 : (w.alloc (.cells #[.int .i64 x.fDay, .string x.fWhat, .int .i64 x.fValue] 27)).cell? ⟨w.heap.size, 1, none⟩ = some (.string x.fWhat) := by rw [cell_of_row _ _ _ _ _ _ (heap_alloc_new w _)]; rfl
  have k2 : (w.alloc (.cells #[.int .i64 x.fDay, .string x.fWhat, .int .i64 x.fValue] 27)).cell? ⟨w.heap.size, 2, none⟩ = some (.int .i64 x.fValue) := by rw [cell_of_row _ _ _ _ _ _ (heap_alloc_new w _)]; rfl
  have hB := hide ((Below.refl w.heap.size w).alloc (Nat.le_refl _) (.cells #[.int .i64 x.fDay, .string x.fWhat, .int .i64 x.fValue] 27))
  have hz : w.heap.size < (w.alloc (.cells #[.int .i64 x.fDay, .string x.fWhat, .int .i64 x.fValue] 27)).heap.size := by simp
  cases hk : x.ok
  · have hm : Hid (mStamp before x = (0, 1)) := hide (by unfold mStamp; rw [if_pos hk])
    go_enter Tryd.func15, Tryd.ntmps15
    go_wp2_with (first | (go_at_call 49; refine (sEntry_any w.heap.size 0 x _ hx k0 k1 k2).mono ?_; rintro e w2 ⟨rfl, rfl⟩) | fail)
    go_ret2
    exact ⟨by rw [hm.out]; rfl, hB.out⟩
  · cases hr : inB before 0 65518
    · have hm : Hid (mStamp before x = (0, 2)) := hide (by unfold mStamp; rw [hk, hr]; rfl)
      go_enter Tryd.func15, Tryd.ntmps15
      go_wp2_with (first | (go_at_call 49; refine (sEntry_any w.heap.size 0 x _ hx k0 k1 k2).mono ?_; rintro e w2 ⟨rfl, rfl⟩) | (go_at_call 50; refine (in_any _ _ _ _).mono ?_; rintro e w' ⟨rfl, rfl⟩) | fail)
      go_ret2
      exact ⟨by rw [hm.out]; rfl, hB.out⟩
    · have hm : Hid (mStamp before x = (stampB before (entB x), 0)) := hide (by unfold mStamp; rw [hk, hr]; rfl)
      obtain ⟨h0, h1⟩ := inB_true.1 hr
      have hs := entB_size hk
      go_enter Tryd.func15, Tryd.ntmps15
      go_wp2_with (first | (go_at_call 49; refine (sEntry_any w.heap.size 0 x _ hx k0 k1 k2).mono ?_; rintro e w2 ⟨rfl, rfl⟩) | (go_at_call 50; refine (in_any _ _ _ _).mono ?_; rintro e w' ⟨rfl, rfl⟩) | (go_at_call 52; refine (sWords_any w.heap.size 0 x _ hk hz k0 k1 k2).mono ?_; rintro e w3 ⟨rfl, hb⟩; have hB3 := hide (Below.up hB.out hb); clear hb) | (go_at_call 51; refine (sStamp_any before _ _ h0 h1 hs).mono ?_; rintro e w4 ⟨rfl, rfl⟩) | fail)
      go_ret2
      exact ⟨by rw [hm.out]; rfl, hB3.out⟩
end Go.Proofs.YtmdnkkoacclfcaaDoor
