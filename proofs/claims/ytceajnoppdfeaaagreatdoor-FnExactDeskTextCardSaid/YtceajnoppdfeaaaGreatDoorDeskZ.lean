/- A desk measured by the laws. -/
import Derived.Test.YtceajnoppdfeaaaGreatDoorDeskS
namespace Go.Proofs.YtceajnoppdfeaaaGreatDoor
open Go.ChangeShapes Go.WideShapes Go.ChangeAt Go.RowKit Go.Deep
set_option maxRecDepth 100000
def DeskV.wt (x : DeskV) : Int := x.fStroke.size + Kind.tot x.kinds + Heap.tot x.heaps + x.fLog.size
theorem kind_tot0 (l : List Kind) : 0 ≤ Kind.tot l := by have := Kind.pre_nonneg l; unfold Kind.tot; omega
theorem heap_tot0 (l : List Heap) : 0 ≤ Heap.tot l := by have := Heap.pre_nonneg l; unfold Heap.tot; omega
set_option maxHeartbeats 1000000 in
theorem szDesk_any (x : DeskV) (r : Int) (w : World) (hx : x.fits w) (h0 : 0 ≤ r) (h1 : r ≤ 1048576) :
    Calls Tryz.prog 5 #[.agg #[.string x.fStroke, .int .i64 x.fStakes, .slice x.A x.n x.c, .slice x.A' x.n' x.c', .string x.fLog], .int .i64 r] w fun e w' => e = .returned (.int .i64 (szv (r - x.wt))) ∧ Below w.heap.size w w' := by
  have hX := hide hx
  have s0 := hx.s0
  have s4 := hx.s4
  unfold maxLen at s0 s4
  have T1 := kind_tot0 x.kinds
  have T2 := heap_tot0 x.heaps
  obtain ⟨P1, hP1⟩ : ∃ P, P = Kind.tot x.kinds := ⟨_, rfl⟩
  obtain ⟨P2, hP2⟩ : ∃ P, P = Heap.tot x.heaps := ⟨_, rfl⟩
  have hwt : Hid (x.wt = x.fStroke.size + P1 + P2 + x.fLog.size) := hide (by unfold DeskV.wt; rw [hP1, hP2])
  rw [← hP1] at T1
  rw [← hP2] at T2
  have hK : Hid (∀ (W : World) (q : Int), Below w.heap.size w W → 0 ≤ q → q ≤ 1048576 → Calls Tryz.prog 12 #[.slice x.A x.n x.c, .int .i64 q] W fun e w' => e = .returned (.int .i64 (szv (q - P1))) ∧ Below W.heap.size W w') := hide (fun W q hb a b => by rw [hP1]; exact szKindS_any _ _ _ _ _ _ hX.out.nk a b (hX.out.kinds.go hb) hX.out.kfit)
  have hH : Hid (∀ (W : World) (q : Int), Below w.heap.size w W → 0 ≤ q → q ≤ 1048576 → Calls Tryz.prog 13 #[.slice x.A' x.n' x.c', .int .i64 q] W fun e w' => e = .returned (.int .i64 (szv (q - P2))) ∧ Below W.heap.size W w') := hide (fun W q hb a b => by rw [hP2]; exact szHeapS_any _ _ _ _ _ _ hX.out.nh a b (hX.out.heaps.go hb) hX.out.fit)
  clear hP1 hP2 hX hx
  have hN := hide (heap_alloc_new w (.cells #[.string x.fStroke, .int .i64 x.fStakes, .slice x.A x.n x.c, .slice x.A' x.n' x.c', .string x.fLog] 25))
  have hB := hide ((Below.refl w.heap.size w).alloc (Nat.le_refl _) (.cells #[.string x.fStroke, .int .i64 x.fStakes, .slice x.A x.n x.c, .slice x.A' x.n' x.c', .string x.fLog] 25))
  obtain ⟨k0, k1, k2, k3, k4⟩ := kept5 hN.out (Below.refl _ _)
  clear k1 k3 k4
  by_cases c0 : r - x.fStroke.size < 0
  · have hm := hide (szv_neg (x := r - x.wt) (by have := hwt.out; omega))
    go_enter Tryz.func5, Tryz.ntmps5
    go_wp2
    go_ret
    exact ⟨by rw [hm.out]; rfl, hB.out⟩
  by_cases c1 : r - x.fStroke.size - P1 < 0
  · have hm := hide (szv_neg (x := r - x.wt) (by have := hwt.out; omega))
    have hm1 := szv_neg c1
    go_enter Tryz.func5, Tryz.ntmps5
    go_wp2_with (first | (go_at_call 12; refine (hK.out _ _ hB.out (by omega) (by omega)).mono ?_; rw [hm1]; rintro e w2 ⟨rfl, hb⟩; replace hB := hide (Below.up hB.out hb); clear hb) | fail)
    go_ret
    exact ⟨by rw [hm.out]; rfl, hB.out⟩
  have hm1 := szv_pos (x := r - x.fStroke.size - P1) (by omega)
  go_enter Tryz.func5, Tryz.ntmps5
  go_wp2_with fail
  clear k0 k2
  refine (hK.out _ _ hB.out (by omega) (by omega)).mono ?_
  rw [hm1]
  rintro e w2 ⟨rfl, hb⟩
  obtain ⟨k0, k1, k2, k3, k4⟩ := kept5 hN.out hb
  replace hB := hide (Below.up hB.out hb)
  have hN2 := hide ((hb.block w.heap.size (by simp)).trans hN.out)
  clear hb k0 k1 k2 k4
  by_cases c2 : r - x.fStroke.size - P1 - P2 < 0
  · have hm := hide (szv_neg (x := r - x.wt) (by have := hwt.out; omega))
    have hm2 := szv_neg c2
    go_wp2_with (first | (go_at_call 13; refine (hH.out _ _ hB.out (by omega) (by omega)).mono ?_; rw [hm2]; rintro e w3 ⟨rfl, hb⟩; replace hB := hide (Below.up hB.out hb); clear hb) | fail)
    go_ret
    exact ⟨by rw [hm.out]; rfl, hB.out⟩
  have hm2 := szv_pos (x := r - x.fStroke.size - P1 - P2) (by omega)
  go_wp2_with fail
  clear k3
  refine (hH.out _ _ hB.out (by omega) (by omega)).mono ?_
  rw [hm2]
  rintro e w3 ⟨rfl, hb⟩
  obtain ⟨k0, k1, k2, k3, k4⟩ := kept5 hN2.out hb
  replace hB := hide (Below.up hB.out hb)
  clear hb k0 k1 k2 k3
  by_cases c3 : r - x.fStroke.size - P1 - P2 - x.fLog.size < 0
  · have hm := hide (szv_neg (x := r - x.wt) (by have := hwt.out; omega))
    go_wp2
    go_ret
    exact ⟨by rw [hm.out]; rfl, hB.out⟩
  · have hm := hide (szv_pos (x := r - x.wt) (by have := hwt.out; omega))
    have he := hide (show r - x.fStroke.size - P1 - P2 - x.fLog.size = r - x.wt by have := hwt.out; omega)
    go_wp2
    go_ret
    exact ⟨by rw [hm.out, ← he.out]; rfl, hB.out⟩
end Go.Proofs.YtceajnoppdfeaaaGreatDoor
