/- The walks of the exact laws of ValidDesk and DeskText. No statement is proved here. -/
import Derived.Test.YtceajnoppdfeaaaGreatDoorVdT
import Derived.Test.YtceajnoppdfeaaaGreatDoorDeskS
import Derived.Test.YtceajnoppdfeaaaGreatDoorDeskZ
import Derived.Deep.RegionHeld3
namespace Go.Proofs.YtceajnoppdfeaaaGreatDoor
open Go.ChangeShapes Go.WideShapes Go.ChangeAt Go.RowKit Go.Deep
set_option maxRecDepth 100000
theorem DeskV.good_of {x : DeskV} {w : World} (hx : x.fits w) (h : x.wt ≤ 1048576) : x.good w w.heap.size := by
  have T1 := Kind.pre_nonneg x.kinds
  have T2 := Heap.pre_nonneg x.heaps
  have l1 := hx.kinds.len
  have l2 := hx.heaps.len
  unfold DeskV.wt Kind.tot Heap.tot at h
  exact ⟨hx.kinds, hx.heaps, by omega, by omega, hx.fit⟩
theorem DeskV.wt0 (x : DeskV) : 0 ≤ x.wt := by
  have := kind_tot0 x.kinds; have := heap_tot0 x.heaps; unfold DeskV.wt; omega
theorem DeskV.fits.go {x : DeskV} {w w' : World} (h : x.fits w) (hb : Below w.heap.size w w') : x.fits w' := ⟨h.kinds.go hb, h.heaps.go hb, h.nk, h.nh, h.kfit, h.fit, h.s0, h.s4⟩
set_option maxHeartbeats 2000000 in
theorem walkValidDesk (w : World) (hG : Gl w) (x : DeskV) (hx : x.fits w) :
    Calls Tryz.prog 3 #[.agg #[.string x.fStroke, .int .i64 x.fStakes, .slice x.A x.n x.c, .slice x.A' x.n' x.c', .string x.fLog]] w fun e w' => e = .returned (.bool true) ∧ Below w.heap.size w w' := by
  have hGh := hide hG
  clear hG
  have hFx := hide hx
  have hs0 := hx.s0
  have tx := x.wt0
  clear hx
  obtain ⟨W0, hW0⟩ : ∃ W0, W0 = w.alloc (.cells #[.string x.fStroke, .int .i64 x.fStakes, .slice x.A x.n x.c, .slice x.A' x.n' x.c', .string x.fLog] 25) := ⟨_, rfl⟩
  have N0 : Hid (W0.heap[w.heap.size]? = some (.cells #[.string x.fStroke, .int .i64 x.fStakes, .slice x.A x.n x.c, .slice x.A' x.n' x.c', .string x.fLog] 25 (0, 0))) := hide (by rw [hW0]; exact heap_alloc_new w _)
  have hB : Hid (Below w.heap.size w W0) := hide (by rw [hW0]; exact (Below.refl _ _).alloc (Nat.le_refl _) _)
  have hE := hide hW0
  clear hW0
  by_cases c0 : 1048576 - x.wt < 0
  · skip
    have hm := szv_neg c0
    go_enter Tryz.func3, Tryz.ntmps3
    go_wp2_with fail
    rw [← hE.out]
    clear hE
    refine (szDesk_any x 1048576 _ (hFx.out.go hB.out) (by omega) (by omega)).mono ?_
    rw [hm]
    rintro e w1 ⟨rfl, hb⟩
    replace hB := hide (Below.up hB.out hb)
    clear hb
    go_wp2
    go_ret
    exact ⟨rfl, hB.out⟩
  have hm := szv_pos (x := 1048576 - x.wt) (by omega)
  go_enter Tryz.func3, Tryz.ntmps3
  go_wp2_with fail
  rw [← hE.out]
  clear hE
  refine (szDesk_any x 1048576 _ (hFx.out.go hB.out) (by omega) (by omega)).mono ?_
  rw [hm]
  rintro e w1 ⟨rfl, hb⟩
  replace N0 := hide (keepr N0.out hb)
  replace hB := hide (Below.up hB.out hb)
  clear hb
  have hXg := hide ((DeskV.good_of hFx.out (by omega)).go hB.out)
  clear hFx hm
  obtain ⟨a0, a1, a2, a3, a4, af⟩ := row5 N0.out
  go_wp2_with fail
  clear a0 a1 a2 a3 a4 af
  refine (toDesk_any x _ hXg.out).mono ?_
  rintro e w2 ⟨g, g', rfl, hg1, hb⟩
  replace N0 := hide (keepr N0.out hb)
  replace hXg := hide (hXg.out.go hb)
  replace hB := hide (Below.up hB.out hb)
  clear hb
  have hG1 := hide hg1
  clear hg1
  go_wp2_with fail
  refine (sValid_any _ _ hG1.out hs0).mono ?_
  rintro e w3 ⟨he, hb⟩
  have he' : e = .returned (.bool (deskOk x)) := he
  subst he'
  clear he
  replace N0 := hide (keepr N0.out hb)
  replace hXg := hide (hXg.out.go hb)
  replace hG1 := hide (hG1.out.go hb)
  replace hB := hide (Below.up hB.out hb)
  clear hb
  clear hG1
  obtain ⟨a0, a1, a2, a3, a4, af⟩ := row5 N0.out
  go_wp2_with fail
  clear a0 a1 a2 a3 a4 af
  refine (toDesk_any x _ hXg.out).mono ?_
  rintro e w4 ⟨k, k', rfl, hg1, hb⟩
  replace N0 := hide (keepr N0.out hb)
  replace hXg := hide (hXg.out.go hb)
  replace hB := hide (Below.up hB.out hb)
  clear hb
  have hG1 := hide hg1
  clear hg1
  go_upto_region 7 with fail
  obtain ⟨m0, hm0⟩ : ∃ m0, m0 = w4.heap.size := ⟨_, rfl⟩
  rw [← hm0]
  refine nameW' (φ := fun W => W.heap[m0]? = some (.cells #[.string x.fStroke, .int .i64 x.fStakes, .slice (some ⟨k, 0, none⟩) x.n x.n, .slice (some ⟨k', 0, none⟩) x.n' x.n', .string x.fLog] 31 (0, 0)) ∧ W.heap[w.heap.size]? = some (.cells #[.string x.fStroke, .int .i64 x.fStakes, .slice x.A x.n x.c, .slice x.A' x.n' x.c', .string x.fLog] 25 (0, 0)) ∧ DeskV.good x W W.heap.size ∧ DeskV.good ⟨x.fStroke, x.fStakes, some ⟨k, 0, none⟩, x.n, x.n, x.kinds, some ⟨k', 0, none⟩, x.n', x.n', x.heaps, x.fLog⟩ W W.heap.size ∧ Below w.heap.size w W) ⟨by rw [hm0]; exact heap_alloc_new w4 _, keepr N0.out ((Below.refl _ _).alloc (Nat.le_refl _) _), hXg.out.go ((Below.refl _ _).alloc (Nat.le_refl _) _), hG1.out.go ((Below.refl _ _).alloc (Nat.le_refl _) _), hB.out.alloc hB.out.size _⟩ ?_
  rintro W5 ⟨n0, n1, n2, n3, n4⟩
  have M0 := hide n0
  replace N0 := hide n1
  replace hXg := hide n2
  replace hG1 := hide n3
  replace hB := hide n4
  clear n0 n1 n2 n3 n4 hm0
  obtain ⟨b0, b1, b2, b3, b4, bf⟩ := row5 M0.out
  go_wp2_with fail
  refine (iValid_any _ _ (hGh.out.below hB.out) hG1.out hs0).mono ?_
  rintro e w6 ⟨he, hb⟩
  have he' : e = .returned (.bool (deskOk x)) := he
  subst he'
  clear he
  replace N0 := hide (keepr N0.out hb)
  replace M0 := hide (keepr M0.out hb)
  replace hXg := hide (hXg.out.go hb)
  replace hG1 := hide (hG1.out.go hb)
  replace hB := hide (Below.up hB.out hb)
  clear hb
  clear b0 b1 b2 b3 b4 bf
  obtain ⟨T, hT⟩ : ∃ T, T = deskOk x := ⟨_, rfl⟩
  rw [← hT]
  have nT : (T != T) = false := by simp
  clear hT
  go_upto_region 10 with fail
  have hb : Below w6.heap.size w6 w6.drew := below_drewN (Below.refl _ _) 1
  replace N0 := hide (keepr N0.out hb)
  replace M0 := hide (keepr M0.out hb)
  replace hXg := hide (hXg.out.go hb)
  replace hG1 := hide (hG1.out.go hb)
  replace hB := hide (Below.up hB.out hb)
  clear hb
  have hP : Hid True := hide trivial
  obtain ⟨a0, a1, a2, a3, a4, af⟩ := row5 N0.out
  obtain ⟨b0, b1, b2, b3, b4, bf⟩ := row5 M0.out
  clear af bf
  go_region_held3 (fun w' => w'.cell? ⟨w.heap.size, 0, none⟩ = some (.string x.fStroke) ∧ w'.cell? ⟨w.heap.size, 1, none⟩ = some (.int .i64 x.fStakes) ∧ w'.cell? ⟨w.heap.size, 2, none⟩ = some (.slice x.A x.n x.c) ∧ w'.cell? ⟨w.heap.size, 3, none⟩ = some (.slice x.A' x.n' x.c') ∧ w'.cell? ⟨w.heap.size, 4, none⟩ = some (.string x.fLog) ∧ w'.cell? ⟨m0, 0, none⟩ = some (.string x.fStroke) ∧ w'.cell? ⟨m0, 1, none⟩ = some (.int .i64 x.fStakes) ∧ w'.cell? ⟨m0, 2, none⟩ = some (.slice (some ⟨k, 0, none⟩) x.n x.n) ∧ w'.cell? ⟨m0, 3, none⟩ = some (.slice (some ⟨k', 0, none⟩) x.n' x.n') ∧ w'.cell? ⟨m0, 4, none⟩ = some (.string x.fLog)) (first | go_keep | (obtain ⟨q0, q1, q2, q3, q4, _⟩ := row5 N0.out; obtain ⟨p0, p1, p2, p3, p4, _⟩ := row5 M0.out; exact ⟨q0, q1, q2, q3, q4, p0, p1, p2, p3, p4⟩))
    (first | (go_at_call 7; refine (toDesk_any _ _ hXg.out).mono ?_; rintro e w7 ⟨g9, g9', rfl, hg9, hb⟩; replace N0 := hide (keepr N0.out hb); replace M0 := hide (keepr M0.out hb); replace hXg := hide (hXg.out.go hb); replace hG1 := hide (hG1.out.go hb); replace hB := hide (Below.up hB.out hb); replace hP := hide hg9; clear hb hg9) | (go_at_call 9; refine (eqDesk_any _ _ _ hG1.out hP.out (fun _ _ => trivial) (fun _ _ => trivial)).mono ?_; rintro e w7 ⟨he, hb⟩; have he' : e = .returned (.bool true) := he.trans (by simp [DeskV.same]); subst he'; clear he; replace N0 := hide (keepr N0.out hb); replace M0 := hide (keepr M0.out hb); replace hXg := hide (hXg.out.go hb); replace hG1 := hide (hG1.out.go hb); replace hB := hide (Below.up hB.out hb); clear hb) | fail)
  clear hP a0 a1 a2 a3 a4 b0 b1 b2 b3 b4
  go_wp2_with fail
  go_ret
  exact ⟨rfl, hB.out⟩
set_option maxHeartbeats 2000000 in
theorem walkDeskText (w : World) (hG : Gl w) (x : DeskV) (hx : x.fits w) :
    Calls Tryz.prog 4 #[.agg #[.string x.fStroke, .int .i64 x.fStakes, .slice x.A x.n x.c, .slice x.A' x.n' x.c', .string x.fLog]] w fun e w' => e = .returned (.bool true) ∧ Below w.heap.size w w' := by
  have hGh := hide hG
  clear hG
  have hFx := hide hx
  have hs0 := hx.s0
  have tx := x.wt0
  clear hx
  obtain ⟨W0, hW0⟩ : ∃ W0, W0 = w.alloc (.cells #[.string x.fStroke, .int .i64 x.fStakes, .slice x.A x.n x.c, .slice x.A' x.n' x.c', .string x.fLog] 25) := ⟨_, rfl⟩
  have N0 : Hid (W0.heap[w.heap.size]? = some (.cells #[.string x.fStroke, .int .i64 x.fStakes, .slice x.A x.n x.c, .slice x.A' x.n' x.c', .string x.fLog] 25 (0, 0))) := hide (by rw [hW0]; exact heap_alloc_new w _)
  have hB : Hid (Below w.heap.size w W0) := hide (by rw [hW0]; exact (Below.refl _ _).alloc (Nat.le_refl _) _)
  have hE := hide hW0
  clear hW0
  by_cases c0 : 1048576 - x.wt < 0
  · skip
    have hm := szv_neg c0
    go_enter Tryz.func4, Tryz.ntmps4
    go_wp2_with fail
    rw [← hE.out]
    clear hE
    refine (szDesk_any x 1048576 _ (hFx.out.go hB.out) (by omega) (by omega)).mono ?_
    rw [hm]
    rintro e w1 ⟨rfl, hb⟩
    replace hB := hide (Below.up hB.out hb)
    clear hb
    go_wp2
    go_ret
    exact ⟨rfl, hB.out⟩
  have hm := szv_pos (x := 1048576 - x.wt) (by omega)
  go_enter Tryz.func4, Tryz.ntmps4
  go_wp2_with fail
  rw [← hE.out]
  clear hE
  refine (szDesk_any x 1048576 _ (hFx.out.go hB.out) (by omega) (by omega)).mono ?_
  rw [hm]
  rintro e w1 ⟨rfl, hb⟩
  replace N0 := hide (keepr N0.out hb)
  replace hB := hide (Below.up hB.out hb)
  clear hb
  have hXg := hide ((DeskV.good_of hFx.out (by omega)).go hB.out)
  clear hFx hm
  obtain ⟨a0, a1, a2, a3, a4, af⟩ := row5 N0.out
  go_wp2_with fail
  clear a0 a1 a2 a3 a4 af
  refine (toDesk_any x _ hXg.out).mono ?_
  rintro e w2 ⟨g, g', rfl, hg1, hb⟩
  replace N0 := hide (keepr N0.out hb)
  replace hXg := hide (hXg.out.go hb)
  replace hB := hide (Below.up hB.out hb)
  clear hb
  have hG1 := hide hg1
  clear hg1
  go_wp2_with fail
  refine (sDeskT_any _ _ hG1.out hs0).mono ?_
  rintro e w3 ⟨he, hb⟩
  have he' : e = .returned (.string (mDeskT x)) := he
  subst he'
  clear he
  replace N0 := hide (keepr N0.out hb)
  replace hXg := hide (hXg.out.go hb)
  replace hG1 := hide (hG1.out.go hb)
  replace hB := hide (Below.up hB.out hb)
  clear hb
  clear hG1
  obtain ⟨a0, a1, a2, a3, a4, af⟩ := row5 N0.out
  go_wp2_with fail
  clear a0 a1 a2 a3 a4 af
  refine (toDesk_any x _ hXg.out).mono ?_
  rintro e w4 ⟨k, k', rfl, hg1, hb⟩
  replace N0 := hide (keepr N0.out hb)
  replace hXg := hide (hXg.out.go hb)
  replace hB := hide (Below.up hB.out hb)
  clear hb
  have hG1 := hide hg1
  clear hg1
  go_upto_region 7 with fail
  obtain ⟨m0, hm0⟩ : ∃ m0, m0 = w4.heap.size := ⟨_, rfl⟩
  rw [← hm0]
  refine nameW' (φ := fun W => W.heap[m0]? = some (.cells #[.string x.fStroke, .int .i64 x.fStakes, .slice (some ⟨k, 0, none⟩) x.n x.n, .slice (some ⟨k', 0, none⟩) x.n' x.n', .string x.fLog] 31 (0, 0)) ∧ W.heap[w.heap.size]? = some (.cells #[.string x.fStroke, .int .i64 x.fStakes, .slice x.A x.n x.c, .slice x.A' x.n' x.c', .string x.fLog] 25 (0, 0)) ∧ DeskV.good x W W.heap.size ∧ DeskV.good ⟨x.fStroke, x.fStakes, some ⟨k, 0, none⟩, x.n, x.n, x.kinds, some ⟨k', 0, none⟩, x.n', x.n', x.heaps, x.fLog⟩ W W.heap.size ∧ Below w.heap.size w W) ⟨by rw [hm0]; exact heap_alloc_new w4 _, keepr N0.out ((Below.refl _ _).alloc (Nat.le_refl _) _), hXg.out.go ((Below.refl _ _).alloc (Nat.le_refl _) _), hG1.out.go ((Below.refl _ _).alloc (Nat.le_refl _) _), hB.out.alloc hB.out.size _⟩ ?_
  rintro W5 ⟨n0, n1, n2, n3, n4⟩
  have M0 := hide n0
  replace N0 := hide n1
  replace hXg := hide n2
  replace hG1 := hide n3
  replace hB := hide n4
  clear n0 n1 n2 n3 n4 hm0
  obtain ⟨b0, b1, b2, b3, b4, bf⟩ := row5 M0.out
  go_wp2_with fail
  refine (iDeskT_any _ _ (hGh.out.below hB.out) hG1.out hs0).mono ?_
  rintro e w6 ⟨he, hb⟩
  have he' : e = .returned (.string (mDeskT x)) := he
  subst he'
  clear he
  replace N0 := hide (keepr N0.out hb)
  replace M0 := hide (keepr M0.out hb)
  replace hXg := hide (hXg.out.go hb)
  replace hG1 := hide (hG1.out.go hb)
  replace hB := hide (Below.up hB.out hb)
  clear hb
  clear b0 b1 b2 b3 b4 bf
  obtain ⟨T, hT⟩ : ∃ T, T = mDeskT x := ⟨_, rfl⟩
  rw [← hT]
  have nT := str_eq (rfl : T = T)
  clear hT
  go_upto_region 10 with fail
  have hb : Below w6.heap.size w6 w6.drew := below_drewN (Below.refl _ _) 1
  replace N0 := hide (keepr N0.out hb)
  replace M0 := hide (keepr M0.out hb)
  replace hXg := hide (hXg.out.go hb)
  replace hG1 := hide (hG1.out.go hb)
  replace hB := hide (Below.up hB.out hb)
  clear hb
  have hP : Hid True := hide trivial
  obtain ⟨a0, a1, a2, a3, a4, af⟩ := row5 N0.out
  obtain ⟨b0, b1, b2, b3, b4, bf⟩ := row5 M0.out
  clear af bf
  go_region_held3 (fun w' => w'.cell? ⟨w.heap.size, 0, none⟩ = some (.string x.fStroke) ∧ w'.cell? ⟨w.heap.size, 1, none⟩ = some (.int .i64 x.fStakes) ∧ w'.cell? ⟨w.heap.size, 2, none⟩ = some (.slice x.A x.n x.c) ∧ w'.cell? ⟨w.heap.size, 3, none⟩ = some (.slice x.A' x.n' x.c') ∧ w'.cell? ⟨w.heap.size, 4, none⟩ = some (.string x.fLog) ∧ w'.cell? ⟨m0, 0, none⟩ = some (.string x.fStroke) ∧ w'.cell? ⟨m0, 1, none⟩ = some (.int .i64 x.fStakes) ∧ w'.cell? ⟨m0, 2, none⟩ = some (.slice (some ⟨k, 0, none⟩) x.n x.n) ∧ w'.cell? ⟨m0, 3, none⟩ = some (.slice (some ⟨k', 0, none⟩) x.n' x.n') ∧ w'.cell? ⟨m0, 4, none⟩ = some (.string x.fLog)) (first | go_keep | (obtain ⟨q0, q1, q2, q3, q4, _⟩ := row5 N0.out; obtain ⟨p0, p1, p2, p3, p4, _⟩ := row5 M0.out; exact ⟨q0, q1, q2, q3, q4, p0, p1, p2, p3, p4⟩))
    (first | (go_at_call 7; refine (toDesk_any _ _ hXg.out).mono ?_; rintro e w7 ⟨g9, g9', rfl, hg9, hb⟩; replace N0 := hide (keepr N0.out hb); replace M0 := hide (keepr M0.out hb); replace hXg := hide (hXg.out.go hb); replace hG1 := hide (hG1.out.go hb); replace hB := hide (Below.up hB.out hb); replace hP := hide hg9; clear hb hg9) | (go_at_call 9; refine (eqDesk_any _ _ _ hG1.out hP.out (fun _ _ => trivial) (fun _ _ => trivial)).mono ?_; rintro e w7 ⟨he, hb⟩; have he' : e = .returned (.bool true) := he.trans (by simp [DeskV.same]); subst he'; clear he; replace N0 := hide (keepr N0.out hb); replace M0 := hide (keepr M0.out hb); replace hXg := hide (hXg.out.go hb); replace hG1 := hide (hG1.out.go hb); replace hB := hide (Below.up hB.out hb); clear hb) | fail)
  clear hP a0 a1 a2 a3 a4 b0 b1 b2 b3 b4
  go_wp2_with fail
  go_ret
  exact ⟨rfl, hB.out⟩
end Go.Proofs.YtceajnoppdfeaaaGreatDoor
