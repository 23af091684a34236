/- The walk of the exact law of SameDesk. -/
import Derived.Test.YtgdmjmleljlbbaaDeskY
import Derived.Deep.RegionWith
namespace Go.Proofs.Ytgdmjmleljlbbaa
open Go.ChangeShapes Go.WideShapes Go.ChangeAt Go.RowKit Go.Deep
set_option maxRecDepth 100000
theorem DeskV.good_of {x : DeskV} {w : World} (hx : x.fits w) (h : x.wt ≤ 1048576) : x.good w w.heap.size := by
  have T1 := Kind.pre_nonneg x.kinds
  have T2 := Heap.pre_nonneg x.heaps
  have l1 := hx.kinds.len
  have l2 := hx.heaps.len
  unfold DeskV.wt Kind.tot Heap.tot at h
  exact ⟨hx.kinds, hx.heaps, by omega, by omega, hx.fit⟩
theorem DeskV.wt0 (x : DeskV) : 0 ≤ x.wt := by
  have := kind_tot0 x.kinds; have := heap_tot0 x.heaps; unfold DeskV.wt; omega
theorem DeskV.fits.go {x : DeskV} {w w' : World} (h : x.fits w) (hb : Below w.heap.size w w') : x.fits w' := ⟨h.kinds.go hb, h.heaps.go hb, h.nk, h.nh, h.kfit, h.fit, h.s0, h.s4⟩
theorem two_rows (w : World) (a b : Array Value) (s t : TypeId) :
    ((w.alloc (.cells a s)).alloc (.cells b t)).heap[w.heap.size]? = some (.cells a s (0, 0)) ∧
    ((w.alloc (.cells a s)).alloc (.cells b t)).heap[w.heap.size + 1]? = some (.cells b t (0, 0)) ∧
    Below w.heap.size w ((w.alloc (.cells a s)).alloc (.cells b t)) := by
  refine ⟨?_, ?_, ((Below.refl _ _).alloc (Nat.le_refl _) _).alloc (by simp) _⟩
  · exact (Below.heap_alloc _ _ _ (by simp)).trans (heap_alloc_new w _)
  · have h := heap_alloc_new (w.alloc (.cells a s)) (.cells b t)
    simp only [World.size_alloc] at h
    exact h
set_option maxHeartbeats 1000000 in
theorem walkSameDesk (w : World) (x : DeskV) (hx : x.fits w) (y : DeskV) (hy : y.fits w) :
    Calls Try.prog 3 #[.agg #[.string x.fStroke, .int .i64 x.fStakes, .slice x.A x.n x.c, .slice x.A' x.n' x.c', .string x.fLog], .agg #[.string y.fStroke, .int .i64 y.fStakes, .slice y.A y.n y.c, .slice y.A' y.n' y.c', .string y.fLog]] w fun e w' => e = .returned (.bool true) ∧ Below w.heap.size w w' := by
  have hX := hide hx
  have hY := hide hy
  have tx := x.wt0
  have ty := y.wt0
  clear hx hy
  have h3 := two_rows w #[.string x.fStroke, .int .i64 x.fStakes, .slice x.A x.n x.c, .slice x.A' x.n' x.c', .string x.fLog] #[.string y.fStroke, .int .i64 y.fStakes, .slice y.A y.n y.c, .slice y.A' y.n' y.c', .string y.fLog] 25 25
  obtain ⟨W0, hW0⟩ : ∃ W0, W0 = ((w.alloc (.cells #[.string x.fStroke, .int .i64 x.fStakes, .slice x.A x.n x.c, .slice x.A' x.n' x.c', .string x.fLog] 25)).alloc (.cells #[.string y.fStroke, .int .i64 y.fStakes, .slice y.A y.n y.c, .slice y.A' y.n' y.c', .string y.fLog] 25)) := ⟨_, rfl⟩
  rw [← hW0] at h3
  obtain ⟨n0, n1, hB0⟩ := h3
  have N0 := hide n0
  have N1 := hide n1
  have hB := hide hB0
  have hE := hide hW0
  clear n0 n1 hB0 hW0
  by_cases c0 : 1048576 - x.wt < 0
  · have hm := szv_neg c0
    go_enter Try.func3, Try.ntmps3
    go_wp2_with fail
    rw [← hE.out]
    clear hE
    refine (szDesk_any x 1048576 _ (hX.out.go hB.out) (by omega) (by omega)).mono ?_
    rw [hm]
    rintro e w1 ⟨rfl, hb⟩
    replace hB := hide (Below.up hB.out hb)
    clear hb
    go_wp2
    go_ret
    exact ⟨rfl, hB.out⟩
  have hm := szv_pos (x := 1048576 - x.wt) (by omega)
  go_enter Try.func3, Try.ntmps3
  go_wp2_with fail
  rw [← hE.out]
  clear hE
  refine (szDesk_any x 1048576 _ (hX.out.go hB.out) (by omega) (by omega)).mono ?_
  rw [hm]
  rintro e w1 ⟨rfl, hb⟩
  replace hB := hide (Below.up hB.out hb)
  replace N0 := hide (keepr N0.out hb)
  replace N1 := hide (keepr N1.out hb)
  clear hb
  obtain ⟨a0, a1, a2, a3, a4, af⟩ := row5 N0.out
  obtain ⟨b0, b1, b2, b3, b4, bf⟩ := row5 N1.out
  go_wp2_with fail
  clear a0 a1 a2 a3 a4 af b0 b1 b2 b3 b4 bf
  by_cases c1 : 1048576 - x.wt - y.wt < 0
  · have hm1 := szv_neg c1
    refine (szDesk_any y (1048576 - x.wt) _ (hY.out.go hB.out) (by omega) (by omega)).mono ?_
    rw [hm1]
    rintro e w1 ⟨rfl, hb⟩
    replace hB := hide (Below.up hB.out hb)
    clear hb
    go_wp2
    go_ret
    exact ⟨rfl, hB.out⟩
  have hm1 := szv_pos (x := 1048576 - x.wt - y.wt) (by omega)
  refine (szDesk_any y (1048576 - x.wt) _ (hY.out.go hB.out) (by omega) (by omega)).mono ?_
  rw [hm1]
  rintro e w2 ⟨rfl, hb⟩
  replace hB := hide (Below.up hB.out hb)
  replace N0 := hide (keepr N0.out hb)
  replace N1 := hide (keepr N1.out hb)
  clear hb
  have hXg := hide ((DeskV.good_of hX.out (by omega)).go hB.out)
  have hYg := hide ((DeskV.good_of hY.out (by omega)).go hB.out)
  clear hX hY hm hm1
  go_wp2_with fail
  have hd : Below w2.heap.size w2 w2.drew := below_drewN (Below.refl _ _) 1
  replace hB := hide (Below.up hB.out hd)
  replace N0 := hide (keepr N0.out hd)
  replace N1 := hide (keepr N1.out hd)
  replace hXg := hide (hXg.out.go hd)
  replace hYg := hide (hYg.out.go hd)
  clear hd
  have hP : Hid True := hide trivial
  have hQ : Hid True := hide trivial
  obtain ⟨a0, a1, a2, a3, a4, af⟩ := row5 N0.out
  obtain ⟨b0, b1, b2, b3, b4, bf⟩ := row5 N1.out
  clear af bf
  go_region_held3 (fun w' => w'.cell? ⟨w.heap.size, 0, none⟩ = some (.string x.fStroke) ∧ w'.cell? ⟨w.heap.size, 1, none⟩ = some (.int .i64 x.fStakes) ∧ w'.cell? ⟨w.heap.size, 2, none⟩ = some (.slice x.A x.n x.c) ∧ w'.cell? ⟨w.heap.size, 3, none⟩ = some (.slice x.A' x.n' x.c') ∧ w'.cell? ⟨w.heap.size, 4, none⟩ = some (.string x.fLog) ∧ w'.cell? ⟨w.heap.size + 1, 0, none⟩ = some (.string y.fStroke) ∧ w'.cell? ⟨w.heap.size + 1, 1, none⟩ = some (.int .i64 y.fStakes) ∧ w'.cell? ⟨w.heap.size + 1, 2, none⟩ = some (.slice y.A y.n y.c) ∧ w'.cell? ⟨w.heap.size + 1, 3, none⟩ = some (.slice y.A' y.n' y.c') ∧ w'.cell? ⟨w.heap.size + 1, 4, none⟩ = some (.string y.fLog)) (first | go_keep | (obtain ⟨q0, q1, q2, q3, q4, _⟩ := row5 N0.out; obtain ⟨p0, p1, p2, p3, p4, _⟩ := row5 N1.out; exact ⟨q0, q1, q2, q3, q4, p0, p1, p2, p3, p4⟩))
    (first | (go_at_call 6; refine (toDesk_any _ _ (by first | exact hXg.out | exact hYg.out)).mono ?_; rintro e w3 ⟨g, g', rfl, hg1, hb⟩; (first | (replace hP := hide (DeskV.good.go hP.out hb); have hQ := hide hg1) | (replace hP := hide hg1)); replace hB := hide (Below.up hB.out hb); replace N0 := hide (keepr N0.out hb); replace N1 := hide (keepr N1.out hb); replace hXg := hide (hXg.out.go hb); replace hYg := hide (hYg.out.go hb); clear hb hg1) | (go_at_call 5; refine (sSameDesk_any _ _ _ hP.out hQ.out (fun _ _ => trivial) (fun _ _ => trivial)).mono ?_; rintro e w3 ⟨he, hb⟩; have he' : e = .returned (.bool (x.same y)) := he; subst he'; clear he; replace hB := hide (Below.up hB.out hb); replace N0 := hide (keepr N0.out hb); replace N1 := hide (keepr N1.out hb); replace hXg := hide (hXg.out.go hb); replace hYg := hide (hYg.out.go hb); clear hb) | fail)
  clear hP hQ a0 a1 a2 a3 a4 b0 b1 b2 b3 b4
  obtain ⟨a0, a1, a2, a3, a4, af⟩ := row5 N0.out
  obtain ⟨b0, b1, b2, b3, b4, bf⟩ := row5 N1.out
  go_wp2_with fail
  clear a0 a1 a2 a3 a4 af b0 b1 b2 b3 b4 bf
  refine (toDesk_any x _ hXg.out).mono ?_
  rintro e w4 ⟨g, g', rfl, hg1, hb⟩
  replace hB := hide (Below.up hB.out hb)
  replace N0 := hide (keepr N0.out hb)
  replace N1 := hide (keepr N1.out hb)
  replace hXg := hide (hXg.out.go hb)
  replace hYg := hide (hYg.out.go hb)
  have hG1 := hide hg1
  clear hb hg1
  have hbz : Below w4.heap.size w4 (w4.alloc (.cells #[.string x.fStroke, .int .i64 x.fStakes, .slice (some ⟨g, 0, none⟩) x.n x.n, .slice (some ⟨g', 0, none⟩) x.n' x.n', .string x.fLog] 31)) := (Below.refl _ _).alloc (Nat.le_refl _) _
  have N0' := hide (keepr N0.out hbz)
  have N1' := hide (keepr N1.out hbz)
  obtain ⟨a0, a1, a2, a3, a4, af⟩ := row5 N0.out
  obtain ⟨b0, b1, b2, b3, b4, bf⟩ := row5 N1'.out
  go_wp2_with fail
  clear a0 a1 a2 a3 a4 af b0 b1 b2 b3 b4 bf N0' N1' hbz
  have M0 := hide (heap_alloc_new w4 (.cells #[.string x.fStroke, .int .i64 x.fStakes, .slice (some ⟨g, 0, none⟩) x.n x.n, .slice (some ⟨g', 0, none⟩) x.n' x.n', .string x.fLog] 31))
  have hb : Below w4.heap.size w4 (w4.alloc (.cells #[.string x.fStroke, .int .i64 x.fStakes, .slice (some ⟨g, 0, none⟩) x.n x.n, .slice (some ⟨g', 0, none⟩) x.n' x.n', .string x.fLog] 31)) := (Below.refl _ _).alloc (Nat.le_refl _) _
  obtain ⟨W5, hW5⟩ : ∃ W5, W5 = w4.alloc (.cells #[.string x.fStroke, .int .i64 x.fStakes, .slice (some ⟨g, 0, none⟩) x.n x.n, .slice (some ⟨g', 0, none⟩) x.n' x.n', .string x.fLog] 31) := ⟨_, rfl⟩
  rw [← hW5] at M0 hb ⊢
  clear hW5
  replace hB := hide (Below.up hB.out hb)
  replace N0 := hide (keepr N0.out hb)
  replace N1 := hide (keepr N1.out hb)
  replace hXg := hide (hXg.out.go hb)
  replace hYg := hide (hYg.out.go hb)
  replace hG1 := hide (hG1.out.go hb)
  clear hb
  obtain ⟨m0, hm0⟩ : ∃ m0, m0 = w4.heap.size := ⟨_, rfl⟩
  rw [← hm0] at M0 ⊢
  clear hm0
  refine (toDesk_any y _ hYg.out).mono ?_
  rintro e w6 ⟨k, k', rfl, hg1, hb⟩
  replace hB := hide (Below.up hB.out hb)
  replace N0 := hide (keepr N0.out hb)
  replace N1 := hide (keepr N1.out hb)
  replace hXg := hide (hXg.out.go hb)
  replace hYg := hide (hYg.out.go hb)
  replace hG1 := hide (hG1.out.go hb)
  replace M0 := hide (keepr M0.out hb)
  have hG2 := hide hg1
  clear hb hg1
  obtain ⟨u0, u1, u2, u3, u4, uf⟩ := row5 M0.out
  obtain ⟨a0, a1, a2, a3, a4, af⟩ := row5 N0.out
  obtain ⟨b0, b1, b2, b3, b4, bf⟩ := row5 N1.out
  have M1 := hide (heap_alloc_new w6 (.cells #[.string y.fStroke, .int .i64 y.fStakes, .slice (some ⟨k, 0, none⟩) y.n y.n, .slice (some ⟨k', 0, none⟩) y.n' y.n', .string y.fLog] 31))
  have hbz : Below w6.heap.size w6 (w6.alloc (.cells #[.string y.fStroke, .int .i64 y.fStakes, .slice (some ⟨k, 0, none⟩) y.n y.n, .slice (some ⟨k', 0, none⟩) y.n' y.n', .string y.fLog] 31)) := (Below.refl _ _).alloc (Nat.le_refl _) _
  have M0' := hide (keepr M0.out hbz)
  obtain ⟨r0, r1, r2, r3, r4, rf⟩ := row5 M0'.out
  obtain ⟨s0, s1, s2, s3, s4, sf⟩ := row5 M1.out
  clear u0 u1 u2 u3 u4 uf M0
  go_wp2_with fail
  clear a0 a1 a2 a3 a4 af b0 b1 b2 b3 b4 bf r0 r1 r2 r3 r4 rf s0 s1 s2 s3 s4 sf
  obtain ⟨W7, hW7⟩ : ∃ W7, W7 = w6.alloc (.cells #[.string y.fStroke, .int .i64 y.fStakes, .slice (some ⟨k, 0, none⟩) y.n y.n, .slice (some ⟨k', 0, none⟩) y.n' y.n', .string y.fLog] 31) := ⟨_, rfl⟩
  rw [← hW7] at hbz M1 M0' ⊢
  clear hW7
  have hb := hbz
  clear hbz
  replace N0 := hide (keepr N0.out hb)
  replace N1 := hide (keepr N1.out hb)
  replace hXg := hide (hXg.out.go hb)
  replace hYg := hide (hYg.out.go hb)
  replace hG1 := hide (hG1.out.go hb)
  replace hG2 := hide (hG2.out.go hb)
  replace hB := hide (Below.up hB.out hb)
  clear hb
  obtain ⟨m1, hm1⟩ : ∃ m1, m1 = w6.heap.size := ⟨_, rfl⟩
  rw [← hm1] at M1 ⊢
  clear hm1
  refine (iSameDesk_any _ _ _ hG1.out hG2.out (fun _ _ => trivial) (fun _ _ => trivial)).mono ?_
  rintro e w8 ⟨he, hb⟩
  have he' : e = .returned (.bool (x.same y)) := he
  subst he'
  clear he
  replace N0 := hide (keepr N0.out hb)
  replace N1 := hide (keepr N1.out hb)
  replace M0' := hide (keepr M0'.out hb)
  replace M1 := hide (keepr M1.out hb)
  replace hXg := hide (hXg.out.go hb)
  replace hYg := hide (hYg.out.go hb)
  replace hG1 := hide (hG1.out.go hb)
  replace hG2 := hide (hG2.out.go hb)
  replace hB := hide (Below.up hB.out hb)
  clear hb
  go_wp2_with fail
  have hd : Below w8.heap.size w8 w8.drew := below_drewN (Below.refl _ _) 1
  replace N0 := hide (keepr N0.out hd)
  replace N1 := hide (keepr N1.out hd)
  replace M0' := hide (keepr M0'.out hd)
  replace M1 := hide (keepr M1.out hd)
  replace hXg := hide (hXg.out.go hd)
  replace hYg := hide (hYg.out.go hd)
  replace hG1 := hide (hG1.out.go hd)
  replace hG2 := hide (hG2.out.go hd)
  replace hB := hide (Below.up hB.out hd)
  clear hd
  have hP : Hid True := hide trivial
  obtain ⟨a0, a1, a2, a3, a4, af⟩ := row5 N0.out
  obtain ⟨b0, b1, b2, b3, b4, bf⟩ := row5 M0'.out
  clear af bf
  go_region_held3 (fun w' => w'.cell? ⟨w.heap.size, 0, none⟩ = some (.string x.fStroke) ∧ w'.cell? ⟨w.heap.size, 1, none⟩ = some (.int .i64 x.fStakes) ∧ w'.cell? ⟨w.heap.size, 2, none⟩ = some (.slice x.A x.n x.c) ∧ w'.cell? ⟨w.heap.size, 3, none⟩ = some (.slice x.A' x.n' x.c') ∧ w'.cell? ⟨w.heap.size, 4, none⟩ = some (.string x.fLog) ∧ w'.cell? ⟨m0, 0, none⟩ = some (.string x.fStroke) ∧ w'.cell? ⟨m0, 1, none⟩ = some (.int .i64 x.fStakes) ∧ w'.cell? ⟨m0, 2, none⟩ = some (.slice (some ⟨g, 0, none⟩) x.n x.n) ∧ w'.cell? ⟨m0, 3, none⟩ = some (.slice (some ⟨g', 0, none⟩) x.n' x.n') ∧ w'.cell? ⟨m0, 4, none⟩ = some (.string x.fLog)) (first | go_keep | (obtain ⟨q0, q1, q2, q3, q4, _⟩ := row5 N0.out; obtain ⟨p0, p1, p2, p3, p4, _⟩ := row5 M0'.out; exact ⟨q0, q1, q2, q3, q4, p0, p1, p2, p3, p4⟩))
    (first | (go_at_call 6; refine (toDesk_any _ _ hXg.out).mono ?_; rintro e w3 ⟨g9, g9', rfl, hg9, hb⟩; replace N0 := hide (keepr N0.out hb); replace N1 := hide (keepr N1.out hb); replace M0' := hide (keepr M0'.out hb); replace M1 := hide (keepr M1.out hb); replace hXg := hide (hXg.out.go hb); replace hYg := hide (hYg.out.go hb); replace hG1 := hide (hG1.out.go hb); replace hG2 := hide (hG2.out.go hb); replace hB := hide (Below.up hB.out hb); replace hP := hide hg9; clear hb hg9) | (go_at_call 8; refine (eqDesk_any _ _ _ hG1.out hP.out (fun _ _ => trivial) (fun _ _ => trivial)).mono ?_; rintro e w3 ⟨he, hb⟩; have he' : e = .returned (.bool true) := he.trans (by simp [DeskV.same]); subst he'; clear he; replace N0 := hide (keepr N0.out hb); replace N1 := hide (keepr N1.out hb); replace M0' := hide (keepr M0'.out hb); replace M1 := hide (keepr M1.out hb); replace hXg := hide (hXg.out.go hb); replace hYg := hide (hYg.out.go hb); replace hG1 := hide (hG1.out.go hb); replace hG2 := hide (hG2.out.go hb); replace hB := hide (Below.up hB.out hb); clear hb) | fail)
  clear hP a0 a1 a2 a3 a4 b0 b1 b2 b3 b4
  go_wp2_with fail
  have hdd : ∀ W : World, Below W.heap.size W W.drew := fun W => below_drewN (Below.refl _ _) 1
  replace N0 := hide (keepr N0.out (hdd _))
  replace N1 := hide (keepr N1.out (hdd _))
  replace M0' := hide (keepr M0'.out (hdd _))
  replace M1 := hide (keepr M1.out (hdd _))
  replace hXg := hide (hXg.out.go (hdd _))
  replace hYg := hide (hYg.out.go (hdd _))
  replace hG1 := hide (hG1.out.go (hdd _))
  replace hG2 := hide (hG2.out.go (hdd _))
  replace hB := hide (Below.up hB.out (hdd _))
  clear hdd
  have hP : Hid True := hide trivial
  obtain ⟨a0, a1, a2, a3, a4, af⟩ := row5 N1.out
  obtain ⟨b0, b1, b2, b3, b4, bf⟩ := row5 M1.out
  clear af bf
  go_region_held3 (fun w' => w'.cell? ⟨w.heap.size + 1, 0, none⟩ = some (.string y.fStroke) ∧ w'.cell? ⟨w.heap.size + 1, 1, none⟩ = some (.int .i64 y.fStakes) ∧ w'.cell? ⟨w.heap.size + 1, 2, none⟩ = some (.slice y.A y.n y.c) ∧ w'.cell? ⟨w.heap.size + 1, 3, none⟩ = some (.slice y.A' y.n' y.c') ∧ w'.cell? ⟨w.heap.size + 1, 4, none⟩ = some (.string y.fLog) ∧ w'.cell? ⟨m1, 0, none⟩ = some (.string y.fStroke) ∧ w'.cell? ⟨m1, 1, none⟩ = some (.int .i64 y.fStakes) ∧ w'.cell? ⟨m1, 2, none⟩ = some (.slice (some ⟨k, 0, none⟩) y.n y.n) ∧ w'.cell? ⟨m1, 3, none⟩ = some (.slice (some ⟨k', 0, none⟩) y.n' y.n') ∧ w'.cell? ⟨m1, 4, none⟩ = some (.string y.fLog)) (first | go_keep | (obtain ⟨q0, q1, q2, q3, q4, _⟩ := row5 N1.out; obtain ⟨p0, p1, p2, p3, p4, _⟩ := row5 M1.out; exact ⟨q0, q1, q2, q3, q4, p0, p1, p2, p3, p4⟩))
    (first | (go_at_call 6; refine (toDesk_any _ _ hYg.out).mono ?_; rintro e w3 ⟨g9, g9', rfl, hg9, hb⟩; replace N0 := hide (keepr N0.out hb); replace N1 := hide (keepr N1.out hb); replace M0' := hide (keepr M0'.out hb); replace M1 := hide (keepr M1.out hb); replace hXg := hide (hXg.out.go hb); replace hYg := hide (hYg.out.go hb); replace hG1 := hide (hG1.out.go hb); replace hG2 := hide (hG2.out.go hb); replace hB := hide (Below.up hB.out hb); replace hP := hide hg9; clear hb hg9) | (go_at_call 8; refine (eqDesk_any _ _ _ hG2.out hP.out (fun _ _ => trivial) (fun _ _ => trivial)).mono ?_; rintro e w3 ⟨he, hb⟩; have he' : e = .returned (.bool true) := he.trans (by simp [DeskV.same]); subst he'; clear he; replace N0 := hide (keepr N0.out hb); replace N1 := hide (keepr N1.out hb); replace M0' := hide (keepr M0'.out hb); replace M1 := hide (keepr M1.out hb); replace hXg := hide (hXg.out.go hb); replace hYg := hide (hYg.out.go hb); replace hG1 := hide (hG1.out.go hb); replace hG2 := hide (hG2.out.go hb); replace hB := hide (Below.up hB.out hb); clear hb) | fail)
  clear hP a0 a1 a2 a3 a4 b0 b1 b2 b3 b4
  go_wp2_with fail
  go_ret
  exact ⟨rfl, hB.out⟩
end Go.Proofs.Ytgdmjmleljlbbaa
