/- slices.BinarySearchFunc at heaps. No statement is proved here. -/
import Derived.Test.YtpnbnhhifgcklaaDoorPutA
import Derived.Deep.LoopGhost
namespace Go.Proofs.YtpnbnhhifgcklaaDoor
open Go.ChangeShapes Go.WideShapes Go.ChangeAt Go.RowKit Go.Deep
set_option maxRecDepth 100000
theorem keepr3 {w w' : World} {g : Nat} {o : Obj} (h : w.heap[g]? = some o) (hb : Below w.heap.size w w') : w'.heap[g]? = some o := (hb.block g (Array.getElem?_eq_some_iff.1 h).1).trans h
theorem row3 {w : World} {u0 u1 u2 : Value} {t : TypeId} {g : Nat} (h : w.heap[g]? = some (.cells #[u0, u1, u2] t (0, 0))) :
    w.cell? ⟨g, 0, none⟩ = some u0 ∧ w.cell? ⟨g, 1, none⟩ = some u1 ∧ w.cell? ⟨g, 2, none⟩ = some u2 ∧ ∀ j : Nat, w.frozen? ⟨g, j, none⟩ = false :=
  ⟨by rw [cell_of_row _ _ _ _ _ _ h]; rfl, by rw [cell_of_row _ _ _ _ _ _ h]; rfl, by rw [cell_of_row _ _ _ _ _ _ h]; rfl, fun j => frozen_of_row _ _ _ _ _ h⟩
theorem srt_before {l : List Heap} (h : Srt l) {x y : Heap} {m : Nat} (hy : l[m]? = some y) (hlt : hLt y x = true) : ∀ (i : Nat) z, i < m + 1 → l[i]? = some z → hLt z x = true := by
  intro i z hi hz
  by_cases he : i = m
  · subst he; rw [hy] at hz; cases hz; exact hlt
  · have h1 := lt_of_get hy
    have h2 := lt_of_get hz
    have h3 := (List.pairwise_iff_getElem.1 h) i m h2 h1 (by omega)
    rw [List.getElem?_eq_getElem h1] at hy
    rw [List.getElem?_eq_getElem h2] at hz
    rw [Option.some.inj hy, Option.some.inj hz] at h3
    exact hLt_trans h3 hlt
theorem srt_after {l : List Heap} (h : Srt l) {x y : Heap} {m : Nat} (hy : l[m]? = some y) (hlt : hLt y x = false) : ∀ (i : Nat) z, m ≤ i → l[i]? = some z → hLt z x = false := by
  intro i z hi hz
  by_cases he : i = m
  · subst he; rw [hy] at hz; cases hz; exact hlt
  · have h1 := lt_of_get hy
    have h2 := lt_of_get hz
    have h3 := (List.pairwise_iff_getElem.1 h) m i h1 h2 (by omega)
    rw [List.getElem?_eq_getElem h1] at hy
    rw [List.getElem?_eq_getElem h2] at hz
    rw [Option.some.inj hy, Option.some.inj hz] at h3
    cases h4 : hLt z x with
    | false => rfl
    | true => have := hLt_trans h3 h4; rw [hlt] at this; cases this
set_option maxHeartbeats 2000000 in
theorem bs_any (A : Option Addr) (n c : Nat) (l : List Heap) (x : Heap) (w : World) (hn : n ≤ 1048576) (hr0 : Arr Heap.cells 3 w w.heap.size A n l) (hyr0 : ∀ y ∈ l, 1800 ≤ y.fYear ∧ y.fYear ≤ 2100) (hx1 : 1800 ≤ x.fYear) (hx2 : x.fYear ≤ 2100) (hs0 : Srt l) :
    Calls Tryd.prog 37 #[.slice A n c, .agg #[.string x.fSort, .int .i64 x.fYear, .int .i64 x.fBundles], .func (.func 34) #[] #[]] w fun e w' => e = .returned (.tuple #[.int .i64 (putK l x), .bool (putFound l x)]) ∧ Below w.heap.size w w' := by
  have hr := hide hr0
  have hyr := hide hyr0
  have hs := hide hs0
  have hl : Hid (l.length = n) := hide hr0.len
  clear hr0 hyr0 hs0
  have hR0 := hide (heap_alloc_new w (.cells #[.string x.fSort, .int .i64 x.fYear, .int .i64 x.fBundles] 27))
  have hE0 : Hid (Below w.heap.size w (w.alloc (.cells #[.string x.fSort, .int .i64 x.fYear, .int .i64 x.fBundles] 27))) := hide ((Below.refl _ _).alloc (Nat.le_refl _) _)
  go_enter Tryd.func37, Tryd.ntmps37
  go_wp2
  go_loopg [9, 10] n (fun kx s9 s10 wr => ∃ lo hi : Nat, s9 = .int .i64 lo ∧ s10 = .int .i64 hi ∧ lo ≤ hi ∧ hi ≤ n ∧ hi - lo ≤ kx ∧ Below w.heap.size w wr ∧ wr.heap[w.heap.size]? = some (.cells #[.string x.fSort, .int .i64 x.fYear, .int .i64 x.fBundles] 27 (0, 0)) ∧ Hid ((∀ (i : Nat) z, i < lo → l[i]? = some z → hLt z x = true) ∧ (∀ (i : Nat) z, hi ≤ i → l[i]? = some z → hLt z x = false)))
  case atStart => exact ⟨0, n, rfl, rfl, Nat.zero_le _, Nat.le_refl _, by omega, hE0.out, hR0.out, hide ⟨fun i z hi => absurd hi (by omega), fun i z hi hz => absurd (lt_of_get hz) (by have := hl.out; omega)⟩⟩
  case round =>
    clear hE0 hR0
    obtain ⟨lo, hi, rfl, rfl, hlh, hin, hg, he, hrow, hI⟩ := hrel
    have hE := hide he
    have hR := hide hrow
    clear he hrow
    by_cases hlt : lo < hi
    · obtain ⟨m, hm⟩ : ∃ m : Nat, (m : Int) = ((lo : Int) + (hi : Int)) / 2 := ⟨(lo + hi) / 2, by omega⟩
      have hm' := hm.symm
      have hml : lo ≤ m := by omega
      have hmh : m < hi := by omega
      have hmn : (m : Int) < (n : Int) := by omega
      have hm0 : (0 : Int) ≤ (m : Int) := by omega
      clear hm
      have hlt' : (lo : Int) < (hi : Int) := by omega
      have hw1 : IntKind.i64.wrap ((lo : Int) + (hi : Int)) = (lo : Int) + (hi : Int) := IntWalk.i64_in _ (by omega)
      obtain ⟨b, o, y, rfl, hbl, hy0, c0, c1, c2⟩ := hr.out.Heap (k := m) (by omega)
      have hY := hide hy0
      have hyy := hyr.out y (List.mem_of_getElem? hy0)
      have hdr : Below wr.heap.size wr wr.drew := below_drewN (Below.refl _ _) 1
      have hE2 := hide (Below.up hE.out hdr)
      have hR2 := hide (keepr3 hR.out hdr)
      have key : ∀ (W : World), Below w.heap.size w W → W.heap[w.heap.size]? = some (.cells #[.string x.fSort, .int .i64 x.fYear, .int .i64 x.fBundles] 27 (0, 0)) → (W.cell? ⟨w.heap.size, 0, none⟩ = some (.string x.fSort) ∧ W.cell? ⟨w.heap.size, 1, none⟩ = some (.int .i64 x.fYear) ∧ W.cell? ⟨w.heap.size, 2, none⟩ = some (.int .i64 x.fBundles) ∧ W.cell? ⟨b, o + m * 3, none⟩ = some (.string y.fSort) ∧ W.cell? ⟨b, o + m * 3 + 1, none⟩ = some (.int .i64 y.fYear) ∧ W.cell? ⟨b, o + m * 3 + 2, none⟩ = some (.int .i64 y.fBundles)) := fun W h h' => by obtain ⟨e0, e1, e2, _⟩ := row3 h'; exact ⟨e0, e1, e2, (h.cell (p := ⟨b, o + m * 3, none⟩) hbl).trans c0, (h.cell (p := ⟨b, o + m * 3 + 1, none⟩) hbl).trans c1, (h.cell (p := ⟨b, o + m * 3 + 2, none⟩) hbl).trans c2⟩
      have hkey := hide key
      obtain ⟨g0, g1, g2, g3, g4, g5⟩ := key _ hE2.out hR2.out
      clear key c0 c1 c2 hy0 hdr
      cases hq : hLt y x
      · have hA := hide hq
        clear hq
        have hc : ¬ hCmp y x < 0 := by rw [hCmp_neg, hA.out]; simp
        have hc' : 0 ≤ hCmp y x := by omega
        go_wp2_with fail
        go_region_held3 (fun w' => w'.cell? ⟨w.heap.size, 0, none⟩ = some (.string x.fSort) ∧ w'.cell? ⟨w.heap.size, 1, none⟩ = some (.int .i64 x.fYear) ∧ w'.cell? ⟨w.heap.size, 2, none⟩ = some (.int .i64 x.fBundles) ∧ w'.cell? ⟨b, o + m * 3, none⟩ = some (.string y.fSort) ∧ w'.cell? ⟨b, o + m * 3 + 1, none⟩ = some (.int .i64 y.fYear) ∧ w'.cell? ⟨b, o + m * 3 + 2, none⟩ = some (.int .i64 y.fBundles)) (first | go_keep | exact hkey.out _ hE2.out hR2.out) (first | (go_at_call 34; refine (iCmp_any y x _ (by omega) (by omega) (by omega) (by omega)).mono ?_; rintro e w4 ⟨rfl, hb4⟩; replace hE2 := hide (Below.up hE2.out hb4); replace hR2 := hide (keepr3 hR2.out hb4); clear hb4 g0 g1 g2 g3 g4 g5) | fail)
        go_wp2
        go_roundg (m - lo)
        case measure => omega
        case rel => exact ⟨lo, m, rfl, rfl, by omega, by omega, Nat.le_refl _, hE2.out, hR2.out, hide ⟨hI.out.1, srt_after hs.out hY.out hA.out⟩⟩
      · have hA := hide hq
        clear hq
        have hc : hCmp y x < 0 := hCmp_neg.2 hA.out
        go_wp2_with fail
        go_region_held3 (fun w' => w'.cell? ⟨w.heap.size, 0, none⟩ = some (.string x.fSort) ∧ w'.cell? ⟨w.heap.size, 1, none⟩ = some (.int .i64 x.fYear) ∧ w'.cell? ⟨w.heap.size, 2, none⟩ = some (.int .i64 x.fBundles) ∧ w'.cell? ⟨b, o + m * 3, none⟩ = some (.string y.fSort) ∧ w'.cell? ⟨b, o + m * 3 + 1, none⟩ = some (.int .i64 y.fYear) ∧ w'.cell? ⟨b, o + m * 3 + 2, none⟩ = some (.int .i64 y.fBundles)) (first | go_keep | exact hkey.out _ hE2.out hR2.out) (first | (go_at_call 34; refine (iCmp_any y x _ (by omega) (by omega) (by omega) (by omega)).mono ?_; rintro e w4 ⟨rfl, hb4⟩; replace hE2 := hide (Below.up hE2.out hb4); replace hR2 := hide (keepr3 hR2.out hb4); clear hb4 g0 g1 g2 g3 g4 g5) | fail)
        go_wp2
        go_roundg (hi - (m + 1))
        case measure => omega
        case rel => exact ⟨m + 1, hi, by go_num, rfl, by omega, hin, Nat.le_refl _, hE2.out, hR2.out, hide ⟨srt_before hs.out hY.out hA.out, hI.out.2⟩⟩
    · have hll : lo = hi := by omega
      subst hll
      have hput : Hid (putK l x = lo) := hide (putK_uniq l x lo (by rw [hl.out]; omega) hI.out.1 (fun z hz => hI.out.2 lo z (Nat.le_refl _) hz))
      by_cases hln : lo < n
      · have hln' : (lo : Int) < (n : Int) := by omega
        have hlo0 : (0 : Int) ≤ (lo : Int) := by omega
        obtain ⟨b, o, y, rfl, hbl, hy0, c0, c1, c2⟩ := hr.out.Heap (k := lo) (by omega)
        have hY := hide hy0
        have hyy := hyr.out y (List.mem_of_getElem? hy0)
        have hdr : Below wr.heap.size wr wr.drew := below_drewN (Below.refl _ _) 1
        have hE2 := hide (Below.up hE.out hdr)
        have hR2 := hide (keepr3 hR.out hdr)
        have key : ∀ (W : World), Below w.heap.size w W → W.heap[w.heap.size]? = some (.cells #[.string x.fSort, .int .i64 x.fYear, .int .i64 x.fBundles] 27 (0, 0)) → (W.cell? ⟨w.heap.size, 0, none⟩ = some (.string x.fSort) ∧ W.cell? ⟨w.heap.size, 1, none⟩ = some (.int .i64 x.fYear) ∧ W.cell? ⟨w.heap.size, 2, none⟩ = some (.int .i64 x.fBundles) ∧ W.cell? ⟨b, o + lo * 3, none⟩ = some (.string y.fSort) ∧ W.cell? ⟨b, o + lo * 3 + 1, none⟩ = some (.int .i64 y.fYear) ∧ W.cell? ⟨b, o + lo * 3 + 2, none⟩ = some (.int .i64 y.fBundles)) := fun W h h' => by obtain ⟨e0, e1, e2, _⟩ := row3 h'; exact ⟨e0, e1, e2, (h.cell (p := ⟨b, o + lo * 3, none⟩) hbl).trans c0, (h.cell (p := ⟨b, o + lo * 3 + 1, none⟩) hbl).trans c1, (h.cell (p := ⟨b, o + lo * 3 + 2, none⟩) hbl).trans c2⟩
        have hkey := hide key
        obtain ⟨g0, g1, g2, g3, g4, g5⟩ := key _ hE2.out hR2.out
        clear key c0 c1 c2 hy0 hdr
        have hfd : Hid (putFound l x = decide (hCmp y x = 0)) := hide (by unfold putFound; rw [hput.out, hY.out]; show sameKey y x = _; rw [Bool.eq_iff_iff, sameKey_iff, decide_eq_true_eq, hCmp_zero])
        by_cases h0 : hCmp y x = 0
        · have hfv : Hid (putFound l x = true) := hide (hfd.out.trans (decide_eq_true h0))
          have h1 : (hCmp y x == 0) = true := by rw [h0]; rfl
          clear h0
          go_wp2_with fail
          go_region_held3 (fun w' => w'.cell? ⟨w.heap.size, 0, none⟩ = some (.string x.fSort) ∧ w'.cell? ⟨w.heap.size, 1, none⟩ = some (.int .i64 x.fYear) ∧ w'.cell? ⟨w.heap.size, 2, none⟩ = some (.int .i64 x.fBundles) ∧ w'.cell? ⟨b, o + lo * 3, none⟩ = some (.string y.fSort) ∧ w'.cell? ⟨b, o + lo * 3 + 1, none⟩ = some (.int .i64 y.fYear) ∧ w'.cell? ⟨b, o + lo * 3 + 2, none⟩ = some (.int .i64 y.fBundles)) (first | go_keep | exact hkey.out _ hE2.out hR2.out) (first | (go_at_call 34; refine (iCmp_any y x _ (by omega) (by omega) (by omega) (by omega)).mono ?_; rintro e w4 ⟨rfl, hb4⟩; replace hE2 := hide (Below.up hE2.out hb4); replace hR2 := hide (keepr3 hR2.out hb4); clear hb4 g0 g1 g2 g3 g4 g5) | fail)
          go_wp2
          exact bodyPost_ret (v := .tuple #[.int .i64 lo, .bool true]) (by simp [results, Tryd.results37, go_sem]) rfl ⟨by rw [hput.out, hfv.out], hE2.out⟩
        · have hfv : Hid (putFound l x = false) := hide (hfd.out.trans (decide_eq_false h0))
          have h1 : (hCmp y x == 0) = false := by simp; exact h0
          clear h0
          go_wp2_with fail
          go_region_held3 (fun w' => w'.cell? ⟨w.heap.size, 0, none⟩ = some (.string x.fSort) ∧ w'.cell? ⟨w.heap.size, 1, none⟩ = some (.int .i64 x.fYear) ∧ w'.cell? ⟨w.heap.size, 2, none⟩ = some (.int .i64 x.fBundles) ∧ w'.cell? ⟨b, o + lo * 3, none⟩ = some (.string y.fSort) ∧ w'.cell? ⟨b, o + lo * 3 + 1, none⟩ = some (.int .i64 y.fYear) ∧ w'.cell? ⟨b, o + lo * 3 + 2, none⟩ = some (.int .i64 y.fBundles)) (first | go_keep | exact hkey.out _ hE2.out hR2.out) (first | (go_at_call 34; refine (iCmp_any y x _ (by omega) (by omega) (by omega) (by omega)).mono ?_; rintro e w4 ⟨rfl, hb4⟩; replace hE2 := hide (Below.up hE2.out hb4); replace hR2 := hide (keepr3 hR2.out hb4); clear hb4 g0 g1 g2 g3 g4 g5) | fail)
          go_wp2
          exact bodyPost_ret (v := .tuple #[.int .i64 lo, .bool false]) (by simp [results, Tryd.results37, go_sem]) rfl ⟨by rw [hput.out, hfv.out], hE2.out⟩
      · have hfv : Hid (putFound l x = false) := hide (by unfold putFound; rw [hput.out, List.getElem?_eq_none (by rw [hl.out]; omega)])
        have hln' : decide ((lo : Int) < (n : Int)) = false := decide_eq_false (by omega)
        go_wp2_with fail
        go_quiet (fail)
        go_wp2
        exact bodyPost_ret (v := .tuple #[.int .i64 lo, .bool false]) (by simp [results, Tryd.results37, go_sem]) rfl ⟨by rw [hput.out, hfv.out], Below.up hE.out (below_drewN (Below.refl _ _) _)⟩
end Go.Proofs.YtpnbnhhifgcklaaDoor
