/- Contracts: valid heaps. -/
import Derived.Test.YtpnbnhhifgcklaaDoorHeapA
import Derived.Deep.RegionWith
namespace Go.Proofs.YtpnbnhhifgcklaaDoor
open Go.ChangeShapes Go.WideShapes Go.ChangeAt Go.RowKit Go.Deep
set_option maxRecDepth 100000
def heapPair (l : List Heap) (i : Nat) : Bool := match l[i]? with
  | some x => x.ok && (decide (i = 0) || (match l[i - 1]? with | some y => hLt y x | none => true))
  | none => true
def heapsOk (l : List Heap) : Bool := (List.range l.length).all (heapPair l) && decide (l.length ≤ 20)
theorem heapPair_zero {l : List Heap} {x : Heap} (h : l[0]? = some x) : heapPair l 0 = x.ok := by unfold heapPair; rw [h]; simp
theorem heapPair_pos {l : List Heap} {x y : Heap} {k : Nat} (h : l[k]? = some x) (hk : 0 < k) (h' : l[k - 1]? = some y) : heapPair l k = (x.ok && hLt y x) := by
  unfold heapPair; rw [h, h', decide_eq_false (by omega)]; simp
theorem heapPair_ok {l : List Heap} {n k : Nat} (h : (List.range n).all (heapPair l) = true) (hk : k < n) {x : Heap} (hx : l[k]? = some x) : x.ok = true := by
  have := List.all_eq_true.1 h k (List.mem_range.2 hk)
  unfold heapPair at this
  rw [hx] at this
  simp only [Bool.and_eq_true] at this
  exact this.1
set_option maxHeartbeats 1000000 in
theorem iHeaps_any (A : Option Addr) (n c : Nat) (l : List Heap) (w : World) (hn : n ≤ 1048576) (hf : ∀ x ∈ l, x.fits) (hr : Arr Heap.cells 3 w w.heap.size A n l) :
    Calls Tryd.prog 19 #[.slice A n c] w fun e w' => e = .returned (.bool (heapsOk l)) ∧ Below w.heap.size w w' := by
  have hl := hide hr.len
  have hF := hide hf
  clear hf
  go_enter Tryd.func19, Tryd.ntmps19
  go_wp2
  go_loopw [7] (fun i wr => ∃ k : Nat, k ≤ n ∧ i = .int .i64 k ∧ Below w.heap.size w wr ∧ Hid ((List.range k).all (heapPair l) = true)) (fun i _ => n - (intOf i).toNat)
  case atStart => exact ⟨0, Nat.zero_le _, rfl, Below.refl _ _, hide rfl⟩
  case round =>
    obtain ⟨k, hk, rfl, hb, hall⟩ := hrel
    by_cases hlt : k < n
    · obtain ⟨b, o, x, rfl, hbl, hx, c0, c1, c2⟩ := hr.Heap hlt
      have d0 : wr.cell? ⟨b, o + k * 3, none⟩ = some (.string x.fSort) := (hb.cell (p := ⟨b, o + k * 3, none⟩) hbl).trans c0
      have d1 : wr.cell? ⟨b, o + k * 3 + 1, none⟩ = some (.int .i64 x.fYear) := (hb.cell (p := ⟨b, o + k * 3 + 1, none⟩) hbl).trans c1
      have d2 : wr.cell? ⟨b, o + k * 3 + 2, none⟩ = some (.int .i64 x.fBundles) := (hb.cell (p := ⟨b, o + k * 3 + 2, none⟩) hbl).trans c2
      have hX := hide hx
      clear hx c0 c1 c2
      have hbs : b < wr.heap.size := Nat.lt_of_lt_of_le hbl hb.size
      have hy : x.fits := hF.out x (List.mem_of_getElem? hX.out)
      have hbad : Hid (heapPair l k = false → heapsOk l = false) := hide (fun h => by
        unfold heapsOk; rw [all_not (i := k) (x := k) (by rw [List.getElem?_range (by rw [hl.out]; exact hlt)]) h]; rfl)
      have hgood : Hid (heapPair l k = true → (List.range (k + 1)).all (heapPair l) = true) := hide (fun h => by rw [List.range_succ, List.all_append, hall.out]; simp [h])
      obtain ⟨O, hO⟩ : ∃ O : Obj, O = .cells #[.string x.fSort, .int .i64 x.fYear, .int .i64 x.fBundles] 27 := ⟨_, rfl⟩
      have k0 : (wr.alloc O).cell? ⟨wr.heap.size, 0, none⟩ = some (.string x.fSort) := by rw [hO, cell_of_row _ _ _ _ _ _ (heap_alloc_new wr _)]; rfl
      have k1 : (wr.alloc O).cell? ⟨wr.heap.size, 1, none⟩ = some (.int .i64 x.fYear) := by rw [hO, cell_of_row _ _ _ _ _ _ (heap_alloc_new wr _)]; rfl
      have k2 : (wr.alloc O).cell? ⟨wr.heap.size, 2, none⟩ = some (.int .i64 x.fBundles) := by rw [hO, cell_of_row _ _ _ _ _ _ (heap_alloc_new wr _)]; rfl
      have hB2 := hide (hb.alloc hb.size O)
      have hlt2 : wr.heap.size < (wr.alloc O).heap.size := by simp
      by_cases hz : 0 < k
      · obtain ⟨_, _, y, hA2, _, hx2, e0, e1, e2⟩ := hr.Heap (k := k - 1) (by omega)
        cases hA2
        have q0 : (wr.alloc O).cell? ⟨b, o + (k - 1) * 3, none⟩ = some (.string y.fSort) := (World.cell?_alloc_lt wr O ⟨b, o + (k - 1) * 3, none⟩ hbs).trans ((hb.cell (p := ⟨b, o + (k - 1) * 3, none⟩) hbl).trans e0)
        have q1 : (wr.alloc O).cell? ⟨b, o + (k - 1) * 3 + 1, none⟩ = some (.int .i64 y.fYear) := (World.cell?_alloc_lt wr O ⟨b, o + (k - 1) * 3 + 1, none⟩ hbs).trans ((hb.cell (p := ⟨b, o + (k - 1) * 3 + 1, none⟩) hbl).trans e1)
        have q2 : (wr.alloc O).cell? ⟨b, o + (k - 1) * 3 + 2, none⟩ = some (.int .i64 y.fBundles) := (World.cell?_alloc_lt wr O ⟨b, o + (k - 1) * 3 + 2, none⟩ hbs).trans ((hb.cell (p := ⟨b, o + (k - 1) * 3 + 2, none⟩) hbl).trans e2)
        have hbs2 : b < (wr.alloc O).heap.size := by simp; omega
        have hp := hide (heapPair_pos hX.out hz hx2)
        have hyo := Heap.ok_iff.1 (heapPair_ok hall.out (k := k - 1) (by omega) hx2)
        have hyy := hyo.2.1
        have hB := hide hb
        clear hr hb hall hx2 e0 e1 e2 hyo
        have hd : decide ((0 : Int) < (k : Int)) = true := by simp; omega
        have hi0 : (0 : Int) ≤ (k : Int) - 1 := by omega
        have hi1 : (k : Int) - 1 < (n : Int) := by omega
        have hw : IntKind.i64.wrap ((k : Int) - 1) = (k : Int) - 1 := IntWalk.i64_in _ (by omega)
        have hi2 : ((k : Int) - 1).toNat = k - 1 := by omega
        have hi3 : (1 : Int) ≤ (k : Int) := by omega
        have hi4 : (k : Int) ≤ (n : Int) := by omega
        have hi5 : k ≤ n := by omega
        have hi6 : 1 ≤ k := by omega
        cases h1 : x.ok
        · have ck : Hid (heapPair l k = false) := hide (by rw [hp.out]; simp [h1])
          go_wp2_with fail
          subst hO
          obtain ⟨w2, hw2⟩ : ∃ w2, w2 = wr.alloc (.cells #[.string x.fSort, .int .i64 x.fYear, .int .i64 x.fBundles] 27) := ⟨_, rfl⟩
          rw [← hw2] at k0 k1 k2 hB2 hlt2 q0 q1 q2 hbs2 ⊢
          clear hw2
          refine wp_region_any (by kernel_rfl) ?_
          try (change wpAny _ _ _ _ _ _ _ (World.drew _))
          refine wpAny_ready (rs := [0]) (by kernel_rfl) (by simp) ?_
          refine AllReady.cons rfl (fun K hK => ?_) AllReady.nil
          go_simp
          refine hK _ _ ?_
          clear hK K
          refine wpAny_ready (rs := [1]) (by kernel_rfl) (by simp) ?_
          refine AllReady.cons rfl (fun K hK => ?_) AllReady.nil
          go_simp
          go_wp2_with ((go_at_call 20; refine (iHeap_any x _ hy).mono ?_; rintro e w3 ⟨rfl, hb1⟩))
          try (refine hK _ _ ?_)
          try clear hK K
          refine wpAny_take (i := 2) (v := ?v1) rfl (by kernel_rfl) (by kernel_rfl) (by kernel_rfl) (fun _ _ _ h => h) (Or.inl ⟨by kernel_rfl, ?hy1⟩) ?rest1
          case hy1 => (intro W; go_simp; try (with_reducible rfl))
          refine wpAny_take (i := 3) (v := ?v2) rfl (by kernel_rfl) (by kernel_rfl) (by kernel_rfl) (fun _ _ _ h => h) (Or.inl ⟨by kernel_rfl, ?hy2⟩) ?rest2
          case hy2 => (intro W; go_simp; try (with_reducible rfl))
          refine wpAny_take (i := 4) rfl (by kernel_rfl) (by kernel_rfl) (by kernel_rfl) (fun _ _ _ h => h) (Or.inr ⟨by kernel_rfl, rfl⟩) ?_
          refine wpAny_take (i := 5) rfl (by kernel_rfl) (by kernel_rfl) (by kernel_rfl) (fun _ _ _ h => h) (Or.inr ⟨by kernel_rfl, rfl⟩) ?_
          refine wpAny_take (i := 6) rfl (by kernel_rfl) (by kernel_rfl) (by kernel_rfl) (fun _ _ _ h => h) (Or.inr ⟨by kernel_rfl, rfl⟩) ?_
          refine wpAny_take (i := 7) rfl (by kernel_rfl) (by kernel_rfl) (by kernel_rfl) (fun _ _ _ h => h) (Or.inr ⟨by kernel_rfl, rfl⟩) ?_
          refine wpAny_take (i := 8) rfl (by kernel_rfl) (by kernel_rfl) (by kernel_rfl) (fun _ _ _ h => h) (Or.inr ⟨by kernel_rfl, rfl⟩) ?_
          refine wpAny_take (i := 9) rfl (by kernel_rfl) (by kernel_rfl) (by kernel_rfl) (fun _ _ _ h => h) (Or.inr ⟨by kernel_rfl, rfl⟩) ?_
          refine wpAny_take (i := 10) rfl (by kernel_rfl) (by kernel_rfl) (by kernel_rfl) (fun _ _ _ h => h) (Or.inr ⟨by kernel_rfl, rfl⟩) ?_
          refine wpAny_take (i := 11) rfl (by kernel_rfl) (by kernel_rfl) (by kernel_rfl) (fun _ _ _ h => h) (Or.inr ⟨by kernel_rfl, rfl⟩) ?_
          refine wpAny_take (i := 12) rfl (by kernel_rfl) (by kernel_rfl) (by kernel_rfl) (fun _ _ _ h => h) (Or.inr ⟨by kernel_rfl, rfl⟩) ?_
          refine wpAny_take (i := 13) rfl (by kernel_rfl) (by kernel_rfl) (by kernel_rfl) (fun _ _ _ h => h) (Or.inr ⟨by kernel_rfl, rfl⟩) ?_
          refine wpAny_take (i := 14) rfl (by kernel_rfl) (by kernel_rfl) (by kernel_rfl) (fun _ _ _ h => h) (Or.inr ⟨by kernel_rfl, rfl⟩) ?_
          refine wpAny_take (i := 15) rfl (by kernel_rfl) (by kernel_rfl) (by kernel_rfl) (fun _ _ _ h => h) (Or.inr ⟨by kernel_rfl, rfl⟩) ?_
          refine wpAny_take (i := 16) (v := ?v3) rfl (by kernel_rfl) (by kernel_rfl) (by kernel_rfl) (fun _ _ _ h => h) (Or.inl ⟨by kernel_rfl, ?hy3⟩) ?rest3
          case hy3 => (intro W; go_simp; try (with_reducible rfl))
          refine wpAny_done (by kernel_rfl) ?_ _
          simp [Act.put]
          go_wp2
          go_ret
          exact ⟨retB (hbad.out ck.out).symm, Below.up (Below.drew hB2.out) hb1⟩
        · have hxy := (Heap.ok_iff.1 h1).2.1
          cases h2 : hLt y x
          · have ck : Hid (heapPair l k = false) := hide (by rw [hp.out]; simp [h2])
            have hc : 0 ≤ hCmp y x := by
              rcases Int.lt_or_le (hCmp y x) 0 with h | h
              · rw [hCmp_neg, h2] at h; cases h
              · exact h
            go_wp2_with fail
            subst hO
            obtain ⟨w2, hw2⟩ : ∃ w2, w2 = wr.alloc (.cells #[.string x.fSort, .int .i64 x.fYear, .int .i64 x.fBundles] 27) := ⟨_, rfl⟩
            rw [← hw2] at k0 k1 k2 hB2 hlt2 q0 q1 q2 hbs2 ⊢
            clear hw2
            go_region_held3 (fun w' => w'.cell? ⟨wr.heap.size, 0, none⟩ = some (.string x.fSort) ∧ w'.cell? ⟨wr.heap.size, 1, none⟩ = some (.int .i64 x.fYear) ∧ w'.cell? ⟨wr.heap.size, 2, none⟩ = some (.int .i64 x.fBundles) ∧ w'.cell? ⟨b, o + (k - 1) * 3, none⟩ = some (.string y.fSort) ∧ w'.cell? ⟨b, o + (k - 1) * 3 + 1, none⟩ = some (.int .i64 y.fYear) ∧ w'.cell? ⟨b, o + (k - 1) * 3 + 2, none⟩ = some (.int .i64 y.fBundles)) (first | go_keep | exact ⟨keepc hb1 hlt2 k0, keepc hb1 hlt2 k1, keepc hb1 hlt2 k2, keepc hb1 hbs2 q0, keepc hb1 hbs2 q1, keepc hb1 hbs2 q2⟩ | exact ⟨keepc hb4 (Nat.lt_of_lt_of_le hlt2 hb1.size) (keepc hb1 hlt2 k0), keepc hb4 (Nat.lt_of_lt_of_le hlt2 hb1.size) (keepc hb1 hlt2 k1), keepc hb4 (Nat.lt_of_lt_of_le hlt2 hb1.size) (keepc hb1 hlt2 k2), keepc hb4 (Nat.lt_of_lt_of_le hbs2 hb1.size) (keepc hb1 hbs2 q0), keepc hb4 (Nat.lt_of_lt_of_le hbs2 hb1.size) (keepc hb1 hbs2 q1), keepc hb4 (Nat.lt_of_lt_of_le hbs2 hb1.size) (keepc hb1 hbs2 q2)⟩) (first | (go_at_call 20; refine (iHeap_any x _ hy).mono ?_; rintro e w3 ⟨rfl, hb1⟩) | (go_at_call 34; refine (iCmp_any y x _ (by omega) (by omega) (by omega) (by omega)).mono ?_; rintro e w4 ⟨rfl, hb4⟩))
            go_wp2
            go_ret
            exact ⟨retB (hbad.out ck.out).symm, Below.up (Below.up (Below.drew hB2.out) hb1) hb4⟩
          · have ck : Hid (heapPair l k = true) := hide (by rw [hp.out]; simp [h1, h2])
            have hc : hCmp y x < 0 := hCmp_neg.2 h2
            go_wp2_with fail
            subst hO
            obtain ⟨w2, hw2⟩ : ∃ w2, w2 = wr.alloc (.cells #[.string x.fSort, .int .i64 x.fYear, .int .i64 x.fBundles] 27) := ⟨_, rfl⟩
            rw [← hw2] at k0 k1 k2 hB2 hlt2 q0 q1 q2 hbs2 ⊢
            clear hw2
            go_region_held3 (fun w' => w'.cell? ⟨wr.heap.size, 0, none⟩ = some (.string x.fSort) ∧ w'.cell? ⟨wr.heap.size, 1, none⟩ = some (.int .i64 x.fYear) ∧ w'.cell? ⟨wr.heap.size, 2, none⟩ = some (.int .i64 x.fBundles) ∧ w'.cell? ⟨b, o + (k - 1) * 3, none⟩ = some (.string y.fSort) ∧ w'.cell? ⟨b, o + (k - 1) * 3 + 1, none⟩ = some (.int .i64 y.fYear) ∧ w'.cell? ⟨b, o + (k - 1) * 3 + 2, none⟩ = some (.int .i64 y.fBundles)) (first | go_keep | exact ⟨keepc hb1 hlt2 k0, keepc hb1 hlt2 k1, keepc hb1 hlt2 k2, keepc hb1 hbs2 q0, keepc hb1 hbs2 q1, keepc hb1 hbs2 q2⟩ | exact ⟨keepc hb4 (Nat.lt_of_lt_of_le hlt2 hb1.size) (keepc hb1 hlt2 k0), keepc hb4 (Nat.lt_of_lt_of_le hlt2 hb1.size) (keepc hb1 hlt2 k1), keepc hb4 (Nat.lt_of_lt_of_le hlt2 hb1.size) (keepc hb1 hlt2 k2), keepc hb4 (Nat.lt_of_lt_of_le hbs2 hb1.size) (keepc hb1 hbs2 q0), keepc hb4 (Nat.lt_of_lt_of_le hbs2 hb1.size) (keepc hb1 hbs2 q1), keepc hb4 (Nat.lt_of_lt_of_le hbs2 hb1.size) (keepc hb1 hbs2 q2)⟩) (first | (go_at_call 20; refine (iHeap_any x _ hy).mono ?_; rintro e w3 ⟨rfl, hb1⟩) | (go_at_call 34; refine (iCmp_any y x _ (by omega) (by omega) (by omega) (by omega)).mono ?_; rintro e w4 ⟨rfl, hb4⟩))
            go_wp2
            go_roundw
            case rel => exact ⟨k + 1, by omega, by go_num, Below.up (Below.up (Below.drew hB2.out) hb1) hb4, hide (hgood.out ck.out)⟩
            case measure => simp [intOf]; omega
      · have hp := hide (show heapPair l k = x.ok by
          have hk0 : k = 0 := by omega
          subst hk0
          exact heapPair_zero hX.out)
        have hd : decide ((0 : Int) < (k : Int)) = false := by simp; omega
        have hB := hide hb
        clear hr hb hall
        cases h1 : x.ok
        · have ck : Hid (heapPair l k = false) := hide (by rw [hp.out]; simp [h1])
          go_wp2_with fail
          subst hO
          obtain ⟨w2, hw2⟩ : ∃ w2, w2 = wr.alloc (.cells #[.string x.fSort, .int .i64 x.fYear, .int .i64 x.fBundles] 27) := ⟨_, rfl⟩
          rw [← hw2] at k0 k1 k2 hB2 hlt2 ⊢
          clear hw2
          refine wp_region_any (by kernel_rfl) ?_
          try (change wpAny _ _ _ _ _ _ _ (World.drew _))
          refine wpAny_ready (rs := [0]) (by kernel_rfl) (by simp) ?_
          refine AllReady.cons rfl (fun K hK => ?_) AllReady.nil
          go_simp
          refine hK _ _ ?_
          clear hK K
          refine wpAny_ready (rs := [1]) (by kernel_rfl) (by simp) ?_
          refine AllReady.cons rfl (fun K hK => ?_) AllReady.nil
          go_simp
          go_wp2_with ((go_at_call 20; refine (iHeap_any x _ hy).mono ?_; rintro e w3 ⟨rfl, hb1⟩))
          try (refine hK _ _ ?_)
          try clear hK K
          refine wpAny_take (i := 2) (v := ?v4) rfl (by kernel_rfl) (by kernel_rfl) (by kernel_rfl) (fun _ _ _ h => h) (Or.inl ⟨by kernel_rfl, ?hy4⟩) ?rest4
          case hy4 => (intro W; go_simp; try (with_reducible rfl))
          refine wpAny_take (i := 3) (v := ?v5) rfl (by kernel_rfl) (by kernel_rfl) (by kernel_rfl) (fun _ _ _ h => h) (Or.inl ⟨by kernel_rfl, ?hy5⟩) ?rest5
          case hy5 => (intro W; go_simp; try (with_reducible rfl))
          refine wpAny_take (i := 4) rfl (by kernel_rfl) (by kernel_rfl) (by kernel_rfl) (fun _ _ _ h => h) (Or.inr ⟨by kernel_rfl, rfl⟩) ?_
          refine wpAny_take (i := 5) rfl (by kernel_rfl) (by kernel_rfl) (by kernel_rfl) (fun _ _ _ h => h) (Or.inr ⟨by kernel_rfl, rfl⟩) ?_
          refine wpAny_take (i := 6) rfl (by kernel_rfl) (by kernel_rfl) (by kernel_rfl) (fun _ _ _ h => h) (Or.inr ⟨by kernel_rfl, rfl⟩) ?_
          refine wpAny_take (i := 7) rfl (by kernel_rfl) (by kernel_rfl) (by kernel_rfl) (fun _ _ _ h => h) (Or.inr ⟨by kernel_rfl, rfl⟩) ?_
          refine wpAny_take (i := 8) rfl (by kernel_rfl) (by kernel_rfl) (by kernel_rfl) (fun _ _ _ h => h) (Or.inr ⟨by kernel_rfl, rfl⟩) ?_
          refine wpAny_take (i := 9) rfl (by kernel_rfl) (by kernel_rfl) (by kernel_rfl) (fun _ _ _ h => h) (Or.inr ⟨by kernel_rfl, rfl⟩) ?_
          refine wpAny_take (i := 10) rfl (by kernel_rfl) (by kernel_rfl) (by kernel_rfl) (fun _ _ _ h => h) (Or.inr ⟨by kernel_rfl, rfl⟩) ?_
          refine wpAny_take (i := 11) rfl (by kernel_rfl) (by kernel_rfl) (by kernel_rfl) (fun _ _ _ h => h) (Or.inr ⟨by kernel_rfl, rfl⟩) ?_
          refine wpAny_take (i := 12) rfl (by kernel_rfl) (by kernel_rfl) (by kernel_rfl) (fun _ _ _ h => h) (Or.inr ⟨by kernel_rfl, rfl⟩) ?_
          refine wpAny_take (i := 13) rfl (by kernel_rfl) (by kernel_rfl) (by kernel_rfl) (fun _ _ _ h => h) (Or.inr ⟨by kernel_rfl, rfl⟩) ?_
          refine wpAny_take (i := 14) rfl (by kernel_rfl) (by kernel_rfl) (by kernel_rfl) (fun _ _ _ h => h) (Or.inr ⟨by kernel_rfl, rfl⟩) ?_
          refine wpAny_take (i := 15) rfl (by kernel_rfl) (by kernel_rfl) (by kernel_rfl) (fun _ _ _ h => h) (Or.inr ⟨by kernel_rfl, rfl⟩) ?_
          refine wpAny_take (i := 16) (v := ?v6) rfl (by kernel_rfl) (by kernel_rfl) (by kernel_rfl) (fun _ _ _ h => h) (Or.inl ⟨by kernel_rfl, ?hy6⟩) ?rest6
          case hy6 => (intro W; go_simp; try (with_reducible rfl))
          refine wpAny_done (by kernel_rfl) ?_ _
          simp [Act.put]
          go_wp2
          go_ret
          exact ⟨retB (hbad.out ck.out).symm, Below.up (Below.drew hB2.out) hb1⟩
        · have ck : Hid (heapPair l k = true) := hide (by rw [hp.out]; simp [h1])
          go_wp2_with fail
          subst hO
          obtain ⟨w2, hw2⟩ : ∃ w2, w2 = wr.alloc (.cells #[.string x.fSort, .int .i64 x.fYear, .int .i64 x.fBundles] 27) := ⟨_, rfl⟩
          rw [← hw2] at k0 k1 k2 hB2 hlt2 ⊢
          clear hw2
          refine wp_region_any (by kernel_rfl) ?_
          try (change wpAny _ _ _ _ _ _ _ (World.drew _))
          refine wpAny_ready (rs := [0]) (by kernel_rfl) (by simp) ?_
          refine AllReady.cons rfl (fun K hK => ?_) AllReady.nil
          go_simp
          refine hK _ _ ?_
          clear hK K
          refine wpAny_ready (rs := [1]) (by kernel_rfl) (by simp) ?_
          refine AllReady.cons rfl (fun K hK => ?_) AllReady.nil
          go_simp
          go_wp2_with ((go_at_call 20; refine (iHeap_any x _ hy).mono ?_; rintro e w3 ⟨rfl, hb1⟩))
          try (refine hK _ _ ?_)
          try clear hK K
          refine wpAny_take (i := 2) (v := ?v7) rfl (by kernel_rfl) (by kernel_rfl) (by kernel_rfl) (fun _ _ _ h => h) (Or.inl ⟨by kernel_rfl, ?hy7⟩) ?rest7
          case hy7 => (intro W; go_simp; try (with_reducible rfl))
          refine wpAny_take (i := 3) (v := ?v8) rfl (by kernel_rfl) (by kernel_rfl) (by kernel_rfl) (fun _ _ _ h => h) (Or.inl ⟨by kernel_rfl, ?hy8⟩) ?rest8
          case hy8 => (intro W; go_simp; try (with_reducible rfl))
          refine wpAny_take (i := 4) (v := ?v9) rfl (by kernel_rfl) (by kernel_rfl) (by kernel_rfl) (fun _ _ _ h => h) (Or.inl ⟨by kernel_rfl, ?hy9⟩) ?rest9
          case hy9 => (intro W; go_simp; try (with_reducible rfl))
          refine wpAny_take (i := 5) (v := ?v10) rfl (by kernel_rfl) (by kernel_rfl) (by kernel_rfl) (fun _ _ _ h => h) (Or.inl ⟨by kernel_rfl, ?hy10⟩) ?rest10
          case hy10 => (intro W; go_simp; try (with_reducible rfl))
          refine wpAny_take (i := 6) (v := ?v11) rfl (by kernel_rfl) (by kernel_rfl) (by kernel_rfl) (fun _ _ _ h => h) (Or.inl ⟨by kernel_rfl, ?hy11⟩) ?rest11
          case hy11 => (intro W; go_simp; try (with_reducible rfl))
          refine wpAny_take (i := 7) rfl (by kernel_rfl) (by kernel_rfl) (by kernel_rfl) (fun _ _ _ h => h) (Or.inr ⟨by kernel_rfl, rfl⟩) ?_
          refine wpAny_take (i := 8) rfl (by kernel_rfl) (by kernel_rfl) (by kernel_rfl) (fun _ _ _ h => h) (Or.inr ⟨by kernel_rfl, rfl⟩) ?_
          refine wpAny_take (i := 9) rfl (by kernel_rfl) (by kernel_rfl) (by kernel_rfl) (fun _ _ _ h => h) (Or.inr ⟨by kernel_rfl, rfl⟩) ?_
          refine wpAny_take (i := 10) rfl (by kernel_rfl) (by kernel_rfl) (by kernel_rfl) (fun _ _ _ h => h) (Or.inr ⟨by kernel_rfl, rfl⟩) ?_
          refine wpAny_take (i := 11) rfl (by kernel_rfl) (by kernel_rfl) (by kernel_rfl) (fun _ _ _ h => h) (Or.inr ⟨by kernel_rfl, rfl⟩) ?_
          refine wpAny_take (i := 12) rfl (by kernel_rfl) (by kernel_rfl) (by kernel_rfl) (fun _ _ _ h => h) (Or.inr ⟨by kernel_rfl, rfl⟩) ?_
          refine wpAny_take (i := 13) rfl (by kernel_rfl) (by kernel_rfl) (by kernel_rfl) (fun _ _ _ h => h) (Or.inr ⟨by kernel_rfl, rfl⟩) ?_
          refine wpAny_take (i := 14) rfl (by kernel_rfl) (by kernel_rfl) (by kernel_rfl) (fun _ _ _ h => h) (Or.inr ⟨by kernel_rfl, rfl⟩) ?_
          refine wpAny_take (i := 15) (v := ?v12) rfl (by kernel_rfl) (by kernel_rfl) (by kernel_rfl) (fun _ _ _ h => h) (Or.inl ⟨by kernel_rfl, ?hy12⟩) ?rest12
          case hy12 => (intro W; go_simp; try (with_reducible rfl))
          refine wpAny_take (i := 16) (v := ?v13) rfl (by kernel_rfl) (by kernel_rfl) (by kernel_rfl) (fun _ _ _ h => h) (Or.inl ⟨by kernel_rfl, ?hy13⟩) ?rest13
          case hy13 => (intro W; go_simp; try (with_reducible rfl))
          refine wpAny_done (by kernel_rfl) ?_ _
          simp [Act.put]
          go_wp2
          go_roundw
          case rel => exact ⟨k + 1, by omega, by go_num, Below.up (Below.drew hB2.out) hb1, hide (hgood.out ck.out)⟩
          case measure => simp [intOf]; omega
    · have hkn : k = n := by omega
      subst hkn
      have hB := hide hb
      clear hb
      have ck : Hid (heapsOk l = decide (k ≤ 20)) := hide (by unfold heapsOk; rw [hl.out, hall.out, Bool.true_and])
      go_wp2
      go_ret
      exact ⟨retB (by rw [ck.out, decide_eq_decide]; omega), hB.out⟩
set_option maxHeartbeats 1000000 in
theorem sHeaps_any (A : Option Addr) (n c : Nat) (l : List Heap) (w : World) (hn : n ≤ 1048576) (hf : ∀ x ∈ l, x.fits) (hr : Arr Heap.cells 3 w w.heap.size A n l) :
    Calls Tryd.prog 29 #[.slice A n c] w fun e w' => e = .returned (.bool (heapsOk l)) ∧ Below w.heap.size w w' := by
  have hl := hide hr.len
  have hF := hide hf
  clear hf
  go_enter Tryd.func29, Tryd.ntmps29
  go_wp2
  go_loopw [3] (fun i wr => ∃ k : Nat, k ≤ n ∧ i = .int .i64 k ∧ Below w.heap.size w wr ∧ Hid ((List.range k).all (heapPair l) = true)) (fun i _ => n - (intOf i).toNat)
  case atStart => exact ⟨0, Nat.zero_le _, rfl, Below.refl _ _, hide rfl⟩
  case round =>
    obtain ⟨k, hk, rfl, hb, hall⟩ := hrel
    by_cases hlt : k < n
    · obtain ⟨b, o, x, rfl, hbl, hx, c0, c1, c2⟩ := hr.Heap hlt
      have d0 : wr.cell? ⟨b, o + k * 3, none⟩ = some (.string x.fSort) := (hb.cell (p := ⟨b, o + k * 3, none⟩) hbl).trans c0
      have d1 : wr.cell? ⟨b, o + k * 3 + 1, none⟩ = some (.int .i64 x.fYear) := (hb.cell (p := ⟨b, o + k * 3 + 1, none⟩) hbl).trans c1
      have d2 : wr.cell? ⟨b, o + k * 3 + 2, none⟩ = some (.int .i64 x.fBundles) := (hb.cell (p := ⟨b, o + k * 3 + 2, none⟩) hbl).trans c2
      have hX := hide hx
      clear hx c0 c1 c2
      have hk0 : (0 : Int) ≤ (k : Int) := by omega
      have hk1 : (k : Int) < (n : Int) := by omega
      have hy : x.fits := hF.out x (List.mem_of_getElem? hX.out)
      have hbad : Hid (heapPair l k = false → heapsOk l = false) := hide (fun h => by
        unfold heapsOk; rw [all_not (i := k) (x := k) (by rw [List.getElem?_range (by rw [hl.out]; exact hlt)]) h]; rfl)
      have hgood : Hid (heapPair l k = true → (List.range (k + 1)).all (heapPair l) = true) := hide (fun h => by rw [List.range_succ, List.all_append, hall.out]; simp [h])
      by_cases hz : 0 < k
      · obtain ⟨_, _, y, hA2, _, hx2, e0, e1, e2⟩ := hr.Heap (k := k - 1) (by omega)
        cases hA2
        have q0 : wr.cell? ⟨b, o + (k - 1) * 3, none⟩ = some (.string y.fSort) := (hb.cell (p := ⟨b, o + (k - 1) * 3, none⟩) hbl).trans e0
        have q1 : wr.cell? ⟨b, o + (k - 1) * 3 + 1, none⟩ = some (.int .i64 y.fYear) := (hb.cell (p := ⟨b, o + (k - 1) * 3 + 1, none⟩) hbl).trans e1
        have hp := hide (heapPair_pos hX.out hz hx2)
        have hB := hide hb
        clear hr hb hall hx2 e0 e1 e2
        have hd : decide ((0 : Int) < (k : Int)) = true := by simp; omega
        have hi0 : (0 : Int) ≤ (k : Int) - 1 := by omega
        have hi1 : (k : Int) - 1 < (n : Int) := by omega
        have hw : IntKind.i64.wrap ((k : Int) - 1) = (k : Int) - 1 := IntWalk.i64_in _ (by omega)
        have hi2 : ((k : Int) - 1).toNat = k - 1 := by omega
        cases h1 : x.ok
        · have ck : Hid (heapPair l k = false) := hide (by rw [hp.out]; simp [h1])
          go_wp2_with fail
          go_quiet ((first | (go_at_call 43; exact quiet_left (sOne_any b (o + k * 3) x _ hy d0 d1 d2)) | (go_at_call 44; exact quiet_left2 (sBefore_any b (o + (k - 1) * 3) b (o + k * 3) y x _ q0 q1 d0 d1))))
          go_wp2
          go_ret
          exact ⟨retB (hbad.out ck.out).symm, below_drewN hB.out _⟩
        · cases h2 : hLt y x
          · have ck : Hid (heapPair l k = false) := hide (by rw [hp.out]; simp [h2])
            go_wp2_with fail
            go_quiet ((first | (go_at_call 43; exact quiet_left (sOne_any b (o + k * 3) x _ hy d0 d1 d2)) | (go_at_call 44; exact quiet_left2 (sBefore_any b (o + (k - 1) * 3) b (o + k * 3) y x _ q0 q1 d0 d1))))
            go_wp2
            go_ret
            exact ⟨retB (hbad.out ck.out).symm, below_drewN hB.out _⟩
          · have ck : Hid (heapPair l k = true) := hide (by rw [hp.out]; simp [h1, h2])
            go_wp2_with fail
            go_quiet ((first | (go_at_call 43; exact quiet_left (sOne_any b (o + k * 3) x _ hy d0 d1 d2)) | (go_at_call 44; exact quiet_left2 (sBefore_any b (o + (k - 1) * 3) b (o + k * 3) y x _ q0 q1 d0 d1))))
            go_wp2
            go_roundw
            case rel => exact ⟨k + 1, by omega, by go_num, below_drewN hB.out _, hide (hgood.out ck.out)⟩
            case measure => simp [intOf]; omega
      · have hp := hide (show heapPair l k = x.ok by
          have hk0 : k = 0 := by omega
          subst hk0
          exact heapPair_zero hX.out)
        have hd : decide ((0 : Int) < (k : Int)) = false := by simp; omega
        have hB := hide hb
        clear hr hb hall
        cases h1 : x.ok
        · have ck : Hid (heapPair l k = false) := hide (by rw [hp.out]; simp [h1])
          go_wp2_with fail
          go_quiet ((first | (go_at_call 43; exact quiet_left (sOne_any b (o + k * 3) x _ hy d0 d1 d2))))
          go_wp2
          go_ret
          exact ⟨retB (hbad.out ck.out).symm, below_drewN hB.out _⟩
        · have ck : Hid (heapPair l k = true) := hide (by rw [hp.out]; simp [h1])
          go_wp2_with fail
          go_quiet ((first | (go_at_call 43; exact quiet_left (sOne_any b (o + k * 3) x _ hy d0 d1 d2))))
          go_wp2
          go_roundw
          case rel => exact ⟨k + 1, by omega, by go_num, below_drewN hB.out _, hide (hgood.out ck.out)⟩
          case measure => simp [intOf]; omega
    · have hkn : k = n := by omega
      subst hkn
      have hB := hide hb
      clear hb
      have ck : Hid (heapsOk l = decide (k ≤ 20)) := hide (by unfold heapsOk; rw [hl.out, hall.out, Bool.true_and])
      go_wp2
      go_ret
      exact ⟨retB (by rw [ck.out, decide_eq_decide]; omega), hB.out⟩
theorem sValidHeaps_any (A : Option Addr) (n c : Nat) (l : List Heap) (w : World) (hn : n ≤ 1048576) (hf : ∀ x ∈ l, x.fits) (hr : Arr Heap.cells 3 w w.heap.size A n l) :
    Calls Tryd.prog 12 #[.slice A n c] w fun e w' => e = .returned (.bool (heapsOk l)) ∧ Below w.heap.size w w' := by
  go_enter Tryd.func12, Tryd.ntmps12
  go_wp2_with fail
  refine (sHeaps_any A n c l w hn hf hr).mono ?_
  rintro e w1 ⟨rfl, hb⟩
  go_wp2
  go_ret
  exact ⟨rfl, hb⟩
end Go.Proofs.YtpnbnhhifgcklaaDoor
