/- Texts that belong together, joined: contracts and plain laws. No statement is proved here. -/
import Derived.Test.YtfpaejlipaainaaGreatDoorM02
import Derived.Test.YtfpaejlipaainaaGreatDoorM03
import Derived.Test.YtfpaejlipaainaaGreatDoorM05
import Derived.Test.YtfpaejlipaainaaGreatDoorM09
import Derived.Deep.RegionWith
import Derived.Lib.OwnBridge
import Derived.Sort.OwnSorted
import Derived.Lib.Overlaps
import Derived.Lib.AppendZerosOnto
import Derived.Laws.CopyRow
import Derived.Deep.RegionLaw
namespace Go.Proofs.YtfpaejlipaainaaGreatDoor
open Go.ChangeShapes Go.WideShapes Go.ChangeAt Go.RowKit Go.Deep
set_option maxRecDepth 100000
def heapPair (l : List Heap) (i : Nat) : Bool := match l[i]? with
  | some x => x.ok && (decide (i = 0) || (match l[i - 1]? with | some y => hLt y x | none => true))
  | none => true
def heapsOk (l : List Heap) : Bool := (List.range l.length).all (heapPair l) && decide (l.length ≤ 20)
theorem heapPair_zero {l : List Heap} {x : Heap} (h : l[0]? = some x) : heapPair l 0 = x.ok := by unfold heapPair; rw [h]; simp
theorem heapPair_pos {l : List Heap} {x y : Heap} {k : Nat} (h : l[k]? = some x) (hk : 0 < k) (h' : l[k - 1]? = some y) : heapPair l k = (x.ok && hLt y x) := by
  unfold heapPair; rw [h, h', decide_eq_false (by omega)]; simp
theorem heapPair_ok {l : List Heap} {n k : Nat} (h : (List.range n).all (heapPair l) = true) (hk : k < n) {x : Heap} (hx : l[k]? = some x) : x.ok = true := by
  have := List.all_eq_true.1 h k (List.mem_range.2 hk)
  unfold heapPair at this
  rw [hx] at this
  simp only [Bool.and_eq_true] at this
  exact this.1
set_option maxHeartbeats 1000000 in
theorem iHeaps_any (A : Option Addr) (n c : Nat) (l : List Heap) (w : World) (hn : n ≤ 1048576) (hf : ∀ x ∈ l, x.fits) (hr : Arr Heap.cells 3 w w.heap.size A n l) :
    Calls Tryz.prog 63 #[.slice A n c] w fun e w' => e = .returned (.bool (heapsOk l)) ∧ Below w.heap.size w w' := by
  have hl := hide hr.len
  have hF := hide hf
  clear hf
  go_enter Tryz.func63, Tryz.ntmps63
  go_wp2
  go_loopw [7] (fun i wr => ∃ k : Nat, k ≤ n ∧ i = .int .i64 k ∧ Below w.heap.size w wr ∧ Hid ((List.range k).all (heapPair l) = true)) (fun i _ => n - (intOf i).toNat)
  case atStart => exact ⟨0, Nat.zero_le _, rfl, Below.refl _ _, hide rfl⟩
  case round =>
    obtain ⟨k, hk, rfl, hb, hall⟩ := hrel
    by_cases hlt : k < n
    · obtain ⟨b, o, x, rfl, hbl, hx, c0, c1, c2⟩ := hr.Heap hlt
      have d0 : wr.cell? ⟨b, o + k * 3, none⟩ = some (.string x.fSort) := (hb.cell (p := ⟨b, o + k * 3, none⟩) hbl).trans c0
      have d1 : wr.cell? ⟨b, o + k * 3 + 1, none⟩ = some (.int .i64 x.fYear) := (hb.cell (p := ⟨b, o + k * 3 + 1, none⟩) hbl).trans c1
      have d2 : wr.cell? ⟨b, o + k * 3 + 2, none⟩ = some (.int .i64 x.fBundles) := (hb.cell (p := ⟨b, o + k * 3 + 2, none⟩) hbl).trans c2
      have hX := hide hx
      clear hx c0 c1 c2
      have hbs : b < wr.heap.size := Nat.lt_of_lt_of_le hbl hb.size
      have hy : x.fits := hF.out x (List.mem_of_getElem? hX.out)
      have hbad : Hid (heapPair l k = false → heapsOk l = false) := hide (fun h => by
        unfold heapsOk; rw [all_not (i := k) (x := k) (by rw [List.getElem?_range (by rw [hl.out]; exact hlt)]) h]; rfl)
      have hgood : Hid (heapPair l k = true → (List.range (k + 1)).all (heapPair l) = true) := hide (fun h => by rw [List.range_succ, List.all_append, hall.out]; simp [h])
      obtain ⟨O, hO⟩ : ∃ O : Obj, O = .cells #[.string x.fSort, .int .i64 x.fYear, .int .i64 x.fBundles] 106 := ⟨_, rfl⟩
      have k0 : (wr.alloc O).cell? ⟨wr.heap.size, 0, none⟩ = some (.string x.fSort) := by rw [hO, cell_of_row _ _ _ _ _ _ (heap_alloc_new wr _)]; rfl
      have k1 : (wr.alloc O).cell? ⟨wr.heap.size, 1, none⟩ = some (.int .i64 x.fYear) := by rw [hO, cell_of_row _ _ _ _ _ _ (heap_alloc_new wr _)]; rfl
      have k2 : (wr.alloc O).cell? ⟨wr.heap.size, 2, none⟩ = some (.int .i64 x.fBundles) := by rw [hO, cell_of_row _ _ _ _ _ _ (heap_alloc_new wr _)]; rfl
      have hB2 := hide (hb.alloc hb.size O)
      have hlt2 : wr.heap.size < (wr.alloc O).heap.size := by simp
      by_cases hz : 0 < k
      · obtain ⟨_, _, y, hA2, _, hx2, e0, e1, e2⟩ := hr.Heap (k := k - 1) (by omega)
        cases hA2
        have q0 : (wr.alloc O).cell? ⟨b, o + (k - 1) * 3, none⟩ = some (.string y.fSort) := (World.cell?_alloc_lt wr O ⟨b, o + (k - 1) * 3, none⟩ hbs).trans ((hb.cell (p := ⟨b, o + (k - 1) * 3, none⟩) hbl).trans e0)
        have q1 : (wr.alloc O).cell? ⟨b, o + (k - 1) * 3 + 1, none⟩ = some (.int .i64 y.fYear) := (World.cell?_alloc_lt wr O ⟨b, o + (k - 1) * 3 + 1, none⟩ hbs).trans ((hb.cell (p := ⟨b, o + (k - 1) * 3 + 1, none⟩) hbl).trans e1)
        have q2 : (wr.alloc O).cell? ⟨b, o + (k - 1) * 3 + 2, none⟩ = some (.int .i64 y.fBundles) := (World.cell?_alloc_lt wr O ⟨b, o + (k - 1) * 3 + 2, none⟩ hbs).trans ((hb.cell (p := ⟨b, o + (k - 1) * 3 + 2, none⟩) hbl).trans e2)
        have hbs2 : b < (wr.alloc O).heap.size := by simp; omega
        have hp := hide (heapPair_pos hX.out hz hx2)
        have hyo := Heap.ok_iff.1 (heapPair_ok hall.out (k := k - 1) (by omega) hx2)
        have hyy := hyo.2.1
        have hB := hide hb
        clear hr hb hall hx2 e0 e1 e2 hyo
        have hd : decide ((0 : Int) < (k : Int)) = true := by simp; omega
        have hi0 : (0 : Int) ≤ (k : Int) - 1 := by omega
        have hi1 : (k : Int) - 1 < (n : Int) := by omega
        have hw : IntKind.i64.wrap ((k : Int) - 1) = (k : Int) - 1 := IntWalk.i64_in _ (by omega)
        have hi2 : ((k : Int) - 1).toNat = k - 1 := by omega
        have hi3 : (1 : Int) ≤ (k : Int) := by omega
        have hi4 : (k : Int) ≤ (n : Int) := by omega
        have hi5 : k ≤ n := by omega
        have hi6 : 1 ≤ k := by omega
        cases h1 : x.ok
        · have ck : Hid (heapPair l k = false) := hide (by rw [hp.out]; simp [h1])
          go_wp2_with fail
          subst hO
          obtain ⟨w2, hw2⟩ : ∃ w2, w2 = wr.alloc (.cells #[.string x.fSort, .int .i64 x.fYear, .int .i64 x.fBundles] 106) := ⟨_, rfl⟩
          rw [← hw2] at k0 k1 k2 hB2 hlt2 q0 q1 q2 hbs2 ⊢
          clear hw2
          refine wp_region_any (by kernel_rfl) ?_
          try (change wpAny _ _ _ _ _ _ _ (World.drew _))
          refine wpAny_ready (rs := [0]) (by kernel_rfl) (by simp) ?_
          refine AllReady.cons rfl (fun K hK => ?_) AllReady.nil
          go_simp
          refine hK _ _ ?_
          clear hK K
          refine wpAny_ready (rs := [1]) (by kernel_rfl) (by simp) ?_
          refine AllReady.cons rfl (fun K hK => ?_) AllReady.nil
          go_simp
          go_wp2_with ((go_at_call 114; refine (iHeap_any x _ hy).mono ?_; rintro e w3 ⟨rfl, hb1⟩))
          try (refine hK _ _ ?_)
          try clear hK K
          refine wpAny_take (i := 2) (v := ?v1) rfl (by kernel_rfl) (by kernel_rfl) (by kernel_rfl) (fun _ _ _ h => h) (Or.inl ⟨by kernel_rfl, ?hy1⟩) ?rest1
          case hy1 => (intro W; go_simp; try (with_reducible rfl))
          refine wpAny_take (i := 3) (v := ?v2) rfl (by kernel_rfl) (by kernel_rfl) (by kernel_rfl) (fun _ _ _ h => h) (Or.inl ⟨by kernel_rfl, ?hy2⟩) ?rest2
          case hy2 => (intro W; go_simp; try (with_reducible rfl))
          refine wpAny_take (i := 4) rfl (by kernel_rfl) (by kernel_rfl) (by kernel_rfl) (fun _ _ _ h => h) (Or.inr ⟨by kernel_rfl, rfl⟩) ?_
          refine wpAny_take (i := 5) rfl (by kernel_rfl) (by kernel_rfl) (by kernel_rfl) (fun _ _ _ h => h) (Or.inr ⟨by kernel_rfl, rfl⟩) ?_
          refine wpAny_take (i := 6) rfl (by kernel_rfl) (by kernel_rfl) (by kernel_rfl) (fun _ _ _ h => h) (Or.inr ⟨by kernel_rfl, rfl⟩) ?_
          refine wpAny_take (i := 7) rfl (by kernel_rfl) (by kernel_rfl) (by kernel_rfl) (fun _ _ _ h => h) (Or.inr ⟨by kernel_rfl, rfl⟩) ?_
          refine wpAny_take (i := 8) rfl (by kernel_rfl) (by kernel_rfl) (by kernel_rfl) (fun _ _ _ h => h) (Or.inr ⟨by kernel_rfl, rfl⟩) ?_
          refine wpAny_take (i := 9) rfl (by kernel_rfl) (by kernel_rfl) (by kernel_rfl) (fun _ _ _ h => h) (Or.inr ⟨by kernel_rfl, rfl⟩) ?_
          refine wpAny_take (i := 10) rfl (by kernel_rfl) (by kernel_rfl) (by kernel_rfl) (fun _ _ _ h => h) (Or.inr ⟨by kernel_rfl, rfl⟩) ?_
          refine wpAny_take (i := 11) rfl (by kernel_rfl) (by kernel_rfl) (by kernel_rfl) (fun _ _ _ h => h) (Or.inr ⟨by kernel_rfl, rfl⟩) ?_
          refine wpAny_take (i := 12) rfl (by kernel_rfl) (by kernel_rfl) (by kernel_rfl) (fun _ _ _ h => h) (Or.inr ⟨by kernel_rfl, rfl⟩) ?_
          refine wpAny_take (i := 13) rfl (by kernel_rfl) (by kernel_rfl) (by kernel_rfl) (fun _ _ _ h => h) (Or.inr ⟨by kernel_rfl, rfl⟩) ?_
          refine wpAny_take (i := 14) rfl (by kernel_rfl) (by kernel_rfl) (by kernel_rfl) (fun _ _ _ h => h) (Or.inr ⟨by kernel_rfl, rfl⟩) ?_
          refine wpAny_take (i := 15) rfl (by kernel_rfl) (by kernel_rfl) (by kernel_rfl) (fun _ _ _ h => h) (Or.inr ⟨by kernel_rfl, rfl⟩) ?_
          refine wpAny_take (i := 16) (v := ?v3) rfl (by kernel_rfl) (by kernel_rfl) (by kernel_rfl) (fun _ _ _ h => h) (Or.inl ⟨by kernel_rfl, ?hy3⟩) ?rest3
          case hy3 => (intro W; go_simp; try (with_reducible rfl))
          refine wpAny_done (by kernel_rfl) ?_ _
          simp [Act.put]
          go_wp2
          go_ret
          exact ⟨retB (hbad.out ck.out).symm, Below.up (Below.drew hB2.out) hb1⟩
        · have hxy := (Heap.ok_iff.1 h1).2.1
          cases h2 : hLt y x
          · have ck : Hid (heapPair l k = false) := hide (by rw [hp.out]; simp [h2])
            have hc : 0 ≤ hCmp y x := by
              rcases Int.lt_or_le (hCmp y x) 0 with h | h
              · rw [hCmp_neg, h2] at h; cases h
              · exact h
            go_wp2_with fail
            subst hO
            obtain ⟨w2, hw2⟩ : ∃ w2, w2 = wr.alloc (.cells #[.string x.fSort, .int .i64 x.fYear, .int .i64 x.fBundles] 106) := ⟨_, rfl⟩
            rw [← hw2] at k0 k1 k2 hB2 hlt2 q0 q1 q2 hbs2 ⊢
            clear hw2
            go_region_held3 (fun w' => w'.cell? ⟨wr.heap.size, 0, none⟩ = some (.string x.fSort) ∧ w'.cell? ⟨wr.heap.size, 1, none⟩ = some (.int .i64 x.fYear) ∧ w'.cell? ⟨wr.heap.size, 2, none⟩ = some (.int .i64 x.fBundles) ∧ w'.cell? ⟨b, o + (k - 1) * 3, none⟩ = some (.string y.fSort) ∧ w'.cell? ⟨b, o + (k - 1) * 3 + 1, none⟩ = some (.int .i64 y.fYear) ∧ w'.cell? ⟨b, o + (k - 1) * 3 + 2, none⟩ = some (.int .i64 y.fBundles)) (first | go_keep | exact ⟨keepc hb1 hlt2 k0, keepc hb1 hlt2 k1, keepc hb1 hlt2 k2, keepc hb1 hbs2 q0, keepc hb1 hbs2 q1, keepc hb1 hbs2 q2⟩ | exact ⟨keepc hb4 (Nat.lt_of_lt_of_le hlt2 hb1.size) (keepc hb1 hlt2 k0), keepc hb4 (Nat.lt_of_lt_of_le hlt2 hb1.size) (keepc hb1 hlt2 k1), keepc hb4 (Nat.lt_of_lt_of_le hlt2 hb1.size) (keepc hb1 hlt2 k2), keepc hb4 (Nat.lt_of_lt_of_le hbs2 hb1.size) (keepc hb1 hbs2 q0), keepc hb4 (Nat.lt_of_lt_of_le hbs2 hb1.size) (keepc hb1 hbs2 q1), keepc hb4 (Nat.lt_of_lt_of_le hbs2 hb1.size) (keepc hb1 hbs2 q2)⟩) (first | (go_at_call 114; refine (iHeap_any x _ hy).mono ?_; rintro e w3 ⟨rfl, hb1⟩) | (go_at_call 115; refine (iCmp_any y x _ (by omega) (by omega) (by omega) (by omega)).mono ?_; rintro e w4 ⟨rfl, hb4⟩))
            go_wp2
            go_ret
            exact ⟨retB (hbad.out ck.out).symm, Below.up (Below.up (Below.drew hB2.out) hb1) hb4⟩
          · have ck : Hid (heapPair l k = true) := hide (by rw [hp.out]; simp [h1, h2])
            have hc : hCmp y x < 0 := hCmp_neg.2 h2
            go_wp2_with fail
            subst hO
            obtain ⟨w2, hw2⟩ : ∃ w2, w2 = wr.alloc (.cells #[.string x.fSort, .int .i64 x.fYear, .int .i64 x.fBundles] 106) := ⟨_, rfl⟩
            rw [← hw2] at k0 k1 k2 hB2 hlt2 q0 q1 q2 hbs2 ⊢
            clear hw2
            go_region_held3 (fun w' => w'.cell? ⟨wr.heap.size, 0, none⟩ = some (.string x.fSort) ∧ w'.cell? ⟨wr.heap.size, 1, none⟩ = some (.int .i64 x.fYear) ∧ w'.cell? ⟨wr.heap.size, 2, none⟩ = some (.int .i64 x.fBundles) ∧ w'.cell? ⟨b, o + (k - 1) * 3, none⟩ = some (.string y.fSort) ∧ w'.cell? ⟨b, o + (k - 1) * 3 + 1, none⟩ = some (.int .i64 y.fYear) ∧ w'.cell? ⟨b, o + (k - 1) * 3 + 2, none⟩ = some (.int .i64 y.fBundles)) (first | go_keep | exact ⟨keepc hb1 hlt2 k0, keepc hb1 hlt2 k1, keepc hb1 hlt2 k2, keepc hb1 hbs2 q0, keepc hb1 hbs2 q1, keepc hb1 hbs2 q2⟩ | exact ⟨keepc hb4 (Nat.lt_of_lt_of_le hlt2 hb1.size) (keepc hb1 hlt2 k0), keepc hb4 (Nat.lt_of_lt_of_le hlt2 hb1.size) (keepc hb1 hlt2 k1), keepc hb4 (Nat.lt_of_lt_of_le hlt2 hb1.size) (keepc hb1 hlt2 k2), keepc hb4 (Nat.lt_of_lt_of_le hbs2 hb1.size) (keepc hb1 hbs2 q0), keepc hb4 (Nat.lt_of_lt_of_le hbs2 hb1.size) (keepc hb1 hbs2 q1), keepc hb4 (Nat.lt_of_lt_of_le hbs2 hb1.size) (keepc hb1 hbs2 q2)⟩) (first | (go_at_call 114; refine (iHeap_any x _ hy).mono ?_; rintro e w3 ⟨rfl, hb1⟩) | (go_at_call 115; refine (iCmp_any y x _ (by omega) (by omega) (by omega) (by omega)).mono ?_; rintro e w4 ⟨rfl, hb4⟩))
            go_wp2
            go_roundw
            case rel => exact ⟨k + 1, by omega, by go_num, Below.up (Below.up (Below.drew hB2.out) hb1) hb4, hide (hgood.out ck.out)⟩
            case measure => simp [intOf]; omega
      · have hp := hide (show heapPair l k = x.ok by
          have hk0 : k = 0 := by omega
          subst hk0
          exact heapPair_zero hX.out)
        have hd : decide ((0 : Int) < (k : Int)) = false := by simp; omega
        have hB := hide hb
        clear hr hb hall
        cases h1 : x.ok
        · have ck : Hid (heapPair l k = false) := hide (by rw [hp.out]; simp [h1])
          go_wp2_with fail
          subst hO
          obtain ⟨w2, hw2⟩ : ∃ w2, w2 = wr.alloc (.cells #[.string x.fSort, .int .i64 x.fYear, .int .i64 x.fBundles] 106) := ⟨_, rfl⟩
          rw [← hw2] at k0 k1 k2 hB2 hlt2 ⊢
          clear hw2
          refine wp_region_any (by kernel_rfl) ?_
          try (change wpAny _ _ _ _ _ _ _ (World.drew _))
          refine wpAny_ready (rs := [0]) (by kernel_rfl) (by simp) ?_
          refine AllReady.cons rfl (fun K hK => ?_) AllReady.nil
          go_simp
          refine hK _ _ ?_
          clear hK K
          refine wpAny_ready (rs := [1]) (by kernel_rfl) (by simp) ?_
          refine AllReady.cons rfl (fun K hK => ?_) AllReady.nil
          go_simp
          go_wp2_with ((go_at_call 114; refine (iHeap_any x _ hy).mono ?_; rintro e w3 ⟨rfl, hb1⟩))
          try (refine hK _ _ ?_)
          try clear hK K
          refine wpAny_take (i := 2) (v := ?v4) rfl (by kernel_rfl) (by kernel_rfl) (by kernel_rfl) (fun _ _ _ h => h) (Or.inl ⟨by kernel_rfl, ?hy4⟩) ?rest4
          case hy4 => (intro W; go_simp; try (with_reducible rfl))
          refine wpAny_take (i := 3) (v := ?v5) rfl (by kernel_rfl) (by kernel_rfl) (by kernel_rfl) (fun _ _ _ h => h) (Or.inl ⟨by kernel_rfl, ?hy5⟩) ?rest5
          case hy5 => (intro W; go_simp; try (with_reducible rfl))
          refine wpAny_take (i := 4) rfl (by kernel_rfl) (by kernel_rfl) (by kernel_rfl) (fun _ _ _ h => h) (Or.inr ⟨by kernel_rfl, rfl⟩) ?_
          refine wpAny_take (i := 5) rfl (by kernel_rfl) (by kernel_rfl) (by kernel_rfl) (fun _ _ _ h => h) (Or.inr ⟨by kernel_rfl, rfl⟩) ?_
          refine wpAny_take (i := 6) rfl (by kernel_rfl) (by kernel_rfl) (by kernel_rfl) (fun _ _ _ h => h) (Or.inr ⟨by kernel_rfl, rfl⟩) ?_
          refine wpAny_take (i := 7) rfl (by kernel_rfl) (by kernel_rfl) (by kernel_rfl) (fun _ _ _ h => h) (Or.inr ⟨by kernel_rfl, rfl⟩) ?_
          refine wpAny_take (i := 8) rfl (by kernel_rfl) (by kernel_rfl) (by kernel_rfl) (fun _ _ _ h => h) (Or.inr ⟨by kernel_rfl, rfl⟩) ?_
          refine wpAny_take (i := 9) rfl (by kernel_rfl) (by kernel_rfl) (by kernel_rfl) (fun _ _ _ h => h) (Or.inr ⟨by kernel_rfl, rfl⟩) ?_
          refine wpAny_take (i := 10) rfl (by kernel_rfl) (by kernel_rfl) (by kernel_rfl) (fun _ _ _ h => h) (Or.inr ⟨by kernel_rfl, rfl⟩) ?_
          refine wpAny_take (i := 11) rfl (by kernel_rfl) (by kernel_rfl) (by kernel_rfl) (fun _ _ _ h => h) (Or.inr ⟨by kernel_rfl, rfl⟩) ?_
          refine wpAny_take (i := 12) rfl (by kernel_rfl) (by kernel_rfl) (by kernel_rfl) (fun _ _ _ h => h) (Or.inr ⟨by kernel_rfl, rfl⟩) ?_
          refine wpAny_take (i := 13) rfl (by kernel_rfl) (by kernel_rfl) (by kernel_rfl) (fun _ _ _ h => h) (Or.inr ⟨by kernel_rfl, rfl⟩) ?_
          refine wpAny_take (i := 14) rfl (by kernel_rfl) (by kernel_rfl) (by kernel_rfl) (fun _ _ _ h => h) (Or.inr ⟨by kernel_rfl, rfl⟩) ?_
          refine wpAny_take (i := 15) rfl (by kernel_rfl) (by kernel_rfl) (by kernel_rfl) (fun _ _ _ h => h) (Or.inr ⟨by kernel_rfl, rfl⟩) ?_
          refine wpAny_take (i := 16) (v := ?v6) rfl (by kernel_rfl) (by kernel_rfl) (by kernel_rfl) (fun _ _ _ h => h) (Or.inl ⟨by kernel_rfl, ?hy6⟩) ?rest6
          case hy6 => (intro W; go_simp; try (with_reducible rfl))
          refine wpAny_done (by kernel_rfl) ?_ _
          simp [Act.put]
          go_wp2
          go_ret
          exact ⟨retB (hbad.out ck.out).symm, Below.up (Below.drew hB2.out) hb1⟩
        · have ck : Hid (heapPair l k = true) := hide (by rw [hp.out]; simp [h1])
          go_wp2_with fail
          subst hO
          obtain ⟨w2, hw2⟩ : ∃ w2, w2 = wr.alloc (.cells #[.string x.fSort, .int .i64 x.fYear, .int .i64 x.fBundles] 106) := ⟨_, rfl⟩
          rw [← hw2] at k0 k1 k2 hB2 hlt2 ⊢
          clear hw2
          refine wp_region_any (by kernel_rfl) ?_
          try (change wpAny _ _ _ _ _ _ _ (World.drew _))
          refine wpAny_ready (rs := [0]) (by kernel_rfl) (by simp) ?_
          refine AllReady.cons rfl (fun K hK => ?_) AllReady.nil
          go_simp
          refine hK _ _ ?_
          clear hK K
          refine wpAny_ready (rs := [1]) (by kernel_rfl) (by simp) ?_
          refine AllReady.cons rfl (fun K hK => ?_) AllReady.nil
          go_simp
          go_wp2_with ((go_at_call 114; refine (iHeap_any x _ hy).mono ?_; rintro e w3 ⟨rfl, hb1⟩))
          try (refine hK _ _ ?_)
          try clear hK K
          refine wpAny_take (i := 2) (v := ?v7) rfl (by kernel_rfl) (by kernel_rfl) (by kernel_rfl) (fun _ _ _ h => h) (Or.inl ⟨by kernel_rfl, ?hy7⟩) ?rest7
          case hy7 => (intro W; go_simp; try (with_reducible rfl))
          refine wpAny_take (i := 3) (v := ?v8) rfl (by kernel_rfl) (by kernel_rfl) (by kernel_rfl) (fun _ _ _ h => h) (Or.inl ⟨by kernel_rfl, ?hy8⟩) ?rest8
          case hy8 => (intro W; go_simp; try (with_reducible rfl))
          refine wpAny_take (i := 4) (v := ?v9) rfl (by kernel_rfl) (by kernel_rfl) (by kernel_rfl) (fun _ _ _ h => h) (Or.inl ⟨by kernel_rfl, ?hy9⟩) ?rest9
          case hy9 => (intro W; go_simp; try (with_reducible rfl))
          refine wpAny_take (i := 5) (v := ?v10) rfl (by kernel_rfl) (by kernel_rfl) (by kernel_rfl) (fun _ _ _ h => h) (Or.inl ⟨by kernel_rfl, ?hy10⟩) ?rest10
          case hy10 => (intro W; go_simp; try (with_reducible rfl))
          refine wpAny_take (i := 6) (v := ?v11) rfl (by kernel_rfl) (by kernel_rfl) (by kernel_rfl) (fun _ _ _ h => h) (Or.inl ⟨by kernel_rfl, ?hy11⟩) ?rest11
          case hy11 => (intro W; go_simp; try (with_reducible rfl))
          refine wpAny_take (i := 7) rfl (by kernel_rfl) (by kernel_rfl) (by kernel_rfl) (fun _ _ _ h => h) (Or.inr ⟨by kernel_rfl, rfl⟩) ?_
          refine wpAny_take (i := 8) rfl (by kernel_rfl) (by kernel_rfl) (by kernel_rfl) (fun _ _ _ h => h) (Or.inr ⟨by kernel_rfl, rfl⟩) ?_
          refine wpAny_take (i := 9) rfl (by kernel_rfl) (by kernel_rfl) (by kernel_rfl) (fun _ _ _ h => h) (Or.inr ⟨by kernel_rfl, rfl⟩) ?_
          refine wpAny_take (i := 10) rfl (by kernel_rfl) (by kernel_rfl) (by kernel_rfl) (fun _ _ _ h => h) (Or.inr ⟨by kernel_rfl, rfl⟩) ?_
          refine wpAny_take (i := 11) rfl (by kernel_rfl) (by kernel_rfl) (by kernel_rfl) (fun _ _ _ h => h) (Or.inr ⟨by kernel_rfl, rfl⟩) ?_
          refine wpAny_take (i := 12) rfl (by kernel_rfl) (by kernel_rfl) (by kernel_rfl) (fun _ _ _ h => h) (Or.inr ⟨by kernel_rfl, rfl⟩) ?_
          refine wpAny_take (i := 13) rfl (by kernel_rfl) (by kernel_rfl) (by kernel_rfl) (fun _ _ _ h => h) (Or.inr ⟨by kernel_rfl, rfl⟩) ?_
          refine wpAny_take (i := 14) rfl (by kernel_rfl) (by kernel_rfl) (by kernel_rfl) (fun _ _ _ h => h) (Or.inr ⟨by kernel_rfl, rfl⟩) ?_
          refine wpAny_take (i := 15) (v := ?v12) rfl (by kernel_rfl) (by kernel_rfl) (by kernel_rfl) (fun _ _ _ h => h) (Or.inl ⟨by kernel_rfl, ?hy12⟩) ?rest12
          case hy12 => (intro W; go_simp; try (with_reducible rfl))
          refine wpAny_take (i := 16) (v := ?v13) rfl (by kernel_rfl) (by kernel_rfl) (by kernel_rfl) (fun _ _ _ h => h) (Or.inl ⟨by kernel_rfl, ?hy13⟩) ?rest13
          case hy13 => (intro W; go_simp; try (with_reducible rfl))
          refine wpAny_done (by kernel_rfl) ?_ _
          simp [Act.put]
          go_wp2
          go_roundw
          case rel => exact ⟨k + 1, by omega, by go_num, Below.up (Below.drew hB2.out) hb1, hide (hgood.out ck.out)⟩
          case measure => simp [intOf]; omega
    · have hkn : k = n := by omega
      subst hkn
      have hB := hide hb
      clear hb
      have ck : Hid (heapsOk l = decide (k ≤ 20)) := hide (by unfold heapsOk; rw [hl.out, hall.out, Bool.true_and])
      go_wp2
      go_ret
      exact ⟨retB (by rw [ck.out, decide_eq_decide]; omega), hB.out⟩
set_option maxHeartbeats 1000000 in
theorem sHeaps_any (A : Option Addr) (n c : Nat) (l : List Heap) (w : World) (hn : n ≤ 1048576) (hf : ∀ x ∈ l, x.fits) (hr : Arr Heap.cells 3 w w.heap.size A n l) :
    Calls Tryz.prog 85 #[.slice A n c] w fun e w' => e = .returned (.bool (heapsOk l)) ∧ Below w.heap.size w w' := by
  have hl := hide hr.len
  have hF := hide hf
  clear hf
  go_enter Tryz.func85, Tryz.ntmps85
  go_wp2
  go_loopw [3] (fun i wr => ∃ k : Nat, k ≤ n ∧ i = .int .i64 k ∧ Below w.heap.size w wr ∧ Hid ((List.range k).all (heapPair l) = true)) (fun i _ => n - (intOf i).toNat)
  case atStart => exact ⟨0, Nat.zero_le _, rfl, Below.refl _ _, hide rfl⟩
  case round =>
    obtain ⟨k, hk, rfl, hb, hall⟩ := hrel
    by_cases hlt : k < n
    · obtain ⟨b, o, x, rfl, hbl, hx, c0, c1, c2⟩ := hr.Heap hlt
      have d0 : wr.cell? ⟨b, o + k * 3, none⟩ = some (.string x.fSort) := (hb.cell (p := ⟨b, o + k * 3, none⟩) hbl).trans c0
      have d1 : wr.cell? ⟨b, o + k * 3 + 1, none⟩ = some (.int .i64 x.fYear) := (hb.cell (p := ⟨b, o + k * 3 + 1, none⟩) hbl).trans c1
      have d2 : wr.cell? ⟨b, o + k * 3 + 2, none⟩ = some (.int .i64 x.fBundles) := (hb.cell (p := ⟨b, o + k * 3 + 2, none⟩) hbl).trans c2
      have hX := hide hx
      clear hx c0 c1 c2
      have hk0 : (0 : Int) ≤ (k : Int) := by omega
      have hk1 : (k : Int) < (n : Int) := by omega
      have hy : x.fits := hF.out x (List.mem_of_getElem? hX.out)
      have hbad : Hid (heapPair l k = false → heapsOk l = false) := hide (fun h => by
        unfold heapsOk; rw [all_not (i := k) (x := k) (by rw [List.getElem?_range (by rw [hl.out]; exact hlt)]) h]; rfl)
      have hgood : Hid (heapPair l k = true → (List.range (k + 1)).all (heapPair l) = true) := hide (fun h => by rw [List.range_succ, List.all_append, hall.out]; simp [h])
      by_cases hz : 0 < k
      · obtain ⟨_, _, y, hA2, _, hx2, e0, e1, e2⟩ := hr.Heap (k := k - 1) (by omega)
        cases hA2
        have q0 : wr.cell? ⟨b, o + (k - 1) * 3, none⟩ = some (.string y.fSort) := (hb.cell (p := ⟨b, o + (k - 1) * 3, none⟩) hbl).trans e0
        have q1 : wr.cell? ⟨b, o + (k - 1) * 3 + 1, none⟩ = some (.int .i64 y.fYear) := (hb.cell (p := ⟨b, o + (k - 1) * 3 + 1, none⟩) hbl).trans e1
        have hp := hide (heapPair_pos hX.out hz hx2)
        have hB := hide hb
        clear hr hb hall hx2 e0 e1 e2
        have hd : decide ((0 : Int) < (k : Int)) = true := by simp; omega
        have hi0 : (0 : Int) ≤ (k : Int) - 1 := by omega
        have hi1 : (k : Int) - 1 < (n : Int) := by omega
        have hw : IntKind.i64.wrap ((k : Int) - 1) = (k : Int) - 1 := IntWalk.i64_in _ (by omega)
        have hi2 : ((k : Int) - 1).toNat = k - 1 := by omega
        cases h1 : x.ok
        · have ck : Hid (heapPair l k = false) := hide (by rw [hp.out]; simp [h1])
          go_wp2_with fail
          go_quiet ((first | (go_at_call 136; exact quiet_left (sOne_any b (o + k * 3) x _ hy d0 d1 d2)) | (go_at_call 137; exact quiet_left2 (sBefore_any b (o + (k - 1) * 3) b (o + k * 3) y x _ q0 q1 d0 d1))))
          go_wp2
          go_ret
          exact ⟨retB (hbad.out ck.out).symm, below_drewN hB.out _⟩
        · cases h2 : hLt y x
          · have ck : Hid (heapPair l k = false) := hide (by rw [hp.out]; simp [h2])
            go_wp2_with fail
            go_quiet ((first | (go_at_call 136; exact quiet_left (sOne_any b (o + k * 3) x _ hy d0 d1 d2)) | (go_at_call 137; exact quiet_left2 (sBefore_any b (o + (k - 1) * 3) b (o + k * 3) y x _ q0 q1 d0 d1))))
            go_wp2
            go_ret
            exact ⟨retB (hbad.out ck.out).symm, below_drewN hB.out _⟩
          · have ck : Hid (heapPair l k = true) := hide (by rw [hp.out]; simp [h1, h2])
            go_wp2_with fail
            go_quiet ((first | (go_at_call 136; exact quiet_left (sOne_any b (o + k * 3) x _ hy d0 d1 d2)) | (go_at_call 137; exact quiet_left2 (sBefore_any b (o + (k - 1) * 3) b (o + k * 3) y x _ q0 q1 d0 d1))))
            go_wp2
            go_roundw
            case rel => exact ⟨k + 1, by omega, by go_num, below_drewN hB.out _, hide (hgood.out ck.out)⟩
            case measure => simp [intOf]; omega
      · have hp := hide (show heapPair l k = x.ok by
          have hk0 : k = 0 := by omega
          subst hk0
          exact heapPair_zero hX.out)
        have hd : decide ((0 : Int) < (k : Int)) = false := by simp; omega
        have hB := hide hb
        clear hr hb hall
        cases h1 : x.ok
        · have ck : Hid (heapPair l k = false) := hide (by rw [hp.out]; simp [h1])
          go_wp2_with fail
          go_quiet ((first | (go_at_call 136; exact quiet_left (sOne_any b (o + k * 3) x _ hy d0 d1 d2))))
          go_wp2
          go_ret
          exact ⟨retB (hbad.out ck.out).symm, below_drewN hB.out _⟩
        · have ck : Hid (heapPair l k = true) := hide (by rw [hp.out]; simp [h1])
          go_wp2_with fail
          go_quiet ((first | (go_at_call 136; exact quiet_left (sOne_any b (o + k * 3) x _ hy d0 d1 d2))))
          go_wp2
          go_roundw
          case rel => exact ⟨k + 1, by omega, by go_num, below_drewN hB.out _, hide (hgood.out ck.out)⟩
          case measure => simp [intOf]; omega
    · have hkn : k = n := by omega
      subst hkn
      have hB := hide hb
      clear hb
      have ck : Hid (heapsOk l = decide (k ≤ 20)) := hide (by unfold heapsOk; rw [hl.out, hall.out, Bool.true_and])
      go_wp2
      go_ret
      exact ⟨retB (by rw [ck.out, decide_eq_decide]; omega), hB.out⟩
end Go.Proofs.YtfpaejlipaainaaGreatDoor
namespace Go.Proofs.YtfpaejlipaainaaGreatDoor
open Go.ChangeShapes Go.WideShapes Go.ChangeAt Go.RowKit Go.Deep Go.Sort
set_option maxRecDepth 100000
def toBytes (l : List ByteArray) : List (List UInt8) := l.map (·.data.toList)
theorem enc_toBytes (l : List ByteArray) : (toBytes l).map encStr = l.map Value.string := Lib.map_encStr l
theorem Own.enc {e : TypeId} {w : World} {base n : Nat} {v : Value} {l : List ByteArray} (h : Own strc e 1 w base v n l) : w.ownsRow base e 1 v n ((toBytes l).map encStr) := by
  have := h.2
  rwa [flat_strc, ← enc_toBytes] at this
end Go.Proofs.YtfpaejlipaainaaGreatDoor
namespace Go.Proofs.YtfpaejlipaainaaGreatDoor
open Go.ChangeShapes Go.WideShapes Go.ChangeAt Go.RowKit Go.Deep
set_option maxRecDepth 100000
theorem Heap.one : ∀ x, ∀ u ∈ Heap.cells x, u.oneCell' = true := by intro x u hu; simp [Heap.cells] at hu; rcases hu with rfl | rfl | rfl <;> rfl
theorem info_Heap' : (Tryz.prog.info? 106).map (fun i => (i.zero, i.size, i.bytes)) = some (some (.agg #[.string ByteArray.empty, .int .i64 0, .int .i64 0]), 3, 32) := by kernel_rfl
theorem heapsOk_at {l : List Heap} (h : heapsOk l = true) {x : Heap} (hx : x ∈ l) : (1800 ≤ x.fYear ∧ x.fYear ≤ 2100) ∧ (1 ≤ x.fBundles ∧ x.fBundles ≤ 1000) := by
  simp only [heapsOk, Bool.and_eq_true] at h
  obtain ⟨k, hk⟩ := List.mem_iff_getElem?.1 hx
  exact (Heap.ok_iff.1 (heapPair_ok h.1 (lt_of_get hk) hk)).2
theorem heapsOk_len {l : List Heap} (h : heapsOk l = true) : l.length ≤ 20 := by
  simp only [heapsOk, Bool.and_eq_true, decide_eq_true_eq] at h; exact h.2
end Go.Proofs.YtfpaejlipaainaaGreatDoor
namespace Go.Proofs.YtfpaejlipaainaaGreatDoor
open Go.ChangeShapes Go.WideShapes Go.ChangeAt Go.RowKit Go.Deep
set_option maxRecDepth 100000
theorem run_copyS {P : Program} (w : World) (dT sT ty elem : TypeId) (s g o dLen dCap : Nat) (a : Addr) (sLen sCap : Nat) (cur : Array Value) (t : TypeId) (cs : List Value) (k : Nat)
    (hu : P.underlying dT = some (.slice elem)) (hs : (P.info? elem).map (·.size) = some s)
    (hg : w.heap[g]? = some (.cells cur t (0, 0))) (hk : Nat.min sLen dLen = k) (hn : cs.length = k * s)
    (hsrc : ∀ j v, cs[j]? = some v → w.cell? (a.add j) = some v) (hfit : o + cs.length ≤ cur.size) (h1 : ∀ v ∈ cs, v.oneCell' = true) :
    (Builtin.copy_ #[dT, sT] ty #[.slice (some ⟨g, o, none⟩) dLen dCap, .slice (some a) sLen sCap]).run P w =
      .ok (goInt k) (w.setRow g (cur.toList.take o ++ cs ++ cur.toList.drop (o + cs.length)).toArray) := by
  have hl := run_loadCells_list (P := P) w a cs hsrc
  have hst := run_storeCells_at P g o t cs 0 cur w hg (by simpa using hfit) h1
  rw [hn] at hl
  cases hq : P.info? elem with
  | none => simp [hq] at hs
  | some i =>
    have hi : i.size = s := by simpa [hq] using hs
    simp [Builtin.copy_, run_underlying hu, Builtin.lenOf, Builtin.firstCells, sizeOf, typeInfo, hq, hi, hk, hl, hst]
theorem step_copyS {P : Program} {w w' : World} {ops : Array Oper} {o : Oper} {a : Act} {K : Act → World → Prop} {Q : Exit → Act → World → Prop} {E : Prop} (hgd : o.guard = none) (d s : Operand) (dT sT : TypeId)
    (ho : o.op = .call { callee := .builtin .copy, args := #[d, s], argTypes := #[dT, sT] }) {v u r : Value} (hd : a.eval d = v) (hs : a.eval s = u)
    (hr : (Builtin.copy_ #[dT, sT] o.type #[v, u]).run P w = .ok r w') (h : K (a.put o.dst r) w') : if Region.wanted o (yielded ops a.tmps) = true then Oper.wp P o a w K Q else E := by
  have hw : Region.wanted o (yielded ops a.tmps) = true := by simp [Region.wanted, hgd]
  rw [if_pos hw]
  unfold Oper.wp
  simp [execOp, ho, resolve, invoke, builtin, hd, hs, hr, Result.andThen]
  exact h
theorem wpl_run {P : Program} {w w' : World} {ops : Array Oper} {rest : List Oper} {o : Oper} {a : Act} {Q : Exit → Act → World → Prop} (hgd : o.guard = none) (d s : Operand) (dT sT : TypeId)
    (ho : o.op = .call { callee := .builtin .append, args := #[d, s], argTypes := #[dT, sT] }) {v u r : Value} (hd : a.eval d = v) (hs : a.eval s = u)
    (hr : (Builtin.append_ #[dT, sT] o.type #[v, u]).run P w = .ok r w') (h : wpList P ops Q rest (a.put o.dst r) w') : wpList P ops Q (o :: rest) a w := by
  refine wpList_plain hgd fun K hK => ?_
  unfold Oper.wp
  simp [execOp, ho, resolve, invoke, builtin, hd, hs, hr, Result.andThen]
  exact hK _ _ h
theorem grown_two' {a b c : World} {row : Option Nat} (h : a.grownBy b row) (h' : b.grownBy c row) : a.grownBy c row :=
  ⟨h'.os.trans h.os, h'.tape.trans h.tape, h'.output.trans h.output, Nat.le_trans h.size h'.size, fun k hk hne => (h'.block k (Nat.lt_of_lt_of_le hk h.size) hne).trans (h.block k hk hne)⟩
theorem grown_drewN' (w : World) (k : Nat) (row : Option Nat) : w.grownBy (w.drewN k) row := by
  have hb := below_drewN (Below.refl w.heap.size w) k
  exact ⟨hb.os, hb.tape, hb.output, hb.size, fun i hi _ => hb.block i hi⟩
theorem grown_setRow (w : World) (g : Nat) (cs : Array Value) : w.grownBy (w.setRow g cs) (some g) :=
  ⟨rfl, rfl, rfl, by simp [World.setRow], fun k _ hne => setRow_other w g k cs (fun e => hne (by rw [e]))⟩
def Ins (w : World) (base : Nat) (V : Value) (n : Nat) (l : List Heap) (e : Ending) (w' : World) : Prop := ∃ V', e = .returned V' ∧ Own Heap.cells 106 3 w' base V' n l ∧ w.grownBy w' V.ownBlock
theorem arr_one {w : World} {vb : Nat} {x : Heap} (hv : w.heap[vb]? = some (.cells #[.string x.fSort, .int .i64 x.fYear, .int .i64 x.fBundles] 106 (0, 0))) : Arr Heap.cells 3 w w.heap.size (some ⟨vb, 0, none⟩) 1 [x] := by
  refine ⟨rfl, fun _ => ⟨_, _, rfl, (Array.getElem?_eq_some_iff.1 hv).1, fun i y hy j u hu => ?_⟩⟩
  have hi : i = 0 := by have := lt_of_get hy; simp at this; exact this
  subst hi
  obtain rfl : x = y := by simpa using hy
  simp only [Nat.zero_mul, Nat.zero_add]
  rw [cell_of_row _ _ _ _ _ _ hv]
  simpa [Heap.cells] using hu
set_option maxHeartbeats 2000000 in
theorem insEnd_any (V : Value) (n i : Nat) (l : List Heap) (x : Heap) (vb vc base : Nat) (w : World) (ho : Own Heap.cells 106 3 w base V n l) (hn : n ≤ 100000) (hb : base ≤ w.heap.size) (hv : w.heap[vb]? = some (.cells #[.string x.fSort, .int .i64 x.fYear, .int .i64 x.fBundles] 106 (0, 0))) (hi : i = n) :
    Calls Tryz.prog 179 #[V, .int .i64 i, .slice (some ⟨vb, 0, none⟩) 1 vc] w fun e w' => Ins w base V (n + 1) (l.take i ++ x :: l.drop i) e w' := by
  have hO := hide ho
  have hA := hide (arr_one hv)
  have htk : Hid (l.take i ++ x :: l.drop i = l ++ [x]) := hide (by rw [List.take_of_length_le (by have := ho.len; omega), List.drop_eq_nil_of_le (by have := ho.len; omega)])
  obtain ⟨A, c, hV, hnc⟩ := ho.slice
  have hcm : c ≤ maxLen := by
    rcases ho.form with ⟨h1, _⟩ | ⟨g, cap, h1, _, _, _, h4⟩
    · rw [hV] at h1; injection h1 with _ _ h3; subst h3; unfold maxLen; omega
    · rw [hV] at h1; injection h1 with _ _ h3; subst h3; exact h4
  subst hi
  clear ho hv
  by_cases hci : c = i
  all_goals
    (subst hV
     go_enter Tryz.func179, Tryz.ntmps179
     go_wp2_with (at_builtin; refine wpl_appN rfl (.tmp 23) (.tmp 24) rfl Tryz.underlying27 info_Heap' rfl (by omega) (by omega) Heap.len Heap.one rfl hO.out rfl hA.out (by omega) hb ?_; intro v' w1 ho2 hg2 _; have hO2 := hide ho2; have hG2 := hide hg2; clear ho2 hg2)
     go_ret
     exact ⟨_, rfl, by rw [htk.out]; exact hO2.out, hG2.out⟩)
theorem splice_two {L F1 F2 X : List Value} {a b : Nat} (h1 : F1.length = a) (h2 : F2.length = b) (hX : X.length = 3) (hL : L.take (a + b) = F1 ++ F2) (hl : a + b + 3 ≤ L.length) :
    ((L.take (a + 3) ++ F2 ++ L.drop (a + 3 + F2.length)).take a ++ X ++ (L.take (a + 3) ++ F2 ++ L.drop (a + 3 + F2.length)).drop (a + X.length)) = F1 ++ X ++ F2 ++ L.drop (a + 3 + b) := by
  have e1 : L.take a = F1 := by
    have := congrArg (List.take a) hL
    rw [List.take_take, Nat.min_eq_left (by omega), List.take_left' h1] at this
    exact this
  rw [hX, h2]
  have l1 : (L.take (a + 3)).length = a + 3 := by rw [List.length_take]; omega
  rw [List.append_assoc (L.take (a + 3)), List.take_append_of_le_length (by omega), List.take_take, Nat.min_eq_left (by omega), e1, List.drop_append_of_le_length (by omega), List.drop_eq_nil_of_le (by omega), List.nil_append]
  simp [List.append_assoc]
theorem own_room {w : World} {base g n c : Nat} {l : List Heap} (h : Own Heap.cells 106 3 w base (.slice (some ⟨g, 0, none⟩) n c) n l) (hn : 0 < n) :
    ∃ cur : Array Value, w.heap[g]? = some (.cells cur 106 (0, 0)) ∧ cur.size = c * 3 ∧ cur.toList.take (n * 3) = l.flatMap Heap.cells ∧ base ≤ g ∧ c ≤ maxLen ∧ n ≤ c := by
  rcases h.2.2 with ⟨h1, h2⟩ | ⟨g', cap, cur, h1, h2, h3, h4, h5, h6, h7⟩
  · omega
  · injection h1 with h8 _ h9
    injection h8 with h8
    injection h8 with h8
    subst h8 h9
    exact ⟨cur, h3, h6, h7, h2, h5, h4⟩
theorem size_Heap : (Tryz.prog.info? 106).map (·.size) = some 3 := by
  obtain ⟨i0, hi0, _, h1, _⟩ := info_parts info_Heap'
  rw [hi0]; simp [h1]
theorem sizeOf_Heap : ∀ w, (Go.sizeOf 106).run Tryz.prog w = .ok 3 w := by
  intro w
  obtain ⟨i0, hi0, _, h1, _⟩ := info_parts info_Heap'
  simp [sizeOf, typeInfo, hi0, h1]
set_option maxHeartbeats 2000000 in
theorem insRoom_any (g c : Nat) (V : Value) (n i : Nat) (l : List Heap) (x : Heap) (vb vc base : Nat) (w : World) (ho : Own Heap.cells 106 3 w base V n l) (hn : n ≤ 100000) (_hb : base ≤ w.heap.size) (hv : w.heap[vb]? = some (.cells #[.string x.fSort, .int .i64 x.fYear, .int .i64 x.fBundles] 106 (0, 0))) (hi : i < n) (hV : V = .slice (some ⟨g, 0, none⟩) n c) (hroom : n + 1 ≤ c) (hne : g ≠ vb) :
    Calls Tryz.prog 179 #[.slice (some ⟨g, 0, none⟩) n c, .int .i64 i, .slice (some ⟨vb, 0, none⟩) 1 vc] w fun e w' => Ins w base V (n + 1) (l.take i ++ x :: l.drop i) e w' := by
  subst hV
  have hO := hide ho
  obtain ⟨cur, hg, hcs, hcl, hbg, hcm, _⟩ := own_room ho (by omega)
  have hll : l.length = n := ho.len
  have hF1 : ((l.take i).flatMap Heap.cells).length = i * 3 := by rw [flat_len Heap.len, List.length_take]; congr 1; omega
  have hF2 : ((l.drop i).flatMap Heap.cells).length = (n - i) * 3 := by rw [flat_len Heap.len, List.length_drop, hll]
  have hFF : l.flatMap Heap.cells = (l.take i).flatMap Heap.cells ++ (l.drop i).flatMap Heap.cells := by rw [← List.flatMap_append, List.take_append_drop]
  have hone : ∀ v ∈ (l.drop i).flatMap Heap.cells, v.oneCell' = true := by
    intro v hv
    obtain ⟨y, _, hy⟩ := List.mem_flatMap.1 hv
    exact Heap.one y v hy
  obtain ⟨F1, hf1⟩ : ∃ F1, F1 = (l.take i).flatMap Heap.cells := ⟨_, rfl⟩
  obtain ⟨F2, hf2⟩ : ∃ F2, F2 = (l.drop i).flatMap Heap.cells := ⟨_, rfl⟩
  rw [← hf1] at hF1
  rw [← hf2] at hF2 hone
  have hres : Hid ((l.take i ++ x :: l.drop i).flatMap Heap.cells = F1 ++ Heap.cells x ++ F2) := hide (by rw [List.flatMap_append, List.flatMap_cons, ← hf1, ← hf2, List.append_assoc])
  rw [hFF, ← hf1, ← hf2] at hcl
  have hsrc1 : ∀ j v, F2[j]? = some v → w.cell? ⟨g, i * 3 + j, none⟩ = some v := by
    intro j v hj
    have hjl := lt_of_get hj
    rw [cell_of_row _ _ _ _ _ _ hg, ← Array.getElem?_toList]
    have h3 : (cur.toList.take (n * 3))[i * 3 + j]? = some v := by rw [hcl, List.getElem?_append_right (by omega), hF1, Nat.add_sub_cancel_left]; exact hj
    rw [List.getElem?_take, if_pos (by omega)] at h3
    exact h3
  have hlt := (Array.getElem?_eq_some_iff.1 hg).1
  have hov : ∀ lb cb, (callFunc 232 #[.slice (some ⟨vb, 0, none⟩) 1 vc, .slice (some ⟨g, (i + 1) * 3, none⟩) lb cb]).run Tryz.prog w = .ok (.value (.bool false)) w := fun lb cb => by
    rw [run_callFunc_extern Tryz.func232 (by kernel_rfl) (by kernel_rfl) (by kernel_rfl) (e := Extern.SlicesOverlaps.overlaps #[27, 27] #[4]) (by kernel_rfl),
      Lib.run_overlaps_apart w 27 4 106 Tryz.underlying27 3 sizeOf_Heap ⟨vb, 0, none⟩ ⟨g, (i + 1) * 3, none⟩ 1 vc lb cb (Ne.symm hne) 106 106 3 (c * 3) (by simp [World.shape?, hv]) (by simp [World.shape?, hg, hcs]) (by omega) (frozen_of_row _ _ _ _ _ hv) (frozen_of_row _ _ _ _ _ hv)]
    rfl
  have hw1 : IntKind.i64.wrap ((i : Int) + 1) = (i : Int) + 1 := IntWalk.i64_in _ (by omega)
  have hw2 : IntKind.i64.wrap ((n : Int) + 1) = (n : Int) + 1 := IntWalk.i64_in _ (by omega)
  have hb1 : (0 : Int) ≤ (i : Int) + 1 := by omega
  have hin : i ≤ n := by omega
  have htn : ((i : Int) + 1).toNat = i + 1 := by omega
  have htn2 : ((n : Int) + 1).toNat = n + 1 := by omega
  have hb2 : ¬ (c = i + 1) := by omega
  have hb3 : (i : Int) ≤ (n : Int) + 1 := by omega
  have hb4 : ¬ (c = i) := by omega
  have hb5 : ¬ ((c : Int) < (n : Int) + 1) := by omega
  have hz2 : ¬ ((i : Int) = (n : Int)) := by omega
  have hb6 : (n : Int) + 1 ≤ (c : Int) := by omega
  have hb7 : (0 : Int) ≤ (n : Int) + 1 := by omega
  have hb8 : (i : Int) + 1 ≤ (n : Int) + 1 := by omega
  have hb9 : (i : Int) ≤ (n : Int) := by omega
  have hcs3 : (i + 1) * 3 = i * 3 + 3 := by omega
  have hxs : (Heap.cells x).length = 3 := rfl
  obtain ⟨R1, hR1⟩ : ∃ R1 : Array Value, R1 = (cur.toList.take ((i + 1) * 3) ++ F2 ++ cur.toList.drop ((i + 1) * 3 + F2.length)).toArray := ⟨_, rfl⟩
  have hcp1 : ∀ ty dc sc, (Builtin.copy_ #[27, 27] ty #[.slice (some ⟨g, (i + 1) * 3, none⟩) (n + 1 - (i + 1)) dc, .slice (some ⟨g, i * 3, none⟩) (n + 1 - i) sc]).run Tryz.prog w.drew = .ok (goInt ((n - i : Nat) : Int)) (w.drew.setRow g R1) := fun ty dc sc => by
    rw [hR1]
    exact run_copyS w.drew _ _ ty 106 3 g _ _ dc ⟨g, i * 3, none⟩ _ sc cur 106 F2 (n - i) Tryz.underlying27 size_Heap hg (by simp only [Nat.min_def]; split <;> omega) hF2 (fun j v hj => by rw [Addr.add_lit]; exact hsrc1 j v hj) (by omega) hone
  have hsz1 : R1.size = cur.size := by
    rw [hR1, List.size_toArray, List.length_append, List.length_append, List.length_take, List.length_drop, Array.length_toList]; omega
  obtain ⟨W1, hW1⟩ : ∃ W1, W1 = w.drew.setRow g R1 := ⟨_, rfl⟩
  have hg1 : W1.heap[g]? = some (.cells R1 106 (0, 0)) := by rw [hW1]; exact setRow_heap w.drew g cur R1 106 _ hg
  have hv1 : W1.heap[vb]? = some (.cells #[.string x.fSort, .int .i64 x.fYear, .int .i64 x.fBundles] 106 (0, 0)) := by rw [hW1, setRow_other w.drew g vb R1 (Ne.symm hne)]; exact hv
  have hG1 : Hid (w.grownBy W1 (some g)) := hide (by rw [hW1]; exact grown_two' (grown_drewN' w 1 _) (grown_setRow _ _ _))
  rw [← hW1] at hcp1
  obtain ⟨R2, hR2⟩ : ∃ R2 : Array Value, R2 = (R1.toList.take (i * 3) ++ Heap.cells x ++ R1.toList.drop (i * 3 + (Heap.cells x).length)).toArray := ⟨_, rfl⟩
  have hcp2 : ∀ ty dc, (Builtin.copy_ #[27, 27] ty #[.slice (some ⟨g, i * 3, none⟩) (n + 1 - i) dc, .slice (some ⟨vb, 0, none⟩) 1 vc]).run Tryz.prog W1 = .ok (goInt ((1 : Nat) : Int)) (W1.setRow g R2) := fun ty dc => by
    rw [hR2]
    exact run_copyS W1 _ _ ty 106 3 g _ _ dc ⟨vb, 0, none⟩ _ vc R1 106 (Heap.cells x) 1 Tryz.underlying27 size_Heap hg1 (by simp only [Nat.min_def]; split <;> omega) rfl (fun j v hj => by
      rw [Addr.add_lit, Nat.zero_add, cell_of_row _ _ _ _ _ _ hv1]
      simpa [Heap.cells] using hj) (by rw [hsz1, hxs]; omega) (fun v hv => Heap.one x v hv)
  have hR2l : R2.toList = F1 ++ Heap.cells x ++ F2 ++ cur.toList.drop (i * 3 + 3 + (n - i) * 3) := by
    rw [hR2, hR1, hcs3]
    simp only
    exact splice_two hF1 hF2 hxs (by rw [show i * 3 + (n - i) * 3 = n * 3 by omega]; exact hcl) (by rw [Array.length_toList]; omega)
  have hsz2 : R2.size = c * 3 := by
    rw [← Array.length_toList, hR2l, List.length_append, List.length_append, List.length_append, hF1, hF2, hxs, List.length_drop, Array.length_toList]; omega
  have hRES : Hid (Own Heap.cells 106 3 (W1.setRow g R2) base (.slice (some ⟨g, 0, none⟩) (n + 1) c) (n + 1) (l.take i ++ x :: l.drop i)) := hide (by
    refine ⟨by simp; omega, by rw [hres.out]; simp only [List.length_append, hF1, hF2, hxs]; omega, .inr ⟨g, c, R2, rfl, hbg, setRow_heap W1 g R1 R2 106 _ hg1, hroom, hcm, hsz2, ?_⟩⟩
    rw [hres.out, hR2l, List.take_append_of_le_length (by simp only [List.length_append, hF1, hF2, hxs]; omega), List.take_of_length_le (by simp only [List.length_append, hF1, hF2, hxs]; omega)])
  have hGR : Hid (w.grownBy (W1.setRow g R2) (some g)) := hide (grown_two' hG1.out (grown_setRow _ _ _))
  clear hcs3 hxs hO hFF hf1 hf2 hR1 hR2 hR2l hsz1 hsz2 hres hg1 hv1 hW1 hF1 hF2 hcl hcs hsrc1 hone hG1 ho
  go_enter Tryz.func179, Tryz.ntmps179
  go_wp2_with (simp only [hov])
  go_region_law (refine step_copyS rfl (.tmp 73) (.tmp 76) 27 27 rfl (by simp [Act.eval, Act.put]; rfl) (by simp [Act.eval, Act.put]; rfl) (hcp1 _ _ _) ?_)
  go_wp2
  go_ret
  exact ⟨_, rfl, hRES.out, hGR.out⟩
theorem splice_grow {L F1 F2 X : List Value} {a b : Nat} (h1 : F1.length = a) (h2 : F2.length = b) (hX : X.length = 3) (hL : L.take a = F1) (_hl : a + b + 3 ≤ L.length) :
    ((L.take a ++ X ++ L.drop (a + X.length)).take (a + 3) ++ F2 ++ (L.take a ++ X ++ L.drop (a + X.length)).drop (a + 3 + F2.length)) = F1 ++ X ++ F2 ++ L.drop (a + 3 + b) := by
  rw [hX, h2, hL]
  have l1 : (F1 ++ X).length = a + 3 := by rw [List.length_append]; omega
  rw [List.take_left' l1, List.drop_append, l1, List.drop_eq_nil_of_le (by omega), List.nil_append, List.drop_drop]
  congr 2
  omega
theorem grown_of_below' {w w' : World} {row : Option Nat} (hb : Below w.heap.size w w') : w.grownBy w' row := ⟨hb.os, hb.tape, hb.output, hb.size, fun i hi _ => hb.block i hi⟩
set_option maxHeartbeats 2000000 in
theorem insGrow_any (g c : Nat) (V : Value) (n i : Nat) (l : List Heap) (x : Heap) (vb vc base : Nat) (w : World) (ho : Own Heap.cells 106 3 w base V n l) (hn : n ≤ 100000) (hb : base ≤ w.heap.size) (hv : w.heap[vb]? = some (.cells #[.string x.fSort, .int .i64 x.fYear, .int .i64 x.fBundles] 106 (0, 0))) (hi : i < n) (hV : V = .slice (some ⟨g, 0, none⟩) n c) (hroom : c < n + 1) (_hne : g ≠ vb) :
    Calls Tryz.prog 179 #[.slice (some ⟨g, 0, none⟩) n c, .int .i64 i, .slice (some ⟨vb, 0, none⟩) 1 vc] w fun e w' => Ins w base V (n + 1) (l.take i ++ x :: l.drop i) e w' := by
  subst hV
  obtain ⟨cur, hg, hcs, hcl, hbg, hcm, hnc⟩ := own_room ho (by omega)
  have hll : l.length = n := ho.len
  have hF1 : ((l.take i).flatMap Heap.cells).length = i * 3 := by rw [flat_len Heap.len, List.length_take]; congr 1; omega
  have hF2 : ((l.drop i).flatMap Heap.cells).length = (n - i) * 3 := by rw [flat_len Heap.len, List.length_drop, hll]
  have hFF : l.flatMap Heap.cells = (l.take i).flatMap Heap.cells ++ (l.drop i).flatMap Heap.cells := by rw [← List.flatMap_append, List.take_append_drop]
  have hone : ∀ v ∈ (l.drop i).flatMap Heap.cells, v.oneCell' = true := by
    intro v hv
    obtain ⟨y, _, hy⟩ := List.mem_flatMap.1 hv
    exact Heap.one y v hy
  obtain ⟨F1, hf1⟩ : ∃ F1, F1 = (l.take i).flatMap Heap.cells := ⟨_, rfl⟩
  obtain ⟨F2, hf2⟩ : ∃ F2, F2 = (l.drop i).flatMap Heap.cells := ⟨_, rfl⟩
  rw [← hf1] at hF1
  rw [← hf2] at hF2 hone
  have hres : Hid ((l.take i ++ x :: l.drop i).flatMap Heap.cells = F1 ++ Heap.cells x ++ F2) := hide (by rw [List.flatMap_append, List.flatMap_cons, ← hf1, ← hf2, List.append_assoc])
  rw [hFF, ← hf1, ← hf2] at hcl
  have hcur : ∀ k v, (F1 ++ F2)[k]? = some v → w.cell? ⟨g, k, none⟩ = some v := by
    intro k v hj
    have hjl := lt_of_get hj
    rw [List.length_append] at hjl
    rw [cell_of_row _ _ _ _ _ _ hg, ← Array.getElem?_toList]
    rw [← hcl, List.getElem?_take, if_pos (by omega)] at hj
    exact hj
  have hlt := (Array.getElem?_eq_some_iff.1 hg).1
  have hvlt := (Array.getElem?_eq_some_iff.1 hv).1
  obtain ⟨i0, hi0, hz0, hzs, hzb⟩ := info_parts info_Heap'
  have hold : (Builtin.firstCells i0.size i (.slice (some ⟨g, 0, none⟩) i c)).run Tryz.prog w.drew = .ok F1.toArray w.drew := by
    rw [hzs]
    exact run_firstCells_some w.drew 3 i ⟨g, 0, none⟩ i c F1 hF1 (fun j v hj => by
      rw [Addr.add_lit, Nat.zero_add]
      exact hcur j v (by rw [List.getElem?_append_left (lt_of_get hj)]; exact hj))
  have hkk : (n : Int) + 1 - (i : Int) = ((n + 1 - i : Nat) : Int) := by omega
  have hik : i + (n + 1 - i) = n + 1 := by omega
  have hrz : ∀ ty, (Builtin.append_ #[27, 3] ty #[.slice (some ⟨g, 0, none⟩) i c, .int .i64 ((n : Int) + 1 - (i : Int))]).run Tryz.prog w =
      .ok (.slice (some ⟨w.heap.size, 0, none⟩) (n + 1) (grownCap w (n + 1) c 106)) (w.drew.alloc (.cells (F1.toArray ++ Builtin.zeroCells (Value.agg #[.string ByteArray.empty, .int .i64 0, .int .i64 0]).cells (n + 1 - i) ++ Builtin.zeroCells (Value.agg #[.string ByteArray.empty, .int .i64 0, .int .i64 0]).cells (grownCap w (n + 1) c 106 - (n + 1))) 106)) := fun ty => by
    have h := Lib.run_append_grow_zeros w 27 3 ty 106 i0 _ .i64 .i64 Tryz.underlying27 Tryz.underlying3 hi0 hz0 (some ⟨g, 0, none⟩) i c F1 hold (n + 1 - i) (by omega) (by omega) (by omega) (by omega) (by rw [hzb]; omega) (by rw [hzb, hik]; exact growslice_fits hroom (by omega))
    rw [hik] at h
    rw [hkk]
    exact h
  obtain ⟨G, hG⟩ : ∃ G, G = grownCap w (n + 1) c 106 := ⟨_, rfl⟩
  obtain ⟨ROW, hROW⟩ : ∃ ROW : Array Value, ROW = F1.toArray ++ Builtin.zeroCells (Value.agg #[.string ByteArray.empty, .int .i64 0, .int .i64 0]).cells (n + 1 - i) ++ Builtin.zeroCells (Value.agg #[.string ByteArray.empty, .int .i64 0, .int .i64 0]).cells (G - (n + 1)) := ⟨_, rfl⟩
  have hGn : n + 1 ≤ G := by rw [hG]; exact grownCap_ge w _ _ _
  have hGm : G ≤ maxLen := by rw [hG]; exact grownCap_le_maxLen w (n + 1) c 106 (by unfold maxLen; omega)
  rw [← hG, ← hROW] at hrz
  have hRs : ROW.size = G * 3 := by
    rw [hROW]
    simp [Builtin.zeroCells, Value.cells, hF1]
    omega
  have hRt : ROW.toList.take (i * 3) = F1 := by
    rw [hROW, Array.append_assoc, Array.toList_append, List.toList_toArray, List.take_left' hF1]
  obtain ⟨g2, hg2⟩ : ∃ g2, g2 = w.heap.size := ⟨_, rfl⟩
  have hcs3 : (i + 1) * 3 = i * 3 + 3 := by omega
  have hxs : (Heap.cells x).length = 3 := rfl
  obtain ⟨R1, hR1⟩ : ∃ R1 : Array Value, R1 = (ROW.toList.take (i * 3) ++ Heap.cells x ++ ROW.toList.drop (i * 3 + (Heap.cells x).length)).toArray := ⟨_, rfl⟩
  obtain ⟨R2, hR2⟩ : ∃ R2 : Array Value, R2 = (R1.toList.take ((i + 1) * 3) ++ F2 ++ R1.toList.drop ((i + 1) * 3 + F2.length)).toArray := ⟨_, rfl⟩
  have hR1s : R1.size = G * 3 := by
    rw [hR1, List.size_toArray, List.length_append, List.length_append, List.length_take, List.length_drop, Array.length_toList, hRs, hxs]; omega
  have hcpA : ∀ (W : World), W.heap[g2]? = some (.cells ROW 106 (0, 0)) → W.heap[vb]? = some (.cells #[.string x.fSort, .int .i64 x.fYear, .int .i64 x.fBundles] 106 (0, 0)) → ∀ ty dc, (Builtin.copy_ #[27, 27] ty #[.slice (some ⟨g2, i * 3, none⟩) (n + 1 - i) dc, .slice (some ⟨vb, 0, none⟩) 1 vc]).run Tryz.prog W = .ok (goInt ((1 : Nat) : Int)) (W.setRow g2 R1) := fun W hg1 hv1 ty dc => by
    rw [hR1]
    exact run_copyS W _ _ ty 106 3 g2 _ _ dc ⟨vb, 0, none⟩ _ vc ROW 106 (Heap.cells x) 1 Tryz.underlying27 size_Heap hg1 (by simp only [Nat.min_def]; split <;> omega) rfl (fun j v hj => by
      rw [Addr.add_lit, Nat.zero_add, cell_of_row _ _ _ _ _ _ hv1]
      simpa [Heap.cells] using hj) (by rw [hRs, hxs]; omega) (fun v hv => Heap.one x v hv)
  have hcpB : ∀ (W : World), W.heap[g2]? = some (.cells R1 106 (0, 0)) → W.heap[g]? = some (.cells cur 106 (0, 0)) → ∀ ty dc sc, (Builtin.copy_ #[27, 27] ty #[.slice (some ⟨g2, (i + 1) * 3, none⟩) (n + 1 - (i + 1)) dc, .slice (some ⟨g, i * 3, none⟩) (n - i) sc]).run Tryz.prog W = .ok (goInt ((n - i : Nat) : Int)) (W.setRow g2 R2) := fun W hg1 hc1 ty dc sc => by
    rw [hR2]
    exact run_copyS W _ _ ty 106 3 g2 _ _ dc ⟨g, i * 3, none⟩ _ sc R1 106 F2 (n - i) Tryz.underlying27 size_Heap hg1 (by simp only [Nat.min_def]; split <;> omega) hF2 (fun j v hj => by
      have h3 := hcur (i * 3 + j) v (by rw [List.getElem?_append_right (by omega), hF1, Nat.add_sub_cancel_left]; exact hj)
      rw [cell_of_row _ _ _ _ _ _ hg] at h3
      rw [Addr.add_lit, cell_of_row _ _ _ _ _ _ hc1]
      exact h3) (by rw [hR1s]; omega) hone
  have hR2l : R2.toList = F1 ++ Heap.cells x ++ F2 ++ ROW.toList.drop (i * 3 + 3 + (n - i) * 3) := by
    rw [hR2, hR1, hcs3]
    simp only
    exact splice_grow hF1 hF2 hxs hRt (by rw [Array.length_toList, hRs]; omega)
  have hR2s : R2.size = G * 3 := by
    rw [← Array.length_toList, hR2l, List.length_append, List.length_append, List.length_append, hF1, hF2, hxs, List.length_drop, Array.length_toList, hRs]; omega
  have hOWN : Hid (∀ W : World, W.heap[g2]? = some (.cells R2 106 (0, 0)) → Own Heap.cells 106 3 W base (.slice (some ⟨g2, 0, none⟩) (n + 1) G) (n + 1) (l.take i ++ x :: l.drop i)) := hide (fun W hW => by
    refine ⟨by simp; omega, by rw [hres.out]; simp only [List.length_append, hF1, hF2, hxs]; omega, .inr ⟨g2, G, R2, rfl, by omega, hW, hGn, hGm, hR2s, ?_⟩⟩
    rw [hres.out, hR2l, List.take_append_of_le_length (by simp only [List.length_append, hF1, hF2, hxs]; omega), List.take_of_length_le (by simp only [List.length_append, hF1, hF2, hxs]; omega)])
  rw [← hg2] at hrz
  have hrowA : ∀ cs : Array Value, (w.alloc (.cells cs 106)).heap[g2]? = some (.cells cs 106 (0, 0)) := fun cs => by rw [hg2]; exact heap_alloc_new w _
  have hvA : ∀ cs : Array Value, (w.alloc (.cells cs 106)).heap[vb]? = some (.cells #[.string x.fSort, .int .i64 x.fYear, .int .i64 x.fBundles] 106 (0, 0)) := fun cs => (Below.heap_alloc _ _ _ hvlt).trans hv
  have hgA : ∀ cs : Array Value, (w.alloc (.cells cs 106)).heap[g]? = some (.cells cur 106 (0, 0)) := fun cs => (Below.heap_alloc _ _ _ hlt).trans hg
  have hgB : ∀ (W : World) (cs : Array Value), W.heap[g]? = some (.cells cur 106 (0, 0)) → (W.setRow g2 cs).heap[g]? = some (.cells cur 106 (0, 0)) := fun W cs h => (setRow_other W g2 g cs (by omega)).trans h
  have hBel : Hid (∀ (W : World) (cs : Array Value), Below w.heap.size w W → Below w.heap.size w (W.setRow g2 cs)) := hide (fun W cs h => h.trans ⟨rfl, rfl, rfl, by simp [World.setRow], fun k hk => setRow_other W g2 k cs (by omega)⟩)
  have hBA : Hid (∀ o : Obj, Below w.heap.size w (w.alloc o)) := hide (fun o => (Below.refl _ _).alloc (Nat.le_refl _) o)
  have hw1 : IntKind.i64.wrap ((i : Int) + 1) = (i : Int) + 1 := IntWalk.i64_in _ (by omega)
  have hw2 : IntKind.i64.wrap ((n : Int) + 1) = (n : Int) + 1 := IntWalk.i64_in _ (by omega)
  have hw3 : IntKind.i64.wrap ((n : Int) + 1 - (i : Int)) = (n : Int) + 1 - (i : Int) := IntWalk.i64_in _ (by omega)
  have hb1 : (0 : Int) ≤ (i : Int) + 1 := by omega
  have htn : ((i : Int) + 1).toNat = i + 1 := by omega
  have hGi : ¬ (G = i) := by omega
  have hGim : ¬ (G = i + 1) := by omega
  have hci : ¬ (c = i) := by omega
  have hb5 : (c : Int) < (n : Int) + 1 := by omega
  have hz2 : ¬ ((i : Int) = (n : Int)) := by omega
  have hb9 : (i : Int) ≤ (n : Int) := by omega
  have hb10 : (i : Int) + 1 ≤ (n : Int) + 1 := by omega
  have hb11 : (i : Int) ≤ (c : Int) := by omega
  have hb12 : (i : Int) ≤ (n : Int) + 1 := by omega
  clear hcs3 hxs hFF hf1 hf2 hR1 hR2 hR2l hR1s hR2s hres hRs hRt hF1 hF2 hcl hcs hone ho hold hkk hik hG hROW hcur hv hg hlt hvlt hll hi0 hz0 hzs hzb hg2
  go_enter Tryz.func179, Tryz.ntmps179
  go_upto_region 10 with (at_builtin; refine wpl_run rfl (.tmp 34) (.tmp 39) 27 3 rfl rfl rfl (hrz _) ?_)
  have hcpA' : ∀ ty dc, (Builtin.copy_ #[27, 27] ty #[.slice (some ⟨g2, i * 3, none⟩) (n + 1 - i) dc, .slice (some ⟨vb, 0, none⟩) 1 vc]).run Tryz.prog (w.alloc (.cells ROW 106)).drew = .ok (goInt ((1 : Nat) : Int)) ((w.alloc (.cells ROW 106)).drew.setRow g2 R1) := fun ty dc => hcpA (w.alloc (.cells ROW 106)).drew (by exact hrowA ROW) (by exact hvA ROW) ty dc
  clear hcpA
  go_wp2
  go_region_law (refine step_copyS rfl (.tmp 50) (.tmp 53) 27 27 rfl (by simp [Act.eval, Act.put]; rfl) (by simp [Act.eval, Act.put]; rfl) (hcpB _ (by exact setRow_heap _ g2 _ _ _ _ (hrowA ROW)) (by exact hgB _ _ (hgA ROW)) _ _ _) ?_)
  go_wp2
  go_ret
  refine ⟨_, rfl, hOWN.out _ (by exact setRow_heap _ g2 _ _ _ _ (setRow_heap _ g2 _ _ _ _ (hrowA ROW))), ?_⟩
  have hD1 : Below w.heap.size w (w.alloc (.cells ROW 106)).drew := below_drewN (hBA.out _) 1
  have hD2 : Below w.heap.size w ((w.alloc (.cells ROW 106)).drew.setRow g2 R1).drew := below_drewN (hBel.out _ R1 hD1) 1
  exact grown_of_below' (hBel.out _ R2 hD2)
end Go.Proofs.YtfpaejlipaainaaGreatDoor
