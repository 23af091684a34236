/- Contracts of the orders' tests: a valid order, valid orders. -/
import Derived.Test.YtnfbeobdoieeiaaDoorName
import Derived.Test.YtnfbeobdoieeiaaDoorSOrder
namespace Go.Proofs.YtnfbeobdoieeiaaDoor
open Go.ChangeShapes Go.WideShapes Go.ChangeAt Go.RowKit Go.Deep
set_option maxRecDepth 100000

theorem quiet_leftb {P : Program} {f : FuncId} {args : Array Value} {w : World} {n : Nat} {b b' : Bool}
    (h : Calls P f args (w.drewN n) fun e w' => e = .returned (.bool b) ∧ w.drewN n = w') (hb : b = b') : Calls P f args (w.drewN n) fun e w'' => e = .returned (.bool b') ∧ ∃ m, w'' = w.drewN m := by
  subst hb; exact quiet_left h

def Order.ok (x : Order) : Bool := isName x.fWho && inB x.fMany 1 100 && inB x.fEach 1 20 && (decide (0 ≤ x.fFrom) && decide (x.fFrom < x.fDue) && decide (x.fDue ≤ 5000))
def ordersOk (l : List Order) : Bool := l.all Order.ok && decide (l.length ≤ 30)
theorem Order.ok_iff {x : Order} : x.ok = true ↔ isName x.fWho = true ∧ (1 ≤ x.fMany ∧ x.fMany ≤ 100) ∧ (1 ≤ x.fEach ∧ x.fEach ≤ 20) ∧ 0 ≤ x.fFrom ∧ x.fFrom < x.fDue ∧ x.fDue ≤ 5000 := by
  simp [Order.ok, inB_true, and_assoc]
theorem iOrder_any (x : Order) (w : World) (hx : x.fWho.size ≤ maxLen) :
    Calls Tryd.prog 36 #[.agg #[.string x.fWho, .int .i64 x.fMany, .int .i64 x.fEach, .int .i64 x.fFrom, .int .i64 x.fDue]] w fun e w' => e = .returned (.bool x.ok) ∧ Below w.heap.size w w' := by
  cases k0 : isName x.fWho
  · skip
    have ck : Hid (x.ok = false) := hide (by simp [Order.ok, k0])
    go_enter Tryd.func36, Tryd.ntmps36
    go_wp2_with (first | (go_at_call 50; refine (iName_any _ _ hx).mono ?_; rintro e w' ⟨rfl, rfl⟩) | (go_at_call 51; refine (within_any _ _ _ _).mono ?_; rintro e w' ⟨rfl, rfl⟩))
    go_ret
    exact ⟨retB ck.out.symm, by go_grown⟩
  · skip
    cases k1 : inB x.fMany 1 100
    · skip
      have ck : Hid (x.ok = false) := hide (by simp [Order.ok, k1])
      go_enter Tryd.func36, Tryd.ntmps36
      go_wp2_with (first | (go_at_call 50; refine (iName_any _ _ hx).mono ?_; rintro e w' ⟨rfl, rfl⟩) | (go_at_call 51; refine (within_any _ _ _ _).mono ?_; rintro e w' ⟨rfl, rfl⟩))
      go_ret
      exact ⟨retB ck.out.symm, by go_grown⟩
    · skip
      cases k2 : inB x.fEach 1 20
      · skip
        have ck : Hid (x.ok = false) := hide (by simp [Order.ok, k2])
        go_enter Tryd.func36, Tryd.ntmps36
        go_wp2_with (first | (go_at_call 50; refine (iName_any _ _ hx).mono ?_; rintro e w' ⟨rfl, rfl⟩) | (go_at_call 51; refine (within_any _ _ _ _).mono ?_; rintro e w' ⟨rfl, rfl⟩))
        go_ret
        exact ⟨retB ck.out.symm, by go_grown⟩
      · skip
        by_cases m0 : 0 ≤ x.fFrom
        · by_cases m1 : x.fFrom < x.fDue
          · by_cases m2 : x.fDue ≤ 5000
            · skip
              have ck : Hid (x.ok = true) := hide (by simp [Order.ok, k0, k1, k2, m0, m1, m2])
              go_enter Tryd.func36, Tryd.ntmps36
              go_wp2_with (first | (go_at_call 50; refine (iName_any _ _ hx).mono ?_; rintro e w' ⟨rfl, rfl⟩) | (go_at_call 51; refine (within_any _ _ _ _).mono ?_; rintro e w' ⟨rfl, rfl⟩))
              go_ret
              exact ⟨retB ck.out.symm, by go_grown⟩
            · skip
              have ck : Hid (x.ok = false) := hide (by simp [Order.ok, m2])
              go_enter Tryd.func36, Tryd.ntmps36
              go_wp2_with (first | (go_at_call 50; refine (iName_any _ _ hx).mono ?_; rintro e w' ⟨rfl, rfl⟩) | (go_at_call 51; refine (within_any _ _ _ _).mono ?_; rintro e w' ⟨rfl, rfl⟩))
              go_ret
              exact ⟨retB (by rw [ck.out]; simp; omega), by go_grown⟩
          · skip
            have ck : Hid (x.ok = false) := hide (by simp [Order.ok, m1])
            go_enter Tryd.func36, Tryd.ntmps36
            go_wp2_with (first | (go_at_call 50; refine (iName_any _ _ hx).mono ?_; rintro e w' ⟨rfl, rfl⟩) | (go_at_call 51; refine (within_any _ _ _ _).mono ?_; rintro e w' ⟨rfl, rfl⟩))
            go_ret
            exact ⟨retB ck.out.symm, by go_grown⟩
        · skip
          have ck : Hid (x.ok = false) := hide (by simp [Order.ok, m0])
          go_enter Tryd.func36, Tryd.ntmps36
          go_wp2_with (first | (go_at_call 50; refine (iName_any _ _ hx).mono ?_; rintro e w' ⟨rfl, rfl⟩) | (go_at_call 51; refine (within_any _ _ _ _).mono ?_; rintro e w' ⟨rfl, rfl⟩))
          go_ret
          exact ⟨retB ck.out.symm, by go_grown⟩
theorem sOrder_any (x : Order) (b o : Nat) (w : World) (hx : x.fWho.size ≤ maxLen) (d0 : w.cell? ⟨b, o, none⟩ = some (.string x.fWho)) (d1 : w.cell? ⟨b, o + 1, none⟩ = some (.int .i64 x.fMany)) (d2 : w.cell? ⟨b, o + 2, none⟩ = some (.int .i64 x.fEach))
    (d3 : w.cell? ⟨b, o + 3, none⟩ = some (.int .i64 x.fFrom)) (d4 : w.cell? ⟨b, o + 4, none⟩ = some (.int .i64 x.fDue)) :
    Calls Tryd.prog 38 #[.pointer (some ⟨b, o, none⟩)] w fun e w' => e = .returned (.bool x.ok) ∧ Below w.heap.size w w' := by
  cases k0 : isName x.fWho
  · skip
    have ck : Hid (x.ok = false) := hide (by simp [Order.ok, k0])
    go_enter Tryd.func38, Tryd.ntmps38
    go_wp2_with fail
    go_quiet ((first | (go_at_call 52; exact quiet_leftb (sName_any _ _ hx) (by assumption)) | (go_at_call 53; exact quiet_leftb (in_any _ _ _ _) (by assumption))))
    go_wp2
    go_ret
    exact ⟨retB ck.out.symm, below_drewN (Below.refl _ _) _⟩
  · skip
    cases k1 : inB x.fMany 1 100
    · skip
      have ck : Hid (x.ok = false) := hide (by simp [Order.ok, k1])
      go_enter Tryd.func38, Tryd.ntmps38
      go_wp2_with fail
      go_quiet ((first | (go_at_call 52; exact quiet_leftb (sName_any _ _ hx) (by assumption)) | (go_at_call 53; exact quiet_leftb (in_any _ _ _ _) (by assumption))))
      go_wp2
      go_ret
      exact ⟨retB ck.out.symm, below_drewN (Below.refl _ _) _⟩
    · skip
      cases k2 : inB x.fEach 1 20
      · skip
        have ck : Hid (x.ok = false) := hide (by simp [Order.ok, k2])
        go_enter Tryd.func38, Tryd.ntmps38
        go_wp2_with fail
        go_quiet ((first | (go_at_call 52; exact quiet_leftb (sName_any _ _ hx) (by assumption)) | (go_at_call 53; exact quiet_leftb (in_any _ _ _ _) (by assumption))))
        go_wp2
        go_ret
        exact ⟨retB ck.out.symm, below_drewN (Below.refl _ _) _⟩
      · skip
        cases m0 : inB x.fFrom 0 5000
        · skip
          have ck : Hid (x.ok = false) := hide (by rw [Bool.eq_false_iff]; intro h; have := Order.ok_iff.1 h; rw [inB_false] at m0; omega)
          go_enter Tryd.func38, Tryd.ntmps38
          go_wp2_with fail
          go_quiet ((first | (go_at_call 52; exact quiet_leftb (sName_any _ _ hx) (by assumption)) | (go_at_call 53; exact quiet_leftb (in_any _ _ _ _) (by assumption))))
          go_wp2
          go_ret
          exact ⟨retB ck.out.symm, below_drewN (Below.refl _ _) _⟩
        · have mb := inB_true.1 m0
          have hw : IntKind.i64.wrap (x.fFrom + 1) = x.fFrom + 1 := IntWalk.i64_in _ (by omega)
          cases m1 : inB x.fDue (x.fFrom + 1) 5000
          · skip
            have ck : Hid (x.ok = false) := hide (by rw [Bool.eq_false_iff]; intro h; have := Order.ok_iff.1 h; rw [inB_false] at m1; omega)
            go_enter Tryd.func38, Tryd.ntmps38
            go_wp2_with fail
            go_quiet ((first | (go_at_call 52; exact quiet_leftb (sName_any _ _ hx) (by assumption)) | (go_at_call 53; exact quiet_leftb (in_any _ _ _ _) (by assumption))))
            go_wp2
            go_ret
            exact ⟨retB ck.out.symm, below_drewN (Below.refl _ _) _⟩
          · skip
            have ck : Hid (x.ok = true) := hide (by refine Order.ok_iff.2 ⟨k0, inB_true.1 k1, inB_true.1 k2, ?_⟩; rw [inB_true] at m1; omega)
            go_enter Tryd.func38, Tryd.ntmps38
            go_wp2_with fail
            go_quiet ((first | (go_at_call 52; exact quiet_leftb (sName_any _ _ hx) (by assumption)) | (go_at_call 53; exact quiet_leftb (in_any _ _ _ _) (by assumption))))
            go_wp2
            go_ret
            exact ⟨retB ck.out.symm, below_drewN (Below.refl _ _) _⟩
theorem iOrders_any (A : Option Addr) (n c : Nat) (l : List Order) (w : World) (hn : n ≤ 1048576) (hf : ∀ x ∈ l, x.fits) (hr : Arr Order.cells 5 w w.heap.size A n l) :
    Calls Tryd.prog 21 #[.slice A n c] w fun e w' => e = .returned (.bool (ordersOk l)) ∧ Below w.heap.size w w' := by
  have hl := hide hr.len
  have hF := hide hf
  clear hf
  go_enter Tryd.func21, Tryd.ntmps21
  go_wp2
  go_loopw [7] (fun i wr => ∃ k : Nat, k ≤ n ∧ i = .int .i64 k ∧ Below w.heap.size w wr ∧ Hid ((l.take k).all Order.ok = true)) (fun i _ => n - (intOf i).toNat)
  case atStart => exact ⟨0, Nat.zero_le _, rfl, Below.refl _ _, hide (by simp)⟩
  case round =>
    obtain ⟨k, hk, rfl, hb, hall⟩ := hrel
    by_cases hlt : k < n
    · obtain ⟨b, o, x, rfl, hbl, hx, c0, c1, c2, c3, c4⟩ := hr.Order hlt
      have d0 : wr.cell? ⟨b, o + k * 5, none⟩ = some (.string x.fWho) := (hb.cell (p := ⟨b, o + k * 5, none⟩) hbl).trans c0
      have d1 : wr.cell? ⟨b, o + k * 5 + 1, none⟩ = some (.int .i64 x.fMany) := (hb.cell (p := ⟨b, o + k * 5 + 1, none⟩) hbl).trans c1
      have d2 : wr.cell? ⟨b, o + k * 5 + 2, none⟩ = some (.int .i64 x.fEach) := (hb.cell (p := ⟨b, o + k * 5 + 2, none⟩) hbl).trans c2
      have d3 : wr.cell? ⟨b, o + k * 5 + 3, none⟩ = some (.int .i64 x.fFrom) := (hb.cell (p := ⟨b, o + k * 5 + 3, none⟩) hbl).trans c3
      have d4 : wr.cell? ⟨b, o + k * 5 + 4, none⟩ = some (.int .i64 x.fDue) := (hb.cell (p := ⟨b, o + k * 5 + 4, none⟩) hbl).trans c4
      have hX := hide hx
      clear hx c0 c1 c2 c3 c4
      have hB := hide hb
      clear hr hb
      have hx : x.fWho.size ≤ maxLen := hF.out x (List.mem_of_getElem? hX.out)
      cases hck : x.ok
      · have ck : Hid (ordersOk l = false) := hide (by unfold ordersOk; rw [all_not hX.out hck]; rfl)
        go_wp2_with (go_at_call 36; refine (iOrder_any x _ hx).mono ?_; rintro e w1 ⟨rfl, hb1⟩; have hB2 := hide (Below.up (hB.out.alloc hB.out.size _) hb1); clear hb1)
        go_ret
        exact ⟨retB ck.out.symm, hB2.out⟩
      · have ck := hide hck
        go_wp2_with (go_at_call 36; refine (iOrder_any x _ hx).mono ?_; rintro e w1 ⟨rfl, hb1⟩; have hB2 := hide (Below.up (hB.out.alloc hB.out.size _) hb1); clear hb1)
        go_roundw
        case rel => exact ⟨k + 1, by omega, by go_num, hB2.out, hide (by rw [take_snoc hX.out, List.all_append, hall.out]; simp [ck.out])⟩
        case measure => simp [intOf]; omega
    · have hkn : k = n := by omega
      subst hkn
      have hB := hide hb
      clear hb
      have ck : Hid (ordersOk l = decide (k ≤ 30)) := hide (by have e := hall.out; rw [List.take_of_length_le (by rw [hl.out]; exact Nat.le_refl _)] at e; unfold ordersOk; rw [e, hl.out, Bool.true_and])
      go_wp2
      go_ret
      exact ⟨retB (by rw [ck.out, decide_eq_decide]; omega), hB.out⟩
theorem sOrders_any (A : Option Addr) (n c : Nat) (l : List Order) (w : World) (hn : n ≤ 1048576) (hf : ∀ x ∈ l, x.fits) (hr : Arr Order.cells 5 w w.heap.size A n l) :
    Calls Tryd.prog 27 #[.slice A n c] w fun e w' => e = .returned (.bool (ordersOk l)) ∧ Below w.heap.size w w' := by
  have hl := hide hr.len
  have hF := hide hf
  clear hf
  go_enter Tryd.func27, Tryd.ntmps27
  go_wp2
  go_loopw [3] (fun i wr => ∃ k : Nat, k ≤ n ∧ i = .int .i64 k ∧ Below w.heap.size w wr ∧ Hid ((l.take k).all Order.ok = true)) (fun i _ => n - (intOf i).toNat)
  case atStart => exact ⟨0, Nat.zero_le _, rfl, Below.refl _ _, hide (by simp)⟩
  case round =>
    obtain ⟨k, hk, rfl, hb, hall⟩ := hrel
    by_cases hlt : k < n
    · obtain ⟨b, o, x, rfl, hbl, hx, c0, c1, c2, c3, c4⟩ := hr.Order hlt
      have d0 : wr.cell? ⟨b, o + k * 5, none⟩ = some (.string x.fWho) := (hb.cell (p := ⟨b, o + k * 5, none⟩) hbl).trans c0
      have d1 : wr.cell? ⟨b, o + k * 5 + 1, none⟩ = some (.int .i64 x.fMany) := (hb.cell (p := ⟨b, o + k * 5 + 1, none⟩) hbl).trans c1
      have d2 : wr.cell? ⟨b, o + k * 5 + 2, none⟩ = some (.int .i64 x.fEach) := (hb.cell (p := ⟨b, o + k * 5 + 2, none⟩) hbl).trans c2
      have d3 : wr.cell? ⟨b, o + k * 5 + 3, none⟩ = some (.int .i64 x.fFrom) := (hb.cell (p := ⟨b, o + k * 5 + 3, none⟩) hbl).trans c3
      have d4 : wr.cell? ⟨b, o + k * 5 + 4, none⟩ = some (.int .i64 x.fDue) := (hb.cell (p := ⟨b, o + k * 5 + 4, none⟩) hbl).trans c4
      have hX := hide hx
      clear hx c0 c1 c2 c3 c4
      have hB := hide hb
      clear hr hb
      have hx : x.fWho.size ≤ maxLen := hF.out x (List.mem_of_getElem? hX.out)
      cases hck : x.ok
      · have ck : Hid (ordersOk l = false) := hide (by unfold ordersOk; rw [all_not hX.out hck]; rfl)
        go_wp2_with (go_at_call 38; refine (sOrder_any x b (o + k * 5) _ hx d0 d1 d2 d3 d4).mono ?_; rintro e w1 ⟨rfl, hb1⟩; have hB2 := hide (Below.up hB.out hb1); clear hb1)
        go_ret
        exact ⟨retB ck.out.symm, hB2.out⟩
      · have ck := hide hck
        go_wp2_with (go_at_call 38; refine (sOrder_any x b (o + k * 5) _ hx d0 d1 d2 d3 d4).mono ?_; rintro e w1 ⟨rfl, hb1⟩; have hB2 := hide (Below.up hB.out hb1); clear hb1)
        go_roundw
        case rel => exact ⟨k + 1, by omega, by go_num, hB2.out, hide (by rw [take_snoc hX.out, List.all_append, hall.out]; simp [ck.out])⟩
        case measure => simp [intOf]; omega
    · have hkn : k = n := by omega
      subst hkn
      have hB := hide hb
      clear hb
      have ck : Hid (ordersOk l = decide (k ≤ 30)) := hide (by have e := hall.out; rw [List.take_of_length_le (by rw [hl.out]; exact Nat.le_refl _)] at e; unfold ordersOk; rw [e, hl.out, Bool.true_and])
      go_wp2
      go_ret
      exact ⟨retB (by rw [ck.out, decide_eq_decide]; omega), hB.out⟩
theorem sValidOrders_any (A : Option Addr) (n c : Nat) (l : List Order) (w : World) (hn : n ≤ 1048576) (hf : ∀ x ∈ l, x.fits) (hr : Arr Order.cells 5 w w.heap.size A n l) :
    Calls Tryd.prog 22 #[.slice A n c] w fun e w' => e = .returned (.bool (ordersOk l)) ∧ Below w.heap.size w w' := by
  go_enter Tryd.func22, Tryd.ntmps22
  go_wp2_with fail
  refine (sOrders_any A n c l w hn hf hr).mono ?_
  rintro e w1 ⟨rfl, hb⟩
  go_wp2
  go_ret
  exact ⟨rfl, hb⟩
theorem orders_at {l : List Order} (h : ordersOk l = true) {x : Order} (hx : x ∈ l) : x.ok = true := by
  simp only [ordersOk, Bool.and_eq_true, List.all_eq_true] at h
  exact h.1 x hx
theorem orders_len {l : List Order} (h : ordersOk l = true) : l.length ≤ 30 := by
  simp only [ordersOk, Bool.and_eq_true, decide_eq_true_eq] at h; exact h.2
/-! ### the days of orders -/
def dayF (x : Order) : Int := x.fMany * x.fEach
theorem dayF_bound {x : Order} (h : x.ok = true) : 1 ≤ dayF x ∧ dayF x ≤ 2000 := by
  have := Order.ok_iff.1 h
  unfold dayF
  have h1 : 1 * 1 ≤ x.fMany * x.fEach := Int.mul_le_mul (by omega) (by omega) (by omega) (by omega)
  have h2 : x.fMany * x.fEach ≤ 100 * 20 := Int.mul_le_mul (by omega) (by omega) (by omega) (by omega)
  omega
theorem dayF_all {l : List Order} (h : ordersOk l = true) : ∀ x ∈ l, 0 ≤ dayF x ∧ dayF x ≤ 2000 := fun x hx => by have := dayF_bound (orders_at h hx); omega
def mDays (l : List Order) : Int × Int := if ordersOk l then (sumOf dayF l, 0) else (0, 1)
theorem sDays1_any (x : Order) (b o : Nat) (w : World) (hx : 0 ≤ x.fMany * x.fEach ∧ x.fMany * x.fEach ≤ 2000) (d1 : w.cell? ⟨b, o + 1, none⟩ = some (.int .i64 x.fMany)) (d2 : w.cell? ⟨b, o + 2, none⟩ = some (.int .i64 x.fEach)) :
    Calls Tryd.prog 31 #[.pointer (some ⟨b, o, none⟩)] w fun e w' => e = .returned (.int .i64 (dayF x)) ∧ Below w.heap.size w w' := by
  have hw : IntKind.i64.wrap (x.fMany * x.fEach) = x.fMany * x.fEach := IntWalk.i64_in _ (by omega)
  go_enter Tryd.func31, Tryd.ntmps31
  go_wp2_with fail
  go_quiet (fail)
  go_wp2
  go_ret
  exact ⟨rfl, below_drewN (Below.refl _ _) _⟩
end Go.Proofs.YtnfbeobdoieeiaaDoor
