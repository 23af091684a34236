/- Contracts: a valid order. -/
import Derived.Test.YtkencmhcjpbpfaaDoorName
import Derived.Test.YtkencmhcjpbpfaaDoorSOrder
namespace Go.Proofs.YtkencmhcjpbpfaaDoor
open Go.ChangeShapes Go.WideShapes Go.ChangeAt Go.RowKit Go.Deep
set_option maxRecDepth 100000

theorem quiet_leftb {P : Program} {f : FuncId} {args : Array Value} {w : World} {n : Nat} {b b' : Bool}
    (h : Calls P f args (w.drewN n) fun e w' => e = .returned (.bool b) ∧ w.drewN n = w') (hb : b = b') : Calls P f args (w.drewN n) fun e w'' => e = .returned (.bool b') ∧ ∃ m, w'' = w.drewN m := by
  subst hb; exact quiet_left h

def Order.ok (x : Order) : Bool := isName x.fWho && inB x.fMany 1 100 && inB x.fEach 1 20 && (decide (0 ≤ x.fFrom) && decide (x.fFrom < x.fDue) && decide (x.fDue ≤ 5000))
theorem Order.ok_iff {x : Order} : x.ok = true ↔ isName x.fWho = true ∧ (1 ≤ x.fMany ∧ x.fMany ≤ 100) ∧ (1 ≤ x.fEach ∧ x.fEach ≤ 20) ∧ 0 ≤ x.fFrom ∧ x.fFrom < x.fDue ∧ x.fDue ≤ 5000 := by
  simp [Order.ok, inB_true, and_assoc]
theorem iOrder_any (x : Order) (w : World) (hx : x.fWho.size ≤ maxLen) :
    Calls Tryd.prog 10 #[.agg #[.string x.fWho, .int .i64 x.fMany, .int .i64 x.fEach, .int .i64 x.fFrom, .int .i64 x.fDue]] w fun e w' => e = .returned (.bool x.ok) ∧ Below w.heap.size w w' := by
  cases k0 : isName x.fWho
  · skip
    have ck : Hid (x.ok = false) := hide (by simp [Order.ok, k0])
    go_enter Tryd.func10, Tryd.ntmps10
    go_wp2_with (first | (go_at_call 14; refine (iName_any _ _ hx).mono ?_; rintro e w' ⟨rfl, rfl⟩) | (go_at_call 15; refine (within_any _ _ _ _).mono ?_; rintro e w' ⟨rfl, rfl⟩))
    go_ret
    exact ⟨retB ck.out.symm, by go_grown⟩
  · skip
    cases k1 : inB x.fMany 1 100
    · skip
      have ck : Hid (x.ok = false) := hide (by simp [Order.ok, k1])
      go_enter Tryd.func10, Tryd.ntmps10
      go_wp2_with (first | (go_at_call 14; refine (iName_any _ _ hx).mono ?_; rintro e w' ⟨rfl, rfl⟩) | (go_at_call 15; refine (within_any _ _ _ _).mono ?_; rintro e w' ⟨rfl, rfl⟩))
      go_ret
      exact ⟨retB ck.out.symm, by go_grown⟩
    · skip
      cases k2 : inB x.fEach 1 20
      · skip
        have ck : Hid (x.ok = false) := hide (by simp [Order.ok, k2])
        go_enter Tryd.func10, Tryd.ntmps10
        go_wp2_with (first | (go_at_call 14; refine (iName_any _ _ hx).mono ?_; rintro e w' ⟨rfl, rfl⟩) | (go_at_call 15; refine (within_any _ _ _ _).mono ?_; rintro e w' ⟨rfl, rfl⟩))
        go_ret
        exact ⟨retB ck.out.symm, by go_grown⟩
      · skip
        by_cases m0 : 0 ≤ x.fFrom
        · by_cases m1 : x.fFrom < x.fDue
          · by_cases m2 : x.fDue ≤ 5000
            · skip
              have ck : Hid (x.ok = true) := hide (by simp [Order.ok, k0, k1, k2, m0, m1, m2])
              go_enter Tryd.func10, Tryd.ntmps10
              go_wp2_with (first | (go_at_call 14; refine (iName_any _ _ hx).mono ?_; rintro e w' ⟨rfl, rfl⟩) | (go_at_call 15; refine (within_any _ _ _ _).mono ?_; rintro e w' ⟨rfl, rfl⟩))
              go_ret
              exact ⟨retB ck.out.symm, by go_grown⟩
            · skip
              have ck : Hid (x.ok = false) := hide (by simp [Order.ok, m2])
              go_enter Tryd.func10, Tryd.ntmps10
              go_wp2_with (first | (go_at_call 14; refine (iName_any _ _ hx).mono ?_; rintro e w' ⟨rfl, rfl⟩) | (go_at_call 15; refine (within_any _ _ _ _).mono ?_; rintro e w' ⟨rfl, rfl⟩))
              go_ret
              exact ⟨retB (by rw [ck.out]; simp; omega), by go_grown⟩
          · skip
            have ck : Hid (x.ok = false) := hide (by simp [Order.ok, m1])
            go_enter Tryd.func10, Tryd.ntmps10
            go_wp2_with (first | (go_at_call 14; refine (iName_any _ _ hx).mono ?_; rintro e w' ⟨rfl, rfl⟩) | (go_at_call 15; refine (within_any _ _ _ _).mono ?_; rintro e w' ⟨rfl, rfl⟩))
            go_ret
            exact ⟨retB ck.out.symm, by go_grown⟩
        · skip
          have ck : Hid (x.ok = false) := hide (by simp [Order.ok, m0])
          go_enter Tryd.func10, Tryd.ntmps10
          go_wp2_with (first | (go_at_call 14; refine (iName_any _ _ hx).mono ?_; rintro e w' ⟨rfl, rfl⟩) | (go_at_call 15; refine (within_any _ _ _ _).mono ?_; rintro e w' ⟨rfl, rfl⟩))
          go_ret
          exact ⟨retB ck.out.symm, by go_grown⟩
theorem sOrder_any (x : Order) (b o : Nat) (w : World) (hx : x.fWho.size ≤ maxLen) (d0 : w.cell? ⟨b, o, none⟩ = some (.string x.fWho)) (d1 : w.cell? ⟨b, o + 1, none⟩ = some (.int .i64 x.fMany)) (d2 : w.cell? ⟨b, o + 2, none⟩ = some (.int .i64 x.fEach))
    (d3 : w.cell? ⟨b, o + 3, none⟩ = some (.int .i64 x.fFrom)) (d4 : w.cell? ⟨b, o + 4, none⟩ = some (.int .i64 x.fDue)) :
    Calls Tryd.prog 8 #[.pointer (some ⟨b, o, none⟩)] w fun e w' => e = .returned (.bool x.ok) ∧ Below w.heap.size w w' := by
  cases k0 : isName x.fWho
  · skip
    have ck : Hid (x.ok = false) := hide (by simp [Order.ok, k0])
    go_enter Tryd.func8, Tryd.ntmps8
    go_wp2_with fail
    go_quiet ((first | (go_at_call 12; exact quiet_leftb (sName_any _ _ hx) (by assumption)) | (go_at_call 13; exact quiet_leftb (in_any _ _ _ _) (by assumption))))
    go_wp2
    go_ret
    exact ⟨retB ck.out.symm, below_drewN (Below.refl _ _) _⟩
  · skip
    cases k1 : inB x.fMany 1 100
    · skip
      have ck : Hid (x.ok = false) := hide (by simp [Order.ok, k1])
      go_enter Tryd.func8, Tryd.ntmps8
      go_wp2_with fail
      go_quiet ((first | (go_at_call 12; exact quiet_leftb (sName_any _ _ hx) (by assumption)) | (go_at_call 13; exact quiet_leftb (in_any _ _ _ _) (by assumption))))
      go_wp2
      go_ret
      exact ⟨retB ck.out.symm, below_drewN (Below.refl _ _) _⟩
    · skip
      cases k2 : inB x.fEach 1 20
      · skip
        have ck : Hid (x.ok = false) := hide (by simp [Order.ok, k2])
        go_enter Tryd.func8, Tryd.ntmps8
        go_wp2_with fail
        go_quiet ((first | (go_at_call 12; exact quiet_leftb (sName_any _ _ hx) (by assumption)) | (go_at_call 13; exact quiet_leftb (in_any _ _ _ _) (by assumption))))
        go_wp2
        go_ret
        exact ⟨retB ck.out.symm, below_drewN (Below.refl _ _) _⟩
      · skip
        cases m0 : inB x.fFrom 0 5000
        · skip
          have ck : Hid (x.ok = false) := hide (by rw [Bool.eq_false_iff]; intro h; have := Order.ok_iff.1 h; rw [inB_false] at m0; omega)
          go_enter Tryd.func8, Tryd.ntmps8
          go_wp2_with fail
          go_quiet ((first | (go_at_call 12; exact quiet_leftb (sName_any _ _ hx) (by assumption)) | (go_at_call 13; exact quiet_leftb (in_any _ _ _ _) (by assumption))))
          go_wp2
          go_ret
          exact ⟨retB ck.out.symm, below_drewN (Below.refl _ _) _⟩
        · have mb := inB_true.1 m0
          have hw : IntKind.i64.wrap (x.fFrom + 1) = x.fFrom + 1 := IntWalk.i64_in _ (by omega)
          cases m1 : inB x.fDue (x.fFrom + 1) 5000
          · skip
            have ck : Hid (x.ok = false) := hide (by rw [Bool.eq_false_iff]; intro h; have := Order.ok_iff.1 h; rw [inB_false] at m1; omega)
            go_enter Tryd.func8, Tryd.ntmps8
            go_wp2_with fail
            go_quiet ((first | (go_at_call 12; exact quiet_leftb (sName_any _ _ hx) (by assumption)) | (go_at_call 13; exact quiet_leftb (in_any _ _ _ _) (by assumption))))
            go_wp2
            go_ret
            exact ⟨retB ck.out.symm, below_drewN (Below.refl _ _) _⟩
          · skip
            have ck : Hid (x.ok = true) := hide (by refine Order.ok_iff.2 ⟨k0, inB_true.1 k1, inB_true.1 k2, ?_⟩; rw [inB_true] at m1; omega)
            go_enter Tryd.func8, Tryd.ntmps8
            go_wp2_with fail
            go_quiet ((first | (go_at_call 12; exact quiet_leftb (sName_any _ _ hx) (by assumption)) | (go_at_call 13; exact quiet_leftb (in_any _ _ _ _) (by assumption))))
            go_wp2
            go_ret
            exact ⟨retB ck.out.symm, below_drewN (Below.refl _ _) _⟩
end Go.Proofs.YtkencmhcjpbpfaaDoor
