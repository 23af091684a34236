/- Contracts: a valid entry. -/
import Derived.Test.YtceajnoppdfeaaaGreatDoorName
import Derived.Test.YtceajnoppdfeaaaGreatDoorSEntry
namespace Go.Proofs.YtceajnoppdfeaaaGreatDoor
open Go.ChangeShapes Go.WideShapes Go.ChangeAt Go.RowKit Go.Deep
set_option maxRecDepth 100000
/-! ### a valid entry -/
def Entry.ok (x : Entry) : Bool := inB x.fDay 0 100000 && isName x.fWhat && inB x.fValue (-1000000) 1000000
theorem iEntry_any (x : Entry) (w : World) (hx : x.fits) :
    Calls Tryz.prog 72 #[.agg #[.int .i64 x.fDay, .string x.fWhat, .int .i64 x.fValue]] w fun e w' => e = .returned (.bool x.ok) ∧ Below w.heap.size w w' := by
  cases k0 : inB x.fDay 0 100000
  · have ck : Hid (x.ok = false) := hide (by simp [Entry.ok, k0])
    go_enter Tryz.func72, Tryz.ntmps72
    go_wp2_with (first | (go_at_call 54; refine (iName_any _ _ hx).mono ?_; rintro e w' ⟨rfl, rfl⟩) | (go_at_call 35; refine (within_any _ _ _ _).mono ?_; rintro e w' ⟨rfl, rfl⟩))
    go_ret
    exact ⟨retB ck.out.symm, by go_grown⟩
  · cases k1 : isName x.fWhat
    · have ck : Hid (x.ok = false) := hide (by simp [Entry.ok, k1])
      go_enter Tryz.func72, Tryz.ntmps72
      go_wp2_with (first | (go_at_call 54; refine (iName_any _ _ hx).mono ?_; rintro e w' ⟨rfl, rfl⟩) | (go_at_call 35; refine (within_any _ _ _ _).mono ?_; rintro e w' ⟨rfl, rfl⟩))
      go_ret
      exact ⟨retB ck.out.symm, by go_grown⟩
    · have ck : Hid (x.ok = inB x.fValue (-1000000) 1000000) := hide (by simp [Entry.ok, k0, k1])
      go_enter Tryz.func72, Tryz.ntmps72
      go_wp2_with (first | (go_at_call 54; refine (iName_any _ _ hx).mono ?_; rintro e w' ⟨rfl, rfl⟩) | (go_at_call 35; refine (within_any _ _ _ _).mono ?_; rintro e w' ⟨rfl, rfl⟩))
      go_ret
      exact ⟨retB ck.out.symm, by go_grown⟩
theorem day_any (n : Int) (w : World) :
    Calls Tryz.prog 99 #[.int .i64 n] w fun e w' => e = .returned (.bool (inB n 0 100000)) ∧ w = w' := by
  go_enter Tryz.func99, Tryz.ntmps99
  go_wp2_with (go_at_call 44; refine (in_any _ _ _ _).mono ?_; rintro e w' ⟨rfl, rfl⟩)
  go_ret; exact ⟨rfl, rfl⟩
theorem sEntry_any (b o : Nat) (x : Entry) (w : World) (hx : x.fits) (d0 : w.cell? ⟨b, o, none⟩ = some (.int .i64 x.fDay)) (d1 : w.cell? ⟨b, o + 1, none⟩ = some (.string x.fWhat)) (d2 : w.cell? ⟨b, o + 2, none⟩ = some (.int .i64 x.fValue)) :
    Calls Tryz.prog 80 #[.pointer (some ⟨b, o, none⟩)] w fun e w' => e = .returned (.bool x.ok) ∧ w = w' := by
  cases k0 : inB x.fDay 0 100000
  · have ck : Hid (x.ok = false) := hide (by simp [Entry.ok, k0])
    go_enter Tryz.func80, Tryz.ntmps80
    go_wp2_with (first | (go_at_call 63; refine (sName_any _ _ hx).mono ?_; rintro e w' ⟨rfl, rfl⟩) | (go_at_call 99; refine (day_any _ _).mono ?_; rintro e w' ⟨rfl, rfl⟩) | (go_at_call 44; refine (in_any _ _ _ _).mono ?_; rintro e w' ⟨rfl, rfl⟩))
    go_ret
    exact ⟨retB ck.out.symm, rfl⟩
  · cases k1 : isName x.fWhat
    · have ck : Hid (x.ok = false) := hide (by simp [Entry.ok, k1])
      go_enter Tryz.func80, Tryz.ntmps80
      go_wp2_with (first | (go_at_call 63; refine (sName_any _ _ hx).mono ?_; rintro e w' ⟨rfl, rfl⟩) | (go_at_call 99; refine (day_any _ _).mono ?_; rintro e w' ⟨rfl, rfl⟩) | (go_at_call 44; refine (in_any _ _ _ _).mono ?_; rintro e w' ⟨rfl, rfl⟩))
      go_ret
      exact ⟨retB ck.out.symm, rfl⟩
    · have ck : Hid (x.ok = inB x.fValue (-1000000) 1000000) := hide (by simp [Entry.ok, k0, k1])
      go_enter Tryz.func80, Tryz.ntmps80
      go_wp2_with (first | (go_at_call 63; refine (sName_any _ _ hx).mono ?_; rintro e w' ⟨rfl, rfl⟩) | (go_at_call 99; refine (day_any _ _).mono ?_; rintro e w' ⟨rfl, rfl⟩) | (go_at_call 44; refine (in_any _ _ _ _).mono ?_; rintro e w' ⟨rfl, rfl⟩))
      go_ret
      exact ⟨retB ck.out.symm, rfl⟩
end Go.Proofs.YtceajnoppdfeaaaGreatDoor
