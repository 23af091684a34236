/- Contracts: a valid entry. -/
import Derived.Test.YtgjhibkljpjdhaaDoorName
import Derived.Test.YtgjhibkljpjdhaaDoorSEntry
namespace Go.Proofs.YtgjhibkljpjdhaaDoor
open Go.ChangeShapes Go.WideShapes Go.ChangeAt Go.RowKit Go.Deep
set_option maxRecDepth 100000
/-! ### a valid entry -/
def Entry.ok (x : Entry) : Bool := inB x.fDay 0 100000 && isName x.fWhat && inB x.fValue (-1000000) 1000000
theorem iEntry_any (x : Entry) (w : World) (hx : x.fits) :
    Calls Tryd.prog 28 #[.agg #[.int .i64 x.fDay, .string x.fWhat, .int .i64 x.fValue]] w fun e w' => e = .returned (.bool x.ok) ∧ Below w.heap.size w w' := by
  cases k0 : inB x.fDay 0 100000
  · have ck : Hid (x.ok = false) := hide (by simp [Entry.ok, k0])
    go_enter Tryd.func28, Tryd.ntmps28
    go_wp2_with (first | (go_at_call 26; refine (iName_any _ _ hx).mono ?_; rintro e w' ⟨rfl, rfl⟩) | (go_at_call 27; refine (within_any _ _ _ _).mono ?_; rintro e w' ⟨rfl, rfl⟩))
    go_ret
    exact ⟨retB ck.out.symm, by go_grown⟩
  · cases k1 : isName x.fWhat
    · have ck : Hid (x.ok = false) := hide (by simp [Entry.ok, k1])
      go_enter Tryd.func28, Tryd.ntmps28
      go_wp2_with (first | (go_at_call 26; refine (iName_any _ _ hx).mono ?_; rintro e w' ⟨rfl, rfl⟩) | (go_at_call 27; refine (within_any _ _ _ _).mono ?_; rintro e w' ⟨rfl, rfl⟩))
      go_ret
      exact ⟨retB ck.out.symm, by go_grown⟩
    · have ck : Hid (x.ok = inB x.fValue (-1000000) 1000000) := hide (by simp [Entry.ok, k0, k1])
      go_enter Tryd.func28, Tryd.ntmps28
      go_wp2_with (first | (go_at_call 26; refine (iName_any _ _ hx).mono ?_; rintro e w' ⟨rfl, rfl⟩) | (go_at_call 27; refine (within_any _ _ _ _).mono ?_; rintro e w' ⟨rfl, rfl⟩))
      go_ret
      exact ⟨retB ck.out.symm, by go_grown⟩
theorem day_any (n : Int) (w : World) :
    Calls Tryd.prog 36 #[.int .i64 n] w fun e w' => e = .returned (.bool (inB n 0 100000)) ∧ w = w' := by
  go_enter Tryd.func36, Tryd.ntmps36
  go_wp2_with (go_at_call 38; refine (in_any _ _ _ _).mono ?_; rintro e w' ⟨rfl, rfl⟩)
  go_ret; exact ⟨rfl, rfl⟩
theorem sEntry_any (b o : Nat) (x : Entry) (w : World) (hx : x.fits) (d0 : w.cell? ⟨b, o, none⟩ = some (.int .i64 x.fDay)) (d1 : w.cell? ⟨b, o + 1, none⟩ = some (.string x.fWhat)) (d2 : w.cell? ⟨b, o + 2, none⟩ = some (.int .i64 x.fValue)) :
    Calls Tryd.prog 21 #[.pointer (some ⟨b, o, none⟩)] w fun e w' => e = .returned (.bool x.ok) ∧ w = w' := by
  cases k0 : inB x.fDay 0 100000
  · have ck : Hid (x.ok = false) := hide (by simp [Entry.ok, k0])
    go_enter Tryd.func21, Tryd.ntmps21
    go_wp2_with (first | (go_at_call 37; refine (sName_any _ _ hx).mono ?_; rintro e w' ⟨rfl, rfl⟩) | (go_at_call 36; refine (day_any _ _).mono ?_; rintro e w' ⟨rfl, rfl⟩) | (go_at_call 38; refine (in_any _ _ _ _).mono ?_; rintro e w' ⟨rfl, rfl⟩))
    go_ret
    exact ⟨retB ck.out.symm, rfl⟩
  · cases k1 : isName x.fWhat
    · have ck : Hid (x.ok = false) := hide (by simp [Entry.ok, k1])
      go_enter Tryd.func21, Tryd.ntmps21
      go_wp2_with (first | (go_at_call 37; refine (sName_any _ _ hx).mono ?_; rintro e w' ⟨rfl, rfl⟩) | (go_at_call 36; refine (day_any _ _).mono ?_; rintro e w' ⟨rfl, rfl⟩) | (go_at_call 38; refine (in_any _ _ _ _).mono ?_; rintro e w' ⟨rfl, rfl⟩))
      go_ret
      exact ⟨retB ck.out.symm, rfl⟩
    · have ck : Hid (x.ok = inB x.fValue (-1000000) 1000000) := hide (by simp [Entry.ok, k0, k1])
      go_enter Tryd.func21, Tryd.ntmps21
      go_wp2_with (first | (go_at_call 37; refine (sName_any _ _ hx).mono ?_; rintro e w' ⟨rfl, rfl⟩) | (go_at_call 36; refine (day_any _ _).mono ?_; rintro e w' ⟨rfl, rfl⟩) | (go_at_call 38; refine (in_any _ _ _ _).mono ?_; rintro e w' ⟨rfl, rfl⟩))
      go_ret
      exact ⟨retB ck.out.symm, rfl⟩
end Go.Proofs.YtgjhibkljpjdhaaDoor
