/- Contracts of the wages' tests: valid pieces. -/
import Derived.Test.YtgjcmnnhcoaliaaName
import Derived.Test.YtgjcmnnhcoaliaaSRate
import Derived.Test.YtgjcmnnhcoaliaaSPieceW
namespace Go.Proofs.Ytgjcmnnhcoaliaa
open Go.ChangeShapes Go.WideShapes Go.ChangeAt Go.RowKit Go.Deep
set_option maxRecDepth 100000

def PieceW.ok (x : PieceW) : Bool := isName x.fName && isName x.fSort && inB x.fDay 0 365 && inB x.fMade 1 500
def piecesOk (l : List PieceW) : Bool := l.all PieceW.ok && decide (l.length ≤ 30)
theorem iPieces_any (A : Option Addr) (n c : Nat) (l : List PieceW) (w : World) (hn : n ≤ 1048576) (hf : ∀ x ∈ l, x.fits) (hr : Arr PieceW.cells 4 w w.heap.size A n l) :
    Calls Try.prog 22 #[.slice A n c] w fun e w' => e = .returned (.bool (piecesOk l)) ∧ Below w.heap.size w w' := by
  have hl := hide hr.len
  have hF := hide hf
  clear hf
  go_enter Try.func22, Try.ntmps22
  go_wp2
  go_loopw [7] (fun i wr => ∃ k : Nat, k ≤ n ∧ i = .int .i64 k ∧ Below w.heap.size w wr ∧ Hid ((l.take k).all PieceW.ok = true)) (fun i _ => n - (intOf i).toNat)
  case atStart => exact ⟨0, Nat.zero_le _, rfl, Below.refl _ _, hide (by simp)⟩
  case round =>
    obtain ⟨k, hk, rfl, hb, hall⟩ := hrel
    by_cases hlt : k < n
    · obtain ⟨b, o, x, rfl, hbl, hx, c0, c1, c2, c3⟩ := hr.PieceW hlt
      have d0 : wr.cell? ⟨b, o + k * 4, none⟩ = some (.string x.fName) := (hb.cell (p := ⟨b, o + k * 4, none⟩) hbl).trans c0
      have d1 : wr.cell? ⟨b, o + k * 4 + 1, none⟩ = some (.string x.fSort) := (hb.cell (p := ⟨b, o + k * 4 + 1, none⟩) hbl).trans c1
      have d2 : wr.cell? ⟨b, o + k * 4 + 2, none⟩ = some (.int .i64 x.fDay) := (hb.cell (p := ⟨b, o + k * 4 + 2, none⟩) hbl).trans c2
      have d3 : wr.cell? ⟨b, o + k * 4 + 3, none⟩ = some (.int .i64 x.fMade) := (hb.cell (p := ⟨b, o + k * 4 + 3, none⟩) hbl).trans c3
      have hX := hide hx
      clear hx c0 c1 c2 c3
      have hB := hide hb
      clear hr hb
      have hfx := hF.out x (List.mem_of_getElem? hX.out)
      obtain ⟨hz0, hz1⟩ := hfx
      have hy0 : x.fName.size ≤ maxLen := hz0
      have hy1 : x.fSort.size ≤ maxLen := hz1
      cases k0 : isName x.fName
      · skip
        have ck : Hid (piecesOk l = false) := hide (by unfold piecesOk; rw [all_not hX.out (by simp [PieceW.ok, k0])]; rfl)
        go_wp2_with (first | (go_at_call 24; refine (iName_any _ _ (by assumption)).mono ?_; rintro e w' ⟨rfl, rfl⟩) | (go_at_call 25; refine (within_any _ _ _ _).mono ?_; rintro e w' ⟨rfl, rfl⟩))
        go_ret
        exact ⟨retB ck.out.symm, hB.out.alloc hB.out.size _⟩
      · skip
        cases k1 : isName x.fSort
        · skip
          have ck : Hid (piecesOk l = false) := hide (by unfold piecesOk; rw [all_not hX.out (by simp [PieceW.ok, k1])]; rfl)
          go_wp2_with (first | (go_at_call 24; refine (iName_any _ _ (by assumption)).mono ?_; rintro e w' ⟨rfl, rfl⟩) | (go_at_call 25; refine (within_any _ _ _ _).mono ?_; rintro e w' ⟨rfl, rfl⟩))
          go_ret
          exact ⟨retB ck.out.symm, hB.out.alloc hB.out.size _⟩
        · skip
          cases k2 : inB x.fDay 0 365
          · skip
            have ck : Hid (piecesOk l = false) := hide (by unfold piecesOk; rw [all_not hX.out (by simp [PieceW.ok, k2])]; rfl)
            go_wp2_with (first | (go_at_call 24; refine (iName_any _ _ (by assumption)).mono ?_; rintro e w' ⟨rfl, rfl⟩) | (go_at_call 25; refine (within_any _ _ _ _).mono ?_; rintro e w' ⟨rfl, rfl⟩))
            go_ret
            exact ⟨retB ck.out.symm, hB.out.alloc hB.out.size _⟩
          · skip
            cases k3 : inB x.fMade 1 500
            · skip
              have ck : Hid (piecesOk l = false) := hide (by unfold piecesOk; rw [all_not hX.out (by simp [PieceW.ok, k3])]; rfl)
              go_wp2_with (first | (go_at_call 24; refine (iName_any _ _ (by assumption)).mono ?_; rintro e w' ⟨rfl, rfl⟩) | (go_at_call 25; refine (within_any _ _ _ _).mono ?_; rintro e w' ⟨rfl, rfl⟩))
              go_ret
              exact ⟨retB ck.out.symm, hB.out.alloc hB.out.size _⟩
            · skip
              have ck : Hid (x.ok = true) := hide (by simp [PieceW.ok, k0, k1, k2, k3])
              go_wp2_with (first | (go_at_call 24; refine (iName_any _ _ (by assumption)).mono ?_; rintro e w' ⟨rfl, rfl⟩) | (go_at_call 25; refine (within_any _ _ _ _).mono ?_; rintro e w' ⟨rfl, rfl⟩))
              go_roundw
              case rel => exact ⟨k + 1, by omega, by go_num, hB.out.alloc hB.out.size _, hide (by rw [take_snoc hX.out, List.all_append, hall.out]; simp [ck.out])⟩
              case measure => simp [intOf]; omega
    · have hkn : k = n := by omega
      subst hkn
      have hB := hide hb
      clear hb
      have ck : Hid (piecesOk l = decide (k ≤ 30)) := hide (by have e := hall.out; rw [List.take_of_length_le (by rw [hl.out]; exact Nat.le_refl _)] at e; unfold piecesOk; rw [e, hl.out, Bool.true_and])
      go_wp2
      go_ret
      exact ⟨retB (by rw [ck.out, decide_eq_decide]; omega), hB.out⟩
end Go.Proofs.Ytgjcmnnhcoaliaa
