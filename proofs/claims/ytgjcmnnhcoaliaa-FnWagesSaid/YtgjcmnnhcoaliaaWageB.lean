/- Contracts of the wages' tests: valid rates. -/
import Derived.Test.YtgjcmnnhcoaliaaWageA
import Derived.Test.YtgjcmnnhcoaliaaStr
namespace Go.Proofs.Ytgjcmnnhcoaliaa
open Go.ChangeShapes Go.WideShapes Go.ChangeAt Go.RowKit Go.Deep
set_option maxRecDepth 100000
def Rate.ok (x : Rate) : Bool := isName x.fSort && inB x.fCents 0 10000
def ratePair (l : List Rate) (i : Nat) : Bool := match l[i]? with
  | some x => x.ok && (decide (i = 0) || (match l[i - 1]? with | some y => strLt y.fSort x.fSort | none => true))
  | none => true
def ratesOk (l : List Rate) : Bool := (List.range l.length).all (ratePair l) && decide (l.length ≤ 8)
theorem ratePair_zero {l : List Rate} {x : Rate} (h : l[0]? = some x) : ratePair l 0 = x.ok := by unfold ratePair; rw [h]; simp
theorem ratePair_pos {l : List Rate} {x y : Rate} {k : Nat} (h : l[k]? = some x) (hk : 0 < k) (h' : l[k - 1]? = some y) : ratePair l k = (x.ok && strLt y.fSort x.fSort) := by
  unfold ratePair; rw [h, h', decide_eq_false (by omega)]; simp
theorem iRates_any (A : Option Addr) (n c : Nat) (l : List Rate) (w : World) (hn : n ≤ 1048576) (hf : ∀ x ∈ l, x.fits) (hr : Arr Rate.cells 2 w w.heap.size A n l) :
    Calls Try.prog 28 #[.slice A n c] w fun e w' => e = .returned (.bool (ratesOk l)) ∧ Below w.heap.size w w' := by
  have hl := hide hr.len
  have hF := hide hf
  clear hf
  go_enter Try.func28, Try.ntmps28
  go_wp2
  go_loopw [7] (fun i wr => ∃ k : Nat, k ≤ n ∧ i = .int .i64 k ∧ Below w.heap.size w wr ∧ Hid ((List.range k).all (ratePair l) = true)) (fun i _ => n - (intOf i).toNat)
  case atStart => exact ⟨0, Nat.zero_le _, rfl, Below.refl _ _, hide rfl⟩
  case round =>
    obtain ⟨k, hk, rfl, hb, hall⟩ := hrel
    by_cases hlt : k < n
    · obtain ⟨b, o, x, rfl, hbl, hx, c0, c1⟩ := hr.Rate hlt
      have d0 : wr.cell? ⟨b, o + k * 2, none⟩ = some (.string x.fSort) := (hb.cell (p := ⟨b, o + k * 2, none⟩) hbl).trans c0
      have d1 : wr.cell? ⟨b, o + k * 2 + 1, none⟩ = some (.int .i64 x.fCents) := (hb.cell (p := ⟨b, o + k * 2 + 1, none⟩) hbl).trans c1
      have hX := hide hx
      clear hx c0 c1
      have hbs : b < wr.heap.size := Nat.lt_of_lt_of_le hbl hb.size
      have hy : x.fSort.size ≤ maxLen := hF.out x (List.mem_of_getElem? hX.out)
      have hbad : Hid (ratePair l k = false → ratesOk l = false) := hide (fun h => by
        unfold ratesOk; rw [all_not (i := k) (x := k) (by rw [List.getElem?_range (by rw [hl.out]; exact hlt)]) h]; rfl)
      have hgood : Hid (ratePair l k = true → (List.range (k + 1)).all (ratePair l) = true) := hide (fun h => by rw [List.range_succ, List.all_append, hall.out]; simp [h])
      by_cases hz : 0 < k
      · obtain ⟨_, _, y, hA2, _, hx2, e0, e1⟩ := hr.Rate (k := k - 1) (by omega)
        cases hA2
        have q0 : ∀ O, (wr.alloc O).cell? ⟨b, o + (k - 1) * 2, none⟩ = some (.string y.fSort) := fun O => (World.cell?_alloc_lt wr O ⟨b, o + (k - 1) * 2, none⟩ hbs).trans ((hb.cell (p := ⟨b, o + (k - 1) * 2, none⟩) hbl).trans e0)
        have hp := hide (ratePair_pos hX.out hz hx2)
        have hB := hide hb
        clear hr hb hall hx2 e0 e1
        have hd : decide ((0 : Int) < (k : Int)) = true := by simp; omega
        have hi0 : (0 : Int) ≤ (k : Int) - 1 := by omega
        have hi1 : (k : Int) - 1 < (n : Int) := by omega
        have hw : IntKind.i64.wrap ((k : Int) - 1) = (k : Int) - 1 := IntWalk.i64_in _ (by omega)
        have hi2 : ((k : Int) - 1).toNat = k - 1 := by omega
        cases h1 : isName x.fSort
        · have ck : Hid (ratePair l k = false) := hide (by rw [hp.out]; simp [Rate.ok, h1])
          go_wp2_with fail
          go_quiet ((first | (go_at_call 24; exact quiet_left (iName_any _ _ (by assumption))) | (go_at_call 25; exact quiet_left (within_any _ _ _ _))))
          go_wp2
          go_ret
          exact ⟨retB (hbad.out ck.out).symm, below_drewN (hB.out.alloc hB.out.size _) _⟩
        · cases h2 : Op.bytesLess y.fSort.toList x.fSort.toList
          · have ck : Hid (ratePair l k = false) := hide (by rw [hp.out]; simp [strLt, h2])
            go_wp2_with fail
            go_quiet ((first | (go_at_call 24; exact quiet_left (iName_any _ _ (by assumption))) | (go_at_call 25; exact quiet_left (within_any _ _ _ _))))
            go_wp2
            go_ret
            exact ⟨retB (hbad.out ck.out).symm, below_drewN (hB.out.alloc hB.out.size _) _⟩
          · cases h3 : inB x.fCents 0 10000
            · have ck : Hid (ratePair l k = false) := hide (by rw [hp.out]; simp [Rate.ok, h3])
              go_wp2_with fail
              go_quiet ((first | (go_at_call 24; exact quiet_left (iName_any _ _ (by assumption))) | (go_at_call 25; exact quiet_left (within_any _ _ _ _))))
              go_wp2
              go_ret
              exact ⟨retB (hbad.out ck.out).symm, below_drewN (hB.out.alloc hB.out.size _) _⟩
            · have ck : Hid (ratePair l k = true) := hide (by rw [hp.out]; simp [Rate.ok, strLt, h1, h2, h3])
              go_wp2_with fail
              go_quiet ((first | (go_at_call 24; exact quiet_left (iName_any _ _ (by assumption))) | (go_at_call 25; exact quiet_left (within_any _ _ _ _))))
              go_wp2
              go_roundw
              case rel => exact ⟨k + 1, by omega, by go_num, below_drewN (hB.out.alloc hB.out.size _) _, hide (hgood.out ck.out)⟩
              case measure => simp [intOf]; omega
      · have hp := hide (show ratePair l k = x.ok by
          have hk0 : k = 0 := by omega
          subst hk0
          exact ratePair_zero hX.out)
        have hd : decide ((0 : Int) < (k : Int)) = false := by simp; omega
        have hB := hide hb
        clear hr hb hall
        cases h1 : isName x.fSort
        · have ck : Hid (ratePair l k = false) := hide (by rw [hp.out]; simp [Rate.ok, h1])
          go_wp2_with fail
          go_quiet ((first | (go_at_call 24; exact quiet_left (iName_any _ _ (by assumption))) | (go_at_call 25; exact quiet_left (within_any _ _ _ _))))
          go_wp2
          go_ret
          exact ⟨retB (hbad.out ck.out).symm, below_drewN (hB.out.alloc hB.out.size _) _⟩
        · cases h3 : inB x.fCents 0 10000
          · have ck : Hid (ratePair l k = false) := hide (by rw [hp.out]; simp [Rate.ok, h3])
            go_wp2_with fail
            go_quiet ((first | (go_at_call 24; exact quiet_left (iName_any _ _ (by assumption))) | (go_at_call 25; exact quiet_left (within_any _ _ _ _))))
            go_wp2
            go_ret
            exact ⟨retB (hbad.out ck.out).symm, below_drewN (hB.out.alloc hB.out.size _) _⟩
          · have ck : Hid (ratePair l k = true) := hide (by rw [hp.out]; simp [Rate.ok, h1, h3])
            go_wp2_with fail
            go_quiet ((first | (go_at_call 24; exact quiet_left (iName_any _ _ (by assumption))) | (go_at_call 25; exact quiet_left (within_any _ _ _ _))))
            go_wp2
            go_roundw
            case rel => exact ⟨k + 1, by omega, by go_num, below_drewN (hB.out.alloc hB.out.size _) _, hide (hgood.out ck.out)⟩
            case measure => simp [intOf]; omega
    · have hkn : k = n := by omega
      subst hkn
      have hB := hide hb
      clear hb
      have ck : Hid (ratesOk l = decide (k ≤ 8)) := hide (by unfold ratesOk; rw [hl.out, hall.out, Bool.true_and])
      go_wp2
      go_ret
      exact ⟨retB (by rw [ck.out, decide_eq_decide]; omega), hB.out⟩
end Go.Proofs.Ytgjcmnnhcoaliaa
