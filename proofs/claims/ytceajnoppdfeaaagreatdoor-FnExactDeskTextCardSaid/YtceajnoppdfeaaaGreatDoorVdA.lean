/- Contracts: a stroke, stakes, kinds of rods. No statement is proved here. -/
import Derived.Test.YtceajnoppdfeaaaGreatDoorName
import Derived.Test.YtceajnoppdfeaaaGreatDoorSKind
import Derived.Test.YtceajnoppdfeaaaGreatDoorShelf
import Derived.Shelf.Strings.SlTrimAscii
namespace Go.Proofs.YtceajnoppdfeaaaGreatDoor
open Go.ChangeShapes Go.WideShapes Go.ChangeAt Go.RowKit Go.Deep
set_option maxRecDepth 100000
/-! ### a stroke -/
def isFB (c : UInt8) : Bool := ([70, 66] : List UInt8).contains c
def strokeOk (s : ByteArray) : Bool := decide (1 ≤ s.size) && decide (s.size ≤ 12) && s.data.toList.all isFB
theorem trimS_nil {l : List UInt8} : Lib.trimS l [70, 66] = [] ↔ l.all isFB = true := by
  have hd : ∀ l : List UInt8, l.dropWhile (([70, 66] : List UInt8).contains ·) = [] ↔ l.all isFB = true := by
    intro l
    induction l with
    | nil => simp
    | cons a l ih =>
      rw [List.all_cons]
      by_cases h : ([70, 66] : List UInt8).contains a = true
      · rw [List.dropWhile_cons_of_pos h, ih, show isFB a = true from h, Bool.true_and]
      · rw [List.dropWhile_cons_of_neg h, show isFB a = false from Bool.eq_false_iff.2 h]; simp
  have hw : ∀ l : List UInt8, (l.dropWhile (([70, 66] : List UInt8).contains ·)).all isFB = true ↔ l.all isFB = true := by
    intro l
    induction l with
    | nil => simp
    | cons a l ih =>
      by_cases h : ([70, 66] : List UInt8).contains a = true
      · rw [List.dropWhile_cons_of_pos h, ih, List.all_cons, show isFB a = true from h, Bool.true_and]
      · rw [List.dropWhile_cons_of_neg h]
  unfold Lib.trimS Lib.trimLeftS Lib.trimRightS
  rw [hd, List.all_reverse, hw, List.all_reverse]
theorem iStroke_any (s : ByteArray) (w : World) (hs : s.size ≤ maxLen) :
    Calls Tryz.prog 17 #[.string s] w fun e w' => e = .returned (.bool (strokeOk s)) ∧ Below w.heap.size w w' := by
  unfold maxLen at hs
  by_cases h1 : (s.size : Int) < 1
  · have hm : Hid (strokeOk s = false) := hide (by unfold strokeOk; rw [decide_eq_false (by omega)]; rfl)
    go_enter Tryz.func17, Tryz.ntmps17
    go_wp2
    go_ret; exact ⟨retB hm.out.symm, Below.refl _ _⟩
  by_cases h2 : (12 : Int) < s.size
  · have hm : Hid (strokeOk s = false) := hide (by unfold strokeOk; rw [decide_eq_false (p := s.size ≤ 12) (by omega)]; simp)
    go_enter Tryz.func17, Tryz.ntmps17
    go_wp2
    go_ret; exact ⟨retB hm.out.symm, Below.refl _ _⟩
  have hc := hide (Any.strings_Trim_laid Tryz.lays160 (by kernel_rfl) s ⟨#[70, 66]⟩ w (by omega) (by decide) (ascii_of_all (by decide)))
  cases ha : s.data.toList.all isFB
  · have hm : Hid (strokeOk s = false) := hide (by unfold strokeOk; rw [ha]; simp)
    have hne : Lib.trimS s.data.toList [70, 66] ≠ [] := fun h => by rw [trimS_nil.1 h] at ha; cases ha
    obtain ⟨t, ht⟩ : ∃ t, t = (⟨(Lib.trimS s.data.toList [70, 66]).toArray⟩ : ByteArray) := ⟨_, rfl⟩
    have hct : Hid (Calls Tryz.prog 34 #[.string s, .string ⟨#[70, 66]⟩] w fun e w' => e = .returned (.string t) ∧ Below w.heap.size w w') := hide (by rw [ht]; exact hc.out)
    have htl : t.toList ≠ [] := by
      rw [ByteArray.toList_eq, ht]; exact hne
    have e1 : t.toList.isEmpty = false := by cases hq : t.toList with
      | nil => exact absurd hq htl
      | cons _ _ => rfl
    have e2 : (t.toList == []) = false := by cases hq : t.toList with
      | nil => exact absurd hq htl
      | cons _ _ => rfl
    clear hc ht ha hne
    go_enter Tryz.func17, Tryz.ntmps17
    go_wp2_with (go_at_call 34; refine hct.out.mono ?_; rintro e w1 ⟨rfl, hb⟩; have hB := hide hb; clear hb)
    go_ret; exact ⟨retB (by rw [hm.out]), hB.out⟩
  · have hm : Hid (strokeOk s = true) := hide (by unfold strokeOk; rw [ha, decide_eq_true (by omega), decide_eq_true (by omega)]; rfl)
    rw [show (⟨#[70, 66]⟩ : ByteArray).data.toList = [70, 66] from rfl, trimS_nil.2 ha] at hc
    clear ha
    go_enter Tryz.func17, Tryz.ntmps17
    go_wp2_with (go_at_call 34; refine hc.out.mono ?_; rintro e w1 ⟨rfl, hb⟩; have hB := hide hb; clear hb)
    go_ret; exact ⟨retB hm.out.symm, hB.out⟩
theorem fb_byte {c : UInt8} : isFB c = true ↔ (c.toNat : Int) = 70 ∨ (c.toNat : Int) = 66 := by
  unfold isFB
  simp only [List.contains_cons, List.contains_nil, Bool.or_false, Bool.or_eq_true, beq_iff_eq]
  constructor
  · rintro (h | h) <;> subst h <;> decide
  · rintro (h | h)
    · left; exact UInt8.toNat_inj.1 (by show c.toNat = 70; omega)
    · right; exact UInt8.toNat_inj.1 (by show c.toNat = 66; omega)
theorem fb_get {s : ByteArray} {k : Nat} (h : k < s.size) : s.data.toList[k]? = some s[k] := by
  rw [List.getElem?_eq_getElem (by rw [Array.length_toList]; exact h)]; rfl
set_option maxHeartbeats 1000000 in
theorem sStroke_any (s : ByteArray) (w : World) (hs : s.size ≤ maxLen) :
    Calls Tryz.prog 28 #[.string s] w fun e w' => e = .returned (.bool (strokeOk s)) ∧ w = w' := by
  unfold maxLen at hs
  go_enter Tryz.func28, Tryz.ntmps28
  go_wp2
  go_loopw [3] (fun i wr => ∃ k : Nat, k ≤ s.size ∧ i = .int .i64 k ∧ w = wr ∧ Hid ((s.data.toList.take k).all isFB = true)) (fun i _ => s.size - (intOf i).toNat)
  case atStart => exact ⟨0, Nat.zero_le _, rfl, rfl, hide rfl⟩
  case round =>
    obtain ⟨k, hk, rfl, rfl, hall⟩ := hrel
    by_cases hlt : k < s.size
    · have hx := fb_get hlt
      cases hb : isFB s[k]
      · have hm : Hid (strokeOk s = false) := hide (by unfold strokeOk; rw [all_not hx hb]; simp)
        have e1 : ((s[k].toNat : Int) != 70) = true := by rw [bne_iff_ne]; intro h; rw [fb_byte.2 (.inl h)] at hb; cases hb
        have e2 : ((s[k].toNat : Int) != 66) = true := by rw [bne_iff_ne]; intro h; rw [fb_byte.2 (.inr h)] at hb; cases hb
        clear hx hb
        go_wp2
        go_ret
        exact ⟨retB hm.out.symm, rfl⟩
      · have hnx : Hid ((s.data.toList.take (k + 1)).all isFB = true) := hide (by rw [take_snoc hx, List.all_append, hall.out]; simp [hb])
        have hor := fb_byte.1 hb
        clear hx hb
        by_cases h7 : (s[k].toNat : Int) = 70
        · have e1 : ((s[k].toNat : Int) != 70) = false := by rw [h7]; rfl
          clear h7 hor
          go_wp2
          go_round
          case rel => exact ⟨k + 1, by omega, by go_num, trivial, hnx⟩
          case measure => simp [intOf]; omega
        · have h6 : (s[k].toNat : Int) = 66 := hor.resolve_left h7
          have e1 : ((s[k].toNat : Int) != 70) = true := bne_iff_ne.2 h7
          have e2 : ((s[k].toNat : Int) != 66) = false := by rw [h6]; rfl
          clear h7 h6 hor
          go_wp2
          go_round
          case rel => exact ⟨k + 1, by omega, by go_num, trivial, hnx⟩
          case measure => simp [intOf]; omega
    · have hkn : k = s.size := by omega
      subst hkn
      have hm : Hid (strokeOk s = inB (s.size : Int) 1 12) := hide (by
        have e := hall.out
        rw [List.take_of_length_le (by rw [Array.length_toList]; exact Nat.le_refl _)] at e
        unfold strokeOk
        rw [e, Bool.and_true, Bool.eq_iff_iff, Bool.and_eq_true, decide_eq_true_eq, decide_eq_true_eq, inB_true]
        omega)
      go_wp2_with (go_at_call 44; refine (in_any _ _ _ _).mono ?_; rintro e w' ⟨rfl, rfl⟩)
      go_ret
      exact ⟨retB hm.out.symm, rfl⟩
theorem iStakes_any (n : Int) (w : World) : Calls Tryz.prog 18 #[.int .i64 n] w fun e w' => e = .returned (.bool (inB n 3 60)) ∧ w = w' := by
  go_enter Tryz.func18, Tryz.ntmps18
  go_wp2_with (go_at_call 35; refine (within_any _ _ _ _).mono ?_; rintro e w' ⟨rfl, rfl⟩)
  go_ret; exact ⟨rfl, rfl⟩
theorem sStakes_any (n : Int) (w : World) : Calls Tryz.prog 29 #[.int .i64 n] w fun e w' => e = .returned (.bool (inB n 3 60)) ∧ w = w' := by
  go_enter Tryz.func29, Tryz.ntmps29
  go_wp2_with (go_at_call 44; refine (in_any _ _ _ _).mono ?_; rintro e w' ⟨rfl, rfl⟩)
  go_ret; exact ⟨rfl, rfl⟩
/-! ### kinds -/
def Kind.ok (x : Kind) : Bool := inB x.fReach 1 200 && inB x.fHave 0 12
def kindPair (l : List Kind) (i : Nat) : Bool := match l[i]? with
  | some x => x.ok && (decide (i = 0) || (match l[i - 1]? with | some y => !decide (x.fReach ≤ y.fReach) | none => true))
  | none => true
def kindsOk (l : List Kind) : Bool := (List.range l.length).all (kindPair l) && decide (l.length ≤ 4)
theorem kindPair_zero {l : List Kind} {x : Kind} (h : l[0]? = some x) : kindPair l 0 = x.ok := by unfold kindPair; rw [h]; simp
theorem kindPair_pos {l : List Kind} {x y : Kind} {k : Nat} (h : l[k]? = some x) (hk : 0 < k) (h' : l[k - 1]? = some y) : kindPair l k = (x.ok && !decide (x.fReach ≤ y.fReach)) := by
  unfold kindPair; rw [h, h', decide_eq_false (by omega)]; simp
set_option maxHeartbeats 1000000 in
theorem iKinds_any (A : Option Addr) (n c : Nat) (l : List Kind) (w : World) (hn : n ≤ 1048576) (hr : Arr Kind.cells 2 w w.heap.size A n l) :
    Calls Tryz.prog 19 #[.slice A n c] w fun e w' => e = .returned (.bool (kindsOk l)) ∧ Below w.heap.size w w' := by
  have hl := hide hr.len
  go_enter Tryz.func19, Tryz.ntmps19
  go_wp2
  go_loopw [7] (fun i wr => ∃ k : Nat, k ≤ n ∧ i = .int .i64 k ∧ Below w.heap.size w wr ∧ Hid ((List.range k).all (kindPair l) = true)) (fun i _ => n - (intOf i).toNat)
  case atStart => exact ⟨0, Nat.zero_le _, rfl, Below.refl _ _, hide rfl⟩
  case round =>
    obtain ⟨k, hk, rfl, hb, hall⟩ := hrel
    by_cases hlt : k < n
    · obtain ⟨b, o, x, rfl, hbl, hx, c0, c1⟩ := hr.Kind hlt
      have d0 : wr.cell? ⟨b, o + k * 2, none⟩ = some (.int .i64 x.fReach) := (hb.cell (p := ⟨b, o + k * 2, none⟩) hbl).trans c0
      have d1 : wr.cell? ⟨b, o + k * 2 + 1, none⟩ = some (.int .i64 x.fHave) := (hb.cell (p := ⟨b, o + k * 2 + 1, none⟩) hbl).trans c1
      have hX := hide hx
      clear hx c0 c1
      have hbs : b < wr.heap.size := Nat.lt_of_lt_of_le hbl hb.size
      have hbad : Hid (kindPair l k = false → kindsOk l = false) := hide (fun h => by
        unfold kindsOk; rw [all_not (i := k) (x := k) (by rw [List.getElem?_range (by rw [hl.out]; exact hlt)]) h]; rfl)
      have hgood : Hid (kindPair l k = true → (List.range (k + 1)).all (kindPair l) = true) := hide (fun h => by rw [List.range_succ, List.all_append, hall.out]; simp [h])
      by_cases hz : 0 < k
      · obtain ⟨_, _, y, hA2, _, hx2, e0, e1⟩ := hr.Kind (k := k - 1) (by omega)
        cases hA2
        have q0 : ∀ O, (wr.alloc O).cell? ⟨b, o + (k - 1) * 2, none⟩ = some (.int .i64 y.fReach) := fun O => (World.cell?_alloc_lt wr O ⟨b, o + (k - 1) * 2, none⟩ hbs).trans ((hb.cell (p := ⟨b, o + (k - 1) * 2, none⟩) hbl).trans e0)
        have hp := hide (kindPair_pos hX.out hz hx2)
        have hB := hide hb
        clear hr hb hall hx2 e0 e1
        have hd : decide ((0 : Int) < (k : Int)) = true := by simp; omega
        have hi0 : (0 : Int) ≤ (k : Int) - 1 := by omega
        have hi3 : (1 : Int) ≤ (k : Int) := by omega
        have hi1 : (k : Int) - 1 < (n : Int) := by omega
        have hw : IntKind.i64.wrap ((k : Int) - 1) = (k : Int) - 1 := IntWalk.i64_in _ (by omega)
        have hi2 : ((k : Int) - 1).toNat = k - 1 := by omega
        cases h1 : inB x.fReach 1 200
        · skip
          have ck : Hid (kindPair l k = false) := hide (by rw [hp.out]; simp [Kind.ok, h1])
          go_wp2_with fail
          go_quiet ((go_at_call 35; exact quiet_left (within_any _ _ _ _)))
          go_wp2
          go_ret
          exact ⟨retB (hbad.out ck.out).symm, below_drewN (hB.out.alloc hB.out.size _) _⟩
        · cases h2 : inB x.fHave 0 12
          · skip
            have ck : Hid (kindPair l k = false) := hide (by rw [hp.out]; simp [Kind.ok, h2])
            go_wp2_with fail
            go_quiet ((go_at_call 35; exact quiet_left (within_any _ _ _ _)))
            go_wp2
            go_ret
            exact ⟨retB (hbad.out ck.out).symm, below_drewN (hB.out.alloc hB.out.size _) _⟩
          · cases h3 : decide (x.fReach ≤ y.fReach)
            · skip
              have ck : Hid (kindPair l k = true) := hide (by rw [hp.out]; simp [Kind.ok, h1, h2, h3, -decide_eq_false_iff_not])
              go_wp2_with fail
              go_quiet ((go_at_call 35; exact quiet_left (within_any _ _ _ _)))
              go_wp2
              go_roundw
              case rel => exact ⟨k + 1, by omega, by go_num, below_drewN (hB.out.alloc hB.out.size _) _, hide (hgood.out ck.out)⟩
              case measure => simp [intOf]; omega
            · skip
              have ck : Hid (kindPair l k = false) := hide (by rw [hp.out]; simp [h3, -decide_eq_true_eq])
              go_wp2_with fail
              go_quiet ((go_at_call 35; exact quiet_left (within_any _ _ _ _)))
              go_wp2
              go_ret
              exact ⟨retB (hbad.out ck.out).symm, below_drewN (hB.out.alloc hB.out.size _) _⟩
      · have hp := hide (show kindPair l k = x.ok by
          have hk0 : k = 0 := by omega
          subst hk0
          exact kindPair_zero hX.out)
        have hd : decide ((0 : Int) < (k : Int)) = false := by simp; omega
        have hB := hide hb
        clear hr hb hall
        cases h1 : inB x.fReach 1 200
        · skip
          have ck : Hid (kindPair l k = false) := hide (by rw [hp.out]; simp [Kind.ok, h1])
          go_wp2_with fail
          go_quiet ((go_at_call 35; exact quiet_left (within_any _ _ _ _)))
          go_wp2
          go_ret
          exact ⟨retB (hbad.out ck.out).symm, below_drewN (hB.out.alloc hB.out.size _) _⟩
        · cases h2 : inB x.fHave 0 12
          · skip
            have ck : Hid (kindPair l k = false) := hide (by rw [hp.out]; simp [Kind.ok, h2])
            go_wp2_with fail
            go_quiet ((go_at_call 35; exact quiet_left (within_any _ _ _ _)))
            go_wp2
            go_ret
            exact ⟨retB (hbad.out ck.out).symm, below_drewN (hB.out.alloc hB.out.size _) _⟩
          · skip
            have ck : Hid (kindPair l k = true) := hide (by rw [hp.out]; simp [Kind.ok, h1, h2])
            go_wp2_with fail
            go_quiet ((go_at_call 35; exact quiet_left (within_any _ _ _ _)))
            go_wp2
            go_roundw
            case rel => exact ⟨k + 1, by omega, by go_num, below_drewN (hB.out.alloc hB.out.size _) _, hide (hgood.out ck.out)⟩
            case measure => simp [intOf]; omega
    · have hkn : k = n := by omega
      subst hkn
      have hB := hide hb
      clear hb
      have ck : Hid (kindsOk l = decide (k ≤ 4)) := hide (by unfold kindsOk; rw [hl.out, hall.out, Bool.true_and])
      go_wp2
      go_ret
      exact ⟨retB (by rw [ck.out, decide_eq_decide]; omega), hB.out⟩
set_option maxHeartbeats 1000000 in
theorem sKinds_any (A : Option Addr) (n c : Nat) (l : List Kind) (w : World) (hn : n ≤ 1048576) (hr : Arr Kind.cells 2 w w.heap.size A n l) :
    Calls Tryz.prog 30 #[.slice A n c] w fun e w' => e = .returned (.bool (kindsOk l)) ∧ Below w.heap.size w w' := by
  have hl := hide hr.len
  go_enter Tryz.func30, Tryz.ntmps30
  go_wp2
  go_loopw [3] (fun i wr => ∃ k : Nat, k ≤ n ∧ i = .int .i64 k ∧ Below w.heap.size w wr ∧ Hid ((List.range k).all (kindPair l) = true)) (fun i _ => n - (intOf i).toNat)
  case atStart => exact ⟨0, Nat.zero_le _, rfl, Below.refl _ _, hide rfl⟩
  case round =>
    obtain ⟨k, hk, rfl, hb, hall⟩ := hrel
    by_cases hlt : k < n
    · obtain ⟨b, o, x, rfl, hbl, hx, c0, c1⟩ := hr.Kind hlt
      have d0 : wr.cell? ⟨b, o + k * 2, none⟩ = some (.int .i64 x.fReach) := (hb.cell (p := ⟨b, o + k * 2, none⟩) hbl).trans c0
      have d1 : wr.cell? ⟨b, o + k * 2 + 1, none⟩ = some (.int .i64 x.fHave) := (hb.cell (p := ⟨b, o + k * 2 + 1, none⟩) hbl).trans c1
      have hX := hide hx
      clear hx c0 c1
      have hbs : b < wr.heap.size := Nat.lt_of_lt_of_le hbl hb.size
      have hbad : Hid (kindPair l k = false → kindsOk l = false) := hide (fun h => by
        unfold kindsOk; rw [all_not (i := k) (x := k) (by rw [List.getElem?_range (by rw [hl.out]; exact hlt)]) h]; rfl)
      have hgood : Hid (kindPair l k = true → (List.range (k + 1)).all (kindPair l) = true) := hide (fun h => by rw [List.range_succ, List.all_append, hall.out]; simp [h])
      by_cases hz : 0 < k
      · obtain ⟨_, _, y, hA2, _, hx2, e0, e1⟩ := hr.Kind (k := k - 1) (by omega)
        cases hA2
        have q0 : ∀ O, (wr.alloc O).cell? ⟨b, o + (k - 1) * 2, none⟩ = some (.int .i64 y.fReach) := fun O => (World.cell?_alloc_lt wr O ⟨b, o + (k - 1) * 2, none⟩ hbs).trans ((hb.cell (p := ⟨b, o + (k - 1) * 2, none⟩) hbl).trans e0)
        have hp := hide (kindPair_pos hX.out hz hx2)
        have hB := hide hb
        clear hr hb hall hx2 e0 e1
        have hd : decide ((0 : Int) < (k : Int)) = true := by simp; omega
        have hi0 : (0 : Int) ≤ (k : Int) - 1 := by omega
        have hi3 : (1 : Int) ≤ (k : Int) := by omega
        have hi1 : (k : Int) - 1 < (n : Int) := by omega
        have hw : IntKind.i64.wrap ((k : Int) - 1) = (k : Int) - 1 := IntWalk.i64_in _ (by omega)
        have hi2 : ((k : Int) - 1).toNat = k - 1 := by omega
        cases h1 : inB x.fReach 1 200
        · skip
          have ck : Hid (kindPair l k = false) := hide (by rw [hp.out]; simp [Kind.ok, h1])
          go_wp2_with fail
          go_quiet ((go_at_call 44; exact quiet_left (in_any _ _ _ _)))
          go_wp2
          go_ret
          exact ⟨retB (hbad.out ck.out).symm, below_drewN (hB.out.alloc hB.out.size _) _⟩
        · cases h2 : inB x.fHave 0 12
          · skip
            have ck : Hid (kindPair l k = false) := hide (by rw [hp.out]; simp [Kind.ok, h2])
            go_wp2_with fail
            go_quiet ((go_at_call 44; exact quiet_left (in_any _ _ _ _)))
            go_wp2
            go_ret
            exact ⟨retB (hbad.out ck.out).symm, below_drewN (hB.out.alloc hB.out.size _) _⟩
          · cases h3 : decide (x.fReach ≤ y.fReach)
            · skip
              have ck : Hid (kindPair l k = true) := hide (by rw [hp.out]; simp [Kind.ok, h1, h2, h3, -decide_eq_false_iff_not])
              go_wp2_with fail
              go_quiet ((go_at_call 44; exact quiet_left (in_any _ _ _ _)))
              go_wp2
              go_roundw
              case rel => exact ⟨k + 1, by omega, by go_num, below_drewN (hB.out.alloc hB.out.size _) _, hide (hgood.out ck.out)⟩
              case measure => simp [intOf]; omega
            · skip
              have ck : Hid (kindPair l k = false) := hide (by rw [hp.out]; simp [h3, -decide_eq_true_eq])
              go_wp2_with fail
              go_quiet ((go_at_call 44; exact quiet_left (in_any _ _ _ _)))
              go_wp2
              go_ret
              exact ⟨retB (hbad.out ck.out).symm, below_drewN (hB.out.alloc hB.out.size _) _⟩
      · have hp := hide (show kindPair l k = x.ok by
          have hk0 : k = 0 := by omega
          subst hk0
          exact kindPair_zero hX.out)
        have hd : decide ((0 : Int) < (k : Int)) = false := by simp; omega
        have hB := hide hb
        clear hr hb hall
        cases h1 : inB x.fReach 1 200
        · skip
          have ck : Hid (kindPair l k = false) := hide (by rw [hp.out]; simp [Kind.ok, h1])
          go_wp2_with fail
          go_quiet ((go_at_call 44; exact quiet_left (in_any _ _ _ _)))
          go_wp2
          go_ret
          exact ⟨retB (hbad.out ck.out).symm, below_drewN (hB.out.alloc hB.out.size _) _⟩
        · cases h2 : inB x.fHave 0 12
          · skip
            have ck : Hid (kindPair l k = false) := hide (by rw [hp.out]; simp [Kind.ok, h2])
            go_wp2_with fail
            go_quiet ((go_at_call 44; exact quiet_left (in_any _ _ _ _)))
            go_wp2
            go_ret
            exact ⟨retB (hbad.out ck.out).symm, below_drewN (hB.out.alloc hB.out.size _) _⟩
          · skip
            have ck : Hid (kindPair l k = true) := hide (by rw [hp.out]; simp [Kind.ok, h1, h2])
            go_wp2_with fail
            go_quiet ((go_at_call 44; exact quiet_left (in_any _ _ _ _)))
            go_wp2
            go_roundw
            case rel => exact ⟨k + 1, by omega, by go_num, below_drewN (hB.out.alloc hB.out.size _) _, hide (hgood.out ck.out)⟩
            case measure => simp [intOf]; omega
    · have hkn : k = n := by omega
      subst hkn
      have hB := hide hb
      clear hb
      have ck : Hid (kindsOk l = decide (k ≤ 4)) := hide (by unfold kindsOk; rw [hl.out, hall.out, Bool.true_and])
      go_wp2
      go_ret
      exact ⟨retB (by rw [ck.out, decide_eq_decide]; omega), hB.out⟩
end Go.Proofs.YtceajnoppdfeaaaGreatDoor
