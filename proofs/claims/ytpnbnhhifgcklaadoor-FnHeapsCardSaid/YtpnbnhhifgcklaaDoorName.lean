/- Contracts of IsName, the program's and the reference's, and of the bounds' tests. -/
import Derived.Test.YtpnbnhhifgcklaaDoorKit
namespace Go.Proofs.YtpnbnhhifgcklaaDoor
open Go.ChangeShapes Go.WideShapes Go.ChangeAt Go.RowKit Go.Deep

theorem in_any (n lo hi : Int) (w : World) :
    Calls Tryd.prog 56 #[.int .i64 n, .int .i64 lo, .int .i64 hi] w fun e w' => e = .returned (.bool (inB n lo hi)) ∧ w = w' := by
  go_enter Tryd.func56, Tryd.ntmps56
  by_cases h : lo ≤ n
  · go_wp2
    go_ret; exact ⟨by simp [inB, h], rfl⟩
  · go_wp2
    go_ret; exact ⟨by simp [inB]; omega, rfl⟩
theorem within_any (n lo hi : Int) (w : World) :
    Calls Tryd.prog 30 #[.int .i64 n, .int .i64 lo, .int .i64 hi] w fun e w' => e = .returned (.bool (inB n lo hi)) ∧ w = w' := by
  go_enter Tryd.func30, Tryd.ntmps30
  by_cases h : lo ≤ n
  · go_wp2
    go_ret; exact ⟨by simp [inB, h], rfl⟩
  · go_wp2
    go_ret; exact ⟨by simp [inB]; omega, rfl⟩
theorem small_any (v : Int) (w : World) :
    Calls Tryd.prog 49 #[.int .u8 v] w fun e w' => e = .returned (.bool (inB v 97 122)) ∧ w = w' := by
  go_enter Tryd.func49, Tryd.ntmps49
  by_cases h : 97 ≤ v
  · go_wp2
    go_ret; exact ⟨by simp [inB, h], rfl⟩
  · go_wp2
    go_ret; exact ⟨by simp [inB]; omega, rfl⟩
theorem digit_any (v : Int) (w : World) :
    Calls Tryd.prog 50 #[.int .u8 v] w fun e w' => e = .returned (.bool (inB v 48 57)) ∧ w = w' := by
  go_enter Tryd.func50, Tryd.ntmps50
  by_cases h : 48 ≤ v
  · go_wp2
    go_ret; exact ⟨by simp [inB, h], rfl⟩
  · go_wp2
    go_ret; exact ⟨by simp [inB]; omega, rfl⟩

def chAt (s : ByteArray) (i : Nat) : Int := if h : i < s.size then (s[i].toNat : Int) else 0
def letB (v : Int) : Bool := inB v 97 122
def othB (v : Int) : Bool := inB v 48 57 || v == 45
def chOk (s : ByteArray) (i : Nat) : Bool := letB (chAt s i) || (decide (0 < i) && othB (chAt s i))
def isName (s : ByteArray) : Bool := decide (1 ≤ s.size) && decide (s.size ≤ 12) && (List.range s.size).all (chOk s)

set_option maxHeartbeats 1000000 in
theorem iName_any (s : ByteArray) (w : World) (hs : s.size ≤ maxLen) :
    Calls Tryd.prog 24 #[.string s] w fun e w' => e = .returned (.bool (isName s)) ∧ w = w' := by
  unfold maxLen at hs
  by_cases h1 : (s.size : Int) < 1
  · have hm : Hid (isName s = false) := hide (by unfold isName; rw [decide_eq_false (by omega)]; rfl)
    go_enter Tryd.func24, Tryd.ntmps24
    go_wp2
    go_ret; exact ⟨retB hm.out.symm, rfl⟩
  · by_cases h2 : (12 : Int) < s.size
    · have hm : Hid (isName s = false) := hide (by unfold isName; rw [decide_eq_false (p := s.size ≤ 12) (by omega)]; simp)
      go_enter Tryd.func24, Tryd.ntmps24
      go_wp2
      go_ret; exact ⟨retB hm.out.symm, rfl⟩
    · have hm : Hid (isName s = (List.range s.size).all (chOk s)) := hide (by unfold isName; rw [decide_eq_true (by omega), decide_eq_true (by omega)]; rfl)
      go_enter Tryd.func24, Tryd.ntmps24
      go_wp2
      go_loopw [3] (fun i wr => ∃ k : Nat, k ≤ s.size ∧ i = .int .i64 k ∧ w = wr ∧ Hid ((List.range k).all (chOk s) = true)) (fun i _ => s.size - (intOf i).toNat)
      case atStart => exact ⟨0, Nat.zero_le _, rfl, rfl, hide rfl⟩
      case round =>
        obtain ⟨k, hk, rfl, rfl, hall⟩ := hrel
        by_cases hlt : k < s.size
        · have hc : Hid (chAt s k = (s[k].toNat : Int)) := hide (by unfold chAt; rw [dif_pos hlt])
          have hcases : (97 ≤ (s[k].toNat : Int) ∧ (s[k].toNat : Int) ≤ 122) ∨ (48 ≤ (s[k].toNat : Int) ∧ (s[k].toNat : Int) ≤ 57) ∨ (s[k].toNat : Int) = 45 ∨ ((s[k].toNat : Int) < 48 ∧ (s[k].toNat : Int) ≠ 45) ∨ (57 < (s[k].toNat : Int) ∧ (s[k].toNat : Int) < 97) ∨ 122 < (s[k].toNat : Int) := by omega
          have hget : (List.range s.size)[k]? = some k := by rw [List.getElem?_range hlt]
          have hG := hide hget
          clear hget
          have hbad : Hid (chOk s k = false → isName s = false) := hide (fun h => by rw [hm.out]; exact all_not hG.out h)
          have hgood : Hid (chOk s k = true → (List.range (k + 1)).all (chOk s) = true) := hide (fun h => by rw [List.range_succ, List.all_append, hall.out]; simp [h])
          clear hall hG
          rcases hcases with ⟨h3, h4⟩ | ⟨h3, h4⟩ | h3 | ⟨h3, h4⟩ | ⟨h3, h4⟩ | h3
          · have ck : Hid (chOk s k = true) := hide (by unfold chOk letB; rw [hc.out]; simp [inB, h3, h4])
            go_wp2
            go_round
            case rel => exact ⟨k + 1, by omega, by go_num, trivial, hide (hgood.out ck.out)⟩
            case measure => simp [intOf]; omega
          · rcases Nat.eq_zero_or_pos k with hz | hz
            · subst hz
              have ck : Hid (chOk s 0 = false) := hide (by unfold chOk letB; rw [hc.out]; simp [inB]; omega)
              go_wp2
              go_ret; exact ⟨retB (hbad.out ck.out).symm, rfl⟩
            · have ck : Hid (chOk s k = true) := hide (by unfold chOk othB; rw [hc.out]; simp [inB, h3, h4, hz])
              have ek : ((k : Int) == 0) = false := by simp; omega
              go_wp2
              go_round
              case rel => exact ⟨k + 1, by omega, by go_num, trivial, hide (hgood.out ck.out)⟩
              case measure => simp [intOf]; omega
          · rcases Nat.eq_zero_or_pos k with hz | hz
            · subst hz
              have ck : Hid (chOk s 0 = false) := hide (by unfold chOk letB; rw [hc.out]; simp [inB, h3])
              have e45 : ((s[0].toNat : Int) == 45) = true := by simp [h3]
              have l1 : (s[0].toNat : Int) < 97 := by omega
              have l2 : (s[0].toNat : Int) < 48 := by omega
              clear h3
              go_wp2
              go_ret; exact ⟨retB (hbad.out ck.out).symm, rfl⟩
            · have ck : Hid (chOk s k = true) := hide (by unfold chOk othB; rw [hc.out]; simp [h3, hz])
              have ek : ((k : Int) == 0) = false := by simp; omega
              have e45 : ((s[k].toNat : Int) == 45) = true := by simp [h3]
              have l1 : (s[k].toNat : Int) < 97 := by omega
              have l2 : (s[k].toNat : Int) < 48 := by omega
              clear h3
              go_wp2
              go_round
              case rel => exact ⟨k + 1, by omega, by go_num, trivial, hide (hgood.out ck.out)⟩
              case measure => simp [intOf]; omega
          all_goals
            have e45 : ((s[k].toNat : Int) == 45) = false := by simp; omega
            have ck : Hid (chOk s k = false) := hide (by unfold chOk letB othB; rw [hc.out, e45]; simp [inB]; omega)
            rcases Nat.eq_zero_or_pos k with hz | hz
            · subst hz
              go_wp2
              all_goals first | (go_ret; exact ⟨retB (hbad.out ck.out).symm, rfl⟩) | go_wall
            · have ek : ((k : Int) == 0) = false := by simp; omega
              go_wp2
              all_goals first | (go_ret; exact ⟨retB (hbad.out ck.out).symm, rfl⟩) | go_wall
        · have hkn : k = s.size := by omega
          go_wp2
          go_ret; exact ⟨retB (by rw [hm.out]; rw [← hkn]; exact hall.out.symm), rfl⟩
theorem size_zero {s : ByteArray} (h : s.size = 0) : s.toList.isEmpty = true := by
  rw [ByteArray.toList_eq]; obtain ⟨⟨l⟩⟩ := s
  cases l with
  | nil => rfl
  | cons a l => simp [ByteArray.size] at h
theorem size_pos {s : ByteArray} (h : 0 < s.size) : s.toList.isEmpty = false := by
  rw [ByteArray.toList_eq]; obtain ⟨⟨l⟩⟩ := s
  cases l with
  | nil => simp [ByteArray.size] at h
  | cons a l => rfl
set_option maxHeartbeats 1000000 in
theorem sName_any (s : ByteArray) (w : World) (hs : s.size ≤ maxLen) :
    Calls Tryd.prog 39 #[.string s] w fun e w' => e = .returned (.bool (isName s)) ∧ w = w' := by
  unfold maxLen at hs
  by_cases h1 : s.size = 0
  · have hm : Hid (isName s = false) := hide (by unfold isName; rw [decide_eq_false (by omega)]; rfl)
    have he := size_zero h1
    have he2 : s.toList = [] := by simpa using he
    clear h1
    go_enter Tryd.func39, Tryd.ntmps39
    go_wp2
    go_ret; exact ⟨retB hm.out.symm, rfl⟩
  · have h1' : 0 < s.size := by omega
    have he := size_pos h1'
    clear h1
    have he2 : ¬ s.toList = [] := by intro h; rw [h] at he; cases he
    by_cases h2 : (12 : Int) < s.size
    · have hm : Hid (isName s = false) := hide (by unfold isName; rw [decide_eq_false (p := s.size ≤ 12) (by omega)]; simp)
      go_enter Tryd.func39, Tryd.ntmps39
      go_wp2
      go_ret; exact ⟨retB hm.out.symm, rfl⟩
    · have hm : Hid (isName s = (List.range s.size).all (chOk s)) := hide (by unfold isName; rw [decide_eq_true (by omega), decide_eq_true (by omega)]; rfl)
      have hbad : Hid (∀ k, k < s.size → chOk s k = false → isName s = false) := hide (fun k hk h => by rw [hm.out]; exact all_not (List.getElem?_range hk) h)
      have hc0 : Hid (chAt s 0 = (s[0].toNat : Int)) := hide (by unfold chAt; rw [dif_pos h1'])
      cases h3 : inB (s[0].toNat : Int) 97 122
      · have ck : Hid (chOk s 0 = false) := hide (by unfold chOk letB; rw [hc0.out, h3]; rfl)
        go_enter Tryd.func39, Tryd.ntmps39
        go_wp2_with (go_at_call 49; refine (small_any _ _).mono ?_; rintro e w' ⟨rfl, rfl⟩)
        go_ret; exact ⟨retB (hbad.out 0 h1' ck.out).symm, rfl⟩
      · have ck0 : Hid (chOk s 0 = true) := hide (by unfold chOk letB; rw [hc0.out, h3]; rfl)
        go_enter Tryd.func39, Tryd.ntmps39
        go_wp2_with (go_at_call 49; refine (small_any _ _).mono ?_; rintro e w' ⟨rfl, rfl⟩)
        go_loopw [3] (fun i wr => ∃ k : Nat, k ≤ s.size ∧ i = .int .i64 k ∧ w = wr ∧ Hid ((List.range k).all (chOk s) = true)) (fun i _ => s.size - (intOf i).toNat)
        case atStart => exact ⟨0, Nat.zero_le _, rfl, rfl, hide rfl⟩
        case round =>
          clear h3
          obtain ⟨k, hk, rfl, rfl, hall⟩ := hrel
          by_cases hlt : k < s.size
          · have hc : Hid (chAt s k = (s[k].toNat : Int)) := hide (by unfold chAt; rw [dif_pos hlt])
            have hgood : Hid (chOk s k = true → (List.range (k + 1)).all (chOk s) = true) := hide (fun h => by rw [List.range_succ, List.all_append, hall.out]; simp [h])
            have hpos : Hid (chOk s k = false → 0 < k) := hide (fun h => by
              rcases Nat.eq_zero_or_pos k with hz | hz
              · subst hz; rw [ck0.out] at h; cases h
              · exact hz)
            clear hall
            cases h4 : inB (s[k].toNat : Int) 97 122
            · cases h5 : inB (s[k].toNat : Int) 48 57
              · cases h6 : ((s[k].toNat : Int) == 45)
                · have ck : Hid (chOk s k = false) := hide (by unfold chOk letB othB; rw [hc.out, h4, h5, h6]; simp)
                  have e6 : ((s[k].toNat : Int) != 45) = true := by simp at h6 ⊢; exact h6
                  go_wp2_with (first | (go_at_call 49; refine (small_any _ _).mono ?_; rintro e w' ⟨rfl, rfl⟩) | (go_at_call 50; refine (digit_any _ _).mono ?_; rintro e w' ⟨rfl, rfl⟩))
                  go_ret; exact ⟨retB (hbad.out k hlt ck.out).symm, rfl⟩
                · have e6 : ((s[k].toNat : Int) != 45) = false := by simp at h6 ⊢; exact h6
                  rcases Nat.eq_zero_or_pos k with hz | hz
                  · exfalso
                    have := ck0.out
                    subst hz
                    unfold chOk letB at this
                    rw [hc0.out, h4] at this
                    simp at this
                  · have ck : Hid (chOk s k = true) := hide (by unfold chOk othB; rw [hc.out, h5, h6]; simp [hz])
                    go_wp2_with (first | (go_at_call 49; refine (small_any _ _).mono ?_; rintro e w' ⟨rfl, rfl⟩) | (go_at_call 50; refine (digit_any _ _).mono ?_; rintro e w' ⟨rfl, rfl⟩))
                    go_round
                    case rel => exact ⟨k + 1, by omega, by go_num, trivial, hide (hgood.out ck.out)⟩
                    case measure => simp [intOf]; omega
              · rcases Nat.eq_zero_or_pos k with hz | hz
                · exfalso
                  have := ck0.out
                  subst hz
                  unfold chOk letB at this
                  rw [hc0.out, h4] at this
                  simp at this
                · have ck : Hid (chOk s k = true) := hide (by unfold chOk othB; rw [hc.out, h5]; simp [hz])
                  go_wp2_with (first | (go_at_call 49; refine (small_any _ _).mono ?_; rintro e w' ⟨rfl, rfl⟩) | (go_at_call 50; refine (digit_any _ _).mono ?_; rintro e w' ⟨rfl, rfl⟩))
                  go_round
                  case rel => exact ⟨k + 1, by omega, by go_num, trivial, hide (hgood.out ck.out)⟩
                  case measure => simp [intOf]; omega
            · have ck : Hid (chOk s k = true) := hide (by unfold chOk letB; rw [hc.out, h4]; rfl)
              go_wp2_with (go_at_call 49; refine (small_any _ _).mono ?_; rintro e w' ⟨rfl, rfl⟩)
              go_round
              case rel => exact ⟨k + 1, by omega, by go_num, trivial, hide (hgood.out ck.out)⟩
              case measure => simp [intOf]; omega
          · have hkn : k = s.size := by omega
            go_wp2
            go_ret; exact ⟨retB (by rw [hm.out]; rw [← hkn]; exact hall.out.symm), rfl⟩
end Go.Proofs.YtpnbnhhifgcklaaDoor
