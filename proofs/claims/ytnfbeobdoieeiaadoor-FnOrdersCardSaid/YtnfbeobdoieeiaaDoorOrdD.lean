/- Contracts of the plan's parts: the order on which one works on a day (the reference's own function), the greater of two. -/
import Derived.Test.YtnfbeobdoieeiaaDoorOrdC
namespace Go.Proofs.YtnfbeobdoieeiaaDoor
open Go.ChangeShapes Go.WideShapes Go.ChangeAt Go.RowKit Go.Deep
set_option maxRecDepth 100000
theorem sMax_any (a b : Int) (w : World) : Calls Tryd.prog 43 #[.int .i64 a, .int .i64 b] w fun e w' => e = .returned (.int .i64 (max a b)) ∧ w = w' := by
  by_cases h : b < a
  · go_enter Tryd.func43, Tryd.ntmps43
    go_wp2
    go_ret; exact ⟨ret1 (by omega), rfl⟩
  · go_enter Tryd.func43, Tryd.ntmps43
    go_wp2
    go_ret; exact ⟨ret1 (by omega), rfl⟩
theorem Order.dueAt_of {l : List Order} {m : Nat} {y : Order} (h : l[m]? = some y) : dueAt l (m : Int) = y.fDue := by simp [dueAt, h]
set_option maxHeartbeats 1000000 in
theorem sNext_any (A : Option Addr) (n c : Nat) (l : List Order) (A' : Option Addr) (c' : Nat) (left : List Int) (day : Int) (w : World) (hn : n ≤ 1048576) (hr : Arr Order.cells 5 w w.heap.size A n l) (hr' : Arr i64c 1 w w.heap.size A' n left) :
    Calls Tryd.prog 44 #[.slice A n c, .slice A' n c', .int .i64 day] w fun e w' => e = .returned (.int .i64 (pickTo l left day n)) ∧ Below w.heap.size w w' := by
  go_enter Tryd.func44, Tryd.ntmps44
  go_wp2
  go_loopw [7, 8] (fun q i wr => ∃ k : Nat, k ≤ n ∧ i = .int .i64 k ∧ q = .int .i64 (pickTo l left day k) ∧ Below w.heap.size w wr) (fun _ i _ => n - (intOf i).toNat)
  case atStart => exact ⟨0, Nat.zero_le _, rfl, rfl, Below.refl _ _⟩
  case round =>
    obtain ⟨k, hk, rfl, rfl, hb⟩ := hrel
    by_cases hlt : k < n
    · obtain ⟨b', o', z, rfl, hbl', hz, c0'⟩ := hr'.int hlt
      have g0 : wr.cell? ⟨b', o' + k, none⟩ = some (.int .i64 z) := (hb.cell (p := ⟨b', o' + k, none⟩) hbl').trans c0'
      have hZ := hide hz
      obtain ⟨b, o, x, rfl, hbl, hx, c0, c1, c2, c3, c4⟩ := hr.Order hlt
      have d0 : wr.cell? ⟨b, o + k * 5, none⟩ = some (.string x.fWho) := (hb.cell (p := ⟨b, o + k * 5, none⟩) hbl).trans c0
      have d1 : wr.cell? ⟨b, o + k * 5 + 1, none⟩ = some (.int .i64 x.fMany) := (hb.cell (p := ⟨b, o + k * 5 + 1, none⟩) hbl).trans c1
      have d2 : wr.cell? ⟨b, o + k * 5 + 2, none⟩ = some (.int .i64 x.fEach) := (hb.cell (p := ⟨b, o + k * 5 + 2, none⟩) hbl).trans c2
      have d3 : wr.cell? ⟨b, o + k * 5 + 3, none⟩ = some (.int .i64 x.fFrom) := (hb.cell (p := ⟨b, o + k * 5 + 3, none⟩) hbl).trans c3
      have d4 : wr.cell? ⟨b, o + k * 5 + 4, none⟩ = some (.int .i64 x.fDue) := (hb.cell (p := ⟨b, o + k * 5 + 4, none⟩) hbl).trans c4
      have hX := hide hx
      clear hx c0 c1 c2 c3 c4
      have hB := hide hb
      clear hb hz c0'
      by_cases t0 : 0 < z
      · by_cases t1 : x.fFrom ≤ day
        · by_cases t2 : pickTo l left day k < 0
          · have hp := hide (pickTo_yes hX.out hZ.out (by omega) (by omega) (by simp [better, t2]))
            go_wp2_with fail
            go_quiet (fail)
            go_wp2
            go_roundw
            case rel => exact ⟨k + 1, by omega, by go_num, by rw [hp.out], below_drewN hB.out _⟩
            case measure => simp [intOf]; omega
          · obtain ⟨m, hm⟩ : ∃ m : Nat, pickTo l left day k = (m : Int) := ⟨(pickTo l left day k).toNat, by omega⟩
            have hmk := (pickTo_bound l left day k).2
            have hmn : m < n := by omega
            have hm0 : (0 : Int) ≤ (m : Int) := by omega
            have hmn' : (m : Int) < (n : Int) := by omega
            have hb := hB.out
            obtain ⟨b2, o2, y, hA2, hbl2, hx2, c02, c12, c22, c32, c42⟩ := hr.Order hmn
            cases hA2
            have d02 : wr.cell? ⟨b, o + m * 5, none⟩ = some (.string y.fWho) := (hb.cell (p := ⟨b, o + m * 5, none⟩) hbl2).trans c02
            have d12 : wr.cell? ⟨b, o + m * 5 + 1, none⟩ = some (.int .i64 y.fMany) := (hb.cell (p := ⟨b, o + m * 5 + 1, none⟩) hbl2).trans c12
            have d22 : wr.cell? ⟨b, o + m * 5 + 2, none⟩ = some (.int .i64 y.fEach) := (hb.cell (p := ⟨b, o + m * 5 + 2, none⟩) hbl2).trans c22
            have d32 : wr.cell? ⟨b, o + m * 5 + 3, none⟩ = some (.int .i64 y.fFrom) := (hb.cell (p := ⟨b, o + m * 5 + 3, none⟩) hbl2).trans c32
            have d42 : wr.cell? ⟨b, o + m * 5 + 4, none⟩ = some (.int .i64 y.fDue) := (hb.cell (p := ⟨b, o + m * 5 + 4, none⟩) hbl2).trans c42
            have hX2 := hide hx2
            clear hx2 c02 c12 c22 c32 c42
            clear hr hb
            have hdue := Order.dueAt_of hX2.out
            have n3 : decide ((m : Int) < 0) = false := decide_eq_false (by omega)
            by_cases t4 : x.fDue < y.fDue
            · have hp := hide (pickTo_yes hX.out hZ.out (by omega) (by omega) (by rw [hm]; simp [better, hdue, t4]))
              rw [hm] at *
              clear hdue hm
              go_wp2_with fail
              go_quiet (fail)
              go_wp2
              go_roundw
              case rel => exact ⟨k + 1, by omega, by go_num, by rw [hp.out], below_drewN hB.out _⟩
              case measure => simp [intOf]; omega
            · have hp := hide (pickTo_no hX.out hZ.out (fun hc => by have := hc.2.2; rw [hm] at this; simp [better, hdue, t4] at this; omega))
              rw [hm] at hp ⊢
              clear hdue
              have n4 := decide_eq_false t4
              go_wp2_with fail
              go_quiet (fail)
              go_wp2
              go_roundw
              case rel => exact ⟨k + 1, by omega, by go_num, by rw [hp.out], below_drewN hB.out _⟩
              case measure => simp [intOf]; omega
        · have hp := hide (pickTo_no (left := left) (day := day) hX.out hZ.out (fun hc => by omega))
          have n1 := decide_eq_false t1
          go_wp2_with fail
          go_quiet (fail)
          go_wp2
          go_roundw
          case rel => exact ⟨k + 1, by omega, by go_num, by rw [hp.out], below_drewN hB.out _⟩
          case measure => simp [intOf]; omega
      · have hp := hide (pickTo_no (left := left) (day := day) hX.out hZ.out (fun hc => by omega))
        have n0 := decide_eq_false t0
        go_wp2_with fail
        go_quiet (fail)
        go_wp2
        go_roundw
        case rel => exact ⟨k + 1, by omega, by go_num, by rw [hp.out], below_drewN hB.out _⟩
        case measure => simp [intOf]; omega
    · have hkn : k = n := by omega
      subst hkn
      have hB := hide hb
      clear hb
      go_wp2
      go_ret
      exact ⟨rfl, hB.out⟩
end Go.Proofs.YtnfbeobdoieeiaaDoor
