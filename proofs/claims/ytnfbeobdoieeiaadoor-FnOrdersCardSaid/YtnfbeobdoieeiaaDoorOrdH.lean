/- The first order that is late: FirstLate. -/
import Derived.Test.YtnfbeobdoieeiaaDoorOrdG
namespace Go.Proofs.YtnfbeobdoieeiaaDoor
open Go.ChangeShapes Go.WideShapes Go.ChangeAt Go.RowKit Go.Deep
set_option maxRecDepth 100000
def lateAt (l : List Order) : Int := pickTo l (mPlan l).late 5000 l.length
def mFirst (l : List Order) : Int × Int × Int := if ordersOk l then (if lateAt l < 0 then (0, 0, 3) else (lateAt l, (mPlan l).late.getD (lateAt l).toNat 0, 0)) else (0, 0, 1)
theorem from_all {l : List Order} (h : ordersOk l = true) : ∀ x ∈ l, x.fFrom ≤ 5000 := fun x hx => by
  have := (Order.ok_iff.1 (orders_at h hx)).2.2.2; omega
set_option maxHeartbeats 2000000 in
theorem iFirst_any (A : Option Addr) (n c : Nat) (l : List Order) (w : World) (hn : n ≤ 1048576) (hf : ∀ x ∈ l, x.fits) (hr : Arr Order.cells 5 w w.heap.size A n l) :
    Calls Tryd.prog 8 #[.slice A n c] w fun e w' => e = .returned (.tuple #[.int .i64 (mFirst l).1, .int .i64 (mFirst l).2.1, .int .i64 (mFirst l).2.2]) ∧ Below w.heap.size w w' := by
  have hl := hide hr.len
  cases hok : ordersOk l
  · have hm : Hid (mFirst l = (0, 0, 1)) := hide (by simp [mFirst, hok])
    go_enter Tryd.func8, Tryd.ntmps8
    go_wp2_with (go_at_call 21; refine (iOrders_any A n c l _ hn hf hr).mono ?_; rintro e w1 ⟨rfl, hb⟩; have hB := hide hb; clear hb)
    go_ret3; exact ⟨by rw [hm.out]; rfl, hB.out⟩
  · have hL := hide (mPlan_late hok)
    have hfr := hide (from_all hok)
    obtain ⟨L, hLL⟩ : ∃ L, Hid (L = (mPlan l).late) := ⟨_, hide rfl⟩
    obtain ⟨P, hP⟩ : ∃ P, Hid (P = lateAt l) := ⟨_, hide rfl⟩
    have hP2 : Hid (pickTo l L 5000 n = P) := hide (by rw [hP.out, hLL.out]; unfold lateAt; rw [hl.out])
    have hLn : Hid (L.length = n) := hide (by rw [hLL.out, hL.out.2.1, hl.out])
    have hm : Hid (mFirst l = if P < 0 then (0, 0, 3) else (P, L.getD P.toNat 0, 0)) := hide (by unfold mFirst; rw [if_pos hok, hP.out, hLL.out])
    go_enter Tryd.func8, Tryd.ntmps8
    go_wp2_with (first | (go_at_call 21; refine (iOrders_any A n c l _ hn hf hr).mono ?_; rintro e w1 ⟨rfl, hb⟩; have hB := hide hb; clear hb) | (go_at_call 25; refine (iPlan_any A n c l _ hn hok (hr.go hB.out)).mono ?_; rintro e w2 ⟨v0, v1, v2, rfl, hT, hb1⟩; have hB2 := hide (Below.up hB.out hb1); obtain ⟨A2, c2, hv2, _⟩ := hT.o2.slice; subst hv2; have hA2 := hide (hT.o2.arr i64c_len); clear hT hb1))
    rw [← hLL.out, hLn.out] at hA2 ⊢
    have hz2 := hide hB2.out.size
    obtain ⟨w2, rfl⟩ : ∃ wo : World, wo = w2 := ⟨_, rfl⟩
    go_loopw [7, 20] (fun q i wr => ∃ k : Nat, k ≤ n ∧ i = .int .i64 k ∧ q = .int .i64 (pickTo l L 5000 k) ∧ Below w.heap.size w wr ∧ Below w2.heap.size w2 wr) (fun _ i _ => n - (intOf i).toNat)
    case atStart => exact ⟨0, Nat.zero_le _, rfl, rfl, hB2.out, Below.refl _ _⟩
    case round =>
      obtain ⟨k, hk, rfl, rfl, hb, hb2⟩ := hrel
      clear hok
      have hs2 : w2.heap.size ≤ wr.heap.size := hb2.size
      by_cases hkn : k < n
      · obtain ⟨b_q, o_q, x, rfl, hbl_q, hx_q, c0_q, c1_q, c2_q, c3_q, c4_q⟩ := hr.Order hkn
        have d0_q : wr.cell? ⟨b_q, o_q + k * 5, none⟩ = some (.string x.fWho) := (hb.cell (p := ⟨b_q, o_q + k * 5, none⟩) hbl_q).trans c0_q
        have d1_q : wr.cell? ⟨b_q, o_q + k * 5 + 1, none⟩ = some (.int .i64 x.fMany) := (hb.cell (p := ⟨b_q, o_q + k * 5 + 1, none⟩) hbl_q).trans c1_q
        have d2_q : wr.cell? ⟨b_q, o_q + k * 5 + 2, none⟩ = some (.int .i64 x.fEach) := (hb.cell (p := ⟨b_q, o_q + k * 5 + 2, none⟩) hbl_q).trans c2_q
        have d3_q : wr.cell? ⟨b_q, o_q + k * 5 + 3, none⟩ = some (.int .i64 x.fFrom) := (hb.cell (p := ⟨b_q, o_q + k * 5 + 3, none⟩) hbl_q).trans c3_q
        have d4_q : wr.cell? ⟨b_q, o_q + k * 5 + 4, none⟩ = some (.int .i64 x.fDue) := (hb.cell (p := ⟨b_q, o_q + k * 5 + 4, none⟩) hbl_q).trans c4_q
        have hX_q := hide hx_q
        clear hx_q c0_q c1_q c2_q c3_q c4_q
        obtain ⟨gl, ol, z, hvl, hgl, hz, c0⟩ := hA2.out.int hkn
        subst hvl
        have f0 : wr.cell? ⟨gl, ol + k, none⟩ = some (.int .i64 z) := (hb2.cell (p := ⟨gl, ol + k, none⟩) hgl).trans c0
        have hZ := hide hz
        have F0 : ∀ O, (wr.alloc O).cell? ⟨gl, ol + k, none⟩ = some (.int .i64 z) := fun O => (World.cell?_alloc_lt wr O ⟨gl, ol + k, none⟩ (Nat.lt_of_lt_of_le hgl hs2)).trans f0
        have hB3 := hide (hb.alloc hb.size (.cells #[.string x.fWho, .int .i64 x.fMany, .int .i64 x.fEach, .int .i64 x.fFrom, .int .i64 x.fDue] 35))
        have hC3 := hide (hb2.alloc hb2.size (.cells #[.string x.fWho, .int .i64 x.fMany, .int .i64 x.fEach, .int .i64 x.fFrom, .int .i64 x.fDue] 35))
        have hbs : b_q < wr.heap.size := Nat.lt_of_lt_of_le hbl_q hb.size
        have j0 : (0 : Int) ≤ (k : Int) := by omega
        have j1 : (k : Int) < (n : Int) := by omega
        have hX := hX_q
        have hxf := hfr.out x (List.mem_of_getElem? hX.out)
        clear hz c0 hb2 hB hB2 hA2
        by_cases t0 : 0 < z
        · by_cases t2 : pickTo l L 5000 k < 0
          · have hpk := hide (pickTo_yes hX.out hZ.out hxf (by omega) (by simp [better, t2]))
            clear hr hb
            go_wp2_with fail
            go_quiet (fail)
            go_wp2
            go_roundw
            case rel => exact ⟨k + 1, by omega, by go_num, by rw [hpk.out], below_drewN hB3.out _, below_drewN hC3.out _⟩
            case measure => simp [intOf]; omega
          · obtain ⟨m, hm'⟩ : ∃ m : Nat, pickTo l L 5000 k = (m : Int) := ⟨(pickTo l L 5000 k).toNat, by omega⟩
            have hmk := (pickTo_bound l L 5000 k).2
            have hmn : m < n := by omega
            have hm0 : (0 : Int) ≤ (m : Int) := by omega
            have hmn' : (m : Int) < (n : Int) := by omega
            obtain ⟨b_q, o_q, y, hA_q, hbl_q, hx_q, c0_q, c1_q, c2_q, c3_q, c4_q⟩ := hr.Order hmn
            cases hA_q
            have d0_q : wr.cell? ⟨b_q, o_q + m * 5, none⟩ = some (.string y.fWho) := (hb.cell (p := ⟨b_q, o_q + m * 5, none⟩) hbl_q).trans c0_q
            have d1_q : wr.cell? ⟨b_q, o_q + m * 5 + 1, none⟩ = some (.int .i64 y.fMany) := (hb.cell (p := ⟨b_q, o_q + m * 5 + 1, none⟩) hbl_q).trans c1_q
            have d2_q : wr.cell? ⟨b_q, o_q + m * 5 + 2, none⟩ = some (.int .i64 y.fEach) := (hb.cell (p := ⟨b_q, o_q + m * 5 + 2, none⟩) hbl_q).trans c2_q
            have d3_q : wr.cell? ⟨b_q, o_q + m * 5 + 3, none⟩ = some (.int .i64 y.fFrom) := (hb.cell (p := ⟨b_q, o_q + m * 5 + 3, none⟩) hbl_q).trans c3_q
            have d4_q : wr.cell? ⟨b_q, o_q + m * 5 + 4, none⟩ = some (.int .i64 y.fDue) := (hb.cell (p := ⟨b_q, o_q + m * 5 + 4, none⟩) hbl_q).trans c4_q
            have hX_q := hide hx_q
            clear hx_q c0_q c1_q c2_q c3_q c4_q
            have Y4 : ∀ O, (wr.alloc O).cell? ⟨b_q, o_q + m * 5 + 4, none⟩ = some (.int .i64 y.fDue) := fun O => (World.cell?_alloc_lt wr O ⟨b_q, o_q + m * 5 + 4, none⟩ hbs).trans d4_q
            have hdue1 := Order.dueAt_of hX_q.out
            have n3 : decide ((m : Int) < 0) = false := decide_eq_false (by omega)
            clear hr hb
            by_cases t4 : x.fDue < y.fDue
            · have hpk := hide (pickTo_yes hX.out hZ.out hxf (by omega) (by rw [hm']; simp [better, hdue1, t4]))
              rw [hm'] at *
              clear hdue1 hm'
              go_wp2_with fail
              go_quiet (fail)
              go_wp2
              go_roundw
              case rel => exact ⟨k + 1, by omega, by go_num, by rw [hpk.out], below_drewN hB3.out _, below_drewN hC3.out _⟩
              case measure => simp [intOf]; omega
            · have hpk := hide (pickTo_no hX.out hZ.out (fun hc => by have := hc.2.2; rw [hm'] at this; simp [better, hdue1, t4] at this; omega))
              rw [hm'] at hpk ⊢
              clear hdue1 hm' hmk t2
              have n4 := decide_eq_false t4
              go_wp2_with fail
              go_quiet (fail)
              go_wp2
              go_roundw
              case rel => exact ⟨k + 1, by omega, by go_num, by rw [hpk.out], below_drewN hB3.out _, below_drewN hC3.out _⟩
              case measure => simp [intOf]; omega
        · have hpk := hide (pickTo_no (left := L) (day := 5000) hX.out hZ.out (fun hc => by omega))
          have n0 := decide_eq_false t0
          clear hr hb
          go_wp2_with fail
          go_quiet (fail)
          go_wp2
          go_roundw
          case rel => exact ⟨k + 1, by omega, by go_num, by rw [hpk.out], below_drewN hB3.out _, below_drewN hC3.out _⟩
          case measure => simp [intOf]; omega
      · have hkn2 : k = n := by omega
        subst hkn2
        have hB3 := hide hb
        have hp5 := pickTo_bound l L 5000 k
        rw [hP2.out] at hp5 ⊢
        by_cases t : P < 0
        · clear hb hb2 hB hB2
          go_wp2
          go_ret3
          exact ⟨by rw [hm.out, if_pos t]; rfl, hB3.out⟩
        · obtain ⟨m, hm'⟩ : ∃ m : Nat, P = (m : Int) := ⟨P.toNat, by omega⟩
          subst hm'
          have hmn : m < k := by omega
          obtain ⟨gl, ol, z, hvl, hgl, hz, c0⟩ := hA2.out.int hmn
          subst hvl
          have f0 : wr.cell? ⟨gl, ol + m, none⟩ = some (.int .i64 z) := (hb2.cell (p := ⟨gl, ol + m, none⟩) hgl).trans c0
          have hZ := hide hz
          have hm0 : (0 : Int) ≤ (m : Int) := by omega
          have hmn' : (m : Int) < (k : Int) := by omega
          have n3 : decide ((m : Int) < 0) = false := decide_eq_false (by omega)
          clear hb hb2 hB hB2 hz c0 hA2
          go_wp2_with fail
          go_quiet (fail)
          go_wp2
          go_ret3
          exact ⟨by rw [hm.out, if_neg (show ¬ (m : Int) < 0 by omega), List.getD_eq_getElem?_getD, Int.toNat_natCast, hZ.out]; rfl, below_drewN hB3.out _⟩
set_option maxHeartbeats 2000000 in
theorem sFirst_any (A : Option Addr) (n c : Nat) (l : List Order) (w : World) (hn : n ≤ 1048576) (hf : ∀ x ∈ l, x.fits) (hr : Arr Order.cells 5 w w.heap.size A n l) :
    Calls Tryd.prog 9 #[.slice A n c] w fun e w' => e = .returned (.tuple #[.int .i64 (mFirst l).1, .int .i64 (mFirst l).2.1, .int .i64 (mFirst l).2.2]) ∧ Below w.heap.size w w' := by
  have hl := hide hr.len
  cases hok : ordersOk l
  · have hm : Hid (mFirst l = (0, 0, 1)) := hide (by simp [mFirst, hok])
    go_enter Tryd.func9, Tryd.ntmps9
    go_wp2_with (go_at_call 27; refine (sOrders_any A n c l _ hn hf hr).mono ?_; rintro e w1 ⟨rfl, hb⟩; have hB := hide hb; clear hb)
    go_ret3; exact ⟨by rw [hm.out]; rfl, hB.out⟩
  · have hL := hide (mPlan_late hok)
    have hfr := hide (from_all hok)
    obtain ⟨L, hLL⟩ : ∃ L, Hid (L = (mPlan l).late) := ⟨_, hide rfl⟩
    obtain ⟨P, hP⟩ : ∃ P, Hid (P = lateAt l) := ⟨_, hide rfl⟩
    have hP2 : Hid (pickTo l L 5000 n = P) := hide (by rw [hP.out, hLL.out]; unfold lateAt; rw [hl.out])
    have hLn : Hid (L.length = n) := hide (by rw [hLL.out, hL.out.2.1, hl.out])
    have hm : Hid (mFirst l = if P < 0 then (0, 0, 3) else (P, L.getD P.toNat 0, 0)) := hide (by unfold mFirst; rw [if_pos hok, hP.out, hLL.out])
    go_enter Tryd.func9, Tryd.ntmps9
    go_wp2_with (first | (go_at_call 27; refine (sOrders_any A n c l _ hn hf hr).mono ?_; rintro e w1 ⟨rfl, hb⟩; have hB := hide hb; clear hb) | (go_at_call 28; refine (sPlan_any A n c l _ hn hok (hr.go hB.out)).mono ?_; rintro e w2 ⟨v0, v1, v2, rfl, hT, hb1⟩; have hB2 := hide (Below.up hB.out hb1); obtain ⟨A2, c2, hv2, _⟩ := hT.o2.slice; subst hv2; have hA2 := hide (hT.o2.arr i64c_len); clear hT hb1))
    rw [← hLL.out, hLn.out] at hA2 ⊢
    have hz2 := hide hB2.out.size
    obtain ⟨w2, rfl⟩ : ∃ wo : World, wo = w2 := ⟨_, rfl⟩
    go_loopw [7, 8] (fun q i wr => ∃ k : Nat, k ≤ n ∧ i = .int .i64 k ∧ q = .int .i64 (pickTo l L 5000 k) ∧ Below w.heap.size w wr ∧ Below w2.heap.size w2 wr) (fun _ i _ => n - (intOf i).toNat)
    case atStart => exact ⟨0, Nat.zero_le _, rfl, rfl, hB2.out, Below.refl _ _⟩
    case round =>
      obtain ⟨k, hk, rfl, rfl, hb, hb2⟩ := hrel
      clear hok
      have hs2 : w2.heap.size ≤ wr.heap.size := hb2.size
      by_cases hkn : k < n
      · obtain ⟨b_q, o_q, x, rfl, hbl_q, hx_q, c0_q, c1_q, c2_q, c3_q, c4_q⟩ := hr.Order hkn
        have d0_q : wr.cell? ⟨b_q, o_q + k * 5, none⟩ = some (.string x.fWho) := (hb.cell (p := ⟨b_q, o_q + k * 5, none⟩) hbl_q).trans c0_q
        have d1_q : wr.cell? ⟨b_q, o_q + k * 5 + 1, none⟩ = some (.int .i64 x.fMany) := (hb.cell (p := ⟨b_q, o_q + k * 5 + 1, none⟩) hbl_q).trans c1_q
        have d2_q : wr.cell? ⟨b_q, o_q + k * 5 + 2, none⟩ = some (.int .i64 x.fEach) := (hb.cell (p := ⟨b_q, o_q + k * 5 + 2, none⟩) hbl_q).trans c2_q
        have d3_q : wr.cell? ⟨b_q, o_q + k * 5 + 3, none⟩ = some (.int .i64 x.fFrom) := (hb.cell (p := ⟨b_q, o_q + k * 5 + 3, none⟩) hbl_q).trans c3_q
        have d4_q : wr.cell? ⟨b_q, o_q + k * 5 + 4, none⟩ = some (.int .i64 x.fDue) := (hb.cell (p := ⟨b_q, o_q + k * 5 + 4, none⟩) hbl_q).trans c4_q
        have hX_q := hide hx_q
        clear hx_q c0_q c1_q c2_q c3_q c4_q
        obtain ⟨gl, ol, z, hvl, hgl, hz, c0⟩ := hA2.out.int hkn
        subst hvl
        have f0 : wr.cell? ⟨gl, ol + k, none⟩ = some (.int .i64 z) := (hb2.cell (p := ⟨gl, ol + k, none⟩) hgl).trans c0
        have hZ := hide hz
        have hB3 := hide hb
        have hC3 := hide hb2
        have hbs : b_q < wr.heap.size := Nat.lt_of_lt_of_le hbl_q hb.size
        have j0 : (0 : Int) ≤ (k : Int) := by omega
        have j1 : (k : Int) < (n : Int) := by omega
        have hX := hX_q
        have hxf := hfr.out x (List.mem_of_getElem? hX.out)
        clear hz c0 hb2 hB hB2 hA2
        by_cases t0 : 0 < z
        · by_cases t2 : pickTo l L 5000 k < 0
          · have hpk := hide (pickTo_yes hX.out hZ.out hxf (by omega) (by simp [better, t2]))
            clear hr hb
            go_wp2_with fail
            go_quiet (fail)
            go_wp2
            go_roundw
            case rel => exact ⟨k + 1, by omega, by go_num, by rw [hpk.out], below_drewN hB3.out _, below_drewN hC3.out _⟩
            case measure => simp [intOf]; omega
          · obtain ⟨m, hm'⟩ : ∃ m : Nat, pickTo l L 5000 k = (m : Int) := ⟨(pickTo l L 5000 k).toNat, by omega⟩
            have hmk := (pickTo_bound l L 5000 k).2
            have hmn : m < n := by omega
            have hm0 : (0 : Int) ≤ (m : Int) := by omega
            have hmn' : (m : Int) < (n : Int) := by omega
            obtain ⟨b_q, o_q, y, hA_q, hbl_q, hx_q, c0_q, c1_q, c2_q, c3_q, c4_q⟩ := hr.Order hmn
            cases hA_q
            have d0_q : wr.cell? ⟨b_q, o_q + m * 5, none⟩ = some (.string y.fWho) := (hb.cell (p := ⟨b_q, o_q + m * 5, none⟩) hbl_q).trans c0_q
            have d1_q : wr.cell? ⟨b_q, o_q + m * 5 + 1, none⟩ = some (.int .i64 y.fMany) := (hb.cell (p := ⟨b_q, o_q + m * 5 + 1, none⟩) hbl_q).trans c1_q
            have d2_q : wr.cell? ⟨b_q, o_q + m * 5 + 2, none⟩ = some (.int .i64 y.fEach) := (hb.cell (p := ⟨b_q, o_q + m * 5 + 2, none⟩) hbl_q).trans c2_q
            have d3_q : wr.cell? ⟨b_q, o_q + m * 5 + 3, none⟩ = some (.int .i64 y.fFrom) := (hb.cell (p := ⟨b_q, o_q + m * 5 + 3, none⟩) hbl_q).trans c3_q
            have d4_q : wr.cell? ⟨b_q, o_q + m * 5 + 4, none⟩ = some (.int .i64 y.fDue) := (hb.cell (p := ⟨b_q, o_q + m * 5 + 4, none⟩) hbl_q).trans c4_q
            have hX_q := hide hx_q
            clear hx_q c0_q c1_q c2_q c3_q c4_q
            have hdue1 := Order.dueAt_of hX_q.out
            have n3 : decide ((m : Int) < 0) = false := decide_eq_false (by omega)
            clear hr hb
            by_cases t4 : x.fDue < y.fDue
            · have hpk := hide (pickTo_yes hX.out hZ.out hxf (by omega) (by rw [hm']; simp [better, hdue1, t4]))
              rw [hm'] at *
              clear hdue1 hm'
              go_wp2_with fail
              go_quiet (fail)
              go_wp2
              go_roundw
              case rel => exact ⟨k + 1, by omega, by go_num, by rw [hpk.out], below_drewN hB3.out _, below_drewN hC3.out _⟩
              case measure => simp [intOf]; omega
            · have hpk := hide (pickTo_no hX.out hZ.out (fun hc => by have := hc.2.2; rw [hm'] at this; simp [better, hdue1, t4] at this; omega))
              rw [hm'] at hpk ⊢
              clear hdue1 hm' hmk t2
              have n4 := decide_eq_false t4
              go_wp2_with fail
              go_quiet (fail)
              go_wp2
              go_roundw
              case rel => exact ⟨k + 1, by omega, by go_num, by rw [hpk.out], below_drewN hB3.out _, below_drewN hC3.out _⟩
              case measure => simp [intOf]; omega
        · have hpk := hide (pickTo_no (left := L) (day := 5000) hX.out hZ.out (fun hc => by omega))
          have n0 := decide_eq_false t0
          clear hr hb
          go_wp2_with fail
          go_quiet (fail)
          go_wp2
          go_roundw
          case rel => exact ⟨k + 1, by omega, by go_num, by rw [hpk.out], below_drewN hB3.out _, below_drewN hC3.out _⟩
          case measure => simp [intOf]; omega
      · have hkn2 : k = n := by omega
        subst hkn2
        have hB3 := hide hb
        have hp5 := pickTo_bound l L 5000 k
        rw [hP2.out] at hp5 ⊢
        by_cases t : P < 0
        · clear hb hb2 hB hB2
          go_wp2
          go_ret3
          exact ⟨by rw [hm.out, if_pos t]; rfl, hB3.out⟩
        · obtain ⟨m, hm'⟩ : ∃ m : Nat, P = (m : Int) := ⟨P.toNat, by omega⟩
          subst hm'
          have hmn : m < k := by omega
          obtain ⟨gl, ol, z, hvl, hgl, hz, c0⟩ := hA2.out.int hmn
          subst hvl
          have f0 : wr.cell? ⟨gl, ol + m, none⟩ = some (.int .i64 z) := (hb2.cell (p := ⟨gl, ol + m, none⟩) hgl).trans c0
          have hZ := hide hz
          have hm0 : (0 : Int) ≤ (m : Int) := by omega
          have hmn' : (m : Int) < (k : Int) := by omega
          have n3 : decide ((m : Int) < 0) = false := decide_eq_false (by omega)
          clear hb hb2 hB hB2 hz c0 hA2
          go_wp2_with fail
          go_quiet (fail)
          go_wp2
          go_ret3
          exact ⟨by rw [hm.out, if_neg (show ¬ (m : Int) < 0 by omega), List.getD_eq_getElem?_getD, Int.toNat_natCast, hZ.out]; rfl, below_drewN hB3.out _⟩
end Go.Proofs.YtnfbeobdoieeiaaDoor
