/- The busiest span of the orders: what the reference returns. -/
import Derived.Test.YtnfbeobdoieeiaaDoorOrdU
namespace Go.Proofs.YtnfbeobdoieeiaaDoor
open Go.ChangeShapes Go.WideShapes Go.ChangeAt Go.RowKit Go.Deep
set_option maxRecDepth 100000
set_option maxHeartbeats 4000000 in
theorem sBusy_any (A : Option Addr) (n c : Nat) (l : List Order) (w : World) (hn : n ≤ 1048576) (hf : ∀ x ∈ l, x.fits) (hr : Arr Order.cells 5 w w.heap.size A n l) :
    Calls Tryd.prog 11 #[.slice A n c] w fun e w' => e = .returned (.tuple #[.int .i64 (mBusy l).fr, .int .i64 (mBusy l).till, .agg #[.int .i64 (mBusy l).num, .int .i64 (mBusy l).den], .int .i64 (mBusy l).code]) ∧ Below w.heap.size w w' := by
  have hl := hide hr.len
  cases hok : ordersOk l
  · have hm : Hid (mBusy l = ⟨0, 0, 0, 0, 1⟩) := hide (by simp [mBusy, hok])
    go_enter Tryd.func11, Tryd.ntmps11
    go_wp2_with (go_at_call 27; refine (sOrders_any A n c l _ hn hf (hr.go ((Below.refl _ _).alloc (Nat.le_refl _) _))).mono ?_; rintro e w1 ⟨rfl, hb⟩; have hTw := hide (two_new hb); have hB := hide (below_alloc2 hb); clear hb; obtain ⟨k0, k1, z0, z1, hlt⟩ := hTw.out)
    exact bodyPost_ret (v := .tuple #[.int .i64 (0), .int .i64 (0), .agg #[.int .i64 (0), .int .i64 (0)], .int .i64 1]) (by simp [results, Tryd.results11, go_sem, k0, k1]) rfl ⟨by rw [hm.out], by have := hB.out; go_grown⟩
  · have hin := hide (orders_in hok)
    by_cases hz : n = 0
    · have hm : Hid (mBusy l = ⟨0, 0, 0, 0, 3⟩) := hide (by simp [mBusy, hok, hl.out, hz])
      have en : ((n : Int) == 0) = true := by simp [hz]
      clear hz
      go_enter Tryd.func11, Tryd.ntmps11
      go_wp2_with (go_at_call 27; refine (sOrders_any A n c l _ hn hf (hr.go ((Below.refl _ _).alloc (Nat.le_refl _) _))).mono ?_; rintro e w1 ⟨rfl, hb⟩; have hTw := hide (two_new hb); have hB := hide (below_alloc2 hb); clear hb; obtain ⟨k0, k1, z0, z1, hlt⟩ := hTw.out)
      exact bodyPost_ret (v := .tuple #[.int .i64 (0), .int .i64 (0), .agg #[.int .i64 (0), .int .i64 (0)], .int .i64 3]) (by simp [results, Tryd.results11, go_sem, k0, k1]) rfl ⟨by rw [hm.out], by have := hB.out; go_grown⟩
    · have htw := hide (twin_all hok (by rw [hl.out]; omega))
      have hm : Hid (mBusy l = ⟨(mBusyS l).fr, (mBusyS l).till, lowN (mBusyS l).num (mBusyS l).den, lowD (mBusyS l).num (mBusyS l).den, 0⟩) := hide (by simp [mBusy, hok, hl.out, hz])
      have hG : Hid (mBusyS l = gridTo (stepS l) l start4 n) := hide (by unfold mBusyS; rw [hl.out])
      have en : ((n : Int) == 0) = false := by simp [hz]
      go_enter Tryd.func11, Tryd.ntmps11
      go_wp2_with (go_at_call 27; refine (sOrders_any A n c l _ hn hf (hr.go ((Below.refl _ _).alloc (Nat.le_refl _) _))).mono ?_; rintro e w1 ⟨rfl, hb⟩; have hTw := hide (two_new hb); have hB := hide (below_alloc2 hb); clear hb)
      rw [hl.out] at htw
      clear hok
      go_loopw [6, 7, 8, 9, 10] (fun f t m d i wr => ∃ k : Nat, k ≤ n ∧ i = .int .i64 k ∧ f = .int .i64 (gridTo (stepS l) l start4 k).fr ∧ t = .int .i64 (gridTo (stepS l) l start4 k).till ∧ m = .int .i64 (gridTo (stepS l) l start4 k).num ∧ d = .int .i64 (gridTo (stepS l) l start4 k).den ∧ Below w1.heap.size w1 wr) (fun _ _ _ _ i _ => n - (intOf i).toNat)
      case atStart => exact ⟨0, Nat.zero_le _, rfl, rfl, rfl, rfl, rfl, Below.refl _ _⟩
      case round =>
        obtain ⟨k, hk, rfl, rfl, rfl, rfl, rfl, hb⟩ := hrel
        have hsI := gridTo_inv (P := Span.In) (stepS_in hin.out) start4_in k
        by_cases hkn : k < n
        · obtain ⟨s, hs⟩ : ∃ s, Hid (s = gridTo (stepS l) l start4 k) := ⟨_, hide rfl⟩
          rw [← hs.out] at hsI ⊢
          have hbw := Below.up hB.out hb
          obtain ⟨b_a, o_a, a, rfl, hbl_a, hx_a, c0_a, c1_a, c2_a, c3_a, c4_a⟩ := hr.Order hkn
          have d0_a : wr.cell? ⟨b_a, o_a + k * 5, none⟩ = some (.string a.fWho) := (hbw.cell (p := ⟨b_a, o_a + k * 5, none⟩) hbl_a).trans c0_a
          have d1_a : wr.cell? ⟨b_a, o_a + k * 5 + 1, none⟩ = some (.int .i64 a.fMany) := (hbw.cell (p := ⟨b_a, o_a + k * 5 + 1, none⟩) hbl_a).trans c1_a
          have d2_a : wr.cell? ⟨b_a, o_a + k * 5 + 2, none⟩ = some (.int .i64 a.fEach) := (hbw.cell (p := ⟨b_a, o_a + k * 5 + 2, none⟩) hbl_a).trans c2_a
          have d3_a : wr.cell? ⟨b_a, o_a + k * 5 + 3, none⟩ = some (.int .i64 a.fFrom) := (hbw.cell (p := ⟨b_a, o_a + k * 5 + 3, none⟩) hbl_a).trans c3_a
          have d4_a : wr.cell? ⟨b_a, o_a + k * 5 + 4, none⟩ = some (.int .i64 a.fDue) := (hbw.cell (p := ⟨b_a, o_a + k * 5 + 4, none⟩) hbl_a).trans c4_a
          have hX_a := hide hx_a
          clear hx_a c0_a c1_a c2_a c3_a c4_a
          have hA := hX_a
          have hgs := hide (gridTo_succ (f := (stepS l)) (s := start4) hA.out)
          rw [← hs.out, hl.out] at hgs
          have hain := hide (hin.out.fr a (List.mem_of_getElem? hA.out))
          have haml := hide (List.mem_of_getElem? hA.out)
          have hB1 := hide hb
          clear hb hbw hs
          go_wp2
          have hB2 := hB1
          obtain ⟨wo, rfl⟩ : ∃ wo : World, wo = wr := ⟨_, rfl⟩
          have hsI0 := hide hsI
          clear hsI
          have hsI2 := hide (fun j => rowTo_inv (P := Span.In) haml.out (stepS_in hin.out) hsI0.out j)
          go_loopw [6, 7, 8, 9, 11] (fun f t m d i wr => ∃ j : Nat, j ≤ n ∧ i = .int .i64 j ∧ f = .int .i64 (rowTo (stepS l) l a s j).fr ∧ t = .int .i64 (rowTo (stepS l) l a s j).till ∧ m = .int .i64 (rowTo (stepS l) l a s j).num ∧ d = .int .i64 (rowTo (stepS l) l a s j).den ∧ Below wo.heap.size wo wr) (fun _ _ _ _ i _ => n - (intOf i).toNat)
          case atStart => exact ⟨0, Nat.zero_le _, rfl, rfl, rfl, rfl, rfl, Below.refl _ _⟩
          case round =>
            obtain ⟨j, hj, rfl, rfl, rfl, rfl, rfl, hb⟩ := hrel
            by_cases hjn : j < n
            · obtain ⟨y, hy⟩ : ∃ y, Hid (y = (rowTo (stepS l) l a s j)) := ⟨_, hide rfl⟩
              have hyI := hide (hsI2.out j)
              rw [← hy.out] at hyI ⊢
              have hb1 := Below.up hB2.out hb
              have hbw := Below.up hB.out hb1
              obtain ⟨b_b, o_b, b, hA_b, hbl_b, hx_b, c0_b, c1_b, c2_b, c3_b, c4_b⟩ := hr.Order hjn
              cases hA_b
              have d0_b : wr.cell? ⟨b_a, o_a + j * 5, none⟩ = some (.string b.fWho) := (hbw.cell (p := ⟨b_a, o_a + j * 5, none⟩) hbl_b).trans c0_b
              have d1_b : wr.cell? ⟨b_a, o_a + j * 5 + 1, none⟩ = some (.int .i64 b.fMany) := (hbw.cell (p := ⟨b_a, o_a + j * 5 + 1, none⟩) hbl_b).trans c1_b
              have d2_b : wr.cell? ⟨b_a, o_a + j * 5 + 2, none⟩ = some (.int .i64 b.fEach) := (hbw.cell (p := ⟨b_a, o_a + j * 5 + 2, none⟩) hbl_b).trans c2_b
              have d3_b : wr.cell? ⟨b_a, o_a + j * 5 + 3, none⟩ = some (.int .i64 b.fFrom) := (hbw.cell (p := ⟨b_a, o_a + j * 5 + 3, none⟩) hbl_b).trans c3_b
              have d4_b : wr.cell? ⟨b_a, o_a + j * 5 + 4, none⟩ = some (.int .i64 b.fDue) := (hbw.cell (p := ⟨b_a, o_a + j * 5 + 4, none⟩) hbl_b).trans c4_b
              have hX_b := hide hx_b
              clear hx_b c0_b c1_b c2_b c3_b c4_b
              have hBo := hX_b
              have hrs := hide (rowTo_succ (f := (stepS l)) (a := a) (s := s) hBo.out)
              rw [← hy.out] at hrs
              have hbin := hide (hin.out.fr b (List.mem_of_getElem? hBo.out))
              obtain ⟨af0, af1, af2⟩ := hain.out
              obtain ⟨bf0, bf1, bf2⟩ := hbin.out
              have hB3 := hide hb
              have A3 : wr.cell? ⟨b_a, o_a + k * 5 + 3, none⟩ = some (.int .i64 a.fFrom) := (hb.cell (p := ⟨b_a, o_a + k * 5 + 3, none⟩) (Nat.lt_of_lt_of_le hbl_a (Nat.le_trans hB.out.size hB2.out.size))).trans d3_a
              clear hy hb hb1 hbw
              by_cases hd : b.fDue ≤ a.fFrom
              · have hsk := hide (stepS_skip (l := l) (s := y) hd)
                go_wp2
                go_roundw
                case rel => exact ⟨j + 1, by omega, by go_num, by rw [hrs.out, hsk.out], by rw [hrs.out, hsk.out], by rw [hrs.out, hsk.out], by rw [hrs.out, hsk.out], hB3.out⟩
                case measure => simp [intOf]; omega
              · have nd := decide_eq_false hd
                have hdn : Hid (¬ b.fDue ≤ a.fFrom) := hide hd
                go_wp2
                obtain ⟨wi, rfl⟩ : ∃ wi : World, wi = wr := ⟨_, rfl⟩
                go_loopw [14, 15] (fun z i wr => ∃ q : Nat, q ≤ n ∧ i = .int .i64 q ∧ z = .int .i64 (spanSum l a.fFrom b.fDue q) ∧ Below wi.heap.size wi wr) (fun _ i _ => n - (intOf i).toNat)
                case atStart => exact ⟨0, Nat.zero_le _, rfl, rfl, Below.refl _ _⟩
                case round =>
                  obtain ⟨q, hq, rfl, rfl, hb⟩ := hrel
                  by_cases hqn : q < n
                  · have hb3 := Below.up hB3.out hb
                    have hbw := Below.up hB.out (Below.up hB2.out hb3)
                    obtain ⟨b_x, o_x, x, hA_x, hbl_x, hx_x, c0_x, c1_x, c2_x, c3_x, c4_x⟩ := hr.Order hqn
                    cases hA_x
                    have d0_x : wr.cell? ⟨b_a, o_a + q * 5, none⟩ = some (.string x.fWho) := (hbw.cell (p := ⟨b_a, o_a + q * 5, none⟩) hbl_x).trans c0_x
                    have d1_x : wr.cell? ⟨b_a, o_a + q * 5 + 1, none⟩ = some (.int .i64 x.fMany) := (hbw.cell (p := ⟨b_a, o_a + q * 5 + 1, none⟩) hbl_x).trans c1_x
                    have d2_x : wr.cell? ⟨b_a, o_a + q * 5 + 2, none⟩ = some (.int .i64 x.fEach) := (hbw.cell (p := ⟨b_a, o_a + q * 5 + 2, none⟩) hbl_x).trans c2_x
                    have d3_x : wr.cell? ⟨b_a, o_a + q * 5 + 3, none⟩ = some (.int .i64 x.fFrom) := (hbw.cell (p := ⟨b_a, o_a + q * 5 + 3, none⟩) hbl_x).trans c3_x
                    have d4_x : wr.cell? ⟨b_a, o_a + q * 5 + 4, none⟩ = some (.int .i64 x.fDue) := (hbw.cell (p := ⟨b_a, o_a + q * 5 + 4, none⟩) hbl_x).trans c4_x
                    have hX_x := hide hx_x
                    clear hx_x c0_x c1_x c2_x c3_x c4_x
                    have hX := hX_x
                    have hxd := hin.out.day x (List.mem_of_getElem? hX.out)
                    have hsb := hin.out.sum a.fFrom b.fDue q (by rw [hl.out]; omega)
                    have hxd2 : 1 ≤ x.fMany * x.fEach ∧ x.fMany * x.fEach ≤ 2000 := hxd
                    have hw1 : IntKind.i64.wrap (x.fMany * x.fEach) = x.fMany * x.fEach := IntWalk.i64_in _ (by omega)
                    have hB4 := hide hb
                    clear hr hb hb3 hbw nd
                    by_cases t1 : a.fFrom ≤ x.fFrom
                    · by_cases t2 : x.fDue ≤ b.fDue
                      · have hsp := hide (spanSum_yes hX.out t1 t2)
                        go_wp2_with (go_at_call 31; refine (sDays1_any x b_a (o_a + q * 5) _ (by omega) d1_x d2_x).mono ?_; rintro e w2 ⟨rfl, hb2⟩; have hB5 := hide (Below.up hB4.out hb2); clear hb2; have hdd : dayF x = x.fMany * x.fEach := rfl)
                        go_roundw
                        case rel => exact ⟨q + 1, by omega, by go_num, by rw [hsp.out]; rfl, hB5.out⟩
                        case measure => simp [intOf]; omega
                      · have hsp := hide (spanSum_no (a := a.fFrom) (b := b.fDue) hX.out (fun hc => t2 hc.2))
                        have nt := decide_eq_false t2
                        go_wp2
                        go_roundw
                        case rel => exact ⟨q + 1, by omega, by go_num, by rw [hsp.out], hB4.out⟩
                        case measure => simp [intOf]; omega
                    · have hsp := hide (spanSum_no (a := a.fFrom) (b := b.fDue) hX.out (fun hc => t1 hc.1))
                      have nt := decide_eq_false t1
                      go_wp2
                      go_roundw
                      case rel => exact ⟨q + 1, by omega, by go_num, by rw [hsp.out], hB4.out⟩
                      case measure => simp [intOf]; omega
                  · have hqn2 : q = n := by omega
                    subst hqn2
                    have hsb := hin.out.sum a.fFrom b.fDue q (by rw [hl.out]; omega)
                    have hX : Hid (sumIn l a b = spanSum l a.fFrom b.fDue q) := hide (by unfold sumIn; rw [hl.out])
                    obtain ⟨X, hXX⟩ : ∃ X, Hid (X = spanSum l a.fFrom b.fDue q) := ⟨_, hide rfl⟩
                    rw [← hXX.out] at hsb hX ⊢
                    obtain ⟨yf, yt, ym, yd⟩ := hyI.out
                    have hp1 := mul_in (M := 60000) (N := 5000) hsb.1 hsb.2 (show 0 ≤ y.den by omega) (show y.den ≤ 5000 by omega) (by omega)
                    have hp2 := mul_in1 (show -1 ≤ y.num by omega) (show y.num ≤ 60000 by omega) (show 0 ≤ b.fDue - a.fFrom by omega) (show b.fDue - a.fFrom ≤ 5000 by omega)
                    have hM : Hid (moreS l a b y = X * y.den - y.num * (b.fDue - a.fFrom)) := hide (by unfold moreS; rw [hX.out])
                    have hw1 := i64_mul (x := X * y.den) (by omega)
                    have hw2 := i64_mul hp2
                    obtain ⟨P1, hP1⟩ : ∃ P1, P1 = X * y.den := ⟨_, rfl⟩
                    obtain ⟨P2, hP2⟩ : ∃ P2, P2 = y.num * (b.fDue - a.fFrom) := ⟨_, rfl⟩
                    rw [← hP1, ← hP2] at hM
                    rw [← hP1] at hp1
                    rw [← hP2] at hp2
                    have hw1' := hw1.trans hP1.symm
                    have hw2' := hw2.trans hP2.symm
                    clear hw1 hw2 hP1 hP2
                    have hB6 := hide (Below.up hB3.out hb)
                    clear hb nd hr hqn d0_a d1_a d2_a d3_a d4_a d0_b d1_b d2_b d3_b d4_b A3
                    have hfi : a.fFrom < y.fr ∨ (a.fFrom = y.fr ∧ b.fDue < y.till) ∨ (a.fFrom = y.fr ∧ ¬ b.fDue < y.till) ∨ y.fr < a.fFrom := by omega
                    have hmo : 0 < P1 - P2 ∨ P1 - P2 = 0 ∨ P1 - P2 < 0 := by omega
                    rcases hmo with mp | mz | mn
                    · skip
                      have n4 : decide (0 < P1 - P2) = true := decide_eq_true mp
                      have hst := hide (stepS_take (l := l) (a := a) (b := b) (s := y) (by have := hdn.out; omega) (.inl (by rw [hM.out]; exact mp)))
                      rw [hX.out] at hst
                      go_wp2
                      go_roundw
                      case rel => exact ⟨j + 1, by omega, by go_num, by rw [hrs.out, hst.out], by rw [hrs.out, hst.out], by rw [hrs.out, hst.out], by rw [hrs.out, hst.out], hB6.out⟩
                      case measure => simp [intOf]; omega
                    · rcases hfi with h1 | ⟨h1, h2⟩ | ⟨h1, h2⟩ | h1
                      · skip
                        have n1 : decide (a.fFrom < y.fr) = true := decide_eq_true h1
                        have n4 : decide (0 < P1 - P2) = false := decide_eq_false (by omega)
                        have n5 : ((P1 - P2) == 0) = true := by simp [mz]
                        have n6 : P1 ≤ P2 := by omega
                        have n7 : P2 ≤ P1 := by omega
                        have n8 : (P1 == P2) = true := by simp; omega
                        have hst := hide (stepS_take (l := l) (a := a) (b := b) (s := y) (by have := hdn.out; omega) (.inr ⟨by rw [hM.out]; exact mz, .inl h1⟩))
                        clear mz
                        rw [hX.out] at hst
                        go_wp2
                        go_roundw
                        case rel => exact ⟨j + 1, by omega, by go_num, by rw [hrs.out, hst.out], by rw [hrs.out, hst.out], by rw [hrs.out, hst.out], by rw [hrs.out, hst.out], hB6.out⟩
                        case measure => simp [intOf]; omega
                      · skip
                        have n1 : decide (a.fFrom < y.fr) = false := decide_eq_false (by omega)
                        have n2 : (a.fFrom == y.fr) = true := by simp [h1]
                        have n3 : decide (b.fDue < y.till) = true := decide_eq_true h2
                        have n4 : decide (0 < P1 - P2) = false := decide_eq_false (by omega)
                        have n5 : ((P1 - P2) == 0) = true := by simp [mz]
                        have n6 : P1 ≤ P2 := by omega
                        have n7 : P2 ≤ P1 := by omega
                        have n8 : (P1 == P2) = true := by simp; omega
                        have hst := hide (stepS_take (l := l) (a := a) (b := b) (s := y) (by have := hdn.out; omega) (.inr ⟨by rw [hM.out]; exact mz, .inr ⟨h1, h2⟩⟩))
                        clear h1 mz
                        rw [hX.out] at hst
                        go_wp2
                        go_roundw
                        case rel => exact ⟨j + 1, by omega, by go_num, by rw [hrs.out, hst.out], by rw [hrs.out, hst.out], by rw [hrs.out, hst.out], by rw [hrs.out, hst.out], hB6.out⟩
                        case measure => simp [intOf]; omega
                      · skip
                        have n1 : decide (a.fFrom < y.fr) = false := decide_eq_false (by omega)
                        have n2 : (a.fFrom == y.fr) = true := by simp [h1]
                        have n3 : decide (b.fDue < y.till) = false := decide_eq_false h2
                        have n4 : decide (0 < P1 - P2) = false := decide_eq_false (by omega)
                        have n5 : ((P1 - P2) == 0) = true := by simp [mz]
                        have n6 : P1 ≤ P2 := by omega
                        have n7 : P2 ≤ P1 := by omega
                        have n8 : (P1 == P2) = true := by simp; omega
                        have hst := hide (stepS_keep (l := l) (a := a) (b := b) (s := y) (by have := hdn.out; omega) (by rw [hM.out]; unfold first'; omega))
                        clear h1 mz
                        go_wp2
                        go_roundw
                        case rel => exact ⟨j + 1, by omega, by go_num, by rw [hrs.out, hst.out], by rw [hrs.out, hst.out], by rw [hrs.out, hst.out], by rw [hrs.out, hst.out], hB6.out⟩
                        case measure => simp [intOf]; omega
                      · skip
                        have n1 : decide (a.fFrom < y.fr) = false := decide_eq_false (by omega)
                        have n2 : (a.fFrom == y.fr) = false := by simp; omega
                        have n4 : decide (0 < P1 - P2) = false := decide_eq_false (by omega)
                        have n5 : ((P1 - P2) == 0) = true := by simp [mz]
                        have n6 : P1 ≤ P2 := by omega
                        have n7 : P2 ≤ P1 := by omega
                        have n8 : (P1 == P2) = true := by simp; omega
                        have hst := hide (stepS_keep (l := l) (a := a) (b := b) (s := y) (by have := hdn.out; omega) (by rw [hM.out]; unfold first'; omega))
                        clear mz
                        go_wp2
                        go_roundw
                        case rel => exact ⟨j + 1, by omega, by go_num, by rw [hrs.out, hst.out], by rw [hrs.out, hst.out], by rw [hrs.out, hst.out], by rw [hrs.out, hst.out], hB6.out⟩
                        case measure => simp [intOf]; omega
                    · skip
                      have n4 : decide (0 < P1 - P2) = false := decide_eq_false (by omega)
                      have n5 : ((P1 - P2) == 0) = false := by simp; omega
                      have hst := hide (stepS_keep (l := l) (a := a) (b := b) (s := y) (by have := hdn.out; omega) (by rw [hM.out]; unfold first'; omega))
                      go_wp2
                      go_roundw
                      case rel => exact ⟨j + 1, by omega, by go_num, by rw [hrs.out, hst.out], by rw [hrs.out, hst.out], by rw [hrs.out, hst.out], by rw [hrs.out, hst.out], hB6.out⟩
                      case measure => simp [intOf]; omega
            · have hjn2 : j = n := by omega
              subst hjn2
              have hB5 := hide (Below.up hB2.out hb)
              clear hb
              go_wp2
              go_roundw
              case rel => exact ⟨k + 1, by omega, by go_num, by rw [hgs.out], by rw [hgs.out], by rw [hgs.out], by rw [hgs.out], hB5.out⟩
              case measure => simp [intOf]; omega
        · have hkn2 : k = n := by omega
          subst hkn2
          obtain ⟨e1, e2, e3, e4, e5⟩ := htw.out
          obtain ⟨q, hq⟩ : ∃ q, Hid (q = gridTo (stepS l) l start4 k) := ⟨_, hide rfl⟩
          have hqI := gridTo_inv (P := Span.In) (stepS_in hin.out) start4_in k
          rw [← hq.out] at hqI e1 e2 e3 e4 e5 hG ⊢
          obtain ⟨qf, qt, qn, qd⟩ := hqI
          have hT2 := two_later hTw.out hb
          obtain ⟨k0', k1', z0', z1', hlt'⟩ := hT2
          have hBz := hide (Below.up hB.out hb)
          clear e1 e2 e3 e4 e5 hb hsI
          go_wp2_with (go_at_call 32; refine (sMake_any q.num q.den _ (by omega) (by omega) (by omega) (by omega)).mono ?_; rintro e w2 ⟨rfl, hb2⟩; have hT3 := two_later ⟨k0', k1', z0', z1', hlt'⟩ hb2; obtain ⟨k0, k1, z0, z1, hlt⟩ := hT3; have hB9 := hide (Below.up hBz.out hb2); clear hb2)
          rw [hG.out] at hm
          exact bodyPost_ret (v := .tuple #[.int .i64 (q.fr), .int .i64 (q.till), .agg #[.int .i64 (lowN q.num q.den), .int .i64 (lowD q.num q.den)], .int .i64 0]) (by simp [results, Tryd.results11, go_sem, k0, k1]) rfl ⟨by rw [hm.out], by have := hB9.out; go_grown⟩
end Go.Proofs.YtnfbeobdoieeiaaDoor
