/- The walks of the exact laws of the wages: the law calls the reference and the program at copies of its arguments, compares, and looks whether they share memory. -/
import Derived.Test.YtfaonikmmpjopaaWageE
import Derived.Test.YtfaonikmmpjopaaWageF
namespace Go.Proofs.Ytfaonikmmpjopaa
open Go.ChangeShapes Go.WideShapes Go.ChangeAt Go.RowKit Go.Deep
set_option maxRecDepth 100000
set_option maxHeartbeats 1000000 in
theorem walkBonusOf (w : World) (A0 : Option Addr) (n0 c0 : Nat) (l0 : List PieceW) (hc0 : n0 ≤ c0) (hm0 : c0 ≤ maxLen) (hq0 : ∀ x ∈ l0, x.fits) (hr0 : Arr PieceW.cells 4 w w.heap.size A0 n0 l0) (a1 : ByteArray) (z1 : a1.size ≤ maxLen) (a2 : Int) (a3 : Int) :
    Calls Try.prog 6 #[.slice A0 n0 c0, .string a1, .int .i64 a2, .int .i64 a3] w fun e w' => e = .returned (.bool true) ∧ Below w.heap.size w w' := by
  have hN0 : n0 ≤ maxLen := Nat.le_trans hc0 hm0
  clear hc0 hm0
  have z1' := z1
  unfold maxLen at z1
  have hB := hide (Below.refl w.heap.size w)
  by_cases g1 : 1048576 < (a1.size : Int)
  · skip
    go_enter Try.func6, Try.ntmps6
    go_wp2
    go_ret; exact ⟨rfl, hB.out⟩
  by_cases g0 : 1048576 - PieceW.tot l0 < 0
  · have hs0 := szv_neg g0
    go_enter Try.func6, Try.ntmps6
    go_wp2_with (first | (go_at_call 19; refine (szPieceWS_any A0 n0 c0 l0 _ _ hN0 (by omega) (by omega) (hr0.go hB.out) hq0).mono ?_; rintro e whB ⟨rfl, hb⟩; have hB := hide (Below.up hB.out hb); clear hb))
    go_ret; exact ⟨rfl, hB.out⟩
  have hs0 := szv_pos (x := 1048576 - PieceW.tot l0) (by omega)
  have hp0 := PieceW.pre_nonneg l0
  have ht0 : Hid (PieceW.tot l0 = n0 + PieceW.pre l0) := by unfold PieceW.tot; rw [hr0.len]; rfl
  have hT0 : 0 ≤ PieceW.tot l0 := by have := ht0.out; omega
  have hn0 : n0 ≤ 1048576 := by have := ht0.out; omega
  go_enter Try.func6, Try.ntmps6
  go_wp2_with fail
  refine (szPieceWS_any A0 n0 c0 l0 _ _ hN0 (by omega) (by omega) (hr0.go hB.out) hq0).mono ?_
  rintro e w1 ⟨rfl, hb⟩
  replace hB := hide (Below.up hB.out hb)
  clear hb
  go_wp2_with fail
  refine (toPieceWS_any A0 n0 c0 l0 _ hn0 (hr0.go hB.out)).mono ?_
  rintro e w1 ⟨rfl, ho, hb⟩
  have hS0 := hide (ho.res.less hB.out.size)
  clear ho
  replace hB := hide (Below.up hB.out hb)
  clear hb
  go_wp2_with fail
  refine (sBonus_any _ n0 _ l0 a1 a2 a3 _ hn0 hq0 z1' (hS0.out.arr PieceW.len)).mono ?_
  rintro e w1 ⟨rfl, hb⟩
  replace hS0 := hide (hS0.out.below hb)
  replace hB := hide (Below.up hB.out hb)
  clear hb
  go_wp2_with fail
  refine (toPieceWS_any A0 n0 c0 l0 _ hn0 (hr0.go hB.out)).mono ?_
  rintro e w1 ⟨rfl, ho, hb⟩
  have hX0 := hide (ho.res.less hB.out.size)
  clear ho
  replace hB := hide (Below.up hB.out hb)
  clear hb
  go_wp2_with fail
  refine (iBonus_any _ n0 _ l0 a1 a2 a3 _ hn0 hq0 z1' (hX0.out.arr PieceW.len)).mono ?_
  rintro e w1 ⟨rfl, hb⟩
  replace hX0 := hide (hX0.out.below hb)
  replace hB := hide (Below.up hB.out hb)
  clear hb
  go_wp2_with fail
  refine (toPieceWS_any A0 n0 c0 l0 _ hn0 (hr0.go hB.out)).mono ?_
  rintro e w1 ⟨rfl, ho, hb⟩
  replace hX0 := hide (hX0.out.below hb)
  have hY0 := hide (ho.res.less hB.out.size)
  clear ho
  replace hB := hide (Below.up hB.out hb)
  clear hb
  go_wp2_with fail
  refine (eqPieceWS_any _ _ _ _ _ _ _ _ _ hn0 (hX0.out.arr PieceW.len) (hY0.out.arr PieceW.len)).mono ?_
  rintro e w1 ⟨rfl, hb⟩
  replace hX0 := hide (hX0.out.below hb)
  replace hY0 := hide (hY0.out.below hb)
  replace hB := hide (Below.up hB.out hb)
  clear hb
  go_wp2_with fail
  go_ret
  exact ⟨rfl, hB.out⟩
set_option maxHeartbeats 1000000 in
theorem walkWageOf (w : World) (A0 : Option Addr) (n0 c0 : Nat) (l0 : List Rate) (hc0 : n0 ≤ c0) (hm0 : c0 ≤ maxLen) (hq0 : ∀ x ∈ l0, x.fits) (hr0 : Arr Rate.cells 2 w w.heap.size A0 n0 l0) (A1 : Option Addr) (n1 c1 : Nat) (l1 : List PieceW) (hc1 : n1 ≤ c1) (hm1 : c1 ≤ maxLen) (hq1 : ∀ x ∈ l1, x.fits) (hr1 : Arr PieceW.cells 4 w w.heap.size A1 n1 l1) (a2 : ByteArray) (z2 : a2.size ≤ maxLen) :
    Calls Try.prog 8 #[.slice A0 n0 c0, .slice A1 n1 c1, .string a2] w fun e w' => e = .returned (.bool true) ∧ Below w.heap.size w w' := by
  have hN0 : n0 ≤ maxLen := Nat.le_trans hc0 hm0
  clear hc0 hm0
  have hN1 : n1 ≤ maxLen := Nat.le_trans hc1 hm1
  clear hc1 hm1
  have z2' := z2
  unfold maxLen at z2
  have hB := hide (Below.refl w.heap.size w)
  by_cases g2 : 1048576 < (a2.size : Int)
  · skip
    go_enter Try.func8, Try.ntmps8
    go_wp2
    go_ret; exact ⟨rfl, hB.out⟩
  by_cases g0 : 1048576 - Rate.tot l0 < 0
  · have hs0 := szv_neg g0
    go_enter Try.func8, Try.ntmps8
    go_wp2_with (first | (go_at_call 14; refine (szRateS_any A0 n0 c0 l0 _ _ hN0 (by omega) (by omega) (hr0.go hB.out) hq0).mono ?_; rintro e whB ⟨rfl, hb⟩; have hB := hide (Below.up hB.out hb); clear hb))
    go_ret; exact ⟨rfl, hB.out⟩
  have hs0 := szv_pos (x := 1048576 - Rate.tot l0) (by omega)
  have hp0 := Rate.pre_nonneg l0
  have ht0 : Hid (Rate.tot l0 = n0 + Rate.pre l0) := by unfold Rate.tot; rw [hr0.len]; rfl
  have hT0 : 0 ≤ Rate.tot l0 := by have := ht0.out; omega
  have hn0 : n0 ≤ 1048576 := by have := ht0.out; omega
  by_cases g1 : 1048576 - Rate.tot l0 - PieceW.tot l1 < 0
  · have hs1 := szv_neg g1
    go_enter Try.func8, Try.ntmps8
    go_wp2_with fail
    refine (szRateS_any A0 n0 c0 l0 _ _ hN0 (by omega) (by omega) (hr0.go hB.out) hq0).mono ?_
    rintro e w1 ⟨rfl, hb⟩
    replace hB := hide (Below.up hB.out hb)
    clear hb
    go_wp2_with fail
    refine (szPieceWS_any A1 n1 c1 l1 _ _ hN1 (by omega) (by omega) (hr1.go hB.out) hq1).mono ?_
    rintro e w1 ⟨rfl, hb⟩
    replace hB := hide (Below.up hB.out hb)
    clear hb
    go_wp2
    go_ret; exact ⟨rfl, hB.out⟩
  have hs1 := szv_pos (x := 1048576 - Rate.tot l0 - PieceW.tot l1) (by omega)
  have hp1 := PieceW.pre_nonneg l1
  have ht1 : Hid (PieceW.tot l1 = n1 + PieceW.pre l1) := by unfold PieceW.tot; rw [hr1.len]; rfl
  have hT1 : 0 ≤ PieceW.tot l1 := by have := ht1.out; omega
  have hn1 : n1 ≤ 1048576 := by have := ht1.out; omega
  go_enter Try.func8, Try.ntmps8
  go_wp2_with fail
  refine (szRateS_any A0 n0 c0 l0 _ _ hN0 (by omega) (by omega) (hr0.go hB.out) hq0).mono ?_
  rintro e w1 ⟨rfl, hb⟩
  replace hB := hide (Below.up hB.out hb)
  clear hb
  go_wp2_with fail
  refine (szPieceWS_any A1 n1 c1 l1 _ _ hN1 (by omega) (by omega) (hr1.go hB.out) hq1).mono ?_
  rintro e w1 ⟨rfl, hb⟩
  replace hB := hide (Below.up hB.out hb)
  clear hb
  go_wp2_with fail
  refine (toRateS_any A0 n0 c0 l0 _ hn0 (hr0.go hB.out)).mono ?_
  rintro e w1 ⟨rfl, ho, hb⟩
  have hS0 := hide (ho.res.less hB.out.size)
  clear ho
  replace hB := hide (Below.up hB.out hb)
  clear hb
  go_wp2_with fail
  refine (toPieceWS_any A1 n1 c1 l1 _ hn1 (hr1.go hB.out)).mono ?_
  rintro e w1 ⟨rfl, ho, hb⟩
  replace hS0 := hide (hS0.out.below hb)
  have hS1 := hide (ho.res.less hB.out.size)
  clear ho
  replace hB := hide (Below.up hB.out hb)
  clear hb
  go_wp2_with fail
  refine (sWage_any _ n0 _ l0 _ n1 _ l1 a2 _ hn0 hn1 hq0 hq1 z2' (hS0.out.arr Rate.len) (hS1.out.arr PieceW.len)).mono ?_
  rintro e w1 ⟨rfl, hb⟩
  replace hS0 := hide (hS0.out.below hb)
  replace hS1 := hide (hS1.out.below hb)
  replace hB := hide (Below.up hB.out hb)
  clear hb
  go_wp2_with fail
  refine (toRateS_any A0 n0 c0 l0 _ hn0 (hr0.go hB.out)).mono ?_
  rintro e w1 ⟨rfl, ho, hb⟩
  have hX0 := hide (ho.res.less hB.out.size)
  clear ho
  replace hB := hide (Below.up hB.out hb)
  clear hb
  go_wp2_with fail
  refine (toPieceWS_any A1 n1 c1 l1 _ hn1 (hr1.go hB.out)).mono ?_
  rintro e w1 ⟨rfl, ho, hb⟩
  have dd_hX0_hX1 := hide (hX0.out.apart ho.res (Nat.le_refl _)).1
  have dd_hX1_hX0 := hide (hX0.out.apart ho.res (Nat.le_refl _)).2
  replace hX0 := hide (hX0.out.below hb)
  have hX1 := hide (ho.res.less hB.out.size)
  clear ho
  replace hB := hide (Below.up hB.out hb)
  clear hb
  go_wp2_with fail
  refine (iWage_any _ n0 _ l0 _ n1 _ l1 a2 _ hn0 hn1 hq0 hq1 z2' (hX0.out.arr Rate.len) (hX1.out.arr PieceW.len)).mono ?_
  rintro e w1 ⟨rfl, hb⟩
  replace hX0 := hide (hX0.out.below hb)
  replace hX1 := hide (hX1.out.below hb)
  replace hB := hide (Below.up hB.out hb)
  clear hb
  go_wp2_with fail
  refine (toRateS_any A0 n0 c0 l0 _ hn0 (hr0.go hB.out)).mono ?_
  rintro e w1 ⟨rfl, ho, hb⟩
  replace hX0 := hide (hX0.out.below hb)
  replace hX1 := hide (hX1.out.below hb)
  have hY0 := hide (ho.res.less hB.out.size)
  clear ho
  replace hB := hide (Below.up hB.out hb)
  clear hb
  go_wp2_with fail
  refine (eqRateS_any _ _ _ _ _ _ _ _ _ hn0 (hX0.out.arr Rate.len) (hY0.out.arr Rate.len)).mono ?_
  rintro e w1 ⟨rfl, hb⟩
  replace hX0 := hide (hX0.out.below hb)
  replace hX1 := hide (hX1.out.below hb)
  replace hY0 := hide (hY0.out.below hb)
  replace hB := hide (Below.up hB.out hb)
  clear hb
  go_wp2_with fail
  refine (toPieceWS_any A1 n1 c1 l1 _ hn1 (hr1.go hB.out)).mono ?_
  rintro e w1 ⟨rfl, ho, hb⟩
  replace hX0 := hide (hX0.out.below hb)
  replace hX1 := hide (hX1.out.below hb)
  have hY1 := hide (ho.res.less hB.out.size)
  clear ho
  replace hB := hide (Below.up hB.out hb)
  clear hb
  go_wp2_with fail
  refine (eqPieceWS_any _ _ _ _ _ _ _ _ _ hn1 (hX1.out.arr PieceW.len) (hY1.out.arr PieceW.len)).mono ?_
  rintro e w1 ⟨rfl, hb⟩
  replace hX0 := hide (hX0.out.below hb)
  replace hX1 := hide (hX1.out.below hb)
  replace hY1 := hide (hY1.out.below hb)
  replace hB := hide (Below.up hB.out hb)
  clear hb
  go_wp2_with fail
  go_ret
  exact ⟨rfl, hB.out⟩
end Go.Proofs.Ytfaonikmmpjopaa
