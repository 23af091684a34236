/- The walks of the exact laws of the wages: the law calls the reference and the program at copies of its arguments, compares, and looks whether they share memory. -/
import Derived.Test.YtfaonikmmpjopaaWageJ
namespace Go.Proofs.Ytfaonikmmpjopaa
open Go.ChangeShapes Go.WideShapes Go.ChangeAt Go.RowKit Go.Deep
set_option maxRecDepth 100000
set_option maxHeartbeats 1000000 in
theorem walkBestMaker (w : World) (A0 : Option Addr) (n0 c0 : Nat) (l0 : List PieceW) (hc0 : n0 ≤ c0) (hm0 : c0 ≤ maxLen) (hq0 : ∀ x ∈ l0, x.fits) (hr0 : Arr PieceW.cells 4 w w.heap.size A0 n0 l0) :
    Calls Try.prog 10 #[.slice A0 n0 c0] w fun e w' => e = .returned (.bool true) ∧ Below w.heap.size w w' := by
  have hN0 : n0 ≤ maxLen := Nat.le_trans hc0 hm0
  clear hc0 hm0
  have hB := hide (Below.refl w.heap.size w)
  by_cases g0 : 1048576 - PieceW.tot l0 < 0
  · have hs0 := szv_neg g0
    go_enter Try.func10, Try.ntmps10
    go_wp2_with (first | (go_at_call 19; refine (szPieceWS_any A0 n0 c0 l0 _ _ hN0 (by omega) (by omega) (hr0.go hB.out) hq0).mono ?_; rintro e whB ⟨rfl, hb⟩; have hB := hide (Below.up hB.out hb); clear hb))
    go_ret; exact ⟨rfl, hB.out⟩
  have hs0 := szv_pos (x := 1048576 - PieceW.tot l0) (by omega)
  have hp0 := PieceW.pre_nonneg l0
  have ht0 : Hid (PieceW.tot l0 = n0 + PieceW.pre l0) := by unfold PieceW.tot; rw [hr0.len]; rfl
  have hT0 : 0 ≤ PieceW.tot l0 := by have := ht0.out; omega
  have hn0 : n0 ≤ 1048576 := by have := ht0.out; omega
  go_enter Try.func10, Try.ntmps10
  go_wp2_with fail
  refine (szPieceWS_any A0 n0 c0 l0 _ _ hN0 (by omega) (by omega) (hr0.go hB.out) hq0).mono ?_
  rintro e w1 ⟨rfl, hb⟩
  replace hB := hide (Below.up hB.out hb)
  clear hb
  go_wp2_with fail
  refine (toPieceWS_any A0 n0 c0 l0 _ hn0 (hr0.go hB.out)).mono ?_
  rintro e w1 ⟨rfl, ho, hb⟩
  have hS0 := hide (ho.res.less hB.out.size)
  clear ho
  replace hB := hide (Below.up hB.out hb)
  clear hb
  go_wp2_with fail
  refine (sBest_any _ n0 _ l0 _ hn0 hq0 (hS0.out.arr PieceW.len)).mono ?_
  rintro e w1 ⟨rfl, hb⟩
  replace hS0 := hide (hS0.out.below hb)
  replace hB := hide (Below.up hB.out hb)
  clear hb
  go_wp2_with fail
  refine (toPieceWS_any A0 n0 c0 l0 _ hn0 (hr0.go hB.out)).mono ?_
  rintro e w1 ⟨rfl, ho, hb⟩
  have hX0 := hide (ho.res.less hB.out.size)
  clear ho
  replace hB := hide (Below.up hB.out hb)
  clear hb
  go_wp2_with fail
  refine (iBest_any _ n0 _ l0 _ hn0 hq0 (hX0.out.arr PieceW.len)).mono ?_
  rintro e w1 ⟨rfl, hb⟩
  replace hX0 := hide (hX0.out.below hb)
  replace hB := hide (Below.up hB.out hb)
  clear hb
  go_wp2_with fail
  refine (toPieceWS_any A0 n0 c0 l0 _ hn0 (hr0.go hB.out)).mono ?_
  rintro e w1 ⟨rfl, ho, hb⟩
  replace hX0 := hide (hX0.out.below hb)
  have hY0 := hide (ho.res.less hB.out.size)
  clear ho
  replace hB := hide (Below.up hB.out hb)
  clear hb
  go_wp2_with fail
  refine (eqPieceWS_any _ _ _ _ _ _ _ _ _ hn0 (hX0.out.arr PieceW.len) (hY0.out.arr PieceW.len)).mono ?_
  rintro e w1 ⟨rfl, hb⟩
  replace hX0 := hide (hX0.out.below hb)
  replace hY0 := hide (hY0.out.below hb)
  replace hB := hide (Below.up hB.out hb)
  clear hb
  go_wp2_with fail
  go_ret
  exact ⟨rfl, hB.out⟩
end Go.Proofs.Ytfaonikmmpjopaa
