/- The walk of the exact law of the busiest span. -/
import Derived.Test.YtplpbebpblalfaaOrdQ
import Derived.Test.YtplpbebpblalfaaOrdT
namespace Go.Proofs.Ytplpbebpblalfaa
open Go.ChangeShapes Go.WideShapes Go.ChangeAt Go.RowKit Go.Deep
set_option maxRecDepth 100000
set_option maxHeartbeats 1000000 in
theorem walkBusySpan (w : World) (A0 : Option Addr) (n0 c0 : Nat) (l0 : List Order) (hc0 : n0 ≤ c0) (hm0 : c0 ≤ maxLen) (hq0 : ∀ x ∈ l0, x.fits) (hr0 : Arr Order.cells 5 w w.heap.size A0 n0 l0) :
    Calls Try.prog 5 #[.slice A0 n0 c0] w fun e w' => e = .returned (.bool true) ∧ Below w.heap.size w w' := by
  have hN0 : n0 ≤ maxLen := Nat.le_trans hc0 hm0
  clear hc0 hm0
  have hB := hide (Below.refl w.heap.size w)
  by_cases g0 : 1048576 - Order.tot l0 < 0
  · have hs0 := szv_neg g0
    go_enter Try.func5, Try.ntmps5
    go_wp2_with (first | (go_at_call 9; refine (szOrderS_any A0 n0 c0 l0 _ _ hN0 (by omega) (by omega) (hr0.go hB.out) hq0).mono ?_; rintro e whB ⟨rfl, hb⟩; have hB := hide (Below.up hB.out hb); clear hb))
    go_ret; exact ⟨rfl, hB.out⟩
  have hs0 := szv_pos (x := 1048576 - Order.tot l0) (by omega)
  have hp0 := Order.pre_nonneg l0
  have ht0 : Hid (Order.tot l0 = n0 + Order.pre l0) := by unfold Order.tot; rw [hr0.len]; rfl
  have hT0 : 0 ≤ Order.tot l0 := by have := ht0.out; omega
  have hn0 : n0 ≤ 1048576 := by have := ht0.out; omega
  go_enter Try.func5, Try.ntmps5
  go_wp2_with fail
  refine (szOrderS_any A0 n0 c0 l0 _ _ hN0 (by omega) (by omega) (hr0.go hB.out) hq0).mono ?_
  rintro e w1 ⟨rfl, hb⟩
  replace hB := hide (Below.up hB.out hb)
  clear hb
  go_wp2_with fail
  refine (toOrderS_any A0 n0 c0 l0 _ hn0 (hr0.go hB.out)).mono ?_
  rintro e w1 ⟨rfl, ho, hb⟩
  have hS0 := hide ho
  clear ho
  replace hB := hide (Below.up hB.out hb)
  clear hb
  go_wp2_with fail
  refine (sBusy_any _ n0 _ l0 _ hn0 hq0 (hS0.out.arr Order.len)).mono ?_
  rintro e w1 ⟨rfl, hb⟩
  replace hS0 := hide (hS0.out.below hb)
  replace hB := hide (Below.up hB.out hb)
  clear hb
  go_wp2_with fail
  refine (toOrderS_any A0 n0 c0 l0 _ hn0 (hr0.go (hB.out.alloc hB.out.size _))).mono ?_
  rintro e w1 ⟨rfl, ho, hb⟩
  have hF := hide (two_new hb)
  replace hb := below_alloc2 hb
  simp only [World.size_alloc] at ho
  have hX0 := hide ho
  clear ho
  replace hB := hide (Below.up hB.out hb)
  clear hb
  go_wp2_with fail
  refine (iBusy_any _ n0 _ l0 _ hn0 hq0 (hX0.out.arr Order.len)).mono ?_
  rintro e w1 ⟨rfl, hb⟩
  replace hF := hide (two_later hF.out hb)
  replace hX0 := hide (hX0.out.below hb)
  replace hB := hide (Below.up hB.out hb)
  clear hb
  have q0 := fun O => (Two.alloc hF.out O).1
  have q1 := fun O => (Two.alloc hF.out O).2
  go_wp2_with fail
  refine (eqFraction_same _ _ _).mono ?_
  rintro e w1 ⟨rfl, hb⟩
  replace hb := below_alloc2 hb
  replace hX0 := hide (hX0.out.below hb)
  replace hB := hide (Below.up hB.out hb)
  clear hb
  clear q0 q1
  go_wp2_with fail
  refine (toOrderS_any A0 n0 c0 l0 _ hn0 (hr0.go hB.out)).mono ?_
  rintro e w1 ⟨rfl, ho, hb⟩
  replace hX0 := hide (hX0.out.below hb)
  have hY0 := hide ho
  clear ho
  replace hB := hide (Below.up hB.out hb)
  clear hb
  go_wp2_with fail
  refine (eqOrderS_any _ _ _ _ _ _ _ _ _ hn0 (hX0.out.arr Order.len) (hY0.out.arr Order.len)).mono ?_
  rintro e w1 ⟨rfl, hb⟩
  replace hX0 := hide (hX0.out.below hb)
  replace hY0 := hide (hY0.out.below hb)
  replace hB := hide (Below.up hB.out hb)
  clear hb
  go_wp2_with fail
  go_ret
  exact ⟨rfl, hB.out⟩
end Go.Proofs.Ytplpbebpblalfaa
