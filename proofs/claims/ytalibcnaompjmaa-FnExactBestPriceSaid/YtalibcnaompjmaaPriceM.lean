/- The walks of the exact laws of the prices: the law calls the reference and the program at copies of its arguments, and compares. -/
import Derived.Test.YtalibcnaompjmaaPriceH
namespace Go.Proofs.Ytalibcnaompjmaa
open Go.ChangeShapes Go.WideShapes Go.ChangeAt Go.RowKit Go.Deep
theorem walkProfitOf (w : World) (A0 : Option Addr) (n0 c0 : Nat) (l0 : List Cost) (hc0 : n0 ≤ c0) (hm0 : c0 ≤ maxLen) (hq0 : ∀ x ∈ l0, x.fits) (hr0 : Arr Cost.cells 2 w w.heap.size A0 n0 l0) (a1 : Int) :
    Calls Try.prog 11 #[.slice A0 n0 c0, .int .i64 a1] w fun e w' => e = .returned (.bool true) ∧ Below w.heap.size w w' := by
  have hN0 : n0 ≤ maxLen := Nat.le_trans hc0 hm0
  clear hc0 hm0
  have hB := hide (Below.refl w.heap.size w)
  by_cases g0 : 1048576 - Cost.tot l0 < 0
  · have hs0 := szv_neg g0
    go_enter Try.func11, Try.ntmps11
    go_wp2_with (first | (go_at_call 20; refine (szCostS_any A0 n0 c0 l0 _ _ hN0 (by omega) (by omega) (hr0.go hB.out) hq0).mono ?_; rintro e whB ⟨rfl, hb⟩; have hB := hide (Below.up hB.out hb); clear hb))
    go_ret; exact ⟨rfl, hB.out⟩
  have hs0 := szv_pos (x := 1048576 - Cost.tot l0) (by omega)
  have hp0 := Cost.pre_nonneg l0
  have ht0 : Hid (Cost.tot l0 = n0 + Cost.pre l0) := by unfold Cost.tot; rw [hr0.len]; rfl
  have hT0 : 0 ≤ Cost.tot l0 := by have := ht0.out; omega
  have hn0 : n0 ≤ 1048576 := by have := ht0.out; omega
  go_enter Try.func11, Try.ntmps11
  go_wp2_with fail
  refine (szCostS_any A0 n0 c0 l0 _ _ hN0 (by omega) (by omega) (hr0.go hB.out) hq0).mono ?_
  rintro e w1 ⟨rfl, hb⟩
  replace hB := hide (Below.up hB.out hb)
  clear hb
  go_wp2_with fail
  refine (toCostS_any A0 n0 c0 l0 _ hn0 (hr0.go hB.out)).mono ?_
  rintro e w1 ⟨rfl, ho, hb⟩
  have hS0 := hide ho
  clear ho
  replace hB := hide (Below.up hB.out hb)
  clear hb
  go_wp2_with fail
  refine (sProfit_any _ n0 _ l0 a1 _ hn0 (hS0.out.arr Cost.len)).mono ?_
  rintro e w1 ⟨rfl, hb⟩
  replace hS0 := hide (hS0.out.below hb)
  replace hB := hide (Below.up hB.out hb)
  clear hb
  go_wp2_with fail
  refine (toCostS_any A0 n0 c0 l0 _ hn0 (hr0.go (hB.out.alloc hB.out.size _))).mono ?_
  rintro e w1 ⟨rfl, ho, hb⟩
  have hF := hide (two_new hb)
  replace hb := below_alloc2 hb
  simp only [World.size_alloc] at ho
  have hX0 := hide ho
  clear ho
  replace hB := hide (Below.up hB.out hb)
  clear hb
  go_wp2_with fail
  refine (iProfit_any _ n0 _ l0 a1 _ hn0 (hX0.out.arr Cost.len)).mono ?_
  rintro e w1 ⟨rfl, hb⟩
  replace hF := hide (two_later hF.out hb)
  replace hX0 := hide (hX0.out.below hb)
  replace hB := hide (Below.up hB.out hb)
  clear hb
  have q0 := fun O => (Two.alloc hF.out O).1
  have q1 := fun O => (Two.alloc hF.out O).2
  go_wp2_with fail
  refine (eqFraction_same _ _ _).mono ?_
  rintro e w1 ⟨rfl, hb⟩
  replace hb := below_alloc2 hb
  replace hX0 := hide (hX0.out.below hb)
  replace hB := hide (Below.up hB.out hb)
  clear hb
  clear q0 q1
  go_wp2_with fail
  refine (toCostS_any A0 n0 c0 l0 _ hn0 (hr0.go hB.out)).mono ?_
  rintro e w1 ⟨rfl, ho, hb⟩
  replace hX0 := hide (hX0.out.below hb)
  have hY0 := hide ho
  clear ho
  replace hB := hide (Below.up hB.out hb)
  clear hb
  go_wp2_with fail
  refine (eqCostS_any _ _ _ _ _ _ _ _ _ hn0 (hX0.out.arr Cost.len) (hY0.out.arr Cost.len)).mono ?_
  rintro e w1 ⟨rfl, hb⟩
  replace hX0 := hide (hX0.out.below hb)
  replace hY0 := hide (hY0.out.below hb)
  replace hB := hide (Below.up hB.out hb)
  clear hb
  go_wp2_with fail
  go_ret
  exact ⟨rfl, hB.out⟩
theorem walkBestPrice (w : World) (A0 : Option Addr) (n0 c0 : Nat) (l0 : List Int) (hc0 : n0 ≤ c0) (hm0 : c0 ≤ maxLen) (_ : ∀ x ∈ l0, (Lit.int .i64 x).wf = true) (hr0 : Arr i64c 1 w w.heap.size A0 n0 l0) (A1 : Option Addr) (n1 c1 : Nat) (l1 : List Int) (hc1 : n1 ≤ c1) (hm1 : c1 ≤ maxLen) (_ : ∀ x ∈ l1, (Lit.int .i64 x).wf = true) (hr1 : Arr i64c 1 w w.heap.size A1 n1 l1) (a2 : Int) :
    Calls Try.prog 7 #[.slice A0 n0 c0, .slice A1 n1 c1, .int .i64 a2] w fun e w' => e = .returned (.bool true) ∧ Below w.heap.size w w' := by
  have hN0 : n0 ≤ maxLen := Nat.le_trans hc0 hm0
  clear hc0 hm0
  have hN1 : n1 ≤ maxLen := Nat.le_trans hc1 hm1
  clear hc1 hm1
  have hB := hide (Below.refl w.heap.size w)
  unfold maxLen at hN0
  by_cases g0 : 1048576 < (n0 : Int)
  · skip
    go_enter Try.func7, Try.ntmps7
    go_wp2
    go_ret; exact ⟨rfl, hB.out⟩
  have hn0 : n0 ≤ 1048576 := by omega
  unfold maxLen at hN1
  by_cases g1 : 1048576 < (n1 : Int)
  · skip
    go_enter Try.func7, Try.ntmps7
    go_wp2
    go_ret; exact ⟨rfl, hB.out⟩
  have hn1 : n1 ≤ 1048576 := by omega
  go_enter Try.func7, Try.ntmps7
  go_wp2_with fail
  refine (toInts_any A0 n0 c0 l0 _ hn0 (hr0.go hB.out)).mono ?_
  rintro e w1 ⟨rfl, ho, hb⟩
  have hS0 := hide ho
  clear ho
  replace hB := hide (Below.up hB.out hb)
  clear hb
  go_wp2_with fail
  refine (toInts_any A1 n1 c1 l1 _ hn1 (hr1.go hB.out)).mono ?_
  rintro e w1 ⟨rfl, ho, hb⟩
  replace hS0 := hide (hS0.out.below hb)
  have hS1 := hide ho
  clear ho
  replace hB := hide (Below.up hB.out hb)
  clear hb
  go_wp2_with fail
  refine (sBest_any _ n0 _ l0 _ n1 _ l1 a2 _ hn0 hn1 (hS0.out.arr i64c_len) (hS1.out.arr i64c_len)).mono ?_
  rintro e w1 ⟨rfl, hb⟩
  replace hS0 := hide (hS0.out.below hb)
  replace hS1 := hide (hS1.out.below hb)
  replace hB := hide (Below.up hB.out hb)
  clear hb
  go_wp2_with fail
  refine (toInts_any A0 n0 c0 l0 _ hn0 (hr0.go hB.out)).mono ?_
  rintro e w1 ⟨rfl, ho, hb⟩
  have hX0 := hide ho
  clear ho
  replace hB := hide (Below.up hB.out hb)
  clear hb
  go_wp2_with fail
  refine (toInts_any A1 n1 c1 l1 _ hn1 (hr1.go hB.out)).mono ?_
  rintro e w1 ⟨rfl, ho, hb⟩
  replace hX0 := hide (hX0.out.below hb)
  have hX1 := hide ho
  clear ho
  replace hB := hide (Below.up hB.out hb)
  clear hb
  go_wp2_with fail
  refine (iBest_any _ n0 _ l0 _ n1 _ l1 a2 _ hn0 hn1 (hX0.out.arr i64c_len) (hX1.out.arr i64c_len)).mono ?_
  rintro e w1 ⟨rfl, hb⟩
  replace hX0 := hide (hX0.out.below hb)
  replace hX1 := hide (hX1.out.below hb)
  replace hB := hide (Below.up hB.out hb)
  clear hb
  go_wp2_with fail
  refine (toInts_any A0 n0 c0 l0 _ hn0 (hr0.go hB.out)).mono ?_
  rintro e w1 ⟨rfl, ho, hb⟩
  replace hX0 := hide (hX0.out.below hb)
  replace hX1 := hide (hX1.out.below hb)
  have hY0 := hide ho
  clear ho
  replace hB := hide (Below.up hB.out hb)
  clear hb
  go_wp2_with fail
  refine (eqInts_any _ _ _ _ _ _ _ _ _ hn0 (hX0.out.arr i64c_len) (hY0.out.arr i64c_len)).mono ?_
  rintro e w1 ⟨rfl, hb⟩
  replace hX0 := hide (hX0.out.below hb)
  replace hX1 := hide (hX1.out.below hb)
  replace hY0 := hide (hY0.out.below hb)
  replace hB := hide (Below.up hB.out hb)
  clear hb
  go_wp2_with fail
  refine (toInts_any A1 n1 c1 l1 _ hn1 (hr1.go hB.out)).mono ?_
  rintro e w1 ⟨rfl, ho, hb⟩
  replace hX0 := hide (hX0.out.below hb)
  replace hX1 := hide (hX1.out.below hb)
  replace hY0 := hide (hY0.out.below hb)
  have hY1 := hide ho
  clear ho
  replace hB := hide (Below.up hB.out hb)
  clear hb
  go_wp2_with fail
  refine (eqInts_any _ _ _ _ _ _ _ _ _ hn1 (hX1.out.arr i64c_len) (hY1.out.arr i64c_len)).mono ?_
  rintro e w1 ⟨rfl, hb⟩
  replace hX0 := hide (hX0.out.below hb)
  replace hX1 := hide (hX1.out.below hb)
  replace hY0 := hide (hY0.out.below hb)
  replace hY1 := hide (hY1.out.below hb)
  replace hB := hide (Below.up hB.out hb)
  clear hb
  go_wp2_with fail
  go_ret
  exact ⟨rfl, hB.out⟩
end Go.Proofs.Ytalibcnaompjmaa
