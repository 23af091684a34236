/- The walks of the exact laws of the prices: the law calls the reference and the program at copies of its arguments, and compares. -/
import Derived.Test.YtalibcnaompjmaaPriceE
namespace Go.Proofs.Ytalibcnaompjmaa
open Go.ChangeShapes Go.WideShapes Go.ChangeAt Go.RowKit Go.Deep
theorem walkValidCosts (w : World) (A0 : Option Addr) (n0 c0 : Nat) (l0 : List Cost) (hc0 : n0 ≤ c0) (hm0 : c0 ≤ maxLen) (hq0 : ∀ x ∈ l0, x.fits) (hr0 : Arr Cost.cells 2 w w.heap.size A0 n0 l0) :
    Calls Try.prog 6 #[.slice A0 n0 c0] w fun e w' => e = .returned (.bool true) ∧ Below w.heap.size w w' := by
  have hN0 : n0 ≤ maxLen := Nat.le_trans hc0 hm0
  clear hc0 hm0
  have hB := hide (Below.refl w.heap.size w)
  by_cases g0 : 1048576 - Cost.tot l0 < 0
  · have hs0 := szv_neg g0
    go_enter Try.func6, Try.ntmps6
    go_wp2_with (first | (go_at_call 20; refine (szCostS_any A0 n0 c0 l0 _ _ hN0 (by omega) (by omega) (hr0.go hB.out) hq0).mono ?_; rintro e whB ⟨rfl, hb⟩; have hB := hide (Below.up hB.out hb); clear hb))
    go_ret; exact ⟨rfl, hB.out⟩
  have hs0 := szv_pos (x := 1048576 - Cost.tot l0) (by omega)
  have hp0 := Cost.pre_nonneg l0
  have ht0 : Hid (Cost.tot l0 = n0 + Cost.pre l0) := by unfold Cost.tot; rw [hr0.len]; rfl
  have hT0 : 0 ≤ Cost.tot l0 := by have := ht0.out; omega
  have hn0 : n0 ≤ 1048576 := by have := ht0.out; omega
  go_enter Try.func6, Try.ntmps6
  go_wp2_with fail
  refine (szCostS_any A0 n0 c0 l0 _ _ hN0 (by omega) (by omega) (hr0.go hB.out) hq0).mono ?_
  rintro e w1 ⟨rfl, hb⟩
  replace hB := hide (Below.up hB.out hb)
  clear hb
  go_wp2_with fail
  refine (toCostS_any A0 n0 c0 l0 _ hn0 (hr0.go hB.out)).mono ?_
  rintro e w1 ⟨rfl, ho, hb⟩
  have hS0 := hide ho
  clear ho
  replace hB := hide (Below.up hB.out hb)
  clear hb
  go_wp2_with fail
  refine (sValidCosts_any _ n0 _ l0 _ hn0 (hS0.out.arr Cost.len)).mono ?_
  rintro e w1 ⟨rfl, hb⟩
  replace hS0 := hide (hS0.out.below hb)
  replace hB := hide (Below.up hB.out hb)
  clear hb
  go_wp2_with fail
  refine (toCostS_any A0 n0 c0 l0 _ hn0 (hr0.go hB.out)).mono ?_
  rintro e w1 ⟨rfl, ho, hb⟩
  have hX0 := hide ho
  clear ho
  replace hB := hide (Below.up hB.out hb)
  clear hb
  go_wp2_with fail
  refine (iValidCosts_any _ n0 _ l0 _ hn0 (hX0.out.arr Cost.len)).mono ?_
  rintro e w1 ⟨rfl, hb⟩
  replace hX0 := hide (hX0.out.below hb)
  replace hB := hide (Below.up hB.out hb)
  clear hb
  go_wp2_with fail
  refine (toCostS_any A0 n0 c0 l0 _ hn0 (hr0.go hB.out)).mono ?_
  rintro e w1 ⟨rfl, ho, hb⟩
  replace hX0 := hide (hX0.out.below hb)
  have hY0 := hide ho
  clear ho
  replace hB := hide (Below.up hB.out hb)
  clear hb
  go_wp2_with fail
  refine (eqCostS_any _ _ _ _ _ _ _ _ _ hn0 (hX0.out.arr Cost.len) (hY0.out.arr Cost.len)).mono ?_
  rintro e w1 ⟨rfl, hb⟩
  replace hX0 := hide (hX0.out.below hb)
  replace hY0 := hide (hY0.out.below hb)
  replace hB := hide (Below.up hB.out hb)
  clear hb
  go_wp2_with fail
  go_ret
  exact ⟨rfl, hB.out⟩
theorem walkDearestCost (w : World) (A0 : Option Addr) (n0 c0 : Nat) (l0 : List Cost) (hc0 : n0 ≤ c0) (hm0 : c0 ≤ maxLen) (hq0 : ∀ x ∈ l0, x.fits) (hr0 : Arr Cost.cells 2 w w.heap.size A0 n0 l0) :
    Calls Try.prog 8 #[.slice A0 n0 c0] w fun e w' => e = .returned (.bool true) ∧ Below w.heap.size w w' := by
  have hN0 : n0 ≤ maxLen := Nat.le_trans hc0 hm0
  clear hc0 hm0
  have hB := hide (Below.refl w.heap.size w)
  by_cases g0 : 1048576 - Cost.tot l0 < 0
  · have hs0 := szv_neg g0
    go_enter Try.func8, Try.ntmps8
    go_wp2_with (first | (go_at_call 20; refine (szCostS_any A0 n0 c0 l0 _ _ hN0 (by omega) (by omega) (hr0.go hB.out) hq0).mono ?_; rintro e whB ⟨rfl, hb⟩; have hB := hide (Below.up hB.out hb); clear hb))
    go_ret; exact ⟨rfl, hB.out⟩
  have hs0 := szv_pos (x := 1048576 - Cost.tot l0) (by omega)
  have hp0 := Cost.pre_nonneg l0
  have ht0 : Hid (Cost.tot l0 = n0 + Cost.pre l0) := by unfold Cost.tot; rw [hr0.len]; rfl
  have hT0 : 0 ≤ Cost.tot l0 := by have := ht0.out; omega
  have hn0 : n0 ≤ 1048576 := by have := ht0.out; omega
  go_enter Try.func8, Try.ntmps8
  go_wp2_with fail
  refine (szCostS_any A0 n0 c0 l0 _ _ hN0 (by omega) (by omega) (hr0.go hB.out) hq0).mono ?_
  rintro e w1 ⟨rfl, hb⟩
  replace hB := hide (Below.up hB.out hb)
  clear hb
  go_wp2_with fail
  refine (toCostS_any A0 n0 c0 l0 _ hn0 (hr0.go hB.out)).mono ?_
  rintro e w1 ⟨rfl, ho, hb⟩
  have hS0 := hide ho
  clear ho
  replace hB := hide (Below.up hB.out hb)
  clear hb
  go_wp2_with fail
  refine (sDearest_any _ n0 _ l0 _ hn0 (hS0.out.arr Cost.len)).mono ?_
  rintro e w1 ⟨rfl, hb⟩
  replace hS0 := hide (hS0.out.below hb)
  replace hB := hide (Below.up hB.out hb)
  clear hb
  go_wp2_with fail
  refine (toCostS_any A0 n0 c0 l0 _ hn0 (hr0.go hB.out)).mono ?_
  rintro e w1 ⟨rfl, ho, hb⟩
  have hX0 := hide ho
  clear ho
  replace hB := hide (Below.up hB.out hb)
  clear hb
  go_wp2_with fail
  refine (iDearest_any _ n0 _ l0 _ hn0 (hX0.out.arr Cost.len)).mono ?_
  rintro e w1 ⟨rfl, hb⟩
  replace hX0 := hide (hX0.out.below hb)
  replace hB := hide (Below.up hB.out hb)
  clear hb
  go_wp2_with fail
  refine (toCostS_any A0 n0 c0 l0 _ hn0 (hr0.go hB.out)).mono ?_
  rintro e w1 ⟨rfl, ho, hb⟩
  replace hX0 := hide (hX0.out.below hb)
  have hY0 := hide ho
  clear ho
  replace hB := hide (Below.up hB.out hb)
  clear hb
  go_wp2_with fail
  refine (eqCostS_any _ _ _ _ _ _ _ _ _ hn0 (hX0.out.arr Cost.len) (hY0.out.arr Cost.len)).mono ?_
  rintro e w1 ⟨rfl, hb⟩
  replace hX0 := hide (hX0.out.below hb)
  replace hY0 := hide (hY0.out.below hb)
  replace hB := hide (Below.up hB.out hb)
  clear hb
  go_wp2_with fail
  go_ret
  exact ⟨rfl, hB.out⟩
theorem walkCostOf (w : World) (A0 : Option Addr) (n0 c0 : Nat) (l0 : List Cost) (hc0 : n0 ≤ c0) (hm0 : c0 ≤ maxLen) (hq0 : ∀ x ∈ l0, x.fits) (hr0 : Arr Cost.cells 2 w w.heap.size A0 n0 l0) :
    Calls Try.prog 9 #[.slice A0 n0 c0] w fun e w' => e = .returned (.bool true) ∧ Below w.heap.size w w' := by
  have hN0 : n0 ≤ maxLen := Nat.le_trans hc0 hm0
  clear hc0 hm0
  have hB := hide (Below.refl w.heap.size w)
  by_cases g0 : 1048576 - Cost.tot l0 < 0
  · have hs0 := szv_neg g0
    go_enter Try.func9, Try.ntmps9
    go_wp2_with (first | (go_at_call 20; refine (szCostS_any A0 n0 c0 l0 _ _ hN0 (by omega) (by omega) (hr0.go hB.out) hq0).mono ?_; rintro e whB ⟨rfl, hb⟩; have hB := hide (Below.up hB.out hb); clear hb))
    go_ret; exact ⟨rfl, hB.out⟩
  have hs0 := szv_pos (x := 1048576 - Cost.tot l0) (by omega)
  have hp0 := Cost.pre_nonneg l0
  have ht0 : Hid (Cost.tot l0 = n0 + Cost.pre l0) := by unfold Cost.tot; rw [hr0.len]; rfl
  have hT0 : 0 ≤ Cost.tot l0 := by have := ht0.out; omega
  have hn0 : n0 ≤ 1048576 := by have := ht0.out; omega
  go_enter Try.func9, Try.ntmps9
  go_wp2_with fail
  refine (szCostS_any A0 n0 c0 l0 _ _ hN0 (by omega) (by omega) (hr0.go hB.out) hq0).mono ?_
  rintro e w1 ⟨rfl, hb⟩
  replace hB := hide (Below.up hB.out hb)
  clear hb
  go_wp2_with fail
  refine (toCostS_any A0 n0 c0 l0 _ hn0 (hr0.go hB.out)).mono ?_
  rintro e w1 ⟨rfl, ho, hb⟩
  have hS0 := hide ho
  clear ho
  replace hB := hide (Below.up hB.out hb)
  clear hb
  go_wp2_with fail
  refine (sCostOf_any _ n0 _ l0 _ hn0 (hS0.out.arr Cost.len)).mono ?_
  rintro e w1 ⟨rfl, hb⟩
  replace hS0 := hide (hS0.out.below hb)
  replace hB := hide (Below.up hB.out hb)
  clear hb
  go_wp2_with fail
  refine (toCostS_any A0 n0 c0 l0 _ hn0 (hr0.go hB.out)).mono ?_
  rintro e w1 ⟨rfl, ho, hb⟩
  have hX0 := hide ho
  clear ho
  replace hB := hide (Below.up hB.out hb)
  clear hb
  go_wp2_with fail
  refine (iCostOf_any _ n0 _ l0 _ hn0 (hX0.out.arr Cost.len)).mono ?_
  rintro e w1 ⟨rfl, hb⟩
  replace hX0 := hide (hX0.out.below hb)
  replace hB := hide (Below.up hB.out hb)
  clear hb
  go_wp2_with fail
  refine (toCostS_any A0 n0 c0 l0 _ hn0 (hr0.go hB.out)).mono ?_
  rintro e w1 ⟨rfl, ho, hb⟩
  replace hX0 := hide (hX0.out.below hb)
  have hY0 := hide ho
  clear ho
  replace hB := hide (Below.up hB.out hb)
  clear hb
  go_wp2_with fail
  refine (eqCostS_any _ _ _ _ _ _ _ _ _ hn0 (hX0.out.arr Cost.len) (hY0.out.arr Cost.len)).mono ?_
  rintro e w1 ⟨rfl, hb⟩
  replace hX0 := hide (hX0.out.below hb)
  replace hY0 := hide (hY0.out.below hb)
  replace hB := hide (Below.up hB.out hb)
  clear hb
  go_wp2_with fail
  go_ret
  exact ⟨rfl, hB.out⟩
theorem walkPriceWith (w : World) (A0 : Option Addr) (n0 c0 : Nat) (l0 : List Cost) (hc0 : n0 ≤ c0) (hm0 : c0 ≤ maxLen) (hq0 : ∀ x ∈ l0, x.fits) (hr0 : Arr Cost.cells 2 w w.heap.size A0 n0 l0) (a1 : Int) :
    Calls Try.prog 10 #[.slice A0 n0 c0, .int .i64 a1] w fun e w' => e = .returned (.bool true) ∧ Below w.heap.size w w' := by
  have hN0 : n0 ≤ maxLen := Nat.le_trans hc0 hm0
  clear hc0 hm0
  have hB := hide (Below.refl w.heap.size w)
  by_cases g0 : 1048576 - Cost.tot l0 < 0
  · have hs0 := szv_neg g0
    go_enter Try.func10, Try.ntmps10
    go_wp2_with (first | (go_at_call 20; refine (szCostS_any A0 n0 c0 l0 _ _ hN0 (by omega) (by omega) (hr0.go hB.out) hq0).mono ?_; rintro e whB ⟨rfl, hb⟩; have hB := hide (Below.up hB.out hb); clear hb))
    go_ret; exact ⟨rfl, hB.out⟩
  have hs0 := szv_pos (x := 1048576 - Cost.tot l0) (by omega)
  have hp0 := Cost.pre_nonneg l0
  have ht0 : Hid (Cost.tot l0 = n0 + Cost.pre l0) := by unfold Cost.tot; rw [hr0.len]; rfl
  have hT0 : 0 ≤ Cost.tot l0 := by have := ht0.out; omega
  have hn0 : n0 ≤ 1048576 := by have := ht0.out; omega
  go_enter Try.func10, Try.ntmps10
  go_wp2_with fail
  refine (szCostS_any A0 n0 c0 l0 _ _ hN0 (by omega) (by omega) (hr0.go hB.out) hq0).mono ?_
  rintro e w1 ⟨rfl, hb⟩
  replace hB := hide (Below.up hB.out hb)
  clear hb
  go_wp2_with fail
  refine (toCostS_any A0 n0 c0 l0 _ hn0 (hr0.go hB.out)).mono ?_
  rintro e w1 ⟨rfl, ho, hb⟩
  have hS0 := hide ho
  clear ho
  replace hB := hide (Below.up hB.out hb)
  clear hb
  go_wp2_with fail
  refine (sPriceWith_any _ n0 _ l0 a1 _ hn0 (hS0.out.arr Cost.len)).mono ?_
  rintro e w1 ⟨rfl, hb⟩
  replace hS0 := hide (hS0.out.below hb)
  replace hB := hide (Below.up hB.out hb)
  clear hb
  go_wp2_with fail
  refine (toCostS_any A0 n0 c0 l0 _ hn0 (hr0.go hB.out)).mono ?_
  rintro e w1 ⟨rfl, ho, hb⟩
  have hX0 := hide ho
  clear ho
  replace hB := hide (Below.up hB.out hb)
  clear hb
  go_wp2_with fail
  refine (iPriceWith_any _ n0 _ l0 a1 _ hn0 (hX0.out.arr Cost.len)).mono ?_
  rintro e w1 ⟨rfl, hb⟩
  replace hX0 := hide (hX0.out.below hb)
  replace hB := hide (Below.up hB.out hb)
  clear hb
  go_wp2_with fail
  refine (toCostS_any A0 n0 c0 l0 _ hn0 (hr0.go hB.out)).mono ?_
  rintro e w1 ⟨rfl, ho, hb⟩
  replace hX0 := hide (hX0.out.below hb)
  have hY0 := hide ho
  clear ho
  replace hB := hide (Below.up hB.out hb)
  clear hb
  go_wp2_with fail
  refine (eqCostS_any _ _ _ _ _ _ _ _ _ hn0 (hX0.out.arr Cost.len) (hY0.out.arr Cost.len)).mono ?_
  rintro e w1 ⟨rfl, hb⟩
  replace hX0 := hide (hX0.out.below hb)
  replace hY0 := hide (hY0.out.below hb)
  replace hB := hide (Below.up hB.out hb)
  clear hb
  go_wp2_with fail
  go_ret
  exact ⟨rfl, hB.out⟩
end Go.Proofs.Ytalibcnaompjmaa
