/- Sums of numbers, and what is drawn straight from the plan of the orders: CanDoAll, WorkOn. -/
import Derived.Test.YtjhdfcpcpjecbaaOrdF
namespace Go.Proofs.Ytjhdfcpcpjecbaa
open Go.ChangeShapes Go.WideShapes Go.ChangeAt Go.RowKit Go.Deep
set_option maxRecDepth 100000
theorem lateTo_all {l : List Order} {left late : List Int} {day M : Int} (h : ∀ z ∈ left, 0 ≤ z ∧ z ≤ M) (h' : ∀ z ∈ late, 0 ≤ z ∧ z ≤ M) (k : Nat) : ∀ z ∈ lateTo l left late day k, 0 ≤ z ∧ z ≤ M := by
  induction k with
  | zero => exact h'
  | succ k ih =>
    intro z hz
    unfold lateTo at hz
    split at hz
    · rename_i x y hx hy
      split at hz
      · rcases List.mem_or_eq_of_mem_set hz with hz | hz
        · exact ih z hz
        · subst hz; exact h _ (List.mem_of_getElem? hy)
      · exact ih z hz
    · exact ih z hz
theorem planTo_late_all {l : List Order} (h : ∀ x ∈ l, 0 ≤ dayF x ∧ dayF x ≤ 2000) (d : Nat) : ∀ z ∈ (planTo l d).late, 0 ≤ z ∧ z ≤ 2000 := by
  induction d with
  | zero =>
    intro z hz
    have e := List.eq_of_mem_replicate (show z ∈ List.replicate l.length (0 : Int) from hz)
    subst e; exact ⟨by omega, by omega⟩
  | succ d ih => exact lateTo_all (decr_all (planTo_left_all h d) (fun h0 => pickTo_pos _ _ _ _ h0)) ih _
theorem mPlan_late {l : List Order} (h : ordersOk l = true) : (∀ z ∈ (mPlan l).late, 0 ≤ z ∧ z ≤ 2000) ∧ (mPlan l).late.length = l.length ∧ l.length ≤ 30 :=
  ⟨planTo_late_all (dayF_all h) _, planTo_late_len l _, orders_len h⟩
theorem mPlan_days {l : List Order} (h : ordersOk l = true) : (mPlan l).days.length ≤ 5000 := by
  have h1 := lastDue_bound (l := l) (fun x hx => ((plan_facts h).2.2 x hx).2)
  unfold mPlan
  rw [planTo_days_len]
  omega
def mCan (l : List Order) : Bool × Int := if ordersOk l then (decide (sumOf id (mPlan l).late = 0), 0) else (false, 1)
def mWork (l : List Order) : List Int := if ordersOk l then (mPlan l).days else []
def mWorkC (l : List Order) : Int := if ordersOk l then 0 else 1
theorem mWork_len (l : List Order) : (mWork l).length ≤ 1048576 := by
  unfold mWork
  split
  · rename_i h; exact Nat.le_trans (mPlan_days h) (by decide)
  · exact Nat.zero_le _
set_option maxHeartbeats 1000000 in
theorem iWork_any (A : Option Addr) (n c : Nat) (l : List Order) (w : World) (hn : n ≤ 1048576) (hf : ∀ x ∈ l, x.fits) (hr : Arr Order.cells 5 w w.heap.size A n l) :
    Calls Try.prog 6 #[.slice A n c] w fun e w' => ∃ v, e = .returned (.tuple #[v, .int .i64 (mWorkC l)]) ∧ Res i64c 2 1 w' w.heap.size v (mWork l).length (mWork l) ∧ Below w.heap.size w w' := by
  cases hok : ordersOk l
  · have hm : Hid (mWork l = [] ∧ mWorkC l = 1) := hide (by simp [mWork, mWorkC, hok])
    go_enter Try.func6, Try.ntmps6
    go_wp2_with (go_at_call 14; refine (iOrders_any A n c l _ hn hf hr).mono ?_; rintro e w1 ⟨rfl, hb⟩; have hB := hide hb; clear hb)
    go_ret2; exact ⟨_, by rw [hm.out.2]; rfl, by rw [hm.out.1]; exact Res.empty (Nat.zero_le _), hB.out⟩
  · have hm : Hid (mWork l = (mPlan l).days ∧ mWorkC l = 0) := hide (by simp [mWork, mWorkC, hok])
    go_enter Try.func6, Try.ntmps6
    go_wp2_with (first | (go_at_call 14; refine (iOrders_any A n c l _ hn hf hr).mono ?_; rintro e w1 ⟨rfl, hb⟩; have hB := hide hb; clear hb) | (go_at_call 15; refine (iPlan_any A n c l _ hn hok (hr.go hB.out)).mono ?_; rintro e w2 ⟨v0, v1, v2, rfl, hT, hb1⟩; have hB2 := hide (Below.up hB.out hb1); have hT2 := hide hT; obtain ⟨A2, c2, hv2, _⟩ := hT.o2.slice; subst hv2; have hA2 := hide (hT.o2.arr i64c_len); clear hT hb1))
    go_ret2; exact ⟨_, by rw [hm.out.2]; rfl, by rw [hm.out.1]; exact (hT2.out.o0.less hB.out.size).res, hB2.out⟩
set_option maxHeartbeats 1000000 in
theorem sWork_any (A : Option Addr) (n c : Nat) (l : List Order) (w : World) (hn : n ≤ 1048576) (hf : ∀ x ∈ l, x.fits) (hr : Arr Order.cells 5 w w.heap.size A n l) :
    Calls Try.prog 7 #[.slice A n c] w fun e w' => ∃ v, e = .returned (.tuple #[v, .int .i64 (mWorkC l)]) ∧ Res i64c 2 1 w' w.heap.size v (mWork l).length (mWork l) ∧ Below w.heap.size w w' := by
  cases hok : ordersOk l
  · have hm : Hid (mWork l = [] ∧ mWorkC l = 1) := hide (by simp [mWork, mWorkC, hok])
    go_enter Try.func7, Try.ntmps7
    go_wp2_with (go_at_call 16; refine (sOrders_any A n c l _ hn hf hr).mono ?_; rintro e w1 ⟨rfl, hb⟩; have hB := hide hb; clear hb)
    go_ret2; exact ⟨_, by rw [hm.out.2]; rfl, by rw [hm.out.1]; exact Res.empty (Nat.zero_le _), hB.out⟩
  · have hm : Hid (mWork l = (mPlan l).days ∧ mWorkC l = 0) := hide (by simp [mWork, mWorkC, hok])
    go_enter Try.func7, Try.ntmps7
    go_wp2_with (first | (go_at_call 16; refine (sOrders_any A n c l _ hn hf hr).mono ?_; rintro e w1 ⟨rfl, hb⟩; have hB := hide hb; clear hb) | (go_at_call 17; refine (sPlan_any A n c l _ hn hok (hr.go hB.out)).mono ?_; rintro e w2 ⟨v0, v1, v2, rfl, hT, hb1⟩; have hB2 := hide (Below.up hB.out hb1); have hT2 := hide hT; obtain ⟨A2, c2, hv2, _⟩ := hT.o2.slice; subst hv2; have hA2 := hide (hT.o2.arr i64c_len); clear hT hb1))
    go_ret2; exact ⟨_, by rw [hm.out.2]; rfl, by rw [hm.out.1]; exact (hT2.out.o0.less hB.out.size).res, hB2.out⟩
end Go.Proofs.Ytjhdfcpcpjecbaa
