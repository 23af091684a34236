/- Sums of numbers, and what is drawn straight from the plan of the orders: CanDoAll, WorkOn. -/
import Derived.Test.YtnfbeobdoieeiaaDoorOrdF
namespace Go.Proofs.YtnfbeobdoieeiaaDoor
open Go.ChangeShapes Go.WideShapes Go.ChangeAt Go.RowKit Go.Deep
set_option maxRecDepth 100000
theorem lateTo_all {l : List Order} {left late : List Int} {day M : Int} (h : ∀ z ∈ left, 0 ≤ z ∧ z ≤ M) (h' : ∀ z ∈ late, 0 ≤ z ∧ z ≤ M) (k : Nat) : ∀ z ∈ lateTo l left late day k, 0 ≤ z ∧ z ≤ M := by
  induction k with
  | zero => exact h'
  | succ k ih =>
    intro z hz
    unfold lateTo at hz
    split at hz
    · rename_i x y hx hy
      split at hz
      · rcases List.mem_or_eq_of_mem_set hz with hz | hz
        · exact ih z hz
        · subst hz; exact h _ (List.mem_of_getElem? hy)
      · exact ih z hz
    · exact ih z hz
theorem planTo_late_all {l : List Order} (h : ∀ x ∈ l, 0 ≤ dayF x ∧ dayF x ≤ 2000) (d : Nat) : ∀ z ∈ (planTo l d).late, 0 ≤ z ∧ z ≤ 2000 := by
  induction d with
  | zero =>
    intro z hz
    have e := List.eq_of_mem_replicate (show z ∈ List.replicate l.length (0 : Int) from hz)
    subst e; exact ⟨by omega, by omega⟩
  | succ d ih => exact lateTo_all (decr_all (planTo_left_all h d) (fun h0 => pickTo_pos _ _ _ _ h0)) ih _
theorem mPlan_late {l : List Order} (h : ordersOk l = true) : (∀ z ∈ (mPlan l).late, 0 ≤ z ∧ z ≤ 2000) ∧ (mPlan l).late.length = l.length ∧ l.length ≤ 30 :=
  ⟨planTo_late_all (dayF_all h) _, planTo_late_len l _, orders_len h⟩
theorem mPlan_days {l : List Order} (h : ordersOk l = true) : (mPlan l).days.length ≤ 5000 := by
  have h1 := lastDue_bound (l := l) (fun x hx => ((plan_facts h).2.2 x hx).2)
  unfold mPlan
  rw [planTo_days_len]
  omega
set_option maxHeartbeats 1000000 in
theorem iSum_any (A : Option Addr) (n c : Nat) (l : List Int) (w : World) (hn : n ≤ 1048576) (hbnd : ∀ z ∈ l, 0 ≤ z ∧ z ≤ 2000) (hlen : l.length ≤ 30) (hr : Arr i64c 1 w w.heap.size A n l) :
    Calls Tryd.prog 26 #[.slice A n c] w fun e w' => e = .returned (.int .i64 (sumOf id l)) ∧ Below w.heap.size w w' := by
  have hl := hide hr.len
  go_enter Tryd.func26, Tryd.ntmps26
  go_wp2
  go_loopw [3, 8] (fun q i wr => ∃ (k : Nat) (z : Int), k ≤ n ∧ i = .int .i64 k ∧ q = .int .i64 z ∧ Below w.heap.size w wr ∧ Hid (z = sumOf id (l.take k))) (fun _ i _ => n - (intOf i).toNat)
  case atStart => exact ⟨0, 0, Nat.zero_le _, rfl, rfl, Below.refl _ _, hide rfl⟩
  case round =>
    obtain ⟨k, z, hk, rfl, rfl, hb, hz2⟩ := hrel
    by_cases hlt : k < n
    · obtain ⟨b, o, x, rfl, hbl, hx, c0⟩ := hr.int hlt
      have g0 : wr.cell? ⟨b, o + k, none⟩ = some (.int .i64 x) := (hb.cell (p := ⟨b, o + k, none⟩) hbl).trans c0
      have hX := hide hx
      have hB := hide hb
      have hzb : 0 ≤ z ∧ z ≤ 60000 := by rw [hz2.out]; exact sumOf_take_bound (M := 2000) (N := 30) hbnd hlen (by omega) k
      have hxb := hbnd x (List.mem_of_getElem? hx)
      clear hr hb hx c0
      go_wp2
      go_roundw
      case rel => exact ⟨k + 1, z + x, by omega, by go_num, rfl, hB.out, hide (by rw [sumOf_snoc hX.out, ← hz2.out]; rfl)⟩
      case measure => simp [intOf]; omega
    · have hkn : k = n := by omega
      subst hkn
      have hB := hide hb
      clear hb
      go_wp2
      go_ret
      exact ⟨by rw [hz2.out, List.take_of_length_le (by rw [hl.out]; exact Nat.le_refl _)]; rfl, hB.out⟩
set_option maxHeartbeats 1000000 in
theorem sSum_any (A : Option Addr) (n c : Nat) (l : List Int) (w : World) (hn : n ≤ 1048576) (hbnd : ∀ z ∈ l, 0 ≤ z ∧ z ≤ 2000) (hlen : l.length ≤ 30) (hr : Arr i64c 1 w w.heap.size A n l) :
    Calls Tryd.prog 29 #[.slice A n c] w fun e w' => e = .returned (.int .i64 (sumOf id l)) ∧ Below w.heap.size w w' := by
  have hl := hide hr.len
  go_enter Tryd.func29, Tryd.ntmps29
  go_wp2
  go_loopw [3, 4] (fun q i wr => ∃ (k : Nat) (z : Int), k ≤ n ∧ i = .int .i64 k ∧ q = .int .i64 z ∧ Below w.heap.size w wr ∧ Hid (z = sumOf id (l.take k))) (fun _ i _ => n - (intOf i).toNat)
  case atStart => exact ⟨0, 0, Nat.zero_le _, rfl, rfl, Below.refl _ _, hide rfl⟩
  case round =>
    obtain ⟨k, z, hk, rfl, rfl, hb, hz2⟩ := hrel
    by_cases hlt : k < n
    · obtain ⟨b, o, x, rfl, hbl, hx, c0⟩ := hr.int hlt
      have g0 : wr.cell? ⟨b, o + k, none⟩ = some (.int .i64 x) := (hb.cell (p := ⟨b, o + k, none⟩) hbl).trans c0
      have hX := hide hx
      have hB := hide hb
      have hzb : 0 ≤ z ∧ z ≤ 60000 := by rw [hz2.out]; exact sumOf_take_bound (M := 2000) (N := 30) hbnd hlen (by omega) k
      have hxb := hbnd x (List.mem_of_getElem? hx)
      clear hr hb hx c0
      go_wp2
      go_roundw
      case rel => exact ⟨k + 1, z + x, by omega, by go_num, rfl, hB.out, hide (by rw [sumOf_snoc hX.out, ← hz2.out]; rfl)⟩
      case measure => simp [intOf]; omega
    · have hkn : k = n := by omega
      subst hkn
      have hB := hide hb
      clear hb
      go_wp2
      go_ret
      exact ⟨by rw [hz2.out, List.take_of_length_le (by rw [hl.out]; exact Nat.le_refl _)]; rfl, hB.out⟩
def mCan (l : List Order) : Bool × Int := if ordersOk l then (decide (sumOf id (mPlan l).late = 0), 0) else (false, 1)
def mWork (l : List Order) : List Int := if ordersOk l then (mPlan l).days else []
def mWorkC (l : List Order) : Int := if ordersOk l then 0 else 1
theorem mWork_len (l : List Order) : (mWork l).length ≤ 1048576 := by
  unfold mWork
  split
  · rename_i h; exact Nat.le_trans (mPlan_days h) (by decide)
  · exact Nat.zero_le _
set_option maxHeartbeats 1000000 in
theorem iCan_any (A : Option Addr) (n c : Nat) (l : List Order) (w : World) (hn : n ≤ 1048576) (hf : ∀ x ∈ l, x.fits) (hr : Arr Order.cells 5 w w.heap.size A n l) :
    Calls Tryd.prog 6 #[.slice A n c] w fun e w' => e = .returned (.tuple #[.bool (mCan l).1, .int .i64 (mCan l).2]) ∧ Below w.heap.size w w' := by
  cases hok : ordersOk l
  · have hm : Hid (mCan l = (false, 1)) := hide (by simp [mCan, hok])
    go_enter Tryd.func6, Tryd.ntmps6
    go_wp2_with (go_at_call 21; refine (iOrders_any A n c l _ hn hf hr).mono ?_; rintro e w1 ⟨rfl, hb⟩; have hB := hide hb; clear hb)
    go_ret2; exact ⟨by rw [hm.out]; rfl, hB.out⟩
  · obtain ⟨z, hz⟩ : ∃ z, Hid (z = sumOf id (mPlan l).late) := ⟨_, hide rfl⟩
    have hm : Hid (mCan l = (decide (z = 0), 0)) := hide (by rw [hz.out]; simp [mCan, hok])
    have hL := hide (mPlan_late hok)
    have e1 : (z == 0) = decide (z = 0) := by by_cases t : z = 0 <;> simp [t]
    go_enter Tryd.func6, Tryd.ntmps6
    go_wp2_with (first | (go_at_call 21; refine (iOrders_any A n c l _ hn hf hr).mono ?_; rintro e w1 ⟨rfl, hb⟩; have hB := hide hb; clear hb) | (go_at_call 25; refine (iPlan_any A n c l _ hn hok (hr.go hB.out)).mono ?_; rintro e w2 ⟨v0, v1, v2, rfl, hT, hb1⟩; have hB2 := hide (Below.up hB.out hb1); have hT2 := hide hT; obtain ⟨A2, c2, hv2, _⟩ := hT.o2.slice; subst hv2; have hA2 := hide (hT.o2.arr i64c_len); clear hT hb1) | (go_at_call 26; refine (iSum_any A2 _ c2 _ _ (by have := hL.out.2.1; have := hL.out.2.2; omega) hL.out.1 (by have := hL.out.2.1; have := hL.out.2.2; omega) hA2.out).mono ?_; rintro e w3 ⟨rfl, hb3⟩; rw [← hz.out]; have hB3 := hide (Below.up hB2.out hb3); clear hb3))
    go_ret2; exact ⟨by rw [hm.out]; rfl, hB3.out⟩
set_option maxHeartbeats 1000000 in
theorem sCan_any (A : Option Addr) (n c : Nat) (l : List Order) (w : World) (hn : n ≤ 1048576) (hf : ∀ x ∈ l, x.fits) (hr : Arr Order.cells 5 w w.heap.size A n l) :
    Calls Tryd.prog 7 #[.slice A n c] w fun e w' => e = .returned (.tuple #[.bool (mCan l).1, .int .i64 (mCan l).2]) ∧ Below w.heap.size w w' := by
  cases hok : ordersOk l
  · have hm : Hid (mCan l = (false, 1)) := hide (by simp [mCan, hok])
    go_enter Tryd.func7, Tryd.ntmps7
    go_wp2_with (go_at_call 27; refine (sOrders_any A n c l _ hn hf hr).mono ?_; rintro e w1 ⟨rfl, hb⟩; have hB := hide hb; clear hb)
    go_ret2; exact ⟨by rw [hm.out]; rfl, hB.out⟩
  · obtain ⟨z, hz⟩ : ∃ z, Hid (z = sumOf id (mPlan l).late) := ⟨_, hide rfl⟩
    have hm : Hid (mCan l = (decide (z = 0), 0)) := hide (by rw [hz.out]; simp [mCan, hok])
    have hL := hide (mPlan_late hok)
    have e1 : (z == 0) = decide (z = 0) := by by_cases t : z = 0 <;> simp [t]
    go_enter Tryd.func7, Tryd.ntmps7
    go_wp2_with (first | (go_at_call 27; refine (sOrders_any A n c l _ hn hf hr).mono ?_; rintro e w1 ⟨rfl, hb⟩; have hB := hide hb; clear hb) | (go_at_call 28; refine (sPlan_any A n c l _ hn hok (hr.go hB.out)).mono ?_; rintro e w2 ⟨v0, v1, v2, rfl, hT, hb1⟩; have hB2 := hide (Below.up hB.out hb1); have hT2 := hide hT; obtain ⟨A2, c2, hv2, _⟩ := hT.o2.slice; subst hv2; have hA2 := hide (hT.o2.arr i64c_len); clear hT hb1) | (go_at_call 29; refine (sSum_any A2 _ c2 _ _ (by have := hL.out.2.1; have := hL.out.2.2; omega) hL.out.1 (by have := hL.out.2.1; have := hL.out.2.2; omega) hA2.out).mono ?_; rintro e w3 ⟨rfl, hb3⟩; rw [← hz.out]; have hB3 := hide (Below.up hB2.out hb3); clear hb3))
    go_ret2; exact ⟨by rw [hm.out]; rfl, hB3.out⟩
end Go.Proofs.YtnfbeobdoieeiaaDoor
