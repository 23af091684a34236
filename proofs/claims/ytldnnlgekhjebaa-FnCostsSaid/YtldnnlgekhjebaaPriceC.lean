/- Contracts of the sum of costs, the price with a profit, the dearest cost: the program's and the reference's return one value. -/
import Derived.Test.YtldnnlgekhjebaaPriceB
namespace Go.Proofs.Ytldnnlgekhjebaa
open Go.ChangeShapes Go.WideShapes Go.ChangeAt Go.RowKit Go.Deep

theorem costSum_take {l : List Cost} (h : costsOk l = true) (k : Nat) : 0 ≤ costSum (l.take k) ∧ costSum (l.take k) ≤ 120000000000 := by
  have h1 := costSum_bound h k
  simp only [costsOk, Bool.and_eq_true, decide_eq_true_eq] at h
  have : (l.take k).length ≤ l.length := by rw [List.length_take]; omega
  omega
theorem iSum_any (A : Option Addr) (n c : Nat) (l : List Cost) (w : World) (hn : n ≤ 1048576) (hok : Hid (costsOk l = true)) (hr : Arr Cost.cells 2 w w.heap.size A n l) :
    Calls Try.prog 42 #[.slice A n c] w fun e w' => e = .returned (.int .i64 (costSum l)) ∧ Below w.heap.size w w' := by
  have hl := hide hr.len
  go_enter Try.func42, Try.ntmps42
  go_wp2
  go_loopw [3, 8] (fun s i wr => ∃ (k : Nat) (z : Int), k ≤ n ∧ i = .int .i64 k ∧ s = .int .i64 z ∧ Below w.heap.size w wr ∧ Hid (z = costSum (l.take k))) (fun _ i _ => n - (intOf i).toNat)
  case atStart => exact ⟨0, 0, Nat.zero_le _, rfl, rfl, Below.refl _ _, hide (by simp [costSum])⟩
  case round =>
    obtain ⟨k, z, hk, rfl, rfl, hb, hz⟩ := hrel
    by_cases hlt : k < n
    · obtain ⟨b, o, x, rfl, hbl, hx, c0, c1⟩ := hr.Cost hlt
      have d0 : wr.cell? ⟨b, o + k * 2, none⟩ = some (.int .i64 x.fUnits) := (hb.cell (p := ⟨b, o + k * 2, none⟩) hbl).trans c0
      have d1 : wr.cell? ⟨b, o + k * 2 + 1, none⟩ = some (.int .i64 x.fHundred) := (hb.cell (p := ⟨b, o + k * 2 + 1, none⟩) hbl).trans c1
      have hX := hide hx
      clear hx c0 c1
      have hB := hide hb
      clear hr hb
      have hbd := ok_bound (costs_at hok.out hX.out)
      have hz2 : 0 ≤ z ∧ z ≤ 120000000000 := by rw [hz.out]; exact costSum_take hok.out k
      go_wp2
      go_roundw
      case rel => exact ⟨k + 1, z + x.fUnits * x.fHundred, by omega, by go_num, rfl, hB.out.alloc hB.out.size _, hide (by rw [costSum_snoc hX.out, ← hz.out])⟩
      case measure => simp [intOf]; omega
    · have hkn : k = n := by omega
      subst hkn
      have hB := hide hb
      clear hb
      go_wp2
      go_ret
      exact ⟨ret1 (by have e := hz.out; rw [List.take_of_length_le (by rw [hl.out]; exact Nat.le_refl _)] at e; exact e), hB.out⟩
theorem sSum_any (A : Option Addr) (n c : Nat) (l : List Cost) (w : World) (hn : n ≤ 1048576) (hok : Hid (costsOk l = true)) (hr : Arr Cost.cells 2 w w.heap.size A n l) :
    Calls Try.prog 44 #[.slice A n c] w fun e w' => e = .returned (.int .i64 (costSum l)) ∧ Below w.heap.size w w' := by
  have hl := hide hr.len
  go_enter Try.func44, Try.ntmps44
  go_wp2
  go_loopw [3, 4] (fun s i wr => ∃ (k : Nat) (z : Int), k ≤ n ∧ i = .int .i64 k ∧ s = .int .i64 z ∧ Below w.heap.size w wr ∧ Hid (z = costSum (l.take k))) (fun _ i _ => n - (intOf i).toNat)
  case atStart => exact ⟨0, 0, Nat.zero_le _, rfl, rfl, Below.refl _ _, hide (by simp [costSum])⟩
  case round =>
    obtain ⟨k, z, hk, rfl, rfl, hb, hz⟩ := hrel
    by_cases hlt : k < n
    · obtain ⟨b, o, x, rfl, hbl, hx, c0, c1⟩ := hr.Cost hlt
      have d0 : wr.cell? ⟨b, o + k * 2, none⟩ = some (.int .i64 x.fUnits) := (hb.cell (p := ⟨b, o + k * 2, none⟩) hbl).trans c0
      have d1 : wr.cell? ⟨b, o + k * 2 + 1, none⟩ = some (.int .i64 x.fHundred) := (hb.cell (p := ⟨b, o + k * 2 + 1, none⟩) hbl).trans c1
      have hX := hide hx
      clear hx c0 c1
      have hB := hide hb
      clear hr hb
      have hbd := ok_bound (costs_at hok.out hX.out)
      have hz2 : 0 ≤ z ∧ z ≤ 120000000000 := by rw [hz.out]; exact costSum_take hok.out k
      have hk0 : (0 : Int) ≤ (k : Int) := by omega
      have hk1 : (k : Int) < (n : Int) := by omega
      have hw1 : IntKind.i64.wrap (x.fUnits * x.fHundred) = x.fUnits * x.fHundred := IntWalk.i64_in _ (by omega)
      have hw2 : IntKind.i64.wrap (z + x.fUnits * x.fHundred) = z + x.fUnits * x.fHundred := IntWalk.i64_in _ (by omega)
      go_wp2
      go_quiet (fail)
      clear hw1 hw2
      go_wp2
      go_roundw
      case rel => exact ⟨k + 1, z + x.fUnits * x.fHundred, by omega, by go_num, rfl, below_drewN hB.out _, hide (by rw [costSum_snoc hX.out, ← hz.out])⟩
      case measure => simp [intOf]; omega
    · have hkn : k = n := by omega
      subst hkn
      have hB := hide hb
      clear hb
      go_wp2
      go_ret
      exact ⟨ret1 (by have e := hz.out; rw [List.take_of_length_le (by rw [hl.out]; exact Nat.le_refl _)] at e; exact e), hB.out⟩

/-! ### what a basket costs -/
def mCost (l : List Cost) : Int × Int := if costsOk l then ((costSum l + 99) / 100, 0) else (0, 1)
theorem iCostOf_any (A : Option Addr) (n c : Nat) (l : List Cost) (w : World) (hn : n ≤ 1048576) (hr : Arr Cost.cells 2 w w.heap.size A n l) :
    Calls Try.prog 21 #[.slice A n c] w fun e w' => e = .returned (.tuple #[.int .i64 (mCost l).1, .int .i64 (mCost l).2]) ∧ Below w.heap.size w w' := by
  cases hok : costsOk l
  · have hm : Hid (mCost l = (0, 1)) := by simp only [mCost, hok]; rfl
    go_enter Try.func21, Try.ntmps21
    go_wp2_with (go_at_call 28; refine (iValidCosts_any A n c l w hn hr).mono ?_; rintro e w1 ⟨rfl, hb⟩; have hB := hide hb; clear hb)
    go_ret2; exact ⟨by rw [hm.out]; rfl, hB.out⟩
  · have hm : Hid (mCost l = ((costSum l + 99) / 100, 0)) := by simp only [mCost, hok]; rfl
    have hbd := costSum_le hok
    have hO := hide hok
    go_enter Try.func21, Try.ntmps21
    go_wp2_with (first | (go_at_call 28; refine (iValidCosts_any A n c l w hn hr).mono ?_; rintro e w1 ⟨rfl, hb⟩; have hB := hide hb; clear hb) | (go_at_call 42; refine (iSum_any A n c l _ hn hO (hr.go hB.out)).mono ?_; rintro e w2 ⟨rfl, hb⟩; have hB2 := hide (Below.up hB.out hb); clear hb) | (go_at_call 33; refine (over_any _ _ _ (by omega) (by omega) (by omega) (by omega)).mono ?_; rintro e w3 ⟨rfl, rfl⟩))
    go_ret2; exact ⟨ret2 (by rw [hm.out]; show _ = (costSum l + 99) / 100; omega) (by rw [hm.out]), hB2.out⟩
theorem sCostOf_any (A : Option Addr) (n c : Nat) (l : List Cost) (w : World) (hn : n ≤ 1048576) (hr : Arr Cost.cells 2 w w.heap.size A n l) :
    Calls Try.prog 22 #[.slice A n c] w fun e w' => e = .returned (.tuple #[.int .i64 (mCost l).1, .int .i64 (mCost l).2]) ∧ Below w.heap.size w w' := by
  cases hok : costsOk l
  · have hm : Hid (mCost l = (0, 1)) := by simp only [mCost, hok]; rfl
    go_enter Try.func22, Try.ntmps22
    go_wp2_with (go_at_call 43; refine (sOk_any A n c l w hn hr).mono ?_; rintro e w1 ⟨rfl, hb⟩; have hB := hide hb; clear hb)
    go_ret2; exact ⟨by rw [hm.out]; rfl, hB.out⟩
  · have hm : Hid (mCost l = ((costSum l + 99) / 100, 0)) := by simp only [mCost, hok]; rfl
    have hbd := costSum_le hok
    have hO := hide hok
    go_enter Try.func22, Try.ntmps22
    go_wp2_with (first | (go_at_call 43; refine (sOk_any A n c l w hn hr).mono ?_; rintro e w1 ⟨rfl, hb⟩; have hB := hide hb; clear hb) | (go_at_call 44; refine (sSum_any A n c l _ hn hO (hr.go hB.out)).mono ?_; rintro e w2 ⟨rfl, hb⟩; have hB2 := hide (Below.up hB.out hb); clear hb))
    go_ret2; exact ⟨ret2 (by rw [hm.out]) (by rw [hm.out]), hB2.out⟩
end Go.Proofs.Ytldnnlgekhjebaa
