/- Contracts of the prices' loops over costs: valid costs, their sum, the dearest; and of the prices made of them. -/
import Derived.Test.YtldnnlgekhjebaaPriceA
import Derived.Test.YtldnnlgekhjebaaSCost
namespace Go.Proofs.Ytldnnlgekhjebaa
open Go.ChangeShapes Go.WideShapes Go.ChangeAt Go.RowKit Go.Deep

def Cost.ok (x : Cost) : Bool := inB x.fUnits 0 100000 && inB x.fHundred 0 100000
def costsOk (l : List Cost) : Bool := l.all Cost.ok && decide (l.length ≤ 12)

theorem iValidCosts_any (A : Option Addr) (n c : Nat) (l : List Cost) (w : World) (hn : n ≤ 1048576) (hr : Arr Cost.cells 2 w w.heap.size A n l) :
    Calls Try.prog 28 #[.slice A n c] w fun e w' => e = .returned (.bool (costsOk l)) ∧ Below w.heap.size w w' := by
  have hl := hide hr.len
  go_enter Try.func28, Try.ntmps28
  go_wp2
  go_loopw [7] (fun i wr => ∃ k : Nat, k ≤ n ∧ i = .int .i64 k ∧ Below w.heap.size w wr ∧ Hid ((l.take k).all Cost.ok = true)) (fun i _ => n - (intOf i).toNat)
  case atStart => exact ⟨0, Nat.zero_le _, rfl, Below.refl _ _, hide (by simp)⟩
  case round =>
    obtain ⟨k, hk, rfl, hb, hall⟩ := hrel
    by_cases hlt : k < n
    · obtain ⟨b, o, x, rfl, hbl, hx, c0, c1⟩ := hr.Cost hlt
      have d0 : wr.cell? ⟨b, o + k * 2, none⟩ = some (.int .i64 x.fUnits) := (hb.cell (p := ⟨b, o + k * 2, none⟩) hbl).trans c0
      have d1 : wr.cell? ⟨b, o + k * 2 + 1, none⟩ = some (.int .i64 x.fHundred) := (hb.cell (p := ⟨b, o + k * 2 + 1, none⟩) hbl).trans c1
      have hX := hide hx
      have hB := hide hb
      clear c0 c1 hr hx hb
      cases h1 : inB x.fUnits 0 100000
      · go_wp2_with (go_at_call 36; refine (within_any _ _ _ _).mono ?_; rintro e w1 ⟨rfl, rfl⟩)
        go_ret
        exact ⟨retB (Eq.symm (by unfold costsOk; rw [all_not hX.out (by simp [Cost.ok, h1])]; rfl)), hB.out.alloc hB.out.size _⟩
      · cases h2 : inB x.fHundred 0 100000
        · go_wp2_with (go_at_call 36; refine (within_any _ _ _ _).mono ?_; rintro e w1 ⟨rfl, rfl⟩)
          go_ret
          exact ⟨retB (Eq.symm (by unfold costsOk; rw [all_not hX.out (by simp [Cost.ok, h2])]; rfl)), hB.out.alloc hB.out.size _⟩
        · go_wp2_with (go_at_call 36; refine (within_any _ _ _ _).mono ?_; rintro e w1 ⟨rfl, rfl⟩)
          go_roundw
          case rel => exact ⟨k + 1, by omega, by go_num, hB.out.alloc hB.out.size _, hide (by rw [take_snoc hX.out, List.all_append, hall.out]; simp [Cost.ok, h1, h2])⟩
          case measure => simp [intOf]; omega
    · have hkn : k = n := by omega
      subst hkn
      have hB := hide hb
      clear hb
      go_wp2
      go_ret
      exact ⟨retB (by have e := hall.out; rw [List.take_of_length_le (by rw [hl.out]; exact Nat.le_refl _)] at e; unfold costsOk; rw [e, hl.out, Bool.true_and, decide_eq_decide]; omega), hB.out⟩
theorem sOk_any (A : Option Addr) (n c : Nat) (l : List Cost) (w : World) (hn : n ≤ 1048576) (hr : Arr Cost.cells 2 w w.heap.size A n l) :
    Calls Try.prog 43 #[.slice A n c] w fun e w' => e = .returned (.bool (costsOk l)) ∧ Below w.heap.size w w' := by
  have hl := hide hr.len
  go_enter Try.func43, Try.ntmps43
  go_wp2
  go_loopw [3] (fun i wr => ∃ k : Nat, k ≤ n ∧ i = .int .i64 k ∧ Below w.heap.size w wr ∧ Hid ((l.take k).all Cost.ok = true)) (fun i _ => n - (intOf i).toNat)
  case atStart => exact ⟨0, Nat.zero_le _, rfl, Below.refl _ _, hide (by simp)⟩
  case round =>
    obtain ⟨k, hk, rfl, hb, hall⟩ := hrel
    by_cases hlt : k < n
    · obtain ⟨b, o, x, rfl, hbl, hx, c0, c1⟩ := hr.Cost hlt
      have d0 : wr.cell? ⟨b, o + k * 2, none⟩ = some (.int .i64 x.fUnits) := (hb.cell (p := ⟨b, o + k * 2, none⟩) hbl).trans c0
      have d1 : wr.cell? ⟨b, o + k * 2 + 1, none⟩ = some (.int .i64 x.fHundred) := (hb.cell (p := ⟨b, o + k * 2 + 1, none⟩) hbl).trans c1
      have hX := hide hx
      have hB := hide hb
      clear c0 c1 hr hx hb
      cases h1 : inB x.fUnits 0 100000
      · go_wp2_with (go_at_call 37; refine (in_any _ _ _ _).mono ?_; rintro e w1 ⟨rfl, rfl⟩)
        go_ret
        exact ⟨retB (Eq.symm (by unfold costsOk; rw [all_not hX.out (by simp [Cost.ok, h1])]; rfl)), hB.out⟩
      · cases h2 : inB x.fHundred 0 100000
        · go_wp2_with (go_at_call 37; refine (in_any _ _ _ _).mono ?_; rintro e w1 ⟨rfl, rfl⟩)
          go_ret
          exact ⟨retB (Eq.symm (by unfold costsOk; rw [all_not hX.out (by simp [Cost.ok, h2])]; rfl)), hB.out⟩
        · go_wp2_with (go_at_call 37; refine (in_any _ _ _ _).mono ?_; rintro e w1 ⟨rfl, rfl⟩)
          go_roundw
          case rel => exact ⟨k + 1, by omega, by go_num, hB.out, hide (by rw [take_snoc hX.out, List.all_append, hall.out]; simp [Cost.ok, h1, h2])⟩
          case measure => simp [intOf]; omega
    · have hkn : k = n := by omega
      subst hkn
      have hB := hide hb
      clear hb
      go_wp2
      go_ret
      exact ⟨retB (by have e := hall.out; rw [List.take_of_length_le (by rw [hl.out]; exact Nat.le_refl _)] at e; unfold costsOk; rw [e, hl.out, Bool.true_and, decide_eq_decide]; omega), hB.out⟩
theorem sValidCosts_any (A : Option Addr) (n c : Nat) (l : List Cost) (w : World) (hn : n ≤ 1048576) (hr : Arr Cost.cells 2 w w.heap.size A n l) :
    Calls Try.prog 29 #[.slice A n c] w fun e w' => e = .returned (.bool (costsOk l)) ∧ Below w.heap.size w w' := by
  go_enter Try.func29, Try.ntmps29
  go_wp2_with (go_at_call 43; refine (sOk_any A n c l w hn hr).mono ?_; rintro e w1 ⟨rfl, hb⟩; have hB := hide hb; clear hb)
  go_ret
  exact ⟨rfl, hB.out⟩

/-! ### the sum of costs -/
def costSum (l : List Cost) : Int := (l.map fun x => x.fUnits * x.fHundred).sum
theorem ok_bound {x : Cost} (h : x.ok = true) : 0 ≤ x.fUnits * x.fHundred ∧ x.fUnits * x.fHundred ≤ 10000000000 := by
  simp only [Cost.ok, Bool.and_eq_true, inB_true] at h
  exact ⟨Int.mul_nonneg h.1.1 h.2.1, Int.le_trans (Int.mul_le_mul h.1.2 h.2.2 h.2.1 (by omega)) (by omega)⟩
theorem costSum_snoc {l : List Cost} {k : Nat} {x : Cost} (h : l[k]? = some x) : costSum (l.take (k + 1)) = costSum (l.take k) + x.fUnits * x.fHundred := by
  unfold costSum; rw [take_snoc h]; simp
theorem costSum_bound {l : List Cost} (h : costsOk l = true) (k : Nat) : 0 ≤ costSum (l.take k) ∧ costSum (l.take k) ≤ 10000000000 * (l.take k).length := by
  have hall : (l.take k).all Cost.ok = true := by
    rw [List.all_eq_true]; intro x hx
    simp only [costsOk, Bool.and_eq_true, List.all_eq_true] at h
    exact h.1 x (List.mem_of_mem_take hx)
  generalize l.take k = m at hall
  unfold costSum
  induction m with
  | nil => simp
  | cons a m ih =>
    simp only [List.all_cons, Bool.and_eq_true] at hall
    have h1 := ok_bound hall.1
    have h2 := ih hall.2
    simp only [List.map_cons, List.sum_cons, List.length_cons]
    omega
theorem costSum_le {l : List Cost} (h : costsOk l = true) : 0 ≤ costSum l ∧ costSum l ≤ 120000000000 := by
  have h1 := costSum_bound h l.length
  simp only [List.take_length] at h1
  simp only [costsOk, Bool.and_eq_true, decide_eq_true_eq] at h
  omega
theorem costs_at {l : List Cost} (h : costsOk l = true) {k : Nat} {x : Cost} (hx : l[k]? = some x) : x.ok = true := by
  simp only [costsOk, Bool.and_eq_true, List.all_eq_true] at h
  exact h.1 x (List.mem_of_getElem? hx)
end Go.Proofs.Ytldnnlgekhjebaa
