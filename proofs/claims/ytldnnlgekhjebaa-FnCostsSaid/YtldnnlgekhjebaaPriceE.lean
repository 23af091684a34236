/- Contracts of the dearest cost, of fractions in lowest terms, of the profit of a price. -/
import Derived.Test.YtldnnlgekhjebaaPriceD
namespace Go.Proofs.Ytldnnlgekhjebaa
open Go.ChangeShapes Go.WideShapes Go.ChangeAt Go.RowKit Go.Deep

/-! ### the dearest cost -/
def costAt (l : List Cost) (i : Nat) : Int := match l[i]? with | some x => x.fUnits * x.fHundred | none => 0
theorem costAt_eq {l : List Cost} {i : Nat} {x : Cost} (h : l[i]? = some x) : costAt l i = x.fUnits * x.fHundred := by unfold costAt; rw [h]
def mDearest (l : List Cost) : Int × Int := if costsOk l then (if l.length = 0 then (0, 3) else ((bestTo (costAt l) l.length : Int), 0)) else (0, 1)
theorem iDearest_any (A : Option Addr) (n c : Nat) (l : List Cost) (w : World) (hn : n ≤ 1048576) (hr : Arr Cost.cells 2 w w.heap.size A n l) :
    Calls Try.prog 26 #[.slice A n c] w fun e w' => e = .returned (.tuple #[.int .i64 (mDearest l).1, .int .i64 (mDearest l).2]) ∧ Below w.heap.size w w' := by
  have hl := hide hr.len
  cases hok : costsOk l
  · have hm : Hid (mDearest l = (0, 1)) := hide (by simp [mDearest, hok])
    go_enter Try.func26, Try.ntmps26
    go_wp2_with (go_at_call 28; refine (iValidCosts_any A n c l w hn hr).mono ?_; rintro e whB ⟨rfl, hb⟩; have hB := hide (hb); clear hb)
    go_ret2; exact ⟨by rw [hm.out]; rfl, hB.out⟩
  · have hO := hide hok
    rcases Nat.eq_zero_or_pos n with h0 | h0
    · have hm : Hid (mDearest l = (0, 3)) := hide (by simp [mDearest, hok, hl.out, h0])
      subst h0
      go_enter Try.func26, Try.ntmps26
      go_wp2_with (go_at_call 28; refine (iValidCosts_any A 0 c l w hn hr).mono ?_; rintro e whB ⟨rfl, hb⟩; have hB := hide (hb); clear hb)
      go_ret2; exact ⟨by rw [hm.out]; rfl, hB.out⟩
    · have hm : Hid (mDearest l = ((bestTo (costAt l) n : Int), 0)) := hide (by simp only [mDearest, hok, hl.out, if_true]; rw [if_neg (by omega)])
      have e0 : ((n : Int) == 0) = false := by simp; omega
      go_enter Try.func26, Try.ntmps26
      go_wp2_with (go_at_call 28; refine (iValidCosts_any A n c l w hn hr).mono ?_; rintro e whB ⟨rfl, hb⟩; have hB := hide (hb); clear hb)
      go_loopw [4, 15] (fun bs i wr => ∃ (k m : Nat), k ≤ n ∧ m < n ∧ i = .int .i64 k ∧ bs = .int .i64 m ∧ Below w.heap.size w wr ∧ Hid (m = bestTo (costAt l) k)) (fun _ i _ => n - (intOf i).toNat)
      case atStart => exact ⟨0, 0, Nat.zero_le _, h0, rfl, rfl, hB.out, hide rfl⟩
      case round =>
        obtain ⟨k, m, hk, hmn, rfl, rfl, hb, hz⟩ := hrel
        by_cases hlt : k < n
        · obtain ⟨b, o, x, rfl, hbl, hx, c0, c1⟩ := hr.Cost hlt
          have d0 : wr.cell? ⟨b, o + k * 2, none⟩ = some (.int .i64 x.fUnits) := (hb.cell (p := ⟨b, o + k * 2, none⟩) hbl).trans c0
          have d1 : wr.cell? ⟨b, o + k * 2 + 1, none⟩ = some (.int .i64 x.fHundred) := (hb.cell (p := ⟨b, o + k * 2 + 1, none⟩) hbl).trans c1
          have hX := hide hx
          clear hx c0 c1
          obtain ⟨b2, o2, y, hA2, hbl2, hx2, c02, c12⟩ := hr.Cost hmn
          cases hA2
          have d02 : wr.cell? ⟨b, o + m * 2, none⟩ = some (.int .i64 y.fUnits) := (hb.cell (p := ⟨b, o + m * 2, none⟩) hbl2).trans c02
          have d12 : wr.cell? ⟨b, o + m * 2 + 1, none⟩ = some (.int .i64 y.fHundred) := (hb.cell (p := ⟨b, o + m * 2 + 1, none⟩) hbl2).trans c12
          have hX2 := hide hx2
          clear hx2 c02 c12
          have hbs : b < wr.heap.size := Nat.lt_of_lt_of_le hbl hb.size
          have q0 : ∀ O, (wr.alloc O).cell? ⟨b, o + m * 2, none⟩ = some (.int .i64 y.fUnits) := fun O => (World.cell?_alloc_lt wr O _ hbs).trans d02
          have q1 : ∀ O, (wr.alloc O).cell? ⟨b, o + m * 2 + 1, none⟩ = some (.int .i64 y.fHundred) := fun O => (World.cell?_alloc_lt wr O _ hbs).trans d12
          have hB := hide hb
          clear hr hb
          have hbx := ok_bound (costs_at hO.out hX.out)
          have hby := ok_bound (costs_at hO.out hX2.out)
          have hm0 : (0 : Int) ≤ (m : Int) := by omega
          have hm1 : (m : Int) < (n : Int) := by omega
          have hw1 : IntKind.i64.wrap (x.fUnits * x.fHundred) = x.fUnits * x.fHundred := IntWalk.i64_in _ (by omega)
          have hw2 : IntKind.i64.wrap (y.fUnits * y.fHundred) = y.fUnits * y.fHundred := IntWalk.i64_in _ (by omega)
          by_cases hgt : y.fUnits * y.fHundred < x.fUnits * x.fHundred
          · go_wp2
            go_quiet (fail)
            clear hw1 hw2
            go_wp2
            go_roundw
            case rel => exact ⟨k + 1, k, by omega, hlt, by go_num, rfl, below_drewN (hB.out.alloc hB.out.size _) _, hide (by unfold bestTo; rw [← hz.out, costAt_eq hX.out, costAt_eq hX2.out, if_pos hgt])⟩
            case measure => simp [intOf]; omega
          · go_wp2
            go_quiet (fail)
            clear hw1 hw2
            go_wp2
            go_roundw
            case rel => exact ⟨k + 1, m, by omega, hmn, by go_num, rfl, below_drewN (hB.out.alloc hB.out.size _) _, hide (by unfold bestTo; rw [← hz.out, costAt_eq hX.out, costAt_eq hX2.out, if_neg (by omega)])⟩
            case measure => simp [intOf]; omega
        · have hkn : k = n := by omega
          subst hkn
          have hB := hide hb
          clear hb
          go_wp2
          go_ret2
          exact ⟨ret2 (by rw [hm.out, ← hz.out]) (by rw [hm.out]), hB.out⟩
theorem sDearest_any (A : Option Addr) (n c : Nat) (l : List Cost) (w : World) (hn : n ≤ 1048576) (hr : Arr Cost.cells 2 w w.heap.size A n l) :
    Calls Try.prog 27 #[.slice A n c] w fun e w' => e = .returned (.tuple #[.int .i64 (mDearest l).1, .int .i64 (mDearest l).2]) ∧ Below w.heap.size w w' := by
  have hl := hide hr.len
  cases hok : costsOk l
  · have hm : Hid (mDearest l = (0, 1)) := hide (by simp [mDearest, hok])
    go_enter Try.func27, Try.ntmps27
    go_wp2_with (go_at_call 43; refine (sOk_any A n c l w hn hr).mono ?_; rintro e whB ⟨rfl, hb⟩; have hB := hide (hb); clear hb)
    go_ret2; exact ⟨by rw [hm.out]; rfl, hB.out⟩
  · have hO := hide hok
    rcases Nat.eq_zero_or_pos n with h0 | h0
    · have hm : Hid (mDearest l = (0, 3)) := hide (by simp [mDearest, hok, hl.out, h0])
      subst h0
      go_enter Try.func27, Try.ntmps27
      go_wp2_with (go_at_call 43; refine (sOk_any A 0 c l w hn hr).mono ?_; rintro e whB ⟨rfl, hb⟩; have hB := hide (hb); clear hb)
      go_ret2; exact ⟨by rw [hm.out]; rfl, hB.out⟩
    · have hm : Hid (mDearest l = ((bestTo (costAt l) n : Int), 0)) := hide (by simp only [mDearest, hok, hl.out, if_true]; rw [if_neg (by omega)])
      have e0 : ((n : Int) == 0) = false := by simp; omega
      go_enter Try.func27, Try.ntmps27
      go_wp2_with (go_at_call 43; refine (sOk_any A n c l w hn hr).mono ?_; rintro e whB ⟨rfl, hb⟩; have hB := hide (hb); clear hb)
      go_loopw [4, 5] (fun bs i wr => ∃ (k m : Nat), 1 ≤ k ∧ k ≤ n ∧ m < n ∧ i = .int .i64 k ∧ bs = .int .i64 m ∧ Below w.heap.size w wr ∧ Hid (m = bestTo (costAt l) k)) (fun _ i _ => n - (intOf i).toNat)
      case atStart => exact ⟨1, 0, Nat.le_refl _, h0, h0, rfl, rfl, hB.out, hide (bestTo_one _).symm⟩
      case round =>
        obtain ⟨k, m, hk1, hk, hmn, rfl, rfl, hb, hz⟩ := hrel
        by_cases hlt : k < n
        · obtain ⟨b, o, x, rfl, hbl, hx, c0, c1⟩ := hr.Cost hlt
          have d0 : wr.cell? ⟨b, o + k * 2, none⟩ = some (.int .i64 x.fUnits) := (hb.cell (p := ⟨b, o + k * 2, none⟩) hbl).trans c0
          have d1 : wr.cell? ⟨b, o + k * 2 + 1, none⟩ = some (.int .i64 x.fHundred) := (hb.cell (p := ⟨b, o + k * 2 + 1, none⟩) hbl).trans c1
          have hX := hide hx
          clear hx c0 c1
          obtain ⟨b2, o2, y, hA2, hbl2, hx2, c02, c12⟩ := hr.Cost hmn
          cases hA2
          have d02 : wr.cell? ⟨b, o + m * 2, none⟩ = some (.int .i64 y.fUnits) := (hb.cell (p := ⟨b, o + m * 2, none⟩) hbl2).trans c02
          have d12 : wr.cell? ⟨b, o + m * 2 + 1, none⟩ = some (.int .i64 y.fHundred) := (hb.cell (p := ⟨b, o + m * 2 + 1, none⟩) hbl2).trans c12
          have hX2 := hide hx2
          clear hx2 c02 c12
          have hB := hide hb
          clear hr hb
          have hbx := ok_bound (costs_at hO.out hX.out)
          have hby := ok_bound (costs_at hO.out hX2.out)
          have hm0 : (0 : Int) ≤ (m : Int) := by omega
          have hm1 : (m : Int) < (n : Int) := by omega
          have hk2 : (0 : Int) ≤ (k : Int) := by omega
          have hk3 : (k : Int) < (n : Int) := by omega
          have hw1 : IntKind.i64.wrap (x.fUnits * x.fHundred) = x.fUnits * x.fHundred := IntWalk.i64_in _ (by omega)
          have hw2 : IntKind.i64.wrap (y.fUnits * y.fHundred) = y.fUnits * y.fHundred := IntWalk.i64_in _ (by omega)
          by_cases hgt : y.fUnits * y.fHundred < x.fUnits * x.fHundred
          · go_wp2
            go_quiet (fail)
            clear hw1 hw2
            go_wp2
            go_roundw
            case rel => exact ⟨k + 1, k, by omega, by omega, hlt, by go_num, rfl, below_drewN hB.out _, hide (by unfold bestTo; rw [← hz.out, costAt_eq hX.out, costAt_eq hX2.out, if_pos hgt])⟩
            case measure => simp [intOf]; omega
          · go_wp2
            go_quiet (fail)
            clear hw1 hw2
            go_wp2
            go_roundw
            case rel => exact ⟨k + 1, m, by omega, by omega, hmn, by go_num, rfl, below_drewN hB.out _, hide (by unfold bestTo; rw [← hz.out, costAt_eq hX.out, costAt_eq hX2.out, if_neg (by omega)])⟩
            case measure => simp [intOf]; omega
        · have hkn : k = n := by omega
          subst hkn
          have hB := hide hb
          clear hb
          go_wp2
          go_ret2
          exact ⟨ret2 (by rw [hm.out, ← hz.out]) (by rw [hm.out]), hB.out⟩
end Go.Proofs.Ytldnnlgekhjebaa
