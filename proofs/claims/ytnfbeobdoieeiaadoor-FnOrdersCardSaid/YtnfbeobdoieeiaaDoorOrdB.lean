/- Contracts of the orders: the same orders. -/
import Derived.Test.YtnfbeobdoieeiaaDoorOrdA
namespace Go.Proofs.YtnfbeobdoieeiaaDoor
open Go.ChangeShapes Go.WideShapes Go.ChangeAt Go.RowKit Go.Deep
set_option maxRecDepth 100000
theorem neqOrder_fields (a0 b0 : ByteArray) (a1 b1 a2 b2 a3 b3 a4 b4 : Int) (w : World) : (binOp .neq 35 (.agg #[.string a0, .int .i64 a1, .int .i64 a2, .int .i64 a3, .int .i64 a4]) (.agg #[.string b0, .int .i64 b1, .int .i64 b2, .int .i64 b3, .int .i64 b4])).run Tryd.prog w = .ok (.bool (!Order.same ⟨a0, a1, a2, a3, a4⟩ ⟨b0, b1, b2, b3, b4⟩)) w := by
  by_cases g0 : a0 = b0
  · subst g0
    by_cases g1 : a1 = b1
    · subst g1
      by_cases g2 : a2 = b2
      · subst g2
        by_cases g3 : a3 = b3
        · subst g3
          by_cases g4 : a4 = b4
          · subst g4
            rw [Order.same_true.2 rfl]
            rw [run_neq_struct, show 10000 = 9999 + 1 from rfl, run_equalIn_struct _ _ _ _ _ (by simp [Program.fieldsOf, Tryd.underlying35]) (by kernel_rfl)]
            simp [Program.fieldsOf, Tryd.underlying35, Op.eqFields, go_sem]
          · have e1 := (show (a4 == b4) = false by simp [g4])
            rw [Order.same_false.2 (by intro h; injection h; contradiction)]
            clear g4
            rw [run_neq_struct, show 10000 = 9999 + 1 from rfl, run_equalIn_struct _ _ _ _ _ (by simp [Program.fieldsOf, Tryd.underlying35]) (by kernel_rfl)]
            simp [Program.fieldsOf, Tryd.underlying35, Op.eqFields, go_sem, e1]
        · have e1 := (show (a3 == b3) = false by simp [g3])
          rw [Order.same_false.2 (by intro h; injection h; contradiction)]
          clear g3
          rw [run_neq_struct, show 10000 = 9999 + 1 from rfl, run_equalIn_struct _ _ _ _ _ (by simp [Program.fieldsOf, Tryd.underlying35]) (by kernel_rfl)]
          simp [Program.fieldsOf, Tryd.underlying35, Op.eqFields, go_sem, e1]
      · have e1 := (show (a2 == b2) = false by simp [g2])
        rw [Order.same_false.2 (by intro h; injection h; contradiction)]
        clear g2
        rw [run_neq_struct, show 10000 = 9999 + 1 from rfl, run_equalIn_struct _ _ _ _ _ (by simp [Program.fieldsOf, Tryd.underlying35]) (by kernel_rfl)]
        simp [Program.fieldsOf, Tryd.underlying35, Op.eqFields, go_sem, e1]
    · have e1 := (show (a1 == b1) = false by simp [g1])
      rw [Order.same_false.2 (by intro h; injection h; contradiction)]
      clear g1
      rw [run_neq_struct, show 10000 = 9999 + 1 from rfl, run_equalIn_struct _ _ _ _ _ (by simp [Program.fieldsOf, Tryd.underlying35]) (by kernel_rfl)]
      simp [Program.fieldsOf, Tryd.underlying35, Op.eqFields, go_sem, e1]
  · have e1 := str_ne g0
    rw [Order.same_false.2 (by intro h; injection h; contradiction)]
    clear g0
    rw [run_neq_struct, show 10000 = 9999 + 1 from rfl, run_equalIn_struct _ _ _ _ _ (by simp [Program.fieldsOf, Tryd.underlying35]) (by kernel_rfl)]
    simp [Program.fieldsOf, Tryd.underlying35, Op.eqFields, go_sem, e1]
theorem neqOrder (x y : Order) (w : World) : (binOp .neq 35 (.agg #[.string x.fWho, .int .i64 x.fMany, .int .i64 x.fEach, .int .i64 x.fFrom, .int .i64 x.fDue]) (.agg #[.string y.fWho, .int .i64 y.fMany, .int .i64 y.fEach, .int .i64 y.fFrom, .int .i64 y.fDue])).run Tryd.prog w = .ok (.bool (!x.same y)) w := neqOrder_fields _ _ _ _ _ _ _ _ _ _ w
theorem equalOrder_any (A : Option Addr) (n c : Nat) (l : List Order) (A' : Option Addr) (n' c' : Nat) (l' : List Order) (w : World) (hn : n ≤ 1048576) (hn' : n' ≤ 1048576) (_hf : ∀ x ∈ l, x.fits) (_hf' : ∀ x ∈ l', x.fits) (hr : Arr Order.cells 5 w w.heap.size A n l) (hr' : Arr Order.cells 5 w w.heap.size A' n' l') :
    Calls Tryd.prog 40 #[.slice A n c, .slice A' n' c'] w fun e w' => e = .returned (.bool (decide (l = l'))) ∧ Below w.heap.size w w' := by
  have hl := hide hr.len
  have hl' := hide hr'.len
  by_cases hne : n = n'
  · subst hne
    have hpost : Hid (l = l' ↔ l.take n = l'.take n) := by
      have h1 := hl.out; have h2 := hl'.out
      show _ ↔ _
      rw [List.take_of_length_le (by omega), List.take_of_length_le (by omega)]
    go_enter Tryd.func40, Tryd.ntmps40
    go_wp2
    go_loopw [13] (fun i wr => ∃ k : Nat, k ≤ n ∧ i = .int .i64 k ∧ Below w.heap.size w wr ∧ Hid (l.take k = l'.take k)) (fun i _ => n - (intOf i).toNat)
    case atStart => exact ⟨0, Nat.zero_le _, rfl, Below.refl _ _, hide (by simp)⟩
    case round =>
      obtain ⟨k, hk, rfl, hb, hpre⟩ := hrel
      by_cases hlt : k < n
      · obtain ⟨b, o, x, rfl, hbl, hx, c0, c1, c2, c3, c4⟩ := hr.Order hlt
        obtain ⟨b', o', y, rfl, hbl', hy, f0, f1, f2, f3, f4⟩ := hr'.Order hlt
        have d0 : wr.cell? ⟨b, o + k * 5, none⟩ = some (.string x.fWho) := (hb.cell (p := ⟨b, o + k * 5, none⟩) hbl).trans c0
        have g0 : wr.cell? ⟨b', o' + k * 5, none⟩ = some (.string y.fWho) := (hb.cell (p := ⟨b', o' + k * 5, none⟩) hbl').trans f0
        have d1 : wr.cell? ⟨b, o + k * 5 + 1, none⟩ = some (.int .i64 x.fMany) := (hb.cell (p := ⟨b, o + k * 5 + 1, none⟩) hbl).trans c1
        have g1 : wr.cell? ⟨b', o' + k * 5 + 1, none⟩ = some (.int .i64 y.fMany) := (hb.cell (p := ⟨b', o' + k * 5 + 1, none⟩) hbl').trans f1
        have d2 : wr.cell? ⟨b, o + k * 5 + 2, none⟩ = some (.int .i64 x.fEach) := (hb.cell (p := ⟨b, o + k * 5 + 2, none⟩) hbl).trans c2
        have g2 : wr.cell? ⟨b', o' + k * 5 + 2, none⟩ = some (.int .i64 y.fEach) := (hb.cell (p := ⟨b', o' + k * 5 + 2, none⟩) hbl').trans f2
        have d3 : wr.cell? ⟨b, o + k * 5 + 3, none⟩ = some (.int .i64 x.fFrom) := (hb.cell (p := ⟨b, o + k * 5 + 3, none⟩) hbl).trans c3
        have g3 : wr.cell? ⟨b', o' + k * 5 + 3, none⟩ = some (.int .i64 y.fFrom) := (hb.cell (p := ⟨b', o' + k * 5 + 3, none⟩) hbl').trans f3
        have d4 : wr.cell? ⟨b, o + k * 5 + 4, none⟩ = some (.int .i64 x.fDue) := (hb.cell (p := ⟨b, o + k * 5 + 4, none⟩) hbl).trans c4
        have g4 : wr.cell? ⟨b', o' + k * 5 + 4, none⟩ = some (.int .i64 y.fDue) := (hb.cell (p := ⟨b', o' + k * 5 + 4, none⟩) hbl').trans f4
        have hX := hide hx
        have hY := hide hy
        have hB := hide hb
        clear c0 f0 c1 f1 c2 f2 c3 f3 c4 f4 hr hr' hx hy hb
        have hlt' : (k : Int) < (n : Int) := by omega
        have hk0 : (0 : Int) ≤ (k : Int) := by omega
        cases hxy : x.same y
        · have hneq : ∀ W, (binOp .neq 35 (.agg #[.string x.fWho, .int .i64 x.fMany, .int .i64 x.fEach, .int .i64 x.fFrom, .int .i64 x.fDue]) (.agg #[.string y.fWho, .int .i64 y.fMany, .int .i64 y.fEach, .int .i64 y.fFrom, .int .i64 y.fDue])).run Tryd.prog W = .ok (.bool true) W := fun W => by rw [neqOrder, hxy]; rfl
          go_wp2_with fail
          go_quiet (fail)
          go_wp2
          go_ret
          refine ⟨retB (Eq.symm (decide_eq_false fun he => ?_)), below_drewN hB.out _⟩
          subst he
          rw [hX.out] at hY
          have := Option.some.inj hY.out
          subst this
          exact Order.same_false.1 hxy rfl
        · have hneq : ∀ W, (binOp .neq 35 (.agg #[.string x.fWho, .int .i64 x.fMany, .int .i64 x.fEach, .int .i64 x.fFrom, .int .i64 x.fDue]) (.agg #[.string y.fWho, .int .i64 y.fMany, .int .i64 y.fEach, .int .i64 y.fFrom, .int .i64 y.fDue])).run Tryd.prog W = .ok (.bool false) W := fun W => by rw [neqOrder, hxy]; rfl
          go_wp2_with fail
          go_quiet (fail)
          go_wp2
          go_roundw
          case rel => exact ⟨k + 1, by omega, by go_num, below_drewN hB.out _, hide (by rw [take_snoc hX.out, take_snoc hY.out, hpre.out, Order.same_true.1 hxy])⟩
          case measure => simp [intOf]; omega
      · have hkn : k = n := by omega
        subst hkn
        have hB := hide hb
        clear hb
        go_wp2
        go_ret
        exact ⟨retB (Eq.symm (decide_eq_true (hpost.out.2 hpre.out))), hB.out⟩
  · have e1 : ((n : Int) != (n' : Int)) = true := by simp; omega
    have hd : Hid (decide (l = l') = false) := decide_eq_false fun he => hne (by rw [← hl.out, ← hl'.out, he])
    clear hne
    go_enter Tryd.func40, Tryd.ntmps40
    go_wp2
    go_ret
    exact ⟨retB hd.out.symm, Below.refl _ _⟩
theorem sSame_any (A : Option Addr) (n c : Nat) (l : List Order) (A' : Option Addr) (n' c' : Nat) (l' : List Order) (w : World) (hn : n ≤ 1048576) (hn' : n' ≤ 1048576) (_hf : ∀ x ∈ l, x.fits) (_hf' : ∀ x ∈ l', x.fits) (hr : Arr Order.cells 5 w w.heap.size A n l) (hr' : Arr Order.cells 5 w w.heap.size A' n' l') :
    Calls Tryd.prog 17 #[.slice A n c, .slice A' n' c'] w fun e w' => e = .returned (.bool (decide (l = l'))) ∧ Below w.heap.size w w' := by
  have hl := hide hr.len
  have hl' := hide hr'.len
  by_cases hne : n = n'
  · subst hne
    have hpost : Hid (l = l' ↔ l.take n = l'.take n) := by
      have h1 := hl.out; have h2 := hl'.out
      show _ ↔ _
      rw [List.take_of_length_le (by omega), List.take_of_length_le (by omega)]
    go_enter Tryd.func17, Tryd.ntmps17
    go_wp2
    go_loopw [5] (fun i wr => ∃ k : Nat, k ≤ n ∧ i = .int .i64 k ∧ Below w.heap.size w wr ∧ Hid (l.take k = l'.take k)) (fun i _ => n - (intOf i).toNat)
    case atStart => exact ⟨0, Nat.zero_le _, rfl, Below.refl _ _, hide (by simp)⟩
    case round =>
      obtain ⟨k, hk, rfl, hb, hpre⟩ := hrel
      by_cases hlt : k < n
      · obtain ⟨b, o, x, rfl, hbl, hx, c0, c1, c2, c3, c4⟩ := hr.Order hlt
        obtain ⟨b', o', y, rfl, hbl', hy, f0, f1, f2, f3, f4⟩ := hr'.Order hlt
        have d0 : wr.cell? ⟨b, o + k * 5, none⟩ = some (.string x.fWho) := (hb.cell (p := ⟨b, o + k * 5, none⟩) hbl).trans c0
        have g0 : wr.cell? ⟨b', o' + k * 5, none⟩ = some (.string y.fWho) := (hb.cell (p := ⟨b', o' + k * 5, none⟩) hbl').trans f0
        have d1 : wr.cell? ⟨b, o + k * 5 + 1, none⟩ = some (.int .i64 x.fMany) := (hb.cell (p := ⟨b, o + k * 5 + 1, none⟩) hbl).trans c1
        have g1 : wr.cell? ⟨b', o' + k * 5 + 1, none⟩ = some (.int .i64 y.fMany) := (hb.cell (p := ⟨b', o' + k * 5 + 1, none⟩) hbl').trans f1
        have d2 : wr.cell? ⟨b, o + k * 5 + 2, none⟩ = some (.int .i64 x.fEach) := (hb.cell (p := ⟨b, o + k * 5 + 2, none⟩) hbl).trans c2
        have g2 : wr.cell? ⟨b', o' + k * 5 + 2, none⟩ = some (.int .i64 y.fEach) := (hb.cell (p := ⟨b', o' + k * 5 + 2, none⟩) hbl').trans f2
        have d3 : wr.cell? ⟨b, o + k * 5 + 3, none⟩ = some (.int .i64 x.fFrom) := (hb.cell (p := ⟨b, o + k * 5 + 3, none⟩) hbl).trans c3
        have g3 : wr.cell? ⟨b', o' + k * 5 + 3, none⟩ = some (.int .i64 y.fFrom) := (hb.cell (p := ⟨b', o' + k * 5 + 3, none⟩) hbl').trans f3
        have d4 : wr.cell? ⟨b, o + k * 5 + 4, none⟩ = some (.int .i64 x.fDue) := (hb.cell (p := ⟨b, o + k * 5 + 4, none⟩) hbl).trans c4
        have g4 : wr.cell? ⟨b', o' + k * 5 + 4, none⟩ = some (.int .i64 y.fDue) := (hb.cell (p := ⟨b', o' + k * 5 + 4, none⟩) hbl').trans f4
        have hX := hide hx
        have hY := hide hy
        have hB := hide hb
        clear c0 f0 c1 f1 c2 f2 c3 f3 c4 f4 hr hr' hx hy hb
        have hlt' : (k : Int) < (n : Int) := by omega
        have hk0 : (0 : Int) ≤ (k : Int) := by omega
        cases hxy : x.same y
        · have hneq : ∀ W, (binOp .neq 35 (.agg #[.string x.fWho, .int .i64 x.fMany, .int .i64 x.fEach, .int .i64 x.fFrom, .int .i64 x.fDue]) (.agg #[.string y.fWho, .int .i64 y.fMany, .int .i64 y.fEach, .int .i64 y.fFrom, .int .i64 y.fDue])).run Tryd.prog W = .ok (.bool true) W := fun W => by rw [neqOrder, hxy]; rfl
          go_wp2_with fail
          go_quiet (fail)
          go_wp2
          go_ret
          refine ⟨retB (Eq.symm (decide_eq_false fun he => ?_)), below_drewN hB.out _⟩
          subst he
          rw [hX.out] at hY
          have := Option.some.inj hY.out
          subst this
          exact Order.same_false.1 hxy rfl
        · have hneq : ∀ W, (binOp .neq 35 (.agg #[.string x.fWho, .int .i64 x.fMany, .int .i64 x.fEach, .int .i64 x.fFrom, .int .i64 x.fDue]) (.agg #[.string y.fWho, .int .i64 y.fMany, .int .i64 y.fEach, .int .i64 y.fFrom, .int .i64 y.fDue])).run Tryd.prog W = .ok (.bool false) W := fun W => by rw [neqOrder, hxy]; rfl
          go_wp2_with fail
          go_quiet (fail)
          go_wp2
          go_roundw
          case rel => exact ⟨k + 1, by omega, by go_num, below_drewN hB.out _, hide (by rw [take_snoc hX.out, take_snoc hY.out, hpre.out, Order.same_true.1 hxy])⟩
          case measure => simp [intOf]; omega
      · have hkn : k = n := by omega
        subst hkn
        have hB := hide hb
        clear hb
        go_wp2
        go_ret
        exact ⟨retB (Eq.symm (decide_eq_true (hpost.out.2 hpre.out))), hB.out⟩
  · have e1 : ((n : Int) != (n' : Int)) = true := by simp; omega
    have hd : Hid (decide (l = l') = false) := decide_eq_false fun he => hne (by rw [← hl.out, ← hl'.out, he])
    clear hne
    go_enter Tryd.func17, Tryd.ntmps17
    go_wp2
    go_ret
    exact ⟨retB hd.out.symm, Below.refl _ _⟩
theorem iSame_any (A : Option Addr) (n c : Nat) (l : List Order) (A' : Option Addr) (n' c' : Nat) (l' : List Order) (w : World) (hn : n ≤ 1048576) (hn' : n' ≤ 1048576) (hf : ∀ x ∈ l, x.fits) (hf' : ∀ x ∈ l', x.fits) (hr : Arr Order.cells 5 w w.heap.size A n l) (hr' : Arr Order.cells 5 w w.heap.size A' n' l') :
    Calls Tryd.prog 18 #[.slice A n c, .slice A' n' c'] w fun e w' => e = .returned (.bool (decide (l = l'))) ∧ Below w.heap.size w w' := by
  go_enter Tryd.func18, Tryd.ntmps18
  go_wp2_with fail
  refine (equalOrder_any A n c l A' n' c' l' w hn hn' hf hf' hr hr').mono ?_
  rintro e w1 ⟨rfl, hb⟩
  go_wp2
  go_ret
  exact ⟨rfl, hb⟩
end Go.Proofs.YtnfbeobdoieeiaaDoor
