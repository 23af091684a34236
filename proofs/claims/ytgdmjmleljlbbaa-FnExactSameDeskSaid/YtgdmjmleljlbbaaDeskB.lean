/- Contracts: the same kinds, the same heaps, the same desks; the laws' helpers on a desk. -/
import Derived.Test.YtgdmjmleljlbbaaSKind
import Derived.Test.YtgdmjmleljlbbaaSHeap
import Derived.Test.YtgdmjmleljlbbaaKKind
import Derived.Test.YtgdmjmleljlbbaaKHeap
namespace Go.Proofs.Ytgdmjmleljlbbaa
open Go.ChangeShapes Go.WideShapes Go.ChangeAt Go.RowKit Go.Deep
set_option maxRecDepth 100000
theorem neqKind_fields  (a0 b0 a1 b1 : Int) (w : World) : (binOp .neq 41 (.agg #[.int .i64 a0, .int .i64 a1]) (.agg #[.int .i64 b0, .int .i64 b1])).run Try.prog w = .ok (.bool (!Kind.same ⟨a0, a1⟩ ⟨b0, b1⟩)) w := by
  by_cases g0 : a0 = b0
  · subst g0
    by_cases g1 : a1 = b1
    · subst g1
      rw [Kind.same_true.2 rfl]
      rw [run_neq_struct, show 10000 = 9999 + 1 from rfl, run_equalIn_struct _ _ _ _ _ (by simp [Program.fieldsOf, Try.underlying41]) (by kernel_rfl)]
      simp [Program.fieldsOf, Try.underlying41, Op.eqFields, go_sem]
    · have e1 := (show (a1 == b1) = false by simp [g1])
      rw [Kind.same_false.2 (by intro h; injection h; contradiction)]
      clear g1
      rw [run_neq_struct, show 10000 = 9999 + 1 from rfl, run_equalIn_struct _ _ _ _ _ (by simp [Program.fieldsOf, Try.underlying41]) (by kernel_rfl)]
      simp [Program.fieldsOf, Try.underlying41, Op.eqFields, go_sem, e1]
  · have e1 := (show (a0 == b0) = false by simp [g0])
    rw [Kind.same_false.2 (by intro h; injection h; contradiction)]
    clear g0
    rw [run_neq_struct, show 10000 = 9999 + 1 from rfl, run_equalIn_struct _ _ _ _ _ (by simp [Program.fieldsOf, Try.underlying41]) (by kernel_rfl)]
    simp [Program.fieldsOf, Try.underlying41, Op.eqFields, go_sem, e1]
theorem neqKind (x y : Kind) (w : World) : (binOp .neq 41 (.agg #[.int .i64 x.fReach, .int .i64 x.fHave]) (.agg #[.int .i64 y.fReach, .int .i64 y.fHave])).run Try.prog w = .ok (.bool (!x.same y)) w := neqKind_fields _ _ _ _ w
theorem equalKind_any (A : Option Addr) (n c : Nat) (l : List Kind) (A' : Option Addr) (n' c' : Nat) (l' : List Kind) (w : World) (hn : n ≤ 1048576) (hn' : n' ≤ 1048576) (_hf : ∀ x ∈ l, x.fits) (_hf' : ∀ x ∈ l', x.fits) (hr : Arr Kind.cells 2 w w.heap.size A n l) (hr' : Arr Kind.cells 2 w w.heap.size A' n' l') :
    Calls Try.prog 15 #[.slice A n c, .slice A' n' c'] w fun e w' => e = .returned (.bool (decide (l = l'))) ∧ Below w.heap.size w w' := by
  have hl := hide hr.len
  have hl' := hide hr'.len

  by_cases hne : n = n'
  · subst hne
    have hpost : Hid (l = l' ↔ l.take n = l'.take n) := by
      have h1 := hl.out; have h2 := hl'.out
      show _ ↔ _
      rw [List.take_of_length_le (by omega), List.take_of_length_le (by omega)]
    go_enter Try.func15, Try.ntmps15
    go_wp2
    go_loopw [13] (fun i wr => ∃ k : Nat, k ≤ n ∧ i = .int .i64 k ∧ Below w.heap.size w wr ∧ Hid (l.take k = l'.take k)) (fun i _ => n - (intOf i).toNat)
    case atStart => exact ⟨0, Nat.zero_le _, rfl, Below.refl _ _, hide (by simp)⟩
    case round =>
      obtain ⟨k, hk, rfl, hb, hpre⟩ := hrel
      by_cases hlt : k < n
      · obtain ⟨b, o, x, rfl, hbl, hx, c0, c1⟩ := hr.Kind hlt
        obtain ⟨b', o', y, rfl, hbl', hy, f0, f1⟩ := hr'.Kind hlt
        have d0 : wr.cell? ⟨b, o + k * 2, none⟩ = some (.int .i64 x.fReach) := (hb.cell (p := ⟨b, o + k * 2, none⟩) hbl).trans c0
        have g0 : wr.cell? ⟨b', o' + k * 2, none⟩ = some (.int .i64 y.fReach) := (hb.cell (p := ⟨b', o' + k * 2, none⟩) hbl').trans f0
        have d1 : wr.cell? ⟨b, o + k * 2 + 1, none⟩ = some (.int .i64 x.fHave) := (hb.cell (p := ⟨b, o + k * 2 + 1, none⟩) hbl).trans c1
        have g1 : wr.cell? ⟨b', o' + k * 2 + 1, none⟩ = some (.int .i64 y.fHave) := (hb.cell (p := ⟨b', o' + k * 2 + 1, none⟩) hbl').trans f1
        have hX := hide hx
        have hY := hide hy
        have hB := hide hb
        clear c0 f0 c1 f1 hr hr' hx hy hb
        have hlt' : (k : Int) < (n : Int) := by omega
        have hk0 : (0 : Int) ≤ (k : Int) := by omega
        cases hxy : x.same y
        · have hneq : ∀ W, (binOp .neq 41 (.agg #[.int .i64 x.fReach, .int .i64 x.fHave]) (.agg #[.int .i64 y.fReach, .int .i64 y.fHave])).run Try.prog W = .ok (.bool true) W := fun W => by rw [neqKind, hxy]; rfl
          go_wp2_with fail
          go_quiet (fail)
          go_wp2
          go_ret
          refine ⟨retB (Eq.symm (decide_eq_false fun he => ?_)), below_drewN hB.out _⟩
          subst he
          rw [hX.out] at hY
          have := Option.some.inj hY.out
          subst this
          exact Kind.same_false.1 hxy rfl
        · have hneq : ∀ W, (binOp .neq 41 (.agg #[.int .i64 x.fReach, .int .i64 x.fHave]) (.agg #[.int .i64 y.fReach, .int .i64 y.fHave])).run Try.prog W = .ok (.bool false) W := fun W => by rw [neqKind, hxy]; rfl
          go_wp2_with fail
          go_quiet (fail)
          go_wp2
          go_roundw
          case rel => exact ⟨k + 1, by omega, by go_num, below_drewN hB.out _, hide (by rw [take_snoc hX.out, take_snoc hY.out, hpre.out, Kind.same_true.1 hxy])⟩
          case measure => simp [intOf]; omega
      · have hkn : k = n := by omega
        subst hkn
        have hB := hide hb
        clear hb
        go_wp2
        go_ret
        exact ⟨retB (Eq.symm (decide_eq_true (hpost.out.2 hpre.out))), hB.out⟩
  · have e1 : ((n : Int) != (n' : Int)) = true := by simp; omega
    have hd : Hid (decide (l = l') = false) := decide_eq_false fun he => hne (by rw [← hl.out, ← hl'.out, he])
    clear hne
    go_enter Try.func15, Try.ntmps15
    go_wp2
    go_ret
    exact ⟨retB hd.out.symm, Below.refl _ _⟩
theorem sSameKinds_any (A : Option Addr) (n c : Nat) (l : List Kind) (A' : Option Addr) (n' c' : Nat) (l' : List Kind) (w : World) (hn : n ≤ 1048576) (hn' : n' ≤ 1048576) (_hf : ∀ x ∈ l, x.fits) (_hf' : ∀ x ∈ l', x.fits) (hr : Arr Kind.cells 2 w w.heap.size A n l) (hr' : Arr Kind.cells 2 w w.heap.size A' n' l') :
    Calls Try.prog 11 #[.slice A n c, .slice A' n' c'] w fun e w' => e = .returned (.bool (decide (l = l'))) ∧ Below w.heap.size w w' := by
  have hl := hide hr.len
  have hl' := hide hr'.len

  by_cases hne : n = n'
  · subst hne
    have hpost : Hid (l = l' ↔ l.take n = l'.take n) := by
      have h1 := hl.out; have h2 := hl'.out
      show _ ↔ _
      rw [List.take_of_length_le (by omega), List.take_of_length_le (by omega)]
    go_enter Try.func11, Try.ntmps11
    go_wp2
    go_loopw [5] (fun i wr => ∃ k : Nat, k ≤ n ∧ i = .int .i64 k ∧ Below w.heap.size w wr ∧ Hid (l.take k = l'.take k)) (fun i _ => n - (intOf i).toNat)
    case atStart => exact ⟨0, Nat.zero_le _, rfl, Below.refl _ _, hide (by simp)⟩
    case round =>
      obtain ⟨k, hk, rfl, hb, hpre⟩ := hrel
      by_cases hlt : k < n
      · obtain ⟨b, o, x, rfl, hbl, hx, c0, c1⟩ := hr.Kind hlt
        obtain ⟨b', o', y, rfl, hbl', hy, f0, f1⟩ := hr'.Kind hlt
        have d0 : wr.cell? ⟨b, o + k * 2, none⟩ = some (.int .i64 x.fReach) := (hb.cell (p := ⟨b, o + k * 2, none⟩) hbl).trans c0
        have g0 : wr.cell? ⟨b', o' + k * 2, none⟩ = some (.int .i64 y.fReach) := (hb.cell (p := ⟨b', o' + k * 2, none⟩) hbl').trans f0
        have d1 : wr.cell? ⟨b, o + k * 2 + 1, none⟩ = some (.int .i64 x.fHave) := (hb.cell (p := ⟨b, o + k * 2 + 1, none⟩) hbl).trans c1
        have g1 : wr.cell? ⟨b', o' + k * 2 + 1, none⟩ = some (.int .i64 y.fHave) := (hb.cell (p := ⟨b', o' + k * 2 + 1, none⟩) hbl').trans f1
        have hX := hide hx
        have hY := hide hy
        have hB := hide hb
        clear c0 f0 c1 f1 hr hr' hx hy hb
        have hlt' : (k : Int) < (n : Int) := by omega
        have hk0 : (0 : Int) ≤ (k : Int) := by omega
        cases hxy : x.same y
        · have hneq : ∀ W, (binOp .neq 41 (.agg #[.int .i64 x.fReach, .int .i64 x.fHave]) (.agg #[.int .i64 y.fReach, .int .i64 y.fHave])).run Try.prog W = .ok (.bool true) W := fun W => by rw [neqKind, hxy]; rfl
          go_wp2_with fail
          go_quiet (fail)
          go_wp2
          go_ret
          refine ⟨retB (Eq.symm (decide_eq_false fun he => ?_)), below_drewN hB.out _⟩
          subst he
          rw [hX.out] at hY
          have := Option.some.inj hY.out
          subst this
          exact Kind.same_false.1 hxy rfl
        · have hneq : ∀ W, (binOp .neq 41 (.agg #[.int .i64 x.fReach, .int .i64 x.fHave]) (.agg #[.int .i64 y.fReach, .int .i64 y.fHave])).run Try.prog W = .ok (.bool false) W := fun W => by rw [neqKind, hxy]; rfl
          go_wp2_with fail
          go_quiet (fail)
          go_wp2
          go_roundw
          case rel => exact ⟨k + 1, by omega, by go_num, below_drewN hB.out _, hide (by rw [take_snoc hX.out, take_snoc hY.out, hpre.out, Kind.same_true.1 hxy])⟩
          case measure => simp [intOf]; omega
      · have hkn : k = n := by omega
        subst hkn
        have hB := hide hb
        clear hb
        go_wp2
        go_ret
        exact ⟨retB (Eq.symm (decide_eq_true (hpost.out.2 hpre.out))), hB.out⟩
  · have e1 : ((n : Int) != (n' : Int)) = true := by simp; omega
    have hd : Hid (decide (l = l') = false) := decide_eq_false fun he => hne (by rw [← hl.out, ← hl'.out, he])
    clear hne
    go_enter Try.func11, Try.ntmps11
    go_wp2
    go_ret
    exact ⟨retB hd.out.symm, Below.refl _ _⟩
theorem neqHeap_fields (a0 b0 : ByteArray) (a1 b1 a2 b2 : Int) (w : World) : (binOp .neq 43 (.agg #[.string a0, .int .i64 a1, .int .i64 a2]) (.agg #[.string b0, .int .i64 b1, .int .i64 b2])).run Try.prog w = .ok (.bool (!Heap.same ⟨a0, a1, a2⟩ ⟨b0, b1, b2⟩)) w := by
  by_cases g0 : a0 = b0
  · subst g0
    by_cases g1 : a1 = b1
    · subst g1
      by_cases g2 : a2 = b2
      · subst g2
        rw [Heap.same_true.2 rfl]
        rw [run_neq_struct, show 10000 = 9999 + 1 from rfl, run_equalIn_struct _ _ _ _ _ (by simp [Program.fieldsOf, Try.underlying43]) (by kernel_rfl)]
        simp [Program.fieldsOf, Try.underlying43, Op.eqFields, go_sem]
      · have e1 := (show (a2 == b2) = false by simp [g2])
        rw [Heap.same_false.2 (by intro h; injection h; contradiction)]
        clear g2
        rw [run_neq_struct, show 10000 = 9999 + 1 from rfl, run_equalIn_struct _ _ _ _ _ (by simp [Program.fieldsOf, Try.underlying43]) (by kernel_rfl)]
        simp [Program.fieldsOf, Try.underlying43, Op.eqFields, go_sem, e1]
    · have e1 := (show (a1 == b1) = false by simp [g1])
      rw [Heap.same_false.2 (by intro h; injection h; contradiction)]
      clear g1
      rw [run_neq_struct, show 10000 = 9999 + 1 from rfl, run_equalIn_struct _ _ _ _ _ (by simp [Program.fieldsOf, Try.underlying43]) (by kernel_rfl)]
      simp [Program.fieldsOf, Try.underlying43, Op.eqFields, go_sem, e1]
  · have e1 := str_ne g0
    rw [Heap.same_false.2 (by intro h; injection h; contradiction)]
    clear g0
    rw [run_neq_struct, show 10000 = 9999 + 1 from rfl, run_equalIn_struct _ _ _ _ _ (by simp [Program.fieldsOf, Try.underlying43]) (by kernel_rfl)]
    simp [Program.fieldsOf, Try.underlying43, Op.eqFields, go_sem, e1]
theorem neqHeap (x y : Heap) (w : World) : (binOp .neq 43 (.agg #[.string x.fSort, .int .i64 x.fYear, .int .i64 x.fBundles]) (.agg #[.string y.fSort, .int .i64 y.fYear, .int .i64 y.fBundles])).run Try.prog w = .ok (.bool (!x.same y)) w := neqHeap_fields _ _ _ _ _ _ w
theorem equalHeap_any (A : Option Addr) (n c : Nat) (l : List Heap) (A' : Option Addr) (n' c' : Nat) (l' : List Heap) (w : World) (hn : n ≤ 1048576) (hn' : n' ≤ 1048576) (_hf : ∀ x ∈ l, x.fits) (_hf' : ∀ x ∈ l', x.fits) (hr : Arr Heap.cells 3 w w.heap.size A n l) (hr' : Arr Heap.cells 3 w w.heap.size A' n' l') :
    Calls Try.prog 16 #[.slice A n c, .slice A' n' c'] w fun e w' => e = .returned (.bool (decide (l = l'))) ∧ Below w.heap.size w w' := by
  have hl := hide hr.len
  have hl' := hide hr'.len

  by_cases hne : n = n'
  · subst hne
    have hpost : Hid (l = l' ↔ l.take n = l'.take n) := by
      have h1 := hl.out; have h2 := hl'.out
      show _ ↔ _
      rw [List.take_of_length_le (by omega), List.take_of_length_le (by omega)]
    go_enter Try.func16, Try.ntmps16
    go_wp2
    go_loopw [13] (fun i wr => ∃ k : Nat, k ≤ n ∧ i = .int .i64 k ∧ Below w.heap.size w wr ∧ Hid (l.take k = l'.take k)) (fun i _ => n - (intOf i).toNat)
    case atStart => exact ⟨0, Nat.zero_le _, rfl, Below.refl _ _, hide (by simp)⟩
    case round =>
      obtain ⟨k, hk, rfl, hb, hpre⟩ := hrel
      by_cases hlt : k < n
      · obtain ⟨b, o, x, rfl, hbl, hx, c0, c1, c2⟩ := hr.Heap hlt
        obtain ⟨b', o', y, rfl, hbl', hy, f0, f1, f2⟩ := hr'.Heap hlt
        have d0 : wr.cell? ⟨b, o + k * 3, none⟩ = some (.string x.fSort) := (hb.cell (p := ⟨b, o + k * 3, none⟩) hbl).trans c0
        have g0 : wr.cell? ⟨b', o' + k * 3, none⟩ = some (.string y.fSort) := (hb.cell (p := ⟨b', o' + k * 3, none⟩) hbl').trans f0
        have d1 : wr.cell? ⟨b, o + k * 3 + 1, none⟩ = some (.int .i64 x.fYear) := (hb.cell (p := ⟨b, o + k * 3 + 1, none⟩) hbl).trans c1
        have g1 : wr.cell? ⟨b', o' + k * 3 + 1, none⟩ = some (.int .i64 y.fYear) := (hb.cell (p := ⟨b', o' + k * 3 + 1, none⟩) hbl').trans f1
        have d2 : wr.cell? ⟨b, o + k * 3 + 2, none⟩ = some (.int .i64 x.fBundles) := (hb.cell (p := ⟨b, o + k * 3 + 2, none⟩) hbl).trans c2
        have g2 : wr.cell? ⟨b', o' + k * 3 + 2, none⟩ = some (.int .i64 y.fBundles) := (hb.cell (p := ⟨b', o' + k * 3 + 2, none⟩) hbl').trans f2
        have hX := hide hx
        have hY := hide hy
        have hB := hide hb
        clear c0 f0 c1 f1 c2 f2 hr hr' hx hy hb
        have hlt' : (k : Int) < (n : Int) := by omega
        have hk0 : (0 : Int) ≤ (k : Int) := by omega
        cases hxy : x.same y
        · have hneq : ∀ W, (binOp .neq 43 (.agg #[.string x.fSort, .int .i64 x.fYear, .int .i64 x.fBundles]) (.agg #[.string y.fSort, .int .i64 y.fYear, .int .i64 y.fBundles])).run Try.prog W = .ok (.bool true) W := fun W => by rw [neqHeap, hxy]; rfl
          go_wp2_with fail
          go_quiet (fail)
          go_wp2
          go_ret
          refine ⟨retB (Eq.symm (decide_eq_false fun he => ?_)), below_drewN hB.out _⟩
          subst he
          rw [hX.out] at hY
          have := Option.some.inj hY.out
          subst this
          exact Heap.same_false.1 hxy rfl
        · have hneq : ∀ W, (binOp .neq 43 (.agg #[.string x.fSort, .int .i64 x.fYear, .int .i64 x.fBundles]) (.agg #[.string y.fSort, .int .i64 y.fYear, .int .i64 y.fBundles])).run Try.prog W = .ok (.bool false) W := fun W => by rw [neqHeap, hxy]; rfl
          go_wp2_with fail
          go_quiet (fail)
          go_wp2
          go_roundw
          case rel => exact ⟨k + 1, by omega, by go_num, below_drewN hB.out _, hide (by rw [take_snoc hX.out, take_snoc hY.out, hpre.out, Heap.same_true.1 hxy])⟩
          case measure => simp [intOf]; omega
      · have hkn : k = n := by omega
        subst hkn
        have hB := hide hb
        clear hb
        go_wp2
        go_ret
        exact ⟨retB (Eq.symm (decide_eq_true (hpost.out.2 hpre.out))), hB.out⟩
  · have e1 : ((n : Int) != (n' : Int)) = true := by simp; omega
    have hd : Hid (decide (l = l') = false) := decide_eq_false fun he => hne (by rw [← hl.out, ← hl'.out, he])
    clear hne
    go_enter Try.func16, Try.ntmps16
    go_wp2
    go_ret
    exact ⟨retB hd.out.symm, Below.refl _ _⟩
theorem sSameHeaps_any (A : Option Addr) (n c : Nat) (l : List Heap) (A' : Option Addr) (n' c' : Nat) (l' : List Heap) (w : World) (hn : n ≤ 1048576) (hn' : n' ≤ 1048576) (_hf : ∀ x ∈ l, x.fits) (_hf' : ∀ x ∈ l', x.fits) (hr : Arr Heap.cells 3 w w.heap.size A n l) (hr' : Arr Heap.cells 3 w w.heap.size A' n' l') :
    Calls Try.prog 12 #[.slice A n c, .slice A' n' c'] w fun e w' => e = .returned (.bool (decide (l = l'))) ∧ Below w.heap.size w w' := by
  have hl := hide hr.len
  have hl' := hide hr'.len

  by_cases hne : n = n'
  · subst hne
    have hpost : Hid (l = l' ↔ l.take n = l'.take n) := by
      have h1 := hl.out; have h2 := hl'.out
      show _ ↔ _
      rw [List.take_of_length_le (by omega), List.take_of_length_le (by omega)]
    go_enter Try.func12, Try.ntmps12
    go_wp2
    go_loopw [5] (fun i wr => ∃ k : Nat, k ≤ n ∧ i = .int .i64 k ∧ Below w.heap.size w wr ∧ Hid (l.take k = l'.take k)) (fun i _ => n - (intOf i).toNat)
    case atStart => exact ⟨0, Nat.zero_le _, rfl, Below.refl _ _, hide (by simp)⟩
    case round =>
      obtain ⟨k, hk, rfl, hb, hpre⟩ := hrel
      by_cases hlt : k < n
      · obtain ⟨b, o, x, rfl, hbl, hx, c0, c1, c2⟩ := hr.Heap hlt
        obtain ⟨b', o', y, rfl, hbl', hy, f0, f1, f2⟩ := hr'.Heap hlt
        have d0 : wr.cell? ⟨b, o + k * 3, none⟩ = some (.string x.fSort) := (hb.cell (p := ⟨b, o + k * 3, none⟩) hbl).trans c0
        have g0 : wr.cell? ⟨b', o' + k * 3, none⟩ = some (.string y.fSort) := (hb.cell (p := ⟨b', o' + k * 3, none⟩) hbl').trans f0
        have d1 : wr.cell? ⟨b, o + k * 3 + 1, none⟩ = some (.int .i64 x.fYear) := (hb.cell (p := ⟨b, o + k * 3 + 1, none⟩) hbl).trans c1
        have g1 : wr.cell? ⟨b', o' + k * 3 + 1, none⟩ = some (.int .i64 y.fYear) := (hb.cell (p := ⟨b', o' + k * 3 + 1, none⟩) hbl').trans f1
        have d2 : wr.cell? ⟨b, o + k * 3 + 2, none⟩ = some (.int .i64 x.fBundles) := (hb.cell (p := ⟨b, o + k * 3 + 2, none⟩) hbl).trans c2
        have g2 : wr.cell? ⟨b', o' + k * 3 + 2, none⟩ = some (.int .i64 y.fBundles) := (hb.cell (p := ⟨b', o' + k * 3 + 2, none⟩) hbl').trans f2
        have hX := hide hx
        have hY := hide hy
        have hB := hide hb
        clear c0 f0 c1 f1 c2 f2 hr hr' hx hy hb
        have hlt' : (k : Int) < (n : Int) := by omega
        have hk0 : (0 : Int) ≤ (k : Int) := by omega
        cases hxy : x.same y
        · have hneq : ∀ W, (binOp .neq 43 (.agg #[.string x.fSort, .int .i64 x.fYear, .int .i64 x.fBundles]) (.agg #[.string y.fSort, .int .i64 y.fYear, .int .i64 y.fBundles])).run Try.prog W = .ok (.bool true) W := fun W => by rw [neqHeap, hxy]; rfl
          go_wp2_with fail
          go_quiet (fail)
          go_wp2
          go_ret
          refine ⟨retB (Eq.symm (decide_eq_false fun he => ?_)), below_drewN hB.out _⟩
          subst he
          rw [hX.out] at hY
          have := Option.some.inj hY.out
          subst this
          exact Heap.same_false.1 hxy rfl
        · have hneq : ∀ W, (binOp .neq 43 (.agg #[.string x.fSort, .int .i64 x.fYear, .int .i64 x.fBundles]) (.agg #[.string y.fSort, .int .i64 y.fYear, .int .i64 y.fBundles])).run Try.prog W = .ok (.bool false) W := fun W => by rw [neqHeap, hxy]; rfl
          go_wp2_with fail
          go_quiet (fail)
          go_wp2
          go_roundw
          case rel => exact ⟨k + 1, by omega, by go_num, below_drewN hB.out _, hide (by rw [take_snoc hX.out, take_snoc hY.out, hpre.out, Heap.same_true.1 hxy])⟩
          case measure => simp [intOf]; omega
      · have hkn : k = n := by omega
        subst hkn
        have hB := hide hb
        clear hb
        go_wp2
        go_ret
        exact ⟨retB (Eq.symm (decide_eq_true (hpost.out.2 hpre.out))), hB.out⟩
  · have e1 : ((n : Int) != (n' : Int)) = true := by simp; omega
    have hd : Hid (decide (l = l') = false) := decide_eq_false fun he => hne (by rw [← hl.out, ← hl'.out, he])
    clear hne
    go_enter Try.func12, Try.ntmps12
    go_wp2
    go_ret
    exact ⟨retB hd.out.symm, Below.refl _ _⟩
/-! ### desks -/
structure DeskV where
  fStroke : ByteArray
  fStakes : Int
  A : Option Addr
  n : Nat
  c : Nat
  kinds : List Kind
  A' : Option Addr
  n' : Nat
  c' : Nat
  heaps : List Heap
  fLog : ByteArray
structure DeskV.good (x : DeskV) (w : World) (B : Nat) : Prop where
  kinds : Arr Kind.cells 2 w B x.A x.n x.kinds
  heaps : Arr Heap.cells 3 w B x.A' x.n' x.heaps
  nk : x.n ≤ 1048576
  nh : x.n' ≤ 1048576
  fit : ∀ h ∈ x.heaps, h.fits
theorem DeskV.good.go {x : DeskV} {w w' : World} (h : x.good w w.heap.size) (hb : Below w.heap.size w w') : x.good w' w'.heap.size := ⟨h.kinds.go hb, h.heaps.go hb, h.nk, h.nh, h.fit⟩
def DeskV.same (x y : DeskV) : Bool := decide (x.fStroke = y.fStroke) && decide (x.fStakes = y.fStakes) && decide (x.kinds = y.kinds) && decide (x.heaps = y.heaps) && decide (x.fLog = y.fLog)
theorem kept5 {w w' : World} {u0 u1 u2 u3 u4 : Value} {t : TypeId} {g : Nat} (hg : w.heap[g]? = some (.cells #[u0, u1, u2, u3, u4] t (0, 0))) (hb : Below w.heap.size w w') :
    w'.cell? ⟨g, 0, none⟩ = some u0 ∧ w'.cell? ⟨g, 1, none⟩ = some u1 ∧ w'.cell? ⟨g, 2, none⟩ = some u2 ∧ w'.cell? ⟨g, 3, none⟩ = some u3 ∧ w'.cell? ⟨g, 4, none⟩ = some u4 := by
  have hlt : g < w.heap.size := (Array.getElem?_eq_some_iff.1 hg).1
  have hg' := (hb.block g hlt).trans hg
  exact ⟨by rw [cell_of_row _ _ _ _ _ _ hg']; rfl, by rw [cell_of_row _ _ _ _ _ _ hg']; rfl, by rw [cell_of_row _ _ _ _ _ _ hg']; rfl, by rw [cell_of_row _ _ _ _ _ _ hg']; rfl, by rw [cell_of_row _ _ _ _ _ _ hg']; rfl⟩
theorem iSameDesk_any (x y : DeskV) (w : World) (hx : x.good w w.heap.size) (hy : y.good w w.heap.size) (hxf : ∀ h ∈ x.kinds, h.fits) (hyf : ∀ h ∈ y.kinds, h.fits) :
    Calls Try.prog 7 #[.agg #[.string x.fStroke, .int .i64 x.fStakes, .slice x.A x.n x.c, .slice x.A' x.n' x.c', .string x.fLog], .agg #[.string y.fStroke, .int .i64 y.fStakes, .slice y.A y.n y.c, .slice y.A' y.n' y.c', .string y.fLog]] w fun e w' => e = .returned (.bool (x.same y)) ∧ Below w.heap.size w w' := by
  have hW : Hid (∀ bx bz : Obj, Below w.heap.size w ((w.alloc bx).alloc bz)) := hide (fun bx bz => ((Below.refl _ _).alloc (Nat.le_refl _) _).alloc (by simp) _)
  have hk1 : Hid (∀ (a b : Array Value), ((w.alloc (.cells a 31)).alloc (.cells b 31)).heap[w.heap.size]? = some (.cells a 31 (0, 0))) := hide (fun a b => (Below.heap_alloc _ _ _ (by simp)).trans (heap_alloc_new w _))
  have hk2 : Hid (∀ (a b : Array Value), ((w.alloc (.cells a 31)).alloc (.cells b 31)).heap[w.heap.size + 1]? = some (.cells b 31 (0, 0))) := hide (fun a b => by have := heap_alloc_new (w.alloc (.cells a 31)) (.cells b 31); simpa using this)
  have hX := hide hx
  have hY := hide hy
  have hXf := hide hxf
  have hYf := hide hyf
  clear hx hy hxf hyf
  by_cases h0 : x.fStroke = y.fStroke
  case neg =>
    have ck : Hid (x.same y = false) := hide (by simp [DeskV.same, h0])
    have e0 := str_ne h0
    have e0' : (x.fStroke.toList != y.fStroke.toList) = true := by rw [bne, e0]; rfl
    clear h0
    go_enter Try.func7, Try.ntmps7
    go_wp2
    go_ret
    exact ⟨retB ck.out.symm, hW.out _ _⟩
  have e0 := str_eq h0
  have e0' : (x.fStroke.toList != y.fStroke.toList) = false := by rw [bne, e0]; rfl
  have H0 := hide h0
  clear h0
  by_cases h1 : x.fStakes = y.fStakes
  case neg =>
    have ck : Hid (x.same y = false) := hide (by simp [DeskV.same, h1])
    have e1 : (x.fStakes == y.fStakes) = false := by simp [h1]
    have e1' : (x.fStakes != y.fStakes) = true := by simp [h1]
    have e1'' : decide (x.fStakes = y.fStakes) = false := by simp [h1]
    clear h1
    go_enter Try.func7, Try.ntmps7
    go_wp2
    go_ret
    exact ⟨retB ck.out.symm, hW.out _ _⟩
  have e1 : (x.fStakes == y.fStakes) = true := by simp [h1]
  have e1' : (x.fStakes != y.fStakes) = false := by simp [h1]
  have e1'' : decide (x.fStakes = y.fStakes) = true := by simp [h1]
  have H1 := hide h1
  clear h1
  by_cases h2 : x.kinds = y.kinds
  case neg =>
    have ck : Hid (x.same y = false) := hide (by simp [DeskV.same, h2])
    have e2 : decide (x.kinds = y.kinds) = false := by simp [h2]
    clear h2
    go_enter Try.func7, Try.ntmps7
    go_wp2_with fail
    refine (equalKind_any x.A x.n x.c x.kinds y.A y.n y.c y.kinds _ (hX.out.nk) (hY.out.nk) (hXf.out) (hYf.out) (hX.out.go (hW.out _ _)).kinds (hY.out.go (hW.out _ _)).kinds).mono ?_
    rintro e w1 ⟨rfl, hb⟩
    rw [e2]
    go_wp2
    go_ret
    exact ⟨retB ck.out.symm, Below.up (hW.out _ _) hb⟩
  have e2 : decide (x.kinds = y.kinds) = true := by simp [h2]
  have H2 := hide h2
  clear h2
  by_cases h3 : x.heaps = y.heaps
  case neg =>
    have ck : Hid (x.same y = false) := hide (by simp [DeskV.same, h3])
    have e3 : decide (x.heaps = y.heaps) = false := by simp [h3]
    clear h3
    go_enter Try.func7, Try.ntmps7
    go_wp2_with fail
    refine (equalKind_any x.A x.n x.c x.kinds y.A y.n y.c y.kinds _ (hX.out.nk) (hY.out.nk) (hXf.out) (hYf.out) (hX.out.go (hW.out _ _)).kinds (hY.out.go (hW.out _ _)).kinds).mono ?_
    rintro e w1 ⟨rfl, hb⟩
    rw [e2]
    obtain ⟨p0, p1, p2, p3, p4⟩ := kept5 (hk1.out _ _) hb
    obtain ⟨q0, q1, q2, q3, q4⟩ := kept5 (hk2.out _ _) hb
    have hB1 := hide (Below.up (hW.out _ _) hb)
    clear hb
    go_wp2_with fail
    refine (equalHeap_any x.A' x.n' x.c' x.heaps y.A' y.n' y.c' y.heaps _ (hX.out.nh) (hY.out.nh) (hX.out.fit) (hY.out.fit) (hX.out.go hB1.out).heaps (hY.out.go hB1.out).heaps).mono ?_
    rintro e w2 ⟨rfl, hb⟩
    rw [e3]
    go_wp2
    go_ret
    exact ⟨retB ck.out.symm, Below.up hB1.out hb⟩
  have e3 : decide (x.heaps = y.heaps) = true := by simp [h3]
  have H3 := hide h3
  clear h3
  by_cases h4 : x.fLog = y.fLog
  all_goals
    have ck : Hid (x.same y = decide (x.fLog = y.fLog)) := hide (by simp [DeskV.same, H0.out, H1.out, H2.out, H3.out])
    have H4 : Hid (decide (x.fLog = y.fLog) = (x.fLog.toList == y.fLog.toList)) := hide (by first | rw [str_eq h4, decide_eq_true h4] | rw [str_ne h4, decide_eq_false h4])
    first
      | (have e4 := str_eq h4; have e4' : (x.fLog.toList != y.fLog.toList) = false := by rw [bne, e4]; rfl)
      | (have e4 := str_ne h4; have e4' : (x.fLog.toList != y.fLog.toList) = true := by rw [bne, e4]; rfl)
    clear h4
    have e4h := hide e4
    go_enter Try.func7, Try.ntmps7
    go_wp2_with fail
    refine (equalKind_any x.A x.n x.c x.kinds y.A y.n y.c y.kinds _ (hX.out.nk) (hY.out.nk) (hXf.out) (hYf.out) (hX.out.go (hW.out _ _)).kinds (hY.out.go (hW.out _ _)).kinds).mono ?_
    rintro e w1 ⟨rfl, hb⟩
    rw [e2]
    obtain ⟨p0, p1, p2, p3, p4⟩ := kept5 (hk1.out _ _) hb
    obtain ⟨q0, q1, q2, q3, q4⟩ := kept5 (hk2.out _ _) hb
    have hbb1 := hide hb
    have hB1 := hide (Below.up (hW.out _ _) hb)
    clear hb
    go_wp2_with fail
    refine (equalHeap_any x.A' x.n' x.c' x.heaps y.A' y.n' y.c' y.heaps _ (hX.out.nh) (hY.out.nh) (hX.out.fit) (hY.out.fit) (hX.out.go hB1.out).heaps (hY.out.go hB1.out).heaps).mono ?_
    rintro e w2 ⟨rfl, hb⟩
    rw [e3]
    obtain ⟨p0', p1', p2', p3', p4'⟩ := kept5 (hk1.out _ _) (Below.up hbb1.out hb)
    obtain ⟨q0', q1', q2', q3', q4'⟩ := kept5 (hk2.out _ _) (Below.up hbb1.out hb)
    have hB2 := hide (Below.up hB1.out hb)
    clear hb p0 p1 p2 p3 p4 q0 q1 q2 q3 q4
    go_wp2
    go_ret
    exact ⟨retB (by rw [ck.out, H4.out, e4h.out]), hB2.out⟩
theorem sSameDesk_any (x y : DeskV) (w : World) (hx : x.good w w.heap.size) (hy : y.good w w.heap.size) (hxf : ∀ h ∈ x.kinds, h.fits) (hyf : ∀ h ∈ y.kinds, h.fits) :
    Calls Try.prog 5 #[.agg #[.string x.fStroke, .int .i64 x.fStakes, .slice x.A x.n x.c, .slice x.A' x.n' x.c', .string x.fLog], .agg #[.string y.fStroke, .int .i64 y.fStakes, .slice y.A y.n y.c, .slice y.A' y.n' y.c', .string y.fLog]] w fun e w' => e = .returned (.bool (x.same y)) ∧ Below w.heap.size w w' := by
  have hW : Hid (∀ bx bz : Obj, Below w.heap.size w ((w.alloc bx).alloc bz)) := hide (fun bx bz => ((Below.refl _ _).alloc (Nat.le_refl _) _).alloc (by simp) _)
  have hk1 : Hid (∀ (a b : Array Value), ((w.alloc (.cells a 31)).alloc (.cells b 31)).heap[w.heap.size]? = some (.cells a 31 (0, 0))) := hide (fun a b => (Below.heap_alloc _ _ _ (by simp)).trans (heap_alloc_new w _))
  have hk2 : Hid (∀ (a b : Array Value), ((w.alloc (.cells a 31)).alloc (.cells b 31)).heap[w.heap.size + 1]? = some (.cells b 31 (0, 0))) := hide (fun a b => by have := heap_alloc_new (w.alloc (.cells a 31)) (.cells b 31); simpa using this)
  have hX := hide hx
  have hY := hide hy
  have hXf := hide hxf
  have hYf := hide hyf
  clear hx hy hxf hyf
  by_cases h0 : x.fStroke = y.fStroke
  case neg =>
    have ck : Hid (x.same y = false) := hide (by simp [DeskV.same, h0])
    have e0 := str_ne h0
    have e0' : (x.fStroke.toList != y.fStroke.toList) = true := by rw [bne, e0]; rfl
    clear h0
    go_enter Try.func5, Try.ntmps5
    go_wp2
    go_ret
    exact ⟨retB ck.out.symm, hW.out _ _⟩
  have e0 := str_eq h0
  have e0' : (x.fStroke.toList != y.fStroke.toList) = false := by rw [bne, e0]; rfl
  have H0 := hide h0
  clear h0
  by_cases h1 : x.fStakes = y.fStakes
  case neg =>
    have ck : Hid (x.same y = false) := hide (by simp [DeskV.same, h1])
    have e1 : (x.fStakes == y.fStakes) = false := by simp [h1]
    have e1' : (x.fStakes != y.fStakes) = true := by simp [h1]
    have e1'' : decide (x.fStakes = y.fStakes) = false := by simp [h1]
    clear h1
    go_enter Try.func5, Try.ntmps5
    go_wp2
    go_ret
    exact ⟨retB ck.out.symm, hW.out _ _⟩
  have e1 : (x.fStakes == y.fStakes) = true := by simp [h1]
  have e1' : (x.fStakes != y.fStakes) = false := by simp [h1]
  have e1'' : decide (x.fStakes = y.fStakes) = true := by simp [h1]
  have H1 := hide h1
  clear h1
  by_cases h2 : x.kinds = y.kinds
  case neg =>
    have ck : Hid (x.same y = false) := hide (by simp [DeskV.same, h2])
    have e2 : decide (x.kinds = y.kinds) = false := by simp [h2]
    clear h2
    go_enter Try.func5, Try.ntmps5
    go_wp2_with fail
    refine (sSameKinds_any x.A x.n x.c x.kinds y.A y.n y.c y.kinds _ (hX.out.nk) (hY.out.nk) (hXf.out) (hYf.out) (hX.out.go (hW.out _ _)).kinds (hY.out.go (hW.out _ _)).kinds).mono ?_
    rintro e w1 ⟨rfl, hb⟩
    rw [e2]
    go_wp2
    go_ret
    exact ⟨retB ck.out.symm, Below.up (hW.out _ _) hb⟩
  have e2 : decide (x.kinds = y.kinds) = true := by simp [h2]
  have H2 := hide h2
  clear h2
  by_cases h3 : x.heaps = y.heaps
  case neg =>
    have ck : Hid (x.same y = false) := hide (by simp [DeskV.same, h3])
    have e3 : decide (x.heaps = y.heaps) = false := by simp [h3]
    clear h3
    go_enter Try.func5, Try.ntmps5
    go_wp2_with fail
    refine (sSameKinds_any x.A x.n x.c x.kinds y.A y.n y.c y.kinds _ (hX.out.nk) (hY.out.nk) (hXf.out) (hYf.out) (hX.out.go (hW.out _ _)).kinds (hY.out.go (hW.out _ _)).kinds).mono ?_
    rintro e w1 ⟨rfl, hb⟩
    rw [e2]
    obtain ⟨p0, p1, p2, p3, p4⟩ := kept5 (hk1.out _ _) hb
    obtain ⟨q0, q1, q2, q3, q4⟩ := kept5 (hk2.out _ _) hb
    have hB1 := hide (Below.up (hW.out _ _) hb)
    clear hb
    go_wp2_with fail
    refine (sSameHeaps_any x.A' x.n' x.c' x.heaps y.A' y.n' y.c' y.heaps _ (hX.out.nh) (hY.out.nh) (hX.out.fit) (hY.out.fit) (hX.out.go hB1.out).heaps (hY.out.go hB1.out).heaps).mono ?_
    rintro e w2 ⟨rfl, hb⟩
    rw [e3]
    go_wp2
    go_ret
    exact ⟨retB ck.out.symm, Below.up hB1.out hb⟩
  have e3 : decide (x.heaps = y.heaps) = true := by simp [h3]
  have H3 := hide h3
  clear h3
  by_cases h4 : x.fLog = y.fLog
  all_goals
    have ck : Hid (x.same y = decide (x.fLog = y.fLog)) := hide (by simp [DeskV.same, H0.out, H1.out, H2.out, H3.out])
    have H4 : Hid (decide (x.fLog = y.fLog) = (x.fLog.toList == y.fLog.toList)) := hide (by first | rw [str_eq h4, decide_eq_true h4] | rw [str_ne h4, decide_eq_false h4])
    first
      | (have e4 := str_eq h4; have e4' : (x.fLog.toList != y.fLog.toList) = false := by rw [bne, e4]; rfl)
      | (have e4 := str_ne h4; have e4' : (x.fLog.toList != y.fLog.toList) = true := by rw [bne, e4]; rfl)
    clear h4
    have e4h := hide e4
    go_enter Try.func5, Try.ntmps5
    go_wp2_with fail
    refine (sSameKinds_any x.A x.n x.c x.kinds y.A y.n y.c y.kinds _ (hX.out.nk) (hY.out.nk) (hXf.out) (hYf.out) (hX.out.go (hW.out _ _)).kinds (hY.out.go (hW.out _ _)).kinds).mono ?_
    rintro e w1 ⟨rfl, hb⟩
    rw [e2]
    obtain ⟨p0, p1, p2, p3, p4⟩ := kept5 (hk1.out _ _) hb
    obtain ⟨q0, q1, q2, q3, q4⟩ := kept5 (hk2.out _ _) hb
    have hbb1 := hide hb
    have hB1 := hide (Below.up (hW.out _ _) hb)
    clear hb
    go_wp2_with fail
    refine (sSameHeaps_any x.A' x.n' x.c' x.heaps y.A' y.n' y.c' y.heaps _ (hX.out.nh) (hY.out.nh) (hX.out.fit) (hY.out.fit) (hX.out.go hB1.out).heaps (hY.out.go hB1.out).heaps).mono ?_
    rintro e w2 ⟨rfl, hb⟩
    rw [e3]
    obtain ⟨p0', p1', p2', p3', p4'⟩ := kept5 (hk1.out _ _) (Below.up hbb1.out hb)
    obtain ⟨q0', q1', q2', q3', q4'⟩ := kept5 (hk2.out _ _) (Below.up hbb1.out hb)
    have hB2 := hide (Below.up hB1.out hb)
    clear hb p0 p1 p2 p3 p4 q0 q1 q2 q3 q4
    go_wp2
    go_ret
    exact ⟨retB (by rw [ck.out, H4.out, e4h.out]), hB2.out⟩
theorem eqDesk_any (x y : DeskV) (w : World) (hx : x.good w w.heap.size) (hy : y.good w w.heap.size) (hxf : ∀ h ∈ x.kinds, h.fits) (hyf : ∀ h ∈ y.kinds, h.fits) :
    Calls Try.prog 8 #[.agg #[.string x.fStroke, .int .i64 x.fStakes, .slice x.A x.n x.c, .slice x.A' x.n' x.c', .string x.fLog], .agg #[.string y.fStroke, .int .i64 y.fStakes, .slice y.A y.n y.c, .slice y.A' y.n' y.c', .string y.fLog]] w fun e w' => e = .returned (.bool (x.same y)) ∧ Below w.heap.size w w' := by
  have hW : Hid (∀ bx bz : Obj, Below w.heap.size w ((w.alloc bx).alloc bz)) := hide (fun bx bz => ((Below.refl _ _).alloc (Nat.le_refl _) _).alloc (by simp) _)
  have hk1 : Hid (∀ (a b : Array Value), ((w.alloc (.cells a 31)).alloc (.cells b 31)).heap[w.heap.size]? = some (.cells a 31 (0, 0))) := hide (fun a b => (Below.heap_alloc _ _ _ (by simp)).trans (heap_alloc_new w _))
  have hk2 : Hid (∀ (a b : Array Value), ((w.alloc (.cells a 31)).alloc (.cells b 31)).heap[w.heap.size + 1]? = some (.cells b 31 (0, 0))) := hide (fun a b => by have := heap_alloc_new (w.alloc (.cells a 31)) (.cells b 31); simpa using this)
  have hX := hide hx
  have hY := hide hy
  have hXf := hide hxf
  have hYf := hide hyf
  clear hx hy hxf hyf
  by_cases h0 : x.fStroke = y.fStroke
  case neg =>
    have ck : Hid (x.same y = false) := hide (by simp [DeskV.same, h0])
    have e0 := str_ne h0
    have e0' : (x.fStroke.toList != y.fStroke.toList) = true := by rw [bne, e0]; rfl
    clear h0
    go_enter Try.func8, Try.ntmps8
    go_wp2
    go_ret
    exact ⟨retB ck.out.symm, hW.out _ _⟩
  have e0 := str_eq h0
  have e0' : (x.fStroke.toList != y.fStroke.toList) = false := by rw [bne, e0]; rfl
  have H0 := hide h0
  clear h0
  by_cases h1 : x.fStakes = y.fStakes
  case neg =>
    have ck : Hid (x.same y = false) := hide (by simp [DeskV.same, h1])
    have e1 : (x.fStakes == y.fStakes) = false := by simp [h1]
    have e1' : (x.fStakes != y.fStakes) = true := by simp [h1]
    have e1'' : decide (x.fStakes = y.fStakes) = false := by simp [h1]
    clear h1
    go_enter Try.func8, Try.ntmps8
    go_wp2
    go_ret
    exact ⟨retB ck.out.symm, hW.out _ _⟩
  have e1 : (x.fStakes == y.fStakes) = true := by simp [h1]
  have e1' : (x.fStakes != y.fStakes) = false := by simp [h1]
  have e1'' : decide (x.fStakes = y.fStakes) = true := by simp [h1]
  have H1 := hide h1
  clear h1
  by_cases h2 : x.kinds = y.kinds
  case neg =>
    have ck : Hid (x.same y = false) := hide (by simp [DeskV.same, h2])
    have e2 : decide (x.kinds = y.kinds) = false := by simp [h2]
    clear h2
    go_enter Try.func8, Try.ntmps8
    go_wp2_with fail
    refine (eqKindS_any x.A y.A x.n x.c y.n y.c x.kinds y.kinds _ hX.out.nk (hX.out.go (hW.out _ _)).kinds (hY.out.go (hW.out _ _)).kinds).mono ?_
    rintro e w1 ⟨rfl, hb⟩
    rw [e2]
    go_wp2
    go_ret
    exact ⟨retB ck.out.symm, Below.up (hW.out _ _) hb⟩
  have e2 : decide (x.kinds = y.kinds) = true := by simp [h2]
  have H2 := hide h2
  clear h2
  by_cases h3 : x.heaps = y.heaps
  case neg =>
    have ck : Hid (x.same y = false) := hide (by simp [DeskV.same, h3])
    have e3 : decide (x.heaps = y.heaps) = false := by simp [h3]
    clear h3
    go_enter Try.func8, Try.ntmps8
    go_wp2_with fail
    refine (eqKindS_any x.A y.A x.n x.c y.n y.c x.kinds y.kinds _ hX.out.nk (hX.out.go (hW.out _ _)).kinds (hY.out.go (hW.out _ _)).kinds).mono ?_
    rintro e w1 ⟨rfl, hb⟩
    rw [e2]
    obtain ⟨p0, p1, p2, p3, p4⟩ := kept5 (hk1.out _ _) hb
    obtain ⟨q0, q1, q2, q3, q4⟩ := kept5 (hk2.out _ _) hb
    have hB1 := hide (Below.up (hW.out _ _) hb)
    clear hb
    go_wp2_with fail
    refine (eqHeapS_any x.A' y.A' x.n' x.c' y.n' y.c' x.heaps y.heaps _ hX.out.nh (hX.out.go hB1.out).heaps (hY.out.go hB1.out).heaps).mono ?_
    rintro e w2 ⟨rfl, hb⟩
    rw [e3]
    go_wp2
    go_ret
    exact ⟨retB ck.out.symm, Below.up hB1.out hb⟩
  have e3 : decide (x.heaps = y.heaps) = true := by simp [h3]
  have H3 := hide h3
  clear h3
  by_cases h4 : x.fLog = y.fLog
  all_goals
    have ck : Hid (x.same y = decide (x.fLog = y.fLog)) := hide (by simp [DeskV.same, H0.out, H1.out, H2.out, H3.out])
    have H4 : Hid (decide (x.fLog = y.fLog) = (x.fLog.toList == y.fLog.toList)) := hide (by first | rw [str_eq h4, decide_eq_true h4] | rw [str_ne h4, decide_eq_false h4])
    first
      | (have e4 := str_eq h4; have e4' : (x.fLog.toList != y.fLog.toList) = false := by rw [bne, e4]; rfl)
      | (have e4 := str_ne h4; have e4' : (x.fLog.toList != y.fLog.toList) = true := by rw [bne, e4]; rfl)
    clear h4
    have e4h := hide e4
    go_enter Try.func8, Try.ntmps8
    go_wp2_with fail
    refine (eqKindS_any x.A y.A x.n x.c y.n y.c x.kinds y.kinds _ hX.out.nk (hX.out.go (hW.out _ _)).kinds (hY.out.go (hW.out _ _)).kinds).mono ?_
    rintro e w1 ⟨rfl, hb⟩
    rw [e2]
    obtain ⟨p0, p1, p2, p3, p4⟩ := kept5 (hk1.out _ _) hb
    obtain ⟨q0, q1, q2, q3, q4⟩ := kept5 (hk2.out _ _) hb
    have hbb1 := hide hb
    have hB1 := hide (Below.up (hW.out _ _) hb)
    clear hb
    go_wp2_with fail
    refine (eqHeapS_any x.A' y.A' x.n' x.c' y.n' y.c' x.heaps y.heaps _ hX.out.nh (hX.out.go hB1.out).heaps (hY.out.go hB1.out).heaps).mono ?_
    rintro e w2 ⟨rfl, hb⟩
    rw [e3]
    obtain ⟨p0', p1', p2', p3', p4'⟩ := kept5 (hk1.out _ _) (Below.up hbb1.out hb)
    obtain ⟨q0', q1', q2', q3', q4'⟩ := kept5 (hk2.out _ _) (Below.up hbb1.out hb)
    have hB2 := hide (Below.up hB1.out hb)
    clear hb p0 p1 p2 p3 p4 q0 q1 q2 q3 q4
    go_wp2
    go_ret
    exact ⟨retB (by rw [ck.out, H4.out, e4h.out]), hB2.out⟩
end Go.Proofs.Ytgdmjmleljlbbaa
