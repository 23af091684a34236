/- Contracts: the same kinds, the same heaps, the same desks; the laws' helpers on a desk. -/
import Derived.Test.YtceajnoppdfeaaaGreatDoorSKind
import Derived.Test.YtceajnoppdfeaaaGreatDoorSHeap
import Derived.Test.YtceajnoppdfeaaaGreatDoorKKind
import Derived.Test.YtceajnoppdfeaaaGreatDoorKHeap
namespace Go.Proofs.YtceajnoppdfeaaaGreatDoor
open Go.ChangeShapes Go.WideShapes Go.ChangeAt Go.RowKit Go.Deep
set_option maxRecDepth 100000
theorem neqKind_fields  (a0 b0 a1 b1 : Int) (w : World) : (binOp .neq 58 (.agg #[.int .i64 a0, .int .i64 a1]) (.agg #[.int .i64 b0, .int .i64 b1])).run Tryz.prog w = .ok (.bool (!Kind.same ⟨a0, a1⟩ ⟨b0, b1⟩)) w := by
  by_cases g0 : a0 = b0
  · subst g0
    by_cases g1 : a1 = b1
    · subst g1
      rw [Kind.same_true.2 rfl]
      rw [run_neq_struct, show 10000 = 9999 + 1 from rfl, run_equalIn_struct _ _ _ _ _ (by simp [Program.fieldsOf, Tryz.underlying58]) (by kernel_rfl)]
      simp [Program.fieldsOf, Tryz.underlying58, Op.eqFields, go_sem]
    · have e1 := (show (a1 == b1) = false by simp [g1])
      rw [Kind.same_false.2 (by intro h; injection h; contradiction)]
      clear g1
      rw [run_neq_struct, show 10000 = 9999 + 1 from rfl, run_equalIn_struct _ _ _ _ _ (by simp [Program.fieldsOf, Tryz.underlying58]) (by kernel_rfl)]
      simp [Program.fieldsOf, Tryz.underlying58, Op.eqFields, go_sem, e1]
  · have e1 := (show (a0 == b0) = false by simp [g0])
    rw [Kind.same_false.2 (by intro h; injection h; contradiction)]
    clear g0
    rw [run_neq_struct, show 10000 = 9999 + 1 from rfl, run_equalIn_struct _ _ _ _ _ (by simp [Program.fieldsOf, Tryz.underlying58]) (by kernel_rfl)]
    simp [Program.fieldsOf, Tryz.underlying58, Op.eqFields, go_sem, e1]
theorem neqKind (x y : Kind) (w : World) : (binOp .neq 58 (.agg #[.int .i64 x.fReach, .int .i64 x.fHave]) (.agg #[.int .i64 y.fReach, .int .i64 y.fHave])).run Tryz.prog w = .ok (.bool (!x.same y)) w := neqKind_fields _ _ _ _ w
theorem neqHeap_fields (a0 b0 : ByteArray) (a1 b1 a2 b2 : Int) (w : World) : (binOp .neq 61 (.agg #[.string a0, .int .i64 a1, .int .i64 a2]) (.agg #[.string b0, .int .i64 b1, .int .i64 b2])).run Tryz.prog w = .ok (.bool (!Heap.same ⟨a0, a1, a2⟩ ⟨b0, b1, b2⟩)) w := by
  by_cases g0 : a0 = b0
  · subst g0
    by_cases g1 : a1 = b1
    · subst g1
      by_cases g2 : a2 = b2
      · subst g2
        rw [Heap.same_true.2 rfl]
        rw [run_neq_struct, show 10000 = 9999 + 1 from rfl, run_equalIn_struct _ _ _ _ _ (by simp [Program.fieldsOf, Tryz.underlying61]) (by kernel_rfl)]
        simp [Program.fieldsOf, Tryz.underlying61, Op.eqFields, go_sem]
      · have e1 := (show (a2 == b2) = false by simp [g2])
        rw [Heap.same_false.2 (by intro h; injection h; contradiction)]
        clear g2
        rw [run_neq_struct, show 10000 = 9999 + 1 from rfl, run_equalIn_struct _ _ _ _ _ (by simp [Program.fieldsOf, Tryz.underlying61]) (by kernel_rfl)]
        simp [Program.fieldsOf, Tryz.underlying61, Op.eqFields, go_sem, e1]
    · have e1 := (show (a1 == b1) = false by simp [g1])
      rw [Heap.same_false.2 (by intro h; injection h; contradiction)]
      clear g1
      rw [run_neq_struct, show 10000 = 9999 + 1 from rfl, run_equalIn_struct _ _ _ _ _ (by simp [Program.fieldsOf, Tryz.underlying61]) (by kernel_rfl)]
      simp [Program.fieldsOf, Tryz.underlying61, Op.eqFields, go_sem, e1]
  · have e1 := str_ne g0
    rw [Heap.same_false.2 (by intro h; injection h; contradiction)]
    clear g0
    rw [run_neq_struct, show 10000 = 9999 + 1 from rfl, run_equalIn_struct _ _ _ _ _ (by simp [Program.fieldsOf, Tryz.underlying61]) (by kernel_rfl)]
    simp [Program.fieldsOf, Tryz.underlying61, Op.eqFields, go_sem, e1]
theorem neqHeap (x y : Heap) (w : World) : (binOp .neq 61 (.agg #[.string x.fSort, .int .i64 x.fYear, .int .i64 x.fBundles]) (.agg #[.string y.fSort, .int .i64 y.fYear, .int .i64 y.fBundles])).run Tryz.prog w = .ok (.bool (!x.same y)) w := neqHeap_fields _ _ _ _ _ _ w
/-! ### desks -/
structure DeskV where
  fStroke : ByteArray
  fStakes : Int
  A : Option Addr
  n : Nat
  c : Nat
  kinds : List Kind
  A' : Option Addr
  n' : Nat
  c' : Nat
  heaps : List Heap
  fLog : ByteArray
structure DeskV.good (x : DeskV) (w : World) (B : Nat) : Prop where
  kinds : Arr Kind.cells 2 w B x.A x.n x.kinds
  heaps : Arr Heap.cells 3 w B x.A' x.n' x.heaps
  nk : x.n ≤ 1048576
  nh : x.n' ≤ 1048576
  fit : ∀ h ∈ x.heaps, h.fits
theorem DeskV.good.go {x : DeskV} {w w' : World} (h : x.good w w.heap.size) (hb : Below w.heap.size w w') : x.good w' w'.heap.size := ⟨h.kinds.go hb, h.heaps.go hb, h.nk, h.nh, h.fit⟩
def DeskV.same (x y : DeskV) : Bool := decide (x.fStroke = y.fStroke) && decide (x.fStakes = y.fStakes) && decide (x.kinds = y.kinds) && decide (x.heaps = y.heaps) && decide (x.fLog = y.fLog)
theorem kept5 {w w' : World} {u0 u1 u2 u3 u4 : Value} {t : TypeId} {g : Nat} (hg : w.heap[g]? = some (.cells #[u0, u1, u2, u3, u4] t (0, 0))) (hb : Below w.heap.size w w') :
    w'.cell? ⟨g, 0, none⟩ = some u0 ∧ w'.cell? ⟨g, 1, none⟩ = some u1 ∧ w'.cell? ⟨g, 2, none⟩ = some u2 ∧ w'.cell? ⟨g, 3, none⟩ = some u3 ∧ w'.cell? ⟨g, 4, none⟩ = some u4 := by
  have hlt : g < w.heap.size := (Array.getElem?_eq_some_iff.1 hg).1
  have hg' := (hb.block g hlt).trans hg
  exact ⟨by rw [cell_of_row _ _ _ _ _ _ hg']; rfl, by rw [cell_of_row _ _ _ _ _ _ hg']; rfl, by rw [cell_of_row _ _ _ _ _ _ hg']; rfl, by rw [cell_of_row _ _ _ _ _ _ hg']; rfl, by rw [cell_of_row _ _ _ _ _ _ hg']; rfl⟩
theorem eqDesk_any (x y : DeskV) (w : World) (hx : x.good w w.heap.size) (hy : y.good w w.heap.size) (hxf : ∀ h ∈ x.kinds, h.fits) (hyf : ∀ h ∈ y.kinds, h.fits) :
    Calls Tryz.prog 9 #[.agg #[.string x.fStroke, .int .i64 x.fStakes, .slice x.A x.n x.c, .slice x.A' x.n' x.c', .string x.fLog], .agg #[.string y.fStroke, .int .i64 y.fStakes, .slice y.A y.n y.c, .slice y.A' y.n' y.c', .string y.fLog]] w fun e w' => e = .returned (.bool (x.same y)) ∧ Below w.heap.size w w' := by
  have hW : Hid (∀ bx bz : Obj, Below w.heap.size w ((w.alloc bx).alloc bz)) := hide (fun bx bz => ((Below.refl _ _).alloc (Nat.le_refl _) _).alloc (by simp) _)
  have hk1 : Hid (∀ (a b : Array Value), ((w.alloc (.cells a 31)).alloc (.cells b 31)).heap[w.heap.size]? = some (.cells a 31 (0, 0))) := hide (fun a b => (Below.heap_alloc _ _ _ (by simp)).trans (heap_alloc_new w _))
  have hk2 : Hid (∀ (a b : Array Value), ((w.alloc (.cells a 31)).alloc (.cells b 31)).heap[w.heap.size + 1]? = some (.cells b 31 (0, 0))) := hide (fun a b => by have := heap_alloc_new (w.alloc (.cells a 31)) (.cells b 31); simpa using this)
  have hX := hide hx
  have hY := hide hy
  have hXf := hide hxf
  have hYf := hide hyf
  clear hx hy hxf hyf
  by_cases h0 : x.fStroke = y.fStroke
  case neg =>
    have ck : Hid (x.same y = false) := hide (by simp [DeskV.same, h0])
    have e0 := str_ne h0
    have e0' : (x.fStroke.toList != y.fStroke.toList) = true := by rw [bne, e0]; rfl
    clear h0
    go_enter Tryz.func9, Tryz.ntmps9
    go_wp2
    go_ret
    exact ⟨retB ck.out.symm, hW.out _ _⟩
  have e0 := str_eq h0
  have e0' : (x.fStroke.toList != y.fStroke.toList) = false := by rw [bne, e0]; rfl
  have H0 := hide h0
  clear h0
  by_cases h1 : x.fStakes = y.fStakes
  case neg =>
    have ck : Hid (x.same y = false) := hide (by simp [DeskV.same, h1])
    have e1 : (x.fStakes == y.fStakes) = false := by simp [h1]
    have e1' : (x.fStakes != y.fStakes) = true := by simp [h1]
    have e1'' : decide (x.fStakes = y.fStakes) = false := by simp [h1]
    clear h1
    go_enter Tryz.func9, Tryz.ntmps9
    go_wp2
    go_ret
    exact ⟨retB ck.out.symm, hW.out _ _⟩
  have e1 : (x.fStakes == y.fStakes) = true := by simp [h1]
  have e1' : (x.fStakes != y.fStakes) = false := by simp [h1]
  have e1'' : decide (x.fStakes = y.fStakes) = true := by simp [h1]
  have H1 := hide h1
  clear h1
  by_cases h2 : x.kinds = y.kinds
  case neg =>
    have ck : Hid (x.same y = false) := hide (by simp [DeskV.same, h2])
    have e2 : decide (x.kinds = y.kinds) = false := by simp [h2]
    clear h2
    go_enter Tryz.func9, Tryz.ntmps9
    go_wp2_with fail
    refine (eqKindS_any x.A y.A x.n x.c y.n y.c x.kinds y.kinds _ hX.out.nk (hX.out.go (hW.out _ _)).kinds (hY.out.go (hW.out _ _)).kinds).mono ?_
    rintro e w1 ⟨rfl, hb⟩
    rw [e2]
    go_wp2
    go_ret
    exact ⟨retB ck.out.symm, Below.up (hW.out _ _) hb⟩
  have e2 : decide (x.kinds = y.kinds) = true := by simp [h2]
  have H2 := hide h2
  clear h2
  by_cases h3 : x.heaps = y.heaps
  case neg =>
    have ck : Hid (x.same y = false) := hide (by simp [DeskV.same, h3])
    have e3 : decide (x.heaps = y.heaps) = false := by simp [h3]
    clear h3
    go_enter Tryz.func9, Tryz.ntmps9
    go_wp2_with fail
    refine (eqKindS_any x.A y.A x.n x.c y.n y.c x.kinds y.kinds _ hX.out.nk (hX.out.go (hW.out _ _)).kinds (hY.out.go (hW.out _ _)).kinds).mono ?_
    rintro e w1 ⟨rfl, hb⟩
    rw [e2]
    obtain ⟨p0, p1, p2, p3, p4⟩ := kept5 (hk1.out _ _) hb
    obtain ⟨q0, q1, q2, q3, q4⟩ := kept5 (hk2.out _ _) hb
    have hB1 := hide (Below.up (hW.out _ _) hb)
    clear hb
    go_wp2_with fail
    refine (eqHeapS_any x.A' y.A' x.n' x.c' y.n' y.c' x.heaps y.heaps _ hX.out.nh (hX.out.go hB1.out).heaps (hY.out.go hB1.out).heaps).mono ?_
    rintro e w2 ⟨rfl, hb⟩
    rw [e3]
    go_wp2
    go_ret
    exact ⟨retB ck.out.symm, Below.up hB1.out hb⟩
  have e3 : decide (x.heaps = y.heaps) = true := by simp [h3]
  have H3 := hide h3
  clear h3
  by_cases h4 : x.fLog = y.fLog
  all_goals
    have ck : Hid (x.same y = decide (x.fLog = y.fLog)) := hide (by simp [DeskV.same, H0.out, H1.out, H2.out, H3.out])
    have H4 : Hid (decide (x.fLog = y.fLog) = (x.fLog.toList == y.fLog.toList)) := hide (by first | rw [str_eq h4, decide_eq_true h4] | rw [str_ne h4, decide_eq_false h4])
    first
      | (have e4 := str_eq h4; have e4' : (x.fLog.toList != y.fLog.toList) = false := by rw [bne, e4]; rfl)
      | (have e4 := str_ne h4; have e4' : (x.fLog.toList != y.fLog.toList) = true := by rw [bne, e4]; rfl)
    clear h4
    have e4h := hide e4
    go_enter Tryz.func9, Tryz.ntmps9
    go_wp2_with fail
    refine (eqKindS_any x.A y.A x.n x.c y.n y.c x.kinds y.kinds _ hX.out.nk (hX.out.go (hW.out _ _)).kinds (hY.out.go (hW.out _ _)).kinds).mono ?_
    rintro e w1 ⟨rfl, hb⟩
    rw [e2]
    obtain ⟨p0, p1, p2, p3, p4⟩ := kept5 (hk1.out _ _) hb
    obtain ⟨q0, q1, q2, q3, q4⟩ := kept5 (hk2.out _ _) hb
    have hbb1 := hide hb
    have hB1 := hide (Below.up (hW.out _ _) hb)
    clear hb
    go_wp2_with fail
    refine (eqHeapS_any x.A' y.A' x.n' x.c' y.n' y.c' x.heaps y.heaps _ hX.out.nh (hX.out.go hB1.out).heaps (hY.out.go hB1.out).heaps).mono ?_
    rintro e w2 ⟨rfl, hb⟩
    rw [e3]
    obtain ⟨p0', p1', p2', p3', p4'⟩ := kept5 (hk1.out _ _) (Below.up hbb1.out hb)
    obtain ⟨q0', q1', q2', q3', q4'⟩ := kept5 (hk2.out _ _) (Below.up hbb1.out hb)
    have hB2 := hide (Below.up hB1.out hb)
    clear hb p0 p1 p2 p3 p4 q0 q1 q2 q3 q4
    go_wp2
    go_ret
    exact ⟨retB (by rw [ck.out, H4.out, e4h.out]), hB2.out⟩
end Go.Proofs.YtceajnoppdfeaaaGreatDoor
