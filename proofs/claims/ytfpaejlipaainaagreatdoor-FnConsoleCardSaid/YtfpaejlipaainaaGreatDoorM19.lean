/- Texts that belong together, joined: contracts and plain laws. No statement is proved here. -/
import Derived.Test.YtfpaejlipaainaaGreatDoorM18
namespace Go.Proofs.YtfpaejlipaainaaGreatDoor
open Go.ChangeShapes Go.WideShapes Go.ChangeAt Go.RowKit Go.Deep
set_option maxRecDepth 100000
structure DV (w : World) (base : Nat) (x : DeskV) : Prop where
  k : Res Kind.cells 103 2 w base (.slice x.A x.n x.c) x.n x.kinds
  h : Res Heap.cells 106 3 w base (.slice x.A' x.n' x.c') x.n' x.heaps
  nk : x.n ≤ 1048576
  nh : x.n' ≤ 1048576
  fit : ∀ h ∈ x.heaps, h.fits
theorem DV.good {w : World} {base : Nat} {x : DeskV} (h : DV w base x) : x.good w w.heap.size := ⟨h.k.arr Kind.len, h.h.arr Heap.len, h.nk, h.nh, h.fit⟩
theorem DV.below {w w' : World} {base : Nat} {x : DeskV} (h : DV w base x) (hb : Below w.heap.size w w') : DV w' base x := ⟨h.k.below hb, h.h.below hb, h.nk, h.nh, h.fit⟩
theorem DV.dg {w : World} {base g : Nat} {x : DeskV} (h : DV w base x) (hK : w.heap[g]? = some (.cells #[.string x.fStroke, .int .i64 x.fStakes, .slice x.A x.n x.c, .slice x.A' x.n' x.c', .string x.fLog] 29 (0, 0))) (hb : base ≤ g) : DG w base g x := ⟨hK, h.k, h.h, h.nk, h.nh, h.fit, hb⟩
theorem DG.dv {w : World} {base g : Nat} {x : DeskV} (h : DG w base g x) : DV w base x := ⟨h.k, h.h, h.nk, h.nh, h.fit⟩
def DeskV.agg (x : DeskV) : Value := .agg #[.string x.fStroke, .int .i64 x.fStakes, .slice x.A x.n x.c, .slice x.A' x.n' x.c', .string x.fLog]
theorem Kind.one : ∀ x, ∀ u ∈ Kind.cells x, u.oneCell' = true := by intro x u hu; simp [Kind.cells] at hu; rcases hu with rfl | rfl <;> rfl
theorem info_Kind' : (Tryz.prog.info? 103).map (fun i => (i.zero, i.size, i.bytes)) = some (some (.agg #[.int .i64 0, .int .i64 0]), 2, 16) := by kernel_rfl
theorem cloneKind_any (A : Option Addr) (n c : Nat) (l : List Kind) (w : World) (hn : n ≤ 1048576) (hr : Arr Kind.cells 2 w w.heap.size A n l) :
    Calls Tryz.prog 66 #[.slice A n c] w fun e w' => ∃ v, e = .returned v ∧ Res Kind.cells 103 2 w' w.heap.size v n l ∧ Below w.heap.size w w' := by
  cases A with
  | none =>
    have hn0 : n = 0 := by
      rcases Nat.eq_zero_or_pos n with h | h
      · exact h
      · obtain ⟨b, o, hA, _⟩ := hr.2 h
        cases hA
    subst hn0
    obtain rfl : l = [] := List.eq_nil_of_length_eq_zero hr.1
    have hq : ∀ W, (binOp .eql 26 (.slice none 0 c) (.slice none 0 0)).run Tryz.prog W = .ok (.bool true) W := fun W => Lib.run_eql_slice_nil (P := Tryz.prog) W 26 103 none 0 c 0 0 Tryz.underlying26
    clear hr
    go_enter Tryz.func66, Tryz.ntmps66
    go_wp2
    go_ret
    exact ⟨_, rfl, Res.empty (Nat.zero_le _), Below.refl _ _⟩
  | some ad =>
    have hq : ∀ W, (binOp .eql 26 (.slice (some ad) n c) (.slice none 0 0)).run Tryz.prog W = .ok (.bool false) W := fun W => Lib.run_eql_slice_nil (P := Tryz.prog) W 26 103 (some ad) n c 0 0 Tryz.underlying26
    have hB := hide ((Below.refl w.heap.size w).alloc (Nat.le_refl _) (.cells #[] 103))
    have hO := hide (Own.none_made (cells := Kind.cells) (e := 103) (s := 2) w (Nat.le_refl _))
    go_enter Tryz.func66, Tryz.ntmps66
    go_wp2_with (at_builtin; refine wpl_appN rfl (.tmp 5) (.tmp 6) rfl Tryz.underlying26 info_Kind' rfl (by omega) (by omega) Kind.len Kind.one rfl hO.out rfl (hr.below hB.out) (by omega) hB.out.size ?_; intro v2 w2 ho2 hg2 _)
    go_ret
    rw [Nat.zero_add, List.nil_append] at ho2
    exact ⟨v2, rfl, ho2.res, grown_below hB.out hO.out hg2 hB.out.size⟩
structure CK (w : World) (g g1 : Nat) (x : DeskV) (B1 B2 B4 B5 B7 B9 : Bool) (v5 v8 : Value) (wx : World) : Prop where
  b : Below w.heap.size w wx
  box : wx.heap[g]? = some (.cells #[.string x.fStroke, .int .i64 x.fStakes, (if B7 then v5 else .slice x.A x.n x.c), (if B9 then v8 else .slice x.A' x.n' x.c'), .string x.fLog] 29 (0, 0))
  res : wx.heap[g1]? = some (.cells #[.string ⟨#[]⟩, .int .i64 0, .slice none 0 0, .slice none 0 0, .string ⟨#[]⟩] 29 (0, 0))
  k : B2 = true → Res Kind.cells 103 2 wx w.heap.size v5 x.n x.kinds
  h : B5 = true → Res Heap.cells 106 3 wx w.heap.size v8 x.n' x.heaps
  c2 : B2 = true → B1 = true
  c5 : B5 = true → B4 = true
  c7 : B7 = true → B2 = true ∧ B5 = true
  c9 : B9 = true → B2 = true ∧ B5 = true
section
variable {w wx w' : World} {g g1 : Nat} {x : DeskV} {B1 B2 B4 B5 B7 B9 : Bool} {v5 v8 : Value}
theorem CK.clK (h : CK w g g1 x B1 false B4 B5 B7 B9 v5 v8 wx) (h1 : B1 = true) {v : Value} (hr : Res Kind.cells 103 2 w' wx.heap.size v x.n x.kinds) (hb : Below wx.heap.size wx w') : CK w g g1 x B1 true B4 B5 B7 B9 v v8 w' := by
  have h7 : B7 = false := by cases hB : B7; rfl; (have := (h.c7 hB).1; cases this)
  refine ⟨h.b.trans (hb.mono h.b.size), ?_, keepr h.res hb, fun _ => hr.less h.b.size, fun e => (h.h e).below hb, fun _ => h1, h.c5, fun e => ⟨rfl, (h.c7 e).2⟩, fun e => ⟨rfl, (h.c9 e).2⟩⟩
  have := keepr h.box hb
  rw [h7] at this ⊢
  exact this
theorem CK.clH (h : CK w g g1 x B1 B2 B4 false B7 B9 v5 v8 wx) (h4 : B4 = true) {v : Value} (hr : Res Heap.cells 106 3 w' wx.heap.size v x.n' x.heaps) (hb : Below wx.heap.size wx w') : CK w g g1 x B1 B2 B4 true B7 B9 v5 v w' := by
  have h9 : B9 = false := by cases hB : B9; rfl; (have := (h.c9 hB).2; cases this)
  refine ⟨h.b.trans (hb.mono h.b.size), ?_, keepr h.res hb, fun e => (h.k e).below hb, fun _ => hr.less h.b.size, h.c2, fun _ => h4, fun e => ⟨(h.c7 e).1, rfl⟩, fun e => ⟨(h.c9 e).1, rfl⟩⟩
  have := keepr h.box hb
  rw [h9] at this ⊢
  exact this
theorem CK.st7 (h : CK w g g1 x B1 B2 B4 B5 false B9 v5 v8 wx) (h2 : B2 = true) (h5 : B5 = true) (hg : w.heap.size ≤ g) (hne : g1 ≠ g) : CK w g g1 x B1 B2 B4 B5 true B9 v5 v8 (wx.setCell ⟨g, 2, none⟩ v5) :=
  ⟨h.b.setCell (p := ⟨g, 2, none⟩) hg _, box_set h.box 2 v5, box_kept h.res (grown_set wx g 2 v5) hne, fun e => (h.k e).set h.box (by decide), fun e => (h.h e).set h.box (by decide), h.c2, h.c5, fun _ => ⟨h2, h5⟩, h.c9⟩
theorem CK.st9 (h : CK w g g1 x B1 B2 B4 B5 B7 false v5 v8 wx) (h2 : B2 = true) (h5 : B5 = true) (hg : w.heap.size ≤ g) (hne : g1 ≠ g) : CK w g g1 x B1 B2 B4 B5 B7 true v5 v8 (wx.setCell ⟨g, 3, none⟩ v8) :=
  ⟨h.b.setCell (p := ⟨g, 3, none⟩) hg _, box_set h.box 3 v8, box_kept h.res (grown_set wx g 3 v8) hne, fun e => (h.k e).set h.box (by decide), fun e => (h.h e).set h.box (by decide), h.c2, h.c5, h.c7, fun _ => ⟨h2, h5⟩⟩
theorem CK.free1 (h : CK w g g1 x false B2 B4 B5 B7 B9 v5 v8 wx) : B2 = false ∧ B7 = false ∧ B9 = false := by
  have h2 : B2 = false := by cases hB : B2; rfl; (have := h.c2 hB; cases this)
  refine ⟨h2, ?_, ?_⟩
  · cases hB : B7; rfl; (have := (h.c7 hB).1; rw [h2] at this; cases this)
  · cases hB : B9; rfl; (have := (h.c9 hB).1; rw [h2] at this; cases this)
theorem CK.free4 (h : CK w g g1 x B1 B2 false B5 B7 B9 v5 v8 wx) : B5 = false ∧ B7 = false ∧ B9 = false := by
  have h2 : B5 = false := by cases hB : B5; rfl; (have := h.c5 hB; cases this)
  refine ⟨h2, ?_, ?_⟩
  · cases hB : B7; rfl; (have := (h.c7 hB).2; rw [h2] at this; cases this)
  · cases hB : B9; rfl; (have := (h.c9 hB).2; rw [h2] at this; cases this)
end
set_option maxHeartbeats 4000000 in
theorem iCopy_any (x : DeskV) (w : World) (hx : x.good w w.heap.size) :
    Calls Tryz.prog 29 #[.agg #[.string x.fStroke, .int .i64 x.fStakes, .slice x.A x.n x.c, .slice x.A' x.n' x.c', .string x.fLog]] w fun e w' => ∃ x' : DeskV, e = .returned (.agg #[.string x'.fStroke, .int .i64 x'.fStakes, .slice x'.A x'.n x'.c, .slice x'.A' x'.n' x'.c', .string x'.fLog]) ∧ x'.pure = x.pure ∧ DV w' w.heap.size x' ∧ Below w.heap.size w w' := by
  have hxh := hide hx
  clear hx
  go_enter Tryz.func29, Tryz.ntmps29
  go_upto_region 1 with fail
  obtain ⟨W0, hW0⟩ : ∃ W0, W0 = ((w.alloc (Obj.cells #[Value.string x.fStroke, Value.int IntKind.i64 x.fStakes, Value.slice x.A x.n x.c, Value.slice x.A' x.n' x.c', Value.string x.fLog] 29)).alloc (Obj.cells #[Value.string ⟨#[]⟩, Value.int IntKind.i64 0, Value.slice none 0 0, Value.slice none 0 0, Value.string ⟨#[]⟩] 29)) := ⟨_, rfl⟩
  have hB0 := hide (show Below w.heap.size w W0 by rw [hW0]; go_grown)
  have k0 : W0.heap[w.heap.size]? = some (.cells #[Value.string x.fStroke, Value.int IntKind.i64 x.fStakes, Value.slice x.A x.n x.c, Value.slice x.A' x.n' x.c', Value.string x.fLog] 29 (0, 0)) := by rw [hW0]; exact alloc_old (heap_alloc_new w _)
  have k1 : W0.heap[w.heap.size + 1]? = some (.cells #[Value.string ⟨#[]⟩, Value.int IntKind.i64 0, Value.slice none 0 0, Value.slice none 0 0, Value.string ⟨#[]⟩] 29 (0, 0)) := by rw [hW0]; exact alloc_at (by simp)
  rw [← hW0]
  clear hW0
  have hk0 := hide k0
  have hk1 := hide k1
  refine wp_region_inv (by kernel_rfl) (fun lx a wx => ∃ (B0 B1 B2 B3 B4 B5 B6 B7 B8 B9 : Bool) (v3 v4 v5 v6 v7 v8 v9 v10 : Value), lx = #[B0, B1, B2, B3, B4, B5, B6, B7, B8, B9] ∧ a = { tmps := #[Value.agg #[Value.string x.fStroke, Value.int IntKind.i64 x.fStakes, Value.slice x.A x.n x.c, Value.slice x.A' x.n' x.c', Value.string x.fLog], Value.pointer (some { block := w.heap.size, off := 0 }), Value.pointer (some { block := w.heap.size + 1, off := 0 }), v3, v4, v5, v6, v7, v8, v9, v10, undef], defers := [] } ∧ (B0 = true → v3 = .pointer (some ⟨w.heap.size, 2, none⟩)) ∧ (B1 = true → v4 = .slice x.A x.n x.c) ∧ (B3 = true → v6 = .pointer (some ⟨w.heap.size, 3, none⟩)) ∧ (B4 = true → v7 = .slice x.A' x.n' x.c') ∧ (B6 = true → v9 = .pointer (some ⟨w.heap.size, 2, none⟩)) ∧ (B8 = true → v10 = .pointer (some ⟨w.heap.size, 3, none⟩)) ∧ CK w w.heap.size (w.heap.size + 1) x B1 B2 B4 B5 B7 B9 v5 v8 wx) ?_ ?_ ?_
  · exact ⟨false, false, false, false, false, false, false, false, false, false, undef, undef, undef, undef, undef, undef, undef, undef, rfl, rfl, fun e => (by cases e), fun e => (by cases e), fun e => (by cases e), fun e => (by cases e), fun e => (by cases e), fun e => (by cases e), ⟨below_drewN hB0.out 1, keepr hk0.out (below_drewN (Below.refl _ _) 1), keepr hk1.out (below_drewN (Below.refl _ _) 1), fun e => (by cases e), fun e => (by cases e), fun e => (by cases e), fun e => (by cases e), fun e => (by cases e), fun e => (by cases e)⟩⟩
  · rintro lx a wx ⟨B0, B1, B2, B3, B4, B5, B6, B7, B8, B9, v3, v4, v5, v6, v7, v8, v9, v10, rfl, rfl, f0, f1, f3, f4, f6, f8, hE⟩ i hi hl ha
    have hi10 : i < 10 := hi
    have hEh := hide hE
    clear hE hi
    rcases (by omega : i = 0 ∨ i = 1 ∨ i = 2 ∨ i = 3 ∨ i = 4 ∨ i = 5 ∨ i = 6 ∨ i = 7 ∨ i = 8 ∨ i = 9) with rfl | rfl | rfl | rfl | rfl | rfl | rfl | rfl | rfl | rfl
    · have hb : B0 = false := hl
      clear hl
      obtain rfl := hb
      clear ha
      refine wpOp_ofK rfl rfl fun K hK => ?_
      go_simp
      refine hK _ _ ?_
      exact ⟨true, B1, B2, B3, B4, B5, B6, B7, B8, B9, _, _, _, _, _, _, _, _, rfl, rfl, (by first | exact f0 | exact fun _ => rfl | fail), (by first | exact f1 | exact fun _ => rfl | fail), (by first | exact f3 | exact fun _ => rfl | fail), (by first | exact f4 | exact fun _ => rfl | fail), (by first | exact f6 | exact fun _ => rfl | fail), (by first | exact f8 | exact fun _ => rfl | fail), hEh.out⟩
    · have hb : B1 = false := hl
      clear hl
      obtain rfl := hb
      simp [Region.binds] at ha
      obtain rfl := f0 ha
      obtain ⟨q2, q7, q9⟩ := hEh.out.free1
      have bx := hEh.out.box
      rw [q7, q9] at bx
      have cc := (row5 bx).2.2.1
      simp only [Bool.false_eq_true, if_false] at cc
      clear bx
      refine wpOp_ofK rfl rfl fun K hK => ?_
      go_simp
      refine hK _ _ ?_
      exact ⟨B0, true, B2, B3, B4, B5, B6, B7, B8, B9, _, _, _, _, _, _, _, _, rfl, rfl, (by first | exact f0 | exact fun _ => rfl | fail), (by first | exact f1 | exact fun _ => rfl | fail), (by first | exact f3 | exact fun _ => rfl | fail), (by first | exact f4 | exact fun _ => rfl | fail), (by first | exact f6 | exact fun _ => rfl | fail), (by first | exact f8 | exact fun _ => rfl | fail), ⟨hEh.out.b, hEh.out.box, hEh.out.res, hEh.out.k, hEh.out.h, fun _ => rfl, hEh.out.c5, hEh.out.c7, hEh.out.c9⟩⟩
    · have hb : B2 = false := hl
      clear hl
      obtain rfl := hb
      simp [Region.binds] at ha
      have h1 : B1 = true := by first | exact ha | exact ha.1 | fail
      obtain rfl := f1 h1
      refine wpOp_ofK rfl rfl fun K hK => ?_
      go_simp
      refine (cloneKind_any x.A x.n x.c x.kinds _ hxh.out.nk (hxh.out.go hEh.out.b).kinds).mono ?_
      rintro e w4 ⟨u, rfl, hr4, hb4⟩
      refine hK _ _ ?_
      exact ⟨B0, B1, true, B3, B4, B5, B6, B7, B8, B9, _, _, _, _, _, _, _, _, rfl, rfl, (by first | exact f0 | exact fun _ => rfl | fail), (by first | exact f1 | exact fun _ => rfl | fail), (by first | exact f3 | exact fun _ => rfl | fail), (by first | exact f4 | exact fun _ => rfl | fail), (by first | exact f6 | exact fun _ => rfl | fail), (by first | exact f8 | exact fun _ => rfl | fail), hEh.out.clK h1 hr4 hb4⟩
    · have hb : B3 = false := hl
      clear hl
      obtain rfl := hb
      clear ha
      refine wpOp_ofK rfl rfl fun K hK => ?_
      go_simp
      refine hK _ _ ?_
      exact ⟨B0, B1, B2, true, B4, B5, B6, B7, B8, B9, _, _, _, _, _, _, _, _, rfl, rfl, (by first | exact f0 | exact fun _ => rfl | fail), (by first | exact f1 | exact fun _ => rfl | fail), (by first | exact f3 | exact fun _ => rfl | fail), (by first | exact f4 | exact fun _ => rfl | fail), (by first | exact f6 | exact fun _ => rfl | fail), (by first | exact f8 | exact fun _ => rfl | fail), hEh.out⟩
    · have hb : B4 = false := hl
      clear hl
      obtain rfl := hb
      simp [Region.binds] at ha
      obtain rfl := f3 ha
      obtain ⟨q5, q7, q9⟩ := hEh.out.free4
      have bx := hEh.out.box
      rw [q7, q9] at bx
      have cc := (row5 bx).2.2.2.1
      simp only [Bool.false_eq_true, if_false] at cc
      clear bx
      refine wpOp_ofK rfl rfl fun K hK => ?_
      go_simp
      refine hK _ _ ?_
      exact ⟨B0, B1, B2, B3, true, B5, B6, B7, B8, B9, _, _, _, _, _, _, _, _, rfl, rfl, (by first | exact f0 | exact fun _ => rfl | fail), (by first | exact f1 | exact fun _ => rfl | fail), (by first | exact f3 | exact fun _ => rfl | fail), (by first | exact f4 | exact fun _ => rfl | fail), (by first | exact f6 | exact fun _ => rfl | fail), (by first | exact f8 | exact fun _ => rfl | fail), ⟨hEh.out.b, hEh.out.box, hEh.out.res, hEh.out.k, hEh.out.h, hEh.out.c2, fun _ => rfl, hEh.out.c7, hEh.out.c9⟩⟩
    · have hb : B5 = false := hl
      clear hl
      obtain rfl := hb
      simp [Region.binds] at ha
      have h4 : B4 = true := by first | exact ha | exact ha.1 | fail
      obtain rfl := f4 h4
      refine wpOp_ofK rfl rfl fun K hK => ?_
      go_simp
      refine (cloneHeap_any x.A' x.n' x.c' x.heaps _ hxh.out.nh (hxh.out.go hEh.out.b).heaps).mono ?_
      rintro e w4 ⟨u, rfl, hr4, hb4⟩
      refine hK _ _ ?_
      exact ⟨B0, B1, B2, B3, B4, true, B6, B7, B8, B9, _, _, _, _, _, _, _, _, rfl, rfl, (by first | exact f0 | exact fun _ => rfl | fail), (by first | exact f1 | exact fun _ => rfl | fail), (by first | exact f3 | exact fun _ => rfl | fail), (by first | exact f4 | exact fun _ => rfl | fail), (by first | exact f6 | exact fun _ => rfl | fail), (by first | exact f8 | exact fun _ => rfl | fail), hEh.out.clH h4 hr4.res hb4⟩
    · have hb : B6 = false := hl
      clear hl
      obtain rfl := hb
      clear ha
      refine wpOp_ofK rfl rfl fun K hK => ?_
      go_simp
      refine hK _ _ ?_
      exact ⟨B0, B1, B2, B3, B4, B5, true, B7, B8, B9, _, _, _, _, _, _, _, _, rfl, rfl, (by first | exact f0 | exact fun _ => rfl | fail), (by first | exact f1 | exact fun _ => rfl | fail), (by first | exact f3 | exact fun _ => rfl | fail), (by first | exact f4 | exact fun _ => rfl | fail), (by first | exact f6 | exact fun _ => rfl | fail), (by first | exact f8 | exact fun _ => rfl | fail), hEh.out⟩
    · have hb : B7 = false := hl
      clear hl
      obtain rfl := hb
      simp [Region.binds] at ha
      have h6 : B6 = true := by first | exact ha.1 | exact ha.2.1 | fail
      have q2 : B2 = true := by first | exact ha.1 | exact ha.2.1 | exact ha.2.2.1 | exact ha.2.2.2 | exact ha.2.2.2.1 | exact ha.2.2.2.2.2.1 | fail
      have q5 : B5 = true := by first | exact ha.1 | exact ha.2.1 | exact ha.2.2.1 | exact ha.2.2.2 | exact ha.2.2.2.1 | exact ha.2.2.2.2.2.1 | fail
      obtain rfl := f6 h6
      obtain ⟨Au, cu, hu, _⟩ := (hEh.out.k q2).slice
      subst hu
      have bx := hEh.out.box
      obtain ⟨_, _, cc2, cc3, _, ff⟩ := row5 bx
      have ff2 := ff 2
      clear ff bx
      have hnx := hide (hEh.out.st7 q2 q5 (Nat.le_refl _) (by omega))
      refine wpOp_ofK rfl rfl fun K hK => ?_
      go_simp
      refine hK _ _ ?_
      exact ⟨B0, B1, B2, B3, B4, B5, B6, true, B8, B9, _, _, _, _, _, _, _, _, rfl, rfl, (by first | exact f0 | exact fun _ => rfl | fail), (by first | exact f1 | exact fun _ => rfl | fail), (by first | exact f3 | exact fun _ => rfl | fail), (by first | exact f4 | exact fun _ => rfl | fail), (by first | exact f6 | exact fun _ => rfl | fail), (by first | exact f8 | exact fun _ => rfl | fail), hnx.out⟩
    · have hb : B8 = false := hl
      clear hl
      obtain rfl := hb
      clear ha
      refine wpOp_ofK rfl rfl fun K hK => ?_
      go_simp
      refine hK _ _ ?_
      exact ⟨B0, B1, B2, B3, B4, B5, B6, B7, true, B9, _, _, _, _, _, _, _, _, rfl, rfl, (by first | exact f0 | exact fun _ => rfl | fail), (by first | exact f1 | exact fun _ => rfl | fail), (by first | exact f3 | exact fun _ => rfl | fail), (by first | exact f4 | exact fun _ => rfl | fail), (by first | exact f6 | exact fun _ => rfl | fail), (by first | exact f8 | exact fun _ => rfl | fail), hEh.out⟩
    · have hb : B9 = false := hl
      clear hl
      obtain rfl := hb
      simp [Region.binds] at ha
      have h8 : B8 = true := by first | exact ha.1 | exact ha.2.1 | fail
      have q2 : B2 = true := by first | exact ha.1 | exact ha.2.1 | exact ha.2.2.1 | exact ha.2.2.2 | exact ha.2.2.2.1 | exact ha.2.2.2.2.2.1 | fail
      have q5 : B5 = true := by first | exact ha.1 | exact ha.2.1 | exact ha.2.2.1 | exact ha.2.2.2 | exact ha.2.2.2.1 | exact ha.2.2.2.2.2.1 | fail
      obtain rfl := f8 h8
      obtain ⟨Au, cu, hu, _⟩ := (hEh.out.h q5).slice
      subst hu
      have bx := hEh.out.box
      obtain ⟨_, _, cc2, cc3, _, ff⟩ := row5 bx
      have ff2 := ff 3
      clear ff bx
      have hnx := hide (hEh.out.st9 q2 q5 (Nat.le_refl _) (by omega))
      refine wpOp_ofK rfl rfl fun K hK => ?_
      go_simp
      refine hK _ _ ?_
      exact ⟨B0, B1, B2, B3, B4, B5, B6, B7, B8, true, _, _, _, _, _, _, _, _, rfl, rfl, (by first | exact f0 | exact fun _ => rfl | fail), (by first | exact f1 | exact fun _ => rfl | fail), (by first | exact f3 | exact fun _ => rfl | fail), (by first | exact f4 | exact fun _ => rfl | fail), (by first | exact f6 | exact fun _ => rfl | fail), (by first | exact f8 | exact fun _ => rfl | fail), hnx.out⟩
  · rintro lx a wx ⟨B0, B1, B2, B3, B4, B5, B6, B7, B8, B9, v3, v4, v5, v6, v7, v8, v9, v10, rfl, rfl, f0, f1, f3, f4, f6, f8, hE⟩ hr
    have h9 := ready_nil_all (by kernel_rfl) rfl hr 10 9 (by decide) (by decide)
    have h7 := ready_nil_all (by kernel_rfl) rfl hr 10 7 (by decide) (by decide)
    change B9 = true at h9
    change B7 = true at h7
    subst h9 h7
    obtain ⟨h2, h5⟩ := hE.c7 rfl
    have hK := hide (hE.k h2)
    have hH := hide (hE.h h5)
    obtain ⟨A4, c4, hv4, _⟩ := hK.out.slice
    obtain ⟨A5, c5, hv5, _⟩ := hH.out.slice
    subst hv4 hv5
    have bx := hE.box
    rw [if_pos rfl, if_pos rfl] at bx
    obtain ⟨d0, d1, d2, d3, d4, _⟩ := row5 bx
    obtain ⟨r0, r1, r2, r3, r4, rf⟩ := row5 hE.res
    have hBx := hide hE.b
    have hE0 := hide hE
    have rf0 := rf 0; have rf1 := rf 1; have rf2 := rf 2; have rf3 := rf 3; have rf4 := rf 4
    clear hE hr f0 f1 f3 f4 f6 f8 bx rf h2 h5
    go_wp2_with fail
    have hres := box_set (box_set (box_set (box_set (box_set hE0.out.res 0 (.string x.fStroke)) 1 (.int .i64 x.fStakes)) 2 (.slice A4 x.n c4)) 3 (.slice A5 x.n' c5)) 4 (.string x.fLog)
    obtain ⟨b0, b1, b2, b3, b4, _⟩ := row5 hres
    refine bodyPost_ret (v := .agg #[.string x.fStroke, .int .i64 x.fStakes, .slice A4 x.n c4, .slice A5 x.n' c5, .string x.fLog]) (by simp [results, Tryz.results29, go_sem, b0, b1, b2, b3, b4]) rfl ?_
    have hg1 : w.heap.size < w.heap.size + 1 := by omega
    have hb5 : Below w.heap.size w _ := ((((hBx.out.setCell (p := ⟨w.heap.size + 1, 0, none⟩) (by show w.heap.size ≤ w.heap.size + 1; omega) (.string x.fStroke)).setCell (p := ⟨w.heap.size + 1, 1, none⟩) (by show w.heap.size ≤ w.heap.size + 1; omega) (.int .i64 x.fStakes)).setCell (p := ⟨w.heap.size + 1, 2, none⟩) (by show w.heap.size ≤ w.heap.size + 1; omega) (.slice A4 x.n c4)).setCell (p := ⟨w.heap.size + 1, 3, none⟩) (by show w.heap.size ≤ w.heap.size + 1; omega) (.slice A5 x.n' c5)).setCell (p := ⟨w.heap.size + 1, 4, none⟩) (by show w.heap.size ≤ w.heap.size + 1; omega) (.string x.fLog)
    have e0 := hE0.out.res
    have e1 := box_set e0 0 (.string x.fStroke)
    have e2 := box_set e1 1 (.int .i64 x.fStakes)
    have e3 := box_set e2 2 (.slice A4 x.n c4)
    have e4 := box_set e3 3 (.slice A5 x.n' c5)
    exact ⟨{ x with A := A4, c := c4, A' := A5, c' := c5 }, rfl, rfl, ⟨((((hK.out.set e0 (by decide)).set e1 (by decide)).set e2 (by decide)).set e3 (by decide)).set e4 (by decide), ((((hH.out.set e0 (by decide)).set e1 (by decide)).set e2 (by decide)).set e3 (by decide)).set e4 (by decide), hxh.out.nk, hxh.out.nh, hxh.out.fit⟩, hb5⟩
end Go.Proofs.YtfpaejlipaainaaGreatDoor
namespace Go.Proofs.YtfpaejlipaainaaGreatDoor
open Go.ChangeShapes Go.WideShapes Go.ChangeAt Go.RowKit Go.Deep
set_option maxRecDepth 100000
set_option maxHeartbeats 4000000 in
theorem iCodeN_any (n : Int) (w : World) (h0 : 0 ≤ n) (h1 : n ≤ 10) : Calls Tryz.prog 34 #[.int .i64 n] w fun e w' => e = .returned (.string (codeB n)) ∧ Below w.heap.size w w' := by
  rcases (by omega : n = 0 ∨ n = 1 ∨ n = 2 ∨ n = 3 ∨ n = 4 ∨ n = 5 ∨ n = 6 ∨ n = 7 ∨ n = 8 ∨ n = 9 ∨ n = 10) with rfl | rfl | rfl | rfl | rfl | rfl | rfl | rfl | rfl | rfl | rfl
  all_goals (
    clear h0 h1
    go_enter Tryz.func34, Tryz.ntmps34
    go_wp2
    go_ret
    exact ⟨rfl, by go_grown⟩)
theorem mPutC_range (l : List Heap) (x : Heap) : 0 ≤ mPutC l x ∧ mPutC l x ≤ 10 := by
  unfold mPutC; repeat' split
  all_goals omega
theorem mAdd_range {s : ByteArray} {x : Entry} (h : lcode s = 0) : 0 ≤ (mAdd s x).2 ∧ (mAdd s x).2 ≤ 10 := by
  by_cases hk : x.ok = true
  · by_cases hd : x.fDay < lastDay (ents s)
    · rw [add_late h hk hd]; (first | decide | simp)
    · by_cases hf : 4000 < (addB s x).size
      · rw [add_full h hk hd hf]; (first | decide | simp)
      · rw [add_good h hk hd hf]; (first | decide | simp)
  · rw [add_bad h (by simpa using hk)]; (first | decide | simp)
theorem mAsk_range (d : DeskM) (c : Cmd) (ws : List ByteArray) (n : List Int) : 0 ≤ (mAsk d c ws n).2 ∧ (mAsk d c ws n).2 ≤ 10 := by
  cases c <;> simp only [mAsk]
  case cRound => unfold mRoundC; split <;> (first | decide | simp)
  case cWord => unfold mRowC; repeat' split
                all_goals (first | decide | simp)
  case cSound => unfold mSoundC; split <;> (first | decide | simp)
  case cAdd => unfold mStkC; repeat' split
               all_goals (first | decide | simp)
  case cJoins => unfold ordC; repeat' split
                 all_goals (first | decide | simp)
  case cBroken => unfold newC; split <;> (first | decide | simp)
  case cFew => unfold fewC; repeat' split
               all_goals (first | decide | simp)
  all_goals (first | decide | simp)
theorem mDo_range {d : DeskM} {c : Cmd} {ws : List ByteArray} (h : d.ok = true) : 0 ≤ (mDo d c ws).2.2 ∧ (mDo d c ws).2.2 ≤ 10 := by
  obtain ⟨h1, h2, h3, h4, h5⟩ := DeskM.ok_parts.1 h
  unfold mDo
  split
  · unfold mText
    cases c <;> simp only
    case cStroke => split <;> (first | decide | simp)
    case cHeap =>
      split
      · exact mPutC_range _ _
      · (first | decide | simp)
    all_goals (first | decide | simp)
  · split
    · unfold mWork
      cases c <;> simp only
      case cStakes => split <;> (first | decide | simp)
      case cKinds => unfold kindsCd; repeat' split
                     all_goals (first | decide | simp)
      case cEnter => exact mAdd_range h5
      all_goals exact mAsk_range _ _ _ _
    · (first | decide | simp)
end Go.Proofs.YtfpaejlipaainaaGreatDoor
