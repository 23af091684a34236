/- The program's putHeap. No statement is proved here. -/
import Derived.Test.YtpnbnhhifgcklaaDoorPutC
namespace Go.Proofs.YtpnbnhhifgcklaaDoor
open Go.ChangeShapes Go.WideShapes Go.ChangeAt Go.RowKit Go.Deep
set_option maxRecDepth 100000
theorem cloneHeap_any (A : Option Addr) (n c : Nat) (l : List Heap) (w : World) (hn : n ≤ 1048576) (hr : Arr Heap.cells 3 w w.heap.size A n l) :
    Calls Tryd.prog 36 #[.slice A n c] w fun e w' => ∃ v, e = .returned v ∧ Own Heap.cells 27 3 w' w.heap.size v n l ∧ Below w.heap.size w w' := by
  cases A with
  | none =>
    have hn0 : n = 0 := by
      rcases Nat.eq_zero_or_pos n with h | h
      · exact h
      · obtain ⟨b, o, hA, _⟩ := hr.2 h
        cases hA
    subst hn0
    obtain rfl : l = [] := List.eq_nil_of_length_eq_zero hr.1
    have hq : ∀ W, (binOp .eql 24 (.slice none 0 c) (.slice none 0 0)).run Tryd.prog W = .ok (.bool true) W := fun W => Lib.run_eql_slice_nil (P := Tryd.prog) W 24 27 none 0 c 0 0 Tryd.underlying24
    clear hr
    go_enter Tryd.func36, Tryd.ntmps36
    go_wp2
    go_ret
    exact ⟨_, rfl, Own.nil_ _ _, Below.refl _ _⟩
  | some ad =>
    have hq : ∀ W, (binOp .eql 24 (.slice (some ad) n c) (.slice none 0 0)).run Tryd.prog W = .ok (.bool false) W := fun W => Lib.run_eql_slice_nil (P := Tryd.prog) W 24 27 (some ad) n c 0 0 Tryd.underlying24
    have hB := hide ((Below.refl w.heap.size w).alloc (Nat.le_refl _) (.cells #[] 27))
    have hO := hide (Own.none_made (cells := Heap.cells) (e := 27) (s := 3) w (Nat.le_refl _))
    go_enter Tryd.func36, Tryd.ntmps36
    go_wp2_with (at_builtin; refine wpl_appN rfl (.tmp 5) (.tmp 6) rfl Tryd.underlying24 info_Heap' rfl (by omega) (by omega) Heap.len Heap.one rfl hO.out rfl (hr.below hB.out) (by omega) hB.out.size ?_; intro v2 w2 ho2 hg2 _)
    go_ret
    rw [Nat.zero_add, List.nil_append] at ho2
    exact ⟨v2, rfl, ho2, grown_below hB.out hO.out hg2 hB.out.size⟩
theorem Own.ne_newH {α : Type} {cells : α → List Value} {e s : Nat} {w : World} {base n : Nat} {v : Value} {l : List α} (h : Own cells e s w base v n l) : v.ownBlock ≠ some w.heap.size := fun he => by have := (h.2.lt _ he).2; omega
theorem insert_any (V : Value) (n i : Nat) (l : List Heap) (x : Heap) (vb vc base : Nat) (w : World) (ho : Own Heap.cells 27 3 w base V n l) (hn : n ≤ 100000) (hb : base ≤ w.heap.size) (hv : w.heap[vb]? = some (.cells #[.string x.fSort, .int .i64 x.fYear, .int .i64 x.fBundles] 27 (0, 0))) (hi : i ≤ n) (hne : V.ownBlock ≠ some vb) :
    Calls Tryd.prog 38 #[V, .int .i64 i, .slice (some ⟨vb, 0, none⟩) 1 vc] w fun e w' => Ins w base V (n + 1) (l.take i ++ x :: l.drop i) e w' := by
  by_cases h : i = n
  · exact insEnd_any V n i l x vb vc base w ho hn hb hv h
  · rcases ho.form with ⟨_, h0, _⟩ | ⟨g, c, rfl, _, _, _, _⟩
    · omega
    · have hg : g ≠ vb := fun e => hne (by rw [e]; rfl)
      by_cases hr : n + 1 ≤ c
      · exact insRoom_any g c _ n i l x vb vc base w ho hn hb hv (by omega) rfl hr hg
      · exact insGrow_any g c _ n i l x vb vc base w ho hn hb hv (by omega) rfl (by omega) hg
def Put (w : World) (l : List Heap) (x : Heap) (e : Ending) (w' : World) : Prop := ∃ V, e = .returned V ∧ Own Heap.cells 27 3 w' w.heap.size V (hPut l x).length (hPut l x) ∧ Below w.heap.size w w'
theorem put_len_no {l : List Heap} {x : Heap} (h : putFound l x = false) : hPut l x = l.take (putK l x) ++ x :: l.drop (putK l x) ∧ (hPut l x).length = l.length + 1 := by
  have hk := putK_le l x
  have e : hPut l x = l.take (putK l x) ++ x :: l.drop (putK l x) := by unfold hPut; rw [h]; rfl
  exact ⟨e, by rw [e]; simp; omega⟩
set_option maxHeartbeats 2000000 in
theorem iPut_any (A : Option Addr) (n c : Nat) (l : List Heap) (x : Heap) (w : World) (hn : n ≤ 90000) (hr : Arr Heap.cells 3 w w.heap.size A n l) (hyr : ∀ y ∈ l, 1800 ≤ y.fYear ∧ y.fYear ≤ 2100) (hx1 : 1800 ≤ x.fYear) (hx2 : x.fYear ≤ 2100) (hs : Srt l)
    (hbl : ∀ y ∈ l, 0 ≤ y.fBundles ∧ y.fBundles ≤ 1000000000) (hbx : 0 ≤ x.fBundles ∧ x.fBundles ≤ 1000000000) :
    Calls Tryd.prog 21 #[.slice A n c, .agg #[.string x.fSort, .int .i64 x.fYear, .int .i64 x.fBundles]] w fun e w' => Put w l x e w' := by
  have hBA : Below w.heap.size w (w.alloc (.cells #[.string x.fSort, .int .i64 x.fYear, .int .i64 x.fBundles] 27)) := (Below.refl _ _).alloc (Nat.le_refl _) _
  have hK := hide (heap_alloc_new w (.cells #[.string x.fSort, .int .i64 x.fYear, .int .i64 x.fBundles] 27))
  have hB := hide hBA
  have hr2 := hide (hr.go hBA)
  have hll : Hid (l.length = n) := hide hr.len
  clear hBA hr
  go_enter Tryd.func21, Tryd.ntmps21
  go_wp2_with fail
  refine (cloneHeap_any A n c l _ (by omega) hr2.out).mono ?_
  rintro e w1 ⟨v, rfl, ho, hb⟩
  have hO := hide (ho.less (B := w.heap.size) (by simp))
  replace hK := hide (keepr3 hK.out hb)
  replace hB := hide (Below.up hB.out hb)
  clear ho hb hr2
  obtain ⟨A', c', rfl, _⟩ := hO.out.slice
  obtain ⟨c0, c1, c2, cf⟩ := row3 hK.out
  go_wp2_with fail
  clear c0 c1 c2 cf
  refine (bs_any A' n c' l x _ (by omega) (hO.out.arr Heap.len) hyr hx1 hx2 hs).mono ?_
  rintro e w2 ⟨rfl, hb⟩
  replace hO := hide (hO.out.below hb)
  replace hK := hide (keepr3 hK.out hb)
  replace hB := hide (Below.up hB.out hb)
  clear hb hyr
  obtain ⟨k, hk⟩ : ∃ k, k = putK l x := ⟨_, rfl⟩
  have hkl : k ≤ n := by rw [hk, ← hll.out]; exact putK_le l x
  have hk' := hide hk
  rw [← hk]
  clear hk
  obtain ⟨c0, c1, c2, cf⟩ := row3 hK.out
  cases hf : putFound l x
  · have hF := hide hf
    clear hf
    go_wp2_with fail
    clear c0 c1 c2 cf
    have hv := heap_alloc_new w2 (.cells #[.string x.fSort, .int .i64 x.fYear, .int .i64 x.fBundles] 27)
    refine (insert_any (.slice A' n c') n k l x w2.heap.size 1 w.heap.size _ (hO.out.below ((Below.refl _ _).alloc (Nat.le_refl _) _)) (by omega) (by simp; have := hB.out.size; omega) hv hkl (hO.out.ne_newH)).mono ?_
    rintro e w3 ⟨V', rfl, ho3, hg3⟩
    have hO3 := hide ho3
    have hB3 := hide (((hO.out.below ((Below.refl _ _).alloc (Nat.le_refl _) _)).grown (hB.out.alloc hB.out.size (.cells #[.string x.fSort, .int .i64 x.fYear, .int .i64 x.fBundles] 27)) hg3))
    clear ho3 hg3 hv
    go_wp2
    go_ret
    refine ⟨V', rfl, ?_, hB3.out⟩
    obtain ⟨h1, h2⟩ := put_len_no hF.out
    rw [h2, h1, hll.out, ← hk'.out]
    exact hO3.out
  · have hF := hide hf
    clear hf
    obtain ⟨y, hy, e1, e2, hlt, hat⟩ := found_at hF.out
    rw [← hk'.out] at hy hlt
    have hkn : k < n := by have := hll.out; omega
    have hyb := hbl y (List.mem_of_getElem? hy)
    rcases hO.out.form with ⟨_, h0, _⟩ | ⟨g, cap, hV, hbg, hgl, _, _⟩
    · omega
    injection hV with hV1 _ hV2
    subst hV1 hV2
    obtain ⟨y', hy', d0, d1, d2, f0, f1, f2⟩ := hO.out.Heap_at hkn
    rw [hy] at hy'
    obtain rfl := Option.some.inj hy'
    have hY := hide hy
    have hE := hide (show hPut l x = l.set k ⟨y.fSort, y.fYear, y.fBundles + x.fBundles⟩ by rw [hPut_found hF.out, ← hk'.out, hat, e1, e2, Int.add_comm])
    have hwr : IntKind.i64.wrap (y.fBundles + x.fBundles) = y.fBundles + x.fBundles := IntWalk.i64_in _ (by omega)
    have hi0 : (0 : Int) ≤ (k : Int) := by omega
    have hi1 : (k : Int) < (n : Int) := by omega
    clear hy hy' hat e1 e2 hlt hyb hbl hbx hs d0 d1 f0 f1 c0 c1
    go_wp2_with fail
    go_region
    have hO2 := hide (hO.out.cell (k := k) (j := 2) (x := y) (x' := (⟨y.fSort, y.fYear, y.fBundles + x.fBundles⟩ : Heap)) (u := .int .i64 (y.fBundles + x.fBundles)) Heap.len hY.out (by omega) rfl)
    have hB2 := hide (hB.out.setCell (p := ⟨g, k * 3 + 2, none⟩) hbg (.int .i64 (y.fBundles + x.fBundles)))
    have hBd := hide (below_drewN hB2.out 1)
    have hOd := hide (hO2.out.below (below_drewN (Below.refl _ _) 1))
    clear hO2 hB2 d2 f2 c2 cf
    go_wp2
    go_ret
    refine ⟨_, rfl, ?_, hBd.out⟩
    have hln : (l.set k ⟨y.fSort, y.fYear, y.fBundles + x.fBundles⟩).length = n := by rw [List.length_set]; exact hll.out
    rw [hE.out, hln]
    exact hOd.out
end Go.Proofs.YtpnbnhhifgcklaaDoor
