/- Texts that belong together, joined: contracts and plain laws. No statement is proved here. -/
import Derived.Test.YtfpaejlipaainaaGreatDoorM01
import Derived.Test.YtfpaejlipaainaaGreatDoorM05
import Derived.Test.YtfpaejlipaainaaGreatDoorM06
import Derived.Test.YtfpaejlipaainaaGreatDoorM07
import Derived.Test.YtfpaejlipaainaaGreatDoorM09
import Derived.Test.YtfpaejlipaainaaGreatDoorM10
import Derived.Deep.RegionWith
namespace Go.Proofs.YtfpaejlipaainaaGreatDoor
open Go.ChangeShapes Go.WideShapes Go.ChangeAt Go.RowKit Go.Deep
set_option maxRecDepth 100000
theorem cloneHeap_any (A : Option Addr) (n c : Nat) (l : List Heap) (w : World) (hn : n ≤ 1048576) (hr : Arr Heap.cells 3 w w.heap.size A n l) :
    Calls Tryz.prog 67 #[.slice A n c] w fun e w' => ∃ v, e = .returned v ∧ Own Heap.cells 106 3 w' w.heap.size v n l ∧ Below w.heap.size w w' := by
  cases A with
  | none =>
    have hn0 : n = 0 := by
      rcases Nat.eq_zero_or_pos n with h | h
      · exact h
      · obtain ⟨b, o, hA, _⟩ := hr.2 h
        cases hA
    subst hn0
    obtain rfl : l = [] := List.eq_nil_of_length_eq_zero hr.1
    have hq : ∀ W, (binOp .eql 27 (.slice none 0 c) (.slice none 0 0)).run Tryz.prog W = .ok (.bool true) W := fun W => Lib.run_eql_slice_nil (P := Tryz.prog) W 27 106 none 0 c 0 0 Tryz.underlying27
    clear hr
    go_enter Tryz.func67, Tryz.ntmps67
    go_wp2
    go_ret
    exact ⟨_, rfl, Own.nil_ _ _, Below.refl _ _⟩
  | some ad =>
    have hq : ∀ W, (binOp .eql 27 (.slice (some ad) n c) (.slice none 0 0)).run Tryz.prog W = .ok (.bool false) W := fun W => Lib.run_eql_slice_nil (P := Tryz.prog) W 27 106 (some ad) n c 0 0 Tryz.underlying27
    have hB := hide ((Below.refl w.heap.size w).alloc (Nat.le_refl _) (.cells #[] 106))
    have hO := hide (Own.none_made (cells := Heap.cells) (e := 106) (s := 3) w (Nat.le_refl _))
    go_enter Tryz.func67, Tryz.ntmps67
    go_wp2_with (at_builtin; refine wpl_appN rfl (.tmp 5) (.tmp 6) rfl Tryz.underlying27 info_Heap' rfl (by omega) (by omega) Heap.len Heap.one rfl hO.out rfl (hr.below hB.out) (by omega) hB.out.size ?_; intro v2 w2 ho2 hg2 _)
    go_ret
    rw [Nat.zero_add, List.nil_append] at ho2
    exact ⟨v2, rfl, ho2, grown_below hB.out hO.out hg2 hB.out.size⟩
theorem Own.ne_newH {α : Type} {cells : α → List Value} {e s : Nat} {w : World} {base n : Nat} {v : Value} {l : List α} (h : Own cells e s w base v n l) : v.ownBlock ≠ some w.heap.size := fun he => by have := (h.2.lt _ he).2; omega
theorem insert_any (V : Value) (n i : Nat) (l : List Heap) (x : Heap) (vb vc base : Nat) (w : World) (ho : Own Heap.cells 106 3 w base V n l) (hn : n ≤ 100000) (hb : base ≤ w.heap.size) (hv : w.heap[vb]? = some (.cells #[.string x.fSort, .int .i64 x.fYear, .int .i64 x.fBundles] 106 (0, 0))) (hi : i ≤ n) (hne : V.ownBlock ≠ some vb) :
    Calls Tryz.prog 179 #[V, .int .i64 i, .slice (some ⟨vb, 0, none⟩) 1 vc] w fun e w' => Ins w base V (n + 1) (l.take i ++ x :: l.drop i) e w' := by
  by_cases h : i = n
  · exact insEnd_any V n i l x vb vc base w ho hn hb hv h
  · rcases ho.form with ⟨_, h0, _⟩ | ⟨g, c, rfl, _, _, _, _⟩
    · omega
    · have hg : g ≠ vb := fun e => hne (by rw [e]; rfl)
      by_cases hr : n + 1 ≤ c
      · exact insRoom_any g c _ n i l x vb vc base w ho hn hb hv (by omega) rfl hr hg
      · exact insGrow_any g c _ n i l x vb vc base w ho hn hb hv (by omega) rfl (by omega) hg
def Put (w : World) (l : List Heap) (x : Heap) (e : Ending) (w' : World) : Prop := ∃ V, e = .returned V ∧ Own Heap.cells 106 3 w' w.heap.size V (hPut l x).length (hPut l x) ∧ Below w.heap.size w w'
theorem put_len_no {l : List Heap} {x : Heap} (h : putFound l x = false) : hPut l x = l.take (putK l x) ++ x :: l.drop (putK l x) ∧ (hPut l x).length = l.length + 1 := by
  have hk := putK_le l x
  have e : hPut l x = l.take (putK l x) ++ x :: l.drop (putK l x) := by unfold hPut; rw [h]; rfl
  exact ⟨e, by rw [e]; simp; omega⟩
set_option maxHeartbeats 2000000 in
theorem iPut_any (A : Option Addr) (n c : Nat) (l : List Heap) (x : Heap) (w : World) (hn : n ≤ 90000) (hr : Arr Heap.cells 3 w w.heap.size A n l) (hyr : ∀ y ∈ l, 1800 ≤ y.fYear ∧ y.fYear ≤ 2100) (hx1 : 1800 ≤ x.fYear) (hx2 : x.fYear ≤ 2100) (hs : Srt l)
    (hbl : ∀ y ∈ l, 0 ≤ y.fBundles ∧ y.fBundles ≤ 1000000000) (hbx : 0 ≤ x.fBundles ∧ x.fBundles ≤ 1000000000) :
    Calls Tryz.prog 120 #[.slice A n c, .agg #[.string x.fSort, .int .i64 x.fYear, .int .i64 x.fBundles]] w fun e w' => Put w l x e w' := by
  have hBA : Below w.heap.size w (w.alloc (.cells #[.string x.fSort, .int .i64 x.fYear, .int .i64 x.fBundles] 106)) := (Below.refl _ _).alloc (Nat.le_refl _) _
  have hK := hide (heap_alloc_new w (.cells #[.string x.fSort, .int .i64 x.fYear, .int .i64 x.fBundles] 106))
  have hB := hide hBA
  have hr2 := hide (hr.go hBA)
  have hll : Hid (l.length = n) := hide hr.len
  clear hBA hr
  go_enter Tryz.func120, Tryz.ntmps120
  go_wp2_with fail
  refine (cloneHeap_any A n c l _ (by omega) hr2.out).mono ?_
  rintro e w1 ⟨v, rfl, ho, hb⟩
  have hO := hide (ho.less (B := w.heap.size) (by simp))
  replace hK := hide (keepr3 hK.out hb)
  replace hB := hide (Below.up hB.out hb)
  clear ho hb hr2
  obtain ⟨A', c', rfl, _⟩ := hO.out.slice
  obtain ⟨c0, c1, c2, cf⟩ := row3 hK.out
  go_wp2_with fail
  clear c0 c1 c2 cf
  refine (bs_any A' n c' l x _ (by omega) (hO.out.arr Heap.len) hyr hx1 hx2 hs).mono ?_
  rintro e w2 ⟨rfl, hb⟩
  replace hO := hide (hO.out.below hb)
  replace hK := hide (keepr3 hK.out hb)
  replace hB := hide (Below.up hB.out hb)
  clear hb hyr
  obtain ⟨k, hk⟩ : ∃ k, k = putK l x := ⟨_, rfl⟩
  have hkl : k ≤ n := by rw [hk, ← hll.out]; exact putK_le l x
  have hk' := hide hk
  rw [← hk]
  clear hk
  obtain ⟨c0, c1, c2, cf⟩ := row3 hK.out
  cases hf : putFound l x
  · have hF := hide hf
    clear hf
    go_wp2_with fail
    clear c0 c1 c2 cf
    have hv := heap_alloc_new w2 (.cells #[.string x.fSort, .int .i64 x.fYear, .int .i64 x.fBundles] 106)
    refine (insert_any (.slice A' n c') n k l x w2.heap.size 1 w.heap.size _ (hO.out.below ((Below.refl _ _).alloc (Nat.le_refl _) _)) (by omega) (by simp; have := hB.out.size; omega) hv hkl (hO.out.ne_newH)).mono ?_
    rintro e w3 ⟨V', rfl, ho3, hg3⟩
    have hO3 := hide ho3
    have hB3 := hide (((hO.out.below ((Below.refl _ _).alloc (Nat.le_refl _) _)).grown (hB.out.alloc hB.out.size (.cells #[.string x.fSort, .int .i64 x.fYear, .int .i64 x.fBundles] 106)) hg3))
    clear ho3 hg3 hv
    go_wp2
    go_ret
    refine ⟨V', rfl, ?_, hB3.out⟩
    obtain ⟨h1, h2⟩ := put_len_no hF.out
    rw [h2, h1, hll.out, ← hk'.out]
    exact hO3.out
  · have hF := hide hf
    clear hf
    obtain ⟨y, hy, e1, e2, hlt, hat⟩ := found_at hF.out
    rw [← hk'.out] at hy hlt
    have hkn : k < n := by have := hll.out; omega
    have hyb := hbl y (List.mem_of_getElem? hy)
    rcases hO.out.form with ⟨_, h0, _⟩ | ⟨g, cap, hV, hbg, hgl, _, _⟩
    · omega
    injection hV with hV1 _ hV2
    subst hV1 hV2
    obtain ⟨y', hy', d0, d1, d2, f0, f1, f2⟩ := hO.out.Heap_at hkn
    rw [hy] at hy'
    obtain rfl := Option.some.inj hy'
    have hY := hide hy
    have hE := hide (show hPut l x = l.set k ⟨y.fSort, y.fYear, y.fBundles + x.fBundles⟩ by rw [hPut_found hF.out, ← hk'.out, hat, e1, e2, Int.add_comm])
    have hwr : IntKind.i64.wrap (y.fBundles + x.fBundles) = y.fBundles + x.fBundles := IntWalk.i64_in _ (by omega)
    have hi0 : (0 : Int) ≤ (k : Int) := by omega
    have hi1 : (k : Int) < (n : Int) := by omega
    clear hy hy' hat e1 e2 hlt hyb hbl hbx hs d0 d1 f0 f1 c0 c1
    go_wp2_with fail
    go_region
    have hO2 := hide (hO.out.cell (k := k) (j := 2) (x := y) (x' := (⟨y.fSort, y.fYear, y.fBundles + x.fBundles⟩ : Heap)) (u := .int .i64 (y.fBundles + x.fBundles)) Heap.len hY.out (by omega) rfl)
    have hB2 := hide (hB.out.setCell (p := ⟨g, k * 3 + 2, none⟩) hbg (.int .i64 (y.fBundles + x.fBundles)))
    have hBd := hide (below_drewN hB2.out 1)
    have hOd := hide (hO2.out.below (below_drewN (Below.refl _ _) 1))
    clear hO2 hB2 d2 f2 c2 cf
    go_wp2
    go_ret
    refine ⟨_, rfl, ?_, hBd.out⟩
    have hln : (l.set k ⟨y.fSort, y.fYear, y.fBundles + x.fBundles⟩).length = n := by rw [List.length_set]; exact hll.out
    rw [hE.out, hln]
    exact hOd.out
end Go.Proofs.YtfpaejlipaainaaGreatDoor
namespace Go.Proofs.YtfpaejlipaainaaGreatDoor
open Go.ChangeShapes Go.WideShapes Go.ChangeAt Go.RowKit Go.Deep
set_option maxRecDepth 100000
def Far2 (a b : Value) : Prop := ∀ g, a.ownBlock = some g → b.ownBlock ≠ some g
theorem Far2.symm {a b : Value} (h : Far2 a b) : Far2 b a := fun g hb ha => h g ha hb
theorem Far2.ne {a b : Value} (h : Far2 a b) : a.ownBlock = none ∨ a.ownBlock ≠ b.ownBlock := by
  cases ha : a.ownBlock with
  | none => exact .inl rfl
  | some g => exact .inr (fun e => h g ha e.symm)
theorem Own.lt2 {α : Type} {cells : α → List Value} {e s : Nat} {w : World} {base : Nat} {v : Value} {n : Nat} {l : List α} (h : Own cells e s w base v n l) : ∀ g, v.ownBlock = some g → base ≤ g ∧ g < w.heap.size := h.2.lt
theorem Far2.moved {α : Type} {cells : α → List Value} {e s : Nat} {w : World} {base : Nat} {v v' u : Value} {n : Nat} {l : List α} {H : Nat} (hv : Far2 v v') (h : Own cells e s w base v' n l) (hat : u.ownBlock = v.ownBlock ∨ u.ownBlock = some H) (hH : w.heap.size ≤ H) : Far2 u v' := by
  intro g h1 h2
  rcases hat with e | e
  · rw [e] at h1; exact hv g h1 h2
  · rw [e] at h1
    injection h1 with h1
    have := (h.lt2 g h2).2
    omega
theorem Far2.new {α : Type} {cells : α → List Value} {e s : Nat} {w : World} {base : Nat} {v v' : Value} {n : Nat} {l : List α} {H : Nat} (h : Own cells e s w base v' n l) (hv : v.ownBlock = some H) (hH : w.heap.size ≤ H) : Far2 v v' := by
  intro g h1 h2
  rw [hv] at h1
  injection h1 with h1
  have := (h.lt2 g h2).2
  omega
end Go.Proofs.YtfpaejlipaainaaGreatDoor
namespace Go.Proofs.YtfpaejlipaainaaGreatDoor
open Go.ChangeShapes Go.WideShapes Go.ChangeAt Go.RowKit Go.Deep
set_option maxRecDepth 100000
theorem srt_of_ok {l : List Heap} (h : heapsOk l = true) : Srt l := by
  unfold heapsOk at h
  rw [Bool.and_eq_true, List.all_eq_true] at h
  have step : ∀ (k : Nat) (a b : Heap), l[k]? = some a → l[k + 1]? = some b → hLt a b = true := by
    intro k a b ha hb
    have h1 := h.1 (k + 1) (List.mem_range.2 (lt_of_get hb))
    rw [heapPair_pos hb (by omega) (by simpa using ha), Bool.and_eq_true] at h1
    exact h1.2
  have key : ∀ (d i : Nat) (a b : Heap), l[i]? = some a → l[i + d + 1]? = some b → hLt a b = true := by
    intro d
    induction d with
    | zero => intro i a b ha hb; exact step i a b ha hb
    | succ d ih =>
      intro i a b ha hb
      have hl := lt_of_get hb
      have hm : l[i + d + 1]? = some l[i + d + 1] := List.getElem?_eq_getElem (by omega)
      exact hLt_trans (ih i a _ ha hm) (step (i + d + 1) _ b hm hb)
  unfold Srt
  rw [List.pairwise_iff_getElem]
  intro i j hi hj hij
  have := key (j - i - 1) i l[i] l[j] (List.getElem?_eq_getElem hi) (by rw [show i + (j - i - 1) + 1 = j by omega]; exact List.getElem?_eq_getElem hj)
  exact this
def mPutC (l : List Heap) (x : Heap) : Int := if heapsOk l then (if x.ok then (if heapsOk (hPut l x) then 0 else 5) else 2) else 1
def mPutL (l : List Heap) (x : Heap) : List Heap := if mPutC l x = 0 then hPut l x else []
theorem mPut_none {l : List Heap} {x : Heap} {c : Int} (h : mPutC l x = c) (hc : ¬ c = 0) : mPutL l x = [] := by unfold mPutL; rw [h, if_neg hc]
theorem put_fits {l : List Heap} {x : Heap} (hf : ∀ z ∈ l, z.fits) (hx : x.fits) : ∀ z ∈ hPut l x, z.fits := by
  intro z hz
  rcases put_mem hz with h | ⟨h, _⟩
  · exact hf z h
  · show z.fSort.size ≤ maxLen
    rw [h]; exact hx
set_option maxHeartbeats 1000000 in
theorem iPutH_any (A : Option Addr) (n c : Nat) (l : List Heap) (w : World) (hn : n ≤ 1048576) (hf : ∀ z ∈ l, z.fits) (hr : Arr Heap.cells 3 w w.heap.size A n l) (x : Heap) (hx : x.fits) :
    Calls Tryz.prog 69 #[.slice A n c, .agg #[.string x.fSort, .int .i64 x.fYear, .int .i64 x.fBundles]] w fun e w' => ∃ v, e = .returned (.tuple #[v, .int .i64 (mPutC l x)]) ∧ Res Heap.cells 106 3 w' w.heap.size v (mPutL l x).length (mPutL l x) ∧ Below w.heap.size w w' := by
  have hl := hide hr.len
  have hK := hide (heap_alloc_new w (.cells #[.string x.fSort, .int .i64 x.fYear, .int .i64 x.fBundles] 106))
  have hB : Hid (Below w.heap.size w (w.alloc (.cells #[.string x.fSort, .int .i64 x.fYear, .int .i64 x.fBundles] 106))) := hide ((Below.refl _ _).alloc (Nat.le_refl _) _)
  cases hok0 : heapsOk l
  · have hok := hide hok0
    have hm : Hid (mPutC l x = 1) := hide (by simp [mPutC, hok0])
    clear hok0
    have hm2 : Hid (mPutL l x = []) := hide (mPut_none hm.out (by omega))
    go_enter Tryz.func69, Tryz.ntmps69
    go_wp2_with (first | (go_at_call 63; refine (iHeaps_any A n c l _ hn hf (hr.go hB.out)).mono ?_; rw [hok.out]; rintro e w1 ⟨rfl, hb⟩; replace hK := hide (keepr3 hK.out hb); replace hB := hide (Below.up hB.out hb); clear hb; obtain ⟨k0, k1, k2, kf⟩ := row3 hK.out) | fail)
    go_ret2; exact ⟨_, by rw [hm.out]; rfl, by rw [hm2.out]; exact Res.empty (Nat.zero_le _), hB.out⟩
  have hok := hide hok0
  have h20 := heapsOk_len hok0
  have hn20 : n ≤ 20 := by rw [← hl.out]; exact h20
  have hat := fun (z : Heap) (hz : z ∈ l) => heapsOk_at hok0 hz
  have hsr := srt_of_ok hok0
  cases hxo0 : x.ok
  · have hxo := hide hxo0
    have hm : Hid (mPutC l x = 2) := hide (by simp [mPutC, hok0, hxo0])
    clear hok0 hxo0 h20 hat hsr
    have hm2 : Hid (mPutL l x = []) := hide (mPut_none hm.out (by omega))
    go_enter Tryz.func69, Tryz.ntmps69
    go_wp2_with (first | (go_at_call 63; refine (iHeaps_any A n c l _ hn hf (hr.go hB.out)).mono ?_; rw [hok.out]; rintro e w1 ⟨rfl, hb⟩; replace hK := hide (keepr3 hK.out hb); replace hB := hide (Below.up hB.out hb); clear hb; obtain ⟨k0, k1, k2, kf⟩ := row3 hK.out) | (go_at_call 114; refine (iHeap_any x _ hx).mono ?_; rw [hxo.out]; rintro e w2 ⟨rfl, hb⟩; clear k0 k1 k2 kf; replace hK := hide (keepr3 hK.out hb); replace hB := hide (Below.up hB.out hb); clear hb; obtain ⟨k0, k1, k2, kf⟩ := row3 hK.out) | fail)
    go_ret2; exact ⟨_, by rw [hm.out]; rfl, by rw [hm2.out]; exact Res.empty (Nat.zero_le _), hB.out⟩
  have hxo := hide hxo0
  obtain ⟨_, hx3, hx4⟩ := Heap.ok_iff.1 hxo0
  have hpf := put_fits hf hx
  have hpl := hPut_len l x
  cases hok20 : heapsOk (hPut l x)
  · have hok2 := hide hok20
    have hm : Hid (mPutC l x = 5) := hide (by simp [mPutC, hok0, hxo0, hok20])
    have hm2 : Hid (mPutL l x = []) := hide (mPut_none hm.out (by omega))
    clear hok0 hxo0 hok20
    go_enter Tryz.func69, Tryz.ntmps69
    go_upto_region 5 with (first | (go_at_call 63; refine (iHeaps_any A n c l _ hn hf (hr.go hB.out)).mono ?_; rw [hok.out]; rintro e w1 ⟨rfl, hb⟩; replace hK := hide (keepr3 hK.out hb); replace hB := hide (Below.up hB.out hb); clear hb; obtain ⟨k0, k1, k2, kf⟩ := row3 hK.out) | (go_at_call 114; refine (iHeap_any x _ hx).mono ?_; rw [hxo.out]; rintro e w2 ⟨rfl, hb⟩; clear k0 k1 k2 kf; replace hK := hide (keepr3 hK.out hb); replace hB := hide (Below.up hB.out hb); clear hb; obtain ⟨k0, k1, k2, kf⟩ := row3 hK.out) | fail)
    obtain ⟨q0, q1, q2, qf⟩ := row3 hK.out
    go_wp2_with (first | (go_at_call 120; refine (iPut_any A n c l x _ (by omega) (hr.go hB.out) (fun z hz => (hat z hz).1) hx3.1 hx3.2 hsr (fun z hz => by have := (hat z hz).2; omega) (by omega)).mono ?_; rintro e w3 ⟨V, rfl, hoV, hb⟩; have hO := hide (hoV.less hB.out.size); obtain ⟨A2, c2, rfl, _⟩ := hoV.slice; replace hB := hide (Below.up hB.out hb); clear hb hoV) | (go_at_call 63; refine (iHeaps_any A2 _ c2 (hPut l x) _ (by omega) hpf (hO.out.arr Heap.len)).mono ?_; rw [hok2.out]; rintro e w4 ⟨rfl, hb⟩; replace hO := hide (hO.out.below hb); replace hB := hide (Below.up hB.out hb); clear hb) | fail)
    go_ret2; exact ⟨_, by rw [hm.out]; rfl, by rw [hm2.out]; exact Res.empty (Nat.zero_le _), hB.out⟩
  · have hok2 := hide hok20
    have hm : Hid (mPutC l x = 0) := hide (by simp [mPutC, hok0, hxo0, hok20])
    have hm2 : Hid (mPutL l x = hPut l x) := hide (by unfold mPutL; rw [hm.out]; rfl)
    clear hok0 hxo0 hok20
    go_enter Tryz.func69, Tryz.ntmps69
    go_upto_region 5 with (first | (go_at_call 63; refine (iHeaps_any A n c l _ hn hf (hr.go hB.out)).mono ?_; rw [hok.out]; rintro e w1 ⟨rfl, hb⟩; replace hK := hide (keepr3 hK.out hb); replace hB := hide (Below.up hB.out hb); clear hb; obtain ⟨k0, k1, k2, kf⟩ := row3 hK.out) | (go_at_call 114; refine (iHeap_any x _ hx).mono ?_; rw [hxo.out]; rintro e w2 ⟨rfl, hb⟩; clear k0 k1 k2 kf; replace hK := hide (keepr3 hK.out hb); replace hB := hide (Below.up hB.out hb); clear hb; obtain ⟨k0, k1, k2, kf⟩ := row3 hK.out) | fail)
    obtain ⟨q0, q1, q2, qf⟩ := row3 hK.out
    go_wp2_with (first | (go_at_call 120; refine (iPut_any A n c l x _ (by omega) (hr.go hB.out) (fun z hz => (hat z hz).1) hx3.1 hx3.2 hsr (fun z hz => by have := (hat z hz).2; omega) (by omega)).mono ?_; rintro e w3 ⟨V, rfl, hoV, hb⟩; have hO := hide (hoV.less hB.out.size); obtain ⟨A2, c2, rfl, _⟩ := hoV.slice; replace hB := hide (Below.up hB.out hb); clear hb hoV) | (go_at_call 63; refine (iHeaps_any A2 _ c2 (hPut l x) _ (by omega) hpf (hO.out.arr Heap.len)).mono ?_; rw [hok2.out]; rintro e w4 ⟨rfl, hb⟩; replace hO := hide (hO.out.below hb); replace hB := hide (Below.up hB.out hb); clear hb) | fail)
    go_ret2; exact ⟨_, by rw [hm.out]; rfl, by rw [hm2.out]; exact hO.out.res, hB.out⟩
end Go.Proofs.YtfpaejlipaainaaGreatDoor
namespace Go.Proofs.YtfpaejlipaainaaGreatDoor
open Go.ChangeShapes Go.WideShapes Go.ChangeAt Go.RowKit Go.Deep
set_option maxRecDepth 100000
def heapB (x : Heap) : ByteArray := x.fSort ++ ⟨#[32]⟩ ++ decB x.fYear ++ ⟨#[32]⟩ ++ decB x.fBundles
def mHeapT (x : Heap) : ByteArray := if x.ok = true then heapB x else ⟨#[]⟩
set_option maxHeartbeats 1000000 in
theorem iHeapT_any (x : Heap) (w : World) (hx : x.fits) (hG : Gl w) :
    Calls Tryz.prog 70 #[.agg #[.string x.fSort, .int .i64 x.fYear, .int .i64 x.fBundles]] w fun e w' => e = .returned (.string (mHeapT x)) ∧ Below w.heap.size w w' := by
  have hGh := hide hG
  clear hG
  have k0 : (w.alloc (.cells #[.string x.fSort, .int .i64 x.fYear, .int .i64 x.fBundles] 106)).cell? ⟨w.heap.size, 0, none⟩ = some (.string x.fSort) := by rw [cell_of_row _ _ _ _ _ _ (heap_alloc_new w _)]; rfl
  have k1 : (w.alloc (.cells #[.string x.fSort, .int .i64 x.fYear, .int .i64 x.fBundles] 106)).cell? ⟨w.heap.size, 1, none⟩ = some (.int .i64 x.fYear) := by rw [cell_of_row _ _ _ _ _ _ (heap_alloc_new w _)]; rfl
  have k2 : (w.alloc (.cells #[.string x.fSort, .int .i64 x.fYear, .int .i64 x.fBundles] 106)).cell? ⟨w.heap.size, 2, none⟩ = some (.int .i64 x.fBundles) := by rw [cell_of_row _ _ _ _ _ _ (heap_alloc_new w _)]; rfl
  have hB := hide ((Below.refl w.heap.size w).alloc (Nat.le_refl _) (.cells #[.string x.fSort, .int .i64 x.fYear, .int .i64 x.fBundles] 106))
  have hz : w.heap.size < (w.alloc (.cells #[.string x.fSort, .int .i64 x.fYear, .int .i64 x.fBundles] 106)).heap.size := by simp
  cases hk : x.ok
  · have hm : Hid (mHeapT x = ⟨#[]⟩) := hide (by unfold mHeapT; rw [hk]; rfl)
    go_enter Tryz.func70, Tryz.ntmps70
    go_wp2_with (go_at_call 114; refine (iHeap_any x _ hx).mono ?_; rintro e w2 ⟨rfl, hb⟩; have hB2 := hide (Below.up hB.out hb); clear hb)
    go_ret
    exact ⟨by rw [hm.out]; rfl, hB2.out⟩
  have hm : Hid (mHeapT x = heapB x) := hide (by unfold mHeapT; rw [if_pos hk])
  obtain ⟨_, ⟨b1, b2⟩, b3, b4⟩ := Heap.ok_iff.1 hk
  have s1 := name_size (Heap.ok_iff.1 hk).1
  have s2 := decB_size x.fYear (by omega) (by omega)
  have s3 := decB_size x.fBundles (by omega) (by omega)
  have j1 := cat_run x.fSort ⟨#[32]⟩ (by simp only [one_size]; omega)
  have j2 := cat_run (x.fSort ++ ⟨#[32]⟩) (decB x.fYear) (by simp only [ByteArray.size_append, one_size]; omega)
  have j3 := cat_run (x.fSort ++ ⟨#[32]⟩ ++ decB x.fYear) ⟨#[32]⟩ (by simp only [ByteArray.size_append, one_size]; omega)
  have j4 := cat_run (x.fSort ++ ⟨#[32]⟩ ++ decB x.fYear ++ ⟨#[32]⟩) (decB x.fBundles) (by simp only [ByteArray.size_append, one_size]; omega)
  have q0 := hide k0
  have q1 := hide k1
  have q2 := hide k2
  go_enter Tryz.func70, Tryz.ntmps70
  go_wp2_with (first | (go_at_call 114; refine (iHeap_any x _ hx).mono ?_; rintro e w2 ⟨rfl, hb⟩; have hB2 := hide (Below.up hB.out hb); have k0 := keepc hb hz q0.out; have k1 := keepc hb hz q1.out; have k2 := keepc hb hz q2.out; have hz2 := Nat.lt_of_lt_of_le hz hb.size; clear hb) | fail)
  have p0 := hide k0
  have p1 := hide k1
  have p2 := hide k2
  have hC := hide (below_drewN (Below.refl w2.heap.size w2) 1)
  go_region_held3 (fun w' => w'.cell? ⟨w.heap.size, 0, none⟩ = some (.string x.fSort) ∧ w'.cell? ⟨w.heap.size, 1, none⟩ = some (.int .i64 x.fYear) ∧ w'.cell? ⟨w.heap.size, 2, none⟩ = some (.int .i64 x.fBundles)) (first | go_keep | exact ⟨keepc hC.out hz2 p0.out, keepc hC.out hz2 p1.out, keepc hC.out hz2 p2.out⟩)
    (first | (go_at_call 36; refine (iDec_any _ _ (by omega) (by omega) (by exact hGh.out.below (Below.up hB2.out hC.out))).mono ?_; rintro e w3 ⟨rfl, hb⟩; replace hC := hide (Below.up hC.out hb); clear hb) | fail)
  all_goals go_wp2
  all_goals go_ret
  all_goals exact ⟨by rw [hm.out]; rfl, Below.up hB2.out hC.out⟩
end Go.Proofs.YtfpaejlipaainaaGreatDoor
namespace Go.Proofs.YtfpaejlipaainaaGreatDoor
open Go.ChangeShapes Go.WideShapes Go.ChangeAt Go.RowKit Go.Deep
set_option maxRecDepth 100000
def hz0 : Heap := ⟨⟨#[]⟩, 0, 0⟩
def rhOk (x : ByteArray) : Bool := match words 32 x with
  | [a, b, c] => rdOk b.data.toList && rdOk c.data.toList && (⟨a, rdNum b.data.toList, rdNum c.data.toList⟩ : Heap).ok
  | _ => false
def rhHeap (x : ByteArray) : Heap := match words 32 x with
  | [a, b, c] => if rhOk x = true then ⟨a, rdNum b.data.toList, rdNum c.data.toList⟩ else hz0
  | _ => hz0
theorem rh_not3 {x : ByteArray} (h : (words 32 x).length ≠ 3) : rhHeap x = hz0 ∧ rhOk x = false := by
  constructor
  · unfold rhHeap; split
    · rename_i hw; rw [hw] at h; exact absurd rfl h
    · rfl
  · unfold rhOk; split
    · rename_i hw; rw [hw] at h; exact absurd rfl h
    · rfl
theorem rh_three {x a b c : ByteArray} (h : words 32 x = [a, b, c]) : rhOk x = (rdOk b.data.toList && rdOk c.data.toList && (⟨a, rdNum b.data.toList, rdNum c.data.toList⟩ : Heap).ok) := by
  unfold rhOk; rw [h]
theorem rh_bad {x : ByteArray} (h : rhOk x = false) : rhHeap x = hz0 := by
  unfold rhHeap; split
  · rw [h]; rfl
  · rfl
theorem rh_good {x a b c : ByteArray} (hw : words 32 x = [a, b, c]) (h : rhOk x = true) : rhHeap x = ⟨a, rdNum b.data.toList, rdNum c.data.toList⟩ := by
  unfold rhHeap; rw [hw]; simp only; rw [if_pos h]
theorem three_in {w w4 : World} (h : Below w.heap.size w w4) (a b c : Value) (O : Obj) : Below w.heap.size w ((((w4.setCell ⟨w.heap.size, 0, none⟩ a).setCell ⟨w.heap.size, 1, none⟩ b).setCell ⟨w.heap.size, 2, none⟩ c).alloc O) := by
  have h5 := ((h.setCell (p := ⟨w.heap.size, 0, none⟩) (Nat.le_refl _) a).setCell (p := ⟨w.heap.size, 1, none⟩) (Nat.le_refl _) b).setCell (p := ⟨w.heap.size, 2, none⟩) (Nat.le_refl _) c
  exact h5.alloc h5.size O
def RH (x : Heap) (ok : Bool) (w : World) (e : Ending) (w' : World) : Prop := e = .returned (.tuple #[.agg #[.string x.fSort, .int .i64 x.fYear, .int .i64 x.fBundles], .bool ok]) ∧ Below w.heap.size w w'
theorem keepb {w w' : World} {g : Nat} {o : Obj} (h : w.heap[g]? = some o) (hb : Below w.heap.size w w') : w'.heap[g]? = some o := (hb.block g (Array.getElem?_eq_some_iff.1 h).1).trans h
set_option maxHeartbeats 1000000 in
theorem iRh_not3 (x : ByteArray) (w : World) (hs : x.size ≤ 1048576) (L : List ByteArray) (hL : L = words 32 x) (h3 : L.length ≠ 3) (hG : Gl w) :
    Calls Tryz.prog 68 #[.string x] w (RH hz0 false w) := by
  have e4 : ((L.length : Int) != 3) = true := by rw [bne_iff_ne]; omega
  clear h3
  have hsp : ∀ W : World, Gl W → Hid (Calls Tryz.prog 27 #[.string x, .string ⟨#[32]⟩] W fun e w' => ∃ v, e = .returned v ∧ Own strc 9 1 w' W.heap.size v L.length L ∧ Below W.heap.size W w') := fun W hg => hide (by rw [hL]; exact iSplit_any 32 x W (by omega) hg)
  have hLh := hide hL
  have hSP := hide hsp
  have hGh := hide hG
  clear hL hsp hG
  have hB := hide ((Below.refl w.heap.size w).alloc (Nat.le_refl _) (.cells #[.string ⟨#[]⟩, .int .i64 0, .int .i64 0] 106))
  go_enter Tryz.func68, Tryz.ntmps68
  go_wp2_with fail
  have hres := hide (heap_alloc_new w (.cells #[.string ⟨#[]⟩, .int .i64 0, .int .i64 0] 106))
  obtain ⟨W1, hW1⟩ : ∃ W1, W1 = w.alloc (.cells #[.string ⟨#[]⟩, .int .i64 0, .int .i64 0] 106) := ⟨_, rfl⟩
  rw [← hW1] at hB hres ⊢
  clear hW1
  refine (hSP.out _ (hGh.out.below hB.out)).out.mono ?_
  rintro e w2 ⟨v2, rfl, ho2, hb⟩
  have hO2 := hide ho2
  replace hB := hide (Below.up hB.out hb)
  replace hres := hide (keepb hres.out hb)
  clear hb ho2
  obtain ⟨Aw, cw, rfl, _⟩ := hO2.out.slice
  have f0 : w2.cell? ⟨w.heap.size, 0, none⟩ = some (.string ⟨#[]⟩) := by rw [cell_of_row _ _ _ _ _ _ hres.out]; rfl
  have f1 : w2.cell? ⟨w.heap.size, 1, none⟩ = some (.int .i64 0) := by rw [cell_of_row _ _ _ _ _ _ hres.out]; rfl
  have f2 : w2.cell? ⟨w.heap.size, 2, none⟩ = some (.int .i64 0) := by rw [cell_of_row _ _ _ _ _ _ hres.out]; rfl
  have ff : ∀ o : Nat, World.frozen? w2 (⟨w.heap.size, o, none⟩ : Addr) = false := fun o => frozen_of_row w2 _ _ _ _ hres.out
  go_wp2
  exact bodyPost_ret (v := .tuple #[.agg #[.string ⟨#[]⟩, .int .i64 0, .int .i64 0], .bool false]) (by simp [results, Tryz.results68, go_sem, f0, f1, f2]) rfl ⟨rfl, ((hB.out.setCell (p := ⟨w.heap.size, 0, none⟩) (Nat.le_refl _) _).setCell (p := ⟨w.heap.size, 1, none⟩) (Nat.le_refl _) _).setCell (p := ⟨w.heap.size, 2, none⟩) (Nat.le_refl _) _⟩
set_option maxHeartbeats 1000000 in
theorem iRh_one (x : ByteArray) (w : World) (hs : x.size ≤ 1048576) (a b c : ByteArray) (hL : [a, b, c] = words 32 x) (ha : a.size ≤ maxLen) (hG : Gl w) (k1 : rdOk b.data.toList = false) :
    Calls Tryz.prog 68 #[.string x] w (RH hz0 false w) := by
  have hu := ha
  clear hu
  have hsp : ∀ W : World, Gl W → Hid (Calls Tryz.prog 27 #[.string x, .string ⟨#[32]⟩] W fun e w' => ∃ v, e = .returned v ∧ Own strc 9 1 w' W.heap.size v [a, b, c].length [a, b, c] ∧ Below W.heap.size W w') := fun W hg => hide (by rw [hL]; exact iSplit_any 32 x W (by omega) hg)
  have hLh := hide hL
  have hSP := hide hsp
  have hGh := hide hG
  clear hL hsp hG
  have hB := hide ((Below.refl w.heap.size w).alloc (Nat.le_refl _) (.cells #[.string ⟨#[]⟩, .int .i64 0, .int .i64 0] 106))
  go_enter Tryz.func68, Tryz.ntmps68
  go_wp2_with fail
  have hres := hide (heap_alloc_new w (.cells #[.string ⟨#[]⟩, .int .i64 0, .int .i64 0] 106))
  obtain ⟨W1, hW1⟩ : ∃ W1, W1 = w.alloc (.cells #[.string ⟨#[]⟩, .int .i64 0, .int .i64 0] 106) := ⟨_, rfl⟩
  rw [← hW1] at hB hres ⊢
  clear hW1
  refine (hSP.out _ (hGh.out.below hB.out)).out.mono ?_
  rintro e w2 ⟨v2, rfl, ho2, hb⟩
  have hO2 := hide ho2
  replace hB := hide (Below.up hB.out hb)
  replace hres := hide (keepb hres.out hb)
  clear hb ho2
  obtain ⟨Aw, cw, rfl, _⟩ := hO2.out.slice
  have hR := hO2.out.arr strc_len
  obtain ⟨bw, ow, x0, rfl, hbl, hx0, z0⟩ := hR.str (k := 0) (by show 0 < 3; omega)
  obtain ⟨_, _, x1, hA1, _, hx1, z1⟩ := hR.str (k := 1) (by show 1 < 3; omega)
  cases hA1
  obtain ⟨_, _, x2, hA2, _, hx2, z2⟩ := hR.str (k := 2) (by show 2 < 3; omega)
  cases hA2
  obtain rfl : a = x0 := by simpa using hx0
  obtain rfl : b = x1 := by simpa using hx1
  obtain rfl : c = x2 := by simpa using hx2
  clear hx0 hx1 hx2 hR hO2
  rw [Nat.add_zero] at z0
  have y0 := hide z0
  have y2 := hide z2
  have hD := hide (Below.refl w2.heap.size w2)
  clear z0 z2
  go_wp2_with fail
  refine (iRead_any b _ (hGh.out.below hB.out)).mono ?_
  rintro e w3 ⟨rfl, hb⟩
  replace hB := hide (Below.up hB.out hb)
  replace hD := hide (Below.up hD.out hb)
  replace hres := hide (keepb hres.out hb)
  clear hb z1
  have z2 := keepc hD.out hbl y2.out
  go_wp2_with fail
  refine (iRead_any c _ (hGh.out.below hB.out)).mono ?_
  rintro e w4 ⟨rfl, hb⟩
  replace hB := hide (Below.up hB.out hb)
  replace hD := hide (Below.up hD.out hb)
  replace hres := hide (keepb hres.out hb)
  clear hb z2
  have z0 := keepc hD.out hbl y0.out
  have j0 : (w4.alloc (.cells #[.string a, .int .i64 (rdNum b.data.toList), .int .i64 (rdNum c.data.toList)] 106)).cell? ⟨w4.heap.size, 0, none⟩ = some (.string a) := by rw [cell_of_row _ _ _ _ _ _ (heap_alloc_new w4 _)]; rfl
  have j1 : (w4.alloc (.cells #[.string a, .int .i64 (rdNum b.data.toList), .int .i64 (rdNum c.data.toList)] 106)).cell? ⟨w4.heap.size, 1, none⟩ = some (.int .i64 (rdNum b.data.toList)) := by rw [cell_of_row _ _ _ _ _ _ (heap_alloc_new w4 _)]; rfl
  have j2 : (w4.alloc (.cells #[.string a, .int .i64 (rdNum b.data.toList), .int .i64 (rdNum c.data.toList)] 106)).cell? ⟨w4.heap.size, 2, none⟩ = some (.int .i64 (rdNum c.data.toList)) := by rw [cell_of_row _ _ _ _ _ _ (heap_alloc_new w4 _)]; rfl
  have hlt4 : w.heap.size < w4.heap.size := blk_lt hres.out
  have g0 : w4.cell? ⟨w.heap.size, 0, none⟩ = some (.string ⟨#[]⟩) := by rw [cell_of_row _ _ _ _ _ _ hres.out]; rfl
  have g1 : w4.cell? ⟨w.heap.size, 1, none⟩ = some (.int .i64 0) := by rw [cell_of_row _ _ _ _ _ _ hres.out]; rfl
  have g2 : w4.cell? ⟨w.heap.size, 2, none⟩ = some (.int .i64 0) := by rw [cell_of_row _ _ _ _ _ _ hres.out]; rfl
  have gf : ∀ o, w4.frozen? ⟨w.heap.size, o, none⟩ = false := fun o => frozen_of_row w4 _ _ _ _ hres.out
  have hne2 : w4.heap.size ≠ w.heap.size := by omega
  have hB4 := hide hB.out
  have hj : w4.heap.size < (w4.alloc (.cells #[.string a, .int .i64 (rdNum b.data.toList), .int .i64 (rdNum c.data.toList)] 106)).heap.size := by simp
  replace hres := hide (keepb hres.out ((Below.refl w4.heap.size w4).alloc (Nat.le_refl _) (.cells #[.string a, .int .i64 (rdNum b.data.toList), .int .i64 (rdNum c.data.toList)] 106)))
  replace hB := hide (hB.out.alloc hB.out.size (.cells #[.string a, .int .i64 (rdNum b.data.toList), .int .i64 (rdNum c.data.toList)] 106))
  have hne0 : w.heap.size ≠ w4.heap.size := by omega
  have f0 : (w4.alloc (.cells #[.string a, .int .i64 (rdNum b.data.toList), .int .i64 (rdNum c.data.toList)] 106)).cell? ⟨w.heap.size, 0, none⟩ = some (.string ⟨#[]⟩) := by rw [cell_of_row _ _ _ _ _ _ hres.out]; rfl
  have f1 : (w4.alloc (.cells #[.string a, .int .i64 (rdNum b.data.toList), .int .i64 (rdNum c.data.toList)] 106)).cell? ⟨w.heap.size, 1, none⟩ = some (.int .i64 0) := by rw [cell_of_row _ _ _ _ _ _ hres.out]; rfl
  have f2 : (w4.alloc (.cells #[.string a, .int .i64 (rdNum b.data.toList), .int .i64 (rdNum c.data.toList)] 106)).cell? ⟨w.heap.size, 2, none⟩ = some (.int .i64 0) := by rw [cell_of_row _ _ _ _ _ _ hres.out]; rfl
  have ff : ∀ o : Nat, World.frozen? (w4.alloc (.cells #[.string a, .int .i64 (rdNum b.data.toList), .int .i64 (rdNum c.data.toList)] 106)) (⟨w.heap.size, o, none⟩ : Addr) = false := fun o => frozen_of_row (w4.alloc (.cells #[.string a, .int .i64 (rdNum b.data.toList), .int .i64 (rdNum c.data.toList)] 106)) _ _ _ _ hres.out
  go_wp2
  exact bodyPost_ret (v := .tuple #[.agg #[.string ⟨#[]⟩, .int .i64 0, .int .i64 0], .bool false]) (by simp [results, Tryz.results68, go_sem, g0, g1, g2, hlt4]) rfl ⟨rfl, three_in hB4.out _ _ _ _⟩
set_option maxHeartbeats 1000000 in
theorem iRh_two (x : ByteArray) (w : World) (hs : x.size ≤ 1048576) (a b c : ByteArray) (hL : [a, b, c] = words 32 x) (ha : a.size ≤ maxLen) (hG : Gl w) (k1 : rdOk b.data.toList = true) (k2 : rdOk c.data.toList = false) :
    Calls Tryz.prog 68 #[.string x] w (RH hz0 false w) := by
  have hu := ha
  clear hu
  have hsp : ∀ W : World, Gl W → Hid (Calls Tryz.prog 27 #[.string x, .string ⟨#[32]⟩] W fun e w' => ∃ v, e = .returned v ∧ Own strc 9 1 w' W.heap.size v [a, b, c].length [a, b, c] ∧ Below W.heap.size W w') := fun W hg => hide (by rw [hL]; exact iSplit_any 32 x W (by omega) hg)
  have hLh := hide hL
  have hSP := hide hsp
  have hGh := hide hG
  clear hL hsp hG
  have hB := hide ((Below.refl w.heap.size w).alloc (Nat.le_refl _) (.cells #[.string ⟨#[]⟩, .int .i64 0, .int .i64 0] 106))
  go_enter Tryz.func68, Tryz.ntmps68
  go_wp2_with fail
  have hres := hide (heap_alloc_new w (.cells #[.string ⟨#[]⟩, .int .i64 0, .int .i64 0] 106))
  obtain ⟨W1, hW1⟩ : ∃ W1, W1 = w.alloc (.cells #[.string ⟨#[]⟩, .int .i64 0, .int .i64 0] 106) := ⟨_, rfl⟩
  rw [← hW1] at hB hres ⊢
  clear hW1
  refine (hSP.out _ (hGh.out.below hB.out)).out.mono ?_
  rintro e w2 ⟨v2, rfl, ho2, hb⟩
  have hO2 := hide ho2
  replace hB := hide (Below.up hB.out hb)
  replace hres := hide (keepb hres.out hb)
  clear hb ho2
  obtain ⟨Aw, cw, rfl, _⟩ := hO2.out.slice
  have hR := hO2.out.arr strc_len
  obtain ⟨bw, ow, x0, rfl, hbl, hx0, z0⟩ := hR.str (k := 0) (by show 0 < 3; omega)
  obtain ⟨_, _, x1, hA1, _, hx1, z1⟩ := hR.str (k := 1) (by show 1 < 3; omega)
  cases hA1
  obtain ⟨_, _, x2, hA2, _, hx2, z2⟩ := hR.str (k := 2) (by show 2 < 3; omega)
  cases hA2
  obtain rfl : a = x0 := by simpa using hx0
  obtain rfl : b = x1 := by simpa using hx1
  obtain rfl : c = x2 := by simpa using hx2
  clear hx0 hx1 hx2 hR hO2
  rw [Nat.add_zero] at z0
  have y0 := hide z0
  have y2 := hide z2
  have hD := hide (Below.refl w2.heap.size w2)
  clear z0 z2
  go_wp2_with fail
  refine (iRead_any b _ (hGh.out.below hB.out)).mono ?_
  rintro e w3 ⟨rfl, hb⟩
  replace hB := hide (Below.up hB.out hb)
  replace hD := hide (Below.up hD.out hb)
  replace hres := hide (keepb hres.out hb)
  clear hb z1
  have z2 := keepc hD.out hbl y2.out
  go_wp2_with fail
  refine (iRead_any c _ (hGh.out.below hB.out)).mono ?_
  rintro e w4 ⟨rfl, hb⟩
  replace hB := hide (Below.up hB.out hb)
  replace hD := hide (Below.up hD.out hb)
  replace hres := hide (keepb hres.out hb)
  clear hb z2
  have z0 := keepc hD.out hbl y0.out
  have j0 : (w4.alloc (.cells #[.string a, .int .i64 (rdNum b.data.toList), .int .i64 (rdNum c.data.toList)] 106)).cell? ⟨w4.heap.size, 0, none⟩ = some (.string a) := by rw [cell_of_row _ _ _ _ _ _ (heap_alloc_new w4 _)]; rfl
  have j1 : (w4.alloc (.cells #[.string a, .int .i64 (rdNum b.data.toList), .int .i64 (rdNum c.data.toList)] 106)).cell? ⟨w4.heap.size, 1, none⟩ = some (.int .i64 (rdNum b.data.toList)) := by rw [cell_of_row _ _ _ _ _ _ (heap_alloc_new w4 _)]; rfl
  have j2 : (w4.alloc (.cells #[.string a, .int .i64 (rdNum b.data.toList), .int .i64 (rdNum c.data.toList)] 106)).cell? ⟨w4.heap.size, 2, none⟩ = some (.int .i64 (rdNum c.data.toList)) := by rw [cell_of_row _ _ _ _ _ _ (heap_alloc_new w4 _)]; rfl
  have hlt4 : w.heap.size < w4.heap.size := blk_lt hres.out
  have g0 : w4.cell? ⟨w.heap.size, 0, none⟩ = some (.string ⟨#[]⟩) := by rw [cell_of_row _ _ _ _ _ _ hres.out]; rfl
  have g1 : w4.cell? ⟨w.heap.size, 1, none⟩ = some (.int .i64 0) := by rw [cell_of_row _ _ _ _ _ _ hres.out]; rfl
  have g2 : w4.cell? ⟨w.heap.size, 2, none⟩ = some (.int .i64 0) := by rw [cell_of_row _ _ _ _ _ _ hres.out]; rfl
  have gf : ∀ o, w4.frozen? ⟨w.heap.size, o, none⟩ = false := fun o => frozen_of_row w4 _ _ _ _ hres.out
  have hne2 : w4.heap.size ≠ w.heap.size := by omega
  have hB4 := hide hB.out
  have hj : w4.heap.size < (w4.alloc (.cells #[.string a, .int .i64 (rdNum b.data.toList), .int .i64 (rdNum c.data.toList)] 106)).heap.size := by simp
  replace hres := hide (keepb hres.out ((Below.refl w4.heap.size w4).alloc (Nat.le_refl _) (.cells #[.string a, .int .i64 (rdNum b.data.toList), .int .i64 (rdNum c.data.toList)] 106)))
  replace hB := hide (hB.out.alloc hB.out.size (.cells #[.string a, .int .i64 (rdNum b.data.toList), .int .i64 (rdNum c.data.toList)] 106))
  have hne0 : w.heap.size ≠ w4.heap.size := by omega
  have f0 : (w4.alloc (.cells #[.string a, .int .i64 (rdNum b.data.toList), .int .i64 (rdNum c.data.toList)] 106)).cell? ⟨w.heap.size, 0, none⟩ = some (.string ⟨#[]⟩) := by rw [cell_of_row _ _ _ _ _ _ hres.out]; rfl
  have f1 : (w4.alloc (.cells #[.string a, .int .i64 (rdNum b.data.toList), .int .i64 (rdNum c.data.toList)] 106)).cell? ⟨w.heap.size, 1, none⟩ = some (.int .i64 0) := by rw [cell_of_row _ _ _ _ _ _ hres.out]; rfl
  have f2 : (w4.alloc (.cells #[.string a, .int .i64 (rdNum b.data.toList), .int .i64 (rdNum c.data.toList)] 106)).cell? ⟨w.heap.size, 2, none⟩ = some (.int .i64 0) := by rw [cell_of_row _ _ _ _ _ _ hres.out]; rfl
  have ff : ∀ o : Nat, World.frozen? (w4.alloc (.cells #[.string a, .int .i64 (rdNum b.data.toList), .int .i64 (rdNum c.data.toList)] 106)) (⟨w.heap.size, o, none⟩ : Addr) = false := fun o => frozen_of_row (w4.alloc (.cells #[.string a, .int .i64 (rdNum b.data.toList), .int .i64 (rdNum c.data.toList)] 106)) _ _ _ _ hres.out
  go_wp2
  exact bodyPost_ret (v := .tuple #[.agg #[.string ⟨#[]⟩, .int .i64 0, .int .i64 0], .bool false]) (by simp [results, Tryz.results68, go_sem, g0, g1, g2, hlt4]) rfl ⟨rfl, three_in hB4.out _ _ _ _⟩
set_option maxHeartbeats 1000000 in
theorem iRh_notok (x : ByteArray) (w : World) (hs : x.size ≤ 1048576) (a b c : ByteArray) (hL : [a, b, c] = words 32 x) (ha : a.size ≤ maxLen) (hG : Gl w) (k1 : rdOk b.data.toList = true) (k2 : rdOk c.data.toList = true) (k3 : (⟨a, rdNum b.data.toList, rdNum c.data.toList⟩ : Heap).ok = false) :
    Calls Tryz.prog 68 #[.string x] w (RH hz0 false w) := by
  have hsp : ∀ W : World, Gl W → Hid (Calls Tryz.prog 27 #[.string x, .string ⟨#[32]⟩] W fun e w' => ∃ v, e = .returned v ∧ Own strc 9 1 w' W.heap.size v [a, b, c].length [a, b, c] ∧ Below W.heap.size W w') := fun W hg => hide (by rw [hL]; exact iSplit_any 32 x W (by omega) hg)
  have hLh := hide hL
  have hSP := hide hsp
  have hGh := hide hG
  clear hL hsp hG
  have hB := hide ((Below.refl w.heap.size w).alloc (Nat.le_refl _) (.cells #[.string ⟨#[]⟩, .int .i64 0, .int .i64 0] 106))
  go_enter Tryz.func68, Tryz.ntmps68
  go_wp2_with fail
  have hres := hide (heap_alloc_new w (.cells #[.string ⟨#[]⟩, .int .i64 0, .int .i64 0] 106))
  obtain ⟨W1, hW1⟩ : ∃ W1, W1 = w.alloc (.cells #[.string ⟨#[]⟩, .int .i64 0, .int .i64 0] 106) := ⟨_, rfl⟩
  rw [← hW1] at hB hres ⊢
  clear hW1
  refine (hSP.out _ (hGh.out.below hB.out)).out.mono ?_
  rintro e w2 ⟨v2, rfl, ho2, hb⟩
  have hO2 := hide ho2
  replace hB := hide (Below.up hB.out hb)
  replace hres := hide (keepb hres.out hb)
  clear hb ho2
  obtain ⟨Aw, cw, rfl, _⟩ := hO2.out.slice
  have hR := hO2.out.arr strc_len
  obtain ⟨bw, ow, x0, rfl, hbl, hx0, z0⟩ := hR.str (k := 0) (by show 0 < 3; omega)
  obtain ⟨_, _, x1, hA1, _, hx1, z1⟩ := hR.str (k := 1) (by show 1 < 3; omega)
  cases hA1
  obtain ⟨_, _, x2, hA2, _, hx2, z2⟩ := hR.str (k := 2) (by show 2 < 3; omega)
  cases hA2
  obtain rfl : a = x0 := by simpa using hx0
  obtain rfl : b = x1 := by simpa using hx1
  obtain rfl : c = x2 := by simpa using hx2
  clear hx0 hx1 hx2 hR hO2
  rw [Nat.add_zero] at z0
  have y0 := hide z0
  have y2 := hide z2
  have hD := hide (Below.refl w2.heap.size w2)
  clear z0 z2
  go_wp2_with fail
  refine (iRead_any b _ (hGh.out.below hB.out)).mono ?_
  rintro e w3 ⟨rfl, hb⟩
  replace hB := hide (Below.up hB.out hb)
  replace hD := hide (Below.up hD.out hb)
  replace hres := hide (keepb hres.out hb)
  clear hb z1
  have z2 := keepc hD.out hbl y2.out
  go_wp2_with fail
  refine (iRead_any c _ (hGh.out.below hB.out)).mono ?_
  rintro e w4 ⟨rfl, hb⟩
  replace hB := hide (Below.up hB.out hb)
  replace hD := hide (Below.up hD.out hb)
  replace hres := hide (keepb hres.out hb)
  clear hb z2
  have z0 := keepc hD.out hbl y0.out
  have j0 : (w4.alloc (.cells #[.string a, .int .i64 (rdNum b.data.toList), .int .i64 (rdNum c.data.toList)] 106)).cell? ⟨w4.heap.size, 0, none⟩ = some (.string a) := by rw [cell_of_row _ _ _ _ _ _ (heap_alloc_new w4 _)]; rfl
  have j1 : (w4.alloc (.cells #[.string a, .int .i64 (rdNum b.data.toList), .int .i64 (rdNum c.data.toList)] 106)).cell? ⟨w4.heap.size, 1, none⟩ = some (.int .i64 (rdNum b.data.toList)) := by rw [cell_of_row _ _ _ _ _ _ (heap_alloc_new w4 _)]; rfl
  have j2 : (w4.alloc (.cells #[.string a, .int .i64 (rdNum b.data.toList), .int .i64 (rdNum c.data.toList)] 106)).cell? ⟨w4.heap.size, 2, none⟩ = some (.int .i64 (rdNum c.data.toList)) := by rw [cell_of_row _ _ _ _ _ _ (heap_alloc_new w4 _)]; rfl
  have hlt4 : w.heap.size < w4.heap.size := blk_lt hres.out
  have g0 : w4.cell? ⟨w.heap.size, 0, none⟩ = some (.string ⟨#[]⟩) := by rw [cell_of_row _ _ _ _ _ _ hres.out]; rfl
  have g1 : w4.cell? ⟨w.heap.size, 1, none⟩ = some (.int .i64 0) := by rw [cell_of_row _ _ _ _ _ _ hres.out]; rfl
  have g2 : w4.cell? ⟨w.heap.size, 2, none⟩ = some (.int .i64 0) := by rw [cell_of_row _ _ _ _ _ _ hres.out]; rfl
  have gf : ∀ o, w4.frozen? ⟨w.heap.size, o, none⟩ = false := fun o => frozen_of_row w4 _ _ _ _ hres.out
  have hne2 : w4.heap.size ≠ w.heap.size := by omega
  have hB4 := hide hB.out
  have hj : w4.heap.size < (w4.alloc (.cells #[.string a, .int .i64 (rdNum b.data.toList), .int .i64 (rdNum c.data.toList)] 106)).heap.size := by simp
  replace hres := hide (keepb hres.out ((Below.refl w4.heap.size w4).alloc (Nat.le_refl _) (.cells #[.string a, .int .i64 (rdNum b.data.toList), .int .i64 (rdNum c.data.toList)] 106)))
  replace hB := hide (hB.out.alloc hB.out.size (.cells #[.string a, .int .i64 (rdNum b.data.toList), .int .i64 (rdNum c.data.toList)] 106))
  have hne0 : w.heap.size ≠ w4.heap.size := by omega
  go_wp2_with (first | (go_at_call 114; refine (iHeap_any (⟨a, rdNum b.data.toList, rdNum c.data.toList⟩ : Heap) _ ha).mono ?_; rintro e w6 ⟨rfl, hb⟩; have hB0 := hide (Below.up hB.out hb); have hres6 := hide (keepb hres.out hb); have i0 := keepc hb hj j0; have i1 := keepc hb hj j1; have i2 := keepc hb hj j2; clear hb; have f0 : w6.cell? ⟨w.heap.size, 0, none⟩ = some (.string ⟨#[]⟩) := (by rw [cell_of_row _ _ _ _ _ _ hres6.out]; rfl); have f1 : w6.cell? ⟨w.heap.size, 1, none⟩ = some (.int .i64 0) := (by rw [cell_of_row _ _ _ _ _ _ hres6.out]; rfl); have f2 : w6.cell? ⟨w.heap.size, 2, none⟩ = some (.int .i64 0) := (by rw [cell_of_row _ _ _ _ _ _ hres6.out]; rfl); have ff : ∀ o : Nat, World.frozen? w6 (⟨w.heap.size, o, none⟩ : Addr) = false := (fun o => frozen_of_row w6 _ _ _ _ hres6.out)) | fail)
  replace hres := hres6
  replace hB := hB0
  exact bodyPost_ret (v := .tuple #[.agg #[.string ⟨#[]⟩, .int .i64 0, .int .i64 0], .bool false]) (by simp [results, Tryz.results68, go_sem, f0, f1, f2]) rfl ⟨rfl, ((hB.out.setCell (p := ⟨w.heap.size, 0, none⟩) (Nat.le_refl _) _).setCell (p := ⟨w.heap.size, 1, none⟩) (Nat.le_refl _) _).setCell (p := ⟨w.heap.size, 2, none⟩) (Nat.le_refl _) _⟩
set_option maxHeartbeats 1000000 in
theorem iRh_good (x : ByteArray) (w : World) (hs : x.size ≤ 1048576) (a b c : ByteArray) (hL : [a, b, c] = words 32 x) (ha : a.size ≤ maxLen) (hG : Gl w) (k1 : rdOk b.data.toList = true) (k2 : rdOk c.data.toList = true) (k3 : (⟨a, rdNum b.data.toList, rdNum c.data.toList⟩ : Heap).ok = true) :
    Calls Tryz.prog 68 #[.string x] w (RH (⟨a, rdNum b.data.toList, rdNum c.data.toList⟩ : Heap) true w) := by
  have hsp : ∀ W : World, Gl W → Hid (Calls Tryz.prog 27 #[.string x, .string ⟨#[32]⟩] W fun e w' => ∃ v, e = .returned v ∧ Own strc 9 1 w' W.heap.size v [a, b, c].length [a, b, c] ∧ Below W.heap.size W w') := fun W hg => hide (by rw [hL]; exact iSplit_any 32 x W (by omega) hg)
  have hLh := hide hL
  have hSP := hide hsp
  have hGh := hide hG
  clear hL hsp hG
  have hB := hide ((Below.refl w.heap.size w).alloc (Nat.le_refl _) (.cells #[.string ⟨#[]⟩, .int .i64 0, .int .i64 0] 106))
  go_enter Tryz.func68, Tryz.ntmps68
  go_wp2_with fail
  have hres := hide (heap_alloc_new w (.cells #[.string ⟨#[]⟩, .int .i64 0, .int .i64 0] 106))
  obtain ⟨W1, hW1⟩ : ∃ W1, W1 = w.alloc (.cells #[.string ⟨#[]⟩, .int .i64 0, .int .i64 0] 106) := ⟨_, rfl⟩
  rw [← hW1] at hB hres ⊢
  clear hW1
  refine (hSP.out _ (hGh.out.below hB.out)).out.mono ?_
  rintro e w2 ⟨v2, rfl, ho2, hb⟩
  have hO2 := hide ho2
  replace hB := hide (Below.up hB.out hb)
  replace hres := hide (keepb hres.out hb)
  clear hb ho2
  obtain ⟨Aw, cw, rfl, _⟩ := hO2.out.slice
  have hR := hO2.out.arr strc_len
  obtain ⟨bw, ow, x0, rfl, hbl, hx0, z0⟩ := hR.str (k := 0) (by show 0 < 3; omega)
  obtain ⟨_, _, x1, hA1, _, hx1, z1⟩ := hR.str (k := 1) (by show 1 < 3; omega)
  cases hA1
  obtain ⟨_, _, x2, hA2, _, hx2, z2⟩ := hR.str (k := 2) (by show 2 < 3; omega)
  cases hA2
  obtain rfl : a = x0 := by simpa using hx0
  obtain rfl : b = x1 := by simpa using hx1
  obtain rfl : c = x2 := by simpa using hx2
  clear hx0 hx1 hx2 hR hO2
  rw [Nat.add_zero] at z0
  have y0 := hide z0
  have y2 := hide z2
  have hD := hide (Below.refl w2.heap.size w2)
  clear z0 z2
  go_wp2_with fail
  refine (iRead_any b _ (hGh.out.below hB.out)).mono ?_
  rintro e w3 ⟨rfl, hb⟩
  replace hB := hide (Below.up hB.out hb)
  replace hD := hide (Below.up hD.out hb)
  replace hres := hide (keepb hres.out hb)
  clear hb z1
  have z2 := keepc hD.out hbl y2.out
  go_wp2_with fail
  refine (iRead_any c _ (hGh.out.below hB.out)).mono ?_
  rintro e w4 ⟨rfl, hb⟩
  replace hB := hide (Below.up hB.out hb)
  replace hD := hide (Below.up hD.out hb)
  replace hres := hide (keepb hres.out hb)
  clear hb z2
  have z0 := keepc hD.out hbl y0.out
  have j0 : (w4.alloc (.cells #[.string a, .int .i64 (rdNum b.data.toList), .int .i64 (rdNum c.data.toList)] 106)).cell? ⟨w4.heap.size, 0, none⟩ = some (.string a) := by rw [cell_of_row _ _ _ _ _ _ (heap_alloc_new w4 _)]; rfl
  have j1 : (w4.alloc (.cells #[.string a, .int .i64 (rdNum b.data.toList), .int .i64 (rdNum c.data.toList)] 106)).cell? ⟨w4.heap.size, 1, none⟩ = some (.int .i64 (rdNum b.data.toList)) := by rw [cell_of_row _ _ _ _ _ _ (heap_alloc_new w4 _)]; rfl
  have j2 : (w4.alloc (.cells #[.string a, .int .i64 (rdNum b.data.toList), .int .i64 (rdNum c.data.toList)] 106)).cell? ⟨w4.heap.size, 2, none⟩ = some (.int .i64 (rdNum c.data.toList)) := by rw [cell_of_row _ _ _ _ _ _ (heap_alloc_new w4 _)]; rfl
  have hlt4 : w.heap.size < w4.heap.size := blk_lt hres.out
  have g0 : w4.cell? ⟨w.heap.size, 0, none⟩ = some (.string ⟨#[]⟩) := by rw [cell_of_row _ _ _ _ _ _ hres.out]; rfl
  have g1 : w4.cell? ⟨w.heap.size, 1, none⟩ = some (.int .i64 0) := by rw [cell_of_row _ _ _ _ _ _ hres.out]; rfl
  have g2 : w4.cell? ⟨w.heap.size, 2, none⟩ = some (.int .i64 0) := by rw [cell_of_row _ _ _ _ _ _ hres.out]; rfl
  have gf : ∀ o, w4.frozen? ⟨w.heap.size, o, none⟩ = false := fun o => frozen_of_row w4 _ _ _ _ hres.out
  have hne2 : w4.heap.size ≠ w.heap.size := by omega
  have hB4 := hide hB.out
  have hj : w4.heap.size < (w4.alloc (.cells #[.string a, .int .i64 (rdNum b.data.toList), .int .i64 (rdNum c.data.toList)] 106)).heap.size := by simp
  replace hres := hide (keepb hres.out ((Below.refl w4.heap.size w4).alloc (Nat.le_refl _) (.cells #[.string a, .int .i64 (rdNum b.data.toList), .int .i64 (rdNum c.data.toList)] 106)))
  replace hB := hide (hB.out.alloc hB.out.size (.cells #[.string a, .int .i64 (rdNum b.data.toList), .int .i64 (rdNum c.data.toList)] 106))
  have hne0 : w.heap.size ≠ w4.heap.size := by omega
  go_wp2_with (first | (go_at_call 114; refine (iHeap_any (⟨a, rdNum b.data.toList, rdNum c.data.toList⟩ : Heap) _ ha).mono ?_; rintro e w6 ⟨rfl, hb⟩; have hB0 := hide (Below.up hB.out hb); have hres6 := hide (keepb hres.out hb); have i0 := keepc hb hj j0; have i1 := keepc hb hj j1; have i2 := keepc hb hj j2; clear hb; have f0 : w6.cell? ⟨w.heap.size, 0, none⟩ = some (.string ⟨#[]⟩) := (by rw [cell_of_row _ _ _ _ _ _ hres6.out]; rfl); have f1 : w6.cell? ⟨w.heap.size, 1, none⟩ = some (.int .i64 0) := (by rw [cell_of_row _ _ _ _ _ _ hres6.out]; rfl); have f2 : w6.cell? ⟨w.heap.size, 2, none⟩ = some (.int .i64 0) := (by rw [cell_of_row _ _ _ _ _ _ hres6.out]; rfl); have ff : ∀ o : Nat, World.frozen? w6 (⟨w.heap.size, o, none⟩ : Addr) = false := (fun o => frozen_of_row w6 _ _ _ _ hres6.out)) | fail)
  replace hres := hres6
  replace hB := hB0
  exact bodyPost_ret (v := .tuple #[.agg #[.string a, .int .i64 (rdNum b.data.toList), .int .i64 (rdNum c.data.toList)], .bool true]) (by simp [results, Tryz.results68, go_sem, f0, f1, f2]) rfl ⟨rfl, ((hB.out.setCell (p := ⟨w.heap.size, 0, none⟩) (Nat.le_refl _) _).setCell (p := ⟨w.heap.size, 1, none⟩) (Nat.le_refl _) _).setCell (p := ⟨w.heap.size, 2, none⟩) (Nat.le_refl _) _⟩
theorem iRh_any (x : ByteArray) (w : World) (hs : x.size ≤ 1048576) (hG : Gl w) :
    Calls Tryz.prog 68 #[.string x] w (RH (rhHeap x) (rhOk x) w) := by
  by_cases h3 : (words 32 x).length ≠ 3
  · obtain ⟨e1, e2⟩ := rh_not3 h3
    rw [e1, e2]
    exact iRh_not3 x w hs _ rfl h3 hG
  obtain ⟨a, b, c, hw⟩ : ∃ a b c, words 32 x = [a, b, c] := by
    match hww : words 32 x, h3 with
    | [a, b, c], _ => exact ⟨a, b, c, rfl⟩
    | [], h3 => exact absurd (by decide) h3
    | [_], h3 => exact absurd (by simp) h3
    | [_, _], h3 => exact absurd (by simp) h3
    | _ :: _ :: _ :: _ :: _, h3 => exact absurd (by simp) h3
  have hsz : ∀ y ∈ words 32 x, y.size ≤ maxLen := fun y hy => by have h5 := words_size 32 x hy; unfold maxLen; omega
  have ha := hsz a (by rw [hw]; simp)
  have hb := hsz b (by rw [hw]; simp)
  have hc := hsz c (by rw [hw]; simp)
  have e2 := rh_three hw
  cases k1 : rdOk b.data.toList
  · rw [k1] at e2
    have e3 : rhOk x = false := e2
    rw [rh_bad e3, e3]
    exact iRh_one x w hs a b c hw.symm ha hG k1
  cases k2 : rdOk c.data.toList
  · rw [k1, k2] at e2
    have e3 : rhOk x = false := e2
    rw [rh_bad e3, e3]
    exact iRh_two x w hs a b c hw.symm ha hG k1 k2
  cases k3 : (⟨a, rdNum b.data.toList, rdNum c.data.toList⟩ : Heap).ok
  · rw [k1, k2, k3] at e2
    have e3 : rhOk x = false := e2
    rw [rh_bad e3, e3]
    exact iRh_notok x w hs a b c hw.symm ha hG k1 k2 k3
  · rw [k1, k2, k3] at e2
    have e3 : rhOk x = true := e2
    rw [rh_good hw e3, e3]
    exact iRh_good x w hs a b c hw.symm ha hG k1 k2 k3
end Go.Proofs.YtfpaejlipaainaaGreatDoor
namespace Go.Proofs.YtfpaejlipaainaaGreatDoor
open Go.ChangeShapes Go.WideShapes Go.ChangeAt Go.RowKit Go.Deep
set_option maxRecDepth 100000
structure DeskV where
  fStroke : ByteArray
  fStakes : Int
  A : Option Addr
  n : Nat
  c : Nat
  kinds : List Kind
  A' : Option Addr
  n' : Nat
  c' : Nat
  heaps : List Heap
  fLog : ByteArray
structure DeskV.good (x : DeskV) (w : World) (B : Nat) : Prop where
  kinds : Arr Kind.cells 2 w B x.A x.n x.kinds
  heaps : Arr Heap.cells 3 w B x.A' x.n' x.heaps
  nk : x.n ≤ 1048576
  nh : x.n' ≤ 1048576
  fit : ∀ h ∈ x.heaps, h.fits
theorem DeskV.good.go {x : DeskV} {w w' : World} (h : x.good w w.heap.size) (hb : Below w.heap.size w w') : x.good w' w'.heap.size := ⟨h.kinds.go hb, h.heaps.go hb, h.nk, h.nh, h.fit⟩
def DeskV.same (x y : DeskV) : Bool := decide (x.fStroke = y.fStroke) && decide (x.fStakes = y.fStakes) && decide (x.kinds = y.kinds) && decide (x.heaps = y.heaps) && decide (x.fLog = y.fLog)
end Go.Proofs.YtfpaejlipaainaaGreatDoor
namespace Go.Proofs.YtfpaejlipaainaaGreatDoor
open Go.ChangeShapes Go.WideShapes Go.ChangeAt Go.RowKit Go.Deep
set_option maxRecDepth 100000
structure DeskV.fits (x : DeskV) (w : World) : Prop where
  kinds : Arr Kind.cells 2 w w.heap.size x.A x.n x.kinds
  heaps : Arr Heap.cells 3 w w.heap.size x.A' x.n' x.heaps
  nk : x.n ≤ maxLen
  nh : x.n' ≤ maxLen
  kfit : ∀ h ∈ x.kinds, h.fits
  fit : ∀ h ∈ x.heaps, h.fits
  s0 : x.fStroke.size ≤ maxLen
  s4 : x.fLog.size ≤ maxLen
end Go.Proofs.YtfpaejlipaainaaGreatDoor
namespace Go.Proofs.YtfpaejlipaainaaGreatDoor
open Go.ChangeShapes Go.WideShapes Go.ChangeAt Go.RowKit Go.Deep
set_option maxRecDepth 100000
def DeskV.wt (x : DeskV) : Int := x.fStroke.size + Kind.tot x.kinds + Heap.tot x.heaps + x.fLog.size
end Go.Proofs.YtfpaejlipaainaaGreatDoor
namespace Go.Proofs.YtfpaejlipaainaaGreatDoor
open Go.ChangeShapes Go.WideShapes Go.ChangeAt Go.RowKit Go.Deep
set_option maxRecDepth 100000
theorem grown_cell (w : World) (g i : Nat) (u : Value) : w.grownBy (w.setCell ⟨g, i, none⟩ u) (some g) := only_setCell (only_of_below (Below.refl _ _) _) rfl u
theorem keepr {w w' : World} {g : Nat} {o : Obj} (h : w.heap[g]? = some o) (hb : Below w.heap.size w w') : w'.heap[g]? = some o := (hb.block g (Array.getElem?_eq_some_iff.1 h).1).trans h
theorem row5 {w : World} {u0 u1 u2 u3 u4 : Value} {t : TypeId} {g : Nat} (h : w.heap[g]? = some (.cells #[u0, u1, u2, u3, u4] t (0, 0))) :
    w.cell? ⟨g, 0, none⟩ = some u0 ∧ w.cell? ⟨g, 1, none⟩ = some u1 ∧ w.cell? ⟨g, 2, none⟩ = some u2 ∧ w.cell? ⟨g, 3, none⟩ = some u3 ∧ w.cell? ⟨g, 4, none⟩ = some u4 ∧ ∀ j : Nat, w.frozen? ⟨g, j, none⟩ = false :=
  ⟨by rw [cell_of_row _ _ _ _ _ _ h]; rfl, by rw [cell_of_row _ _ _ _ _ _ h]; rfl, by rw [cell_of_row _ _ _ _ _ _ h]; rfl, by rw [cell_of_row _ _ _ _ _ _ h]; rfl, by rw [cell_of_row _ _ _ _ _ _ h]; rfl, fun j => frozen_of_row _ _ _ _ _ h⟩
theorem Own.far {α : Type} {cells : α → List Value} {e : TypeId} {s : Nat} {w : World} {base g n c m : Nat} {l : List α} {k i : Nat} {u : Value} (hne : g ≠ k) (h : Own cells e s w base (.slice (some ⟨g, 0, none⟩) n c) m l) : Own cells e s (w.setCell ⟨k, i, none⟩ u) base (.slice (some ⟨g, 0, none⟩) n c) m l :=
  h.kept (grown_cell w k i u) (.inr (by simpa [Value.ownBlock] using hne))
theorem Below.far {B : Nat} {a w : World} {k i : Nat} {u : Value} (hk : B ≤ k) (h : Below B a w) : Below B a (w.setCell ⟨k, i, none⟩ u) := h.setCell (p := ⟨k, i, none⟩) hk u
end Go.Proofs.YtfpaejlipaainaaGreatDoor
