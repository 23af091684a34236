/- The reference's l23Put. No statement is proved here. -/
import Derived.Test.YtpnbnhhifgcklaaDoorPutD
import Derived.Deep.RegionWith
namespace Go.Proofs.YtpnbnhhifgcklaaDoor
open Go.ChangeShapes Go.WideShapes Go.ChangeAt Go.RowKit Go.Deep
set_option maxRecDepth 100000
theorem nameE {K : Exit → Act → World → Prop} {x : Exit} {a : Act} {W : World} {φ : World → Prop} (h : φ W) (k : ∀ W1, φ W1 → K x a W1) : K x a W := k W h
theorem nameC {P : Program} {co : Code} {K : Exit → Act → World → Prop} {a : Act} {W : World} {φ : World → Prop} (h : φ W) (k : ∀ W1, φ W1 → Code.wp P co K a W1) : Code.wp P co K a W := k W h
def PutS (w : World) (l : List Heap) (x : Heap) (e : Ending) (w' : World) : Prop := ∃ V, e = .returned V ∧ Own Heap.cells 27 3 w' w.heap.size V (hPut l x).length (hPut l x) ∧ Below w.heap.size w w' ∧ V.ownBlock.isSome = true
theorem put_yes {l : List Heap} {x y : Heap} {k : Nat} (hk : putK l x = k) (hy : l[k]? = some y) (h1 : y.fSort = x.fSort) (h2 : y.fYear = x.fYear) : hPut l x = l.take k ++ [⟨x.fSort, x.fYear, x.fBundles + y.fBundles⟩] ++ l.drop (k + 1) := by
  have hf : putFound l x = true := by unfold putFound; rw [hk, hy]; exact sameKey_iff.2 ⟨h1, h2⟩
  have ha : putAt l x = ⟨x.fSort, x.fYear, x.fBundles + y.fBundles⟩ := by unfold putAt; rw [hk, hy]
  unfold hPut
  rw [hf, ha, hk]
  simp
theorem put_no {l : List Heap} {x : Heap} {k : Nat} (hk : putK l x = k) (hn : ∀ y, l[k]? = some y → ¬ (y.fSort = x.fSort ∧ y.fYear = x.fYear)) : hPut l x = l.take k ++ [x] ++ l.drop k := by
  have hf : putFound l x = false := by
    unfold putFound
    rw [hk]
    cases hy : l[k]? with
    | none => rfl
    | some y => cases h : sameKey y x with
      | false => exact h
      | true => exact absurd (sameKey_iff.1 h) (hn y hy)
  unfold hPut
  rw [hf, hk]
  simp
theorem keepPut {w W W' : World} {e n : Nat} {v : Value} {l : List Heap} {o : Obj} (hB : Below w.heap.size w W) (hK : W.heap[w.heap.size]? = some o) (ho : Own Heap.cells e 3 W (w.heap.size + 1) v n l) (hg : W.grownBy W' v.ownBlock) :
    Below w.heap.size w W' ∧ W'.heap[w.heap.size]? = some o :=
  ⟨(ho.less (B := w.heap.size) (by omega)).grown hB hg, (hg.block w.heap.size (Array.getElem?_eq_some_iff.1 hK).1 (fun he => by have := (ho.2.lt _ he.symm).1; omega)).trans hK⟩
theorem bset {w : World} {k : Nat} {cs : Array Value} {t : TypeId} (h : w.heap[k]? = some (.cells cs t (0, 0))) (i : Nat) (u : Value) : (w.setCell ⟨k, i, none⟩ u).heap[k]? = some (.cells (cs.setIfInBounds i u) t (0, 0)) := by
  simp [World.setCell, Array.getElem?_modify, h]
theorem gset (w : World) (k i : Nat) (u : Value) : w.grownBy (w.setCell ⟨k, i, none⟩ u) (some k) := only_setCell (World.grownBy.refl _ _) (p := ⟨k, i, none⟩) rfl u
set_option maxHeartbeats 4000000 in
theorem sPut_any (b o n c : Nat) (l : List Heap) (x : Heap) (w : World) (hn : n ≤ 90000) (hnc : n ≤ c) (hr0 : Arr Heap.cells 3 w w.heap.size (some ⟨b, o, none⟩) n l)
    (hbl : ∀ y ∈ l, 0 ≤ y.fBundles ∧ y.fBundles ≤ 1000000000) (hbx : 0 ≤ x.fBundles ∧ x.fBundles ≤ 1000000000) :
    Calls Tryd.prog 32 #[.slice (some ⟨b, o, none⟩) n c, .agg #[.string x.fSort, .int .i64 x.fYear, .int .i64 x.fBundles]] w fun e w' => PutS w l x e w' := by
  have hr := hide hr0
  have hll : Hid (l.length = n) := hide hr0.len
  have hK0 := hide (heap_alloc_new w (.cells #[.string x.fSort, .int .i64 x.fYear, .int .i64 x.fBundles] 27))
  have hB0 : Hid (Below w.heap.size w (w.alloc (.cells #[.string x.fSort, .int .i64 x.fYear, .int .i64 x.fBundles] 27))) := hide ((Below.refl _ _).alloc (Nat.le_refl _) _)
  clear hr0
  go_enter Tryd.func32, Tryd.ntmps32
  go_wp2
  go_loopw [5] (fun i wr => ∃ j : Nat, j ≤ n ∧ i = .int .i64 j ∧ Below w.heap.size w wr ∧ wr.heap[w.heap.size]? = some (.cells #[.string x.fSort, .int .i64 x.fYear, .int .i64 x.fBundles] 27 (0, 0)) ∧ Hid (∀ (i : Nat) z, i < j → l[i]? = some z → hLt z x = true)) (fun i _ => n - (intOf i).toNat)
  case atStart => exact ⟨0, Nat.zero_le _, rfl, hB0.out, hK0.out, hide (fun i z hi => absurd hi (by omega))⟩
  case round =>
    clear hB0 hK0
    obtain ⟨j, hj, rfl, hb, hk, hI⟩ := hrel
    have hB := hide hb
    have hK := hide hk
    clear hb hk
    obtain ⟨x0, x1, x2, xf⟩ := row3 hK.out

    by_cases hlt : j < n
    · have hlt' : (j : Int) < (n : Int) := by omega
      have hj0 : (0 : Int) ≤ (j : Int) := by omega
      obtain ⟨b', o', y, hA', hbl', hy, c0, c1, c2⟩ := hr.out.Heap (k := j) hlt
      cases hA'
      have d0 : wr.cell? ⟨b, o + j * 3, none⟩ = some (.string y.fSort) := (hB.out.cell (p := ⟨b, o + j * 3, none⟩) hbl').trans c0
      have d1 : wr.cell? ⟨b, o + j * 3 + 1, none⟩ = some (.int .i64 y.fYear) := (hB.out.cell (p := ⟨b, o + j * 3 + 1, none⟩) hbl').trans c1
      have d2 : wr.cell? ⟨b, o + j * 3 + 2, none⟩ = some (.int .i64 y.fBundles) := (hB.out.cell (p := ⟨b, o + j * 3 + 2, none⟩) hbl').trans c2
      have hY := hide hy
      have hyb := hbl y (List.mem_of_getElem? hy)
      clear hy
      cases hq : hLt y x
      · have hQ := hide hq
        clear hq
        have hput : Hid (putK l x = j) := hide (putK_uniq l x j (by rw [hll.out]; omega) hI.out (fun z hz => by rw [hY.out] at hz; cases hz; exact hQ.out))
        by_cases h1 : y.fSort = x.fSort
        · by_cases h2 : y.fYear = x.fYear
          · skip
            have s1 := str_eq h1
            have s2 : (y.fYear == x.fYear) = true := by rw [h2]; simp
            have hres := hide (put_yes hput.out hY.out h1 h2)
            have hwr : IntKind.i64.wrap (x.fBundles + y.fBundles) = x.fBundles + y.fBundles := IntWalk.i64_in _ (by omega)
            have hsz : w.heap.size + 1 ≤ wr.heap.size := (Array.getElem?_eq_some_iff.1 hK.out).1
            have hO1 := hide (fun D => Own.none_made (cells := Heap.cells) (e := 27) (s := 3) (wr.drewN D) hsz)
            have hbW := hide (fun D => (below_drewN (Below.refl wr.heap.size wr) D).alloc (Nat.le_refl wr.heap.size) (.cells #[] 27))
            have hB1 := hide (fun D => Below.up hB.out (hbW.out D))
            have hK1 := hide (fun D => keepr3 hK.out (hbW.out D))
            have hhead := fun W => run_head (P := Tryd.prog) Tryd.underlying24 info_Heap' b o n c j (by omega) W
            have hcut := fun W => run_cut (P := Tryd.prog) Tryd.underlying24 info_Heap' (some ⟨b, o, none⟩) n c (j + 1) (by omega) W
            rw [show (((j + 1 : Nat)) : Int) = (j : Int) + 1 by omega] at hcut
            have j2 : decide ((j : Int) < (n : Int)) = true := decide_eq_true hlt'
            go_wp2_with (first | (go_at_call 44; refine (sBefore_any b (o + j * 3) w.heap.size 0 y x _ d0 d1 x0 x1).mono ?_; rw [hQ.out]; rintro e w1 ⟨rfl, nq, rfl⟩) | (at_builtin; refine wpl_appN rfl (.tmp 19) (.tmp 22) rfl Tryd.underlying24 info_Heap' rfl (by omega) (by omega) Heap.len Heap.one rfl (hO1.out _) rfl ((hr.out.head hj).below (hB1.out _)) (by omega) (by exact Nat.le_trans hsz (hbW.out _).size) ?_; intro v6 w6 ho6 hg6 hat6; have hP6 := hide (keepPut (hB1.out _) (hK1.out _) (hO1.out _) hg6); have hs6 := some_of_at hat6 rfl; rw [Nat.zero_add, List.nil_append] at ho6; have hO6 := hide ho6; clear ho6 hg6 hat6; obtain ⟨y0, y1, y2, yf⟩ := row3 hP6.out.2; have d0' := (hP6.out.1.cell (p := ⟨b, o + j * 3, none⟩) hbl').trans ((hB.out.cell (p := ⟨b, o + j * 3, none⟩) hbl').symm.trans d0); have d1' := (hP6.out.1.cell (p := ⟨b, o + j * 3 + 1, none⟩) hbl').trans ((hB.out.cell (p := ⟨b, o + j * 3 + 1, none⟩) hbl').symm.trans d1); have d2' := (hP6.out.1.cell (p := ⟨b, o + j * 3 + 2, none⟩) hbl').trans ((hB.out.cell (p := ⟨b, o + j * 3 + 2, none⟩) hbl').symm.trans d2)))
            go_quiet (fail)
            go_wp2
            go_region
            all_goals
              (refine nameE (φ := fun W => Below w.heap.size w W ∧ W.heap[w.heap.size]? = some (.cells #[.string x.fSort, .int .i64 x.fYear, .int .i64 (x.fBundles + y.fBundles)] 27 (0, 0)) ∧ Own Heap.cells 27 3 W (w.heap.size + 1) v6 j (l.take j)) ⟨(below_drewN hP6.out.1 _).setCell (p := ⟨w.heap.size, 2, none⟩) (Nat.le_refl _) _, bset (keepr3 hP6.out.2 (below_drewN (Below.refl _ _) _)) 2 _, (hO6.out.below (below_drewN (Below.refl _ _) _)).kept (gset _ w.heap.size 2 _) (.inr (fun he => by have := (hO6.out.2.lt _ he).1; omega))⟩ ?_
               rintro w7 ⟨hb7, hk7, ho7⟩
               obtain ⟨z0, z1, z2, zf⟩ := row3 hk7
               have hB7 := hide hb7
               have hK7 := hide hk7
               have hO7 := hide ho7
               have hz7 : Hid (w.heap.size + 1 ≤ w7.heap.size) := hide (Array.getElem?_eq_some_iff.1 hk7).1
               have hC := hide (hr.out.cut (k := j + 1) (cap := c) (by omega) hnc)
               clear hb7 hk7 ho7 y0 y1 y2 yf x0 x1 x2 xf d0 d1 d2 d0' d1' d2'
               go_wp2_with (first | (at_builtin; refine wpl_app1H w7.heap.size rfl rfl (.tmp 59) (.tmp 61) rfl Tryd.underlying24 info_Heap' rfl (by omega) (by omega) Heap.len Heap.one rfl hO7.out (⟨x.fSort, x.fYear, x.fBundles + y.fBundles⟩ : Heap) _ rfl rfl (by omega) hz7.out ?_; intro v8 w8 ho8 hg8 hat8; have hP8 := hide (keepPut hB7.out hK7.out hO7.out hg8); have hs8 := some_of_at hat8 hs6; have hz8 := hide (Nat.le_trans hz7.out hg8.size); have hO8 := hide ho8; clear ho8 hg8 hat8) | (at_builtin; refine wpl_appN rfl (.tmp 63) (.tmp 66) rfl Tryd.underlying24 info_Heap' rfl (by omega) (by omega) Heap.len Heap.one rfl hO8.out rfl (hC.out.below hP8.out.1) (by omega) hz8.out ?_; intro v9 w9 ho9 hg9 hat9; have hP9 := hide (keepPut hP8.out.1 hP8.out.2 hO8.out hg9); have hs9 := some_of_at hat9 hs8; have hO9 := hide ho9; clear ho9 hg9 hat9))
               go_ret
               refine ⟨v9, rfl, ?_, hP9.out.1, hs9⟩
               have hlen : (hPut l x).length = j + 1 + (n - (j + 1)) := by rw [hres.out]; simp [hll.out]; omega
               rw [hlen, hres.out]
               exact hO9.out.less (by omega))
          · skip
            have s1 := str_eq h1
            have s2 : (y.fYear == x.fYear) = false := by simp; exact h2
            have hres := hide (put_no hput.out (fun z hz e => by rw [hY.out] at hz; cases hz; exact h2 e.2))
            have hsz : w.heap.size + 1 ≤ wr.heap.size := (Array.getElem?_eq_some_iff.1 hK.out).1
            have hO1 := hide (fun D => Own.none_made (cells := Heap.cells) (e := 27) (s := 3) (wr.drewN D) hsz)
            have hbW := hide (fun D => (below_drewN (Below.refl wr.heap.size wr) D).alloc (Nat.le_refl wr.heap.size) (.cells #[] 27))
            have hB1 := hide (fun D => Below.up hB.out (hbW.out D))
            have hK1 := hide (fun D => keepr3 hK.out (hbW.out D))
            have hhead := fun W => run_head (P := Tryd.prog) Tryd.underlying24 info_Heap' b o n c j (by omega) W
            have hcut := fun W => run_cut (P := Tryd.prog) Tryd.underlying24 info_Heap' (some ⟨b, o, none⟩) n c (j) (by omega) W
            have j2 : decide ((j : Int) < (n : Int)) = true := decide_eq_true hlt'
            go_wp2_with (first | (go_at_call 44; refine (sBefore_any b (o + j * 3) w.heap.size 0 y x _ d0 d1 x0 x1).mono ?_; rw [hQ.out]; rintro e w1 ⟨rfl, nq, rfl⟩) | (at_builtin; refine wpl_appN rfl (.tmp 19) (.tmp 22) rfl Tryd.underlying24 info_Heap' rfl (by omega) (by omega) Heap.len Heap.one rfl (hO1.out _) rfl ((hr.out.head hj).below (hB1.out _)) (by omega) (by exact Nat.le_trans hsz (hbW.out _).size) ?_; intro v6 w6 ho6 hg6 hat6; have hP6 := hide (keepPut (hB1.out _) (hK1.out _) (hO1.out _) hg6); have hs6 := some_of_at hat6 rfl; rw [Nat.zero_add, List.nil_append] at ho6; have hO6 := hide ho6; clear ho6 hg6 hat6; obtain ⟨y0, y1, y2, yf⟩ := row3 hP6.out.2; have d0' := (hP6.out.1.cell (p := ⟨b, o + j * 3, none⟩) hbl').trans ((hB.out.cell (p := ⟨b, o + j * 3, none⟩) hbl').symm.trans d0); have d1' := (hP6.out.1.cell (p := ⟨b, o + j * 3 + 1, none⟩) hbl').trans ((hB.out.cell (p := ⟨b, o + j * 3 + 1, none⟩) hbl').symm.trans d1); have d2' := (hP6.out.1.cell (p := ⟨b, o + j * 3 + 2, none⟩) hbl').trans ((hB.out.cell (p := ⟨b, o + j * 3 + 2, none⟩) hbl').symm.trans d2)))
            go_quiet (fail)
            go_upto_region 8 with fail
            (refine nameC (φ := fun W => Below w.heap.size w W ∧ W.heap[w.heap.size]? = some (.cells #[.string x.fSort, .int .i64 x.fYear, .int .i64 x.fBundles] 27 (0, 0)) ∧ Own Heap.cells 27 3 W (w.heap.size + 1) v6 j (l.take j)) ⟨below_drewN hP6.out.1 _, keepr3 hP6.out.2 (below_drewN (Below.refl _ _) _), hO6.out.below (below_drewN (Below.refl _ _) _)⟩ ?_
             rintro w7 ⟨hb7, hk7, ho7⟩
             obtain ⟨z0, z1, z2, zf⟩ := row3 hk7
             have hB7 := hide hb7
             have hK7 := hide hk7
             have hO7 := hide ho7
             have hz7 : Hid (w.heap.size + 1 ≤ w7.heap.size) := hide (Array.getElem?_eq_some_iff.1 hk7).1
             have hC := hide (hr.out.cut (k := j) (cap := c) (by omega) hnc)
             clear hb7 hk7 ho7 y0 y1 y2 yf x0 x1 x2 xf d0 d1 d2 d0' d1' d2'
             go_wp2_with (first | (at_builtin; refine wpl_app1H w7.heap.size rfl rfl (.tmp 59) (.tmp 61) rfl Tryd.underlying24 info_Heap' rfl (by omega) (by omega) Heap.len Heap.one rfl hO7.out x _ rfl rfl (by omega) hz7.out ?_; intro v8 w8 ho8 hg8 hat8; have hP8 := hide (keepPut hB7.out hK7.out hO7.out hg8); have hs8 := some_of_at hat8 hs6; have hz8 := hide (Nat.le_trans hz7.out hg8.size); have hO8 := hide ho8; clear ho8 hg8 hat8) | (at_builtin; refine wpl_appN rfl (.tmp 63) (.tmp 66) rfl Tryd.underlying24 info_Heap' rfl (by omega) (by omega) Heap.len Heap.one rfl hO8.out rfl (hC.out.below hP8.out.1) (by omega) hz8.out ?_; intro v9 w9 ho9 hg9 hat9; have hP9 := hide (keepPut hP8.out.1 hP8.out.2 hO8.out hg9); have hs9 := some_of_at hat9 hs8; have hO9 := hide ho9; clear ho9 hg9 hat9))
             go_ret
             refine ⟨v9, rfl, ?_, hP9.out.1, hs9⟩
             have hlen : (hPut l x).length = j + 1 + (n - (j)) := by rw [hres.out]; simp [hll.out]; omega
             rw [hlen, hres.out]
             exact hO9.out.less (by omega))
        · skip
          have s1 := str_ne h1
          have hres := hide (put_no hput.out (fun z hz e => by rw [hY.out] at hz; cases hz; exact h1 e.1))
          have hsz : w.heap.size + 1 ≤ wr.heap.size := (Array.getElem?_eq_some_iff.1 hK.out).1
          have hO1 := hide (fun D => Own.none_made (cells := Heap.cells) (e := 27) (s := 3) (wr.drewN D) hsz)
          have hbW := hide (fun D => (below_drewN (Below.refl wr.heap.size wr) D).alloc (Nat.le_refl wr.heap.size) (.cells #[] 27))
          have hB1 := hide (fun D => Below.up hB.out (hbW.out D))
          have hK1 := hide (fun D => keepr3 hK.out (hbW.out D))
          have hhead := fun W => run_head (P := Tryd.prog) Tryd.underlying24 info_Heap' b o n c j (by omega) W
          have hcut := fun W => run_cut (P := Tryd.prog) Tryd.underlying24 info_Heap' (some ⟨b, o, none⟩) n c (j) (by omega) W
          have j2 : decide ((j : Int) < (n : Int)) = true := decide_eq_true hlt'
          go_wp2_with (first | (go_at_call 44; refine (sBefore_any b (o + j * 3) w.heap.size 0 y x _ d0 d1 x0 x1).mono ?_; rw [hQ.out]; rintro e w1 ⟨rfl, nq, rfl⟩) | (at_builtin; refine wpl_appN rfl (.tmp 19) (.tmp 22) rfl Tryd.underlying24 info_Heap' rfl (by omega) (by omega) Heap.len Heap.one rfl (hO1.out _) rfl ((hr.out.head hj).below (hB1.out _)) (by omega) (by exact Nat.le_trans hsz (hbW.out _).size) ?_; intro v6 w6 ho6 hg6 hat6; have hP6 := hide (keepPut (hB1.out _) (hK1.out _) (hO1.out _) hg6); have hs6 := some_of_at hat6 rfl; rw [Nat.zero_add, List.nil_append] at ho6; have hO6 := hide ho6; clear ho6 hg6 hat6; obtain ⟨y0, y1, y2, yf⟩ := row3 hP6.out.2; have d0' := (hP6.out.1.cell (p := ⟨b, o + j * 3, none⟩) hbl').trans ((hB.out.cell (p := ⟨b, o + j * 3, none⟩) hbl').symm.trans d0); have d1' := (hP6.out.1.cell (p := ⟨b, o + j * 3 + 1, none⟩) hbl').trans ((hB.out.cell (p := ⟨b, o + j * 3 + 1, none⟩) hbl').symm.trans d1); have d2' := (hP6.out.1.cell (p := ⟨b, o + j * 3 + 2, none⟩) hbl').trans ((hB.out.cell (p := ⟨b, o + j * 3 + 2, none⟩) hbl').symm.trans d2)))
          go_quiet (fail)
          go_upto_region 8 with fail
          (refine nameC (φ := fun W => Below w.heap.size w W ∧ W.heap[w.heap.size]? = some (.cells #[.string x.fSort, .int .i64 x.fYear, .int .i64 x.fBundles] 27 (0, 0)) ∧ Own Heap.cells 27 3 W (w.heap.size + 1) v6 j (l.take j)) ⟨below_drewN hP6.out.1 _, keepr3 hP6.out.2 (below_drewN (Below.refl _ _) _), hO6.out.below (below_drewN (Below.refl _ _) _)⟩ ?_
           rintro w7 ⟨hb7, hk7, ho7⟩
           obtain ⟨z0, z1, z2, zf⟩ := row3 hk7
           have hB7 := hide hb7
           have hK7 := hide hk7
           have hO7 := hide ho7
           have hz7 : Hid (w.heap.size + 1 ≤ w7.heap.size) := hide (Array.getElem?_eq_some_iff.1 hk7).1
           have hC := hide (hr.out.cut (k := j) (cap := c) (by omega) hnc)
           clear hb7 hk7 ho7 y0 y1 y2 yf x0 x1 x2 xf d0 d1 d2 d0' d1' d2'
           go_wp2_with (first | (at_builtin; refine wpl_app1H w7.heap.size rfl rfl (.tmp 59) (.tmp 61) rfl Tryd.underlying24 info_Heap' rfl (by omega) (by omega) Heap.len Heap.one rfl hO7.out x _ rfl rfl (by omega) hz7.out ?_; intro v8 w8 ho8 hg8 hat8; have hP8 := hide (keepPut hB7.out hK7.out hO7.out hg8); have hs8 := some_of_at hat8 hs6; have hz8 := hide (Nat.le_trans hz7.out hg8.size); have hO8 := hide ho8; clear ho8 hg8 hat8) | (at_builtin; refine wpl_appN rfl (.tmp 63) (.tmp 66) rfl Tryd.underlying24 info_Heap' rfl (by omega) (by omega) Heap.len Heap.one rfl hO8.out rfl (hC.out.below hP8.out.1) (by omega) hz8.out ?_; intro v9 w9 ho9 hg9 hat9; have hP9 := hide (keepPut hP8.out.1 hP8.out.2 hO8.out hg9); have hs9 := some_of_at hat9 hs8; have hO9 := hide ho9; clear ho9 hg9 hat9))
           go_ret
           refine ⟨v9, rfl, ?_, hP9.out.1, hs9⟩
           have hlen : (hPut l x).length = j + 1 + (n - (j)) := by rw [hres.out]; simp [hll.out]; omega
           rw [hlen, hres.out]
           exact hO9.out.less (by omega))
      · have hQ := hide hq
        clear hq
        go_wp2_with ((go_at_call 44; refine (sBefore_any b (o + j * 3) w.heap.size 0 y x _ d0 d1 x0 x1).mono ?_; rw [hQ.out]; rintro e w1 ⟨rfl, nq, rfl⟩))
        go_roundw
        case rel => exact ⟨j + 1, by omega, by go_num, Below.up hB.out (below_drewN (Below.refl _ _) _), keepr3 hK.out (below_drewN (Below.refl _ _) _), hide (fun i z hi hz => by by_cases he : i = j; subst he; rw [hY.out] at hz; cases hz; exact hQ.out; exact hI.out i z (by omega) hz)⟩
        case measure => simp [intOf]; omega
    · have hjn := hide (show j = n by omega)
      have hput : Hid (putK l x = j) := hide (putK_uniq l x j (by rw [hll.out]; exact hj) hI.out (fun z hz => absurd (lt_of_get hz) (by rw [hll.out]; have := hjn.out; omega)))
      have hres := hide (put_no hput.out (fun z hz => absurd (lt_of_get hz) (by rw [hll.out]; have := hjn.out; omega)))
      have hsz : w.heap.size + 1 ≤ wr.heap.size := (Array.getElem?_eq_some_iff.1 hK.out).1
      have hO1 := hide (Own.none_made (cells := Heap.cells) (e := 27) (s := 3) wr hsz)
      have hbW := hide ((Below.refl wr.heap.size wr).alloc (Nat.le_refl wr.heap.size) (.cells #[] 27))
      have hB1 := hide (Below.up hB.out hbW.out)
      have hK1 := hide (keepr3 hK.out hbW.out)
      have hhead := fun W => run_head (P := Tryd.prog) Tryd.underlying24 info_Heap' b o n c j (by omega) W
      have hcut := fun W => run_cut (P := Tryd.prog) Tryd.underlying24 info_Heap' (some ⟨b, o, none⟩) n c (j) (by omega) W
      have j2 : decide ((j : Int) < (n : Int)) = false := decide_eq_false (by have := hjn.out; omega)
      go_wp2_with ((at_builtin; refine wpl_appN rfl (.tmp 19) (.tmp 22) rfl Tryd.underlying24 info_Heap' rfl (by omega) (by omega) Heap.len Heap.one rfl hO1.out rfl ((hr.out.head hj).below hB1.out) (by omega) (by exact Nat.le_trans hsz hbW.out.size) ?_; intro v6 w6 ho6 hg6 hat6; have hP6 := hide (keepPut hB1.out hK1.out hO1.out hg6); have hs6 := some_of_at hat6 rfl; rw [Nat.zero_add, List.nil_append] at ho6; have hO6 := hide ho6; clear ho6 hg6 hat6; obtain ⟨y0, y1, y2, yf⟩ := row3 hP6.out.2))
      go_quiet (fail)
      go_upto_region 8 with fail
      (refine nameC (φ := fun W => Below w.heap.size w W ∧ W.heap[w.heap.size]? = some (.cells #[.string x.fSort, .int .i64 x.fYear, .int .i64 x.fBundles] 27 (0, 0)) ∧ Own Heap.cells 27 3 W (w.heap.size + 1) v6 j (l.take j)) ⟨below_drewN hP6.out.1 _, keepr3 hP6.out.2 (below_drewN (Below.refl _ _) _), hO6.out.below (below_drewN (Below.refl _ _) _)⟩ ?_
       rintro w7 ⟨hb7, hk7, ho7⟩
       obtain ⟨z0, z1, z2, zf⟩ := row3 hk7
       have hB7 := hide hb7
       have hK7 := hide hk7
       have hO7 := hide ho7
       have hz7 : Hid (w.heap.size + 1 ≤ w7.heap.size) := hide (Array.getElem?_eq_some_iff.1 hk7).1
       have hC := hide (hr.out.cut (k := j) (cap := c) (by omega) hnc)
       clear hb7 hk7 ho7 y0 y1 y2 yf x0 x1 x2 xf
       go_wp2_with (first | (at_builtin; refine wpl_app1H w7.heap.size rfl rfl (.tmp 59) (.tmp 61) rfl Tryd.underlying24 info_Heap' rfl (by omega) (by omega) Heap.len Heap.one rfl hO7.out x _ rfl rfl (by omega) hz7.out ?_; intro v8 w8 ho8 hg8 hat8; have hP8 := hide (keepPut hB7.out hK7.out hO7.out hg8); have hs8 := some_of_at hat8 hs6; have hz8 := hide (Nat.le_trans hz7.out hg8.size); have hO8 := hide ho8; clear ho8 hg8 hat8) | (at_builtin; refine wpl_appN rfl (.tmp 63) (.tmp 66) rfl Tryd.underlying24 info_Heap' rfl (by omega) (by omega) Heap.len Heap.one rfl hO8.out rfl (hC.out.below hP8.out.1) (by omega) hz8.out ?_; intro v9 w9 ho9 hg9 hat9; have hP9 := hide (keepPut hP8.out.1 hP8.out.2 hO8.out hg9); have hs9 := some_of_at hat9 hs8; have hO9 := hide ho9; clear ho9 hg9 hat9))
       go_ret
       refine ⟨v9, rfl, ?_, hP9.out.1, hs9⟩
       have hlen : (hPut l x).length = j + 1 + (n - (j)) := by rw [hres.out]; simp [hll.out]; omega
       rw [hlen, hres.out]
       exact hO9.out.less (by omega))
end Go.Proofs.YtpnbnhhifgcklaaDoor
