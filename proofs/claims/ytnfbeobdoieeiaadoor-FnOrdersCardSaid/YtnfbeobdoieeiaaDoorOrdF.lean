/- Contract of the program's plan. -/
import Derived.Test.YtnfbeobdoieeiaaDoorOrdE
import Derived.Test.YtnfbeobdoieeiaaDoorApp
import Derived.Deep.DeepCutAuto
namespace Go.Proofs.YtnfbeobdoieeiaaDoor
open Go.ChangeShapes Go.WideShapes Go.ChangeAt Go.RowKit Go.Deep
set_option maxRecDepth 100000
theorem push3_0 (h : Array Obj) (a b c : Obj) : (((h.push a).push b).push c)[h.size]? = some a := by
  rw [Array.getElem?_push, if_neg (by simp; omega), Array.getElem?_push, if_neg (by simp), Array.getElem?_push, if_pos rfl]
theorem push3_1 (h : Array Obj) (a b c : Obj) : (((h.push a).push b).push c)[h.size + 1]? = some b := by
  rw [Array.getElem?_push, if_neg (by simp), Array.getElem?_push, if_pos (by simp)]
theorem push3_2 (h : Array Obj) (a b c : Obj) : (((h.push a).push b).push c)[h.size + 1 + 1]? = some c := by
  rw [Array.getElem?_push, if_pos (by simp)]
theorem trio_made {e : TypeId} {W : World} {base g0 g1 g2 n : Nat} {c : List Int} {cur : Array Value} (hc : cur.toList = c.flatMap i64c) (hn : c.length = n) (hm : n ≤ maxLen) (b0 : base ≤ g0) (b1 : base ≤ g1) (b2 : base ≤ g2)
    (h0 : W.heap[g0]? = some (.cells #[] e)) (h1 : W.heap[g1]? = some (.cells #[] e)) (h2 : W.heap[g2]? = some (.cells cur e)) (d01 : g0 ≠ g1) (d02 : g0 ≠ g2) (d12 : g1 ≠ g2) :
    Trio e W base (.slice (some ⟨g0, 0, none⟩) 0 0) (.slice (some ⟨g1, 0, none⟩) 0 0) (.slice (some ⟨g2, 0, none⟩) n n) [] [] c := by
  subst hn
  have hsz : cur.size = c.length * 1 := by rw [← Array.length_toList, hc, flat_len i64c_len]
  have far : ∀ {x y : Nat} {n m n' m' : Nat}, x ≠ y → Far (.slice (some ⟨x, 0, none⟩) n m) (.slice (some ⟨y, 0, none⟩) n' m') := by
    intro x y n m n' m' hxy g ha hb
    injection ha with ha
    injection hb with hb
    exact hxy (ha.trans hb.symm)
  refine ⟨⟨rfl, by simp, .inr ⟨g0, 0, #[], rfl, b0, h0, Nat.le_refl _, Nat.zero_le _, by simp, by simp⟩⟩, ⟨rfl, by simp, .inr ⟨g1, 0, #[], rfl, b1, h1, Nat.le_refl _, Nat.zero_le _, by simp, by simp⟩⟩, ⟨rfl, by rw [flat_len i64c_len], .inr ⟨g2, c.length, cur, rfl, b2, h2, by omega, hm, hsz, ?_⟩⟩, far d01, far d02, far d12⟩
  rw [hc, List.take_of_length_le (by rw [flat_len i64c_len]; exact Nat.le_refl _)]
theorem grown_new {W w2 : World} {O : Obj} {row : Option Nat} (hg : (W.alloc O).grownBy w2 row) (hne : row ≠ some W.heap.size) : w2.heap[W.heap.size]? = some O :=
  (hg.block W.heap.size (by simp) (fun e => hne e.symm)).trans (heap_alloc_new W O)
theorem Own.ne_new {α : Type} {cells : α → List Value} {e s : Nat} {w : World} {base : Nat} {v : Value} {n : Nat} {l : List α} (h : Own cells e s w base v n l) : v.ownBlock ≠ some w.heap.size := fun e => by have := (h.lt' _ e).2; omega
set_option maxHeartbeats 4000000 in
theorem iPlan_any (A : Option Addr) (n c : Nat) (l : List Order) (w : World) (hn : n ≤ 1048576) (hok : ordersOk l = true) (hr : Arr Order.cells 5 w w.heap.size A n l) :
    Calls Tryd.prog 25 #[.slice A n c] w fun e w' => ∃ v0 v1 v2, e = .returned (.tuple #[v0, v2]) ∧ Trio 2 w' w.heap.size v0 v1 v2 (mPlan l).days (mPlan l).left (mPlan l).late ∧ Below w.heap.size w w' := by
  have hl := hide hr.len
  obtain ⟨hlen, hday0, hdue0⟩ := plan_facts hok
  have hday := hide hday0
  have hdue := hide hdue0
  have hn30 : n ≤ 30 := by rw [← hl.out]; exact hlen
  have hld : 0 ≤ lastDue l ∧ lastDue l ≤ 5000 := lastDue_bound (fun x hx => (hdue0 x hx).2)
  clear hok hlen hday0 hdue0
  obtain ⟨i0, hi0, hz0, hz1, hz2⟩ := info_parts info_int64'
  have hmk := fun W => run_make_rowN (P := Tryd.prog) 49 2 i0 _ Tryd.underlying49 hi0 hz0 .i64 .i64 n n (Nat.le_refl _) (by rw [hz2]; omega) (by omega) W
  rw [hz1] at hmk
  obtain ⟨cur, hcur⟩ : ∃ cur, cur = madeCells (Value.int .i64 0).cells (n * 1) := ⟨_, rfl⟩
  rw [← hcur] at hmk
  have hcl : cur.toList = (List.replicate n (0 : Int)).flatMap i64c := by rw [hcur]; exact made_flat i64c_len (by omega) #[.int .i64 0] 0 rfl n
  clear hcur
  have hmade := hide (fun (W : World) (hW : w.heap.size ≤ W.heap.size) => Own.made (base := w.heap.size) (e := 2) W hW (show n ≤ maxLen by unfold maxLen; omega) (0 : Int) i64c_len cur hcl)
  replace hcl := hide hcl
  go_enter Tryd.func25, Tryd.ntmps25
  go_upto_region 1 with fail
  go_cut [4, 5, 6] (fun v0 v1 v2 wx => Below w.heap.size w wx ∧ Trio 2 wx w.heap.size v0 v1 v2 [] [] (List.replicate n 0))
  case first =>
    go_region
    all_goals (go_wp2_with fail; go_meet)
    all_goals exact ⟨by go_grown, trio_made hcl.out (by simp) (by unfold maxLen; omega) (by omega) (by omega) (by omega) (by first | exact push3_0 _ _ _ _ | exact push3_1 _ _ _ _ | exact push3_2 _ _ _ _) (by first | exact push3_0 _ _ _ _ | exact push3_1 _ _ _ _ | exact push3_2 _ _ _ _) (by first | exact push3_0 _ _ _ _ | exact push3_1 _ _ _ _ | exact push3_2 _ _ _ _) (by omega) (by omega) (by omega)⟩
  case rest =>
    obtain ⟨hB0, hT0⟩ := hcut
    go_wp2
    go_loopw [5, 7, 23] (fun v q i wr => ∃ k : Nat, k ≤ n ∧ i = .int .i64 k ∧ q = .int .i64 (lastDue (l.take k)) ∧ Below w.heap.size w wr ∧ Trio 2 wr w.heap.size u4 v u6 [] ((l.take k).map dayF) (List.replicate n 0)) (fun _ _ i _ => n - (intOf i).toNat)
    case atStart => exact ⟨0, Nat.zero_le _, rfl, rfl, hB0, hT0⟩
    case round =>
      obtain ⟨k, hk, rfl, rfl, hb, hT⟩ := hrel
      have hT1 := hide hT
      clear hT hT0 hB0
      by_cases hlt : k < n
      · obtain ⟨b, o, x, rfl, hbl, hx, c0, c1, c2, c3, c4⟩ := hr.Order hlt
        have d0 : wr.cell? ⟨b, o + k * 5, none⟩ = some (.string x.fWho) := (hb.cell (p := ⟨b, o + k * 5, none⟩) hbl).trans c0
        have d1 : wr.cell? ⟨b, o + k * 5 + 1, none⟩ = some (.int .i64 x.fMany) := (hb.cell (p := ⟨b, o + k * 5 + 1, none⟩) hbl).trans c1
        have d2 : wr.cell? ⟨b, o + k * 5 + 2, none⟩ = some (.int .i64 x.fEach) := (hb.cell (p := ⟨b, o + k * 5 + 2, none⟩) hbl).trans c2
        have d3 : wr.cell? ⟨b, o + k * 5 + 3, none⟩ = some (.int .i64 x.fFrom) := (hb.cell (p := ⟨b, o + k * 5 + 3, none⟩) hbl).trans c3
        have d4 : wr.cell? ⟨b, o + k * 5 + 4, none⟩ = some (.int .i64 x.fDue) := (hb.cell (p := ⟨b, o + k * 5 + 4, none⟩) hbl).trans c4
        have hX := hide hx
        clear hx c0 c1 c2 c3 c4
        have hB := hide hb
        clear hb
        have hxb : 0 ≤ x.fMany * x.fEach ∧ x.fMany * x.fEach ≤ 2000 := hday.out x (List.mem_of_getElem? hX.out)
        have hwm : IntKind.i64.wrap (x.fMany * x.fEach) = x.fMany * x.fEach := IntWalk.i64_in _ (by omega)
        have hkl : ((l.take k).map dayF).length = k := by rw [List.length_map, List.length_take, hl.out]; omega
        go_wp2_with (at_builtin; refine wpl_app1H (wr.heap.size + 1) (by simp) rfl (.tmp 27) (.tmp 33) rfl Tryd.underlying49 info_int64' rfl (by omega) (by omega) i64c_len i64c_one rfl (hT1.out.alloc _).o1 (dayF x) _ rfl rfl (by rw [hkl]; omega) (hB.out.alloc hB.out.size _).size ?_; intro v2 w2 ho2 hg2 hat2; have hB3 := hide ((hT1.out.alloc _).o1.grown (hB.out.alloc hB.out.size _) hg2); have hT3 := hide ((hT1.out.alloc _).app1 ho2 hg2 hat2 (Nat.le_succ _)); have hnew := grown_new hg2 hT1.out.o1.ne_new; have e4 : w2.cell? ⟨wr.heap.size, 4, none⟩ = some (.int .i64 x.fDue) := (by rw [cell_of_row _ _ _ _ _ _ hnew]; rfl); clear hnew hg2 hat2 ho2)
        go_roundw
        case rel => exact ⟨k + 1, by omega, by go_num, by rw [lastDue_snoc hX.out]; exact congrArg (Value.int IntKind.i64) (by split <;> omega), hB3.out, by rw [take_snoc hX.out, List.map_append]; exact hT3.out⟩
        case measure => simp [intOf]; omega
      · have hkn : k = n := by omega
        subst hkn
        have hB := hide hb
        clear hb
        have htk : l.take k = l := List.take_of_length_le (by rw [hl.out]; exact Nat.le_refl _)
        rw [htk] at hT1 ⊢
        clear htk
        obtain ⟨A1, c1, hv5, _⟩ := hT1.out.o1.slice
        obtain ⟨A2, c2, hv6, _⟩ := hT1.out.o2.slice
        rw [List.length_map, hl.out] at hv5
        rw [List.length_replicate] at hv6
        subst hv5 hv6
        have hT0 := hide hT1.out
        clear hT1
        go_wp2
        go_loopw [4, 41] (fun u i wr2 => ∃ d : Nat, (d : Int) ≤ lastDue l ∧ i = .int .i64 d ∧ Below w.heap.size w wr2 ∧ Trio 2 wr2 w.heap.size u (.slice A1 k c1) (.slice A2 k c2) (planTo l d).days (planTo l d).left (planTo l d).late) (fun _ i _ => (lastDue l).toNat - (intOf i).toNat)
        case atStart => exact ⟨0, hld.1, rfl, hB.out, by show Trio _ _ _ _ _ _ [] (l.map dayF) (List.replicate l.length 0); rw [hl.out]; exact hT0.out⟩
        case round =>
          obtain ⟨d, hd, rfl, hb, hT⟩ := hrel
          clear hT0 hB
          have hBo := hide hb
          have hTo := hide hT
          clear hb hT
          by_cases hdl : (d : Int) < lastDue l
          · have hll : (planTo l d).left.length = k := by rw [planTo_left_len, hl.out]
            have hdl' := planTo_days_len l d
            have hla : (planTo l d).late.length = k := by rw [planTo_late_len, hl.out]
            have hall := hide (planTo_left_all hday.out d)
            obtain ⟨P, hP⟩ : ∃ P, Hid (P = planTo l d) := ⟨_, hide rfl⟩
            rw [← hP.out] at hTo hll hdl' hla hall
            obtain ⟨p, hp⟩ : ∃ p, Hid (p = planPick l P d) := ⟨_, hide rfl⟩
            have hpp : Hid (pickTo l P.left (d : Int) k = p) := hide (by rw [hp.out]; unfold planPick; rw [hl.out])
            have hpb := pickTo_bound l P.left (d : Int) k
            rw [hpp.out] at hpb
            have HLL := hide hll
            have HLA := hide hla
            have HDL := hide hdl'
            clear hll hla hdl'
            obtain ⟨wo, rfl⟩ : ∃ wo : World, wo = wr := ⟨_, rfl⟩
            go_wp2
            go_loopw [11, 46] (fun q i wr => ∃ j : Nat, j ≤ k ∧ i = .int .i64 j ∧ q = .int .i64 (pickTo l P.left (d : Int) j) ∧ Below wo.heap.size wo wr) (fun _ i _ => k - (intOf i).toNat)
            case atStart => exact ⟨0, Nat.zero_le _, rfl, rfl, Below.refl _ _⟩
            case round =>
              obtain ⟨j, hj, rfl, rfl, hb3⟩ := hrel
              by_cases hjk : j < k
              · have hbb : Below w.heap.size w wr := Below.up hBo.out hb3
                obtain ⟨b_q, o_q, x, rfl, hbl_q, hx_q, c0_q, c1_q, c2_q, c3_q, c4_q⟩ := hr.Order hjk
                have d0_q : wr.cell? ⟨b_q, o_q + j * 5, none⟩ = some (.string x.fWho) := (hbb.cell (p := ⟨b_q, o_q + j * 5, none⟩) hbl_q).trans c0_q
                have d1_q : wr.cell? ⟨b_q, o_q + j * 5 + 1, none⟩ = some (.int .i64 x.fMany) := (hbb.cell (p := ⟨b_q, o_q + j * 5 + 1, none⟩) hbl_q).trans c1_q
                have d2_q : wr.cell? ⟨b_q, o_q + j * 5 + 2, none⟩ = some (.int .i64 x.fEach) := (hbb.cell (p := ⟨b_q, o_q + j * 5 + 2, none⟩) hbl_q).trans c2_q
                have d3_q : wr.cell? ⟨b_q, o_q + j * 5 + 3, none⟩ = some (.int .i64 x.fFrom) := (hbb.cell (p := ⟨b_q, o_q + j * 5 + 3, none⟩) hbl_q).trans c3_q
                have d4_q : wr.cell? ⟨b_q, o_q + j * 5 + 4, none⟩ = some (.int .i64 x.fDue) := (hbb.cell (p := ⟨b_q, o_q + j * 5 + 4, none⟩) hbl_q).trans c4_q
                have hX_q := hide hx_q
                clear hx_q c0_q c1_q c2_q c3_q c4_q
                obtain ⟨gl, capl, z, hvl, -, hgl, hz, f0, -⟩ := (hTo.out.below hb3).o1.at' (k := j) (by rw [HLL.out]; exact hjk)
                injection hvl with hvl1 hvl2 hvl3
                subst hvl1
                clear hvl2 hvl3
                have hZ := hide hz
                have F0 : ∀ O, (wr.alloc O).cell? ⟨gl, j, none⟩ = some (.int .i64 z) := fun O => (World.cell?_alloc_lt wr O ⟨gl, j, none⟩ hgl).trans f0
                have hB3 := hide (hb3.alloc hb3.size (.cells #[.string x.fWho, .int .i64 x.fMany, .int .i64 x.fEach, .int .i64 x.fFrom, .int .i64 x.fDue] 35))
                have hbs : b_q < wr.heap.size := Nat.lt_of_lt_of_le hbl_q hbb.size
                have j0 : (0 : Int) ≤ (j : Int) := by omega
                have j1 : (j : Int) < (k : Int) := by omega
                have hX := hX_q
                clear hz f0 hb3 hpp hpb hp
                by_cases t1 : x.fFrom ≤ (d : Int)
                · by_cases t0 : 0 < z
                  · by_cases t2 : pickTo l P.left (d : Int) j < 0
                    · have hpk := hide (pickTo_yes hX.out hZ.out (by omega) (by omega) (by simp [better, t2]))
                      clear hr hbb
                      go_wp2_with fail
                      go_quiet (fail)
                      go_wp2
                      go_roundw
                      case rel => exact ⟨j + 1, by omega, by go_num, by rw [hpk.out], below_drewN hB3.out _⟩
                      case measure => simp [intOf]; omega
                    · obtain ⟨m, hm⟩ : ∃ m : Nat, pickTo l P.left (d : Int) j = (m : Int) := ⟨(pickTo l P.left (d : Int) j).toNat, by omega⟩
                      have hmk := (pickTo_bound l P.left (d : Int) j).2
                      have hmn : m < k := by omega
                      have hm0 : (0 : Int) ≤ (m : Int) := by omega
                      have hmn' : (m : Int) < (k : Int) := by omega
                      obtain ⟨b_q, o_q, y, hA_q, hbl_q, hx_q, c0_q, c1_q, c2_q, c3_q, c4_q⟩ := hr.Order hmn
                      cases hA_q
                      have d0_q : wr.cell? ⟨b_q, o_q + m * 5, none⟩ = some (.string y.fWho) := (hbb.cell (p := ⟨b_q, o_q + m * 5, none⟩) hbl_q).trans c0_q
                      have d1_q : wr.cell? ⟨b_q, o_q + m * 5 + 1, none⟩ = some (.int .i64 y.fMany) := (hbb.cell (p := ⟨b_q, o_q + m * 5 + 1, none⟩) hbl_q).trans c1_q
                      have d2_q : wr.cell? ⟨b_q, o_q + m * 5 + 2, none⟩ = some (.int .i64 y.fEach) := (hbb.cell (p := ⟨b_q, o_q + m * 5 + 2, none⟩) hbl_q).trans c2_q
                      have d3_q : wr.cell? ⟨b_q, o_q + m * 5 + 3, none⟩ = some (.int .i64 y.fFrom) := (hbb.cell (p := ⟨b_q, o_q + m * 5 + 3, none⟩) hbl_q).trans c3_q
                      have d4_q : wr.cell? ⟨b_q, o_q + m * 5 + 4, none⟩ = some (.int .i64 y.fDue) := (hbb.cell (p := ⟨b_q, o_q + m * 5 + 4, none⟩) hbl_q).trans c4_q
                      have hX_q := hide hx_q
                      clear hx_q c0_q c1_q c2_q c3_q c4_q
                      have Y4 : ∀ O, (wr.alloc O).cell? ⟨b_q, o_q + m * 5 + 4, none⟩ = some (.int .i64 y.fDue) := fun O => (World.cell?_alloc_lt wr O ⟨b_q, o_q + m * 5 + 4, none⟩ hbs).trans d4_q
                      have hdue1 := Order.dueAt_of hX_q.out
                      have n3 : decide ((m : Int) < 0) = false := decide_eq_false (by omega)
                      clear hr hbb
                      by_cases t4 : x.fDue < y.fDue
                      · have hpk := hide (pickTo_yes hX.out hZ.out (by omega) (by omega) (by rw [hm]; simp [better, hdue1, t4]))
                        rw [hm] at *
                        clear hdue1 hm
                        go_wp2_with fail
                        go_quiet (fail)
                        go_wp2
                        go_roundw
                        case rel => exact ⟨j + 1, by omega, by go_num, by rw [hpk.out], below_drewN hB3.out _⟩
                        case measure => simp [intOf]; omega
                      · have hpk := hide (pickTo_no hX.out hZ.out (fun hc => by have := hc.2.2; rw [hm] at this; simp [better, hdue1, t4] at this; omega))
                        rw [hm] at hpk ⊢
                        clear hdue1 hm hmk t2
                        have n4 := decide_eq_false t4
                        go_wp2_with fail
                        go_quiet (fail)
                        go_wp2
                        go_roundw
                        case rel => exact ⟨j + 1, by omega, by go_num, by rw [hpk.out], below_drewN hB3.out _⟩
                        case measure => simp [intOf]; omega
                  · have hpk := hide (pickTo_no (left := P.left) (day := (d : Int)) hX.out hZ.out (fun hc => by omega))
                    have n0 := decide_eq_false t0
                    clear hr hbb
                    go_wp2_with fail
                    go_quiet (fail)
                    go_wp2
                    go_roundw
                    case rel => exact ⟨j + 1, by omega, by go_num, by rw [hpk.out], below_drewN hB3.out _⟩
                    case measure => simp [intOf]; omega
                · have hpk := hide (pickTo_no (left := P.left) (day := (d : Int)) hX.out hZ.out (fun hc => by omega))
                  have n1 := decide_eq_false t1
                  clear hr hbb
                  go_wp2_with fail
                  go_quiet (fail)
                  go_wp2
                  go_roundw
                  case rel => exact ⟨j + 1, by omega, by go_num, by rw [hpk.out], below_drewN hB3.out _⟩
                  case measure => simp [intOf]; omega
              · have hjk2 : j = k := by omega
                subst hjk2
                have hB6 := hide (Below.up hBo.out hb3)
                have hT6 := hide (hTo.out.below hb3)
                clear hb3 hTo hBo
                obtain ⟨w6, rfl⟩ : ∃ w6 : World, w6 = wr := ⟨_, rfl⟩
                rw [hpp.out]
                by_cases hpn : p < 0
                · have n0 : decide (0 ≤ p) = false := decide_eq_false (by omega)
                  have hdec : Hid (decr P.left p = P.left) := hide (decr_neg hpn)
                  go_wp2_with (at_builtin; refine wpl_app1H w6.heap.size rfl rfl (.tmp 86) (.tmp 88) rfl Tryd.underlying49 info_int64' rfl (by omega) (by omega) i64c_len i64c_one rfl hT6.out.o0 p _ rfl rfl (by rw [HDL.out]; omega) hB6.out.size ?_; intro v3 w3 ho3 hg3 hat3; have hB4 := hide (hT6.out.o0.grown hB6.out hg3); have hT4 := hide (hT6.out.app0 ho3 hg3 hat3 (by omega)); clear ho3 hg3 hat3)
                  obtain ⟨L4, hL4⟩ : ∃ L4, Hid (L4 = decr P.left p) := ⟨_, hide rfl⟩
                  rw [← hdec.out, ← hL4.out] at hT4
                  have hLL4 : Hid (L4.length = j) := hide (by rw [hL4.out, decr_len, HLL.out])
                  clear hT6 hB6
                  go_loopw [92] (fun i wr => ∃ q : Nat, q ≤ j ∧ i = .int .i64 q ∧ Below w.heap.size w wr ∧ Trio 2 wr w.heap.size v3 (.slice A1 j c1) (.slice A2 j c2) (P.days ++ [p]) L4 (lateTo l L4 P.late (d : Int) q)) (fun i _ => j - (intOf i).toNat)
                  case atStart => exact ⟨0, Nat.zero_le _, rfl, hB4.out, hT4.out⟩
                  case round =>
                    obtain ⟨q, hq, rfl, hb5, hT5⟩ := hrel
                    clear hT4 hB4
                    by_cases hqj : q < j
                    · obtain ⟨b_r, o_r, x, rfl, hbl_r, hx_r, c0_r, c1_r, c2_r, c3_r, c4_r⟩ := hr.Order hqj
                      have d0_r : wr.cell? ⟨b_r, o_r + q * 5, none⟩ = some (.string x.fWho) := (hb5.cell (p := ⟨b_r, o_r + q * 5, none⟩) hbl_r).trans c0_r
                      have d1_r : wr.cell? ⟨b_r, o_r + q * 5 + 1, none⟩ = some (.int .i64 x.fMany) := (hb5.cell (p := ⟨b_r, o_r + q * 5 + 1, none⟩) hbl_r).trans c1_r
                      have d2_r : wr.cell? ⟨b_r, o_r + q * 5 + 2, none⟩ = some (.int .i64 x.fEach) := (hb5.cell (p := ⟨b_r, o_r + q * 5 + 2, none⟩) hbl_r).trans c2_r
                      have d3_r : wr.cell? ⟨b_r, o_r + q * 5 + 3, none⟩ = some (.int .i64 x.fFrom) := (hb5.cell (p := ⟨b_r, o_r + q * 5 + 3, none⟩) hbl_r).trans c3_r
                      have d4_r : wr.cell? ⟨b_r, o_r + q * 5 + 4, none⟩ = some (.int .i64 x.fDue) := (hb5.cell (p := ⟨b_r, o_r + q * 5 + 4, none⟩) hbl_r).trans c4_r
                      have hX_r := hide hx_r
                      clear hx_r c0_r c1_r c2_r c3_r c4_r
                      have hB5 := hide (hb5.alloc hb5.size (.cells #[.string x.fWho, .int .i64 x.fMany, .int .i64 x.fEach, .int .i64 x.fFrom, .int .i64 x.fDue] 35))
                      have hT6 := hide (hT5.alloc (.cells #[.string x.fWho, .int .i64 x.fMany, .int .i64 x.fEach, .int .i64 x.fFrom, .int .i64 x.fDue] 35))
                      obtain ⟨gl5, capl5, z5, hvl, -, -, hz5, f0, -⟩ := hT6.out.o1.at' (k := q) (by rw [hLL4.out]; exact hqj)
                      injection hvl with hvl1 hvl2 hvl3
                      subst hvl1
                      obtain ⟨gq, capq, z6, hvq, hge, -, -, e0, e1⟩ := hT6.out.o2.at' (k := q) (by rw [lateTo_len, HLA.out]; exact hqj)
                      injection hvq with hvq1 hvq2 hvq3
                      subst hvq1
                      have hZ := hide hz5
                      have hX := hX_r
                      clear hvl2 hvl3 hvq2 hvq3 hz5 hT5 hr
                      have q0 : (0 : Int) ≤ (q : Int) := by omega
                      have q1 : (q : Int) < (j : Int) := by omega
                      have hwd : IntKind.i64.wrap ((d : Int) + 1) = (d : Int) + 1 := IntWalk.i64_in _ (by omega)
                      by_cases td : x.fDue = (d : Int) + 1
                      · have hpk := hide (lateTo_yes (late := P.late) hX.out hZ.out td)
                        have ed : (x.fDue == (d : Int) + 1) = true := by simp [td]
                        have ed2 : decide (x.fDue = (d : Int) + 1) = true := decide_eq_true td
                        clear td hb5
                        go_wp2
                        go_roundw
                        case rel => exact ⟨q + 1, by omega, by go_num, below_setCell hB5.out hge _, by rw [hpk.out]; exact hT6.out.set2 rfl (by rw [lateTo_len, HLA.out]; exact hqj) _⟩
                        case measure => simp [intOf]; omega
                      · have hpk := hide (lateTo_no (late := P.late) hX.out hZ.out td)
                        have ed : (x.fDue == (d : Int) + 1) = false := by simp [td]
                        have ed2 : decide (x.fDue = (d : Int) + 1) = false := decide_eq_false td
                        clear td hb5
                        go_wp2
                        go_roundw
                        case rel => exact ⟨q + 1, by omega, by go_num, hB5.out, by rw [hpk.out]; exact hT6.out⟩
                        case measure => simp [intOf]; omega
                    · have hqj2 : q = j := by omega
                      subst hqj2
                      have hB7 := hide hb5
                      have hT7 := hide hT5
                      clear hb5 hT5
                      go_wp2
                      go_roundw
                      case rel => exact ⟨d + 1, by omega, by go_num, hB7.out, by have := hT7.out; rw [show planTo l (d + 1) = planDay l (planTo l d) d from rfl, ← hP.out]; unfold planDay; rw [← hp.out, ← hL4.out, hl.out]; exact this⟩
                      case measure => simp [intOf]; omega
                · obtain ⟨m, hm⟩ : ∃ m : Nat, p = (m : Int) := ⟨p.toNat, by omega⟩
                  have hmk : m < j := by omega
                  have hz0 : ∃ z, P.left[m]? = some z ∧ 0 < z := by
                    have := pickTo_pos l P.left (d : Int) j (by rw [hpp.out]; omega)
                    rw [hpp.out, hm, Int.toNat_natCast] at this
                    exact this
                  obtain ⟨z, hz, hz1⟩ := hz0
                  have hzb := hall.out z (List.mem_of_getElem? hz)
                  have hw1 : IntKind.i64.wrap (z - 1) = z - 1 := IntWalk.i64_in _ (by omega)
                  have hdec : Hid (decr P.left p = P.left.set m (z - 1)) := hide (by rw [hm]; exact decr_at hz)
                  obtain ⟨gl, capl, z9, hvl, hgb, hgl, hz9, f0, f1⟩ := hT6.out.o1.at' (k := m) (by rw [HLL.out]; exact hmk)
                  obtain rfl : z = z9 := Option.some.inj (hz.symm.trans hz9)
                  injection hvl with hvl1 hvl2 hvl3
                  subst hvl1
                  have hS6 := hide (hT6.out.set1 rfl (k := m) (by rw [HLL.out]; exact hmk) (z - 1))
                  have hBS := hide (below_setCell (k := m) hB6.out hgb (.int .i64 (z - 1)))
                  rw [← hdec.out] at hS6
                  have hzz := hide hz
                  have hmh := hide hm
                  have n0 : decide (0 ≤ p) = true := decide_eq_true (by omega)
                  have p0 : 0 ≤ p := by omega
                  have p1 : p < (j : Int) := by omega
                  have p2 : p.toNat = m := by omega
                  clear hz hz9 hvl2 hvl3 hm hzb
                  go_wp2_with (at_builtin; refine wpl_app1H w6.heap.size (by simp) rfl (.tmp 86) (.tmp 88) rfl Tryd.underlying49 info_int64' rfl (by omega) (by omega) i64c_len i64c_one rfl hS6.out.o0 p _ rfl rfl (by rw [HDL.out]; omega) hBS.out.size ?_; intro v3 w3 ho3 hg3 hat3; have hB4 := hide (hS6.out.o0.grown hBS.out hg3); have hT4 := hide (hS6.out.app0 ho3 hg3 hat3 (by simp)); clear ho3 hg3 hat3)
                  clear f0 f1 p2
                  obtain ⟨L4, hL4⟩ : ∃ L4, Hid (L4 = decr P.left p) := ⟨_, hide rfl⟩
                  rw [← hL4.out] at hT4
                  have hLL4 : Hid (L4.length = j) := hide (by rw [hL4.out, decr_len, HLL.out])
                  clear hT6 hB6 hS6 hBS
                  go_loopw [92] (fun i wr => ∃ q : Nat, q ≤ j ∧ i = .int .i64 q ∧ Below w.heap.size w wr ∧ Trio 2 wr w.heap.size v3 (.slice (some ⟨gl, 0, none⟩) j c1) (.slice A2 j c2) (P.days ++ [p]) L4 (lateTo l L4 P.late (d : Int) q)) (fun i _ => j - (intOf i).toNat)
                  case atStart => exact ⟨0, Nat.zero_le _, rfl, hB4.out, hT4.out⟩
                  case round =>
                    obtain ⟨q, hq, rfl, hb5, hT5⟩ := hrel
                    clear hT4 hB4
                    by_cases hqj : q < j
                    · obtain ⟨b_r, o_r, x, rfl, hbl_r, hx_r, c0_r, c1_r, c2_r, c3_r, c4_r⟩ := hr.Order hqj
                      have d0_r : wr.cell? ⟨b_r, o_r + q * 5, none⟩ = some (.string x.fWho) := (hb5.cell (p := ⟨b_r, o_r + q * 5, none⟩) hbl_r).trans c0_r
                      have d1_r : wr.cell? ⟨b_r, o_r + q * 5 + 1, none⟩ = some (.int .i64 x.fMany) := (hb5.cell (p := ⟨b_r, o_r + q * 5 + 1, none⟩) hbl_r).trans c1_r
                      have d2_r : wr.cell? ⟨b_r, o_r + q * 5 + 2, none⟩ = some (.int .i64 x.fEach) := (hb5.cell (p := ⟨b_r, o_r + q * 5 + 2, none⟩) hbl_r).trans c2_r
                      have d3_r : wr.cell? ⟨b_r, o_r + q * 5 + 3, none⟩ = some (.int .i64 x.fFrom) := (hb5.cell (p := ⟨b_r, o_r + q * 5 + 3, none⟩) hbl_r).trans c3_r
                      have d4_r : wr.cell? ⟨b_r, o_r + q * 5 + 4, none⟩ = some (.int .i64 x.fDue) := (hb5.cell (p := ⟨b_r, o_r + q * 5 + 4, none⟩) hbl_r).trans c4_r
                      have hX_r := hide hx_r
                      clear hx_r c0_r c1_r c2_r c3_r c4_r
                      have hB5 := hide (hb5.alloc hb5.size (.cells #[.string x.fWho, .int .i64 x.fMany, .int .i64 x.fEach, .int .i64 x.fFrom, .int .i64 x.fDue] 35))
                      have hT6 := hide (hT5.alloc (.cells #[.string x.fWho, .int .i64 x.fMany, .int .i64 x.fEach, .int .i64 x.fFrom, .int .i64 x.fDue] 35))
                      obtain ⟨gl5, capl5, z5, hvl, -, -, hz5, f0, -⟩ := hT6.out.o1.at' (k := q) (by rw [hLL4.out]; exact hqj)
                      injection hvl with hvl1 hvl2 hvl3
                      injection hvl1 with hvl1
                      injection hvl1 with hvl1
                      subst hvl1
                      obtain ⟨gq, capq, z6, hvq, hge, -, -, e0, e1⟩ := hT6.out.o2.at' (k := q) (by rw [lateTo_len, HLA.out]; exact hqj)
                      injection hvq with hvq1 hvq2 hvq3
                      subst hvq1
                      have hZ := hide hz5
                      have hX := hX_r
                      clear hvl2 hvl3 hvq2 hvq3 hz5 hT5 hr
                      have q0 : (0 : Int) ≤ (q : Int) := by omega
                      have q1 : (q : Int) < (j : Int) := by omega
                      have hwd : IntKind.i64.wrap ((d : Int) + 1) = (d : Int) + 1 := IntWalk.i64_in _ (by omega)
                      by_cases td : x.fDue = (d : Int) + 1
                      · have hpk := hide (lateTo_yes (late := P.late) hX.out hZ.out td)
                        have ed : (x.fDue == (d : Int) + 1) = true := by simp [td]
                        have ed2 : decide (x.fDue = (d : Int) + 1) = true := decide_eq_true td
                        clear td hb5
                        go_wp2
                        go_roundw
                        case rel => exact ⟨q + 1, by omega, by go_num, below_setCell hB5.out hge _, by rw [hpk.out]; exact hT6.out.set2 rfl (by rw [lateTo_len, HLA.out]; exact hqj) _⟩
                        case measure => simp [intOf]; omega
                      · have hpk := hide (lateTo_no (late := P.late) hX.out hZ.out td)
                        have ed : (x.fDue == (d : Int) + 1) = false := by simp [td]
                        have ed2 : decide (x.fDue = (d : Int) + 1) = false := decide_eq_false td
                        clear td hb5
                        go_wp2
                        go_roundw
                        case rel => exact ⟨q + 1, by omega, by go_num, hB5.out, by rw [hpk.out]; exact hT6.out⟩
                        case measure => simp [intOf]; omega
                    · have hqj2 : q = j := by omega
                      subst hqj2
                      have hB7 := hide hb5
                      have hT7 := hide hT5
                      clear hb5 hT5
                      go_wp2
                      go_roundw
                      case rel => exact ⟨d + 1, by omega, by go_num, hB7.out, by have := hT7.out; rw [show planTo l (d + 1) = planDay l (planTo l d) d from rfl, ← hP.out]; unfold planDay; rw [← hp.out, ← hL4.out, hl.out]; exact this⟩
                      case measure => simp [intOf]; omega
          · have e9 : (lastDue l).toNat = d := by omega
            have n9 : decide ((d : Int) < lastDue l) = false := decide_eq_false hdl
            go_wp2
            go_ret2
            have hT9 := hTo.out
            rw [show planTo l d = mPlan l by unfold mPlan; rw [e9]] at hT9
            refine ⟨_, _, _, ?_, hT9, hBo.out⟩
            rfl
end Go.Proofs.YtnfbeobdoieeiaaDoor
