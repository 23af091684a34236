/- Contract of the reference's plan: for each day the order on which one works, and what is left of each order when it is due. -/
import Derived.Test.YtnfbeobdoieeiaaDoorOrdD
namespace Go.Proofs.YtnfbeobdoieeiaaDoor
open Go.ChangeShapes Go.WideShapes Go.ChangeAt Go.RowKit Go.Deep
set_option maxRecDepth 100000
theorem info_int64' : (Tryd.prog.info? 2).map (fun i => (i.zero, i.size, i.bytes)) = some (some (.int .i64 0), 1, 8) := by kernel_rfl
theorem plan_facts {l : List Order} (h : ordersOk l = true) : l.length ≤ 30 ∧ (∀ x ∈ l, 0 ≤ dayF x ∧ dayF x ≤ 2000) ∧ (∀ x ∈ l, 0 ≤ x.fDue ∧ x.fDue ≤ 5000) :=
  ⟨orders_len h, dayF_all h, fun x hx => by have := Order.ok_iff.1 (orders_at h hx); omega⟩
theorem decr_neg {left : List Int} {b : Int} (h : b < 0) : decr left b = left := if_neg (by omega)
theorem decr_at {left : List Int} {m : Nat} {z : Int} (h : left[m]? = some z) : decr left (m : Int) = left.set m (z - 1) := by
  unfold decr
  rw [if_pos (by omega), List.getD_eq_getElem?_getD, Int.toNat_natCast, h]; rfl
theorem trio_new {e : TypeId} {w0 w : World} (hb : w0.heap.size ≤ w.heap.size) {v1 : Value} {k n : Nat} {b c : List Int} {cur : Array Value} (h1 : Own i64c e 1 w w0.heap.size v1 k b) (h2 : Own i64c e 1 (w.alloc (.cells cur e)) w0.heap.size (.slice (some ⟨w.heap.size, 0, none⟩) n n) n c) :
    Trio e ((w.alloc (.cells cur e)).alloc (.cells #[] e)) w0.heap.size (.slice (some ⟨w.heap.size + 1, 0, none⟩) 0 0) v1 (.slice (some ⟨w.heap.size, 0, none⟩) n n) [] b c := by
  have k1 : b.length = k := h1.len
  have k2 : c.length = n := h2.len
  subst k1
  have h0 : Own i64c e 1 ((w.alloc (.cells cur e)).alloc (.cells #[] e)) w0.heap.size (.slice (some ⟨w.heap.size + 1, 0, none⟩) 0 0) 0 [] := by
    have := Own.none_made (cells := i64c) (e := e) (s := 1) (base := w0.heap.size) (w.alloc (.cells cur e)) (by simp; omega)
    simpa using this
  exact ⟨h0, (h1.below ((Below.refl _ _).alloc (Nat.le_refl _) _)).below ((Below.refl _ _).alloc (Nat.le_refl _) _), by rw [k2]; exact h2.below ((Below.refl _ _).alloc (Nat.le_refl _) _),
    Far.new h1 (g := w.heap.size + 1) (by omega) rfl, Far.new h2 (g := w.heap.size + 1) (by simp) rfl, (Far.new h1 (g := w.heap.size) (Nat.le_refl _) rfl).symm⟩
set_option maxHeartbeats 2000000 in
theorem sPlan_any (A : Option Addr) (n c : Nat) (l : List Order) (w : World) (hn : n ≤ 1048576) (hok : ordersOk l = true) (hr : Arr Order.cells 5 w w.heap.size A n l) :
    Calls Tryd.prog 28 #[.slice A n c] w fun e w' => ∃ v0 v1 v2, e = .returned (.tuple #[v0, v2]) ∧ Trio 2 w' w.heap.size v0 v1 v2 (mPlan l).days (mPlan l).left (mPlan l).late ∧ Below w.heap.size w w' := by
  have hl := hide hr.len
  obtain ⟨hlen, hday0, hdue0⟩ := plan_facts hok
  have hday := hide hday0
  have hdue := hide hdue0
  have hn30 : n ≤ 30 := by rw [← hl.out]; exact hlen
  have hld : 0 ≤ lastDue l ∧ lastDue l ≤ 5000 := lastDue_bound (fun x hx => (hdue0 x hx).2)
  clear hok hlen hday0 hdue0
  obtain ⟨i0, hi0, hz0, hz1, hz2⟩ := info_parts info_int64'
  have hmk := fun W => run_make_rowN (P := Tryd.prog) 49 2 i0 _ Tryd.underlying49 hi0 hz0 .i64 .i64 n n (Nat.le_refl _) (by rw [hz2]; omega) (by omega) W
  rw [hz1] at hmk
  obtain ⟨cur, hcur⟩ : ∃ cur, cur = madeCells (Value.int .i64 0).cells (n * 1) := ⟨_, rfl⟩
  rw [← hcur] at hmk
  have hcl : cur.toList = (List.replicate n (0 : Int)).flatMap i64c := by rw [hcur]; exact made_flat i64c_len (by omega) #[.int .i64 0] 0 rfl n
  clear hcur
  have hmade := hide (fun (W : World) (hW : w.heap.size ≤ W.heap.size) => Own.made (base := w.heap.size) (e := 2) W hW (show n ≤ maxLen by unfold maxLen; omega) (0 : Int) i64c_len cur hcl)
  clear hcl
  go_enter Tryd.func28, Tryd.ntmps28
  go_wp2
  go_loopw [4, 5, 6] (fun v q i wr => ∃ k : Nat, k ≤ n ∧ i = .int .i64 k ∧ q = .int .i64 (lastDue (l.take k)) ∧ Below w.heap.size w wr ∧ Own i64c 2 1 wr w.heap.size v k ((l.take k).map dayF)) (fun _ _ i _ => n - (intOf i).toNat)
  case atStart => exact ⟨0, Nat.zero_le _, rfl, rfl, by go_grown, Own.none_made _ (Nat.le_refl _)⟩
  case round =>
    rename_i v _ _
    obtain ⟨k, hk, rfl, rfl, hb, hown⟩ := hrel
    have hO := hide hown
    clear hown
    by_cases hlt : k < n
    · obtain ⟨b, o, x, rfl, hbl, hx, c0, c1, c2, c3, c4⟩ := hr.Order hlt
      have d0 : wr.cell? ⟨b, o + k * 5, none⟩ = some (.string x.fWho) := (hb.cell (p := ⟨b, o + k * 5, none⟩) hbl).trans c0
      have d1 : wr.cell? ⟨b, o + k * 5 + 1, none⟩ = some (.int .i64 x.fMany) := (hb.cell (p := ⟨b, o + k * 5 + 1, none⟩) hbl).trans c1
      have d2 : wr.cell? ⟨b, o + k * 5 + 2, none⟩ = some (.int .i64 x.fEach) := (hb.cell (p := ⟨b, o + k * 5 + 2, none⟩) hbl).trans c2
      have d3 : wr.cell? ⟨b, o + k * 5 + 3, none⟩ = some (.int .i64 x.fFrom) := (hb.cell (p := ⟨b, o + k * 5 + 3, none⟩) hbl).trans c3
      have d4 : wr.cell? ⟨b, o + k * 5 + 4, none⟩ = some (.int .i64 x.fDue) := (hb.cell (p := ⟨b, o + k * 5 + 4, none⟩) hbl).trans c4
      have hX := hide hx
      clear hx c0 c1 c2 c3 c4
      have hB := hide hb
      clear hb
      have hxb : 0 ≤ x.fMany * x.fEach ∧ x.fMany * x.fEach ≤ 2000 := hday.out x (List.mem_of_getElem? hX.out)
      go_wp2_with (first | (go_at_call 31; refine (sDays1_any x b (o + k * 5) _ hxb d1 d2).mono ?_; rintro e w1 ⟨rfl, hb1⟩; have hB2 := hide (Below.up hB.out hb1); have hO2 := hide (hO.out.below hb1); clear hb1) | (at_builtin; refine wpl_app2 rfl (.tmp 19) (.tmp 24) _ rfl Tryd.underlying49 info_int64' rfl (by omega) (by omega) rfl hO2.out (dayF x) _ rfl rfl rfl (by simp [i64c, Value.oneCell']) (by omega) hB2.out.size ?_; intro v2 w2 ho2 hg2 hat2; have hB3 := hide (hO2.out.grown hB2.out hg2); have e4 : w2.cell? ⟨b, o + k * 5 + 4, none⟩ = some (.int .i64 x.fDue) := (hB3.out.cell (p := ⟨b, o + k * 5 + 4, none⟩) hbl).trans ((hB.out.cell (p := ⟨b, o + k * 5 + 4, none⟩) hbl).symm.trans d4)) | (go_at_call 43; refine (sMax_any _ _ _).mono ?_; rintro e w' ⟨rfl, rfl⟩))
      go_roundw
      case rel => exact ⟨k + 1, by omega, by go_num, by rw [lastDue_snoc hX.out], hB3.out, by rw [take_snoc hX.out, List.map_append]; exact ho2⟩
      case measure => simp [intOf]; omega
    · have hkn : k = n := by omega
      subst hkn
      have hB := hide hb
      clear hb
      have htk : l.take k = l := List.take_of_length_le (by rw [hl.out]; exact Nat.le_refl _)
      rw [htk] at hO ⊢
      obtain ⟨A1, c1, rfl, _⟩ := hO.out.slice
      have hm2 := hmade.out wr hB.out.size
      have hT0 := hide (trio_new hB.out.size hO.out hm2)
      obtain ⟨g2, hg2⟩ : ∃ g2, g2 = wr.heap.size := ⟨_, rfl⟩
      have hge2 : w.heap.size ≤ g2 := by rw [hg2]; exact hB.out.size
      go_wp2
      go_loopw [8, 9] (fun u i wr2 => ∃ d : Nat, (d : Int) ≤ lastDue l ∧ i = .int .i64 d ∧ Below w.heap.size w wr2 ∧ Trio 2 wr2 w.heap.size u (.slice A1 k c1) (.slice (some ⟨g2, 0, none⟩) k k) (planTo l d).days (planTo l d).left (planTo l d).late) (fun _ i _ => (lastDue l).toNat - (intOf i).toNat)
      case atStart => exact ⟨0, hld.1, rfl, (hB.out.alloc hB.out.size _).alloc (by simp; exact Nat.le_succ_of_le hB.out.size) _, by rw [hg2]; show Trio _ _ _ _ _ _ [] (l.map dayF) (List.replicate l.length 0); rw [hl.out]; exact hT0.out⟩
      case round =>
        rename_i u _ _
        obtain ⟨d, hd, rfl, hb, hT⟩ := hrel
        clear hT0 hm2 hB hO
        by_cases hdl : (d : Int) < lastDue l
        · have hB := hide hb
          have hT1 := hide hT
          have hll : (planTo l d).left.length = k := by rw [planTo_left_len, hl.out]
          have hdl' := planTo_days_len l d
          have hleft0 := hT.o1
          rw [hll] at hleft0
          have hleft := hide (hleft0.arr i64c_len)
          clear hleft0
          obtain ⟨p, hp⟩ : ∃ p, Hid (p = planPick l (planTo l d) d) := ⟨_, hide rfl⟩
          have hpp : Hid (pickTo l (planTo l d).left (d : Int) k = p) := hide (by rw [hp.out]; unfold planPick; rw [hl.out])
          have hpb := pickTo_bound l (planTo l d).left (d : Int) k
          rw [hpp.out] at hpb
          clear hb hT
          by_cases hpn : p < 0
          · have n0 : decide (0 ≤ p) = false := decide_eq_false (by omega)
            have hdec : Hid (decr (planTo l d).left (planPick l (planTo l d) d) = (planTo l d).left) := hide (decr_neg (by rw [← hp.out]; exact hpn))
            go_wp2_with (first | (go_at_call 44; refine (sNext_any A k c l A1 c1 (planTo l d).left (d : Int) _ hn (hr.go hB.out) hleft.out).mono ?_; rintro e w1 ⟨rfl, hb1⟩; have hB2 := hide (Below.up hB.out hb1); have hT2 := hide (hT1.out.below hb1); rw [hpp.out]; clear hb1) | (at_builtin; refine wpl_app2 rfl (.tmp 46) (.tmp 48) _ rfl Tryd.underlying49 info_int64' rfl (by omega) (by omega) rfl hT2.out.o0 p _ rfl rfl rfl (by simp [i64c, Value.oneCell']) (by omega) hB2.out.size ?_; intro v3 w3 ho3 hg3 hat3; have hB4 := hide (hT2.out.o0.grown hB2.out hg3); have hT4 := hide (hT2.out.app0 ho3 hg3 hat3 (by omega))))
            clear hT1 hT2 hB hB2 hleft
            rw [hp.out] at hT4
            go_loopw [11] (fun i wr => ∃ j : Nat, j ≤ k ∧ i = .int .i64 j ∧ Below w.heap.size w wr ∧ Trio 2 wr w.heap.size v3 (.slice A1 k c1) (.slice (some ⟨g2, 0, none⟩) k k) ((planTo l d).days ++ [planPick l (planTo l d) d]) (planTo l d).left (lateTo l (planTo l d).left (planTo l d).late (d : Int) j)) (fun i _ => k - (intOf i).toNat)
            case atStart => exact ⟨0, Nat.zero_le _, rfl, hB4.out, hT4.out⟩
            case round =>
              obtain ⟨j, hj, rfl, hb, hT5⟩ := hrel
              clear hB4
              subst hg2
              by_cases hjk : j < k
              · obtain ⟨b, o, x, rfl, hbl, hx, c0, c1, c2, c3, c4⟩ := hr.Order hjk
                have d0 : wr.cell? ⟨b, o + j * 5, none⟩ = some (.string x.fWho) := (hb.cell (p := ⟨b, o + j * 5, none⟩) hbl).trans c0
                have d1 : wr.cell? ⟨b, o + j * 5 + 1, none⟩ = some (.int .i64 x.fMany) := (hb.cell (p := ⟨b, o + j * 5 + 1, none⟩) hbl).trans c1
                have d2 : wr.cell? ⟨b, o + j * 5 + 2, none⟩ = some (.int .i64 x.fEach) := (hb.cell (p := ⟨b, o + j * 5 + 2, none⟩) hbl).trans c2
                have d3 : wr.cell? ⟨b, o + j * 5 + 3, none⟩ = some (.int .i64 x.fFrom) := (hb.cell (p := ⟨b, o + j * 5 + 3, none⟩) hbl).trans c3
                have d4 : wr.cell? ⟨b, o + j * 5 + 4, none⟩ = some (.int .i64 x.fDue) := (hb.cell (p := ⟨b, o + j * 5 + 4, none⟩) hbl).trans c4
                have hX := hide hx
                clear hx c0 c1 c2 c3 c4
                have hB := hide hb
                clear hr hb
                obtain ⟨gl, capl, z, hvl, -, -, hz, f0, -⟩ := hT5.o1.at' (k := j) (by rw [hll]; exact hjk)
                injection hvl with hvl1 hvl2 hvl3
                subst hvl1
                obtain ⟨gq, capq, z2, hvq, hge, -, -, e0, e1⟩ := hT5.o2.at' (k := j) (by rw [lateTo_len, planTo_late_len, hl.out]; exact hjk)
                injection hvq with hvq1 hvq2 hvq3
                injection hvq1 with hvq1
                injection hvq1 with hvq1
                subst hvq1
                have hZ := hide hz
                clear hvl2 hvl3 hvq2 hvq3 hll hdl'
                have hT6 := hide hT5
                clear hz hT5
                have hwd : IntKind.i64.wrap ((d : Int) + 1) = (d : Int) + 1 := IntWalk.i64_in _ (by omega)
                by_cases td : x.fDue = (d : Int) + 1
                · have hp := hide (lateTo_yes (late := (planTo l d).late) hX.out hZ.out td)
                  have ed : (x.fDue == (d : Int) + 1) = true := by simp [td]
                  have ed2 : decide (x.fDue = (d : Int) + 1) = true := decide_eq_true td
                  go_wp2
                  go_roundw
                  case rel => exact ⟨j + 1, by omega, by go_num, below_setCell hB.out hge _, by rw [hp.out]; exact hT6.out.set2 rfl (by rw [lateTo_len, planTo_late_len, hl.out]; exact hjk) _⟩
                  case measure => simp [intOf]; omega
                · have hp := hide (lateTo_no (late := (planTo l d).late) hX.out hZ.out td)
                  have ed : (x.fDue == (d : Int) + 1) = false := by simp [td]
                  have ed2 : decide (x.fDue = (d : Int) + 1) = false := decide_eq_false td
                  go_wp2
                  go_roundw
                  case rel => exact ⟨j + 1, by omega, by go_num, hB.out, by rw [hp.out]; exact hT6.out⟩
                  case measure => simp [intOf]; omega
              · have hjk2 : j = k := by omega
                subst hjk2
                have hB := hide hb
                have hT6 := hide hT5
                clear hb hT5
                go_wp2
                go_roundw
                case rel => exact ⟨d + 1, by omega, by go_num, hB.out, by have := hT6.out; rw [show planTo l (d + 1) = planDay l (planTo l d) d from rfl]; unfold planDay; rw [hdec.out, hl.out]; exact this⟩
                case measure => simp [intOf]; omega
          · obtain ⟨m, hm⟩ : ∃ m : Nat, p = (m : Int) := ⟨p.toNat, by omega⟩
            have hmk : m < k := by omega
            have hz0 : ∃ z, (planTo l d).left[m]? = some z ∧ 0 < z := by
              have := pickTo_pos l (planTo l d).left (d : Int) k (by rw [hpp.out]; omega)
              rw [hpp.out, hm, Int.toNat_natCast] at this
              exact this
            obtain ⟨z, hz, hz1⟩ := hz0
            have hzb := planTo_left_all hday.out d z (List.mem_of_getElem? hz)
            have hw1 : IntKind.i64.wrap (z - 1) = z - 1 := IntWalk.i64_in _ (by omega)
            have hdec : Hid (decr (planTo l d).left (planPick l (planTo l d) d) = (planTo l d).left.set m (z - 1)) := hide (by rw [← hp.out, hm]; exact decr_at hz)
            have hzz := hide hz
            clear hz hzb
            subst hm
            have n0 : decide ((0 : Int) ≤ (m : Int)) = true := decide_eq_true (by omega)
            have hm0 : (0 : Int) ≤ (m : Int) := by omega
            have hmk' : (m : Int) < (k : Int) := by omega
            go_wp2_with (first | (go_at_call 44; refine (sNext_any A k c l A1 c1 (planTo l d).left (d : Int) _ hn (hr.go hB.out) hleft.out).mono ?_; rintro e w1 ⟨rfl, hb1⟩; have hB2 := hide (Below.up hB.out hb1); have hT2 := hide (hT1.out.below hb1); rw [hpp.out]; clear hb1) | (at_builtin; refine wpl_app2 rfl (.tmp 46) (.tmp 48) _ rfl Tryd.underlying49 info_int64' rfl (by omega) (by omega) rfl hT2.out.o0 (m : Int) _ rfl rfl rfl (by simp [i64c, Value.oneCell']) (by omega) hB2.out.size ?_; intro v3 w3 ho3 hg3 hat3; have hB4 := hide (hT2.out.o0.grown hB2.out hg3); have hT4 := hide (hT2.out.app0 ho3 hg3 hat3 (by omega)); obtain ⟨gl0, capl0, z0, hvl0, hgl, -, hzl, f0, f1⟩ := hT4.out.o1.at' (k := m) (by rw [hll]; exact hmk); injection hvl0 with hvl1 hvl2 hvl3; subst hvl1; obtain rfl : z = z0 := Option.some.inj (hzz.out.symm.trans hzl); clear hvl2 hvl3 hzl))
            clear hT1 hT2 hB hB2 hleft f0 f1
            rw [hp.out] at hT4
            go_loopw [11] (fun i wr => ∃ j : Nat, j ≤ k ∧ i = .int .i64 j ∧ Below w.heap.size w wr ∧ Trio 2 wr w.heap.size v3 (.slice (some ⟨gl0, 0, none⟩) k c1) (.slice (some ⟨g2, 0, none⟩) k k) ((planTo l d).days ++ [planPick l (planTo l d) d]) ((planTo l d).left.set m (z - 1)) (lateTo l ((planTo l d).left.set m (z - 1)) (planTo l d).late (d : Int) j)) (fun i _ => k - (intOf i).toNat)
            case atStart => exact ⟨0, Nat.zero_le _, rfl, below_setCell hB4.out hgl _, hT4.out.set1 rfl (by rw [hll]; exact hmk) _⟩
            case round =>
              obtain ⟨j, hj, rfl, hb, hT5⟩ := hrel
              clear hB4
              subst hg2
              by_cases hjk : j < k
              · obtain ⟨b, o, x, rfl, hbl, hx, c0, c1, c2, c3, c4⟩ := hr.Order hjk
                have d0 : wr.cell? ⟨b, o + j * 5, none⟩ = some (.string x.fWho) := (hb.cell (p := ⟨b, o + j * 5, none⟩) hbl).trans c0
                have d1 : wr.cell? ⟨b, o + j * 5 + 1, none⟩ = some (.int .i64 x.fMany) := (hb.cell (p := ⟨b, o + j * 5 + 1, none⟩) hbl).trans c1
                have d2 : wr.cell? ⟨b, o + j * 5 + 2, none⟩ = some (.int .i64 x.fEach) := (hb.cell (p := ⟨b, o + j * 5 + 2, none⟩) hbl).trans c2
                have d3 : wr.cell? ⟨b, o + j * 5 + 3, none⟩ = some (.int .i64 x.fFrom) := (hb.cell (p := ⟨b, o + j * 5 + 3, none⟩) hbl).trans c3
                have d4 : wr.cell? ⟨b, o + j * 5 + 4, none⟩ = some (.int .i64 x.fDue) := (hb.cell (p := ⟨b, o + j * 5 + 4, none⟩) hbl).trans c4
                have hX := hide hx
                clear hx c0 c1 c2 c3 c4
                have hB := hide hb
                clear hr hb
                obtain ⟨gl, capl, z4, hvl, -, -, hz, f0, -⟩ := hT5.o1.at' (k := j) (by rw [List.length_set, hll]; exact hjk)
                injection hvl with hvl1 hvl2 hvl3
                injection hvl1 with hvl1
                injection hvl1 with hvl1
                subst hvl1
                obtain ⟨gq, capq, z2, hvq, hge, -, -, e0, e1⟩ := hT5.o2.at' (k := j) (by rw [lateTo_len, planTo_late_len, hl.out]; exact hjk)
                injection hvq with hvq1 hvq2 hvq3
                injection hvq1 with hvq1
                injection hvq1 with hvq1
                subst hvq1
                have hZ := hide hz
                clear hvl2 hvl3 hvq2 hvq3 hll hdl'
                have hT6 := hide hT5
                clear hz hT5
                have hwd : IntKind.i64.wrap ((d : Int) + 1) = (d : Int) + 1 := IntWalk.i64_in _ (by omega)
                by_cases td : x.fDue = (d : Int) + 1
                · have hp := hide (lateTo_yes (late := (planTo l d).late) hX.out hZ.out td)
                  have ed : (x.fDue == (d : Int) + 1) = true := by simp [td]
                  have ed2 : decide (x.fDue = (d : Int) + 1) = true := decide_eq_true td
                  go_wp2
                  go_roundw
                  case rel => exact ⟨j + 1, by omega, by go_num, below_setCell hB.out hge _, by rw [hp.out]; exact hT6.out.set2 rfl (by rw [lateTo_len, planTo_late_len, hl.out]; exact hjk) _⟩
                  case measure => simp [intOf]; omega
                · have hp := hide (lateTo_no (late := (planTo l d).late) hX.out hZ.out td)
                  have ed : (x.fDue == (d : Int) + 1) = false := by simp [td]
                  have ed2 : decide (x.fDue = (d : Int) + 1) = false := decide_eq_false td
                  go_wp2
                  go_roundw
                  case rel => exact ⟨j + 1, by omega, by go_num, hB.out, by rw [hp.out]; exact hT6.out⟩
                  case measure => simp [intOf]; omega
              · have hjk2 : j = k := by omega
                subst hjk2
                have hB := hide hb
                have hT6 := hide hT5
                clear hb hT5
                go_wp2
                go_roundw
                case rel => exact ⟨d + 1, by omega, by go_num, hB.out, by have := hT6.out; rw [show planTo l (d + 1) = planDay l (planTo l d) d from rfl]; unfold planDay; rw [hdec.out, hl.out]; exact this⟩
                case measure => simp [intOf]; omega
        · have e9 : (lastDue l).toNat = d := by omega
          have n9 : decide ((d : Int) < lastDue l) = false := decide_eq_false hdl
          have hB := hide hb
          have hT1 := hide hT
          clear hb hT
          go_wp2
          go_ret2
          have hT9 := hT1.out
          rw [show planTo l d = mPlan l by unfold mPlan; rw [e9]] at hT9
          subst hg2
          refine ⟨_, _, _, ?_, hT9, hB.out⟩
          rfl
end Go.Proofs.YtnfbeobdoieeiaaDoor
