/- Contract: the oldest bundles of a sort are taken, the reference's way. -/
import Derived.Test.YtcmcolgbkfadfaaHeapD
namespace Go.Proofs.Ytcmcolgbkfadfaa
open Go.ChangeShapes Go.WideShapes Go.ChangeAt Go.RowKit Go.Deep
set_option maxRecDepth 100000
theorem Own.setFar {α : Type} {cells : α → List Value} {e s : Nat} {w : World} {base : Nat} {v : Value} {n : Nat} {l : List α} (h : Own cells e s w base v n l) {p : Addr} (hne : v.ownBlock ≠ some p.block) (u : Value) : Own cells e s (w.setCell p u) base v n l :=
  h.kept (row := some p.block) (only_setCell (only_of_below (Below.refl _ _) _) rfl u) (.inr hne)
theorem at_ne {v v' : Value} {H H' : Nat} (hat : v'.ownBlock = v.ownBlock ∨ v'.ownBlock = some H) (h : v.ownBlock ≠ some H') (hne : H ≠ H') : v'.ownBlock ≠ some H' := by
  rcases hat with e | e
  · rw [e]; exact h
  · rw [e]; intro h2; injection h2 with h2; exact hne h2
set_option maxHeartbeats 2000000 in
theorem sTake_any (A : Option Addr) (n c : Nat) (l : List Heap) (s : ByteArray) (q : Int) (w : World) (hn : n ≤ 1048576) (hf : ∀ x ∈ l, x.fits) (hz : s.size ≤ maxLen) (hr : Arr Heap.cells 3 w w.heap.size A n l) :
    Calls Try.prog 21 #[.slice A n c, .string s, .int .i64 q] w fun e w' => ∃ v v', e = .returned (.tuple #[v, v', .int .i64 (mTkC l s q)]) ∧ Res Heap.cells 47 3 w' w.heap.size v (mTkL l s q).length (mTkL l s q) ∧ Res Heap.cells 47 3 w' w.heap.size v' (mTkT l s q).length (mTkT l s q) ∧
      ((0 < (mTkL l s q).length → 0 < (mTkT l s q).length → Apart v v') ∧ (0 < (mTkT l s q).length → 0 < (mTkL l s q).length → Apart v' v)) ∧ Below w.heap.size w w' := by
  have hl := hide hr.len
  cases hok : heapsOk l
  · have hm := hide (mTk_none (l := l) (s := s) (b := q) (c := 1) (by unfold mTkC; rw [hok]; rfl) (by omega))
    go_enter Try.func21, Try.ntmps21
    go_wp2_with (first | (go_at_call 42; refine (sSort_any A n c l s _ hn hf hz hr).mono ?_; rintro e whB1 ⟨rfl, hb⟩; have hB1 := hide (hb); clear hb) | (go_at_call 36; refine (in_any _ _ _ _).mono ?_; rintro e w' ⟨rfl, rfl⟩) | fail)
    go_ret3; exact ⟨_, _, ret_sl hm.out.2.2.symm, by rw [hm.out.1]; exact Res.empty (Nat.zero_le _), by rw [hm.out.2.1]; exact Res.empty (Nat.zero_le _), by rw [hm.out.1, hm.out.2.1]; exact apart_none, hB1.out⟩
  · cases h0 : isName s
    · have hm := hide (mTk_none (l := l) (s := s) (b := q) (c := 2) (by unfold mTkC tkArgs; rw [hok, h0]; rfl) (by omega))
      go_enter Try.func21, Try.ntmps21
      go_wp2_with (first | (go_at_call 42; refine (sSort_any A n c l s _ hn hf hz hr).mono ?_; rintro e whB1 ⟨rfl, hb⟩; have hB1 := hide (hb); clear hb) | (go_at_call 36; refine (in_any _ _ _ _).mono ?_; rintro e w' ⟨rfl, rfl⟩) | fail)
      go_ret3; exact ⟨_, _, ret_sl hm.out.2.2.symm, by rw [hm.out.1]; exact Res.empty (Nat.zero_le _), by rw [hm.out.2.1]; exact Res.empty (Nat.zero_le _), by rw [hm.out.1, hm.out.2.1]; exact apart_none, hB1.out⟩
    · cases h1 : inB q 1 20000
      · have hm := hide (mTk_none (l := l) (s := s) (b := q) (c := 2) (by unfold mTkC tkArgs; rw [hok, h0, h1]; rfl) (by omega))
        go_enter Try.func21, Try.ntmps21
        go_wp2_with (first | (go_at_call 42; refine (sSort_any A n c l s _ hn hf hz hr).mono ?_; rintro e whB1 ⟨rfl, hb⟩; have hB1 := hide (hb); clear hb) | (go_at_call 36; refine (in_any _ _ _ _).mono ?_; rintro e w' ⟨rfl, rfl⟩) | fail)
        go_ret3; exact ⟨_, _, ret_sl hm.out.2.2.symm, by rw [hm.out.1]; exact Res.empty (Nat.zero_le _), by rw [hm.out.2.1]; exact Res.empty (Nat.zero_le _), by rw [hm.out.1, hm.out.2.1]; exact apart_none, hB1.out⟩
      · have hO := hide hok
        by_cases h2 : hSum l s = 0
        · have hm := hide (mTk_none (l := l) (s := s) (b := q) (c := 3) (by unfold mTkC tkArgs; rw [hok, h0, h1, h2]; rfl) (by omega))
          have t1 : decide (0 < hSum l s) = false := by rw [h2]; rfl
          have t2 : (hSum l s == 0) = true := by rw [h2]; rfl
          clear h2
          go_enter Try.func21, Try.ntmps21
          go_wp2_with (first | (go_at_call 42; refine (sSort_any A n c l s _ hn hf hz hr).mono ?_; rintro e whB1 ⟨rfl, hb⟩; have hB1 := hide (hb); clear hb) | (go_at_call 36; refine (in_any _ _ _ _).mono ?_; rintro e w' ⟨rfl, rfl⟩) | fail | (go_at_call 43; refine (sSum_any A n c l s _ hn hO.out (hr.go hB1.out)).mono ?_; rintro e whB2a ⟨rfl, hb⟩; have hB2a := hide (Below.up hB1.out hb); clear hb))
          go_ret3; exact ⟨_, _, ret_sl hm.out.2.2.symm, by rw [hm.out.1]; exact Res.empty (Nat.zero_le _), by rw [hm.out.2.1]; exact Res.empty (Nat.zero_le _), by rw [hm.out.1, hm.out.2.1]; exact apart_none, hB2a.out⟩
        · have hnn : 0 ≤ hSum l s := (sumOf_bound (bF_bound hok s)).1
          have t1 : decide (0 < hSum l s) = true := decide_eq_true (by omega)
          have t2 : (hSum l s == 0) = false := by simp [h2]
          by_cases h3 : hSum l s < q
          · have hm := hide (mTk_none (l := l) (s := s) (b := q) (c := 5) (by unfold mTkC tkArgs; rw [hok, h0, h1, if_neg h2, if_pos h3]; rfl) (by omega))
            clear h2
            go_enter Try.func21, Try.ntmps21
            go_wp2_with (first | (go_at_call 42; refine (sSort_any A n c l s _ hn hf hz hr).mono ?_; rintro e whB1 ⟨rfl, hb⟩; have hB1 := hide (hb); clear hb) | (go_at_call 36; refine (in_any _ _ _ _).mono ?_; rintro e w' ⟨rfl, rfl⟩) | fail | (go_at_call 43; refine (sSum_any A n c l s _ hn hO.out (hr.go hB1.out)).mono ?_; rintro e whB2a ⟨rfl, hb⟩; have hB2a := hide (Below.up hB1.out hb); clear hb))
            go_ret3; exact ⟨_, _, ret_sl hm.out.2.2.symm, by rw [hm.out.1]; exact Res.empty (Nat.zero_le _), by rw [hm.out.2.1]; exact Res.empty (Nat.zero_le _), by rw [hm.out.1, hm.out.2.1]; exact apart_none, hB2a.out⟩
          · have hc : Hid (mTkC l s q = 0) := hide (by unfold mTkC tkArgs; rw [hok, h0, h1, if_neg h2, if_neg h3]; rfl)
            have hmL : Hid (mTkL l s q = (tkTo l s q n).1) := hide (by unfold mTkL; rw [hc.out, if_pos rfl, hl.out])
            have hmT : Hid (mTkT l s q = (tkTo l s q n).2.1) := hide (by unfold mTkT; rw [hc.out, if_pos rfl, hl.out])
            have hq := inB_true.1 h1
            have hx0 := hide (fun (x : Heap) (hx : x ∈ l) => (heapsOk_at hok hx).2)
            have hfar : Hid (∀ W : World, Far2 (.slice (some ⟨W.heap.size, 0, none⟩) 0 0) (.slice (some ⟨W.heap.size + 1, 0, none⟩) 0 0)) := hide (fun W g ha hb => by
              simp [Value.ownBlock] at ha hb
              omega)
            clear h2
            go_enter Try.func21, Try.ntmps21
            go_wp2_with (first | (go_at_call 42; refine (sSort_any A n c l s _ hn hf hz hr).mono ?_; rintro e whB1 ⟨rfl, hb⟩; have hB1 := hide (hb); clear hb) | (go_at_call 36; refine (in_any _ _ _ _).mono ?_; rintro e w' ⟨rfl, rfl⟩) | fail | (go_at_call 43; refine (sSum_any A n c l s _ hn hO.out (hr.go hB1.out)).mono ?_; rintro e whB2a ⟨rfl, hb⟩; have hB2a := hide (Below.up hB1.out hb); clear hb))
            clear hok h0 h1 hf hz
            go_loopw [2, 11, 12, 13] (fun b v v' i wr => ∃ (k : Nat) (z : Int) (L T : List Heap), k ≤ n ∧ i = .int .i64 k ∧ b = .int .i64 z ∧ Below w.heap.size w wr ∧ Own Heap.cells 47 3 wr w.heap.size v L.length L ∧ Own Heap.cells 47 3 wr w.heap.size v' T.length T ∧ Far2 v v' ∧ 0 ≤ z ∧ z ≤ 20000 ∧ Hid (tkTo l s q k = (L, T, z))) (fun _ _ _ i _ => n - (intOf i).toNat)
            case atStart => exact ⟨0, q, [], [], Nat.zero_le _, rfl, rfl, (hB2a.out.alloc hB2a.out.size _).alloc (by simp; exact Nat.le_succ_of_le hB2a.out.size) _, (Own.none_made _ hB2a.out.size).alloc' _, by have := Own.none_made (cells := Heap.cells) (e := 47) (s := 3) (base := w.heap.size) (whB2a.alloc (.cells #[] 47)) (by simp; exact Nat.le_succ_of_le hB2a.out.size); simpa using this, hfar.out _, by omega, by omega, hide rfl⟩
            case round =>
              obtain ⟨k, z, L, T, hk, rfl, rfl, hb, hL, hT, hF, z0, z1, htk⟩ := hrel
              have hOL := hide hL
              have hOT := hide hT
              have hFar := hide hF
              have hLl : L.length ≤ k := by have := (tkTo_len l s q k).1; rw [htk.out] at this; exact this
              have hTl : T.length ≤ k := by have := (tkTo_len l s q k).2; rw [htk.out] at this; exact this
              clear hL hT hF
              by_cases hlt : k < n
              · obtain ⟨b, o, x, rfl, hbl, hx, c0, c1, c2⟩ := hr.Heap hlt
                have d0 : wr.cell? ⟨b, o + k * 3, none⟩ = some (.string x.fSort) := (hb.cell (p := ⟨b, o + k * 3, none⟩) hbl).trans c0
                have d1 : wr.cell? ⟨b, o + k * 3 + 1, none⟩ = some (.int .i64 x.fYear) := (hb.cell (p := ⟨b, o + k * 3 + 1, none⟩) hbl).trans c1
                have d2 : wr.cell? ⟨b, o + k * 3 + 2, none⟩ = some (.int .i64 x.fBundles) := (hb.cell (p := ⟨b, o + k * 3 + 2, none⟩) hbl).trans c2
                have hX := hide hx
                clear hx c0 c1 c2
                have hB := hide (hb.alloc hb.size (.cells #[.string x.fSort, .int .i64 x.fYear, .int .i64 x.fBundles] 47))
                have hBr := hide hb
                clear hr hb
                have hxb := hx0.out x (List.mem_of_getElem? hX.out)
                have i0 : (0 : Int) ≤ (k : Int) := by omega
                have i1 : (k : Int) < (n : Int) := by omega
                have hstep := hide (tkTo_step (s := s) (b := q) hX.out htk.out)
                have hOLa := hide (hOL.out.alloc' (.cells #[.string x.fSort, .int .i64 x.fYear, .int .i64 x.fBundles] 47))
                have hOTa := hide (hOT.out.alloc' (.cells #[.string x.fSort, .int .i64 x.fYear, .int .i64 x.fBundles] 47))
                by_cases he : x.fSort = s
                · have e1 := str_eq he
                  rcases Int.lt_or_le 0 z with hz0 | hz0
                  · rcases Int.lt_or_le z x.fBundles with hzx | hzx
                    · have hst := hide (hstep.out.trans (tk_d he hz0 hzx))
                      have hw1 : IntKind.i64.wrap (x.fBundles - z) = x.fBundles - z := IntWalk.i64_in _ (by omega)
                      have nz : ¬ x.fBundles ≤ z := by omega
                      have nz2 : 0 < x.fBundles - z := by omega
                      have hmin : min x.fBundles z = z := Int.min_eq_right (by omega)
                      clear he
                      go_wp2_with (first | (go_at_call 44; refine (sMin_any _ _ _).mono ?_; rintro e w' ⟨rfl, rfl⟩) | (at_builtin; refine wpl_app1H (wr.heap.size + 1) (by simp) rfl (.tmp 62) (.tmp 69) rfl Try.underlying24 info_Heap' rfl (by omega) (by omega) Heap.len Heap.one rfl hOTa.out ⟨x.fSort, x.fYear, z⟩ _ rfl rfl (by omega) hB.out.size ?_; intro v2 w2 ho2 hg2 hat2; have hB2 := hide (hOTa.out.grown hB.out hg2); have hOL2 := hide (hOLa.out.kept hg2 hFar.out.ne); have hF2 := hide ((hFar.out.symm.moved hOLa.out hat2 (by simp)).symm); have hnew := grown_new hg2 hOT.out.ne_new; have m0 : w2.cell? ⟨wr.heap.size, 0, none⟩ = some (.string x.fSort) := (by rw [cell_of_row _ _ _ _ _ _ hnew]; rfl); have m1 : w2.cell? ⟨wr.heap.size, 1, none⟩ = some (.int .i64 x.fYear) := (by rw [cell_of_row _ _ _ _ _ _ hnew]; rfl); have m2 : w2.cell? ⟨wr.heap.size, 2, none⟩ = some (.int .i64 x.fBundles) := (by rw [cell_of_row _ _ _ _ _ _ hnew]; rfl); have mf : ∀ o, w2.frozen? ⟨wr.heap.size, o, none⟩ = false := (fun o => frozen_of_row w2 _ _ _ _ hnew); have hTn := hide (at_ne hat2 hOT.out.ne_new (by simp; omega)); have ho2h := hide ho2; have hat2h := hide hat2; have hnewh := hide hnew; clear ho2 hg2 hat2 hnew) | (at_builtin; refine wpl_app1H w2.heap.size (by simp) rfl (.tmp 79) (.tmp 81) rfl Try.underlying24 info_Heap' rfl (by omega) (by omega) Heap.len Heap.one rfl (hOL2.out.setFar (p := ⟨wr.heap.size, 2, none⟩) hOL.out.ne_new (.int .i64 (x.fBundles - z))) ⟨x.fSort, x.fYear, x.fBundles - z⟩ _ rfl rfl (by omega) (hB2.out.setCell (p := ⟨wr.heap.size, 2, none⟩) hBr.out.size (.int .i64 (x.fBundles - z))).size ?_; intro v3 w3 ho3 hg3 hat3; have hB3 := hide ((hOL2.out.setFar (p := ⟨wr.heap.size, 2, none⟩) hOL.out.ne_new (.int .i64 (x.fBundles - z))).grown (hB2.out.setCell (p := ⟨wr.heap.size, 2, none⟩) hBr.out.size _) hg3); have hOT3 := hide ((ho2h.out.setFar (p := ⟨wr.heap.size, 2, none⟩) hTn.out (.int .i64 (x.fBundles - z))).kept hg3 hF2.out.symm.ne); have hF3 := hide (hF2.out.moved (ho2h.out.setFar (p := ⟨wr.heap.size, 2, none⟩) hTn.out (.int .i64 (x.fBundles - z))) hat3 (by simp)); have ho3h := hide ho3; clear ho3 hg3 hat3))
                      go_roundw
                      case rel => exact ⟨k + 1, 0, L ++ [⟨x.fSort, x.fYear, x.fBundles - z⟩], T ++ [⟨x.fSort, x.fYear, z⟩], by omega, by go_num, by simp, hB3.out, by rw [List.length_append]; exact ho3h.out, by rw [List.length_append]; exact hOT3.out, hF3.out, by omega, by omega, hst⟩
                      case measure => simp [intOf]; omega
                    · have hst := hide (hstep.out.trans (tk_c he hz0 hzx))
                      have hw1 : IntKind.i64.wrap (z - x.fBundles) = z - x.fBundles := IntWalk.i64_in _ (by omega)
                      have hmin : min x.fBundles z = x.fBundles := Int.min_eq_left (by omega)
                      have nz : ¬ z < x.fBundles := by omega
                      have nz3 : 0 < x.fBundles := by omega
                      clear he
                      go_wp2_with (first | (go_at_call 44; refine (sMin_any _ _ _).mono ?_; rintro e w' ⟨rfl, rfl⟩) | (at_builtin; refine wpl_app1H (wr.heap.size + 1) (by simp) rfl (.tmp 62) (.tmp 69) rfl Try.underlying24 info_Heap' rfl (by omega) (by omega) Heap.len Heap.one rfl hOTa.out x _ rfl rfl (by omega) hB.out.size ?_; intro v2 w2 ho2 hg2 hat2; have hB2 := hide (hOTa.out.grown hB.out hg2); have hOL2 := hide (hOLa.out.kept hg2 hFar.out.ne); have hF2 := hide ((hFar.out.symm.moved hOLa.out hat2 (by simp)).symm); have hnew := grown_new hg2 hOT.out.ne_new; have m0 : w2.cell? ⟨wr.heap.size, 0, none⟩ = some (.string x.fSort) := (by rw [cell_of_row _ _ _ _ _ _ hnew]; rfl); have m1 : w2.cell? ⟨wr.heap.size, 1, none⟩ = some (.int .i64 x.fYear) := (by rw [cell_of_row _ _ _ _ _ _ hnew]; rfl); have m2 : w2.cell? ⟨wr.heap.size, 2, none⟩ = some (.int .i64 x.fBundles) := (by rw [cell_of_row _ _ _ _ _ _ hnew]; rfl); have mf : ∀ o, w2.frozen? ⟨wr.heap.size, o, none⟩ = false := (fun o => frozen_of_row w2 _ _ _ _ hnew); have hTn := hide (at_ne hat2 hOT.out.ne_new (by simp; omega)); have ho2h := hide ho2; have hat2h := hide hat2; have hnewh := hide hnew; clear ho2 hg2 hat2 hnew))
                      go_roundw
                      case rel => exact ⟨k + 1, z - x.fBundles, L, T ++ [x], by omega, by go_num, rfl, hB2.out.setCell (p := ⟨wr.heap.size, 2, none⟩) hBr.out.size _, hOL2.out.setFar (p := ⟨wr.heap.size, 2, none⟩) hOL.out.ne_new _, by rw [List.length_append]; exact ho2h.out.setFar (p := ⟨wr.heap.size, 2, none⟩) hTn.out _, hF2.out, by omega, by omega, hst⟩
                      case measure => simp [intOf]; omega
                  · have hzz : z = 0 := by omega
                    subst hzz
                    have hst := hide (hstep.out.trans (tk_b he))
                    have hmin : min x.fBundles 0 = 0 := Int.min_eq_right (by omega)
                    have nz : ¬ x.fBundles ≤ 0 := by omega
                    have nz3 : 0 < x.fBundles := by omega
                    clear he
                    go_wp2_with (first | (go_at_call 44; refine (sMin_any _ _ _).mono ?_; rintro e w' ⟨rfl, rfl⟩) | (at_builtin; refine wpl_app1H (wr.heap.size + 1) (by simp) rfl (.tmp 79) (.tmp 81) rfl Try.underlying24 info_Heap' rfl (by omega) (by omega) Heap.len Heap.one rfl hOLa.out x _ rfl rfl (by omega) hB.out.size ?_; intro v3 w3 ho3 hg3 hat3; have hB3 := hide (hOLa.out.grown hB.out hg3); have hOT3 := hide (hOTa.out.kept hg3 hFar.out.symm.ne); have hF3 := hide (hFar.out.moved hOTa.out hat3 (by simp)); have ho3h := hide ho3; clear ho3 hg3 hat3))
                    go_roundw
                    case rel => exact ⟨k + 1, 0, L ++ [x], T, by omega, by go_num, rfl, hB3.out, by rw [List.length_append]; exact ho3h.out, hOT3.out, hF3.out, by omega, by omega, hst⟩
                    case measure => simp [intOf]; omega
                · have e1 := str_ne he
                  have hst := hide (hstep.out.trans (tk_a he))
                  have nz3 : 0 < x.fBundles := by omega
                  clear he
                  go_wp2_with (at_builtin; refine wpl_app1H (wr.heap.size + 1) (by simp) rfl (.tmp 79) (.tmp 81) rfl Try.underlying24 info_Heap' rfl (by omega) (by omega) Heap.len Heap.one rfl hOLa.out x _ rfl rfl (by omega) hB.out.size ?_; intro v3 w3 ho3 hg3 hat3; have hB3 := hide (hOLa.out.grown hB.out hg3); have hOT3 := hide (hOTa.out.kept hg3 hFar.out.symm.ne); have hF3 := hide (hFar.out.moved hOTa.out hat3 (by simp)); have ho3h := hide ho3; clear ho3 hg3 hat3)
                  go_roundw
                  case rel => exact ⟨k + 1, z, L ++ [x], T, by omega, by go_num, rfl, hB3.out, by rw [List.length_append]; exact ho3h.out, hOT3.out, hF3.out, by omega, by omega, hst⟩
                  case measure => simp [intOf]; omega
              · have hkn : k = n := by omega
                subst hkn
                have hB := hide hb
                clear hb
                obtain ⟨A1, c1, rfl, _⟩ := hOL.out.slice
                obtain ⟨A2, c2, rfl, _⟩ := hOT.out.slice
                have hres : Hid (mTkL l s q = L ∧ mTkT l s q = T) := hide ⟨by rw [hmL.out, htk.out], by rw [hmT.out, htk.out]⟩
                go_wp2
                go_ret3
                exact ⟨_, _, ret_sl hc.out.symm, by rw [hres.out.1]; exact hOL.out.res, by rw [hres.out.2]; exact hOT.out.res, ⟨fun _ _ => hFar.out.ne, fun _ _ => hFar.out.symm.ne⟩, hB.out⟩
end Go.Proofs.Ytcmcolgbkfadfaa
