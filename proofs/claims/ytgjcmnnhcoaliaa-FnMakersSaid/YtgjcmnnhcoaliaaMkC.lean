/- The walk of the law FnMakers. -/
import Derived.Test.YtgjcmnnhcoaliaaMkA
import Derived.Test.YtgjcmnnhcoaliaaMkB
import Derived.Test.YtgjcmnnhcoaliaaA2
namespace Go.Proofs.Ytgjcmnnhcoaliaa
open Go.ChangeShapes Go.WideShapes Go.ChangeAt Go.RowKit Go.Deep
set_option maxRecDepth 100000
theorem made_of {q : List PieceW} (h : DP q) {s : ByteArray} (hs : s ∈ SM) : mMade q s = (sumOf (madeF s) q, 0) := by
  unfold mMade; rw [h.ok, (SM_name s hs).1]; rfl
theorem sum_of_bound {q : List PieceW} (h : DP q) {f : PieceW → Int} (hf : ∀ x ∈ q, 0 ≤ f x ∧ f x ≤ 500) (k : Nat) : 0 ≤ sumOf f (q.take k) ∧ sumOf f (q.take k) ≤ 15000 :=
  sumOf_take_bound (M := 500) (N := 30) hf (by have := h.len; omega) (by omega) k
theorem sum_of_all {q : List PieceW} (h : DP q) {f : PieceW → Int} (hf : ∀ x ∈ q, 0 ≤ f x ∧ f x ≤ 500) : 0 ≤ sumOf f q ∧ sumOf f q ≤ 15000 := by
  have := sum_of_bound h hf q.length
  rw [List.take_length] at this
  exact this
theorem outer_bound {N : List ByteArray} {f : ByteArray → Int} (hf : ∀ y ∈ N, 0 ≤ f y ∧ f y ≤ 15000) (hN : N.length ≤ 4) (k : Nat) : 0 ≤ sumOf f (N.take k) ∧ sumOf f (N.take k) ≤ 60000 :=
  sumOf_take_bound (M := 15000) (N := 4) hf hN (by omega) k
theorem byF_yes {y : ByteArray} {x : PieceW} (h : x.fName = y) : byF y x = x.fMade := if_pos h
theorem byF_no {y : ByteArray} {x : PieceW} (h : ¬ x.fName = y) : byF y x = 0 := if_neg h
theorem dayF_yes {s : ByteArray} {d : Int} {x : PieceW} (h : x.fName = s) (h2 : x.fDay = d) : dayF s d x = x.fMade := if_pos ⟨h, h2⟩
theorem dayF_no {s : ByteArray} {d : Int} {x : PieceW} (h : ¬ (x.fName = s ∧ x.fDay = d)) : dayF s d x = 0 := if_neg h
theorem best_of {q : List PieceW} (h : DP q) : mBest q = bmTo q NM 3 ∧ mBestC q = (if q = [] then 3 else 0) ∧ ((bmTo q NM 3).2 = 0 ↔ q = []) ∧ 0 ≤ (bmTo q NM 3).2 := by
  have h1 := best_three h
  have h2 := bm_zero h.ok
  rw [h1] at h2
  refine ⟨by unfold mBest; rw [h.ok, h1]; rfl, by unfold mBestC; rw [h.ok]; rfl, h2, (bmTo_bound h.ok NM 3).1⟩
theorem bonus_of {q : List PieceW} (h : DP q) {P Q : Int} (hP : 0 ≤ P ∧ P ≤ 200) (hQ : 1 ≤ Q ∧ Q ≤ 12) : mBonus q (⟨#[109, 101, 103]⟩ : ByteArray) Q P = (daysTo q (⟨#[109, 101, 103]⟩ : ByteArray) Q 4 * P, 0) ∧ mBonus q (⟨#[109, 101, 103]⟩ : ByteArray) (Q + 1) P = (bonusTo q (⟨#[109, 101, 103]⟩ : ByteArray) (Q + 1) P 366, 0) ∧ bonusTo q (⟨#[109, 101, 103]⟩ : ByteArray) (Q + 1) P 366 ≤ daysTo q (⟨#[109, 101, 103]⟩ : ByteArray) Q 4 * P ∧ 0 = (0 : Int) := by
  have hn : isName (⟨#[109, 101, 103]⟩ : ByteArray) = true := by decide
  have h1 : inB Q 1 500 = true := inB_true.2 (by omega)
  have h2 : inB (Q + 1) 1 500 = true := inB_true.2 (by omega)
  have h3 : inB P 0 10000 = true := inB_true.2 (by omega)
  have e := bonus_four (p := P) h (s := (⟨#[109, 101, 103]⟩ : ByteArray)) hQ.1
  refine ⟨?_, ?_, ?_, rfl⟩
  · unfold mBonus bonusOk; rw [h.ok, hn, h1, h3, ← e]; rfl
  · unfold mBonus bonusOk; rw [h.ok, hn, h2, h3]; rfl
  · rw [← e]; exact bonus_less q (⟨#[109, 101, 103]⟩ : ByteArray) hP.1 366
set_option maxHeartbeats 8000000 in
theorem walkMakers (w : World) (A : Option Addr) (n c : Nat) (l : List Int) (hc : n ≤ c) (hm : c ≤ maxLen) (hq : ∀ x ∈ l, (Lit.int .u8 x).wf = true) (hr : Arr u8c 1 w w.heap.size A n l)
    (A' : Option Addr) (n' c' : Nat) (l' : List Int) (hc' : n' ≤ c') (hm' : c' ≤ maxLen) (hq' : ∀ x ∈ l', (Lit.int .u8 x).wf = true) (hr' : Arr u8c 1 w w.heap.size A' n' l') :
    Calls Try.prog 3 #[.slice A n c, .slice A' n' c'] w fun e w' => e = .returned (.bool true) ∧ Below w.heap.size w w' := by
  have hl := bytes_ok hq
  have hl' := bytes_ok hq'
  clear hq hq'
  have hB := hide (Below.refl w.heap.size w)
  go_enter Try.func3, Try.ntmps3
  go_wp2_with fail
  refine (long_any A n c A' n' c' _).mono ?_
  rintro e w1 ⟨rfl, rfl⟩
  cases hbig : (decide (3000 < (n : Int)) || decide (3000 < (n' : Int)))
  case true =>
    go_wp2
    go_ret
    exact ⟨rfl, hB.out⟩
  clear hbig
  go_wp2_with fail
  refine (a2Pieces_any _ A n c l (hr.go hB.out) hl hm hc).mono ?_
  rintro e w1 ⟨A1, d1, q, rfl, hp, hI, hqc, hb⟩
  have hP := hide hp
  replace hB := hide (Below.up hB.out hb)
  clear hb hp hr hl hc hm
  have hlen := hI.len
  have hDP := hide hI
  have hok := hide hI.ok
  have hfits := hide hI.fits
  obtain ⟨hb1, hb2, hb3, hb4⟩ := best_of hI
  obtain ⟨bn, bm, cd, hbe, hcd, hcdv⟩ : ∃ bn bm cd, bmTo q NM 3 = (bn, bm) ∧ mBestC q = cd ∧ cd = (if q = [] then 3 else 0) := ⟨_, _, _, rfl, rfl, hb2⟩
  rw [hbe] at hb1 hb3 hb4
  have hcase : Hid ((bm = 0 ∧ cd = 3) ∨ (0 < bm ∧ cd = 0)) := hide (by
    simp only at hb3 hb4
    by_cases h0 : q = []
    · exact .inl ⟨hb3.2 h0, by rw [hcdv, if_pos h0]⟩
    · exact .inr ⟨by rcases Int.lt_or_le 0 bm with h | h; exact h; exact absurd (hb3.1 (by omega)) h0, by rw [hcdv, if_neg h0]⟩)
  have hBE := hide hbe
  obtain ⟨m, hm⟩ : ∃ m, m = q.length := ⟨_, rfl⟩
  rw [← hm] at hP hlen ⊢
  have hM := hide hm
  clear hI hb2 hb3 hb4 hm hcdv hqc
  go_wp2_with fail
  refine (iBest_any A1 m d1 q _ (by omega) hfits.out hP.out).mono ?_
  rw [hb1, hcd]
  rintro e w2 ⟨rfl, hb⟩
  replace hP := hide (hP.out.go hb)
  replace hB := hide (Below.up hB.out hb)
  clear hb hb1 hcd hbe
  go_wp2
  obtain ⟨k1, hk1⟩ : ∃ k1, k1 = w2.heap.size := ⟨_, rfl⟩
  have hK := hide (heap_alloc_new w2 (.cells #[.string ⟨#[97, 100, 97, 45, 50]⟩, .string ⟨#[109, 101, 103]⟩, .string ⟨#[116, 111, 109]⟩] 9))
  replace hB := hide (hB.out.alloc hB.out.size (.cells #[.string ⟨#[97, 100, 97, 45, 50]⟩, .string ⟨#[109, 101, 103]⟩, .string ⟨#[116, 111, 109]⟩] 9))
  replace hP := hide (hP.out.go ((Below.refl _ _).alloc (Nat.le_refl _) (.cells #[.string ⟨#[97, 100, 97, 45, 50]⟩, .string ⟨#[109, 101, 103]⟩, .string ⟨#[116, 111, 109]⟩] 9)))
  rw [← hk1] at hK ⊢
  have hKN : Hid (k1 < (w2.alloc (.cells #[.string ⟨#[97, 100, 97, 45, 50]⟩, .string ⟨#[109, 101, 103]⟩, .string ⟨#[116, 111, 109]⟩] 9)).heap.size) := hide (by rw [hk1]; simp)
  clear hk1
  obtain ⟨wo, hwo⟩ : ∃ wo : World, wo = w2.alloc (.cells #[.string ⟨#[97, 100, 97, 45, 50]⟩, .string ⟨#[109, 101, 103]⟩, .string ⟨#[116, 111, 109]⟩] 9) := ⟨_, rfl⟩
  rw [← hwo] at hK hB hP hKN ⊢
  clear hwo
  go_loopw [10, 11, 12, 13] (fun g f s i wr => ∃ (k : Nat) (G S : Int) (F : ByteArray), k ≤ 3 ∧ g = .int .i64 G ∧ f = .string F ∧ s = .int .i64 S ∧ i = .int .i64 k ∧ Hid (bmTo q NM k = (F, G)) ∧ Hid (S = sumOf (fun y => sumOf (byF y) q) (NM.take k)) ∧ Below w.heap.size w wr ∧ Arr PieceW.cells 4 wr wr.heap.size A1 m q ∧ wr.heap[k1]? = some (.cells #[.string ⟨#[97, 100, 97, 45, 50]⟩, .string ⟨#[109, 101, 103]⟩, .string ⟨#[116, 111, 109]⟩] 9 (0, 0))) (fun _ _ _ i _ => 3 - (intOf i).toNat)
  case atStart => exact ⟨0, 0, 0, ByteArray.empty, by omega, rfl, rfl, rfl, rfl, hide rfl, hide rfl, hB.out, hP.out, hK.out⟩
  case round =>
    obtain ⟨k, G, S, F, hk, rfl, rfl, rfl, rfl, hG, hS, hb, hp, hkk⟩ := hrel
    replace hB := hide hb
    replace hP := hide hp
    replace hK := hide hkk
    clear hb hp hkk
    by_cases hlt : k < 3
    · have hlt' : (k : Int) < 3 := by omega
      have hk0 : (0 : Int) ≤ (k : Int) := by omega
      obtain ⟨y, hy⟩ : ∃ y, NM[k]? = some y := ⟨_, List.getElem?_eq_getElem hlt⟩
      have hY := hide hy
      have hSb := outer_bound (N := NM) (f := fun y => sumOf (byF y) q) (fun y _ => sum_of_all hDP.out (byF_bound hok.out y)) (by decide) k
      have hSB : 0 ≤ S ∧ S ≤ 60000 := by rw [hS.out]; exact hSb
      clear hy hSb
      obtain ⟨wo, hwo⟩ : ∃ wo : World, wo = wr := ⟨_, rfl⟩
      rw [← hwo] at hK hB hP ⊢
      clear hwo
      go_wp2
      go_loopw [14, 15] (fun s i wr => ∃ (j : Nat) (z : Int), j ≤ m ∧ s = .int .i64 z ∧ i = .int .i64 j ∧ Hid (z = sumOf (byF y) (q.take j)) ∧ Below w.heap.size w wr ∧ Arr PieceW.cells 4 wr wr.heap.size A1 m q ∧ wr.heap[k1]? = some (.cells #[.string ⟨#[97, 100, 97, 45, 50]⟩, .string ⟨#[109, 101, 103]⟩, .string ⟨#[116, 111, 109]⟩] 9 (0, 0))) (fun _ i _ => m - (intOf i).toNat)
      case atStart => exact ⟨0, 0, Nat.zero_le _, rfl, rfl, hide rfl, hB.out, hP.out, hK.out⟩
      case round =>
        obtain ⟨j, z, hj, rfl, rfl, hz, hb, hp, hkk⟩ := hrel
        replace hB := hide hb
        replace hP := hide hp
        replace hK := hide hkk
        have hzb : 0 ≤ z ∧ z ≤ 15000 := by rw [hz.out]; exact sum_of_bound hDP.out (byF_bound hok.out y) j
        clear hb hkk
        by_cases hjm : j < m
        · obtain ⟨b, o, x, hA1, _, hx, c0, c1, c2, c3⟩ := hp.PieceW hjm
          subst hA1
          have hX := hide hx
          obtain ⟨b2, o2, y2, hA2, _, hy2, e0⟩ := (row_strs hK.out (l := NM) (n := 3) rfl rfl).str hlt
          cases hA2
          rw [hY.out] at hy2
          cases hy2
          simp only [Nat.zero_add] at e0
          have hxb := byF_bound hok.out x.fName x (List.mem_of_getElem? hx)
          rw [byF_yes rfl] at hxb
          have hw : IntKind.i64.wrap (z + x.fMade) = z + x.fMade := IntWalk.i64_in _ (by omega)
          have hjm' : (j : Int) < (m : Int) := by omega
          have hj0 : (0 : Int) ≤ (j : Int) := by omega
          clear hx hp c1 c2
          by_cases he : x.fName = y
          · have hq1 := str_eq he
            have hst : Hid (z + x.fMade = sumOf (byF y) (q.take (j + 1))) := hide (by rw [sumOf_snoc hX.out, byF_yes he, ← hz.out])
            clear he
            go_wp2
            go_quiet (fail)
            go_wp2
            exact ⟨⟨j + 1, z + x.fMade, by omega, rfl, by go_num, hst, Below.up hB.out (below_drewN (Below.refl _ _) _), hP.out.go (below_drewN (Below.refl _ _) _), hK.out⟩, by simp [intOf]; omega⟩
          · have hq1 := str_ne he
            have hst : Hid (z = sumOf (byF y) (q.take (j + 1))) := hide (by rw [sumOf_snoc hX.out, byF_no he, ← hz.out]; omega)
            clear he
            go_wp2
            go_quiet (fail)
            go_wp2
            exact ⟨⟨j + 1, z, by omega, rfl, by go_num, hst, Below.up hB.out (below_drewN (Below.refl _ _) _), hP.out.go (below_drewN (Below.refl _ _) _), hK.out⟩, by simp [intOf]; omega⟩
        · have hjm' : ¬ (j : Int) < (m : Int) := by omega
          replace hz : Hid (z = sumOf (byF y) q) := hide (by rw [hz.out, List.take_of_length_le (by rw [← hM.out]; omega)])
          have hw : IntKind.i64.wrap (S + z) = S + z := IntWalk.i64_in _ (by omega)
          have hst : Hid (S + z = sumOf (fun y => sumOf (byF y) q) (NM.take (k + 1))) := hide (by rw [sumOf_snoc hY.out, ← hz.out, ← hS.out])
          obtain ⟨b2, o2, y2, hA2, _, hy2, e0⟩ := (row_strs hK.out (l := NM) (n := 3) rfl rfl).str hlt
          cases hA2
          rw [hY.out] at hy2
          cases hy2
          simp only [Nat.zero_add] at e0
          clear hp
          by_cases hgz : G < z
          · have hng : Hid (bmTo q NM (k + 1) = (y, z)) := hide (by rw [bmTo_yes hY.out (by rw [hG.out, ← hz.out]; exact hgz), ← hz.out])
            go_wp2
            go_roundw
            case rel => exact ⟨k + 1, z, S + z, y, by omega, rfl, rfl, rfl, by go_num, hng, hst, hB.out, hP.out, hK.out⟩
            case measure => simp [intOf]; omega
          · have hng : Hid (bmTo q NM (k + 1) = (F, G)) := hide (by rw [bmTo_no hY.out (by rw [hG.out, ← hz.out]; exact hgz), hG.out])
            go_wp2
            go_roundw
            case rel => exact ⟨k + 1, G, S + z, F, by omega, rfl, rfl, rfl, by go_num, hng, hst, hB.out, hP.out, hK.out⟩
            case measure => simp [intOf]; omega
    · have hk3 : k = 3 := by omega
      subst hk3
      have hpair := hG.out.symm.trans hBE.out
      obtain ⟨rfl, rfl⟩ : F = bn ∧ G = bm := by injection hpair with h1 h2; exact ⟨h1, h2⟩
      replace hS : Hid (S = sumOf (·.fMade) q) := hide (by rw [hS.out]; exact sum_names hDP.out)
      clear hpair hG hBE hK hKN
      rcases hcase.out with ⟨hg0, rfl⟩ | ⟨hpos, rfl⟩
      · have hpos : ¬ 0 < G := by omega
        clear hcase
        go_wp2
        obtain ⟨k2, hk2⟩ : ∃ k2, k2 = wr.heap.size := ⟨_, rfl⟩
        have hK := hide (heap_alloc_new wr (.cells #[.string ⟨#[108, 111, 103, 45, 50]⟩, .string ⟨#[109, 97, 114, 107, 101, 116]⟩, .string ⟨#[112, 111, 116, 97, 116, 111]⟩, .string ⟨#[114, 111, 117, 110, 100]⟩] 9))
        replace hB := hide (hB.out.alloc hB.out.size (.cells #[.string ⟨#[108, 111, 103, 45, 50]⟩, .string ⟨#[109, 97, 114, 107, 101, 116]⟩, .string ⟨#[112, 111, 116, 97, 116, 111]⟩, .string ⟨#[114, 111, 117, 110, 100]⟩] 9))
        replace hP := hide (hP.out.go ((Below.refl _ _).alloc (Nat.le_refl _) (.cells #[.string ⟨#[108, 111, 103, 45, 50]⟩, .string ⟨#[109, 97, 114, 107, 101, 116]⟩, .string ⟨#[112, 111, 116, 97, 116, 111]⟩, .string ⟨#[114, 111, 117, 110, 100]⟩] 9)))
        rw [← hk2] at hK ⊢
        clear hk2
        obtain ⟨wo, hwo⟩ : ∃ wo : World, wo = wr.alloc (.cells #[.string ⟨#[108, 111, 103, 45, 50]⟩, .string ⟨#[109, 97, 114, 107, 101, 116]⟩, .string ⟨#[112, 111, 116, 97, 116, 111]⟩, .string ⟨#[114, 111, 117, 110, 100]⟩] 9) := ⟨_, rfl⟩
        rw [← hwo] at hK hB hP ⊢
        clear hwo
        go_loopw [12, 17] (fun s i wr => ∃ (k : Nat) (z : Int), k ≤ 4 ∧ s = .int .i64 z ∧ i = .int .i64 k ∧ Hid (z = S - sumOf (fun y => sumOf (madeF y) q) (SM.take k)) ∧ Below w.heap.size w wr ∧ Arr PieceW.cells 4 wr wr.heap.size A1 m q ∧ wr.heap[k2]? = some (.cells #[.string ⟨#[108, 111, 103, 45, 50]⟩, .string ⟨#[109, 97, 114, 107, 101, 116]⟩, .string ⟨#[112, 111, 116, 97, 116, 111]⟩, .string ⟨#[114, 111, 117, 110, 100]⟩] 9 (0, 0))) (fun _ i _ => 4 - (intOf i).toNat)
        case atStart => exact ⟨0, S, by omega, rfl, rfl, hide (by rw [List.take_zero, sumOf_nil]; omega), hB.out, hP.out, hK.out⟩
        case round =>
          obtain ⟨k, z, hk, rfl, rfl, hz, hb, hp, hkk⟩ := hrel
          replace hB := hide hb
          replace hP := hide hp
          replace hK := hide hkk
          clear hb hp hkk
          have hSb : 0 ≤ S ∧ S ≤ 15000 := by rw [hS.out]; exact sum_of_all hDP.out (fun x hx => by have := (hDP.out.all x hx).2.2.2; omega)
          have hzb0 := outer_bound (N := SM) (f := fun y => sumOf (madeF y) q) (fun y _ => sum_of_all hDP.out (madeF_bound hok.out y)) (by decide) k
          have hzb : -60000 ≤ z ∧ z ≤ 15000 := by rw [hz.out]; omega
          clear hzb0
          by_cases hlt : k < 4
          · have hlt' : (k : Int) < 4 := by omega
            have hk0 : (0 : Int) ≤ (k : Int) := by omega
            obtain ⟨y, hy⟩ : ∃ y, SM[k]? = some y := ⟨_, List.getElem?_eq_getElem hlt⟩
            have hY := hide hy
            obtain ⟨b2, o2, y2, hA2, _, hy2, e0⟩ := (row_strs hK.out (l := SM) (n := 4) rfl rfl).str hlt
            cases hA2
            rw [hy] at hy2
            cases hy2
            simp only [Nat.zero_add] at e0
            have hmem := List.mem_of_getElem? hy
            have hmade := made_of hDP.out hmem
            have hys := (SM_name y hmem).2
            have hnb := sum_of_all hDP.out (madeF_bound hok.out y)
            obtain ⟨t, ht⟩ : ∃ t, sumOf (madeF y) q = t := ⟨_, rfl⟩
            rw [ht] at hmade hnb
            have hT := hide ht
            have hw : IntKind.i64.wrap (z - t) = z - t := IntWalk.i64_in _ (by omega)
            have hneg : decide (t < 0) = false := decide_eq_false (by omega)
            have hst : Hid (z - t = S - sumOf (fun y => sumOf (madeF y) q) (SM.take (k + 1))) := hide (by rw [sumOf_snoc hY.out, ht, hz.out]; omega)
            clear hy hmem ht
            go_wp2_with fail
            refine (iMade_any A1 m d1 q y _ (by omega) hfits.out hys hP.out).mono ?_
            rw [hmade]
            rintro e w3 ⟨rfl, hb⟩
            replace hP := hide (hP.out.go hb)
            replace hB := hide (Below.up hB.out hb)
            replace hK := hide ((hb.block k2 (Array.getElem?_eq_some_iff.1 hK.out).1).trans hK.out)
            clear hb hmade e0
            go_wp2
            go_roundw
            case rel => exact ⟨k + 1, z - t, by omega, rfl, by go_num, hst, hB.out, hP.out, hK.out⟩
            case measure => simp [intOf]; omega
          · have hk4 : k = 4 := by omega
            subst hk4
            have hz0 : z = 0 := by rw [hz.out, show SM.take 4 = SM from rfl, sum_sorts hDP.out, hS.out]; omega
            subst hz0
            clear hz hS hzb hSb hK
            go_wp2_with fail
            refine (atk_any A' n' c' l' 0 12 _ (by omega) hl' (hr'.go hB.out)).mono ?_
            rintro e w3 ⟨⟨qa, rfl, qa0, qa1⟩, rfl⟩
            have hw1 : IntKind.i64.wrap (1 + qa) = 1 + qa := IntWalk.i64_in _ (by omega)
            go_wp2_with fail
            refine (atk_any A' n' c' l' 1 20 _ (by omega) hl' (hr'.go hB.out)).mono ?_
            rintro e w3 ⟨⟨pa, rfl, pa0, pa1⟩, rfl⟩
            have hw2 : IntKind.i64.wrap (1 + pa) = 1 + pa := IntWalk.i64_in _ (by omega)
            have hw3 : IntKind.i64.wrap (10 * (1 + pa)) = 10 * (1 + pa) := IntWalk.i64_in _ (by omega)
            have hw4 : IntKind.i64.wrap (1 + qa + 1) = 1 + qa + 1 := IntWalk.i64_in _ (by omega)
            clear hr' hl' hc' hm'
            go_upto_region 34 with fail
            obtain ⟨P, hPe⟩ : ∃ P, P = 10 * (1 + pa) := ⟨_, rfl⟩
            obtain ⟨Q, hQe⟩ : ∃ Q, Q = 1 + qa := ⟨_, rfl⟩
            rw [← hPe] at hw3 ⊢
            rw [← hQe] at hw1 hw4 ⊢
            have hP0 : 0 ≤ P ∧ P ≤ 200 := by omega
            have hQ0 : 1 ≤ Q ∧ Q ≤ 12 := by omega
            clear hPe hQe hw2 hw3 hw1 pa0 pa1 qa0 qa1
            obtain ⟨hm1, hm2, hm3, hm4⟩ := bonus_of hDP.out hP0 hQ0
            obtain ⟨bo, hbo⟩ : ∃ bo, daysTo q (⟨#[109, 101, 103]⟩ : ByteArray) Q 4 * P = bo := ⟨_, rfl⟩
            obtain ⟨le, hle⟩ : ∃ le, bonusTo q (⟨#[109, 101, 103]⟩ : ByteArray) (Q + 1) P 366 = le := ⟨_, rfl⟩
            rw [hbo] at hm1 hm3
            rw [hle] at hm2 hm3
            have hBO := hide hbo
            have hLE := hide hm3
            clear hbo hle hm3
            go_wp2_with fail
            refine (iBonus_any A1 m d1 q (⟨#[109, 101, 103]⟩ : ByteArray) Q P _ (by omega) hfits.out (by unfold maxLen; decide) hP.out).mono ?_
            rw [hm1]
            rintro e w3 ⟨rfl, hb⟩
            replace hP := hide (hP.out.go hb)
            replace hB := hide (Below.up hB.out hb)
            clear hb hm1
            go_wp2_with fail
            refine (iBonus_any A1 m d1 q (⟨#[109, 101, 103]⟩ : ByteArray) (Q + 1) P _ (by omega) hfits.out (by unfold maxLen; decide) hP.out).mono ?_
            rw [hm2]
            rintro e w4 ⟨rfl, hb⟩
            replace hP := hide (hP.out.go hb)
            replace hB := hide (Below.up hB.out hb)
            clear hb hm2 hw4
            go_wp2
            obtain ⟨wo, hwo⟩ : ∃ wo : World, wo = w4 := ⟨_, rfl⟩
            rw [← hwo] at hB hP ⊢
            clear hwo
            go_loopw [26, 27] (fun s i wr => ∃ (k : Nat) (z : Int), k ≤ 4 ∧ s = .int .i64 z ∧ i = .int .i64 k ∧ Hid (z = daysTo q (⟨#[109, 101, 103]⟩ : ByteArray) Q k) ∧ Below w.heap.size w wr ∧ Arr PieceW.cells 4 wr wr.heap.size A1 m q) (fun _ i _ => 4 - (intOf i).toNat)
            case atStart => exact ⟨0, 0, by omega, rfl, rfl, hide rfl, hB.out, hP.out⟩
            case round =>
              obtain ⟨k, z, hk, rfl, rfl, hz, hb, hp⟩ := hrel
              replace hB := hide hb
              replace hP := hide hp
              clear hb hp
              have hzb : 0 ≤ z ∧ z ≤ k := by rw [hz.out]; exact daysTo_bound q (⟨#[109, 101, 103]⟩ : ByteArray) Q k
              by_cases hlt : k < 4
              · have hlt' : (k : Int) < 4 := by omega
                obtain ⟨wo, hwo⟩ : ∃ wo : World, wo = wr := ⟨_, rfl⟩
                rw [← hwo] at hB hP ⊢
                clear hwo
                go_wp2
                go_loopw [28, 29] (fun s i wr => ∃ (j : Nat) (v : Int), j ≤ m ∧ s = .int .i64 v ∧ i = .int .i64 j ∧ Hid (v = sumOf (dayF (⟨#[109, 101, 103]⟩ : ByteArray) (k : Int)) (q.take j)) ∧ Below w.heap.size w wr ∧ Arr PieceW.cells 4 wr wr.heap.size A1 m q) (fun _ i _ => m - (intOf i).toNat)
                case atStart => exact ⟨0, 0, Nat.zero_le _, rfl, rfl, hide rfl, hB.out, hP.out⟩
                case round =>
                  obtain ⟨j, v, hj, rfl, rfl, hv, hb, hp⟩ := hrel
                  replace hB := hide hb
                  replace hP := hide hp
                  have hvb : 0 ≤ v ∧ v ≤ 15000 := by rw [hv.out]; exact sum_of_bound hDP.out (dayF_bound hok.out (⟨#[109, 101, 103]⟩ : ByteArray) (k : Int)) j
                  clear hb
                  by_cases hjm : j < m
                  · obtain ⟨b, o, x, hA1, _, hx, c0, c1, c2, c3⟩ := hp.PieceW hjm
                    subst hA1
                    have hX := hide hx
                    have hxb := byF_bound hok.out x.fName x (List.mem_of_getElem? hx)
                    rw [byF_yes rfl] at hxb
                    have hw : IntKind.i64.wrap (v + x.fMade) = v + x.fMade := IntWalk.i64_in _ (by omega)
                    have hjm' : (j : Int) < (m : Int) := by omega
                    have hj0 : (0 : Int) ≤ (j : Int) := by omega
                    clear hx hp c1
                    by_cases he : x.fName = (⟨#[109, 101, 103]⟩ : ByteArray)
                    · have hq1 : x.fName.toList = [109, 101, 103] := by rw [he]; exact ByteArray.toList_eq _
                      by_cases hd : x.fDay = (k : Int)
                      · have hst : Hid (v + x.fMade = sumOf (dayF (⟨#[109, 101, 103]⟩ : ByteArray) (k : Int)) (q.take (j + 1))) := hide (by rw [sumOf_snoc hX.out, dayF_yes he hd, ← hv.out])
                        clear he
                        go_wp2
                        go_roundw
                        case rel => exact ⟨j + 1, v + x.fMade, by omega, rfl, by go_num, hst, hB.out, hP.out⟩
                        case measure => simp [intOf]; omega
                      · have hst : Hid (v = sumOf (dayF (⟨#[109, 101, 103]⟩ : ByteArray) (k : Int)) (q.take (j + 1))) := hide (by rw [sumOf_snoc hX.out, dayF_no (fun h => hd h.2), ← hv.out]; omega)
                        clear he
                        go_wp2
                        go_roundw
                        case rel => exact ⟨j + 1, v, by omega, rfl, by go_num, hst, hB.out, hP.out⟩
                        case measure => simp [intOf]; omega
                    · have hq1 : ¬ x.fName.toList = [109, 101, 103] := fun h => he (toList_inj (h.trans (ByteArray.toList_eq (⟨#[109, 101, 103]⟩ : ByteArray)).symm))
                      have hst : Hid (v = sumOf (dayF (⟨#[109, 101, 103]⟩ : ByteArray) (k : Int)) (q.take (j + 1))) := hide (by rw [sumOf_snoc hX.out, dayF_no (fun h => he h.1), ← hv.out]; omega)
                      clear he
                      go_wp2
                      go_roundw
                      case rel => exact ⟨j + 1, v, by omega, rfl, by go_num, hst, hB.out, hP.out⟩
                      case measure => simp [intOf]; omega
                  · have hjm' : ¬ (j : Int) < (m : Int) := by omega
                    replace hv : Hid (v = sumOf (dayF (⟨#[109, 101, 103]⟩ : ByteArray) (k : Int)) q) := hide (by rw [hv.out, List.take_of_length_le (by rw [← hM.out]; omega)])
                    have hw : IntKind.i64.wrap (z + 1) = z + 1 := IntWalk.i64_in _ (by omega)
                    clear hp
                    by_cases hgz : Q ≤ v
                    · have hst : Hid (z + 1 = daysTo q (⟨#[109, 101, 103]⟩ : ByteArray) Q (k + 1)) := hide (by rw [daysTo_yes (by rw [← hv.out]; exact hgz), ← hz.out])
                      go_wp2
                      go_roundw
                      case rel => exact ⟨k + 1, z + 1, by omega, rfl, by go_num, hst, hB.out, hP.out⟩
                      case measure => simp [intOf]; omega
                    · have hst : Hid (z = daysTo q (⟨#[109, 101, 103]⟩ : ByteArray) Q (k + 1)) := hide (by rw [daysTo_no (by rw [← hv.out]; exact hgz), ← hz.out])
                      go_wp2
                      go_roundw
                      case rel => exact ⟨k + 1, z, by omega, rfl, by go_num, hst, hB.out, hP.out⟩
                      case measure => simp [intOf]; omega
              · have hk4 : k = 4 := by omega
                subst hk4
                have hzP : z * P = bo := by rw [hz.out]; exact hBO.out
                have hzp1 := Int.mul_nonneg hzb.1 hP0.1
                have hzp2 : z * P ≤ 4 * 200 := Int.mul_le_mul hzb.2 hP0.2 hP0.1 (by omega)
                have hw : IntKind.i64.wrap (z * P) = bo := by rw [← hzP]; exact IntWalk.i64_in _ (by omega)
                have hled : decide (le ≤ bo) = true := decide_eq_true hLE.out
                clear hzP hzp1 hzp2
                go_wp2
                go_ret
                exact ⟨by simp, hB.out⟩
      · have hne : ¬ G = 0 := by omega
        clear hcase
        go_wp2
        obtain ⟨k2, hk2⟩ : ∃ k2, k2 = wr.heap.size := ⟨_, rfl⟩
        have hK := hide (heap_alloc_new wr (.cells #[.string ⟨#[108, 111, 103, 45, 50]⟩, .string ⟨#[109, 97, 114, 107, 101, 116]⟩, .string ⟨#[112, 111, 116, 97, 116, 111]⟩, .string ⟨#[114, 111, 117, 110, 100]⟩] 9))
        replace hB := hide (hB.out.alloc hB.out.size (.cells #[.string ⟨#[108, 111, 103, 45, 50]⟩, .string ⟨#[109, 97, 114, 107, 101, 116]⟩, .string ⟨#[112, 111, 116, 97, 116, 111]⟩, .string ⟨#[114, 111, 117, 110, 100]⟩] 9))
        replace hP := hide (hP.out.go ((Below.refl _ _).alloc (Nat.le_refl _) (.cells #[.string ⟨#[108, 111, 103, 45, 50]⟩, .string ⟨#[109, 97, 114, 107, 101, 116]⟩, .string ⟨#[112, 111, 116, 97, 116, 111]⟩, .string ⟨#[114, 111, 117, 110, 100]⟩] 9)))
        rw [← hk2] at hK ⊢
        clear hk2
        obtain ⟨wo, hwo⟩ : ∃ wo : World, wo = wr.alloc (.cells #[.string ⟨#[108, 111, 103, 45, 50]⟩, .string ⟨#[109, 97, 114, 107, 101, 116]⟩, .string ⟨#[112, 111, 116, 97, 116, 111]⟩, .string ⟨#[114, 111, 117, 110, 100]⟩] 9) := ⟨_, rfl⟩
        rw [← hwo] at hK hB hP ⊢
        clear hwo
        go_loopw [12, 17] (fun s i wr => ∃ (k : Nat) (z : Int), k ≤ 4 ∧ s = .int .i64 z ∧ i = .int .i64 k ∧ Hid (z = S - sumOf (fun y => sumOf (madeF y) q) (SM.take k)) ∧ Below w.heap.size w wr ∧ Arr PieceW.cells 4 wr wr.heap.size A1 m q ∧ wr.heap[k2]? = some (.cells #[.string ⟨#[108, 111, 103, 45, 50]⟩, .string ⟨#[109, 97, 114, 107, 101, 116]⟩, .string ⟨#[112, 111, 116, 97, 116, 111]⟩, .string ⟨#[114, 111, 117, 110, 100]⟩] 9 (0, 0))) (fun _ i _ => 4 - (intOf i).toNat)
        case atStart => exact ⟨0, S, by omega, rfl, rfl, hide (by rw [List.take_zero, sumOf_nil]; omega), hB.out, hP.out, hK.out⟩
        case round =>
          obtain ⟨k, z, hk, rfl, rfl, hz, hb, hp, hkk⟩ := hrel
          replace hB := hide hb
          replace hP := hide hp
          replace hK := hide hkk
          clear hb hp hkk
          have hSb : 0 ≤ S ∧ S ≤ 15000 := by rw [hS.out]; exact sum_of_all hDP.out (fun x hx => by have := (hDP.out.all x hx).2.2.2; omega)
          have hzb0 := outer_bound (N := SM) (f := fun y => sumOf (madeF y) q) (fun y _ => sum_of_all hDP.out (madeF_bound hok.out y)) (by decide) k
          have hzb : -60000 ≤ z ∧ z ≤ 15000 := by rw [hz.out]; omega
          clear hzb0
          by_cases hlt : k < 4
          · have hlt' : (k : Int) < 4 := by omega
            have hk0 : (0 : Int) ≤ (k : Int) := by omega
            obtain ⟨y, hy⟩ : ∃ y, SM[k]? = some y := ⟨_, List.getElem?_eq_getElem hlt⟩
            have hY := hide hy
            obtain ⟨b2, o2, y2, hA2, _, hy2, e0⟩ := (row_strs hK.out (l := SM) (n := 4) rfl rfl).str hlt
            cases hA2
            rw [hy] at hy2
            cases hy2
            simp only [Nat.zero_add] at e0
            have hmem := List.mem_of_getElem? hy
            have hmade := made_of hDP.out hmem
            have hys := (SM_name y hmem).2
            have hnb := sum_of_all hDP.out (madeF_bound hok.out y)
            obtain ⟨t, ht⟩ : ∃ t, sumOf (madeF y) q = t := ⟨_, rfl⟩
            rw [ht] at hmade hnb
            have hT := hide ht
            have hw : IntKind.i64.wrap (z - t) = z - t := IntWalk.i64_in _ (by omega)
            have hneg : decide (t < 0) = false := decide_eq_false (by omega)
            have hst : Hid (z - t = S - sumOf (fun y => sumOf (madeF y) q) (SM.take (k + 1))) := hide (by rw [sumOf_snoc hY.out, ht, hz.out]; omega)
            clear hy hmem ht
            go_wp2_with fail
            refine (iMade_any A1 m d1 q y _ (by omega) hfits.out hys hP.out).mono ?_
            rw [hmade]
            rintro e w3 ⟨rfl, hb⟩
            replace hP := hide (hP.out.go hb)
            replace hB := hide (Below.up hB.out hb)
            replace hK := hide ((hb.block k2 (Array.getElem?_eq_some_iff.1 hK.out).1).trans hK.out)
            clear hb hmade e0
            go_wp2
            go_roundw
            case rel => exact ⟨k + 1, z - t, by omega, rfl, by go_num, hst, hB.out, hP.out, hK.out⟩
            case measure => simp [intOf]; omega
          · have hk4 : k = 4 := by omega
            subst hk4
            have hz0 : z = 0 := by rw [hz.out, show SM.take 4 = SM from rfl, sum_sorts hDP.out, hS.out]; omega
            subst hz0
            clear hz hS hzb hSb hK
            go_wp2_with fail
            refine (atk_any A' n' c' l' 0 12 _ (by omega) hl' (hr'.go hB.out)).mono ?_
            rintro e w3 ⟨⟨qa, rfl, qa0, qa1⟩, rfl⟩
            have hw1 : IntKind.i64.wrap (1 + qa) = 1 + qa := IntWalk.i64_in _ (by omega)
            go_wp2_with fail
            refine (atk_any A' n' c' l' 1 20 _ (by omega) hl' (hr'.go hB.out)).mono ?_
            rintro e w3 ⟨⟨pa, rfl, pa0, pa1⟩, rfl⟩
            have hw2 : IntKind.i64.wrap (1 + pa) = 1 + pa := IntWalk.i64_in _ (by omega)
            have hw3 : IntKind.i64.wrap (10 * (1 + pa)) = 10 * (1 + pa) := IntWalk.i64_in _ (by omega)
            have hw4 : IntKind.i64.wrap (1 + qa + 1) = 1 + qa + 1 := IntWalk.i64_in _ (by omega)
            clear hr' hl' hc' hm'
            go_upto_region 34 with fail
            obtain ⟨P, hPe⟩ : ∃ P, P = 10 * (1 + pa) := ⟨_, rfl⟩
            obtain ⟨Q, hQe⟩ : ∃ Q, Q = 1 + qa := ⟨_, rfl⟩
            rw [← hPe] at hw3 ⊢
            rw [← hQe] at hw1 hw4 ⊢
            have hP0 : 0 ≤ P ∧ P ≤ 200 := by omega
            have hQ0 : 1 ≤ Q ∧ Q ≤ 12 := by omega
            clear hPe hQe hw2 hw3 hw1 pa0 pa1 qa0 qa1
            obtain ⟨hm1, hm2, hm3, hm4⟩ := bonus_of hDP.out hP0 hQ0
            obtain ⟨bo, hbo⟩ : ∃ bo, daysTo q (⟨#[109, 101, 103]⟩ : ByteArray) Q 4 * P = bo := ⟨_, rfl⟩
            obtain ⟨le, hle⟩ : ∃ le, bonusTo q (⟨#[109, 101, 103]⟩ : ByteArray) (Q + 1) P 366 = le := ⟨_, rfl⟩
            rw [hbo] at hm1 hm3
            rw [hle] at hm2 hm3
            have hBO := hide hbo
            have hLE := hide hm3
            clear hbo hle hm3
            go_wp2_with fail
            refine (iBonus_any A1 m d1 q (⟨#[109, 101, 103]⟩ : ByteArray) Q P _ (by omega) hfits.out (by unfold maxLen; decide) hP.out).mono ?_
            rw [hm1]
            rintro e w3 ⟨rfl, hb⟩
            replace hP := hide (hP.out.go hb)
            replace hB := hide (Below.up hB.out hb)
            clear hb hm1
            go_wp2_with fail
            refine (iBonus_any A1 m d1 q (⟨#[109, 101, 103]⟩ : ByteArray) (Q + 1) P _ (by omega) hfits.out (by unfold maxLen; decide) hP.out).mono ?_
            rw [hm2]
            rintro e w4 ⟨rfl, hb⟩
            replace hP := hide (hP.out.go hb)
            replace hB := hide (Below.up hB.out hb)
            clear hb hm2 hw4
            go_wp2
            obtain ⟨wo, hwo⟩ : ∃ wo : World, wo = w4 := ⟨_, rfl⟩
            rw [← hwo] at hB hP ⊢
            clear hwo
            go_loopw [26, 27] (fun s i wr => ∃ (k : Nat) (z : Int), k ≤ 4 ∧ s = .int .i64 z ∧ i = .int .i64 k ∧ Hid (z = daysTo q (⟨#[109, 101, 103]⟩ : ByteArray) Q k) ∧ Below w.heap.size w wr ∧ Arr PieceW.cells 4 wr wr.heap.size A1 m q) (fun _ i _ => 4 - (intOf i).toNat)
            case atStart => exact ⟨0, 0, by omega, rfl, rfl, hide rfl, hB.out, hP.out⟩
            case round =>
              obtain ⟨k, z, hk, rfl, rfl, hz, hb, hp⟩ := hrel
              replace hB := hide hb
              replace hP := hide hp
              clear hb hp
              have hzb : 0 ≤ z ∧ z ≤ k := by rw [hz.out]; exact daysTo_bound q (⟨#[109, 101, 103]⟩ : ByteArray) Q k
              by_cases hlt : k < 4
              · have hlt' : (k : Int) < 4 := by omega
                obtain ⟨wo, hwo⟩ : ∃ wo : World, wo = wr := ⟨_, rfl⟩
                rw [← hwo] at hB hP ⊢
                clear hwo
                go_wp2
                go_loopw [28, 29] (fun s i wr => ∃ (j : Nat) (v : Int), j ≤ m ∧ s = .int .i64 v ∧ i = .int .i64 j ∧ Hid (v = sumOf (dayF (⟨#[109, 101, 103]⟩ : ByteArray) (k : Int)) (q.take j)) ∧ Below w.heap.size w wr ∧ Arr PieceW.cells 4 wr wr.heap.size A1 m q) (fun _ i _ => m - (intOf i).toNat)
                case atStart => exact ⟨0, 0, Nat.zero_le _, rfl, rfl, hide rfl, hB.out, hP.out⟩
                case round =>
                  obtain ⟨j, v, hj, rfl, rfl, hv, hb, hp⟩ := hrel
                  replace hB := hide hb
                  replace hP := hide hp
                  have hvb : 0 ≤ v ∧ v ≤ 15000 := by rw [hv.out]; exact sum_of_bound hDP.out (dayF_bound hok.out (⟨#[109, 101, 103]⟩ : ByteArray) (k : Int)) j
                  clear hb
                  by_cases hjm : j < m
                  · obtain ⟨b, o, x, hA1, _, hx, c0, c1, c2, c3⟩ := hp.PieceW hjm
                    subst hA1
                    have hX := hide hx
                    have hxb := byF_bound hok.out x.fName x (List.mem_of_getElem? hx)
                    rw [byF_yes rfl] at hxb
                    have hw : IntKind.i64.wrap (v + x.fMade) = v + x.fMade := IntWalk.i64_in _ (by omega)
                    have hjm' : (j : Int) < (m : Int) := by omega
                    have hj0 : (0 : Int) ≤ (j : Int) := by omega
                    clear hx hp c1
                    by_cases he : x.fName = (⟨#[109, 101, 103]⟩ : ByteArray)
                    · have hq1 : x.fName.toList = [109, 101, 103] := by rw [he]; exact ByteArray.toList_eq _
                      by_cases hd : x.fDay = (k : Int)
                      · have hst : Hid (v + x.fMade = sumOf (dayF (⟨#[109, 101, 103]⟩ : ByteArray) (k : Int)) (q.take (j + 1))) := hide (by rw [sumOf_snoc hX.out, dayF_yes he hd, ← hv.out])
                        clear he
                        go_wp2
                        go_roundw
                        case rel => exact ⟨j + 1, v + x.fMade, by omega, rfl, by go_num, hst, hB.out, hP.out⟩
                        case measure => simp [intOf]; omega
                      · have hst : Hid (v = sumOf (dayF (⟨#[109, 101, 103]⟩ : ByteArray) (k : Int)) (q.take (j + 1))) := hide (by rw [sumOf_snoc hX.out, dayF_no (fun h => hd h.2), ← hv.out]; omega)
                        clear he
                        go_wp2
                        go_roundw
                        case rel => exact ⟨j + 1, v, by omega, rfl, by go_num, hst, hB.out, hP.out⟩
                        case measure => simp [intOf]; omega
                    · have hq1 : ¬ x.fName.toList = [109, 101, 103] := fun h => he (toList_inj (h.trans (ByteArray.toList_eq (⟨#[109, 101, 103]⟩ : ByteArray)).symm))
                      have hst : Hid (v = sumOf (dayF (⟨#[109, 101, 103]⟩ : ByteArray) (k : Int)) (q.take (j + 1))) := hide (by rw [sumOf_snoc hX.out, dayF_no (fun h => he h.1), ← hv.out]; omega)
                      clear he
                      go_wp2
                      go_roundw
                      case rel => exact ⟨j + 1, v, by omega, rfl, by go_num, hst, hB.out, hP.out⟩
                      case measure => simp [intOf]; omega
                  · have hjm' : ¬ (j : Int) < (m : Int) := by omega
                    replace hv : Hid (v = sumOf (dayF (⟨#[109, 101, 103]⟩ : ByteArray) (k : Int)) q) := hide (by rw [hv.out, List.take_of_length_le (by rw [← hM.out]; omega)])
                    have hw : IntKind.i64.wrap (z + 1) = z + 1 := IntWalk.i64_in _ (by omega)
                    clear hp
                    by_cases hgz : Q ≤ v
                    · have hst : Hid (z + 1 = daysTo q (⟨#[109, 101, 103]⟩ : ByteArray) Q (k + 1)) := hide (by rw [daysTo_yes (by rw [← hv.out]; exact hgz), ← hz.out])
                      go_wp2
                      go_roundw
                      case rel => exact ⟨k + 1, z + 1, by omega, rfl, by go_num, hst, hB.out, hP.out⟩
                      case measure => simp [intOf]; omega
                    · have hst : Hid (z = daysTo q (⟨#[109, 101, 103]⟩ : ByteArray) Q (k + 1)) := hide (by rw [daysTo_no (by rw [← hv.out]; exact hgz), ← hz.out])
                      go_wp2
                      go_roundw
                      case rel => exact ⟨k + 1, z, by omega, rfl, by go_num, hst, hB.out, hP.out⟩
                      case measure => simp [intOf]; omega
              · have hk4 : k = 4 := by omega
                subst hk4
                have hzP : z * P = bo := by rw [hz.out]; exact hBO.out
                have hzp1 := Int.mul_nonneg hzb.1 hP0.1
                have hzp2 : z * P ≤ 4 * 200 := Int.mul_le_mul hzb.2 hP0.2 hP0.1 (by omega)
                have hw : IntKind.i64.wrap (z * P) = bo := by rw [← hzP]; exact IntWalk.i64_in _ (by omega)
                have hled : decide (le ≤ bo) = true := decide_eq_true hLE.out
                clear hzP hzp1 hzp2
                go_wp2
                go_ret
                exact ⟨by simp, hB.out⟩
end Go.Proofs.Ytgjcmnnhcoaliaa
