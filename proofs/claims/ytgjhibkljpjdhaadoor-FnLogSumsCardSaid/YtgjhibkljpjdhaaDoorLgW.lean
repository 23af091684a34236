/- The walk of the law FnLogSums. No statement is proved here. -/
import Derived.Test.YtgjhibkljpjdhaaDoorLgT
import Derived.Test.YtgjhibkljpjdhaaDoorLgE
namespace Go.Proofs.YtgjhibkljpjdhaaDoor
open Go.ChangeShapes Go.WideShapes Go.ChangeAt Go.RowKit Go.Deep
set_option maxRecDepth 100000
set_option maxHeartbeats 4000000 in
theorem walkLogSums (w : World) (hG : Gl w) (A : Option Addr) (n c : Nat) (l : List Int) (hc : n ≤ c) (hm : c ≤ maxLen) (hq : ∀ x ∈ l, (Lit.int .u8 x).wf = true) (hr : Arr u8c 1 w w.heap.size A n l) :
    Calls Tryd.prog 3 #[.slice A n c] w fun e w' => e = .returned (.bool true) ∧ Below w.heap.size w w' := by
  have hl := bytes_ok hq
  have hGh := hide hG
  clear hq hG
  have hB := hide (Below.refl w.heap.size w)
  have hlong : (decide (3000 < (n : Int)) || decide (3000 < ((0 : Nat) : Int))) = decide (3000 < (n : Int)) := by simp
  go_enter Tryd.func3, Tryd.ntmps3
  go_wp2_with fail
  refine (long_any A n c none 0 0 _).mono ?_
  rw [hlong]
  clear hlong
  rintro e w1 ⟨rfl, rfl⟩
  cases hbig : decide (3000 < (n : Int))
  case true =>
    go_wp2
    go_ret
    exact ⟨rfl, hB.out⟩
  clear hbig
  go_wp2_with fail
  refine (a2Entries_any _ A n c l (hr.go hB.out) hl hm hc).mono ?_
  rintro e w1 ⟨A1, m, d1, q, rfl, hp, hI, hm7, hmc, hb⟩
  have hql : q.length ≤ 7 := by have := hp.len; omega
  have hQ := hide hp
  have hDE := hide hI
  have hlen := hide hp.len
  replace hB := hide (Below.up hB.out hb)
  clear hb hp hr hl hc hm hI
  have hlg := hDE.out.log hql
  have hlg1 : (mLog q).1 = (lgOf q).2 := by rw [hlg]
  have hlg2 : (mLog q).2 = 0 := by rw [hlg]
  obtain ⟨hc0, hen, _, _⟩ := hDE.out.lcode hql
  have hnm : mNames (lgOf q).2 = nmOf q := by unfold mNames; rw [if_pos hc0, hen]
  have hper := hide (fun y hy => name_of hDE.out hql (y := y) hy)
  have hssz := hDE.out.short hql
  obtain ⟨S, hS⟩ : ∃ S, S = (lgOf q).2 := ⟨_, rfl⟩
  rw [← hS] at hlg1 hc0 hnm hper hssz
  have hn7 := nm7 hql
  have hnil := names_nil q
  obtain ⟨all1, all2⟩ := all_names q
  rw [hlen.out] at all2 hnil
  have hFb := hide (fun y => oneF_bound hDE.out y)
  obtain ⟨N, hN⟩ : ∃ N, N = nmOf q := ⟨_, rfl⟩
  rw [← hN] at hnm hn7 hnil all1 all2 hper
  obtain ⟨a, ha⟩ : ∃ a, a = N.length := ⟨_, rfl⟩
  rw [← ha] at hn7 hnil
  have hAl := hide ha
  obtain ⟨T, hT⟩ : ∃ T, T = sumOf (fun x : Entry => x.fValue) q := ⟨_, rfl⟩
  rw [← hT] at all1
  have hA1 := hide all1
  have hA2 := hide all2
  have hTT := hide hT
  have hC0 := hide hc0
  have hNM := hide hnm
  have hL1 := hide hlg1
  have hL2 := hide hlg2
  obtain ⟨bb, hb1, hb2⟩ : ∃ bb : Bool, Hid (((a : Int) == 0) = bb) ∧ Hid (((m : Int) == 0) = bb) := ⟨_, hide rfl, hide (by rw [Bool.eq_iff_iff, beq_iff_eq, beq_iff_eq]; omega)⟩
  clear hS hN ha hlg hlg1 hlg2 hc0 hen hnm all1 all2 hT hnil
  go_wp2_with fail
  refine (sLogOf_any A1 m d1 q _ (by omega) (fun x hx => Entry.fits_of_ok (hDE.out.ok x hx)) hQ.out).mono ?_
  rw [hL1.out, hL2.out]
  rintro e w1 ⟨rfl, hb⟩
  replace hQ := hide (hQ.out.go hb)
  replace hB := hide (Below.up hB.out hb)
  clear hb
  go_wp2_with fail
  refine (iNames_any S _ (hGh.out.below hB.out)).mono ?_
  rw [hC0.out, hNM.out, ← hAl.out]
  rintro e w1 ⟨v1, rfl, hres, hb⟩
  obtain ⟨C, dc, rfl, hcd⟩ := hres.slice
  have hR := hide (hres.arr strc_len)
  replace hQ := hide (hQ.out.go hb)
  replace hB := hide (Below.up hB.out hb)
  clear hb hres
  have hb1' := hb1.out
  have hb2' := hb2.out
  cases bb
  all_goals
    go_wp2
    clear hb1' hb2'
    go_loopw [8, 9, 10] (fun s z i wr => ∃ k : Nat, k ≤ a ∧ s = .int .i64 (sumOf (fun y => sumOf (oneF y) q) (N.take k)) ∧ z = .int .i64 (sumOf (fun y => sumOf (cntF y) q) (N.take k)) ∧ i = .int .i64 k ∧ Below w.heap.size w wr ∧ Arr Entry.cells 3 wr wr.heap.size A1 m q ∧ Arr strc 1 wr wr.heap.size C a N) (fun _ _ i _ => a - (intOf i).toNat)
    case atStart => exact ⟨0, Nat.zero_le _, rfl, rfl, rfl, hB.out, hQ.out, hR.out⟩
    case round =>
      obtain ⟨k, hk, rfl, rfl, rfl, hb, h1, h2⟩ := hrel
      replace hB := hide hb
      replace hQ := hide h1
      replace hR := hide h2
      clear hb h1 h2
      have hFk : ∀ y ∈ N.take k, -7000000 ≤ sumOf (oneF y) q ∧ sumOf (oneF y) q ≤ 7000000 := fun y _ => sumB7 (M := 1000000) (hFb.out y) hql (by omega)
      have hCk : ∀ y ∈ N.take k, -7 ≤ sumOf (cntF y) q ∧ sumOf (cntF y) q ≤ 7 := fun y _ => sumB7 (M := 1) (f := cntF y) (fun x _ => by unfold cntF; split <;> omega) hql (by omega)
      have hkl : (N.take k).length ≤ 7 := by rw [List.length_take]; omega
      have hFB := sumB7 (M := 7000000) hFk hkl (by omega)
      have hCB := sumB7 (M := 7) hCk hkl (by omega)
      clear hFk hCk hkl
      obtain ⟨X, hX⟩ : ∃ X, X = sumOf (fun y => sumOf (oneF y) q) (N.take k) := ⟨_, rfl⟩
      obtain ⟨Z, hZ⟩ : ∃ Z, Z = sumOf (fun y => sumOf (cntF y) q) (N.take k) := ⟨_, rfl⟩
      rw [← hX] at hFB ⊢
      rw [← hZ] at hCB ⊢
      have hXX := hide hX
      have hZZ := hide hZ
      clear hX hZ
      by_cases hlt : k < a
      · obtain ⟨b, o, y, hAa, hbl, hy, c0⟩ := hR.out.str hlt
        subst hAa
        have hY := hide hy
        obtain ⟨p1, p2, p3, p4, p5, p6⟩ := hper.out y (List.mem_of_getElem? hy)
        have hs1 : Hid (X + sumOf (oneF y) q = sumOf (fun y => sumOf (oneF y) q) (N.take (k + 1))) := hide (by rw [sumOf_snoc hy, ← hXX.out])
        have hs2 : Hid (Z + sumOf (cntF y) q = sumOf (fun y => sumOf (cntF y) q) (N.take (k + 1))) := hide (by rw [sumOf_snoc hy, ← hZZ.out])
        obtain ⟨vs1, vs2⟩ := vals_sum y q
        have hvb : ∀ x ∈ valsOf y q, -1000000 ≤ x ∧ x ≤ 1000000 := by
          intro x hx
          unfold valsOf at hx
          obtain ⟨e, he, rfl⟩ := List.mem_map.1 hx
          exact (Entry.ok_iff.1 (hDE.out.ok e (List.mem_filter.1 he).1)).2.2
        have hFy := sumB7 (M := 1000000) (hFb.out y) hql (by omega)
        have hvl : (valsOf y q).length ≤ 7 := Nat.le_trans (vals_len y q) hql
        obtain ⟨P, hP⟩ : ∃ P, P = sumOf (oneF y) q := ⟨_, rfl⟩
        obtain ⟨K, hK⟩ : ∃ K, K = sumOf (cntF y) q := ⟨_, rfl⟩
        rw [← hP] at hs1 vs1 p2 hFy
        rw [← hK] at hs2 vs2
        obtain ⟨V, hV⟩ : ∃ V, V = valsOf y q := ⟨_, rfl⟩
        rw [← hV] at vs1 vs2 p4 p5 hvb hvl
        obtain ⟨u, hu⟩ : ∃ u, u = V.length := ⟨_, rfl⟩
        rw [← hu] at vs2 p5 hvl
        have hU := hide hu
        have hVb := hide hvb
        have hVs := hide vs1
        have hVc := hide vs2
        have q1 := hide p1
        have q2 := hide p2
        have q3 := hide p3
        have q4 := hide p4
        clear hy hP hK hV hu hvb vs1 vs2 p1 p2 p3 p4
        have hlt' : (k : Int) < (a : Int) := by omega
        have hk0 : (0 : Int) ≤ (k : Int) := by omega
        go_wp2_with fail
        refine (iSum_any S y 0 100000 _ p6 (hGh.out.below hB.out)).mono ?_
        rw [q1.out, q2.out]
        rintro e w2 ⟨rfl, hb⟩
        replace hB := hide (Below.up hB.out hb)
        replace hQ := hide (hQ.out.go hb)
        replace hR := hide (hR.out.go hb)
        obtain ⟨b2, o2, y2, hA2', hbl2, hy2, c0'⟩ := hR.out.str hlt
        cases hA2'
        rw [hY.out] at hy2
        cases hy2
        clear hb c0
        go_wp2_with fail
        refine (iVals_any S y _ p6 (hGh.out.below hB.out)).mono ?_
        rw [q3.out, q4.out, ← hU.out]
        rintro e w3 ⟨v3, rfl, hres, hb⟩
        obtain ⟨D, dd, rfl, hdd⟩ := hres.slice
        have hVV := hide (hres.arr i64c_len)
        replace hB := hide (Below.up hB.out hb)
        replace hQ := hide (hQ.out.go hb)
        replace hR := hide (hR.out.go hb)
        clear hb hres c0'
        have z1 : ((u : Int) == 0) = false := by simp; omega
        have hw1 : IntKind.i64.wrap (X + P) = X + P := IntWalk.i64_in _ (by omega)
        have hw2 : IntKind.i64.wrap (Z + (u : Int)) = Z + (u : Int) := IntWalk.i64_in _ (by omega)
        go_wp2_with (first | (go_at_call 11; refine (sums_any D u dd V P _ (by omega) hVV.out hVb.out hVs.out).mono ?_; rintro e w' ⟨rfl, rfl⟩) | fail)
        go_roundw
        case rel => exact ⟨k + 1, by omega, by rw [hs1.out], by rw [← hs2.out, hVc.out], by go_num, hB.out, hQ.out, hR.out⟩
        case measure => simp [intOf]; omega
      · have hXT : X = T := by rw [hXX.out, List.take_of_length_le (by rw [← hAl.out]; omega), hA1.out]
        have hZT : Z = (m : Int) := by rw [hZZ.out, List.take_of_length_le (by rw [← hAl.out]; omega), hA2.out]
        rw [hXT, hZT]
        clear hR hXX hZZ hFB hCB hXT hZT X Z
        go_wp2
        go_loopw [15, 16] (fun z i wr => ∃ (k : Nat) (v : Int), k ≤ m ∧ z = .int .i64 v ∧ i = .int .i64 k ∧ Hid (v = sumOf (fun x : Entry => x.fValue) (q.take k)) ∧ Below w.heap.size w wr ∧ Arr Entry.cells 3 wr wr.heap.size A1 m q) (fun _ i _ => m - (intOf i).toNat)
        case atStart => exact ⟨0, 0, Nat.zero_le _, rfl, rfl, hide rfl, hB.out, hQ.out⟩
        case round =>
          obtain ⟨p, z, hp, rfl, rfl, hz, hb, h1⟩ := hrel
          replace hB := hide hb
          replace hQ := hide h1
          clear hb h1
          by_cases hlt2 : p < m
          · obtain ⟨b, o, x, hAa, hbl, hx, c0, c1, c2⟩ := hQ.out.Entry hlt2
            subst hAa
            have hxv := (Entry.ok_iff.1 (hDE.out.ok x (List.mem_of_getElem? hx))).2.2
            have hzb : -7000000 ≤ z ∧ z ≤ 7000000 := by
              rw [hz.out]
              exact sumB7 (M := 1000000) (fun x hx => (Entry.ok_iff.1 (hDE.out.ok x (List.mem_of_mem_take hx))).2.2) (by rw [List.length_take]; omega) (by omega)
            have hst : Hid (z + x.fValue = sumOf (fun x : Entry => x.fValue) (q.take (p + 1))) := hide (by rw [sumOf_snoc hx, ← hz.out])
            have hw1 : IntKind.i64.wrap (z + x.fValue) = z + x.fValue := IntWalk.i64_in _ (by omega)
            have hlt' : (p : Int) < (m : Int) := by omega
            have hk0 : (0 : Int) ≤ (p : Int) := by omega
            clear hx
            go_wp2
            go_roundw
            case rel => exact ⟨p + 1, z + x.fValue, by omega, rfl, by go_num, hst, hB.out, hQ.out⟩
            case measure => simp [intOf]; omega
          · have hzT : z = T := by rw [hz.out, List.take_of_length_le (by rw [hlen.out]; omega), ← hTT.out]
            rw [hzT]
            clear hzT hz z
            go_wp2
            go_ret
            exact ⟨rfl, hB.out⟩
end Go.Proofs.YtgjhibkljpjdhaaDoor
