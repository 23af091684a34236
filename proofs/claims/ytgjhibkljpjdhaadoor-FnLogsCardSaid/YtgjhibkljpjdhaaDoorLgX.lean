/- The walk of the law FnLogs. No statement is proved here. -/
import Derived.Test.YtgjhibkljpjdhaaDoorLgT
import Derived.Test.YtgjhibkljpjdhaaDoorLgE
import Derived.Test.YtgjhibkljpjdhaaDoorLogN
namespace Go.Proofs.YtgjhibkljpjdhaaDoor
open Go.ChangeShapes Go.WideShapes Go.ChangeAt Go.RowKit Go.Deep
set_option maxRecDepth 100000
theorem lg_prefix (l : List Entry) (k : Nat) : (lgOf (l.take k)).2 = (lgOf l).2.extract 0 (lgOf (l.take k)).2.size := by
  have h := (lg_mkL (l.drop k) (lgOf (l.take k))).1
  have h2 : (l.drop k).foldl lgF (lgOf (l.take k)) = lgOf l := by unfold lgOf; rw [← List.foldl_append, List.take_append_drop]
  rw [h2] at h
  apply toList_inj
  rw [ByteArray.toList_eq, ByteArray.toList_eq, piece_list, h, List.drop_zero, List.take_left' (size_list _)]
theorem add_made {l : List Entry} (h : DE l) (hn : l.length ≤ 7) {k : Nat} {x : Entry} (hx : l[k]? = some x) : mAdd (lgOf (l.take k)).2 x = ((lgOf (l.take (k + 1))).2, 0) := by
  obtain ⟨c0, ce, _, cs⟩ := (h.take k).lcode (h.none7 hn k)
  have hk := h.ok x (List.mem_of_getElem? hx)
  have e1 : addB (lgOf (l.take k)).2 x = (lgOf (l.take (k + 1))).2 := by unfold addB; rw [cs, lgOf_snoc hx]; rfl
  have hs := (h.take (k + 1)).short (h.none7 hn (k + 1))
  rw [add_good c0 hk (by rw [ce]; have := h.last hx; omega) (by rw [e1]; omega), e1]
theorem ex_size {s : ByteArray} {c : Nat} (h : c ≤ s.size) : (s.extract 0 c).size = c := by
  have := congrArg List.length (piece_list s 0 c)
  rw [size_list, List.drop_zero, List.length_take, size_list] at this
  omega
theorem ex_ex {s : ByteArray} {c u : Nat} (h : u ≤ c) : (s.extract 0 c).extract 0 u = s.extract 0 u := by
  apply toList_inj
  rw [ByteArray.toList_eq, ByteArray.toList_eq, piece_list, piece_list, piece_list, List.drop_zero, List.drop_zero, List.drop_zero, List.take_take, Nat.min_eq_left h]
set_option maxHeartbeats 4000000 in
theorem walkLogs (w : World) (hG : Gl w) (A : Option Addr) (n c : Nat) (l : List Int) (hc : n ≤ c) (hm : c ≤ maxLen) (hq : ∀ x ∈ l, (Lit.int .u8 x).wf = true) (hr : Arr u8c 1 w w.heap.size A n l) (A' : Option Addr) (n' c' : Nat) (l' : List Int) (_hc' : n' ≤ c') (_hm' : c' ≤ maxLen) (hq' : ∀ x ∈ l', (Lit.int .u8 x).wf = true) (hr' : Arr u8c 1 w w.heap.size A' n' l') :
    Calls Tryd.prog 4 #[.slice A n c, .slice A' n' c'] w fun e w' => e = .returned (.bool true) ∧ Below w.heap.size w w' := by
  have hl := bytes_ok hq
  have hl' := bytes_ok hq'
  have hGh := hide hG
  clear hq hq' hG
  have hB := hide (Below.refl w.heap.size w)
  go_enter Tryd.func4, Tryd.ntmps4
  go_wp2_with fail
  refine (long_any A n c A' n' c' _).mono ?_
  rintro e w1 ⟨rfl, rfl⟩
  cases hbig : (decide (3000 < (n : Int)) || decide (3000 < (n' : Int)))
  case true =>
    go_wp2
    go_ret
    exact ⟨rfl, hB.out⟩
  clear hbig
  go_wp2_with fail
  refine (a2Entries_any _ A n c l (hr.go hB.out) hl hm hc).mono ?_
  rintro e w1 ⟨A1, m, d1, q, rfl, hp, hI, hm7, hmc, hb⟩
  have hql : q.length ≤ 7 := by have := hp.len; omega
  have hQ := hide hp
  have hDE := hide hI
  have hlen := hide hp.len
  replace hB := hide (Below.up hB.out hb)
  clear hb hp hr hl hc hm hI
  have hlg := hDE.out.log hql
  have hlg1 : (mLog q).1 = (lgOf q).2 := by rw [hlg]
  have hlg2 : (mLog q).2 = 0 := by rw [hlg]
  obtain ⟨hc0, hen, _, _⟩ := hDE.out.lcode hql
  have hnm : mEnts (lgOf q).2 = q := by unfold mEnts; rw [if_pos hc0, hen]
  have hssz := hDE.out.short hql
  have hmono := hide (fun k => lgOf_mono q k)
  have hpre := hide (fun k => lg_prefix q k)
  have hadd := hide (fun k x h => add_made hDE.out hql (k := k) (x := x) h)
  have hcut := hide (fun c' (p : ByteArray) h => cut_made hDE.out hql c' (p := p) h)
  have hall : Hid (lgOf (q.take m) = lgOf q) := hide (by rw [List.take_of_length_le (by rw [hlen.out]; omega)])
  have h00 : Hid ((lgOf (q.take 0)).2 = ⟨#[]⟩) := hide rfl
  obtain ⟨S, hS⟩ : ∃ S, S = (lgOf q).2 := ⟨_, rfl⟩
  rw [← hS] at hlg1 hc0 hnm hssz hmono hpre hcut
  have hSS := hide hS
  have hC0 := hide hc0
  have hNM := hide hnm
  have hL1 := hide hlg1
  have hL2 := hide hlg2
  clear hS hlg hlg1 hlg2 hc0 hen hnm
  go_wp2_with fail
  refine (iLogOf_any A1 m d1 q _ (hGh.out.below hB.out) (by omega) (fun x hx => Entry.fits_of_ok (hDE.out.ok x hx)) hQ.out).mono ?_
  rw [hL1.out, hL2.out]
  rintro e w1 ⟨rfl, hb⟩
  replace hQ := hide (hQ.out.go hb)
  replace hr' := hide (hr'.go (Below.up hB.out hb))
  replace hB := hide (Below.up hB.out hb)
  clear hb
  go_wp2_with fail
  refine (iEnts_any S _ (hGh.out.below hB.out)).mono ?_
  rw [hC0.out, hNM.out, hlen.out]
  rintro e w1 ⟨v1, rfl, hres, hb⟩
  obtain ⟨C, dc, rfl, hcd⟩ := hres.slice
  have hR := hide (hres.arr Entry.len)
  replace hQ := hide (hQ.out.go hb)
  replace hr' := hide (hr'.out.go hb)
  replace hB := hide (Below.up hB.out hb)
  clear hb hres
  go_wp2
  go_loopw [10, 11] (fun s i wr => ∃ (k : Nat) (P : ByteArray), k ≤ m ∧ s = .string P ∧ i = .int .i64 k ∧ Hid (P = (lgOf (q.take k)).2) ∧ Below w.heap.size w wr ∧ Arr Entry.cells 3 wr wr.heap.size A1 m q ∧ Arr Entry.cells 3 wr wr.heap.size C m q ∧ Arr u8c 1 wr wr.heap.size A' n' l') (fun _ i _ => m - (intOf i).toNat)
  case atStart => exact ⟨0, ⟨#[]⟩, Nat.zero_le _, rfl, rfl, hide h00.out.symm, hB.out, hQ.out, hR.out, hr'.out⟩
  case round =>
    obtain ⟨k, P, hk, rfl, rfl, hP, hb, h1, h2, h3⟩ := hrel
    replace hB := hide hb
    replace hQ := hide h1
    replace hR := hide h2
    replace hr' := hide h3
    clear hb h1 h2 h3 h00
    by_cases hlt : k < m
    · obtain ⟨b, o, x, hAa, hbl, hx, c0, c1, c2⟩ := hQ.out.Entry hlt
      subst hAa
      obtain ⟨b2, o2, y, hAb, hbl2, hy, e0, e1, e2⟩ := hR.out.Entry hlt
      subst hAb
      rw [hx] at hy
      cases hy
      have hX := hide hx
      have hok := hDE.out.ok x (List.mem_of_getElem? hx)
      have hxf := Entry.fits_of_ok hok
      have hne := neqEnt x
      have hAD := hadd.out k x hx
      rw [← hP.out] at hAD
      have hAD1 := congrArg Prod.fst hAD
      have hAD2 := congrArg Prod.snd hAD
      have hpr := hpre.out (k + 1)
      have hmo := hmono.out (k + 1)
      obtain ⟨V, hV⟩ : ∃ V, V = (lgOf (q.take (k + 1))).2 := ⟨_, rfl⟩
      rw [← hV] at hAD1 hpr hmo
      have hVV := hide hV
      have hA1 : Hid ((mAdd P x).1 = V) := hide (hAD1.trans (by rw [hV]))
      have hA2 : Hid ((mAdd P x).2 = 0) := hide (hAD2.trans rfl)
      have hPR := hide hpr
      clear hx hAD hAD1 hAD2 hpr hV hok
      have hlt' : (k : Int) < (m : Int) := by omega
      have hk0 : (0 : Int) ≤ (k : Int) := by omega
      go_wp2_with fail
      go_quiet (fail)
      go_wp2_with fail
      refine (iAdd_any P x _ hxf (hGh.out.below (Below.up hB.out (below_drewN (Below.refl _ _) _)))).mono ?_
      rw [hA1.out, hA2.out]
      rintro e w2 ⟨rfl, hb0⟩
      have hb := Below.up (below_drewN (Below.refl wr.heap.size wr) _) hb0
      replace hB := hide (Below.up hB.out hb)
      replace hQ := hide (hQ.out.go hb)
      replace hR := hide (hR.out.go hb)
      replace hr' := hide (hr'.out.go hb)
      clear hb hb0 c0 c1 c2 e0 e1 e2 hne
      have hle : ¬ (S.size : Int) < (V.size : Int) := by omega
      have heq := str_eq hPR.out
      have hvs : (V.size : Int) ≤ (S.size : Int) := by omega
      have hv0 : (0 : Int) ≤ (V.size : Int) := by omega
      go_wp2
      go_roundw
      case rel => exact ⟨k + 1, V, by omega, rfl, by go_num, hVV, hB.out, hQ.out, hR.out, hr'.out⟩
      case measure => simp [intOf]; omega
    · have hkm : k = m := by omega
      have hPS : P = S := by rw [hP.out, hkm, hall.out, hSS.out]
      rw [hPS]
      clear hPS hP hQ hR P
      go_wp2_with fail
      refine (atk_any A' n' c' l' 0 256 _ (by omega) hl' hr'.out).mono ?_
      rintro e w4 ⟨⟨x, rfl, x0, x1⟩, rfl⟩
      go_wp2_with fail
      refine (atk_any A' n' c' l' 1 256 _ (by omega) hl' hr'.out).mono ?_
      rintro e w4 ⟨⟨y, rfl, y0, y1⟩, rfl⟩
      clear hr'
      have hw1 : IntKind.i64.wrap (x + y) = x + y := IntWalk.i64_in _ (by omega)
      obtain ⟨cc, hcc1, hcc2⟩ : ∃ cc : Nat, min (x + y) (S.size : Int) = (cc : Int) ∧ cc ≤ S.size := ⟨(min (x + y) (S.size : Int)).toNat, by omega, by omega⟩
      obtain ⟨k1, k2, k3, k4, k5⟩ := hcut.out cc _ rfl
      have hps := ex_size hcc2
      rw [hps] at k2 k3
      have hex := ex_ex (s := S) k3
      have hks := ex_size (s := S.extract 0 cc) (c := upTo (S.extract 0 cc)) (by rw [hps]; exact k3)
      have hen2 : mEnts ((S.extract 0 cc).extract 0 (upTo (S.extract 0 cc))) = ents ((S.extract 0 cc).extract 0 (upTo (S.extract 0 cc))) := by unfold mEnts; rw [if_pos k4]
      have m1 := congrArg Prod.fst k2
      have m2 := congrArg (fun z => z.2.1) k2
      have m3 := congrArg (fun z => z.2.2) k2
      have n1 := congrArg Prod.fst k1
      have n2 := congrArg Prod.snd k1
      simp only at m1 m2 m3 n1 n2
      obtain ⟨u, hu⟩ : ∃ u, u = upTo (S.extract 0 cc) := ⟨_, rfl⟩
      rw [← hu] at m1 m2 n1 k3 k4 k5 hex hks hen2
      obtain ⟨K, hK⟩ : ∃ K, K = (S.extract 0 cc).extract 0 u := ⟨_, rfl⟩
      rw [← hK] at m1 k4 k5 hex hks hen2
      rw [hlen.out] at k5
      have hm1 := hide m1
      have hm2 := hide m2
      have hm3 := hide m3
      have hn1 := hide n1
      have hn2 := hide n2
      have hk4 := hide k4
      have hen3 := hide hen2
      have hcs : (cc : Int) ≤ (S.size : Int) := by omega
      have hc0 : (0 : Int) ≤ (cc : Int) := by omega
      clear k1 k2 m1 m2 m3 n1 n2 k4 hen2 hu hK hps
      have hex2 := hide hex
      have hks2 := hide hks
      clear hex hks
      go_wp2_with fail
      refine (iRec_any (S.extract 0 cc) _ (hGh.out.below hB.out)).mono ?_
      rw [hm1.out, hm2.out, hm3.out]
      rintro e w2 ⟨rfl, hb⟩
      replace hB := hide (Below.up hB.out hb)
      clear hb
      go_wp2_with fail
      refine (iCheck_any (S.extract 0 cc) _ (hGh.out.below hB.out)).mono ?_
      rw [hn1.out, hn2.out]
      rintro e w3 ⟨rfl, hb⟩
      replace hB := hide (Below.up hB.out hb)
      clear hb hcs
      have hks := hks2.out
      have heq := str_eq hex2.out
      have hle : ¬ (cc : Int) < (u : Int) := by omega
      have hus : (u : Int) ≤ (S.size : Int) := by omega
      have hu0 : (0 : Int) ≤ (u : Int) := by omega
      have hw2 : IntKind.i64.wrap ((cc : Int) - (u : Int)) = (cc : Int) - (u : Int) := IntWalk.i64_in _ (by omega)
      go_wp2_with fail
      refine (sEnts_any K _).mono ?_
      rw [hk4.out, hen3.out]
      rintro e w4 ⟨v4, rfl, hres, hb⟩
      obtain ⟨D, dd, rfl, hdd⟩ := hres.slice
      replace hB := hide (Below.up hB.out hb)
      clear hb hres
      have hk6 : ((ents K).length : Int) ≤ (m : Int) := by omega
      go_wp2
      go_ret
      exact ⟨rfl, hB.out⟩
end Go.Proofs.YtgjhibkljpjdhaaDoor
