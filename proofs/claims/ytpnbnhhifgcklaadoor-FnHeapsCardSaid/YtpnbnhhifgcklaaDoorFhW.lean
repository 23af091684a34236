/- The walk of the law FnHeaps. No statement is proved here. -/
import Derived.Test.YtpnbnhhifgcklaaDoorFhC
namespace Go.Proofs.YtpnbnhhifgcklaaDoor
open Go.ChangeShapes Go.WideShapes Go.ChangeAt Go.RowKit Go.Deep
set_option maxRecDepth 100000
set_option maxHeartbeats 8000000 in
theorem walkHeaps (w : World) (hG : Gl w) (A : Option Addr) (n c : Nat) (l : List Int) (hc : n ≤ c) (hm : c ≤ maxLen) (hq : ∀ x ∈ l, (Lit.int .u8 x).wf = true) (hr : Arr u8c 1 w w.heap.size A n l) (A' : Option Addr) (n' c' : Nat) (l' : List Int) (hc' : n' ≤ c') (hm' : c' ≤ maxLen) (hq' : ∀ x ∈ l', (Lit.int .u8 x).wf = true) (hr' : Arr u8c 1 w w.heap.size A' n' l') :
    Calls Tryd.prog 3 #[.slice A n c, .slice A' n' c'] w fun e w' => e = .returned (.bool true) ∧ Below w.heap.size w w' := by
  have hl := bytes_ok hq
  have hl' := bytes_ok hq'
  have hGh := hide hG
  clear hq hq' hG
  have hB := hide (Below.refl w.heap.size w)
  have hMo := hide hr'
  go_enter Tryd.func3, Tryd.ntmps3
  go_wp2_with fail
  refine (long_any A n c A' n' c' _).mono ?_
  rintro e w1 ⟨rfl, rfl⟩
  cases hbig : (decide (3000 < (n : Int)) || decide (3000 < (n' : Int)))
  case true =>
    go_wp2
    go_ret
    exact ⟨rfl, hB.out⟩
  clear hbig hr'
  go_wp2_with fail
  refine (a2Heaps_any _ A n c l (hr.go hB.out) hl hm hc).mono ?_
  rintro e w1 ⟨g1, d1, q, rfl, hp, hI, hqc, hb⟩
  replace hMo := hide (hMo.out.go hb)
  replace hB := hide (Below.up hB.out hb)
  have hQ := hide hp
  clear hb hp hr hl
  go_wp2_with fail
  refine (a2Heap_any _ A' n' c' l' hMo.out hl' hm' hc').mono ?_
  rintro e w1 ⟨x, rfl, hx, hb⟩
  replace hMo := hide (hMo.out.go hb)
  replace hQ := hide (hQ.out.go hb)
  replace hB := hide (Below.up hB.out hb)
  clear hb
  have hJ := hI.step hx
  have hfq := hI.fits
  have hfx := Heap.drawn_fits hx
  have hokq := hI.ok20 (by omega)
  have hokp := hJ.ok20 (by omega)
  have hokx := Heap.drawn_ok hx
  have hql : q.length ≤ 7 := hI.len
  have hfp := hJ.fits
  have hsum := hSum_put q x
  obtain ⟨p, hp⟩ : ∃ p, p = hPut q x := ⟨_, rfl⟩
  have hpc : mPutC q x = 0 := by unfold mPutC; rw [if_pos hokq, if_pos hokx, if_pos hokp]
  have hpl : mPutL q x = p := by unfold mPutL; rw [if_pos hpc, hp]
  rw [← hp] at hJ hfp hokp hsum
  have hJh := hide hJ
  have hXh := hide hx
  have hisn := (Heap.ok_iff.1 hokx).1
  have hbx := hx.2.2
  obtain ⟨hrb, hrb2⟩ := read_back hokx
  obtain ⟨m, hm1⟩ : ∃ m, m = q.length := ⟨_, rfl⟩
  obtain ⟨np, hnp⟩ : ∃ np, np = p.length := ⟨_, rfl⟩
  have hpl8 : np ≤ 8 := by have := hJ.len; omega
  have hNP := hide hnp
  rw [← hm1] at hql hQ ⊢
  obtain ⟨hq0, hq1⟩ := hSum_bound hokq x.fSort
  obtain ⟨hp0, hp1⟩ := hSum_bound hokp x.fSort
  replace hp1 : hSum p x.fSort ≤ 2000 := hSum_drawn hJ
  obtain ⟨S, hS⟩ : ∃ S, S = hSum q x.fSort := ⟨_, rfl⟩
  obtain ⟨P, hP⟩ : ∃ P, P = hSum p x.fSort := ⟨_, rfl⟩
  rw [← hS] at hsum hq0 hq1
  rw [← hP] at hsum hp0 hp1
  have hsumh := hide hsum
  have hP1 : 1 ≤ P := by omega
  clear hsum
  have hSe := hide hS
  have hPe := hide hP
  have hpc' := hide hpc
  have hpl' := hide hpl
  have hok1 := hide hokq
  have hok2 := hide hokp
  have hok3 := hide hokx
  have hrd1 := hide hrb
  have hrd2 := hide hrb2
  clear hI hJ hx hp hpc hpl hm1 hnp hS hP hokq hokp hokx hrb hrb2
  have hX := hide (heap_alloc_new w1 (.cells #[.string x.fSort, .int .i64 x.fYear, .int .i64 x.fBundles] 27 (0, 0)))
  have hB1 := hide (hB.out.alloc hB.out.size (.cells #[.string x.fSort, .int .i64 x.fYear, .int .i64 x.fBundles] 27 (0, 0)))
  have hb := (Below.refl w1.heap.size w1).alloc (Nat.le_refl _) (.cells #[.string x.fSort, .int .i64 x.fYear, .int .i64 x.fBundles] 27 (0, 0))
  replace hMo := hide (hMo.out.go hb)
  replace hQ := hide (hQ.out.go hb)
  replace hB := hB1
  clear hB1 hb
  go_upto_region 5 with fail
  obtain ⟨r, hrr⟩ : ∃ r, r = w1.heap.size := ⟨_, rfl⟩
  obtain ⟨W0, hW0⟩ : ∃ W0, W0 = w1.alloc (.cells #[.string x.fSort, .int .i64 x.fYear, .int .i64 x.fBundles] 27 (0, 0)) := ⟨_, rfl⟩
  rw [← hW0] at hX hB hMo hQ ⊢
  rw [← hrr] at hX ⊢
  clear hrr hW0
  obtain ⟨x0, x1, x2, xf⟩ := row3 hX.out
  go_wp2_with fail
  refine (iPutH_any _ m d1 q _ (by omega) hfq hQ.out x hfx).mono ?_
  rw [hpc'.out, hpl'.out, ← hNP.out]
  rintro e w1 ⟨v, rfl, hv, hb⟩
  clear x0 x1 x2 xf
  obtain ⟨Ap, cp, rfl, _⟩ := hv.slice
  have hPp := hide (hv.arr Heap.len)
  clear hv
  replace hMo := hide (hMo.out.go hb)
  replace hQ := hide (hQ.out.go hb)
  replace hX := hide (keepb hX.out hb)
  replace hB := hide (Below.up hB.out hb)
  clear hb
  obtain ⟨x0, x1, x2, xf⟩ := row3 hX.out
  go_wp2_with fail
  refine (sBundlesOf_any _ m d1 q x.fSort _ (by omega) hfq hok1.out hfx hisn hQ.out).mono ?_
  rw [← hSe.out]
  rintro e w1 ⟨rfl, hb⟩
  clear x0 x1 x2 xf
  replace hMo := hide (hMo.out.go hb)
  replace hQ := hide (hQ.out.go hb)
  replace hPp := hide (hPp.out.go hb)
  replace hX := hide (keepb hX.out hb)
  replace hB := hide (Below.up hB.out hb)
  clear hb
  obtain ⟨x0, x1, x2, xf⟩ := row3 hX.out
  go_wp2_with fail
  refine (iBundlesOf_any _ m d1 q x.fSort _ (by omega) hfq hok1.out hfx hisn hQ.out).mono ?_
  rw [← hSe.out]
  rintro e w1 ⟨rfl, hb⟩
  clear x0 x1 x2 xf
  replace hMo := hide (hMo.out.go hb)
  replace hQ := hide (hQ.out.go hb)
  replace hPp := hide (hPp.out.go hb)
  replace hX := hide (keepb hX.out hb)
  replace hB := hide (Below.up hB.out hb)
  clear hb
  obtain ⟨x0, x1, x2, xf⟩ := row3 hX.out
  go_wp2_with fail
  refine (iBundlesOf_any Ap np cp p x.fSort _ (by omega) hfp hok2.out hfx hisn hPp.out).mono ?_
  rw [← hPe.out]
  rintro e w1 ⟨rfl, hb⟩
  clear x0 x1 x2 xf
  replace hMo := hide (hMo.out.go hb)
  replace hQ := hide (hQ.out.go hb)
  replace hPp := hide (hPp.out.go hb)
  replace hX := hide (keepb hX.out hb)
  replace hB := hide (Below.up hB.out hb)
  clear hb
  obtain ⟨x0, x1, x2, xf⟩ := row3 hX.out
  go_wp2_with fail
  refine (iHeapT_any x _ hfx (hGh.out.below hB.out)).mono ?_
  rw [show mHeapT x = heapB x from if_pos hok3.out]
  rintro e w1 ⟨rfl, hb⟩
  clear x0 x1 x2 xf
  replace hMo := hide (hMo.out.go hb)
  replace hQ := hide (hQ.out.go hb)
  replace hPp := hide (hPp.out.go hb)
  replace hX := hide (keepb hX.out hb)
  replace hB := hide (Below.up hB.out hb)
  clear hb
  go_wp2_with fail
  refine (iRh_any (heapB x) _ (heapB_size hok3.out) (hGh.out.below hB.out)).mono ?_
  rw [hrd1.out, hrd2.out]
  rintro e w1 ⟨rfl, hb⟩
  replace hMo := hide (hMo.out.go hb)
  replace hQ := hide (hQ.out.go hb)
  replace hPp := hide (hPp.out.go hb)
  replace hX := hide (keepb hX.out hb)
  replace hB := hide (Below.up hB.out hb)
  clear hb
  obtain ⟨wo, hwo⟩ : ∃ wo, wo = w1 := ⟨_, rfl⟩
  have hY := hide (heap_alloc_new w1 (.cells #[.string x.fSort, .int .i64 x.fYear, .int .i64 x.fBundles] 27 (0, 0)))
  have hb := (Below.refl w1.heap.size w1).alloc (Nat.le_refl _) (.cells #[.string x.fSort, .int .i64 x.fYear, .int .i64 x.fBundles] 27 (0, 0))
  clear hwo wo
  replace hMo := hide (hMo.out.go hb)
  replace hQ := hide (hQ.out.go hb)
  replace hPp := hide (hPp.out.go hb)
  replace hX := hide (keepb hX.out hb)
  replace hB := hide (Below.up hB.out hb)
  clear hb
  have hxy := neqHeap x
  have hwS : IntKind.i64.wrap (S + x.fBundles) = P := by rw [← hsumh.out]; exact IntWalk.i64_in _ (by omega)
  go_upto_region 10 with fail
  obtain ⟨r2, hrr⟩ : ∃ r2, r2 = w1.heap.size := ⟨_, rfl⟩
  obtain ⟨W1, hW1⟩ : ∃ W1, W1 = w1.alloc (.cells #[.string x.fSort, .int .i64 x.fYear, .int .i64 x.fBundles] 27 (0, 0)) := ⟨_, rfl⟩
  rw [← hW1] at hX hY hB hMo hQ hPp ⊢
  rw [← hrr] at hY ⊢
  clear hrr hW1
  obtain ⟨x0, x1, x2, xf⟩ := row3 hX.out
  obtain ⟨y0, y1, y2, yf⟩ := row3 hY.out
  go_wp2_with fail
  refine (sValidHeaps_any Ap np cp p _ (by omega) hfp hPp.out).mono ?_
  rw [hok2.out]
  rintro e w1 ⟨rfl, hb⟩
  clear x0 x1 x2 xf
  clear y0 y1 y2 yf
  replace hMo := hide (hMo.out.go hb)
  replace hQ := hide (hQ.out.go hb)
  replace hPp := hide (hPp.out.go hb)
  replace hX := hide (keepb hX.out hb)
  replace hY := hide (keepb hY.out hb)
  replace hB := hide (Below.up hB.out hb)
  clear hb
  obtain ⟨x0, x1, x2, xf⟩ := row3 hX.out
  obtain ⟨y0, y1, y2, yf⟩ := row3 hY.out
  have hw2 : IntKind.i64.wrap (P + 2) = P + 2 := IntWalk.i64_in _ (by omega)
  go_wp2_with fail
  refine (atk_any A' n' c' l' 3 (P + 2) _ (by omega) hl' hMo.out).mono ?_
  rintro e w1 ⟨⟨z, rfl, hz0, hz1⟩, rfl⟩
  clear x0 x1 x2 xf
  clear y0 y1 y2 yf
  clear hxy hwS hY hQ
  obtain ⟨Z, hZ⟩ : ∃ Z, Z = 1 + z := ⟨_, rfl⟩
  have hwZ : IntKind.i64.wrap (1 + z) = Z := by rw [hZ]; exact IntWalk.i64_in _ (by omega)
  have hZ1 : 1 ≤ Z ∧ Z ≤ 20002 := by omega
  have hZP : Z ≤ P + 2 := by omega
  clear hZ hz0 hz1 hw2 hMo
  obtain ⟨tp1, tp2⟩ := take_plain (l := p) (s := x.fSort) (b := Z) hJh.out (by omega) hisn ⟨by omega, by omega⟩ (by rw [← hPe.out]; exact hP1)
  rw [← hPe.out] at tp1 tp2
  have tk1 := hide tp1
  have tk2 := hide tp2
  clear tp1 tp2
  obtain ⟨x0, x1, x2, xf⟩ := row3 hX.out
  clear xf
  by_cases hlt : P < Z
  · have hc5 := hide (tk1.out hlt)
    have hgt : decide (P < Z) = true := decide_eq_true hlt
    clear tk1 tk2
    go_wp2_with fail
    refine (iTake_any Ap np cp p x.fSort Z _ (by omega) hfp hfx hPp.out).mono ?_
    rw [hc5.out]
    rintro e w1 ⟨v, v2, rfl, hv, hv2, _, hb⟩
    clear hv hv2
    replace hB := hide (Below.up hB.out hb)
    clear hb x0 x1 x2
    go_wp2
    go_ret
    exact ⟨rfl, hB.out⟩
  have hgt : decide (P < Z) = false := decide_eq_false hlt
  obtain ⟨hc0, hLok, hTok, hLs, hTs, hTb, hT0, hTr, hz, hnz⟩ := tk2.out hlt
  clear tk1 tk2
  obtain ⟨L, hL⟩ : ∃ L, L = mTkL p x.fSort Z := ⟨_, rfl⟩
  obtain ⟨T, hT⟩ : ∃ T, T = mTkT p x.fSort Z := ⟨_, rfl⟩
  rw [← hL] at hLok hLs hz hnz
  rw [← hT] at hTok hTs hTb hT0 hTr hnz
  have hLf := heapsOk_fits hLok
  have hTf := heapsOk_fits hTok
  have hTl := heapsOk_len hTok
  have hLl := heapsOk_len hLok
  obtain ⟨nl, hnl⟩ : ∃ nl, nl = L.length := ⟨_, rfl⟩
  obtain ⟨nt, hnt⟩ : ∃ nt, nt = T.length := ⟨_, rfl⟩
  rw [← hnl] at hLl
  rw [← hnt] at hTl hT0
  have hc0h := hide hc0
  have hLh := hide hL
  have hTh := hide hT
  have hnlh := hide hnl
  have hnth := hide hnt
  have hLokh := hide hLok
  have hTokh := hide hTok
  have hLsh := hide hLs
  have hTsh := hide hTs
  have hTbh := hide hTb
  have hzh := hide hz
  have hnzh := hide hnz
  have hTrh := hide hTr
  clear hc0 hL hT hnl hnt hLok hTok hLs hTs hTb hz hnz hTr
  go_wp2_with fail
  refine (iTake_any Ap np cp p x.fSort Z _ (by omega) hfp hfx hPp.out).mono ?_
  rw [hc0h.out, ← hLh.out, ← hTh.out, ← hnlh.out, ← hnth.out]
  rintro e w1 ⟨v, v2, rfl, hv, hv2, _, hb⟩
  obtain ⟨AL, cL, rfl, _⟩ := hv.slice
  obtain ⟨AT, cT, rfl, _⟩ := hv2.slice
  have hLp := hide (hv.arr Heap.len)
  have hTp := hide (hv2.arr Heap.len)
  clear hv hv2 x0 x1 x2 hPp
  replace hX := hide (keepb hX.out hb)
  replace hB := hide (Below.up hB.out hb)
  clear hb
  obtain ⟨x0, x1, x2, xf⟩ := row3 hX.out
  clear xf
  go_wp2_with fail
  refine (iBundlesOf_any AL nl cL L x.fSort _ (by omega) hLf hLokh.out hfx hisn hLp.out).mono ?_
  rw [hLsh.out]
  rintro e w1 ⟨rfl, hb⟩
  clear x0 x1 x2
  replace hLp := hide (hLp.out.go hb)
  replace hTp := hide (hTp.out.go hb)
  replace hX := hide (keepb hX.out hb)
  replace hB := hide (Below.up hB.out hb)
  clear hb
  go_wp2_with fail
  refine (sValidHeaps_any AL nl cL L _ (by omega) hLf hLp.out).mono ?_
  rw [hLokh.out]
  rintro e w1 ⟨rfl, hb⟩
  replace hLp := hide (hLp.out.go hb)
  replace hTp := hide (hTp.out.go hb)
  replace hX := hide (keepb hX.out hb)
  replace hB := hide (Below.up hB.out hb)
  clear hb
  go_wp2_with fail
  refine (sValidHeaps_any AT nt cT T _ (by omega) hTf hTp.out).mono ?_
  rw [hTokh.out]
  rintro e w1 ⟨rfl, hb⟩
  replace hLp := hide (hLp.out.go hb)
  replace hTp := hide (hTp.out.go hb)
  replace hX := hide (keepb hX.out hb)
  replace hB := hide (Below.up hB.out hb)
  clear hb
  obtain ⟨D, hD⟩ : ∃ D, D = P - Z := ⟨_, rfl⟩
  have hwd : IntKind.i64.wrap (P - Z) = D := by rw [hD]; exact IntWalk.i64_in _ (by omega)
  rw [← hD] at hzh hnzh ⊢
  have hDh := hide hD
  clear hD hgt
  go_wp2
  clear hwd
  go_loopw [23, 24] (fun q i wr => ∃ k : Nat, k ≤ nt ∧ q = .int .i64 (sumOf bunF (T.take k)) ∧ i = .int .i64 k ∧ Below w.heap.size w wr ∧ Arr Heap.cells 3 wr wr.heap.size AL nl L ∧ Arr Heap.cells 3 wr wr.heap.size AT nt T ∧ wr.heap[r]? = some (.cells #[.string x.fSort, .int .i64 x.fYear, .int .i64 x.fBundles] 27 (0, 0))) (fun _ i _ => nt - (intOf i).toNat)
  case atStart => exact ⟨0, Nat.zero_le _, rfl, rfl, hB.out, hLp.out, hTp.out, hX.out⟩
  case round =>
    obtain ⟨k, hk, rfl, rfl, hb, h1, h2, h3⟩ := hrel
    replace hB := hide hb
    replace hLp := hide h1
    replace hTp := hide h2
    replace hX := hide h3
    clear hb h1 h2 h3
    by_cases hlt2 : k < nt
    · obtain ⟨b, o, y, hAa, hbl, hy, c0, c1, c2⟩ := hTp.out.Heap hlt2
      subst hAa
      have i1 : (k : Int) < (nt : Int) := by omega
      have i0 : (0 : Int) ≤ (k : Int) := by omega
      have hys := hTsh.out y (List.mem_of_getElem? hy)
      have hyr := hTrh.out y (List.mem_of_getElem? hy)
      have hsb := bun_take_bound hTrh.out (by rw [← hnth.out]; exact hTl) k
      have hst : Hid (sumOf bunF (T.take k) + y.fBundles = sumOf bunF (T.take (k + 1))) := hide (by rw [sumOf_snoc hy]; rfl)
      obtain ⟨s, hs⟩ : ∃ s, s = sumOf bunF (T.take k) := ⟨_, rfl⟩
      rw [← hs] at hst hsb ⊢
      have hw : IntKind.i64.wrap (s + y.fBundles) = s + y.fBundles := IntWalk.i64_in _ (by omega)
      clear hs hy
      obtain ⟨x0, x1, x2, xf⟩ := row3 hX.out
      have e1 := str_eq hys
      clear hys xf
      go_upto_region 23 with fail
      go_quiet (fail)
      go_wp2
      go_roundw
      case rel => exact ⟨k + 1, by omega, by rw [hst.out], by go_num, below_drewN hB.out _, hLp.out.go (below_drewN (Below.refl wr.heap.size wr) _), hTp.out.go (below_drewN (Below.refl wr.heap.size wr) _), keepb hX.out (below_drewN (Below.refl wr.heap.size wr) _)⟩
      case measure => simp [intOf]; omega
    · have hlt3 : ¬ (k : Int) < (nt : Int) := by omega
      have hsz : sumOf bunF (T.take k) = Z := by rw [List.take_of_length_le (by rw [← hnth.out]; omega), hTbh.out]
      rw [hsz]
      clear hsz
      have hn0 : ((nt : Int) == 0) = false := by rw [Bool.eq_false_iff]; intro h; rw [beq_iff_eq] at h; omega
      obtain ⟨x0, x1, x2, xf⟩ := row3 hX.out
      clear xf
      by_cases hD0 : D = 0
      · have ho := hide (hzh.out hD0)
        have hD2 : (D == 0) = true := by rw [hD0]; rfl
        go_wp2_with fail
        refine (iOldest_any AL nl cL L x.fSort _ (by omega) hLf hLokh.out hfx hisn hLp.out).mono ?_
        rintro e w1 ⟨h | ⟨y, hy, _⟩, hb⟩
        rotate_left
        · rw [ho.out] at hy; cases hy
        obtain ⟨_, rfl⟩ := h
        replace hB := hide (Below.up hB.out hb)
        clear hb
        go_wp2
        go_ret
        exact ⟨rfl, hB.out⟩
      · obtain ⟨yo, hyo, hyt⟩ := hnzh.out hD0
        have ho := hide hyo
        have hD2 : (D == 0) = false := by rw [Bool.eq_false_iff]; intro h; rw [beq_iff_eq] at h; exact hD0 h
        have hyth := hide hyt
        clear hyo hyt
        go_wp2_with fail
        refine (iOldest_any AL nl cL L x.fSort _ (by omega) hLf hLokh.out hfx hisn hLp.out).mono ?_
        rintro e w1 ⟨⟨h, _⟩ | ⟨y, hy, rfl⟩, hb⟩
        · rw [ho.out] at h; cases h
        rw [ho.out] at hy
        cases hy
        clear x0 x1 x2
        replace hTp := hide (hTp.out.go hb)
        replace hB := hide (Below.up hB.out hb)
        clear hb
        obtain ⟨b, o, u, hAa, hbl, hu, c0, c1, c2⟩ := hTp.out.Heap (k := nt - 1) (by omega)
        subst hAa
        have hle : decide (u.fYear ≤ yo.fYear) = true := decide_eq_true (hyth.out u (List.mem_of_getElem? hu))
        clear hu
        obtain ⟨kl, hkl⟩ : ∃ kl, nt = kl + 1 := ⟨nt - 1, by omega⟩
        rw [show nt - 1 = kl by omega] at c0 c1 c2
        have hwn : IntKind.i64.wrap ((nt : Int) - 1) = (kl : Int) := by rw [hkl]; rw [IntWalk.i64_in _ (by omega)]; omega
        have j0 : (0 : Int) ≤ (kl : Int) := by omega
        have j1 : (kl : Int) < (nt : Int) := by omega
        clear hkl
        go_wp2
        go_ret
        exact ⟨rfl, hB.out⟩
end Go.Proofs.YtpnbnhhifgcklaaDoor
