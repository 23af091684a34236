/- The walk of the law FnHeapSums. -/
import Derived.Test.YtpmldpegjnpoaaaHpP
namespace Go.Proofs.Ytpmldpegjnpoaaa
open Go.ChangeShapes Go.WideShapes Go.ChangeAt Go.RowKit Go.Deep
set_option maxRecDepth 100000
theorem asc_at {S : List ByteArray} (h : Asc S) {k : Nat} {a b : ByteArray} (ha : S[k]? = some a) (hb : S[k + 1]? = some b) : Op.bytesLess a.toList b.toList = true := by
  have h1 := lt_of_get ha
  have h2 := lt_of_get hb
  have := (List.pairwise_iff_getElem.1 h) k (k + 1) h1 h2 (by omega)
  rw [List.getElem?_eq_getElem h1] at ha
  rw [List.getElem?_eq_getElem h2] at hb
  rw [Option.some.inj ha, Option.some.inj hb] at this
  exact this
set_option maxHeartbeats 8000000 in
theorem walkHeapSums (w : World) (A : Option Addr) (n c : Nat) (l : List Int) (hc : n ≤ c) (hm : c ≤ maxLen) (hq : ∀ x ∈ l, (Lit.int .u8 x).wf = true) (hr : Arr u8c 1 w w.heap.size A n l)
    (A' : Option Addr) (n' c' : Nat) (l' : List Int) (hc' : n' ≤ c') (hm' : c' ≤ maxLen) (hq' : ∀ x ∈ l', (Lit.int .u8 x).wf = true) (hr' : Arr u8c 1 w w.heap.size A' n' l') :
    Calls Try.prog 5 #[.slice A n c, .slice A' n' c'] w fun e w' => e = .returned (.bool true) ∧ Below w.heap.size w w' := by
  have hl := bytes_ok hq
  have hl' := bytes_ok hq'
  clear hq hq'
  have hB := hide (Below.refl w.heap.size w)
  go_enter Try.func5, Try.ntmps5
  go_wp2_with fail
  refine (long_any A n c A' n' c' _).mono ?_
  rintro e w1 ⟨rfl, rfl⟩
  cases hbig : (decide (3000 < (n : Int)) || decide (3000 < (n' : Int)))
  case true =>
    go_wp2
    go_ret
    exact ⟨rfl, hB.out⟩
  clear hbig
  go_wp2_with fail
  refine (a2Heaps_any _ A n c l (hr.go hB.out) hl hm hc).mono ?_
  rintro e w1 ⟨g1, d1, q1, rfl, hp, hI1, hqc1, hb⟩
  have hP := hide hp
  replace hB := hide (Below.up hB.out hb)
  clear hb hp
  go_wp2_with fail
  refine (a2Heaps_any _ A' n' c' l' (hr'.go hB.out) hl' hm' hc').mono ?_
  rintro e w1 ⟨g2, d2, q2, rfl, hp, hI2, hqc2, hb⟩
  have hS := hide hp
  replace hP := hide (hP.out.go hb)
  replace hB := hide (Below.up hB.out hb)
  clear hb hp
  go_wp2_with fail
  refine (at_any A' n' c' l' 8 _ (by omega) hl' (hr'.go hB.out)).mono ?_
  rintro e w1 ⟨⟨y0, rfl, hy0, hy1⟩, rfl⟩
  have hwy : IntKind.i64.wrap (1897 + y0) = 1897 + y0 := IntWalk.i64_in _ (by omega)
  obtain ⟨K, dN, hK, hKN, hKC, hKok, hKf, hKy, hKb, hKl, hKs, hd0, hd1, hKd⟩ := kept_facts hI1 (y := 1897 + y0) (by omega)
  obtain ⟨S, hSe, hSC, hSl, hSa, hSm⟩ := sorts_facts hI1
  obtain ⟨hJC1, hJ1⟩ := join_facts hI1 hI2
  obtain ⟨hJC2, hJ2⟩ := join_facts hI2 hI1
  rw [← join_comm hI1 hI2] at hJ2
  have hJd := join_drawn hI1 hI2
  have hJs := bun_join_all q1 q2
  have hJb : ∀ z ∈ joinAll q1 q2, 0 ≤ z.fBundles ∧ z.fBundles ≤ 1000 := fun z hz => by have := (heapsOk_at hJd.ok hz).2; omega
  have hJl := heapsOk_len hJd.ok
  obtain ⟨J, hJ⟩ : ∃ J, J = joinAll q1 q2 := ⟨_, rfl⟩
  rw [← hJ] at hJ1 hJ2 hJd hJs hJb hJl
  have hlen1 := hI1.len
  have hlen2 := hI2.len
  have hf1 := hI1.fits
  have hf2 := hI2.fits
  have hb1 : ∀ z ∈ q1, 0 ≤ z.fBundles ∧ z.fBundles ≤ 1000 := fun z hz => by have := hI1.bun z hz; omega
  have hb2 : ∀ z ∈ q2, 0 ≤ z.fBundles ∧ z.fBundles ≤ 1000 := fun z hz => by have := hI2.bun z hz; omega
  have hKy' := hide hKy
  have hKd' := hide hKd
  have hSa' := hide hSa
  have hSm' := hide hSm
  clear hJ hKy hKd hSa hSm hI1 hI2
  obtain ⟨m1, hm1⟩ : ∃ m1, m1 = q1.length := ⟨_, rfl⟩
  obtain ⟨m2, hm2⟩ : ∃ m2, m2 = q2.length := ⟨_, rfl⟩
  obtain ⟨mk, hmk⟩ : ∃ mk, mk = K.length := ⟨_, rfl⟩
  obtain ⟨mj, hmj⟩ : ∃ mj, mj = J.length := ⟨_, rfl⟩
  obtain ⟨ms, hms⟩ : ∃ ms, ms = S.length := ⟨_, rfl⟩
  rw [← hm1] at hP hlen1 hSl ⊢
  rw [← hm2] at hS hlen2 ⊢
  have hM1 := hide hm1
  have hM2 := hide hm2
  have hMj := hide hmj
  have hMk := hide hmk
  have hMs := hide hms
  rw [← hms] at hSl
  have hkl7 : mk ≤ 7 := by rw [hmk]; exact hKl
  have hjl20 : mj ≤ 20 := by rw [hmj]; exact hJl
  clear hm1 hm2 hmk hmj hms
  go_wp2_with fail
  refine (iDrop_any _ m1 d1 q1 (1897 + y0) _ (by omega) hf1 hP.out).mono ?_
  rw [hKN, hKC, hK, ← hMk.out]
  rintro e w1 ⟨v, rfl, hv, hb⟩
  obtain ⟨AK, cK, rfl, _⟩ := hv.slice
  have hKp := hide (hv.arr Heap.len)
  clear hv
  replace hP := hide (hP.out.go hb)
  replace hS := hide (hS.out.go hb)
  replace hB := hide (Below.up hB.out hb)
  clear hb
  go_wp2_with fail
  refine (iJoin_any _ m1 d1 q1 _ (by omega) hf1 hP.out _ m2 d2 q2 (by omega) hf2 hS.out).mono ?_
  rw [hJC1, hJ1, ← hMj.out]
  rintro e w1 ⟨v, rfl, hv, hb⟩
  obtain ⟨AJ, cJ, rfl, _⟩ := hv.slice
  have hJp := hide (hv.arr Heap.len)
  clear hv
  replace hP := hide (hP.out.go hb)
  replace hS := hide (hS.out.go hb)
  replace hKp := hide (hKp.out.go hb)
  replace hB := hide (Below.up hB.out hb)
  clear hb
  go_wp2_with fail
  refine (iJoin_any _ m2 d2 q2 _ (by omega) hf2 hS.out _ m1 d1 q1 (by omega) hf1 hP.out).mono ?_
  rw [hJC2, hJ2, ← hMj.out]
  rintro e w1 ⟨v, rfl, hv, hb⟩
  obtain ⟨AI, cI, rfl, _⟩ := hv.slice
  have hIp := hide (hv.arr Heap.len)
  clear hv
  replace hP := hide (hP.out.go hb)
  replace hS := hide (hS.out.go hb)
  replace hKp := hide (hKp.out.go hb)
  replace hJp := hide (hJp.out.go hb)
  replace hB := hide (Below.up hB.out hb)
  clear hb
  go_wp2_with fail
  refine (iSorts_any _ m1 d1 q1 _ (by omega) hf1 hP.out).mono ?_
  rw [hSC, hSe, ← hMs.out]
  rintro e w1 ⟨v, rfl, hv, hb⟩
  obtain ⟨AS, cS, rfl, _⟩ := hv.slice
  have hSp := hide (hv.arr strc_len)
  clear hv
  replace hP := hide (hP.out.go hb)
  replace hS := hide (hS.out.go hb)
  replace hKp := hide (hKp.out.go hb)
  replace hJp := hide (hJp.out.go hb)
  replace hIp := hide (hIp.out.go hb)
  replace hB := hide (Below.up hB.out hb)
  clear hb
  have hng : decide ((m1 : Int) < (ms : Int)) = false := decide_eq_false (by omega)
  clear hK hKN hKC hJC1 hJ1 hJC2 hJ2 hSC hSe
  go_wp2_with fail
  refine (sValidHeaps_any AK mk cK K _ (by omega) hKf hKp.out).mono ?_
  rw [hKok]
  rintro e w1 ⟨rfl, hb⟩
  replace hP := hide (hP.out.go hb)
  replace hS := hide (hS.out.go hb)
  replace hKp := hide (hKp.out.go hb)
  replace hJp := hide (hJp.out.go hb)
  replace hIp := hide (hIp.out.go hb)
  replace hSp := hide (hSp.out.go hb)
  replace hB := hide (Below.up hB.out hb)
  clear hb
  go_wp2_with fail
  refine (sValidHeaps_any AJ mj cJ J _ (by omega) hJd.fit hJp.out).mono ?_
  rw [hJd.ok]
  rintro e w1 ⟨rfl, hb⟩
  replace hP := hide (hP.out.go hb)
  replace hS := hide (hS.out.go hb)
  replace hKp := hide (hKp.out.go hb)
  replace hJp := hide (hJp.out.go hb)
  replace hIp := hide (hIp.out.go hb)
  replace hSp := hide (hSp.out.go hb)
  replace hB := hide (Below.up hB.out hb)
  clear hb
  go_wp2_with fail
  refine (sSame_any AJ mj cJ J AI mj cI J _ (by omega) (by omega) hJd.fit hJd.fit hJp.out hIp.out).mono ?_
  rw [decide_eq_true rfl]
  rintro e w1 ⟨rfl, hb⟩
  replace hP := hide (hP.out.go hb)
  replace hS := hide (hS.out.go hb)
  replace hKp := hide (hKp.out.go hb)
  replace hJp := hide (hJp.out.go hb)
  replace hIp := hide (hIp.out.go hb)
  replace hSp := hide (hSp.out.go hb)
  replace hB := hide (Below.up hB.out hb)
  clear hb
  clear hIp
  have hbk := bun_sum hKb (by omega) K.length
  have hbl := bun_sum hb1 (by rw [← hM1.out]; omega) q1.length
  have hbj := bun_sum hJb hJl J.length
  rw [List.take_length] at hbk hbl hbj
  obtain ⟨sK, hsK⟩ : ∃ s, sumOf bunF K = s := ⟨_, rfl⟩
  obtain ⟨sL, hsL⟩ : ∃ s, sumOf bunF q1 = s := ⟨_, rfl⟩
  obtain ⟨sO, hsO⟩ : ∃ s, sumOf bunF q2 = s := ⟨_, rfl⟩
  obtain ⟨sJ, hsJ⟩ : ∃ s, sumOf bunF J = s := ⟨_, rfl⟩
  rw [hsK] at hKs hbk
  rw [hsL] at hKs hbl hJs
  rw [hsO] at hJs
  rw [hsJ] at hJs hbj
  go_wp2_with fail
  refine (bundles_any AK mk cK K _ hKb (by omega) hKp.out).mono ?_
  rw [hsK]
  rintro e w1 ⟨rfl, hb⟩
  replace hP := hide (hP.out.go hb)
  replace hS := hide (hS.out.go hb)
  replace hKp := hide (hKp.out.go hb)
  replace hJp := hide (hJp.out.go hb)
  replace hSp := hide (hSp.out.go hb)
  replace hB := hide (Below.up hB.out hb)
  clear hb
  have hw2 : IntKind.i64.wrap (sK + dN) = sL := by rw [hKs]; exact IntWalk.i64_in _ (by omega)
  go_wp2_with fail
  refine (bundles_any _ m1 d1 q1 _ hb1 (by rw [← hM1.out]; omega) hP.out).mono ?_
  rw [hsL]
  rintro e w1 ⟨rfl, hb⟩
  replace hP := hide (hP.out.go hb)
  replace hS := hide (hS.out.go hb)
  replace hKp := hide (hKp.out.go hb)
  replace hJp := hide (hJp.out.go hb)
  replace hSp := hide (hSp.out.go hb)
  replace hB := hide (Below.up hB.out hb)
  clear hb
  go_wp2_with fail
  refine (bundles_any AJ mj cJ J _ hJb hJl hJp.out).mono ?_
  rw [hsJ]
  rintro e w1 ⟨rfl, hb⟩
  replace hP := hide (hP.out.go hb)
  replace hS := hide (hS.out.go hb)
  replace hKp := hide (hKp.out.go hb)
  replace hJp := hide (hJp.out.go hb)
  replace hSp := hide (hSp.out.go hb)
  replace hB := hide (Below.up hB.out hb)
  clear hb
  go_wp2_with fail
  refine (bundles_any _ m1 d1 q1 _ hb1 (by rw [← hM1.out]; omega) hP.out).mono ?_
  rw [hsL]
  rintro e w1 ⟨rfl, hb⟩
  replace hP := hide (hP.out.go hb)
  replace hS := hide (hS.out.go hb)
  replace hKp := hide (hKp.out.go hb)
  replace hJp := hide (hJp.out.go hb)
  replace hSp := hide (hSp.out.go hb)
  replace hB := hide (Below.up hB.out hb)
  clear hb
  go_wp2_with fail
  refine (bundles_any _ m2 d2 q2 _ hb2 (by rw [← hM2.out]; omega) hS.out).mono ?_
  rw [hsO]
  rintro e w1 ⟨rfl, hb⟩
  replace hP := hide (hP.out.go hb)
  replace hS := hide (hS.out.go hb)
  replace hKp := hide (hKp.out.go hb)
  replace hJp := hide (hJp.out.go hb)
  replace hSp := hide (hSp.out.go hb)
  replace hB := hide (Below.up hB.out hb)
  clear hb
  have hw3 : IntKind.i64.wrap (sL + sO) = sJ := by rw [← hJs]; exact IntWalk.i64_in _ (by omega)
  clear hS hJp
  have hcnt : Hid (mk = (keptTo q1 (1897 + y0) m1).length) := hide (by rw [hMk.out, hKd'.out, hM1.out])
  go_wp2
  obtain ⟨Y, hY⟩ : ∃ Y, Y = 1897 + y0 := ⟨_, rfl⟩
  rw [← hY] at hKy' hcnt ⊢
  clear hY hwy hw2 hw3 hKd' hKs hJs hsK hsL hsO hsJ hng
  obtain ⟨wo, hwo⟩ : ∃ wo : World, wo = w1 := ⟨_, rfl⟩
  rw [← hwo] at hP hKp hSp hB ⊢
  clear hwo
  go_loopw [17] (fun i wr => ∃ j : Nat, j ≤ mk ∧ i = .int .i64 j ∧ Below w.heap.size w wr ∧ Arr Heap.cells 3 wr wr.heap.size (some ⟨g1, 0, none⟩) m1 q1 ∧ Arr Heap.cells 3 wr wr.heap.size AK mk K ∧ Arr strc 1 wr wr.heap.size AS ms S) (fun i _ => mk - (intOf i).toNat)
  case atStart => exact ⟨0, Nat.zero_le _, rfl, hB.out, hP.out, hKp.out, hSp.out⟩
  case round =>
    obtain ⟨j, hj, rfl, hb, hp, hkp, hsp⟩ := hrel
    replace hB := hide hb
    replace hP := hide hp
    replace hKp := hide hkp
    replace hSp := hide hsp
    clear hb hp hsp
    by_cases hlt : j < mk
    · have hlt' : (j : Int) < (mk : Int) := by omega
      have hj0 : (0 : Int) ≤ (j : Int) := by omega
      obtain ⟨b, o, z, rfl, _, hz, c0, c1, c2⟩ := hkp.Heap hlt
      have hzy : decide (z.fYear < Y) = false := decide_eq_false (by have := hKy'.out z (List.mem_of_getElem? hz); omega)
      clear hz hkp c0 c2
      go_wp2
      go_roundw
      case rel => exact ⟨j + 1, by omega, by go_num, hB.out, hP.out, hKp.out, hSp.out⟩
      case measure => simp [intOf]; omega
    · have hjk : ¬ (j : Int) < (mk : Int) := by omega
      clear hkp hKp
      go_wp2
      obtain ⟨wo, hwo⟩ : ∃ wo : World, wo = wr := ⟨_, rfl⟩
      rw [← hwo] at hP hSp hB ⊢
      clear hwo
      go_loopw [18, 19] (fun cn i wr => ∃ j : Nat, j ≤ m1 ∧ i = .int .i64 j ∧ cn = .int .i64 ((keptTo q1 Y j).length : Nat) ∧ Below w.heap.size w wr ∧ Arr Heap.cells 3 wr wr.heap.size (some ⟨g1, 0, none⟩) m1 q1 ∧ Arr strc 1 wr wr.heap.size AS ms S) (fun _ i _ => m1 - (intOf i).toNat)
      case atStart => exact ⟨0, Nat.zero_le _, rfl, by simp [keptTo], hB.out, hP.out, hSp.out⟩
      case round =>
        obtain ⟨i, hi, rfl, rfl, hb, hp, hsp⟩ := hrel
        replace hB := hide hb
        replace hP := hide hp
        replace hSp := hide hsp
        clear hb hsp
        have hkl := keptTo_len q1 Y i
        by_cases hlt : i < m1
        · skip
          obtain ⟨b, o, z, hA1, _, hz, c0, c1, c2⟩ := hp.Heap hlt
          cases hA1
          simp only [Nat.zero_add] at c0 c1 c2
          have hZ := hide hz
          have hlt' : (i : Int) < (m1 : Int) := by omega
          have hi0 : (0 : Int) ≤ (i : Int) := by omega
          clear hp
          by_cases hy : Y ≤ z.fYear
          · skip
            have hstep : Hid (((keptTo q1 Y (i + 1)).length : Int) = ((keptTo q1 Y i).length : Int) + 1) := hide (by rw [keptTo_yes hz hy]; simp)
            have hmem := hide (hSm'.out z (List.mem_of_getElem? hz))
            have hyd : decide (Y ≤ z.fYear) = true := decide_eq_true hy
            obtain ⟨cn, hcn⟩ : ∃ cn, cn = (keptTo q1 Y i).length := ⟨_, rfl⟩
            rw [← hcn] at hstep hkl ⊢
            clear hcn hz hy
            have hwc : IntKind.i64.wrap ((cn : Int) + 1) = (cn : Int) + 1 := IntWalk.i64_in _ (by omega)
            go_wp2
            clear c0 c1 c2
            obtain ⟨wo, hwo⟩ : ∃ wo : World, wo = wr := ⟨_, rfl⟩
            rw [← hwo] at hP hSp hB ⊢
            clear hwo
            go_loopw [20, 21] (fun f ix wr => ∃ (k : Nat) (fb : Bool), k ≤ ms ∧ ix = .int .i64 k ∧ f = .bool fb ∧ Hid (fb = true ↔ z.fSort ∈ S.take k) ∧ Below w.heap.size w wr ∧ Arr Heap.cells 3 wr wr.heap.size (some ⟨g1, 0, none⟩) m1 q1 ∧ Arr strc 1 wr wr.heap.size AS ms S) (fun _ ix _ => ms - (intOf ix).toNat)
            case atStart => exact ⟨0, false, Nat.zero_le _, rfl, rfl, hide (by simp), hB.out, hP.out, hSp.out⟩
            case round =>
              obtain ⟨k, fb, hk, rfl, rfl, hfb, hb, hp, hsp⟩ := hrel
              replace hB := hide hb
              replace hP := hide hp
              replace hSp := hide hsp
              clear hb
              by_cases hlk : k < ms
              · obtain ⟨b', o', s1, rfl, _, hs1, d1⟩ := hsp.str hlk
                obtain ⟨b2, o2, z2, hA2, _, hz2, e0, e1, e2⟩ := hp.Heap hlt
                cases hA2
                simp only [Nat.zero_add] at e0
                rw [hZ.out] at hz2
                cases hz2
                have hS1 := hide hs1
                have hlk' : (k : Int) < (ms : Int) := by omega
                have hk0 : (0 : Int) ≤ (k : Int) := by omega
                clear hs1 hsp hp e1 e2
                cases fb
                · by_cases hse : s1 = z.fSort
                  · have hq1 := str_eq hse
                    have hse' := hide hse
                    clear hse
                    go_wp2
                    go_quiet (fail)
                    go_wp2
                    exact ⟨⟨k + 1, true, by omega, by go_num, rfl, hide (by rw [take_snoc hS1.out, List.mem_append]; simp [hse'.out]), Below.up hB.out (below_drewN (Below.refl _ _) _), hP.out.go (below_drewN (Below.refl _ _) _), hSp.out.go (below_drewN (Below.refl _ _) _)⟩, by simp [intOf]; omega⟩
                  · have hq1 := str_ne hse
                    have hse' := hide hse
                    clear hse
                    go_wp2
                    go_quiet (fail)
                    go_wp2
                    exact ⟨⟨k + 1, false, by omega, by go_num, rfl, hide (by rw [take_snoc hS1.out, List.mem_append]; have h1 := hfb.out; simp at h1; simp [h1, Ne.symm hse'.out]), Below.up hB.out (below_drewN (Below.refl _ _) _), hP.out.go (below_drewN (Below.refl _ _) _), hSp.out.go (below_drewN (Below.refl _ _) _)⟩, by simp [intOf]; omega⟩
                · go_wp2
                  go_quiet (fail)
                  go_wp2
                  exact ⟨⟨k + 1, true, by omega, by go_num, rfl, hide (by rw [take_snoc hS1.out, List.mem_append]; have h1 := hfb.out; simp at h1; simp [h1]), Below.up hB.out (below_drewN (Below.refl _ _) _), hP.out.go (below_drewN (Below.refl _ _) _), hSp.out.go (below_drewN (Below.refl _ _) _)⟩, by simp [intOf]; omega⟩
              · have hft : fb = true := hfb.out.2 (by rw [List.take_of_length_le (by rw [← hMs.out]; omega)]; exact hmem.out)
                subst hft
                have hlk' : ¬ (k : Int) < (ms : Int) := by omega
                clear hsp hp
                go_wp2
                go_roundw
                case rel => exact ⟨i + 1, by omega, by go_num, by rw [hstep.out], hB.out, hP.out, hSp.out⟩
                case measure => simp [intOf]; omega
          · skip
            have hstep : Hid (((keptTo q1 Y (i + 1)).length : Int) = ((keptTo q1 Y i).length : Int)) := hide (by rw [keptTo_no hz hy])
            have hmem := hide (hSm'.out z (List.mem_of_getElem? hz))
            have hyd : decide (Y ≤ z.fYear) = false := decide_eq_false hy
            obtain ⟨cn, hcn⟩ : ∃ cn, cn = (keptTo q1 Y i).length := ⟨_, rfl⟩
            rw [← hcn] at hstep hkl ⊢
            clear hcn hz hy
            have hwc : IntKind.i64.wrap ((cn : Int) + 1) = (cn : Int) + 1 := IntWalk.i64_in _ (by omega)
            go_wp2
            clear c0 c1 c2
            obtain ⟨wo, hwo⟩ : ∃ wo : World, wo = wr := ⟨_, rfl⟩
            rw [← hwo] at hP hSp hB ⊢
            clear hwo
            go_loopw [20, 21] (fun f ix wr => ∃ (k : Nat) (fb : Bool), k ≤ ms ∧ ix = .int .i64 k ∧ f = .bool fb ∧ Hid (fb = true ↔ z.fSort ∈ S.take k) ∧ Below w.heap.size w wr ∧ Arr Heap.cells 3 wr wr.heap.size (some ⟨g1, 0, none⟩) m1 q1 ∧ Arr strc 1 wr wr.heap.size AS ms S) (fun _ ix _ => ms - (intOf ix).toNat)
            case atStart => exact ⟨0, false, Nat.zero_le _, rfl, rfl, hide (by simp), hB.out, hP.out, hSp.out⟩
            case round =>
              obtain ⟨k, fb, hk, rfl, rfl, hfb, hb, hp, hsp⟩ := hrel
              replace hB := hide hb
              replace hP := hide hp
              replace hSp := hide hsp
              clear hb
              by_cases hlk : k < ms
              · obtain ⟨b', o', s1, rfl, _, hs1, d1⟩ := hsp.str hlk
                obtain ⟨b2, o2, z2, hA2, _, hz2, e0, e1, e2⟩ := hp.Heap hlt
                cases hA2
                simp only [Nat.zero_add] at e0
                rw [hZ.out] at hz2
                cases hz2
                have hS1 := hide hs1
                have hlk' : (k : Int) < (ms : Int) := by omega
                have hk0 : (0 : Int) ≤ (k : Int) := by omega
                clear hs1 hsp hp e1 e2
                cases fb
                · by_cases hse : s1 = z.fSort
                  · have hq1 := str_eq hse
                    have hse' := hide hse
                    clear hse
                    go_wp2
                    go_quiet (fail)
                    go_wp2
                    exact ⟨⟨k + 1, true, by omega, by go_num, rfl, hide (by rw [take_snoc hS1.out, List.mem_append]; simp [hse'.out]), Below.up hB.out (below_drewN (Below.refl _ _) _), hP.out.go (below_drewN (Below.refl _ _) _), hSp.out.go (below_drewN (Below.refl _ _) _)⟩, by simp [intOf]; omega⟩
                  · have hq1 := str_ne hse
                    have hse' := hide hse
                    clear hse
                    go_wp2
                    go_quiet (fail)
                    go_wp2
                    exact ⟨⟨k + 1, false, by omega, by go_num, rfl, hide (by rw [take_snoc hS1.out, List.mem_append]; have h1 := hfb.out; simp at h1; simp [h1, Ne.symm hse'.out]), Below.up hB.out (below_drewN (Below.refl _ _) _), hP.out.go (below_drewN (Below.refl _ _) _), hSp.out.go (below_drewN (Below.refl _ _) _)⟩, by simp [intOf]; omega⟩
                · go_wp2
                  go_quiet (fail)
                  go_wp2
                  exact ⟨⟨k + 1, true, by omega, by go_num, rfl, hide (by rw [take_snoc hS1.out, List.mem_append]; have h1 := hfb.out; simp at h1; simp [h1]), Below.up hB.out (below_drewN (Below.refl _ _) _), hP.out.go (below_drewN (Below.refl _ _) _), hSp.out.go (below_drewN (Below.refl _ _) _)⟩, by simp [intOf]; omega⟩
              · have hft : fb = true := hfb.out.2 (by rw [List.take_of_length_le (by rw [← hMs.out]; omega)]; exact hmem.out)
                subst hft
                have hlk' : ¬ (k : Int) < (ms : Int) := by omega
                clear hsp hp
                go_wp2
                go_roundw
                case rel => exact ⟨i + 1, by omega, by go_num, by rw [hstep.out], hB.out, hP.out, hSp.out⟩
                case measure => simp [intOf]; omega
        · have him : i = m1 := by omega
          have hcn : Hid (((keptTo q1 Y i).length : Nat) = mk) := hide (by rw [him]; exact hcnt.out.symm)
          have hlt' : ¬ (i : Int) < (m1 : Int) := by omega
          rw [hcn.out]
          clear hp hP him hkl
          go_wp2
          obtain ⟨wo, hwo⟩ : ∃ wo : World, wo = wr := ⟨_, rfl⟩
          rw [← hwo] at hSp hB ⊢
          clear hwo
          go_loopw [22] (fun i wr => ∃ k : Nat, 1 ≤ k ∧ k ≤ ms + 1 ∧ i = .int .i64 k ∧ Below w.heap.size w wr ∧ Arr strc 1 wr wr.heap.size AS ms S) (fun i _ => ms + 1 - (intOf i).toNat)
          case atStart => exact ⟨1, Nat.le_refl _, by omega, rfl, hB.out, hSp.out⟩
          case round =>
            obtain ⟨k, hk1, hk2, rfl, hb, hsp⟩ := hrel
            replace hB := hide hb
            replace hSp := hide hsp
            clear hb
            by_cases hlk : k < ms
            · obtain ⟨b, o, s1, rfl, _, hs1, d1⟩ := hsp.str (k := k - 1) (by omega)
              obtain ⟨b', o', s2, hA2, _, hs2, d2⟩ := hsp.str (k := k) hlk
              cases hA2
              have hlt2 := asc_at hSa'.out hs1 (by rw [show k - 1 + 1 = k by omega]; exact hs2)
              have e1 : IntKind.i64.wrap ((k : Int) - 1) = (k : Int) - 1 := IntWalk.i64_in _ (by omega)
              have e2 : ((k : Int) - 1).toNat = k - 1 := by omega
              have e3 : (0 : Int) ≤ (k : Int) - 1 := by omega
              have e4 : (k : Int) - 1 < (ms : Int) := by omega
              have e5 : (k : Int) < (ms : Int) := by omega
              have e6 : (1 : Int) ≤ (k : Int) := by omega
              have e7 : (0 : Int) ≤ (k : Int) := by omega
              clear hs1 hs2 hsp
              go_wp2
              go_quiet (fail)
              go_wp2
              exact ⟨⟨k + 1, by omega, by omega, by go_num, Below.up hB.out (below_drewN (Below.refl _ _) _), hSp.out.go (below_drewN (Below.refl _ _) _)⟩, by simp [intOf]; omega⟩
            · have e5 : ¬ (k : Int) < (ms : Int) := by omega
              clear hsp
              go_wp2
              go_ret
              exact ⟨rfl, hB.out⟩
end Go.Proofs.Ytpmldpegjnpoaaa
