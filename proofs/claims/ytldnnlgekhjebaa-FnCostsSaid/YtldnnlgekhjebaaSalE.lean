/- The walk of the law FnCosts. -/
import Derived.Test.YtldnnlgekhjebaaSalD
import Derived.Test.YtldnnlgekhjebaaPriceF
import Derived.Test.YtldnnlgekhjebaaPriceE
namespace Go.Proofs.Ytldnnlgekhjebaa
open Go.ChangeShapes Go.WideShapes Go.ChangeAt Go.RowKit Go.Deep
set_option maxRecDepth 100000
theorem inB_iff' {n lo hi : Int} : inB n lo hi = true ↔ lo ≤ n ∧ n ≤ hi := by simp [inB]
theorem low_facts {N D : Int} (hD : 1 ≤ D) : ∃ g : Int, 1 ≤ g ∧ N = g * lowN N D ∧ D = g * lowD N D := by
  obtain ⟨g1, g2⟩ := gcdI_pos (a := N) (b := D) (by omega)
  obtain ⟨d1, d2⟩ := gcdI_dvd N D
  refine ⟨gcdI N D, g1, ?_, ?_⟩
  · unfold lowN; rw [Int.mul_tdiv_cancel' d1]
  · unfold lowD; rw [Int.mul_tdiv_cancel' d2]
theorem low_ge {N D p : Int} (hD : 1 ≤ D) (h : p * D ≤ N) : p * lowD N D ≤ lowN N D := by
  obtain ⟨g, g1, e1, e2⟩ := low_facts (N := N) hD
  refine Int.le_of_mul_le_mul_left (a := g) ?_ (by omega)
  have e3 : g * (p * lowD N D) = p * (g * lowD N D) := Int.mul_left_comm _ _ _
  rw [e3, ← e2, ← e1]
  exact h
theorem low_den {N D : Int} (hD : 1 ≤ D) : 1 ≤ lowD N D ∧ lowD N D ≤ D := by
  obtain ⟨g, g1, e1, e2⟩ := low_facts (N := N) hD
  have h1 : 1 ≤ lowD N D := by
    rcases Int.lt_or_le 0 (lowD N D) with h | h
    · omega
    · exfalso
      have := Int.mul_nonneg (show (0:Int) ≤ g by omega) (show 0 ≤ -(lowD N D) by omega)
      rw [Int.mul_neg, ← e2] at this
      omega
  refine ⟨h1, ?_⟩
  have := Int.mul_le_mul_of_nonneg_right g1 (show 0 ≤ lowD N D by omega)
  rw [← e2] at this
  omega
theorem low_num {N D : Int} : -(N.natAbs : Int) ≤ lowN N D ∧ lowN N D ≤ N.natAbs := tdiv_bound (by omega) (by omega)
theorem profit_facts (l : List Cost) (p : Int) : ∃ N D c : Int, mProfit l p = (N, D, c) ∧ ((c == 0) = false ∨ (c = 0 ∧ IntKind.i64.wrap (-100 * D) = -100 * D ∧ -100 * D ≤ N)) := by
  refine ⟨(mProfit l p).1, (mProfit l p).2.1, (mProfit l p).2.2, rfl, ?_⟩
  unfold mProfit
  cases hok : costsOk l
  · exact .inl rfl
  cases hp : inB p 0 10000000
  · exact .inl rfl
  have hS := costSum_le hok
  rw [inB_iff'] at hp
  by_cases h0 : costSum l = 0
  · simp only [if_true, h0]; exact .inl rfl
  · simp only [if_true, h0, if_false]
    have h1 := low_ge (N := 100 * (100 * p - costSum l)) (D := costSum l) (p := -100) (by omega) (by omega)
    have h2 := low_den (N := 100 * (100 * p - costSum l)) (D := costSum l) (by omega)
    exact .inr ⟨trivial, IntWalk.i64_in _ (by omega), h1⟩
theorem price_facts (l : List Cost) (p : Int) : ∃ pr pc co cc : Int, mPrice l p = (pr, pc) ∧ mCost l = (co, cc) ∧ ((pc == 0) = false ∨ (pc = 0 ∧ decide (pr < co) = false ∧ (p = 0 → pr = co) ∧ (decide (10000000 < pr) = true ∨ (decide (10000000 < pr) = false ∧ ((co == 0) = true ∨ ((co == 0) = false ∧ ∃ N D : Int, mProfit l pr = (N, D, 0) ∧ decide (1 ≤ D) = true ∧ decide (D ≤ 1000000000000) = true ∧ IntKind.i64.wrap (p * D) = p * D ∧ decide (p * D ≤ N) = true)))))) := by
  refine ⟨(mPrice l p).1, (mPrice l p).2, (mCost l).1, (mCost l).2, rfl, rfl, ?_⟩
  unfold mPrice mCost
  cases hok : costsOk l
  · exact .inl rfl
  cases hp : inB p 0 1000
  · exact .inl rfl
  rw [inB_iff'] at hp
  have hS := costSum_le hok
  have hb := price_bound hS hp
  simp only [if_true]
  obtain ⟨S, hS'⟩ : ∃ S, costSum l = S := ⟨_, rfl⟩
  rw [hS'] at hS hb ⊢
  obtain ⟨T, hT⟩ : ∃ T, S * (100 + p) = T := ⟨_, rfl⟩
  have hge : 100 * S ≤ T := by
    have := Int.mul_nonneg hS.1 hp.1
    have e : S * (100 + p) = S * 100 + S * p := Int.mul_add _ _ _
    omega
  have hz : p = 0 → T = 100 * S := by
    intro h; rw [← hT, h]; omega
  rw [hT] at hb ⊢
  refine .inr ⟨trivial, decide_eq_false (by omega), fun h => by have := hz h; omega, ?_⟩
  by_cases hbig : 10000000 < (T + 9999) / 10000
  · exact .inl (decide_eq_true hbig)
  refine .inr ⟨decide_eq_false hbig, ?_⟩
  by_cases hc : (S + 99) / 100 = 0
  · exact .inl (by rw [hc]; rfl)
  refine .inr ⟨by simp; exact hc, ?_⟩
  have hS0 : ¬ S = 0 := by omega
  have hpr : inB ((T + 9999) / 10000) 0 10000000 = true := by rw [inB_iff']; omega
  refine ⟨lowN (100 * (100 * ((T + 9999) / 10000) - S)) S, lowD (100 * (100 * ((T + 9999) / 10000) - S)) S, ?_, ?_⟩
  · unfold mProfit
    rw [hok, hpr, hS']
    simp only [if_true, hS0, if_false]
  · have h3 : p * S ≤ 100 * (100 * ((T + 9999) / 10000) - S) := by
      have e : S * (100 + p) = S * 100 + S * p := Int.mul_add _ _ _
      have e2 : S * p = p * S := Int.mul_comm _ _
      have e3 : T = S * (100 + p) := hT.symm
      omega
    have h1 := low_ge (D := S) (by omega) h3
    have h2 := low_den (N := 100 * (100 * ((T + 9999) / 10000) - S)) (D := S) (by omega)
    have h4 : p * lowD (100 * (100 * ((T + 9999) / 10000) - S)) S ≤ 1000 * lowD (100 * (100 * ((T + 9999) / 10000) - S)) S := Int.mul_le_mul_of_nonneg_right hp.2 (by omega)
    have h5 := Int.mul_nonneg hp.1 (show 0 ≤ lowD (100 * (100 * ((T + 9999) / 10000) - S)) S by omega)
    exact ⟨decide_eq_true h2.1, decide_eq_true (by omega), IntWalk.i64_in _ (by omega), decide_eq_true h1⟩
theorem dear_facts (l : List Cost) : ∃ k c : Int, mDearest l = (k, c) ∧ ((c == 0) = false ∨ (c = 0 ∧ ∃ K : Nat, k = K ∧ K < l.length ∧ ∀ (i : Nat) x y, l[i]? = some x → l[K]? = some y → IntKind.i64.wrap (x.fUnits * x.fHundred) = x.fUnits * x.fHundred ∧ IntKind.i64.wrap (y.fUnits * y.fHundred) = y.fUnits * y.fHundred ∧ decide (y.fUnits * y.fHundred < x.fUnits * x.fHundred) = false)) := by
  refine ⟨(mDearest l).1, (mDearest l).2, rfl, ?_⟩
  unfold mDearest
  cases hok : costsOk l
  · exact .inl rfl
  by_cases h0 : l.length = 0
  · simp only [if_true, h0]; exact .inl rfl
  simp only [if_true, h0, if_false]
  refine .inr ⟨trivial, _, rfl, bestTo_lt _ (by omega), fun i x y hx hy => ?_⟩
  have b1 := ok_bound (costs_at hok hx)
  have b2 := ok_bound (costs_at hok hy)
  have := bestTo_ge (costAt l) l.length i (lt_of_get hx)
  rw [costAt_eq hx, costAt_eq hy] at this
  exact ⟨IntWalk.i64_in _ (by omega), IntWalk.i64_in _ (by omega), decide_eq_false (by omega)⟩
theorem big_any (A : Option Addr) (n c : Nat) (w : World) : Calls Try.prog 5 #[.slice A n c] w fun e w' => e = .returned (.bool (decide (4096 < (n : Int)))) ∧ w = w' := by
  go_enter Try.func5, Try.ntmps5
  go_wp2
  go_ret
  exact ⟨rfl, rfl⟩
theorem bytes_ok {l : List Int} (h : ∀ x ∈ l, (Lit.int .u8 x).wf = true) : byteL l := fun x hx => by
  have h1 := h x hx
  unfold Lit.wf at h1
  rw [Bool.and_eq_true, decide_eq_true_eq, decide_eq_true_eq] at h1
  have e1 : IntKind.u8.min = 0 := by decide
  have e2 : IntKind.u8.max = 255 := by decide
  rw [e1, e2] at h1
  exact h1
theorem neqFr (a b : Int) : ∀ W, (binOp .neq 40 (.agg #[.int .i64 a, .int .i64 b]) (.agg #[.int .i64 a, .int .i64 b])).run Try.prog W = .ok (.bool false) W := by
  intro W
  rw [run_neq_struct, show 10000 = 9999 + 1 from rfl, run_equalIn_struct _ _ _ _ _ (by simp [Program.fieldsOf, Try.underlying40]) (by kernel_rfl)]
  simp [Program.fieldsOf, Try.underlying40, Op.eqFields, go_sem]

theorem row2' {w : World} {u0 u1 : Value} {t : TypeId} {g : Nat} (h : w.heap[g]? = some (.cells #[u0, u1] t (0, 0))) :
    w.cell? ⟨g, 0, none⟩ = some u0 ∧ w.cell? ⟨g, 1, none⟩ = some u1 ∧ ∀ j : Nat, w.frozen? ⟨g, j, none⟩ = false :=
  ⟨by rw [cell_of_row _ _ _ _ _ _ h]; rfl, by rw [cell_of_row _ _ _ _ _ _ h]; rfl, fun j => frozen_of_row _ _ _ _ _ h⟩
theorem keepr {w w' : World} {g : Nat} {o : Obj} (h : w.heap[g]? = some o) (hb : Below w.heap.size w w') : w'.heap[g]? = some o := (hb.block g (Array.getElem?_eq_some_iff.1 h).1).trans h
set_option maxHeartbeats 4000000 in
theorem walkCosts (w : World) (A : Option Addr) (n c : Nat) (l : List Int) (hc : n ≤ c) (hm : c ≤ maxLen) (hq : ∀ x ∈ l, (Lit.int .u8 x).wf = true) (hr : Arr u8c 1 w w.heap.size A n l) :
    Calls Try.prog 4 #[.slice A n c] w fun e w' => e = .returned (.bool true) ∧ Below w.heap.size w w' := by
  have hl := bytes_ok hq
  clear hq
  have hB := hide (Below.refl w.heap.size w)
  go_enter Try.func4, Try.ntmps4
  go_wp2_with fail
  refine (big_any A n c _).mono ?_
  rintro e w1 ⟨rfl, rfl⟩
  by_cases hbig : 4096 < (n : Int)
  · rw [decide_eq_true hbig]
    go_wp2
    go_ret
    exact ⟨rfl, hB.out⟩
  rw [decide_eq_false hbig]
  go_wp2_with fail
  refine (drawPrice_any _ A n c l (hr.go hB.out) hl hm hc).mono ?_
  rintro e w1 ⟨B, kn, kd, q, p, rfl, hk, hp, hb⟩
  have hP := hide hp
  clear hp
  replace hB := hide (Below.up hB.out hb)
  clear hb
  obtain ⟨pr, pc, co, cc, hM, hC, hF0⟩ := price_facts q p
  have hF := hide hF0
  clear hF0
  go_wp2_with fail
  refine (iPriceWith_any B kn kd q p _ (by omega) hP.out).mono ?_
  rw [hM]
  rintro e w1 ⟨rfl, hb⟩
  replace hP := hide (hP.out.go hb)
  replace hB := hide (Below.up hB.out hb)
  clear hb
  go_wp2_with fail
  refine (sPriceWith_any B kn kd q p _ (by omega) hP.out).mono ?_
  rw [hM]
  rintro e w1 ⟨rfl, hb⟩
  replace hP := hide (hP.out.go hb)
  replace hB := hide (Below.up hB.out hb)
  clear hb
  go_wp2_with fail
  refine (iCostOf_any B kn kd q _ (by omega) hP.out).mono ?_
  rw [hC]
  rintro e w1 ⟨rfl, hb⟩
  replace hP := hide (hP.out.go hb)
  replace hB := hide (Below.up hB.out hb)
  clear hb
  go_wp2_with fail
  refine (sCostOf_any B kn kd q _ (by omega) hP.out).mono ?_
  rw [hC]
  rintro e w1 ⟨rfl, hb⟩
  replace hP := hide (hP.out.go hb)
  replace hB := hide (Below.up hB.out hb)
  clear hb
  go_wp2_with fail
  refine (drawProfit_any _ A n c l (hr.go hB.out) hl hm hc).mono ?_
  rintro e w1 ⟨B', kn', kd', q', p', rfl, hk', hs, hb⟩
  have hS := hide hs
  clear hs
  replace hP := hide (hP.out.go hb)
  replace hB := hide (Below.up hB.out hb)
  clear hb
  obtain ⟨fN, fD, fc, hT, hTf0⟩ := profit_facts q' p'
  have hTf := hide hTf0
  clear hTf0
  obtain ⟨dk, dc, hD, hDf0⟩ := dear_facts q
  have hDf := hide hDf0
  clear hDf0
  go_wp2_with fail
  refine (iProfit_any B' kn' kd' q' p' _ (by omega) hS.out).mono ?_
  rw [hT]
  rintro e w1 ⟨rfl, hb⟩
  replace hP := hide (hP.out.go hb)
  replace hS := hide (hS.out.go hb)
  replace hB := hide (Below.up hB.out hb)
  clear hb
  go_wp2_with fail
  have hR1 := hide (heap_alloc_new w1 (.cells #[.int .i64 fN, .int .i64 fD] 40))
  have hb : Below w1.heap.size w1 (w1.alloc (.cells #[.int .i64 fN, .int .i64 fD] 40)) := (Below.refl _ _).alloc (Nat.le_refl _) _
  obtain ⟨W, hW⟩ : ∃ W, W = w1.alloc (.cells #[.int .i64 fN, .int .i64 fD] 40) := ⟨_, rfl⟩
  rw [← hW] at hR1 hb ⊢
  clear hW
  replace hP := hide (hP.out.go hb)
  replace hS := hide (hS.out.go hb)
  replace hB := hide (Below.up hB.out hb)
  clear hb
  obtain ⟨b1, hm1⟩ : ∃ m1, m1 = w1.heap.size := ⟨_, rfl⟩
  rw [← hm1] at hR1 ⊢
  clear hm1
  refine (sProfit_any B' kn' kd' q' p' _ (by omega) hS.out).mono ?_
  rw [hT]
  rintro e w1 ⟨rfl, hb⟩
  replace hP := hide (hP.out.go hb)
  replace hS := hide (hS.out.go hb)
  replace hR1 := hide (keepr hR1.out hb)
  replace hB := hide (Below.up hB.out hb)
  clear hb
  go_wp2_with fail
  have hR2 := hide (heap_alloc_new w1 (.cells #[.int .i64 fN, .int .i64 fD] 40))
  have hb : Below w1.heap.size w1 (w1.alloc (.cells #[.int .i64 fN, .int .i64 fD] 40)) := (Below.refl _ _).alloc (Nat.le_refl _) _
  obtain ⟨W, hW⟩ : ∃ W, W = w1.alloc (.cells #[.int .i64 fN, .int .i64 fD] 40) := ⟨_, rfl⟩
  rw [← hW] at hR2 hb ⊢
  clear hW
  replace hP := hide (hP.out.go hb)
  replace hS := hide (hS.out.go hb)
  replace hR1 := hide (keepr hR1.out hb)
  replace hB := hide (Below.up hB.out hb)
  clear hb
  obtain ⟨b2, hm1⟩ : ∃ m1, m1 = w1.heap.size := ⟨_, rfl⟩
  rw [← hm1] at hR2 ⊢
  clear hm1
  refine (iDearest_any B kn kd q _ (by omega) hP.out).mono ?_
  rw [hD]
  rintro e w1 ⟨rfl, hb⟩
  replace hP := hide (hP.out.go hb)
  replace hS := hide (hS.out.go hb)
  replace hR1 := hide (keepr hR1.out hb)
  replace hR2 := hide (keepr hR2.out hb)
  replace hB := hide (Below.up hB.out hb)
  clear hb
  go_wp2_with fail
  refine (sDearest_any B kn kd q _ (by omega) hP.out).mono ?_
  rw [hD]
  rintro e w1 ⟨rfl, hb⟩
  replace hP := hide (hP.out.go hb)
  replace hS := hide (hS.out.go hb)
  replace hR1 := hide (keepr hR1.out hb)
  replace hR2 := hide (keepr hR2.out hb)
  replace hB := hide (Below.up hB.out hb)
  clear hb
  clear hM hC hT hD
  have hneq := neqFr fN fD
  obtain ⟨x0, x1, xf⟩ := row2' hR1.out
  obtain ⟨y0, y1, yf⟩ := row2' hR2.out
  go_wp2_with fail
  refine (iValidCosts_any B kn kd q _ (by omega) hP.out).mono ?_
  rintro e w1 ⟨rfl, hb⟩
  replace hP := hide (hP.out.go hb)
  replace hS := hide (hS.out.go hb)
  replace hR1 := hide (keepr hR1.out hb)
  replace hR2 := hide (keepr hR2.out hb)
  replace hB := hide (Below.up hB.out hb)
  clear hb
  clear x0 x1 xf y0 y1 yf
  go_wp2_with fail
  refine (sValidCosts_any B kn kd q _ (by omega) hP.out).mono ?_
  rintro e w1 ⟨rfl, hb⟩
  replace hP := hide (hP.out.go hb)
  replace hS := hide (hS.out.go hb)
  replace hR1 := hide (keepr hR1.out hb)
  replace hR2 := hide (keepr hR2.out hb)
  replace hB := hide (Below.up hB.out hb)
  clear hb
  clear hneq hR1 hS
  obtain ⟨y0, y1, yf⟩ := row2' hR2.out
  rcases hTf.out with r0 | ⟨rfl, ra, rb⟩
  · clear hTf
    rcases hDf.out with d0 | ⟨rfl, dK, rfl, dl, tk⟩
    · skip
      rcases hF.out with m0 | ⟨rfl, m1, m2, m3⟩
      · skip
        go_wp2
        go_ret
        exact ⟨rfl, hB.out⟩
      · by_cases hp0 : p = 0
        · have n0 : (p == 0) = true := by rw [hp0]; rfl
          have n1 : (pr == co) = true := by rw [m2 hp0]; simp
          clear hp0
          clear m2 hF
          rcases m3 with m4 | ⟨m4, m5 | ⟨m5, N, D, hN, m6, m7, m8, m9⟩⟩
          · skip
            go_wp2
            go_ret
            exact ⟨rfl, hB.out⟩
          · skip
            go_wp2
            go_ret
            exact ⟨rfl, hB.out⟩
          · skip
            go_wp2_with fail
            refine (iProfit_any B kn kd q pr _ (by omega) hP.out).mono ?_
            rw [hN]
            rintro e w1 ⟨rfl, hb⟩
            replace hB := hide (Below.up hB.out hb)
            clear hb hN
            have hR3 := heap_alloc_new w1 (.cells #[.int .i64 N, .int .i64 D] 40)
            obtain ⟨z0, z1, zf⟩ := row2' hR3
            clear hR3
            replace hB := hide (hB.out.alloc hB.out.size (.cells #[.int .i64 N, .int .i64 D] 40))
            go_wp2
            go_ret
            exact ⟨rfl, hB.out⟩
        · have n0 : (p == 0) = false := by simp; exact hp0
          clear hp0
          clear m2 hF
          rcases m3 with m4 | ⟨m4, m5 | ⟨m5, N, D, hN, m6, m7, m8, m9⟩⟩
          · skip
            go_wp2
            go_ret
            exact ⟨rfl, hB.out⟩
          · skip
            go_wp2
            go_ret
            exact ⟨rfl, hB.out⟩
          · skip
            go_wp2_with fail
            refine (iProfit_any B kn kd q pr _ (by omega) hP.out).mono ?_
            rw [hN]
            rintro e w1 ⟨rfl, hb⟩
            replace hB := hide (Below.up hB.out hb)
            clear hb hN
            have hR3 := heap_alloc_new w1 (.cells #[.int .i64 N, .int .i64 D] 40)
            obtain ⟨z0, z1, zf⟩ := row2' hR3
            clear hR3
            replace hB := hide (hB.out.alloc hB.out.size (.cells #[.int .i64 N, .int .i64 D] 40))
            go_wp2
            go_ret
            exact ⟨rfl, hB.out⟩
    · skip
      clear hDf
      have hK' : dK < kn := by have := hP.out.len; omega
      go_wp2
      clear y0 y1 yf
      go_loopw [23] (fun i wr => ∃ j : Nat, j ≤ kn ∧ i = .int .i64 j ∧ Below w.heap.size w wr ∧ Arr Cost.cells 2 wr wr.heap.size B kn q) (fun i _ => kn - (intOf i).toNat)
      case atStart => exact ⟨0, Nat.zero_le _, rfl, hB.out, hP.out⟩
      case round =>
        obtain ⟨j, hj, rfl, hb, hp⟩ := hrel
        replace hP := hide hp
        replace hB := hide hb
        clear hb
        by_cases hlt : j < kn
        · obtain ⟨b1, o1, x1, rfl, _, hx1, c0, c1⟩ := hp.Cost hlt
          obtain ⟨b2, o2, x2, hbo, _, hx2, d0, d1⟩ := hp.Cost hK'
          obtain ⟨rfl, rfl⟩ : b2 = b1 ∧ o2 = o1 := by cases hbo; exact ⟨rfl, rfl⟩
          obtain ⟨w1', w2', w3'⟩ := tk j x1 x2 hx1 hx2
          have hi1 : (j : Int) < (kn : Int) := by omega
          have hi2 : (dK : Int) < (kn : Int) := by omega
          have hi0 : (0 : Int) ≤ (j : Int) := by omega
          have hi3 : (0 : Int) ≤ (dK : Int) := by omega
          clear hp hx1 hx2 tk hbo
          go_wp2_with fail
          go_quiet (fail)
          go_wp2
          exact ⟨⟨j + 1, by omega, by go_num, Below.up hB.out (below_drewN (Below.refl _ _) _), hP.out.go (below_drewN (Below.refl _ _) _)⟩, by simp [intOf]; omega⟩
        · have hjk : j = kn := by omega
          clear hp hK' tk dl
          rcases hF.out with m0 | ⟨rfl, m1, m2, m3⟩
          · skip
            go_wp2
            go_ret
            exact ⟨rfl, hB.out⟩
          · by_cases hp0 : p = 0
            · have n0 : (p == 0) = true := by rw [hp0]; rfl
              have n1 : (pr == co) = true := by rw [m2 hp0]; simp
              clear hp0
              clear m2 hF
              rcases m3 with m4 | ⟨m4, m5 | ⟨m5, N, D, hN, m6, m7, m8, m9⟩⟩
              · skip
                go_wp2
                go_ret
                exact ⟨rfl, hB.out⟩
              · skip
                go_wp2
                go_ret
                exact ⟨rfl, hB.out⟩
              · skip
                go_wp2_with fail
                refine (iProfit_any B kn kd q pr _ (by omega) hP.out).mono ?_
                rw [hN]
                rintro e w1 ⟨rfl, hb⟩
                replace hB := hide (Below.up hB.out hb)
                clear hb hN
                have hR3 := heap_alloc_new w1 (.cells #[.int .i64 N, .int .i64 D] 40)
                obtain ⟨z0, z1, zf⟩ := row2' hR3
                clear hR3
                replace hB := hide (hB.out.alloc hB.out.size (.cells #[.int .i64 N, .int .i64 D] 40))
                go_wp2
                go_ret
                exact ⟨rfl, hB.out⟩
            · have n0 : (p == 0) = false := by simp; exact hp0
              clear hp0
              clear m2 hF
              rcases m3 with m4 | ⟨m4, m5 | ⟨m5, N, D, hN, m6, m7, m8, m9⟩⟩
              · skip
                go_wp2
                go_ret
                exact ⟨rfl, hB.out⟩
              · skip
                go_wp2
                go_ret
                exact ⟨rfl, hB.out⟩
              · skip
                go_wp2_with fail
                refine (iProfit_any B kn kd q pr _ (by omega) hP.out).mono ?_
                rw [hN]
                rintro e w1 ⟨rfl, hb⟩
                replace hB := hide (Below.up hB.out hb)
                clear hb hN
                have hR3 := heap_alloc_new w1 (.cells #[.int .i64 N, .int .i64 D] 40)
                obtain ⟨z0, z1, zf⟩ := row2' hR3
                clear hR3
                replace hB := hide (hB.out.alloc hB.out.size (.cells #[.int .i64 N, .int .i64 D] 40))
                go_wp2
                go_ret
                exact ⟨rfl, hB.out⟩
  · clear hTf
    have q1 : decide (fN < -100 * fD) = false := decide_eq_false (by omega)
    clear rb
    rcases hDf.out with d0 | ⟨rfl, dK, rfl, dl, tk⟩
    · skip
      rcases hF.out with m0 | ⟨rfl, m1, m2, m3⟩
      · skip
        go_wp2
        go_ret
        exact ⟨rfl, hB.out⟩
      · by_cases hp0 : p = 0
        · have n0 : (p == 0) = true := by rw [hp0]; rfl
          have n1 : (pr == co) = true := by rw [m2 hp0]; simp
          clear hp0
          clear m2 hF
          rcases m3 with m4 | ⟨m4, m5 | ⟨m5, N, D, hN, m6, m7, m8, m9⟩⟩
          · skip
            go_wp2
            go_ret
            exact ⟨rfl, hB.out⟩
          · skip
            go_wp2
            go_ret
            exact ⟨rfl, hB.out⟩
          · skip
            go_wp2_with fail
            refine (iProfit_any B kn kd q pr _ (by omega) hP.out).mono ?_
            rw [hN]
            rintro e w1 ⟨rfl, hb⟩
            replace hB := hide (Below.up hB.out hb)
            clear hb hN
            have hR3 := heap_alloc_new w1 (.cells #[.int .i64 N, .int .i64 D] 40)
            obtain ⟨z0, z1, zf⟩ := row2' hR3
            clear hR3
            replace hB := hide (hB.out.alloc hB.out.size (.cells #[.int .i64 N, .int .i64 D] 40))
            go_wp2
            go_ret
            exact ⟨rfl, hB.out⟩
        · have n0 : (p == 0) = false := by simp; exact hp0
          clear hp0
          clear m2 hF
          rcases m3 with m4 | ⟨m4, m5 | ⟨m5, N, D, hN, m6, m7, m8, m9⟩⟩
          · skip
            go_wp2
            go_ret
            exact ⟨rfl, hB.out⟩
          · skip
            go_wp2
            go_ret
            exact ⟨rfl, hB.out⟩
          · skip
            go_wp2_with fail
            refine (iProfit_any B kn kd q pr _ (by omega) hP.out).mono ?_
            rw [hN]
            rintro e w1 ⟨rfl, hb⟩
            replace hB := hide (Below.up hB.out hb)
            clear hb hN
            have hR3 := heap_alloc_new w1 (.cells #[.int .i64 N, .int .i64 D] 40)
            obtain ⟨z0, z1, zf⟩ := row2' hR3
            clear hR3
            replace hB := hide (hB.out.alloc hB.out.size (.cells #[.int .i64 N, .int .i64 D] 40))
            go_wp2
            go_ret
            exact ⟨rfl, hB.out⟩
    · skip
      clear hDf
      have hK' : dK < kn := by have := hP.out.len; omega
      go_wp2
      clear y0 y1 yf
      go_loopw [23] (fun i wr => ∃ j : Nat, j ≤ kn ∧ i = .int .i64 j ∧ Below w.heap.size w wr ∧ Arr Cost.cells 2 wr wr.heap.size B kn q) (fun i _ => kn - (intOf i).toNat)
      case atStart => exact ⟨0, Nat.zero_le _, rfl, hB.out, hP.out⟩
      case round =>
        obtain ⟨j, hj, rfl, hb, hp⟩ := hrel
        replace hP := hide hp
        replace hB := hide hb
        clear hb
        by_cases hlt : j < kn
        · obtain ⟨b1, o1, x1, rfl, _, hx1, c0, c1⟩ := hp.Cost hlt
          obtain ⟨b2, o2, x2, hbo, _, hx2, d0, d1⟩ := hp.Cost hK'
          obtain ⟨rfl, rfl⟩ : b2 = b1 ∧ o2 = o1 := by cases hbo; exact ⟨rfl, rfl⟩
          obtain ⟨w1', w2', w3'⟩ := tk j x1 x2 hx1 hx2
          have hi1 : (j : Int) < (kn : Int) := by omega
          have hi2 : (dK : Int) < (kn : Int) := by omega
          have hi0 : (0 : Int) ≤ (j : Int) := by omega
          have hi3 : (0 : Int) ≤ (dK : Int) := by omega
          clear hp hx1 hx2 tk hbo
          go_wp2_with fail
          go_quiet (fail)
          go_wp2
          exact ⟨⟨j + 1, by omega, by go_num, Below.up hB.out (below_drewN (Below.refl _ _) _), hP.out.go (below_drewN (Below.refl _ _) _)⟩, by simp [intOf]; omega⟩
        · have hjk : j = kn := by omega
          clear hp hK' tk dl
          rcases hF.out with m0 | ⟨rfl, m1, m2, m3⟩
          · skip
            go_wp2
            go_ret
            exact ⟨rfl, hB.out⟩
          · by_cases hp0 : p = 0
            · have n0 : (p == 0) = true := by rw [hp0]; rfl
              have n1 : (pr == co) = true := by rw [m2 hp0]; simp
              clear hp0
              clear m2 hF
              rcases m3 with m4 | ⟨m4, m5 | ⟨m5, N, D, hN, m6, m7, m8, m9⟩⟩
              · skip
                go_wp2
                go_ret
                exact ⟨rfl, hB.out⟩
              · skip
                go_wp2
                go_ret
                exact ⟨rfl, hB.out⟩
              · skip
                go_wp2_with fail
                refine (iProfit_any B kn kd q pr _ (by omega) hP.out).mono ?_
                rw [hN]
                rintro e w1 ⟨rfl, hb⟩
                replace hB := hide (Below.up hB.out hb)
                clear hb hN
                have hR3 := heap_alloc_new w1 (.cells #[.int .i64 N, .int .i64 D] 40)
                obtain ⟨z0, z1, zf⟩ := row2' hR3
                clear hR3
                replace hB := hide (hB.out.alloc hB.out.size (.cells #[.int .i64 N, .int .i64 D] 40))
                go_wp2
                go_ret
                exact ⟨rfl, hB.out⟩
            · have n0 : (p == 0) = false := by simp; exact hp0
              clear hp0
              clear m2 hF
              rcases m3 with m4 | ⟨m4, m5 | ⟨m5, N, D, hN, m6, m7, m8, m9⟩⟩
              · skip
                go_wp2
                go_ret
                exact ⟨rfl, hB.out⟩
              · skip
                go_wp2
                go_ret
                exact ⟨rfl, hB.out⟩
              · skip
                go_wp2_with fail
                refine (iProfit_any B kn kd q pr _ (by omega) hP.out).mono ?_
                rw [hN]
                rintro e w1 ⟨rfl, hb⟩
                replace hB := hide (Below.up hB.out hb)
                clear hb hN
                have hR3 := heap_alloc_new w1 (.cells #[.int .i64 N, .int .i64 D] 40)
                obtain ⟨z0, z1, zf⟩ := row2' hR3
                clear hR3
                replace hB := hide (hB.out.alloc hB.out.size (.cells #[.int .i64 N, .int .i64 D] 40))
                go_wp2
                go_ret
                exact ⟨rfl, hB.out⟩
end Go.Proofs.Ytldnnlgekhjebaa
