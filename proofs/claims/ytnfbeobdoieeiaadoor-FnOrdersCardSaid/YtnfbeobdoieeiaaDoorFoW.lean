/- The walk of the law FnOrders. No statement is proved here. -/
import Derived.Test.YtnfbeobdoieeiaaDoorFoD
import Derived.Test.YtnfbeobdoieeiaaDoorFoP
import Derived.Test.YtnfbeobdoieeiaaDoorOrdT
import Derived.Test.YtnfbeobdoieeiaaDoorOrdQ
import Derived.Test.YtnfbeobdoieeiaaDoorOrdV
import Derived.Test.YtnfbeobdoieeiaaDoorOrdB
import Derived.Test.YtnfbeobdoieeiaaDoorOrS2
import Derived.Deep.RegionHeld3
namespace Go.Proofs.YtnfbeobdoieeiaaDoor
open Go.ChangeShapes Go.WideShapes Go.ChangeAt Go.RowKit Go.Deep
set_option maxRecDepth 100000
theorem bytes_ok {l : List Int} (h : ∀ x ∈ l, (Lit.int .u8 x).wf = true) : byteL l := fun x hx => by
  have h1 := h x hx
  unfold Lit.wf at h1
  rw [Bool.and_eq_true, decide_eq_true_eq, decide_eq_true_eq] at h1
  have e1 : IntKind.u8.min = 0 := by decide
  have e2 : IntKind.u8.max = 255 := by decide
  rw [e1, e2] at h1
  exact h1
theorem neqFr (a b : Int) : ∀ W, (binOp .neq 31 (.agg #[.int .i64 a, .int .i64 b]) (.agg #[.int .i64 a, .int .i64 b])).run Tryd.prog W = .ok (.bool false) W := by
  intro W
  rw [run_neq_struct, show 10000 = 9999 + 1 from rfl, run_equalIn_struct _ _ _ _ _ (by simp [Program.fieldsOf, Tryd.underlying31]) (by kernel_rfl)]
  simp [Program.fieldsOf, Tryd.underlying31, Op.eqFields, go_sem]
theorem takeO_fits {l : List Order} {x : Order} (h : ∀ z ∈ l, z.fits) (hx : x.fits) : ∀ z ∈ mTakeO l x, z.fits := by
  intro z hz
  unfold mTakeO at hz
  split at hz
  · rcases List.mem_append.1 hz with h1 | h1
    · exact h z h1
    · rw [List.mem_singleton.1 h1]; exact hx
  · cases hz
theorem takeO_len {l : List Order} {x : Order} (h : l.length ≤ 100) : (mTakeO l x).length ≤ 101 := by
  unfold mTakeO
  split
  · rw [List.length_append]; simp; omega
  · simp
/-- What the law asks of the plan. -/
theorem fo_plain (l : List Order) : ((mCan l).2 = 1 ∧ (mFirst l).2.2 = 1 ∧ (mBusy l).code = 1) ∨
    ((mCan l).2 = 0 ∧ (mCan l).1 = true ∧ (mFirst l).2.2 = 3 ∧ (((mBusy l).code = 0 ∧ (mBusy l).num ≤ (mBusy l).den) ∨ (mBusy l).code = 3)) ∨
    ((mCan l).2 = 0 ∧ (mCan l).1 = false ∧ (mFirst l).2.2 = 0 ∧ (((mBusy l).code = 0 ∧ ¬ (mBusy l).num ≤ (mBusy l).den) ∨ (mBusy l).code = 3) ∧
      ∃ x, 0 ≤ (mFirst l).1 ∧ l[(mFirst l).1.toNat]? = some x ∧ 1 ≤ (mFirst l).2.1 ∧ (mFirst l).2.1 ≤ x.fMany * x.fEach ∧ x.fMany * x.fEach ≤ 2000) := by
  cases hok : ordersOk l
  · exact .inl ⟨by simp [mCan, hok], by simp [mFirst, hok], by simp [mBusy, hok]⟩
  · obtain ⟨h1, h2⟩ := first_late hok
    have hb := busy_iff hok
    have hc1 : (mCan l).1 = decide (sumOf id (mPlan l).late = 0) := by simp [mCan, hok]
    have hc2 : (mCan l).2 = 0 := by simp [mCan, hok]
    have hbz : ((mBusy l).code = 0 ∧ (sumOf id (mPlan l).late = 0 ↔ (mBusy l).num ≤ (mBusy l).den)) ∨ (mBusy l).code = 3 := by
      by_cases h0 : l.length = 0
      · exact .inr (by simp [mBusy, hok, h0])
      · have e : mBusy l = ⟨(mBusyS l).fr, (mBusyS l).till, lowN (mBusyS l).num (mBusyS l).den, lowD (mBusyS l).num (mBusyS l).den, 0⟩ := by unfold mBusy; rw [if_pos hok, if_neg h0]
        refine .inl ⟨by rw [e], ?_⟩
        rw [e, hb]
        exact (low_iff (by have := (grid_in (orders_in hok) start4_in l.length).den.1; have e : gridTo (stepS l) l start4 l.length = mBusyS l := rfl; rw [e] at this; omega)).symm
    by_cases hl : lateAt l < 0
    · have hz := h1.1 hl
      refine .inr (.inl ⟨hc2, by rw [hc1, decide_eq_true hz], by simp [mFirst, hok, hl], ?_⟩)
      rcases hbz with ⟨a, b⟩ | a
      · exact .inl ⟨a, b.1 hz⟩
      · exact .inr a
    · have hz : ¬ sumOf id (mPlan l).late = 0 := fun hz => hl (h1.2 hz)
      obtain ⟨x, hx, a, b⟩ := h2 (by omega)
      have e1 : (mFirst l).1 = lateAt l := by simp [mFirst, hok, hl]
      have e2 : (mFirst l).2.1 = (mPlan l).late.getD (lateAt l).toNat 0 := by simp [mFirst, hok, hl]
      refine .inr (.inr ⟨hc2, by rw [hc1, decide_eq_false hz], by simp [mFirst, hok, hl], ?_, ?_⟩)
      · rcases hbz with ⟨a, b⟩ | a
        · exact .inl ⟨a, fun h => hz (b.2 h)⟩
        · exact .inr a
      · rw [e1, e2]
        refine ⟨x, by omega, hx, a, b, ?_⟩
        have := (orders_in hok).at_ (lt_of_get hx)
        rw [dyA_at hx] at this
        exact this.2.2.2.2
theorem take_plain {l : List Order} {x : Order} (h : mTakeOC l x = 0) : (mCan (mTakeO l x)).1 = true ∧ (mCan (mTakeO l x)).2 = 0 ∧ (mTakeO l x).length = l.length + 1 := by
  have e : mTakeO l x = l ++ [x] := by unfold mTakeO; rw [if_pos h]
  rw [e]
  unfold mTakeOC at h
  by_cases h1 : ordersOk l = true
  · rw [if_pos h1] at h
    by_cases h2 : x.ok = true
    · rw [if_pos h2] at h
      by_cases h3 : l.length = 30
      · rw [if_pos h3] at h; cases h
      · rw [if_neg h3] at h
        by_cases h4 : 0 < sumOf id (mPlan (l ++ [x])).late
        · rw [if_pos h4] at h; cases h
        · have hok := orders_snoc h1 h2 h3
          have hnn := (mPlan_late hok).1
          have hz : sumOf id (mPlan (l ++ [x])).late = 0 := by
            have : 0 ≤ sumOf id (mPlan (l ++ [x])).late := by
              have := sumOf_bound (f := id) (M := 2000) (l := (mPlan (l ++ [x])).late) (fun z hz => hnn z hz)
              exact this.1
            omega
          exact ⟨by simp [mCan, hok, hz], by simp [mCan, hok], by simp⟩
    · rw [if_neg h2] at h; cases h
  · rw [if_neg h1] at h; cases h
set_option maxHeartbeats 8000000 in
theorem walkOrders (w : World) (hG : Gl w) (A : Option Addr) (n c : Nat) (l : List Int) (hc : n ≤ c) (hm : c ≤ maxLen) (hq : ∀ x ∈ l, (Lit.int .u8 x).wf = true) (hr : Arr u8c 1 w w.heap.size A n l) :
    Calls Tryd.prog 3 #[.slice A n c] w fun e w' => e = .returned (.bool true) ∧ Below w.heap.size w w' := by
  have hl := bytes_ok hq
  have hGh := hide hG
  clear hq hG
  have hB := hide (Below.refl w.heap.size w)
  have hRR := hide hr
  clear hr
  go_enter Tryd.func3, Tryd.ntmps3
  go_wp2_with fail
  refine (big_any A n c _).mono ?_
  rintro e w1 ⟨rfl, rfl⟩
  cases hbig : decide (4096 < (n : Int))
  case true =>
    go_wp2
    go_ret
    exact ⟨rfl, hB.out⟩
  clear hbig
  go_wp2_with fail
  refine (drawCan_any _ A n c l (hRR.out.go hB.out) hl hm hc).mono ?_
  rintro e w1 ⟨B, m, d, q, rfl, hm100, hp, hf, hb⟩
  have hL := hide hp
  replace hB := hide (Below.up hB.out hb)
  have hF := hide hf
  clear hb hp hf
  have hP1 := hide (fo_plain q)
  obtain ⟨cb, hcb⟩ : ∃ z, z = (mCan q).1 := ⟨_, rfl⟩
  have ecb := hide hcb.symm
  clear hcb
  obtain ⟨cc, hcc⟩ : ∃ z, z = (mCan q).2 := ⟨_, rfl⟩
  have ecc := hide hcc.symm
  clear hcc
  obtain ⟨fk, hfk⟩ : ∃ z, z = (mFirst q).1 := ⟨_, rfl⟩
  have efk := hide hfk.symm
  clear hfk
  obtain ⟨fd, hfd⟩ : ∃ z, z = (mFirst q).2.1 := ⟨_, rfl⟩
  have efd := hide hfd.symm
  clear hfd
  obtain ⟨fc, hfc⟩ : ∃ z, z = (mFirst q).2.2 := ⟨_, rfl⟩
  have efc := hide hfc.symm
  clear hfc
  obtain ⟨bf, hbf⟩ : ∃ z, z = (mBusy q).fr := ⟨_, rfl⟩
  have ebf := hide hbf.symm
  clear hbf
  obtain ⟨bt, hbt⟩ : ∃ z, z = (mBusy q).till := ⟨_, rfl⟩
  have ebt := hide hbt.symm
  clear hbt
  obtain ⟨bn, hbn⟩ : ∃ z, z = (mBusy q).num := ⟨_, rfl⟩
  have ebn := hide hbn.symm
  clear hbn
  obtain ⟨bd, hbd⟩ : ∃ z, z = (mBusy q).den := ⟨_, rfl⟩
  have ebd := hide hbd.symm
  clear hbd
  obtain ⟨bc, hbc⟩ : ∃ z, z = (mBusy q).code := ⟨_, rfl⟩
  have ebc := hide hbc.symm
  clear hbc
  go_wp2_with fail
  refine (iCan_any B m d q _ (by omega) hF.out hL.out).mono ?_
  rw [ecb.out, ecc.out]
  rintro e w1 ⟨rfl, hb⟩
  replace hL := hide (hL.out.go hb)
  replace hB := hide (Below.up hB.out hb)
  clear hb
  go_wp2_with fail
  refine (sCan_any B m d q _ (by omega) hF.out hL.out).mono ?_
  rw [ecb.out, ecc.out]
  rintro e w1 ⟨rfl, hb⟩
  replace hL := hide (hL.out.go hb)
  replace hB := hide (Below.up hB.out hb)
  clear hb
  go_wp2_with fail
  refine (iFirst_any B m d q _ (by omega) hF.out hL.out).mono ?_
  rw [efk.out, efd.out, efc.out]
  rintro e w1 ⟨rfl, hb⟩
  replace hL := hide (hL.out.go hb)
  replace hB := hide (Below.up hB.out hb)
  clear hb
  go_wp2_with fail
  refine (sFirst_any B m d q _ (by omega) hF.out hL.out).mono ?_
  rw [efk.out, efd.out, efc.out]
  rintro e w1 ⟨rfl, hb⟩
  replace hL := hide (hL.out.go hb)
  replace hB := hide (Below.up hB.out hb)
  clear hb
  go_wp2_with fail
  refine (iBusy_any B m d q _ (by omega) hF.out hL.out).mono ?_
  rw [ebf.out, ebt.out, ebn.out, ebd.out, ebc.out]
  rintro e w1 ⟨rfl, hb⟩
  replace hL := hide (hL.out.go hb)
  replace hB := hide (Below.up hB.out hb)
  clear hb
  go_upto_region 9 with fail
  obtain ⟨k1, hk1⟩ : ∃ k, k = w1.heap.size := ⟨_, rfl⟩
  rw [← hk1]
  refine nameW (φ := fun W => W.heap[k1]? = some (.cells #[.int .i64 bn, .int .i64 bd] 31 (0, 0)) ∧ Below w.heap.size w W ∧ Arr Order.cells 5 W W.heap.size B m q) ⟨by rw [hk1]; exact heap_alloc_new w1 _, hB.out.alloc hB.out.size _, hL.out.go ((Below.refl _ _).alloc (Nat.le_refl _) _)⟩ ?_
  rintro W1 ⟨nk1, nB, nhL⟩
  have hXk1 := hide nk1
  replace hB := hide nB
  replace hL := hide nhL
  clear nk1 nB nhL hk1
  go_wp2_with fail
  refine (sBusy_any B m d q _ (by omega) hF.out hL.out).mono ?_
  rw [ebf.out, ebt.out, ebn.out, ebd.out, ebc.out]
  rintro e w1 ⟨rfl, hb⟩
  replace hXk1 := hide (keepr' hXk1.out hb)
  replace hL := hide (hL.out.go hb)
  replace hB := hide (Below.up hB.out hb)
  clear hb
  go_upto_region 10 with fail
  obtain ⟨k2, hk2⟩ : ∃ k, k = w1.heap.size := ⟨_, rfl⟩
  rw [← hk2]
  refine nameW (φ := fun W => W.heap[k2]? = some (.cells #[.int .i64 bn, .int .i64 bd] 31 (0, 0)) ∧ W.heap[k1]? = some (.cells #[.int .i64 bn, .int .i64 bd] 31 (0, 0)) ∧ Below w.heap.size w W ∧ Arr Order.cells 5 W W.heap.size B m q) ⟨by rw [hk2]; exact heap_alloc_new w1 _, box_oldO hXk1.out, hB.out.alloc hB.out.size _, hL.out.go ((Below.refl _ _).alloc (Nat.le_refl _) _)⟩ ?_
  rintro W1 ⟨nk2, nk1, nB, nhL⟩
  have hXk2 := hide nk2
  replace hXk1 := hide nk1
  replace hB := hide nB
  replace hL := hide nhL
  clear nk2 nk1 nB nhL hk2
  go_wp2_with fail
  refine (drawTake_any _ A n c l (hRR.out.go hB.out) hl hm hc).mono ?_
  rintro e w1 ⟨A2, m2, d2, q2, x, rfl, h2m, hp, hf, hx, hb⟩
  have hA := hide hp
  replace hXk1 := hide (keepr' hXk1.out hb)
  replace hXk2 := hide (keepr' hXk2.out hb)
  replace hL := hide (hL.out.go hb)
  replace hB := hide (Below.up hB.out hb)
  have hF2 := hide hf
  have hlen2 := hide hp.len
  clear hb hp hf
  go_upto_region 11 with fail
  obtain ⟨k3, hk3⟩ : ∃ k, k = w1.heap.size := ⟨_, rfl⟩
  rw [← hk3]
  refine nameW (φ := fun W => W.heap[k3]? = some (.cells #[.string x.fWho, .int .i64 x.fMany, .int .i64 x.fEach, .int .i64 x.fFrom, .int .i64 x.fDue] 35 (0, 0)) ∧ W.heap[k1]? = some (.cells #[.int .i64 bn, .int .i64 bd] 31 (0, 0)) ∧ W.heap[k2]? = some (.cells #[.int .i64 bn, .int .i64 bd] 31 (0, 0)) ∧ Below w.heap.size w W ∧ Arr Order.cells 5 W W.heap.size B m q ∧ Arr Order.cells 5 W W.heap.size A2 m2 q2) ⟨by rw [hk3]; exact heap_alloc_new w1 _, box_oldO hXk1.out, box_oldO hXk2.out, hB.out.alloc hB.out.size _, hL.out.go ((Below.refl _ _).alloc (Nat.le_refl _) _), hA.out.go ((Below.refl _ _).alloc (Nat.le_refl _) _)⟩ ?_
  rintro W1 ⟨nk3, nk1, nk2, nB, nhL, nhA⟩
  have hXk3 := hide nk3
  replace hXk1 := hide nk1
  replace hXk2 := hide nk2
  replace hB := hide nB
  replace hL := hide nhL
  replace hA := hide nhA
  clear nk3 nk1 nk2 nB nhL nhA hk3
  obtain ⟨q3, hq3⟩ : ∃ z, z = mTakeO q2 x := ⟨_, rfl⟩
  obtain ⟨tc, htc⟩ : ∃ z, z = mTakeOC q2 x := ⟨_, rfl⟩
  have eq3 := hide hq3.symm
  have etc := hide htc.symm
  have hF3 : Hid (∀ z ∈ q3, z.fits) := hide (by rw [hq3]; exact takeO_fits hF2.out hx)
  have hm3' : q3.length ≤ 101 := by rw [hq3]; exact takeO_len (by rw [hlen2.out]; exact h2m)
  obtain ⟨m3, hm3⟩ : ∃ z, z = q3.length := ⟨_, rfl⟩
  rw [← hm3] at hm3'
  have em3 := hide hm3.symm
  clear hq3 htc hm3
  obtain ⟨c0, c1, c2, c3, c4, cf⟩ := row5' hXk3.out
  go_wp2_with fail
  refine (iTakeO_any A2 m2 d2 q2 _ (by omega) hF2.out hA.out x hx).mono ?_
  rw [eq3.out, etc.out, em3.out]
  rintro e w1 ⟨v1, rfl, hres, hb⟩
  obtain ⟨A3, d3, rfl, _⟩ := hres.slice
  have hY := hide (hres.arr Order.len)
  replace hXk1 := hide (keepr' hXk1.out hb)
  replace hXk2 := hide (keepr' hXk2.out hb)
  replace hXk3 := hide (keepr' hXk3.out hb)
  replace hL := hide (hL.out.go hb)
  replace hA := hide (hA.out.go hb)
  replace hB := hide (Below.up hB.out hb)
  clear hb hres c0 c1 c2 c3 c4 cf
  obtain ⟨c0, c1, c2, c3, c4, cf⟩ := row5' hXk3.out
  go_wp2_with fail
  refine (sTakeO_any A2 m2 d2 q2 _ (by omega) hF2.out hA.out x hx).mono ?_
  rw [eq3.out, etc.out, em3.out]
  rintro e w1 ⟨v1, rfl, hres, hb⟩
  obtain ⟨A4, d4, rfl, _⟩ := hres.slice
  have hZ := hide (hres.arr Order.len)
  replace hXk1 := hide (keepr' hXk1.out hb)
  replace hXk2 := hide (keepr' hXk2.out hb)
  replace hXk3 := hide (keepr' hXk3.out hb)
  replace hL := hide (hL.out.go hb)
  replace hA := hide (hA.out.go hb)
  replace hY := hide (hY.out.go hb)
  replace hB := hide (Below.up hB.out hb)
  clear hb hres c0 c1 c2 c3 c4 cf
  go_wp2_with fail
  refine (drawSame_any _ A n c l (hRR.out.go hB.out) hl hm hc).mono ?_
  rintro e w1 ⟨A5, m5, d5, q5, A6, m6, d6, q6, rfl, h5m, h6m, hp, hp', hf, hf', hb⟩
  have hb1 := hide hp
  have hb2 := hide hp'
  replace hXk1 := hide (keepr' hXk1.out hb)
  replace hXk2 := hide (keepr' hXk2.out hb)
  replace hXk3 := hide (keepr' hXk3.out hb)
  replace hL := hide (hL.out.go hb)
  replace hA := hide (hA.out.go hb)
  replace hY := hide (hY.out.go hb)
  replace hZ := hide (hZ.out.go hb)
  replace hB := hide (Below.up hB.out hb)
  have hF5 := hide hf
  have hF6 := hide hf'
  clear hb hp hp' hf hf'
  go_wp2_with fail
  refine (drawText_any _ A n c l (hRR.out.go hB.out) hl hm hc).mono ?_
  rintro e w1 ⟨t, rfl, ht, hb⟩
  replace hXk1 := hide (keepr' hXk1.out hb)
  replace hXk2 := hide (keepr' hXk2.out hb)
  replace hXk3 := hide (keepr' hXk3.out hb)
  replace hL := hide (hL.out.go hb)
  replace hA := hide (hA.out.go hb)
  replace hY := hide (hY.out.go hb)
  replace hZ := hide (hZ.out.go hb)
  replace hb1 := hide (hb1.out.go hb)
  replace hb2 := hide (hb2.out.go hb)
  replace hB := hide (Below.up hB.out hb)
  clear hb
  go_upto_region 15 with fail
  obtain ⟨k4, hk4⟩ : ∃ k, k = w1.heap.size := ⟨_, rfl⟩
  rw [← hk4]
  refine nameW (φ := fun W => W.heap[k4]? = some (.cells #[.string t.fWho, .int .i64 t.fMany, .int .i64 t.fEach, .int .i64 t.fFrom, .int .i64 t.fDue] 35 (0, 0)) ∧ W.heap[k1]? = some (.cells #[.int .i64 bn, .int .i64 bd] 31 (0, 0)) ∧ W.heap[k2]? = some (.cells #[.int .i64 bn, .int .i64 bd] 31 (0, 0)) ∧ W.heap[k3]? = some (.cells #[.string x.fWho, .int .i64 x.fMany, .int .i64 x.fEach, .int .i64 x.fFrom, .int .i64 x.fDue] 35 (0, 0)) ∧ Below w.heap.size w W ∧ Arr Order.cells 5 W W.heap.size B m q ∧ Arr Order.cells 5 W W.heap.size A2 m2 q2 ∧ Arr Order.cells 5 W W.heap.size A3 m3 q3 ∧ Arr Order.cells 5 W W.heap.size A4 m3 q3 ∧ Arr Order.cells 5 W W.heap.size A5 m5 q5 ∧ Arr Order.cells 5 W W.heap.size A6 m6 q6) ⟨by rw [hk4]; exact heap_alloc_new w1 _, box_oldO hXk1.out, box_oldO hXk2.out, box_oldO hXk3.out, hB.out.alloc hB.out.size _, hL.out.go ((Below.refl _ _).alloc (Nat.le_refl _) _), hA.out.go ((Below.refl _ _).alloc (Nat.le_refl _) _), hY.out.go ((Below.refl _ _).alloc (Nat.le_refl _) _), hZ.out.go ((Below.refl _ _).alloc (Nat.le_refl _) _), hb1.out.go ((Below.refl _ _).alloc (Nat.le_refl _) _), hb2.out.go ((Below.refl _ _).alloc (Nat.le_refl _) _)⟩ ?_
  rintro W1 ⟨nk4, nk1, nk2, nk3, nB, nhL, nhA, nhY, nhZ, nhb1, nhb2⟩
  have hXk4 := hide nk4
  replace hXk1 := hide nk1
  replace hXk2 := hide nk2
  replace hXk3 := hide nk3
  replace hB := hide nB
  replace hL := hide nhL
  replace hA := hide nhA
  replace hY := hide nhY
  replace hZ := hide nhZ
  replace hb1 := hide nhb1
  replace hb2 := hide nhb2
  clear nk4 nk1 nk2 nk3 nB nhL nhA nhY nhZ nhb1 nhb2 hk4
  have hdr : Below W1.heap.size W1 W1.drew := below_drewN (Below.refl _ _) 1
  replace hXk1 := hide (keepr' hXk1.out hdr)
  replace hXk2 := hide (keepr' hXk2.out hdr)
  replace hXk3 := hide (keepr' hXk3.out hdr)
  replace hXk4 := hide (keepr' hXk4.out hdr)
  replace hL := hide (hL.out.go hdr)
  replace hA := hide (hA.out.go hdr)
  replace hY := hide (hY.out.go hdr)
  replace hZ := hide (hZ.out.go hdr)
  replace hb1 := hide (hb1.out.go hdr)
  replace hb2 := hide (hb2.out.go hdr)
  replace hB := hide (Below.up hB.out hdr)
  clear hdr
  have hSS : ∀ W : World, W.heap[k1]? = some (.cells #[.int .i64 bn, .int .i64 bd] 31 (0, 0)) → W.heap[k2]? = some (.cells #[.int .i64 bn, .int .i64 bd] 31 (0, 0)) → W.heap[k4]? = some (.cells #[.string t.fWho, .int .i64 t.fMany, .int .i64 t.fEach, .int .i64 t.fFrom, .int .i64 t.fDue] 35 (0, 0)) → (W.cell? ⟨k1, 0, none⟩ = some (.int .i64 bn) ∧ W.cell? ⟨k1, 1, none⟩ = some (.int .i64 bd) ∧ W.cell? ⟨k2, 0, none⟩ = some (.int .i64 bn) ∧ W.cell? ⟨k2, 1, none⟩ = some (.int .i64 bd) ∧ W.cell? ⟨k4, 0, none⟩ = some (.string t.fWho) ∧ W.cell? ⟨k4, 1, none⟩ = some (.int .i64 t.fMany) ∧ W.cell? ⟨k4, 2, none⟩ = some (.int .i64 t.fEach) ∧ W.cell? ⟨k4, 3, none⟩ = some (.int .i64 t.fFrom) ∧ W.cell? ⟨k4, 4, none⟩ = some (.int .i64 t.fDue)) := fun W h1 h2 h4 => by obtain ⟨a0, a1, _⟩ := brow2 h1; obtain ⟨b0, b1, _⟩ := brow2 h2; obtain ⟨c0, c1, c2, c3, c4, _⟩ := row5' h4; exact ⟨a0, a1, b0, b1, c0, c1, c2, c3, c4⟩
  have hS := hide hSS
  obtain ⟨a0, a1, b0, b1, c0, c1, c2, c3, c4⟩ := hSS _ hXk1.out hXk2.out hXk4.out
  clear hSS
  have hneq := neqFr bn bd
  have ncb : (cb != cb) = false := by simp
  obtain ⟨TT, hTT⟩ : ∃ z, z = mOrderT t := ⟨_, rfl⟩
  have eTT := hide hTT.symm
  have nTT := str_eq (rfl : TT = TT)
  clear hTT
  obtain ⟨ob, hob⟩ : ∃ z, z = ordersOk q := ⟨_, rfl⟩
  have eob := hide hob.symm
  have nob : (ob != ob) = false := by simp
  clear hob
  obtain ⟨sb, hsb⟩ : ∃ z, z = decide (q5 = q6) := ⟨_, rfl⟩
  have esb := hide hsb.symm
  have nsb : (sb != sb) = false := by simp
  clear hsb
  have ht' : t.fWho.size ≤ maxLen := ht
  have es3 : Hid (decide (q3 = q3) = true) := hide (decide_eq_true rfl)
  simp only [List.append]
  go_region_held3 (fun w' => w'.cell? ⟨k1, 0, none⟩ = some (.int .i64 bn) ∧ w'.cell? ⟨k1, 1, none⟩ = some (.int .i64 bd) ∧ w'.cell? ⟨k2, 0, none⟩ = some (.int .i64 bn) ∧ w'.cell? ⟨k2, 1, none⟩ = some (.int .i64 bd) ∧ w'.cell? ⟨k4, 0, none⟩ = some (.string t.fWho) ∧ w'.cell? ⟨k4, 1, none⟩ = some (.int .i64 t.fMany) ∧ w'.cell? ⟨k4, 2, none⟩ = some (.int .i64 t.fEach) ∧ w'.cell? ⟨k4, 3, none⟩ = some (.int .i64 t.fFrom) ∧ w'.cell? ⟨k4, 4, none⟩ = some (.int .i64 t.fDue)) (first | go_keep | exact hS.out _ hXk1.out hXk2.out hXk4.out) (first | (go_at_call 17; (with_reducible refine (sSame_any A3 m3 d3 q3 A4 m3 d4 q3 _ (by omega) (by omega) hF3.out hF3.out hY.out hZ.out).mono ?_); rw [es3.out]; rintro e w1 ⟨rfl, hb⟩; replace hXk1 := hide (keepr' hXk1.out hb); replace hXk2 := hide (keepr' hXk2.out hb); replace hXk3 := hide (keepr' hXk3.out hb); replace hXk4 := hide (keepr' hXk4.out hb); replace hL := hide (hL.out.go hb); replace hA := hide (hA.out.go hb); replace hY := hide (hY.out.go hb); replace hZ := hide (hZ.out.go hb); replace hb1 := hide (hb1.out.go hb); replace hb2 := hide (hb2.out.go hb); replace hB := hide (Below.up hB.out hb); clear hb a0 a1 b0 b1 c0 c1 c2 c3 c4; obtain ⟨a0, a1, b0, b1, c0, c1, c2, c3, c4⟩ := hS.out _ hXk1.out hXk2.out hXk4.out) | (go_at_call 17; (with_reducible refine (sSame_any A5 m5 d5 q5 A6 m6 d6 q6 _ (by omega) (by omega) hF5.out hF6.out hb1.out hb2.out).mono ?_); rw [esb.out]; rintro e w1 ⟨rfl, hb⟩; replace hXk1 := hide (keepr' hXk1.out hb); replace hXk2 := hide (keepr' hXk2.out hb); replace hXk3 := hide (keepr' hXk3.out hb); replace hXk4 := hide (keepr' hXk4.out hb); replace hL := hide (hL.out.go hb); replace hA := hide (hA.out.go hb); replace hY := hide (hY.out.go hb); replace hZ := hide (hZ.out.go hb); replace hb1 := hide (hb1.out.go hb); replace hb2 := hide (hb2.out.go hb); replace hB := hide (Below.up hB.out hb); clear hb a0 a1 b0 b1 c0 c1 c2 c3 c4; obtain ⟨a0, a1, b0, b1, c0, c1, c2, c3, c4⟩ := hS.out _ hXk1.out hXk2.out hXk4.out) | (go_at_call 18; (with_reducible refine (iSame_any A5 m5 d5 q5 A6 m6 d6 q6 _ (by omega) (by omega) hF5.out hF6.out hb1.out hb2.out).mono ?_); rw [esb.out]; rintro e w1 ⟨rfl, hb⟩; replace hXk1 := hide (keepr' hXk1.out hb); replace hXk2 := hide (keepr' hXk2.out hb); replace hXk3 := hide (keepr' hXk3.out hb); replace hXk4 := hide (keepr' hXk4.out hb); replace hL := hide (hL.out.go hb); replace hA := hide (hA.out.go hb); replace hY := hide (hY.out.go hb); replace hZ := hide (hZ.out.go hb); replace hb1 := hide (hb1.out.go hb); replace hb2 := hide (hb2.out.go hb); replace hB := hide (Below.up hB.out hb); clear hb a0 a1 b0 b1 c0 c1 c2 c3 c4; obtain ⟨a0, a1, b0, b1, c0, c1, c2, c3, c4⟩ := hS.out _ hXk1.out hXk2.out hXk4.out) | (go_at_call 19; (with_reducible refine (iOrderT_any t _ ht' (hGh.out.below hB.out)).mono ?_); rw [eTT.out]; rintro e w1 ⟨rfl, hb⟩; replace hXk1 := hide (keepr' hXk1.out hb); replace hXk2 := hide (keepr' hXk2.out hb); replace hXk3 := hide (keepr' hXk3.out hb); replace hXk4 := hide (keepr' hXk4.out hb); replace hL := hide (hL.out.go hb); replace hA := hide (hA.out.go hb); replace hY := hide (hY.out.go hb); replace hZ := hide (hZ.out.go hb); replace hb1 := hide (hb1.out.go hb); replace hb2 := hide (hb2.out.go hb); replace hB := hide (Below.up hB.out hb); clear hb a0 a1 b0 b1 c0 c1 c2 c3 c4; obtain ⟨a0, a1, b0, b1, c0, c1, c2, c3, c4⟩ := hS.out _ hXk1.out hXk2.out hXk4.out) | (go_at_call 20; (with_reducible refine (sOrderT_any t _ ht').mono ?_); rw [eTT.out]; rintro e w1 ⟨rfl, hb⟩; replace hXk1 := hide (keepr' hXk1.out hb); replace hXk2 := hide (keepr' hXk2.out hb); replace hXk3 := hide (keepr' hXk3.out hb); replace hXk4 := hide (keepr' hXk4.out hb); replace hL := hide (hL.out.go hb); replace hA := hide (hA.out.go hb); replace hY := hide (hY.out.go hb); replace hZ := hide (hZ.out.go hb); replace hb1 := hide (hb1.out.go hb); replace hb2 := hide (hb2.out.go hb); replace hB := hide (Below.up hB.out hb); clear hb a0 a1 b0 b1 c0 c1 c2 c3 c4; obtain ⟨a0, a1, b0, b1, c0, c1, c2, c3, c4⟩ := hS.out _ hXk1.out hXk2.out hXk4.out) | (go_at_call 21; (with_reducible refine (iOrders_any B m d q _ (by omega) hF.out hL.out).mono ?_); rw [eob.out]; rintro e w1 ⟨rfl, hb⟩; replace hXk1 := hide (keepr' hXk1.out hb); replace hXk2 := hide (keepr' hXk2.out hb); replace hXk3 := hide (keepr' hXk3.out hb); replace hXk4 := hide (keepr' hXk4.out hb); replace hL := hide (hL.out.go hb); replace hA := hide (hA.out.go hb); replace hY := hide (hY.out.go hb); replace hZ := hide (hZ.out.go hb); replace hb1 := hide (hb1.out.go hb); replace hb2 := hide (hb2.out.go hb); replace hB := hide (Below.up hB.out hb); clear hb a0 a1 b0 b1 c0 c1 c2 c3 c4; obtain ⟨a0, a1, b0, b1, c0, c1, c2, c3, c4⟩ := hS.out _ hXk1.out hXk2.out hXk4.out) | (go_at_call 22; (with_reducible refine (sValidOrders_any B m d q _ (by omega) hF.out hL.out).mono ?_); rw [eob.out]; rintro e w1 ⟨rfl, hb⟩; replace hXk1 := hide (keepr' hXk1.out hb); replace hXk2 := hide (keepr' hXk2.out hb); replace hXk3 := hide (keepr' hXk3.out hb); replace hXk4 := hide (keepr' hXk4.out hb); replace hL := hide (hL.out.go hb); replace hA := hide (hA.out.go hb); replace hY := hide (hY.out.go hb); replace hZ := hide (hZ.out.go hb); replace hb1 := hide (hb1.out.go hb); replace hb2 := hide (hb2.out.go hb); replace hB := hide (Below.up hB.out hb); clear hb a0 a1 b0 b1 c0 c1 c2 c3 c4; obtain ⟨a0, a1, b0, b1, c0, c1, c2, c3, c4⟩ := hS.out _ hXk1.out hXk2.out hXk4.out) | fail)
  clear hneq ncb nTT nob nsb a0 a1 b0 b1 c0 c1 c2 c3 c4
  obtain ⟨b0, b1, bff⟩ := brow2 hXk2.out
  have p1 := hP1.out
  rw [ecb.out, ecc.out, efk.out, efd.out, efc.out, ebn.out, ebd.out, ebc.out] at p1
  rcases p1 with ⟨z1, z2, z3⟩ | ⟨z1, z2, z3, zb⟩ | ⟨z1, z2, z3, zb, x0, f0, fx, f1, f2, f3⟩
  · go_wp2
    go_quiet (fail)
    skip
    by_cases ht0 : tc = 0
    · obtain ⟨y1, y2, y3⟩ := take_plain (etc.out.trans ht0)
      rw [eq3.out] at y1 y2 y3
      rw [em3.out, hlen2.out] at y3
      have hY2 := hY.out.go (below_drewN (Below.refl _ _) 1)
      have hz1 := hide y1
      have hz2 := hide y2
      clear y1 y2
      have hm1 : IntKind.i64.wrap ((m2 : Int) + 1) = (m2 : Int) + 1 := IntWalk.i64_in _ (by omega)
      have hm2 : ((m3 : Int) == (m2 : Int) + 1) = true := by rw [beq_iff_eq]; omega
      clear y3
      go_wp2_with fail
      refine (iCan_any A3 m3 d3 q3 _ (by omega) hF3.out (hY.out.go (below_drewN (Below.refl _ _) _))).mono ?_
      rw [hz1.out, hz2.out]
      rintro e w9 ⟨rfl, hb⟩
      replace hB := hide (Below.up (Below.up hB.out (below_drewN (Below.refl _ _) _)) hb)
      clear hb
      go_wp2
      go_ret
      exact ⟨rfl, hB.out⟩
    · have ht1 : (tc != 0) = true := bne_iff_ne.2 ht0
      clear ht0
      go_wp2
      go_ret
      exact ⟨rfl, Below.up hB.out (below_drewN (Below.refl _ _) _)⟩
  · rcases zb with ⟨zb, zl⟩ | zb
    all_goals
      go_wp2
      go_quiet (fail)
      by_cases ht0 : tc = 0
      · obtain ⟨y1, y2, y3⟩ := take_plain (etc.out.trans ht0)
        rw [eq3.out] at y1 y2 y3
        rw [em3.out, hlen2.out] at y3
        have hY2 := hY.out.go (below_drewN (Below.refl _ _) 1)
        have hz1 := hide y1
        have hz2 := hide y2
        clear y1 y2
        have hm1 : IntKind.i64.wrap ((m2 : Int) + 1) = (m2 : Int) + 1 := IntWalk.i64_in _ (by omega)
        have hm2 : ((m3 : Int) == (m2 : Int) + 1) = true := by rw [beq_iff_eq]; omega
        clear y3
        go_wp2_with fail
        refine (iCan_any A3 m3 d3 q3 _ (by omega) hF3.out (hY.out.go (below_drewN (Below.refl _ _) _))).mono ?_
        rw [hz1.out, hz2.out]
        rintro e w9 ⟨rfl, hb⟩
        replace hB := hide (Below.up (Below.up hB.out (below_drewN (Below.refl _ _) _)) hb)
        clear hb
        go_wp2
        go_ret
        exact ⟨rfl, hB.out⟩
      · have ht1 : (tc != 0) = true := bne_iff_ne.2 ht0
        clear ht0
        go_wp2
        go_ret
        exact ⟨rfl, Below.up hB.out (below_drewN (Below.refl _ _) _)⟩
  · obtain ⟨bq, oq, x1, hBq, _, hx1, g0, g1, g2, g3, g4⟩ := hL.out.Order (k := fk.toNat) (by have := lt_of_get fx; have := hL.out.len; omega)
    rw [fx] at hx1
    cases hx1
    subst hBq
    have hlm := lt_of_get fx
    have hlm2 := hL.out.len
    have hk1 : fk < (m : Int) := by omega
    have hw : IntKind.i64.wrap (x0.fMany * x0.fEach) = x0.fMany * x0.fEach := IntWalk.i64_in _ (by omega)
    have gd1 : decide (fd < 1) = false := decide_eq_false (by omega)
    have gd2 : decide (x0.fMany * x0.fEach < fd) = false := decide_eq_false (by omega)
    clear fx hlm hlm2 g0 g3 g4
    rcases zb with ⟨zb, zl⟩ | zb
    all_goals
      go_wp2
      go_quiet (fail)
      clear hw gd1 gd2 g1 g2
      by_cases ht0 : tc = 0
      · obtain ⟨y1, y2, y3⟩ := take_plain (etc.out.trans ht0)
        rw [eq3.out] at y1 y2 y3
        rw [em3.out, hlen2.out] at y3
        have hY2 := hY.out.go (below_drewN (Below.refl _ _) 1)
        have hz1 := hide y1
        have hz2 := hide y2
        clear y1 y2
        have hm1 : IntKind.i64.wrap ((m2 : Int) + 1) = (m2 : Int) + 1 := IntWalk.i64_in _ (by omega)
        have hm2 : ((m3 : Int) == (m2 : Int) + 1) = true := by rw [beq_iff_eq]; omega
        clear y3
        go_wp2_with fail
        refine (iCan_any A3 m3 d3 q3 _ (by omega) hF3.out (hY.out.go (below_drewN (Below.refl _ _) _))).mono ?_
        rw [hz1.out, hz2.out]
        rintro e w9 ⟨rfl, hb⟩
        replace hB := hide (Below.up (Below.up hB.out (below_drewN (Below.refl _ _) _)) hb)
        clear hb
        go_wp2
        go_ret
        exact ⟨rfl, hB.out⟩
      · have ht1 : (tc != 0) = true := bne_iff_ne.2 ht0
        clear ht0
        go_wp2
        go_ret
        exact ⟨rfl, Below.up hB.out (below_drewN (Below.refl _ _) _)⟩
end Go.Proofs.YtnfbeobdoieeiaaDoor
