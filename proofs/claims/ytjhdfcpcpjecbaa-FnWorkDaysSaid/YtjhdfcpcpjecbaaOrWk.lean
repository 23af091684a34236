/- FnWorkDays: the drawn orders, the plan's own facts, the walk. -/
import Derived.Test.YtjhdfcpcpjecbaaOrdG
import Derived.Test.YtjhdfcpcpjecbaaOrZ
namespace Go.Proofs.Ytjhdfcpcpjecbaa
open Go.ChangeShapes Go.WideShapes Go.ChangeAt Go.RowKit Go.Deep
set_option maxRecDepth 100000
theorem f6ints_any (A A' : Option Addr) (n c n' c' : Nat) (l l' : List Int) (w : World) (hn : n ≤ 1048576) (hr : Arr i64c 1 w w.heap.size A n l) (hr' : Arr i64c 1 w w.heap.size A' n' l') :
    Calls Try.prog 10 #[.slice A n c, .slice A' n' c'] w fun e w' => e = .returned (.bool (decide (l = l'))) ∧ Below w.heap.size w w' := by
  have hl := hide hr.len
  have hl' := hide hr'.len
  by_cases hne : n = n'
  · subst hne
    have hpost : Hid (l = l' ↔ l.take n = l'.take n) := by
      have h1 := hl.out; have h2 := hl'.out
      show _ ↔ _
      rw [List.take_of_length_le (by omega), List.take_of_length_le (by omega)]
    go_enter Try.func10, Try.ntmps10
    go_wp2
    go_loopw [5] (fun i wr => ∃ k : Nat, k ≤ n ∧ i = .int .i64 k ∧ Below w.heap.size w wr ∧ Hid (l.take k = l'.take k)) (fun i _ => n - (intOf i).toNat)
    case atStart => exact ⟨0, Nat.zero_le _, rfl, Below.refl _ _, hide (by simp)⟩
    case round =>
      obtain ⟨k, hk, rfl, hb, hpre⟩ := hrel
      by_cases hlt : k < n
      · obtain ⟨b, o, x, rfl, hbl, hx, c0⟩ := hr.int hlt
        obtain ⟨b', o', y, rfl, hbl', hy, f0⟩ := hr'.int hlt
        have d0 : wr.cell? ⟨b, o + k, none⟩ = some (.int .i64 x) := (hb.cell (p := ⟨b, o + k, none⟩) hbl).trans c0
        have g0 : wr.cell? ⟨b', o' + k, none⟩ = some (.int .i64 y) := (hb.cell (p := ⟨b', o' + k, none⟩) hbl').trans f0
        have hX := hide hx
        have hY := hide hy
        have hB := hide hb
        clear c0 f0 hr hr' hx hy hb
        have hlt' : (k : Int) < (n : Int) := by omega
        have hk0 : (0 : Int) ≤ (k : Int) := by omega
        by_cases hxy : x = y
        · subst hxy
          go_wp2
          go_quiet (fail)
          go_wp2
          go_roundw
          case rel => exact ⟨k + 1, by omega, by go_num, below_drewN hB.out _, hide (by rw [take_snoc hX.out, take_snoc hY.out, hpre.out])⟩
          case measure => simp [intOf]; omega
        · have e1 : (x != y) = true := by simp [hxy]
          have hd : Hid (decide (l = l') = false) := decide_eq_false fun he => by
            subst he
            rw [hX.out] at hY
            exact hxy (Option.some.inj hY.out)
          clear hxy
          go_wp2
          go_quiet (fail)
          go_wp2
          go_ret
          exact ⟨retB hd.out.symm, below_drewN hB.out _⟩
      · have hkn : k = n := by omega
        subst hkn
        have hB := hide hb
        clear hb
        go_wp2
        go_ret
        exact ⟨retB (Eq.symm (decide_eq_true (hpost.out.2 hpre.out))), hB.out⟩
  · have e1 : ((n : Int) != (n' : Int)) = true := by simp; omega
    have hd : Hid (decide (l = l') = false) := decide_eq_false fun he => hne (by rw [← hl.out, ← hl'.out, he])
    clear hne
    go_enter Try.func10, Try.ntmps10
    go_wp2
    go_ret
    exact ⟨retB hd.out.symm, Below.refl _ _⟩
set_option maxHeartbeats 1000000 in
theorem f6sum_any (A : Option Addr) (n c : Nat) (l : List Int) (w : World) (hn : n ≤ 1048576) (hbnd : ∀ z ∈ l, 0 ≤ z ∧ z ≤ 2000) (hlen : l.length ≤ 30) (hr : Arr i64c 1 w w.heap.size A n l) :
    Calls Try.prog 11 #[.slice A n c] w fun e w' => e = .returned (.int .i64 (sumOf id l)) ∧ Below w.heap.size w w' := by
  have hl := hide hr.len
  go_enter Try.func11, Try.ntmps11
  go_wp2
  go_loopw [3, 4] (fun q i wr => ∃ (k : Nat) (z : Int), k ≤ n ∧ i = .int .i64 k ∧ q = .int .i64 z ∧ Below w.heap.size w wr ∧ Hid (z = sumOf id (l.take k))) (fun _ i _ => n - (intOf i).toNat)
  case atStart => exact ⟨0, 0, Nat.zero_le _, rfl, rfl, Below.refl _ _, hide rfl⟩
  case round =>
    obtain ⟨k, z, hk, rfl, rfl, hb, hz2⟩ := hrel
    by_cases hlt : k < n
    · obtain ⟨b, o, x, rfl, hbl, hx, c0⟩ := hr.int hlt
      have g0 : wr.cell? ⟨b, o + k, none⟩ = some (.int .i64 x) := (hb.cell (p := ⟨b, o + k, none⟩) hbl).trans c0
      have hX := hide hx
      have hB := hide hb
      have hzb : 0 ≤ z ∧ z ≤ 60000 := by rw [hz2.out]; exact sumOf_take_bound (M := 2000) (N := 30) hbnd hlen (by omega) k
      have hxb := hbnd x (List.mem_of_getElem? hx)
      clear hr hb hx c0
      go_wp2
      go_roundw
      case rel => exact ⟨k + 1, z + x, by omega, by go_num, rfl, hB.out, hide (by rw [sumOf_snoc hX.out, ← hz2.out]; rfl)⟩
      case measure => simp [intOf]; omega
    · have hkn : k = n := by omega
      subst hkn
      have hB := hide hb
      clear hb
      go_wp2
      go_ret
      exact ⟨by rw [hz2.out, List.take_of_length_le (by rw [hl.out]; exact Nat.le_refl _)]; rfl, hB.out⟩
def DrewOs (w : World) (e : Ending) (w' : World) : Prop := ∃ (A : Option Addr) (n c : Nat) (l : List Order), e = .returned (.slice A n c) ∧ n ≤ 100 ∧ Arr Order.cells 5 w' w'.heap.size A n l ∧ (∀ x ∈ l, x.fits) ∧ Below w.heap.size w w'
theorem drawWork_any (w : World) (A : Option Addr) (n c : Nat) (l : List Int) (hr : Arr u8c 1 w w.heap.size A n l) (hl : byteL l) (hc : c ≤ maxLen) (hn : n ≤ c) :
    Calls Try.prog 5 #[.slice A n c] w fun e w' => DrewOs w e w' := by
  go_enter Try.func5, Try.ntmps5
  go_wp2_with fail
  refine (from_any _ A n c l hr hl hc hn).mono ?_
  rintro e w1 ⟨rfl, hb, hsz, hs1⟩
  have hD : Hid (DS w w1 w.heap.size 0) := hide ⟨hb, Nat.le_refl _, hs1⟩
  obtain ⟨g, hg⟩ : ∃ g, g = w.heap.size := ⟨_, rfl⟩
  rw [← hg] at hD ⊢
  have hgw : Hid (w.heap.size ≤ g) := hide (Nat.le_of_eq hg.symm)
  clear hb hs1 hg hsz
  go_wp2_with fail
  refine (draw24_any _ g _ hD.out.2.2 (by omega)).mono ?_
  rintro e w2 ⟨B, k, d, q, rfl, hk, ho, hf, hg, hs⟩
  have hR := hide (ho.arr Order.len)
  replace hD := hide (hD.out.step hg hs)
  clear ho hg hs
  go_wp2
  go_ret
  exact ⟨B, k, d, q, rfl, hk, hR.out, fun x hx => Nat.le_trans (hf x hx) (by unfold maxLen; omega), hD.out.1⟩
theorem pickTo_from (l : List Order) (left : List Int) (day : Int) (k : Nat) (h : 0 ≤ pickTo l left day k) : ∃ x, l[(pickTo l left day k).toNat]? = some x ∧ x.fFrom ≤ day := by
  induction k with
  | zero => simp [pickTo] at h
  | succ k ih =>
    cases hx : l[k]? with
    | none => have e : pickTo l left day (k + 1) = pickTo l left day k := by simp [pickTo, hx]
              rw [e] at h ⊢; exact ih h
    | some x =>
      cases hz : left[k]? with
      | none => have e : pickTo l left day (k + 1) = pickTo l left day k := by simp [pickTo, hx, hz]
                rw [e] at h ⊢; exact ih h
      | some z =>
        by_cases hc : x.fFrom ≤ day ∧ 0 < z ∧ better l (pickTo l left day k) x = true
        · rw [pickTo_yes hx hz hc.1 hc.2.1 hc.2.2]
          exact ⟨x, by simpa using hx, hc.1⟩
        · rw [pickTo_no hx hz hc] at h ⊢
          exact ih h
/-- Days worked by then on each order. -/
def doneTo (l : List Order) (d : Nat) : List Int := List.zipWith (fun x z => dayF x - z) l (planTo l d).left
theorem done_len (l : List Order) (d : Nat) : (doneTo l d).length = l.length := by simp [doneTo, planTo_left_len]
theorem done_zero (l : List Order) : doneTo l 0 = List.replicate l.length 0 := by
  apply List.ext_getElem?
  intro i
  simp only [doneTo, planTo, List.getElem?_zipWith, List.getElem?_map]
  cases h : l[i]? with
  | none => have := List.getElem?_eq_none_iff.1 h; rw [List.getElem?_eq_none (by simp; omega)]
  | some x => have := lt_of_get h; rw [List.getElem?_replicate, if_pos this]; simp
theorem days_at (l : List Order) (D d : Nat) (h : d < D) : (planTo l D).days[d]? = some (planPick l (planTo l d) d) := by
  induction D with
  | zero => omega
  | succ D ih =>
    have hl := planTo_days_len l D
    show ((planTo l D).days ++ [planPick l (planTo l D) D])[d]? = _
    by_cases hd : d < D
    · rw [List.getElem?_append_left (by omega)]; exact ih hd
    · obtain rfl : d = D := by omega
      rw [List.getElem?_append_right (by omega), hl]; simp
theorem done_skip (l : List Order) (d : Nat) (h : planPick l (planTo l d) d = -1) : doneTo l (d + 1) = doneTo l d := by
  have e : (planTo l (d + 1)).left = (planTo l d).left := by
    show decr (planTo l d).left (planPick l (planTo l d) d) = _
    rw [h]; rfl
  unfold doneTo; rw [e]
theorem done_step (l : List Order) (d k : Nat) (h : planPick l (planTo l d) d = k) (hk : k < l.length) : ∃ y : Int, (doneTo l d)[k]? = some y ∧ doneTo l (d + 1) = (doneTo l d).set k (y + 1) := by
  have hll := planTo_left_len l d
  have hx : l[k]? = some l[k] := List.getElem?_eq_getElem hk
  have hz : (planTo l d).left[k]? = some ((planTo l d).left[k]'(by omega)) := List.getElem?_eq_getElem _
  generalize (planTo l d).left[k]'(by omega) = z at hz
  have e : (planTo l (d + 1)).left = (planTo l d).left.set k (z - 1) := by
    show decr (planTo l d).left (planPick l (planTo l d) d) = _
    rw [h]
    unfold decr
    rw [if_pos (by omega), Int.toNat_natCast, List.getD_eq_getElem?_getD, hz, Option.getD_some]
  refine ⟨dayF l[k] - z, by unfold doneTo; rw [List.getElem?_zipWith, hx, hz], ?_⟩
  unfold doneTo
  rw [e]
  apply List.ext_getElem?
  intro i
  rw [List.getElem?_zipWith]
  by_cases hik : k = i
  · subst hik
    rw [List.getElem?_set_self (by omega), List.getElem?_set_self (by simp; omega), hx]
    show some (dayF l[k] - (z - 1)) = _
    congr 1
    omega
  · rw [List.getElem?_set_ne hik, List.getElem?_set_ne hik, List.getElem?_zipWith]
theorem done_all {l : List Order} (h : ∀ x ∈ l, 0 ≤ dayF x ∧ dayF x ≤ 2000) (d i : Nat) (y : Int) (x : Order) (hy : (doneTo l d)[i]? = some y) (hx : l[i]? = some x) : y ≤ dayF x := by
  unfold doneTo at hy
  rw [List.getElem?_zipWith, hx] at hy
  cases hz : (planTo l d).left[i]? with
  | none => rw [hz] at hy; cases hy
  | some z =>
    rw [hz] at hy
    have h2 : dayF x - z = y := by simpa using hy
    have := (planTo_left_all h d z (List.mem_of_getElem? hz)).1
    omega
theorem done_low {l : List Order} (d : Nat) : ∀ y ∈ doneTo l d, 0 ≤ y := by
  induction d with
  | zero => intro y hy; rw [done_zero] at hy; have := List.eq_of_mem_replicate hy; omega
  | succ d ih =>
    intro y hy
    obtain ⟨b0, b1⟩ := pickTo_bound l (planTo l d).left d l.length
    by_cases hp : planPick l (planTo l d) d = -1
    · rw [done_skip l d hp] at hy; exact ih y hy
    · obtain ⟨k, hk⟩ := Int.eq_ofNat_of_zero_le (show 0 ≤ planPick l (planTo l d) d by unfold planPick at hp ⊢; omega)
      have hkl : k < l.length := by unfold planPick at hk; omega
      obtain ⟨y0, h0, h1⟩ := done_step l d k hk hkl
      rw [h1] at hy
      rcases List.mem_or_eq_of_mem_set hy with h | h
      · exact ih y h
      · have := ih y0 (List.mem_of_getElem? h0); omega
theorem sum_zip_le {l : List Order} {z : List Int} (hz : ∀ y ∈ z, 0 ≤ y) (hl : z.length = l.length) : sumOf id (List.zipWith (fun x z => dayF x - z) l z) ≤ sumOf dayF l := by
  induction l generalizing z with
  | nil => simp [sumOf]
  | cons x l ih =>
    cases z with
    | nil => simp at hl
    | cons y z =>
      have h1 := ih (z := z) (fun q hq => hz q (by simp [hq])) (by simpa using hl)
      have h2 := hz y (by simp)
      simp only [sumOf, List.zipWith_cons_cons, List.map_cons, List.sum_cons, id] at h1 ⊢
      omega
theorem done_sum {l : List Order} (h : ∀ x ∈ l, 0 ≤ dayF x ∧ dayF x ≤ 2000) (d : Nat) : sumOf id (doneTo l d) ≤ sumOf dayF l :=
  sum_zip_le (fun y hy => (planTo_left_all h d y hy).1) (planTo_left_len l d)
theorem big_any (A : Option Addr) (n c : Nat) (w : World) : Calls Try.prog 4 #[.slice A n c] w fun e w' => e = .returned (.bool (decide (4096 < (n : Int)))) ∧ w = w' := by
  go_enter Try.func4, Try.ntmps4
  go_wp2
  go_ret
  exact ⟨rfl, rfl⟩
theorem bytes_ok {l : List Int} (h : ∀ x ∈ l, (Lit.int .u8 x).wf = true) : byteL l := fun x hx => by
  have h1 := h x hx
  unfold Lit.wf at h1
  rw [Bool.and_eq_true, decide_eq_true_eq, decide_eq_true_eq] at h1
  have e1 : IntKind.u8.min = 0 := by decide
  have e2 : IntKind.u8.max = 255 := by decide
  rw [e1, e2] at h1
  exact h1
theorem work_facts (q : List Order) : ∃ (M : List Int) (wc dn dc : Int), mWork q = M ∧ mWorkC q = wc ∧ mDays q = (dn, dc) ∧ M.length ≤ 1048576 ∧ ((wc == 0) = false ∨ (wc = 0 ∧ ∃ D : Nat, M = (planTo q D).days ∧ D ≤ 5000 ∧ dn = sumOf dayF q ∧ q.length ≤ 30 ∧ ∀ x ∈ q, 0 ≤ dayF x ∧ dayF x ≤ 2000)) := by
  refine ⟨mWork q, mWorkC q, (mDays q).1, (mDays q).2, rfl, rfl, rfl, mWork_len q, ?_⟩
  unfold mWork mWorkC mDays
  cases hok : ordersOk q
  · exact .inl rfl
  · simp only [if_true]
    have h1 := mPlan_days hok
    have h2 : (mPlan q).days.length = (lastDue q).toNat := planTo_days_len q _
    exact .inr ⟨trivial, (lastDue q).toNat, rfl, by omega, trivial, orders_len hok, dayF_all hok⟩
set_option maxHeartbeats 4000000 in
theorem walkWorkDays (w : World) (A : Option Addr) (n c : Nat) (l : List Int) (hc : n ≤ c) (hm : c ≤ maxLen) (hq : ∀ x ∈ l, (Lit.int .u8 x).wf = true) (hr : Arr u8c 1 w w.heap.size A n l) :
    Calls Try.prog 3 #[.slice A n c] w fun e w' => e = .returned (.bool true) ∧ Below w.heap.size w w' := by
  have hl := bytes_ok hq
  clear hq
  have hB := hide (Below.refl w.heap.size w)
  go_enter Try.func3, Try.ntmps3
  go_wp2_with fail
  refine (big_any A n c _).mono ?_
  rintro e w1 ⟨rfl, rfl⟩
  by_cases hbig : 4096 < (n : Int)
  · rw [decide_eq_true hbig]
    go_wp2
    go_ret
    exact ⟨rfl, hB.out⟩
  rw [decide_eq_false hbig]
  go_wp2_with fail
  refine (drawWork_any _ A n c l (hr.go hB.out) hl hm hc).mono ?_
  rintro e w1 ⟨B, kn, kd, q, rfl, hk, hp, hf, hb⟩
  have hP := hide hp
  have hF := hide hf
  clear hp hf
  replace hB := hide (Below.up hB.out hb)
  clear hb
  obtain ⟨M, wc, dn, dc, hM, hW, hDs, hMl, hfac0⟩ := work_facts q
  have hfac := hide hfac0
  clear hfac0
  go_wp2_with fail
  refine (iWork_any B kn kd q _ (by omega) hF.out hP.out).mono ?_
  rw [hM, hW]
  rintro e w2 ⟨v1, rfl, hv, hb⟩
  obtain ⟨A1, c1, rfl, _⟩ := hv.slice
  have hV := hide (hv.arr i64c_len)
  replace hP := hide (hP.out.go hb)
  replace hB := hide (Below.up hB.out hb)
  clear hv hb
  go_wp2_with fail
  refine (sWork_any B kn kd q _ (by omega) hF.out hP.out).mono ?_
  rw [hM, hW]
  rintro e w3 ⟨v2, rfl, hv, hb⟩
  obtain ⟨A2, c2, rfl, _⟩ := hv.slice
  have hU := hide (hv.arr i64c_len)
  replace hP := hide (hP.out.go hb)
  replace hV := hide (hV.out.go hb)
  replace hB := hide (Below.up hB.out hb)
  clear hv hb
  go_wp2_with fail
  refine (iDays_any B kn kd q _ (by omega) hF.out hP.out).mono ?_
  rw [hDs]
  rintro e w3 ⟨rfl, hb⟩
  replace hP := hide (hP.out.go hb)
  replace hV := hide (hV.out.go hb)
  replace hU := hide (hU.out.go hb)
  replace hB := hide (Below.up hB.out hb)
  clear hb
  go_wp2_with fail
  refine (sDays_any B kn kd q _ (by omega) hF.out hP.out).mono ?_
  rw [hDs]
  rintro e w3 ⟨rfl, hb⟩
  replace hP := hide (hP.out.go hb)
  replace hV := hide (hV.out.go hb)
  replace hU := hide (hU.out.go hb)
  replace hB := hide (Below.up hB.out hb)
  clear hb
  clear hM hW hDs
  go_wp2_with fail
  refine (f6ints_any A1 A2 _ c1 _ c2 M M _ hMl hV.out hU.out).mono ?_
  rw [decide_eq_true rfl]
  rintro e w3 ⟨rfl, hb⟩
  replace hP := hide (hP.out.go hb)
  replace hU := hide (hU.out.go hb)
  replace hB := hide (Below.up hB.out hb)
  clear hb hV
  rcases hfac.out with h0 | ⟨rfl, D, hMD, hD, hdn, hql, hdf⟩
  · clear hfac
    go_wp2
    go_ret
    exact ⟨rfl, hB.out⟩
  clear hfac
  have hLD : Hid (M.length = D) := hide (by rw [hMD]; exact planTo_days_len q D)
  have hMD' := hide hMD
  have hdn' := hide hdn
  have hdf' := hide hdf
  have hkn : kn ≤ 30 := by rw [← hP.out.len]; exact hql
  have hqn : Hid (q.length = kn) := hide hP.out.len
  obtain ⟨ml, hml⟩ : ∃ ml, ml = M.length := ⟨_, rfl⟩
  rw [← hml] at hU ⊢
  have hmlD : Hid (ml = D) := hide (hml.trans hLD.out)
  clear hMD hdn hdf hql hml
  go_upto_region 12 with fail
  obtain ⟨wz, hwz⟩ : ∃ wz : World, wz = w3 := ⟨_, rfl⟩
  rw [← hwz] at hP hU hB ⊢
  clear hwz
  go_wp2
  go_loopw [12, 13] (fun v i wr => ∃ j : Nat, j ≤ kn ∧ i = .int .i64 j ∧ Below wz.heap.size wz wr ∧ Own i64c 2 1 wr wz.heap.size v j (List.replicate j 0)) (fun _ i _ => kn - (intOf i).toNat)
  case atStart => exact ⟨0, Nat.zero_le _, rfl, (Below.refl _ _).alloc (Nat.le_refl _) _, Own.none_made _ (Nat.le_refl _)⟩
  case round =>
    obtain ⟨j, hj, rfl, hb, ho⟩ := hrel
    have hO := hide ho
    have hE := hide hb
    clear ho hb
    by_cases hlt : j < kn
    · have hlt' : (j : Int) < (kn : Int) := by omega
      go_wp2_with (at_builtin; refine wpl_app2 rfl (.tmp 69) (.tmp 70) _ rfl Try.underlying26 info_int64' rfl (by omega) (by omega) rfl hO.out 0 _ rfl rfl rfl (by simp [i64c, Value.oneCell']) (by omega) hE.out.size ?_; intro v2 w2 ho2 hg2 hat2)
      have hE2 := hide (hO.out.grown hE.out hg2)
      clear hg2 hat2
      go_roundw
      case rel => exact ⟨j + 1, by omega, by go_num, hE2.out, by rw [List.replicate_succ']; exact ho2⟩
      case measure => simp [intOf]; omega
    · have hjk : j = kn := by omega
      subst hjk
      have hO0 : Hid (Own i64c 2 1 wr wz.heap.size u12 j (doneTo q 0)) := hide (by rw [done_zero, hqn.out]; exact hO.out)
      clear hO
      go_wp2
      obtain ⟨wo, hwo⟩ : ∃ wo : World, wo = wr := ⟨_, rfl⟩
      rw [← hwo] at hO0 hE ⊢
      clear hwo
      go_loopw [14] (fun i wr => ∃ d : Nat, d ≤ D ∧ i = .int .i64 d ∧ Below wz.heap.size wz wr ∧ Own i64c 2 1 wr wz.heap.size u12 j (doneTo q d)) (fun i _ => D - (intOf i).toNat)
      case atStart => exact ⟨0, Nat.zero_le _, rfl, hE.out, hO0.out⟩
      case round =>
        obtain ⟨d, hd, rfl, hb, ho⟩ := hrel
        replace hE := hide hb
        have hO := hide ho
        clear ho hb hO0
        have hpl := hide (Arr.below hP.out hE.out)
        have hul := hide (Arr.below hU.out hE.out)
        by_cases hlt : d < D
        · have hlt' : (d : Int) < (ml : Int) := by have := hmlD.out; omega
          have hd0 : (0 : Int) ≤ (d : Int) := by omega
          have hda := days_at q D d hlt
          obtain ⟨b2, o2, p, rfl, _, hp, e0⟩ := hul.out.int (k := d) (by have := hmlD.out; omega)
          rw [hMD'.out, hda] at hp
          have hpp := Option.some.inj hp
          clear hp hul hda
          obtain ⟨q0, q1⟩ := pickTo_bound q (planTo q d).left d q.length
          by_cases hneg : planPick q (planTo q d) d = -1
          · have hsk := hide (done_skip q d hneg)
            rw [hneg] at hpp
            subst hpp
            clear hneg q0 q1
            go_wp2
            go_roundw
            case rel => exact ⟨d + 1, by omega, by go_num, hE.out, by rw [hsk.out]; exact hO.out⟩
            case measure => simp [intOf]; omega
          · obtain ⟨k, hk'⟩ := Int.eq_ofNat_of_zero_le (show 0 ≤ planPick q (planTo q d) d by unfold planPick at hneg ⊢; omega)
            have hkl : k < q.length := by unfold planPick at hk'; omega
            have hkj : k < j := by have := hqn.out; omega
            obtain ⟨y0, hy0, hst⟩ := done_step q d k hk' hkl
            obtain ⟨xf, hxf, hfrom⟩ := pickTo_from q (planTo q d).left d q.length (by unfold planPick at hk'; omega)
            have hxf' : q[k]? = some xf := by unfold planPick at hk'; rw [hk'] at hxf; simpa using hxf
            rw [hk'] at hpp
            subst hpp
            have hst' := hide hst
            obtain ⟨b, o, x, rfl, _, hx, c0, c1, c2, c3, c4⟩ := hpl.out.Order hkj
            rw [hxf'] at hx
            obtain rfl := Option.some.inj hx
            obtain ⟨g6, cap, y, rfl, hg6, _, hy, f0, ff⟩ := hO.out.at' hkj
            rw [hy0] at hy
            obtain rfl := Option.some.inj hy
            have hyb : y0 ≤ 2000 := Int.le_trans (done_all hdf'.out d k y0 xf hy0 hxf') (hdf'.out xf (List.mem_of_getElem? hxf')).2
            have hyl := done_low (l := q) d y0 (List.mem_of_getElem? hy0)
            have hfr : decide ((d : Int) < xf.fFrom) = false := decide_eq_false (by omega)
            have hne1 : ((k : Int) == -1) = false := by simp
            have hwy : IntKind.i64.wrap (y0 + 1) = y0 + 1 := IntWalk.i64_in _ (by omega)
            have hkj' : (k : Int) < (j : Int) := by omega
            have hk0 : (0 : Int) ≤ (k : Int) := by omega
            have hO2 := hide (hO.out.int_store hkj (y0 + 1))
            have hE2 := hide (below_setCell hE.out hg6 (k := k) (.int .i64 (y0 + 1)))
            clear hneg q0 q1 hk' hkl hy0 hst hxf hxf' hx hy hpl hO hfrom c0 c1 c2 c4 hyb hyl
            go_wp2
            go_roundw
            case rel => exact ⟨d + 1, by omega, by go_num, hE2.out, by rw [hst'.out]; exact hO2.out⟩
            case measure => simp [intOf]; omega
        · have hdD : d = D := by omega
          subst hdD
          have hmd : ¬ (d : Int) < (ml : Int) := by have := hmlD.out; omega
          clear hlt hul hpl
          go_wp2
          obtain ⟨wo, hwo⟩ : ∃ wo : World, wo = wr := ⟨_, rfl⟩
          rw [← hwo] at hO hE ⊢
          clear hwo
          go_loopw [16] (fun i wr => ∃ k : Nat, k ≤ j ∧ i = .int .i64 k ∧ Below wz.heap.size wz wr ∧ Own i64c 2 1 wr wz.heap.size u12 j (doneTo q d)) (fun i _ => j - (intOf i).toNat)
          case atStart => exact ⟨0, Nat.zero_le _, rfl, hE.out, hO.out⟩
          case round =>
            obtain ⟨k, hk', rfl, hb, ho⟩ := hrel
            replace hE := hide hb
            replace hO := hide ho
            clear ho hb
            by_cases hlt : k < j
            · have hpl := Arr.below hP.out hE.out
              obtain ⟨b, o, x, rfl, _, hx, c0, c1, c2, c3, c4⟩ := hpl.Order hlt
              obtain ⟨g6, cap, y, rfl, hg6, _, hy, f0, ff⟩ := hO.out.at' hlt
              have hyx := done_all hdf'.out d k y x hy hx
              have hxb := hdf'.out x (List.mem_of_getElem? hx)
              have hwm : IntKind.i64.wrap (x.fMany * x.fEach) = dayF x := IntWalk.i64_in _ (by unfold dayF at hxb; omega)
              have hng : decide (dayF x < y) = false := decide_eq_false (by omega)
              have hkj' : (k : Int) < (j : Int) := by omega
              have hk0 : (0 : Int) ≤ (k : Int) := by omega
              clear hpl hx hy hyx hxb c0 c3 c4
              go_wp2
              go_quiet (fail)
              go_wp2
              exact ⟨⟨k + 1, by omega, by go_num, Below.up hE.out (below_drewN (Below.refl _ _) _), hO.out.below (below_drewN (Below.refl _ _) _)⟩, by simp [intOf]; omega⟩
            · have hkj : ¬ (k : Int) < (j : Int) := by omega
              obtain ⟨A6, c6, hv6, _⟩ := hO.out.slice
              subst hv6
              go_wp2_with fail
              refine (f6sum_any A6 j c6 (doneTo q d) _ (by omega) ?_ ?_ (hO.out.arr i64c_len)).mono ?_
              · intro z hz
                obtain ⟨i, hi⟩ := List.mem_iff_getElem?.1 hz
                have hiq : i < q.length := by rw [← done_len q d]; exact lt_of_get hi
                exact ⟨done_low d z hz, Int.le_trans (done_all hdf'.out d i z q[i] hi (List.getElem?_eq_getElem hiq)) (hdf'.out _ (List.getElem_mem hiq)).2⟩
              · have := hqn.out; have := done_len q d; omega
              rintro e w4 ⟨rfl, hb⟩
              have hsum : decide (sumOf id (doneTo q d) ≤ dn) = true := decide_eq_true (by rw [hdn'.out]; exact done_sum hdf'.out d)
              go_wp2
              go_ret
              exact ⟨rfl, Below.up hB.out (Below.up hE.out hb)⟩
end Go.Proofs.Ytjhdfcpcpjecbaa
