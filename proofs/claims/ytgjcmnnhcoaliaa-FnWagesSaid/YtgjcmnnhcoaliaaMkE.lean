/- The walk of the law FnWages. -/
import Derived.Test.YtgjcmnnhcoaliaaMkA
import Derived.Test.YtgjcmnnhcoaliaaMkB
import Derived.Test.YtgjcmnnhcoaliaaMkD
namespace Go.Proofs.Ytgjcmnnhcoaliaa
open Go.ChangeShapes Go.WideShapes Go.ChangeAt Go.RowKit Go.Deep
set_option maxRecDepth 100000
theorem totF_bound {r : List Rate} {q : List PieceW} (hr : DR r) (hq : DP q) : ∀ x ∈ q, -9 ≤ totF r x ∧ totF r x ≤ 3420 := by
  intro x hx
  have h1 := (rate_draw hr x.fSort).1
  have h2 := (hq.all x hx).2.2.2
  unfold totF
  generalize rateI r x.fSort = a at h1
  have h3 : a * x.fMade ≤ 380 * 9 := by
    rcases Int.lt_or_le a 0 with h | h
    · have := Int.mul_nonneg (a := -a) (b := x.fMade) (by omega) (by omega)
      rw [Int.neg_mul] at this; omega
    · exact Int.mul_le_mul h1.2 h2.2 (by omega) (by omega)
  refine ⟨?_, h3⟩
  rcases Int.lt_or_le a 0 with h | h
  · have e : a = -1 := by omega
    rw [e]; omega
  · have := Int.mul_nonneg (a := a) (b := x.fMade) (by omega) (by omega)
    omega
theorem sum_within {f : PieceW → Int} {q : List PieceW} (h : ∀ x ∈ q, -9 ≤ f x ∧ f x ≤ 3420) : -9 * (q.length : Int) ≤ sumOf f q ∧ sumOf f q ≤ 3420 * q.length := by
  induction q with
  | nil => exact ⟨by simp [sumOf], by simp [sumOf]⟩
  | cons a q ih =>
    have := ih fun x hx => h x (List.mem_cons_of_mem _ hx)
    have := h a List.mem_cons_self
    rw [sumOf_cons', List.length_cons]
    omega
theorem tot_within {r : List Rate} {q : List PieceW} (hr : DR r) (hq : DP q) (k : Nat) : -63 ≤ sumOf (totF r) (q.take k) ∧ sumOf (totF r) (q.take k) ≤ 23940 := by
  have := sum_within (f := totF r) (q := q.take k) fun x hx => totF_bound hr hq x (List.mem_of_mem_take hx)
  have h2 := hq.len
  rw [List.length_take] at this
  omega
theorem wgTo_at {r : List Rate} {q : List PieceW} {N : List ByteArray} {k : Nat} {y : ByteArray} (h : N[k]? = some y) : (wgTo r q N N.length)[k]? = some (sumOf (wgF r y) q) := by
  unfold wgTo
  rw [List.take_length, List.getElem?_map, h]; rfl
theorem wgTo_len {r : List Rate} {q : List PieceW} {N : List ByteArray} : (wgTo r q N N.length).length = N.length := by
  unfold wgTo
  rw [List.take_length, List.length_map]
theorem wgTo_bound {r : List Rate} {q : List PieceW} (hr : DR r) (hq : DP q) (N : List ByteArray) : ∀ x ∈ wgTo r q N N.length, 0 ≤ x ∧ x ≤ 1000000 := by
  intro x hx
  unfold wgTo at hx
  rw [List.take_length] at hx
  obtain ⟨y, _, rfl⟩ := List.mem_map.1 hx
  have hb : ∀ x ∈ q, 0 ≤ wgF r y x ∧ wgF r y x ≤ 3420 := by
    intro x hx
    have h2 := (hq.all x hx).2.2.2
    unfold wgF
    split
    · have h1 : 0 ≤ (rateOf r x.fSort).getD 0 ∧ (rateOf r x.fSort).getD 0 ≤ 380 := by
        cases h : rateOf r x.fSort with
        | none => simp
        | some v =>
          obtain ⟨z, hz, rfl⟩ := rateOf_mem h
          exact hr.cents z hz
      exact ⟨Int.mul_nonneg (by omega) h1.1, Int.mul_le_mul (a := x.fMade) (c := 9) (b := (rateOf r x.fSort).getD 0) (d := 380) h2.2 h1.2 h1.1 (by omega)⟩
    · omega
  have := sumOf_take_bound (M := 3420) (N := 7) hb hq.len (by omega) q.length
  rw [List.take_length] at this
  omega
theorem mNames_some {q : List PieceW} (hq : DP q) : (0 < (mNames q).length ↔ 0 < q.length) ∧ (mNames q).length ≤ 3 := by
  constructor
  · constructor
    · intro h
      obtain ⟨x, hx, _⟩ := List.mem_map.1 (mem_mNames.1 (List.getElem_mem h))
      exact List.length_pos_of_mem hx
    · intro h
      exact List.length_pos_of_mem (mem_mNames.2 (List.mem_map.2 ⟨q[0], List.getElem_mem h, rfl⟩))
  · rw [mNames_eq hq]
    exact Nat.le_trans (List.length_filter_le _ _) (by decide)
theorem unk_facts (r : List Rate) {q : List PieceW} (hq : DP q) : (unkTo r q q.length).length ≤ 7 ∧ (∀ x ∈ unkTo r q q.length, 0 ≤ x ∧ x < (q.length : Int)) := by
  constructor
  · have h1 : ∀ k, (unkTo r q k).length ≤ k := by
      intro k
      induction k with
      | zero => simp [unkTo]
      | succ k ih =>
        rw [unkTo, List.length_append]
        split
        · split <;> simp <;> omega
        · simp; omega
    exact Nat.le_trans (h1 _) hq.len
  · intro x hx
    obtain ⟨i, rfl, hi, _⟩ := (unkTo_mem r q q.length x).1 hx
    omega
theorem unk_at {r : List Rate} {q : List PieceW} (hr : DR r) {k : Nat} {x : PieceW} (h : q[k]? = some x) : ((k : Int) ∈ unkTo r q q.length) ↔ rateI r x.fSort < 0 := by
  rw [unkTo_mem, (rate_draw hr x.fSort).2]
  constructor
  · rintro ⟨i, hi, _, y, hy, he⟩
    have : i = k := by omega
    subst this
    rw [h] at hy
    cases hy; exact he
  · intro he
    exact ⟨k, rfl, lt_of_get h, x, h, he⟩
theorem names_rise (q : List PieceW) {k : Nat} {x y : ByteArray} (hy : (mNames q)[k]? = some y) (hx : (mNames q)[k + 1]? = some x) : Op.bytesLess y.toList x.toList = true := by
  have h1 := List.pairwise_iff_getElem.1 (asc_mNames q) k (k + 1) (lt_of_get hy) (lt_of_get hx) (by omega)
  rw [List.getElem?_eq_getElem (lt_of_get hy)] at hy
  rw [List.getElem?_eq_getElem (lt_of_get hx)] at hx
  rw [← Option.some.inj hy, ← Option.some.inj hx]; exact h1
set_option maxHeartbeats 8000000 in
theorem walkWages (w : World) (A : Option Addr) (n c : Nat) (l : List Int) (hc : n ≤ c) (hm : c ≤ maxLen) (hq : ∀ x ∈ l, (Lit.int .u8 x).wf = true) (hr : Arr u8c 1 w w.heap.size A n l)
    (A' : Option Addr) (n' c' : Nat) (l' : List Int) (hc' : n' ≤ c') (hm' : c' ≤ maxLen) (hq' : ∀ x ∈ l', (Lit.int .u8 x).wf = true) (hr' : Arr u8c 1 w w.heap.size A' n' l') :
    Calls Try.prog 4 #[.slice A n c, .slice A' n' c'] w fun e w' => e = .returned (.bool true) ∧ Below w.heap.size w w' := by
  have hl := bytes_ok hq
  have hl' := bytes_ok hq'
  clear hq hq'
  have hB := hide (Below.refl w.heap.size w)
  go_enter Try.func4, Try.ntmps4
  go_wp2_with fail
  refine (long_any A n c A' n' c' _).mono ?_
  rintro e w1 ⟨rfl, rfl⟩
  cases hbig : (decide (3000 < (n : Int)) || decide (3000 < (n' : Int)))
  case true =>
    go_wp2
    go_ret
    exact ⟨rfl, hB.out⟩
  clear hbig
  go_wp2_with fail
  refine (a2Rates_any _ A n c l (hr.go hB.out) hl hm hc).mono ?_
  rintro e w1 ⟨A1, d1, r, rfl, hp, hI, hrc, hb⟩
  have hR := hide hp
  have hDR := hide hI
  replace hB := hide (Below.up hB.out hb)
  have hlen1 := hI.len
  have hfr := hide hI.fits
  clear hb hp hr hl hc hm hI
  go_wp2_with fail
  refine (a2Pieces_any _ A' n' c' l' (hr'.go hB.out) hl' hm' hc').mono ?_
  rintro e w1 ⟨A2, d2, q, rfl, hp, hI, hqc, hb⟩
  have hP := hide hp
  have hDP := hide hI
  replace hB := hide (Below.up hB.out hb)
  replace hR := hide (hR.out.go hb)
  have hlen2 := hI.len
  have hfq := hide hI.fits
  clear hb hp hc' hm' hI
  have hu0 := unk_facts r hDP.out
  obtain ⟨hU1, hU2, hWY, hWN⟩ := wages_facts hDR.out hDP.out
  obtain ⟨m1, hm1⟩ : ∃ m, m = r.length := ⟨_, rfl⟩
  obtain ⟨m2, hm2⟩ : ∃ m, m = q.length := ⟨_, rfl⟩
  rw [← hm1] at hR hlen1 hrc ⊢
  have hnil := unk_nil r q
  have hatk : ∀ (k : Nat) (x : PieceW), q[k]? = some x → (((k : Int) ∈ unkTo r q q.length) ↔ rateI r x.fSort < 0) := fun k x h => unk_at hDR.out h
  have hrise := unkTo_rise r q q.length
  rw [← hm2] at hP hlen2 hqc hu0 hU1 hnil hatk hrise ⊢
  have hM1 := hide hm1
  have hM2 := hide hm2
  have hATK := hide hatk
  have hUB := hide hu0.2
  have hul := hu0.1
  have hRISE := hide hrise
  obtain ⟨ul, hulE⟩ : ∃ ul, ul = (unkTo r q m2).length := ⟨_, rfl⟩
  rw [← hulE] at hul
  have hULE := hide hulE
  have hNIL := hide hnil
  have hWYh := hide hWY
  have hWNh := hide hWN
  clear hm1 hm2 hatk hu0 hrise hnil hWY hWN
  go_wp2_with fail
  refine (iUnk_any A1 m1 d1 r A2 m2 d2 q _ (by omega) (by omega) hfr.out hfq.out hR.out hP.out).mono ?_
  rw [hU1, hU2, ← hulE]
  rintro e w1 ⟨v1, rfl, hres, hb⟩
  obtain ⟨U, du, rfl, hud⟩ := hres.slice
  have hU := hide (hres.arr i64c_len)
  replace hB := hide (Below.up hB.out hb)
  replace hR := hide (hR.out.go hb)
  replace hP := hide (hP.out.go hb)
  clear hb hres hU1 hU2 hulE
  go_wp2_with fail
  refine (iWages_any A1 m1 d1 r A2 m2 d2 q _ (by omega) (by omega) hfr.out hfq.out hR.out hP.out).mono ?_
  rintro e w1 ⟨v2, v3, rfl, hres, hres2, _, hb⟩
  obtain ⟨F, df, rfl, hfd⟩ := hres.slice
  obtain ⟨G, dg, rfl, hgd⟩ := hres2.slice
  have hF := hide (hres.arr strc_len)
  have hG := hide (hres2.arr i64c_len)
  replace hB := hide (Below.up hB.out hb)
  replace hR := hide (hR.out.go hb)
  replace hP := hide (hP.out.go hb)
  replace hU := hide (hU.out.go hb)
  clear hb hres hres2
  cases hall : wgAll r q
  · have hcode := hWNh.out hall
    have hune : Hid (decide ((ul : Int) = 0) = false) := hide (decide_eq_false (by
      intro h0
      have := hNIL.out.1 (List.eq_nil_of_length_eq_zero (by rw [← hULE.out]; omega))
      rw [hall] at this; cases this))
    rw [hcode]
    clear hcode hF hG hWYh
    have hne := hune.out
    have hne2 : ((ul : Int) == 0) = false := by simpa using hne
    go_wp2_with (first | (go_at_call 14; refine (rises_any U ul du (unkTo r q m2) (m2 : Int) _ (by omega) hU.out hRISE.out hUB.out).mono ?_; rintro e wo ⟨rfl, mm, hmm⟩; have hdr : Below w1.heap.size w1 wo := (by rw [hmm]; exact below_drewN (Below.refl _ _) mm); clear hmm) | fail)
    clear hne hne2
    replace hB := hide (Below.up hB.out hdr)
    replace hR := hide (hR.out.go hdr)
    replace hP := hide (hP.out.go hdr)
    replace hU := hide (hU.out.go hdr)
    clear hdr
    go_wp2
    go_loopw [12, 13] (fun s i wr => ∃ (k : Nat) (z : Int), k ≤ m2 ∧ s = .int .i64 z ∧ i = .int .i64 k ∧ Hid (z = sumOf (totF r) (q.take k)) ∧ Below w.heap.size w wr ∧ Arr Rate.cells 2 wr wr.heap.size A1 m1 r ∧ Arr PieceW.cells 4 wr wr.heap.size A2 m2 q ∧ Arr i64c 1 wr wr.heap.size U ul (unkTo r q m2)) (fun _ i _ => m2 - (intOf i).toNat)
    case atStart => exact ⟨0, 0, Nat.zero_le _, rfl, rfl, hide rfl, hB.out, hR.out, hP.out, hU.out⟩
    case round =>
      obtain ⟨k, z, hk, rfl, rfl, hz, hb, h1, h2, h3⟩ := hrel
      replace hB := hide hb
      replace hR := hide h1
      replace hP := hide h2
      replace hU := hide h3
      skip
      have hzb : -63 ≤ z ∧ z ≤ 23940 := by rw [hz.out]; exact tot_within hDR.out hDP.out k
      clear hb h1 h2 h3
      by_cases hlt : k < m2
      · obtain ⟨b, o, x, hA1, _, hx, c0, c1, c2, c3⟩ := hP.out.PieceW hlt
        subst hA1
        have hX := hide hx
        have hlt' : (k : Int) < (m2 : Int) := by omega
        have hk0 : (0 : Int) ≤ (k : Int) := by omega
        have hrd := (rate_draw hDR.out x.fSort).1
        have hatk := hATK.out k x hx
        have hxb := (hDP.out.all x (List.mem_of_getElem? hx)).2.2.2
        have htb := totF_bound hDR.out hDP.out x (List.mem_of_getElem? hx)
        have hri : (rateOf r x.fSort).getD (-1) = rateI r x.fSort := rfl
        have htf : totF r x = rateI r x.fSort * x.fMade := rfl
        rw [htf] at htb
        obtain ⟨ri, hrie⟩ : ∃ ri, ri = rateI r x.fSort := ⟨_, rfl⟩
        rw [← hrie] at hrd hatk htb htf hri
        have hst : Hid (z + ri * x.fMade = sumOf (totF r) (q.take (k + 1))) := hide (by rw [sumOf_snoc hX.out, ← hz.out, htf])
        clear hx hrie htf c0 c2
        go_wp2_with fail
        refine (rate2_any A1 m1 d1 r x.fSort _ (by omega) hR.out).mono ?_
        rw [hri]
        rintro e w3 ⟨rfl, hb⟩
        replace hB := hide (Below.up hB.out hb)
        replace hR := hide (hR.out.go hb)
        replace hU := hide (hU.out.go hb)
        skip
        have hP3 := hP.out.go hb
        obtain ⟨b', o', x', hA1, _, hx', c0, _, _, c3'⟩ := hP3.PieceW hlt
        cases hA1
        rw [hX.out] at hx'
        cases hx'
        replace hP := hide hP3
        clear hb hP3 c3 c1 c0 hri
        go_wp2_with fail
        refine (has_any U ul du (unkTo r q m2) (k : Int) _ (by omega) hU.out).mono ?_
        rintro e w4 ⟨rfl, rfl⟩
        have hw1 : IntKind.i64.wrap (ri * x.fMade) = ri * x.fMade := IntWalk.i64_in _ (by omega)
        have hw2 : IntKind.i64.wrap (z + ri * x.fMade) = z + ri * x.fMade := IntWalk.i64_in _ (by omega)
        by_cases hneg : ri < 0
        · have e1 : decide ((k : Int) ∈ unkTo r q m2) = true := decide_eq_true (hatk.2 hneg)
          rw [e1]
          clear e1 hatk
          go_wp2
          go_roundw
          case rel => exact ⟨k + 1, z + ri * x.fMade, by omega, rfl, by go_num, hst, hB.out, hR.out, hP.out, hU.out⟩
          case measure => simp [intOf]; omega
        · have e1 : decide ((k : Int) ∈ unkTo r q m2) = false := decide_eq_false (fun h => hneg (hatk.1 h))
          rw [e1]
          clear e1 hatk
          go_wp2
          go_roundw
          case rel => exact ⟨k + 1, z + ri * x.fMade, by omega, rfl, by go_num, hst, hB.out, hR.out, hP.out, hU.out⟩
          case measure => simp [intOf]; omega
      · have hlt' : ¬ (k : Int) < (m2 : Int) := by omega
        replace hz : Hid (z = sumOf (totF r) q) := hide (by rw [hz.out, List.take_of_length_le (by rw [← hM2.out]; omega)])
        clear hU
        clear hz
        have hnob := nobody hDR.out hDP.out
        go_wp2_with fail
        refine (iWage_any A1 m1 d1 r A2 m2 d2 q (⟨#[110, 111, 98, 111, 100, 121]⟩ : ByteArray) _ (by omega) (by omega) hfr.out hfq.out (by unfold maxLen; decide) hR.out hP.out).mono ?_
        rw [hnob]
        rintro e w3 ⟨rfl, hb⟩
        replace hB := hide (Below.up hB.out hb)
        replace hR := hide (hR.out.go hb)
        clear hb hnob hP
        go_wp2_with fail
        refine (atk_any A' n' c' l' 0 101 _ (by omega) hl' (hr'.go hB.out)).mono ?_
        rintro e w4 ⟨⟨pa, rfl, pa0, pa1⟩, rfl⟩
        obtain ⟨hm3, hm4⟩ := hDR.out.raised (p := pa) ⟨pa0, by omega⟩
        have hmL : (r.map (raise pa)).length = m1 := by rw [List.length_map, ← hM1.out]
        go_wp2_with fail
        refine (iRaise_any A1 m1 d1 r pa _ (by omega) hfr.out hR.out).mono ?_
        rw [hm3, hm4, hmL]
        rintro e w4 ⟨v5, rfl, hres, hb⟩
        obtain ⟨S, ds, rfl, hsd⟩ := hres.slice
        have hS := hide (hres.arr Rate.len)
        replace hB := hide (Below.up hB.out hb)
        replace hR := hide (hR.out.go hb)
        clear hb hres hm3 hm4 hmL
        go_wp2
        go_loopw [23] (fun i wr => ∃ k : Nat, k ≤ m1 ∧ i = .int .i64 k ∧ Below w.heap.size w wr ∧ Arr Rate.cells 2 wr wr.heap.size A1 m1 r ∧ Arr Rate.cells 2 wr wr.heap.size S m1 (r.map (raise pa))) (fun i _ => m1 - (intOf i).toNat)
        case atStart => exact ⟨0, Nat.zero_le _, rfl, hB.out, hR.out, hS.out⟩
        case round =>
          obtain ⟨k, hk, rfl, hb, h1, h2⟩ := hrel
          replace hB := hide hb
          replace hR := hide h1
          replace hS := hide h2
          clear hb h1 h2
          by_cases hlt : k < m1
          · obtain ⟨b, o, x, hA1, _, hx, c0, c1⟩ := hR.out.Rate hlt
            subst hA1
            obtain ⟨b2, o2, y, hA2, _, hy, e0, e1⟩ := hS.out.Rate hlt
            subst hA2
            rw [List.getElem?_map, hx] at hy
            have hy' : raise pa x = y := Option.some.inj hy
            have hys : y.fSort = x.fSort := by rw [← hy']; rfl
            have hyc : y.fCents = x.fCents * (100 + pa) / 100 := by rw [← hy']; rfl
            have hxc := hDR.out.cents x (List.mem_of_getElem? hx)
            have hz0 := Int.mul_nonneg hxc.1 (show (0 : Int) ≤ 100 + pa by omega)
            have hz1 : x.fCents * (100 + pa) ≤ 380 * 200 := Int.mul_le_mul hxc.2 (by omega) (by omega) (by omega)
            obtain ⟨xs, hxs⟩ : ∃ xs, xs = x.fSort := ⟨_, rfl⟩
            obtain ⟨xc, hxc2⟩ : ∃ xc, xc = x.fCents := ⟨_, rfl⟩
            obtain ⟨yc, hyc2⟩ : ∃ yc, yc = y.fCents := ⟨_, rfl⟩
            rw [hys] at e0
            rw [← hxs] at c0 e0
            rw [← hxc2] at c1 hyc hz0 hz1
            rw [← hyc2] at e1 hyc
            clear hxs hxc2 hyc2 hys hy hy' hx hxc
            obtain ⟨z, hzE⟩ : ∃ z, z = xc * (100 + pa) := ⟨_, rfl⟩
            rw [← hzE] at hyc hz0 hz1
            have hw1 : IntKind.i64.wrap (100 * yc) = 100 * yc := IntWalk.i64_in _ (by omega)
            have hw2 : IntKind.i64.wrap (100 + pa) = 100 + pa := IntWalk.i64_in _ (by omega)
            have hw3 : IntKind.i64.wrap (xc * (100 + pa)) = z := by rw [← hzE]; exact IntWalk.i64_in _ (by omega)
            have hw4 : IntKind.i64.wrap (100 * yc + 100) = 100 * yc + 100 := IntWalk.i64_in _ (by omega)
            have g1 : decide (z < 100 * yc) = false := decide_eq_false (by omega)
            have g2 : decide (100 * yc + 100 ≤ z) = false := decide_eq_false (by omega)
            have g4 := str_eq (rfl : xs = xs)
            have hlt' : (k : Int) < (m1 : Int) := by omega
            have hk0 : (0 : Int) ≤ (k : Int) := by omega
            clear hzE hyc hz0 hz1
            go_wp2
            go_quiet (fail)
            go_wp2
            exact ⟨⟨k + 1, by omega, by go_num, Below.up hB.out (below_drewN (Below.refl _ _) _), hR.out.go (below_drewN (Below.refl _ _) _), hS.out.go (below_drewN (Below.refl _ _) _)⟩, by simp [intOf]; omega⟩
          · have hlt' : ¬ (k : Int) < (m1 : Int) := by omega
            go_wp2
            go_ret
            exact ⟨rfl, hB.out⟩
  · obtain ⟨hN1, hN2, hcode⟩ := hWYh.out hall
    have hu0 : ul = 0 := by rw [hULE.out, hNIL.out.2 hall]; rfl
    rw [hcode]
    rw [hN1] at hF
    rw [hN2, wgTo_len] at hG
    rw [hN1, hN2, wgTo_len]
    obtain ⟨a, ha⟩ : ∃ a, a = (mNames q).length := ⟨_, rfl⟩
    have hG2 : Arr i64c 1 w1 w1.heap.size G a (wgTo r q (mNames q) (mNames q).length) := by rw [ha]; exact hG.out
    rw [← ha] at hF ⊢
    replace hG := hide hG2
    have hAE := hide ha
    clear hcode hN1 hN2 ha hG2
    have hne : decide ((ul : Int) = 0) = true := decide_eq_true (by omega)
    have hne2 : ((ul : Int) == 0) = true := by simpa using hne
    clear hu0
    go_wp2_with (first | (go_at_call 14; refine (rises_any U ul du (unkTo r q m2) (m2 : Int) _ (by omega) hU.out hRISE.out hUB.out).mono ?_; rintro e wo ⟨rfl, mm, hmm⟩; have hdr : Below w1.heap.size w1 wo := (by rw [hmm]; exact below_drewN (Below.refl _ _) mm); clear hmm) | fail)
    clear hne hne2
    replace hB := hide (Below.up hB.out hdr)
    replace hR := hide (hR.out.go hdr)
    replace hP := hide (hP.out.go hdr)
    replace hU := hide (hU.out.go hdr)
    replace hF := hide (hF.out.go hdr)
    replace hG := hide (hG.out.go hdr)
    clear hdr
    go_wp2
    go_loopw [12, 13] (fun s i wr => ∃ (k : Nat) (z : Int), k ≤ m2 ∧ s = .int .i64 z ∧ i = .int .i64 k ∧ Hid (z = sumOf (totF r) (q.take k)) ∧ Below w.heap.size w wr ∧ Arr Rate.cells 2 wr wr.heap.size A1 m1 r ∧ Arr PieceW.cells 4 wr wr.heap.size A2 m2 q ∧ Arr i64c 1 wr wr.heap.size U ul (unkTo r q m2) ∧ Arr strc 1 wr wr.heap.size F a (mNames q) ∧ Arr i64c 1 wr wr.heap.size G a (wgTo r q (mNames q) (mNames q).length)) (fun _ i _ => m2 - (intOf i).toNat)
    case atStart => exact ⟨0, 0, Nat.zero_le _, rfl, rfl, hide rfl, hB.out, hR.out, hP.out, hU.out, hF.out, hG.out⟩
    case round =>
      obtain ⟨k, z, hk, rfl, rfl, hz, hb, h1, h2, h3, xhF, xhG⟩ := hrel
      replace hB := hide hb
      replace hR := hide h1
      replace hP := hide h2
      replace hU := hide h3
      replace hF := hide xhF
      replace hG := hide xhG
      have hzb : -63 ≤ z ∧ z ≤ 23940 := by rw [hz.out]; exact tot_within hDR.out hDP.out k
      clear hb h1 h2 h3 xhF xhG
      by_cases hlt : k < m2
      · obtain ⟨b, o, x, hA1, _, hx, c0, c1, c2, c3⟩ := hP.out.PieceW hlt
        subst hA1
        have hX := hide hx
        have hlt' : (k : Int) < (m2 : Int) := by omega
        have hk0 : (0 : Int) ≤ (k : Int) := by omega
        have hrd := (rate_draw hDR.out x.fSort).1
        have hatk := hATK.out k x hx
        have hxb := (hDP.out.all x (List.mem_of_getElem? hx)).2.2.2
        have htb := totF_bound hDR.out hDP.out x (List.mem_of_getElem? hx)
        have hri : (rateOf r x.fSort).getD (-1) = rateI r x.fSort := rfl
        have htf : totF r x = rateI r x.fSort * x.fMade := rfl
        rw [htf] at htb
        obtain ⟨ri, hrie⟩ : ∃ ri, ri = rateI r x.fSort := ⟨_, rfl⟩
        rw [← hrie] at hrd hatk htb htf hri
        have hst : Hid (z + ri * x.fMade = sumOf (totF r) (q.take (k + 1))) := hide (by rw [sumOf_snoc hX.out, ← hz.out, htf])
        clear hx hrie htf c0 c2
        go_wp2_with fail
        refine (rate2_any A1 m1 d1 r x.fSort _ (by omega) hR.out).mono ?_
        rw [hri]
        rintro e w3 ⟨rfl, hb⟩
        replace hB := hide (Below.up hB.out hb)
        replace hR := hide (hR.out.go hb)
        replace hU := hide (hU.out.go hb)
        replace hF := hide (hF.out.go hb)
        replace hG := hide (hG.out.go hb)
        have hP3 := hP.out.go hb
        obtain ⟨b', o', x', hA1, _, hx', c0, _, _, c3'⟩ := hP3.PieceW hlt
        cases hA1
        rw [hX.out] at hx'
        cases hx'
        replace hP := hide hP3
        clear hb hP3 c3 c1 c0 hri
        go_wp2_with fail
        refine (has_any U ul du (unkTo r q m2) (k : Int) _ (by omega) hU.out).mono ?_
        rintro e w4 ⟨rfl, rfl⟩
        have hw1 : IntKind.i64.wrap (ri * x.fMade) = ri * x.fMade := IntWalk.i64_in _ (by omega)
        have hw2 : IntKind.i64.wrap (z + ri * x.fMade) = z + ri * x.fMade := IntWalk.i64_in _ (by omega)
        by_cases hneg : ri < 0
        · have e1 : decide ((k : Int) ∈ unkTo r q m2) = true := decide_eq_true (hatk.2 hneg)
          rw [e1]
          clear e1 hatk
          go_wp2
          go_roundw
          case rel => exact ⟨k + 1, z + ri * x.fMade, by omega, rfl, by go_num, hst, hB.out, hR.out, hP.out, hU.out, hF.out, hG.out⟩
          case measure => simp [intOf]; omega
        · have e1 : decide ((k : Int) ∈ unkTo r q m2) = false := decide_eq_false (fun h => hneg (hatk.1 h))
          rw [e1]
          clear e1 hatk
          go_wp2
          go_roundw
          case rel => exact ⟨k + 1, z + ri * x.fMade, by omega, rfl, by go_num, hst, hB.out, hR.out, hP.out, hU.out, hF.out, hG.out⟩
          case measure => simp [intOf]; omega
      · have hlt' : ¬ (k : Int) < (m2 : Int) := by omega
        replace hz : Hid (z = sumOf (totF r) q) := hide (by rw [hz.out, List.take_of_length_le (by rw [← hM2.out]; omega)])
        clear hU
        have hws := wages_sum hall
        rw [← hz.out] at hws
        have hWS := hide hws
        have hms := mNames_some hDP.out
        rw [← hM2.out, ← hAE.out] at hms
        obtain ⟨bb, hb1, hb2⟩ : ∃ bb : Bool, decide (0 < a) = bb ∧ decide (0 < m2) = bb := ⟨_, rfl, by rw [decide_eq_decide]; omega⟩
        have ha3 := hms.2
        clear hws hms
        have hGG := hG.out
        go_wp2_with (first | (go_at_call 17; refine ((sumv_any G a dg (wgTo r q (mNames q) (mNames q).length) z _ (by omega) hGG (wgTo_bound hDR.out hDP.out _) hWS.out)).mono ?_; rintro e w' ⟨rfl, rfl⟩) | fail)
        clear hb1 hb2 hGG
        go_loopw [15] (fun i wr => ∃ k : Nat, k ≤ a ∧ i = .int .i64 k ∧ Below w.heap.size w wr ∧ Arr Rate.cells 2 wr wr.heap.size A1 m1 r ∧ Arr PieceW.cells 4 wr wr.heap.size A2 m2 q ∧ Arr strc 1 wr wr.heap.size F a (mNames q) ∧ Arr i64c 1 wr wr.heap.size G a (wgTo r q (mNames q) (mNames q).length)) (fun i _ => a - (intOf i).toNat)
        case atStart => exact ⟨0, Nat.zero_le _, rfl, hB.out, hR.out, hP.out, hF.out, hG.out⟩
        case round =>
          obtain ⟨k, hk, rfl, hb, h1, h2, h3, h4⟩ := hrel
          replace hB := hide hb
          replace hR := hide h1
          replace hP := hide h2
          replace hF := hide h3
          replace hG := hide h4
          clear hb h1 h2 h3 h4
          by_cases hlt : k < a
          · obtain ⟨b, o, y, hA1, _, hy, c0⟩ := hF.out.str hlt
            subst hA1
            have hY := hide hy
            have hlt' : (k : Int) < (a : Int) := by omega
            have hk0 : (0 : Int) ≤ (k : Int) := by omega
            have hmem := List.mem_of_getElem? hy
            have hwg := wage_of hDR.out hDP.out hall hmem
            have hys : y.size ≤ maxLen := by
              obtain ⟨x, hx, rfl⟩ := List.mem_map.1 (mem_mNames.1 hmem)
              exact (hfq.out x hx).1
            have hgy := wgTo_at (r := r) (q := q) hy
            obtain ⟨t, ht⟩ : ∃ t, sumOf (wgF r y) q = t := ⟨_, rfl⟩
            rw [ht] at hwg hgy
            have hGY := hide hgy
            clear hy hmem ht hgy
            go_wp2_with fail
            refine (iWage_any A1 m1 d1 r A2 m2 d2 q y _ (by omega) (by omega) hfr.out hfq.out hys hR.out hP.out).mono ?_
            rw [hwg]
            rintro e w3 ⟨rfl, hb⟩
            replace hB := hide (Below.up hB.out hb)
            replace hR := hide (hR.out.go hb)
            replace hP := hide (hP.out.go hb)
            replace hF := hide (hF.out.go hb)
            replace hG := hide (hG.out.go hb)
            clear hb c0 hwg
            obtain ⟨b2, o2, t2, hA2, _, ht2, e0⟩ := hG.out.int hlt
            subst hA2
            rw [hGY.out] at ht2
            cases ht2
            obtain ⟨b3, o3, y3, hA3, _, hy3, c0⟩ := hF.out.str hlt
            cases hA3
            rw [hY.out] at hy3
            cases hy3
            by_cases h0 : 0 < k
            · obtain ⟨b4, o4, y4, hA4, _, hy4, e4⟩ := hF.out.str (show k - 1 < a by omega)
              cases hA4
              have hless := names_rise q (k := k - 1) hy4 (by rw [show k - 1 + 1 = k by omega]; exact hY.out)
              have g3 : decide ((0 : Int) < (k : Int)) = true := decide_eq_true (by omega)
              have hw : IntKind.i64.wrap ((k : Int) - 1) = (k : Int) - 1 := IntWalk.i64_in _ (by omega)
              have hi0 : (0 : Int) ≤ (k : Int) - 1 := by omega
              have hi1 : (k : Int) - 1 < (a : Int) := by omega
              have hi2 : ((k : Int) - 1).toNat = k - 1 := by omega
              clear hy4
              go_wp2
              go_quiet (fail)
              go_wp2
              exact ⟨⟨k + 1, by omega, by go_num, Below.up hB.out (below_drewN (Below.refl _ _) _), hR.out.go (below_drewN (Below.refl _ _) _), hP.out.go (below_drewN (Below.refl _ _) _), hF.out.go (below_drewN (Below.refl _ _) _), hG.out.go (below_drewN (Below.refl _ _) _)⟩, by simp [intOf]; omega⟩
            · have g3 : decide ((0 : Int) < (k : Int)) = false := decide_eq_false (by omega)
              go_wp2
              go_quiet (fail)
              go_wp2
              exact ⟨⟨k + 1, by omega, by go_num, Below.up hB.out (below_drewN (Below.refl _ _) _), hR.out.go (below_drewN (Below.refl _ _) _), hP.out.go (below_drewN (Below.refl _ _) _), hF.out.go (below_drewN (Below.refl _ _) _), hG.out.go (below_drewN (Below.refl _ _) _)⟩, by simp [intOf]; omega⟩
          · have hlt' : ¬ (k : Int) < (a : Int) := by omega
            clear hF hG
            have hnob := nobody hDR.out hDP.out
            go_wp2_with fail
            refine (iWage_any A1 m1 d1 r A2 m2 d2 q (⟨#[110, 111, 98, 111, 100, 121]⟩ : ByteArray) _ (by omega) (by omega) hfr.out hfq.out (by unfold maxLen; decide) hR.out hP.out).mono ?_
            rw [hnob]
            rintro e w3 ⟨rfl, hb⟩
            replace hB := hide (Below.up hB.out hb)
            replace hR := hide (hR.out.go hb)
            clear hb hnob hP
            go_wp2_with fail
            refine (atk_any A' n' c' l' 0 101 _ (by omega) hl' (hr'.go hB.out)).mono ?_
            rintro e w4 ⟨⟨pa, rfl, pa0, pa1⟩, rfl⟩
            obtain ⟨hm3, hm4⟩ := hDR.out.raised (p := pa) ⟨pa0, by omega⟩
            have hmL : (r.map (raise pa)).length = m1 := by rw [List.length_map, ← hM1.out]
            go_wp2_with fail
            refine (iRaise_any A1 m1 d1 r pa _ (by omega) hfr.out hR.out).mono ?_
            rw [hm3, hm4, hmL]
            rintro e w4 ⟨v5, rfl, hres, hb⟩
            obtain ⟨S, ds, rfl, hsd⟩ := hres.slice
            have hS := hide (hres.arr Rate.len)
            replace hB := hide (Below.up hB.out hb)
            replace hR := hide (hR.out.go hb)
            clear hb hres hm3 hm4 hmL
            go_wp2
            go_loopw [23] (fun i wr => ∃ k : Nat, k ≤ m1 ∧ i = .int .i64 k ∧ Below w.heap.size w wr ∧ Arr Rate.cells 2 wr wr.heap.size A1 m1 r ∧ Arr Rate.cells 2 wr wr.heap.size S m1 (r.map (raise pa))) (fun i _ => m1 - (intOf i).toNat)
            case atStart => exact ⟨0, Nat.zero_le _, rfl, hB.out, hR.out, hS.out⟩
            case round =>
              obtain ⟨k, hk, rfl, hb, h1, h2⟩ := hrel
              replace hB := hide hb
              replace hR := hide h1
              replace hS := hide h2
              clear hb h1 h2
              by_cases hlt : k < m1
              · obtain ⟨b, o, x, hA1, _, hx, c0, c1⟩ := hR.out.Rate hlt
                subst hA1
                obtain ⟨b2, o2, y, hA2, _, hy, e0, e1⟩ := hS.out.Rate hlt
                subst hA2
                rw [List.getElem?_map, hx] at hy
                have hy' : raise pa x = y := Option.some.inj hy
                have hys : y.fSort = x.fSort := by rw [← hy']; rfl
                have hyc : y.fCents = x.fCents * (100 + pa) / 100 := by rw [← hy']; rfl
                have hxc := hDR.out.cents x (List.mem_of_getElem? hx)
                have hz0 := Int.mul_nonneg hxc.1 (show (0 : Int) ≤ 100 + pa by omega)
                have hz1 : x.fCents * (100 + pa) ≤ 380 * 200 := Int.mul_le_mul hxc.2 (by omega) (by omega) (by omega)
                obtain ⟨xs, hxs⟩ : ∃ xs, xs = x.fSort := ⟨_, rfl⟩
                obtain ⟨xc, hxc2⟩ : ∃ xc, xc = x.fCents := ⟨_, rfl⟩
                obtain ⟨yc, hyc2⟩ : ∃ yc, yc = y.fCents := ⟨_, rfl⟩
                rw [hys] at e0
                rw [← hxs] at c0 e0
                rw [← hxc2] at c1 hyc hz0 hz1
                rw [← hyc2] at e1 hyc
                clear hxs hxc2 hyc2 hys hy hy' hx hxc
                obtain ⟨z, hzE⟩ : ∃ z, z = xc * (100 + pa) := ⟨_, rfl⟩
                rw [← hzE] at hyc hz0 hz1
                have hw1 : IntKind.i64.wrap (100 * yc) = 100 * yc := IntWalk.i64_in _ (by omega)
                have hw2 : IntKind.i64.wrap (100 + pa) = 100 + pa := IntWalk.i64_in _ (by omega)
                have hw3 : IntKind.i64.wrap (xc * (100 + pa)) = z := by rw [← hzE]; exact IntWalk.i64_in _ (by omega)
                have hw4 : IntKind.i64.wrap (100 * yc + 100) = 100 * yc + 100 := IntWalk.i64_in _ (by omega)
                have g1 : decide (z < 100 * yc) = false := decide_eq_false (by omega)
                have g2 : decide (100 * yc + 100 ≤ z) = false := decide_eq_false (by omega)
                have g4 := str_eq (rfl : xs = xs)
                have hlt' : (k : Int) < (m1 : Int) := by omega
                have hk0 : (0 : Int) ≤ (k : Int) := by omega
                clear hzE hyc hz0 hz1
                go_wp2
                go_quiet (fail)
                go_wp2
                exact ⟨⟨k + 1, by omega, by go_num, Below.up hB.out (below_drewN (Below.refl _ _) _), hR.out.go (below_drewN (Below.refl _ _) _), hS.out.go (below_drewN (Below.refl _ _) _)⟩, by simp [intOf]; omega⟩
              · have hlt' : ¬ (k : Int) < (m1 : Int) := by omega
                go_wp2
                go_ret
                exact ⟨rfl, hB.out⟩
end Go.Proofs.Ytgjcmnnhcoaliaa
