/- The walk of the law FnSales. -/
import Derived.Test.YtldnnlgekhjebaaSalB
import Derived.Test.YtldnnlgekhjebaaPriceH
namespace Go.Proofs.Ytldnnlgekhjebaa
open Go.ChangeShapes Go.WideShapes Go.ChangeAt Go.RowKit Go.Deep
set_option maxRecDepth 100000
theorem inB_iff' {n lo hi : Int} : inB n lo hi = true ↔ lo ≤ n ∧ n ≤ hi := by simp [inB]
theorem round_facts (a z : Int) : ∃ r rc : Int, mRound a z = (r, rc) ∧ ((rc == 0) = false ∨ (rc = 0 ∧ a ≤ r ∧ r < 100 + a ∧ r % 100 = z ∧ 0 ≤ r ∧ r ≤ 20000000 ∧ 0 ≤ a)) := by
  refine ⟨(mRound a z).1, (mRound a z).2, rfl, ?_⟩
  unfold mRound
  split
  · rename_i h
    rw [Bool.and_eq_true, inB_iff', inB_iff'] at h
    refine .inr ⟨rfl, ?_, ?_, ?_, ?_, ?_, h.1.1⟩ <;> simp only <;> omega
  · exact .inl rfl
theorem dozen_facts (a z : Int) : ∃ r rc : Int, mDozen a z = (r, rc) ∧ ((rc == 0) = false ∨ (rc = 0 ∧ a ≤ r ∧ r ≤ 12 * a ∧ 0 ≤ a ∧ a ≤ 10000000)) := by
  refine ⟨(mDozen a z).1, (mDozen a z).2, rfl, ?_⟩
  unfold mDozen
  split
  · rename_i h
    rw [Bool.and_eq_true, inB_iff', inB_iff'] at h
    have h1 : 0 ≤ a * (12 - z - 1) := Int.mul_nonneg h.1.1 (by omega)
    have h2 : 0 ≤ a * z := Int.mul_nonneg h.1.1 h.2.1
    have e1 : a * (12 - z - 1) = a * (12 - z) - a := by rw [Int.mul_sub (c := 1)]; omega
    have e2 : a * (12 - z) = a * 12 - a * z := Int.mul_sub _ _ _
    refine .inr ⟨rfl, ?_, ?_, h.1⟩ <;> simp only <;> omega
  · exact .inl rfl
theorem best_facts (ps ss : List Int) (b : Int) : ∃ k f rc : Int, mBest ps ss b = (k, f, rc) ∧ ((rc == 0) = false ∨ (rc = 0 ∧ ss.length = ps.length ∧ ∀ (i : Nat) p s, ps[i]? = some p → ss[i]? = some s → IntKind.i64.wrap (p - b) = p - b ∧ IntKind.i64.wrap ((p - b) * s) = (p - b) * s ∧ (p - b) * s ≤ f)) := by
  refine ⟨(mBest ps ss b).1, (mBest ps ss b).2.1, (mBest ps ss b).2.2, rfl, ?_⟩
  unfold mBest
  split
  · rename_i h
    obtain ⟨h1, h2, h3, h4, h5⟩ := bestOk_iff.1 h
    rw [inB_iff'] at h5
    split
    · exact .inl rfl
    · refine .inr ⟨rfl, h4, fun i p s hp hs => ?_⟩
      have a1 := allIn_at h2 hp
      have a2 := allIn_at h3 hs
      have a3 := prof_bound a1 a2 h5
      refine ⟨IntWalk.i64_in _ (by omega), IntWalk.i64_in _ (by omega), ?_⟩
      have := bestTo_ge (profAt ps ss b) ps.length i (lt_of_get hp)
      rw [profAt_eq hp hs] at this
      exact this
  · exact .inl rfl
theorem break_facts (f p c : Int) : ∃ m rc : Int, mBreak f p c = (m, rc) ∧ ((rc == 0) = false ∨ (rc = 0 ∧ m = 0 ∧ f = 0) ∨ (rc = 0 ∧ (m == 0) = false ∧ IntKind.i64.wrap (p - c) = p - c ∧ IntKind.i64.wrap (m * (p - c)) = m * (p - c) ∧ IntKind.i64.wrap (m - 1) = m - 1 ∧ IntKind.i64.wrap ((m - 1) * (p - c)) = (m - 1) * (p - c) ∧ f ≤ m * (p - c) ∧ (m - 1) * (p - c) < f)) := by
  refine ⟨(mBreak f p c).1, (mBreak f p c).2, rfl, ?_⟩
  unfold mBreak
  split
  · rename_i h
    rw [Bool.and_eq_true, Bool.and_eq_true, inB_iff', inB_iff', inB_iff'] at h
    obtain ⟨⟨h1, h2⟩, h3⟩ := h
    split
    · rename_i h0
      exact .inr (.inl ⟨rfl, rfl, by simpa using h0⟩)
    · rename_i h0
      have hf : ¬ f = 0 := by simpa using h0
      split
      · exact .inl rfl
      · rename_i hpc
        obtain ⟨d, hd⟩ : ∃ d, d = p - c := ⟨_, rfl⟩
        rw [← hd]
        have d1 : 1 ≤ d := by omega
        have e := Int.mul_ediv_add_emod (f + d - 1) d
        have m0 := Int.emod_nonneg (f + d - 1) (b := d) (by omega)
        have m1 := Int.emod_lt_of_pos (f + d - 1) (b := d) (by omega)
        obtain ⟨m, hm⟩ : ∃ m, m = (f + d - 1) / d := ⟨_, rfl⟩
        rw [← hm] at e ⊢
        have hm1 : 1 ≤ m := by rw [hm]; exact (Int.le_ediv_iff_mul_le (by omega)).2 (by omega)
        have e2 : (m - 1) * d = m * d - d := by rw [Int.sub_mul]; omega
        have e3 : d * m = m * d := Int.mul_comm _ _
        have hm2 : m ≤ m * d := by have := Int.mul_le_mul_of_nonneg_left d1 (show (0:Int) ≤ m by omega); omega
        simp only
        refine .inr (.inr ⟨trivial, by simp; omega, IntWalk.i64_in _ (by omega), IntWalk.i64_in _ (by omega), IntWalk.i64_in _ (by omega), IntWalk.i64_in _ (by omega), by omega, by omega⟩)
  · exact .inl rfl
theorem big_any (A : Option Addr) (n c : Nat) (w : World) : Calls Try.prog 5 #[.slice A n c] w fun e w' => e = .returned (.bool (decide (4096 < (n : Int)))) ∧ w = w' := by
  go_enter Try.func5, Try.ntmps5
  go_wp2
  go_ret
  exact ⟨rfl, rfl⟩
theorem bytes_ok {l : List Int} (h : ∀ x ∈ l, (Lit.int .u8 x).wf = true) : byteL l := fun x hx => by
  have h1 := h x hx
  unfold Lit.wf at h1
  rw [Bool.and_eq_true, decide_eq_true_eq, decide_eq_true_eq] at h1
  have e1 : IntKind.u8.min = 0 := by decide
  have e2 : IntKind.u8.max = 255 := by decide
  rw [e1, e2] at h1
  exact h1

set_option maxHeartbeats 4000000 in
theorem walkSales (w : World) (A : Option Addr) (n c : Nat) (l : List Int) (hc : n ≤ c) (hm : c ≤ maxLen) (hq : ∀ x ∈ l, (Lit.int .u8 x).wf = true) (hr : Arr u8c 1 w w.heap.size A n l) :
    Calls Try.prog 3 #[.slice A n c] w fun e w' => e = .returned (.bool true) ∧ Below w.heap.size w w' := by
  have hl := bytes_ok hq
  clear hq
  have hB := hide (Below.refl w.heap.size w)
  go_enter Try.func3, Try.ntmps3
  go_wp2_with fail
  refine (big_any A n c _).mono ?_
  rintro e w1 ⟨rfl, rfl⟩
  by_cases hbig : 4096 < (n : Int)
  · rw [decide_eq_true hbig]
    go_wp2
    go_ret
    exact ⟨rfl, hB.out⟩
  rw [decide_eq_false hbig]
  go_wp2_with fail
  refine (drawBreak_any _ A n c l (hr.go hB.out) hl hm hc).mono ?_
  rintro e w1 ⟨f, p, k, rfl, hb⟩
  replace hB := hide (Below.up hB.out hb)
  clear hb
  obtain ⟨m, mc, hM, hMf⟩ := break_facts f p k
  go_wp2_with fail
  refine (iBreak_any f p k _).mono ?_
  rw [hM]
  rintro e w1 ⟨rfl, rfl⟩
  go_wp2_with fail
  refine (sBreak_any f p k _).mono ?_
  rw [hM]
  rintro e w1 ⟨rfl, rfl⟩
  go_wp2_with fail
  refine (drawRound_any _ A n c l (hr.go hB.out) hl hm hc).mono ?_
  rintro e w1 ⟨a, z, rfl, hb⟩
  replace hB := hide (Below.up hB.out hb)
  clear hb
  obtain ⟨r, rc, hR, hRf⟩ := round_facts a z
  go_wp2_with fail
  refine (iRound_any a z _).mono ?_
  rw [hR]
  rintro e w1 ⟨rfl, rfl⟩
  go_wp2_with fail
  refine (sRound_any a z _).mono ?_
  rw [hR]
  rintro e w1 ⟨rfl, rfl⟩
  go_wp2_with fail
  refine (drawBest_any _ A n c l (hr.go hB.out) hl hm hc).mono ?_
  rintro e w1 ⟨B, kn, kd, ps, B', kn', kd', ss, b, rfl, hk, hk', hps, hss, hb⟩
  have hP := hide hps
  have hS := hide hss
  clear hps hss
  replace hB := hide (Below.up hB.out hb)
  clear hb
  obtain ⟨bk, bf, bc, hT, hTf⟩ := best_facts ps ss b
  go_wp2_with fail
  refine (iBest_any B kn kd ps B' kn' kd' ss b _ (by omega) (by omega) hP.out hS.out).mono ?_
  rw [hT]
  rintro e w1 ⟨rfl, hb⟩
  replace hP := hide (hP.out.go hb)
  replace hS := hide (hS.out.go hb)
  replace hB := hide (Below.up hB.out hb)
  clear hb
  go_wp2_with fail
  refine (sBest_any B kn kd ps B' kn' kd' ss b _ (by omega) (by omega) hP.out hS.out).mono ?_
  rw [hT]
  rintro e w1 ⟨rfl, hb⟩
  replace hP := hide (hP.out.go hb)
  replace hS := hide (hS.out.go hb)
  replace hB := hide (Below.up hB.out hb)
  clear hb
  go_wp2_with fail
  refine (drawDozen_any _ A n c l (hr.go hB.out) hl hm hc).mono ?_
  rintro e w1 ⟨d, fr, rfl, hb⟩
  replace hP := hide (hP.out.go hb)
  replace hS := hide (hS.out.go hb)
  replace hB := hide (Below.up hB.out hb)
  clear hb
  obtain ⟨dz, dc, hD, hDf⟩ := dozen_facts d fr
  go_wp2_with fail
  refine (iDozen_any d fr _).mono ?_
  rw [hD]
  rintro e w1 ⟨rfl, rfl⟩
  go_wp2_with fail
  refine (sDozen_any d fr _).mono ?_
  rw [hD]
  rintro e w1 ⟨rfl, rfl⟩
  clear hM hR hT hD
  have hTF := hide hTf
  have hMF := hide hMf
  clear hTf hMf
  have rw1 : ∀ x y : Int, 0 ≤ x → x < 100 → IntKind.i64.wrap x = x := fun x y h1 h2 => IntWalk.i64_in _ (by omega)
  rcases hRf with r0 | ⟨rfl, ra, rb, re, r0, r1, ra0⟩
  · rcases hDf with d0 | ⟨rfl, da, db, dd, de⟩
    · skip
      rcases hTF.out with t0 | ⟨rfl, tl, tk⟩
      · skip
        rcases hMF.out with m0 | ⟨rfl, rfl, rfl⟩ | ⟨rfl, m0, m1, m2, m3, m4, m5, m6⟩
        · skip
          clear hMF
          go_wp2
          go_ret
          exact ⟨rfl, hB.out⟩
        · skip
          clear hMF
          go_wp2
          go_ret
          exact ⟨rfl, hB.out⟩
        · skip
          clear hMF
          have m7 : decide (f ≤ m * (p - k)) = true := decide_eq_true m5
          have m8 : decide ((m - 1) * (p - k) < f) = true := decide_eq_true m6
          go_wp2
          go_ret
          exact ⟨rfl, hB.out⟩
      · skip
        clear hTF
        obtain ⟨b0, hb0⟩ : ∃ b0, b0 = b := ⟨_, rfl⟩
        go_wp2
        go_loopw [31] (fun i wr => ∃ j : Nat, j ≤ kn ∧ i = .int .i64 j ∧ Below w.heap.size w wr ∧ Arr i64c 1 wr wr.heap.size B kn ps ∧ Arr i64c 1 wr wr.heap.size B' kn' ss) (fun i _ => kn - (intOf i).toNat)
        case atStart => exact ⟨0, Nat.zero_le _, rfl, hB.out, hP.out, hS.out⟩
        case round =>
          obtain ⟨j, hj, rfl, hb, hp, hs⟩ := hrel
          have hP := hide hp
          have hS := hide hs
          have hB := hide hb
          clear hb
          by_cases hlt : j < kn
          · have hlt' : j < kn' := by have := hp.len; have := hs.len; omega
            obtain ⟨b1, o1, x1, rfl, _, hx1, d1⟩ := hp.int hlt
            obtain ⟨b2, o2, x2, rfl, _, hx2, d2⟩ := hs.int hlt'
            obtain ⟨w1, w2, w3⟩ := tk j x1 x2 hx1 hx2
            have hn3 : decide (bf < (x1 - b) * x2) = false := decide_eq_false (by omega)
            have hi1 : (j : Int) < (kn : Int) := by omega
            have hi2 : (j : Int) < (kn' : Int) := by omega
            have hi0 : (0 : Int) ≤ (j : Int) := by omega
            clear hp hs hx1 hx2 tk
            go_wp2_with fail
            go_quiet (fail)
            go_wp2
            exact ⟨⟨j + 1, by omega, by go_num, Below.up hB.out (below_drewN (Below.refl _ _) _), hP.out.go (below_drewN (Below.refl _ _) _), hS.out.go (below_drewN (Below.refl _ _) _)⟩, by simp [intOf]; omega⟩
          · have hjk : j = kn := by omega
            clear hp hs
            rcases hMF.out with m0 | ⟨rfl, rfl, rfl⟩ | ⟨rfl, m0, m1, m2, m3, m4, m5, m6⟩
            · skip
              clear hMF
              go_wp2
              go_ret
              exact ⟨rfl, hB.out⟩
            · skip
              clear hMF
              go_wp2
              go_ret
              exact ⟨rfl, hB.out⟩
            · skip
              clear hMF
              have m7 : decide (f ≤ m * (p - k)) = true := decide_eq_true m5
              have m8 : decide ((m - 1) * (p - k) < f) = true := decide_eq_true m6
              go_wp2
              go_ret
              exact ⟨rfl, hB.out⟩
    · skip
      have s1 : decide (dz < d) = false := decide_eq_false (by omega)
      have s2 : IntKind.i64.wrap (12 * d) = 12 * d := IntWalk.i64_in _ (by omega)
      have s3 : decide (12 * d < dz) = false := decide_eq_false (by omega)
      clear da db dd de
      rcases hTF.out with t0 | ⟨rfl, tl, tk⟩
      · skip
        rcases hMF.out with m0 | ⟨rfl, rfl, rfl⟩ | ⟨rfl, m0, m1, m2, m3, m4, m5, m6⟩
        · skip
          clear hMF
          go_wp2
          go_ret
          exact ⟨rfl, hB.out⟩
        · skip
          clear hMF
          go_wp2
          go_ret
          exact ⟨rfl, hB.out⟩
        · skip
          clear hMF
          have m7 : decide (f ≤ m * (p - k)) = true := decide_eq_true m5
          have m8 : decide ((m - 1) * (p - k) < f) = true := decide_eq_true m6
          go_wp2
          go_ret
          exact ⟨rfl, hB.out⟩
      · skip
        clear hTF
        obtain ⟨b0, hb0⟩ : ∃ b0, b0 = b := ⟨_, rfl⟩
        go_wp2
        go_loopw [31] (fun i wr => ∃ j : Nat, j ≤ kn ∧ i = .int .i64 j ∧ Below w.heap.size w wr ∧ Arr i64c 1 wr wr.heap.size B kn ps ∧ Arr i64c 1 wr wr.heap.size B' kn' ss) (fun i _ => kn - (intOf i).toNat)
        case atStart => exact ⟨0, Nat.zero_le _, rfl, hB.out, hP.out, hS.out⟩
        case round =>
          obtain ⟨j, hj, rfl, hb, hp, hs⟩ := hrel
          have hP := hide hp
          have hS := hide hs
          have hB := hide hb
          clear hb
          by_cases hlt : j < kn
          · have hlt' : j < kn' := by have := hp.len; have := hs.len; omega
            obtain ⟨b1, o1, x1, rfl, _, hx1, d1⟩ := hp.int hlt
            obtain ⟨b2, o2, x2, rfl, _, hx2, d2⟩ := hs.int hlt'
            obtain ⟨w1, w2, w3⟩ := tk j x1 x2 hx1 hx2
            have hn3 : decide (bf < (x1 - b) * x2) = false := decide_eq_false (by omega)
            have hi1 : (j : Int) < (kn : Int) := by omega
            have hi2 : (j : Int) < (kn' : Int) := by omega
            have hi0 : (0 : Int) ≤ (j : Int) := by omega
            clear hp hs hx1 hx2 tk
            go_wp2_with fail
            go_quiet (fail)
            go_wp2
            exact ⟨⟨j + 1, by omega, by go_num, Below.up hB.out (below_drewN (Below.refl _ _) _), hP.out.go (below_drewN (Below.refl _ _) _), hS.out.go (below_drewN (Below.refl _ _) _)⟩, by simp [intOf]; omega⟩
          · have hjk : j = kn := by omega
            clear hp hs
            rcases hMF.out with m0 | ⟨rfl, rfl, rfl⟩ | ⟨rfl, m0, m1, m2, m3, m4, m5, m6⟩
            · skip
              clear hMF
              go_wp2
              go_ret
              exact ⟨rfl, hB.out⟩
            · skip
              clear hMF
              go_wp2
              go_ret
              exact ⟨rfl, hB.out⟩
            · skip
              clear hMF
              have m7 : decide (f ≤ m * (p - k)) = true := decide_eq_true m5
              have m8 : decide ((m - 1) * (p - k) < f) = true := decide_eq_true m6
              go_wp2
              go_ret
              exact ⟨rfl, hB.out⟩
  · rcases hDf with d0 | ⟨rfl, da, db, dd, de⟩
    · skip
      have q1 : decide (r < a) = false := decide_eq_false (by omega)
      have q2 : IntKind.i64.wrap (r - a) = r - a := IntWalk.i64_in _ (by omega)
      have q3 : decide (100 ≤ r - a) = false := decide_eq_false (by omega)
      have q3' : ¬ 100 ≤ r - a := by omega
      have q4 : (r % 100 == z) = true := by rw [re]; simp
      clear ra rb r1 ra0
      rcases hTF.out with t0 | ⟨rfl, tl, tk⟩
      · skip
        rcases hMF.out with m0 | ⟨rfl, rfl, rfl⟩ | ⟨rfl, m0, m1, m2, m3, m4, m5, m6⟩
        · skip
          clear hMF
          go_wp2
          go_ret
          exact ⟨rfl, hB.out⟩
        · skip
          clear hMF
          go_wp2
          go_ret
          exact ⟨rfl, hB.out⟩
        · skip
          clear hMF
          have m7 : decide (f ≤ m * (p - k)) = true := decide_eq_true m5
          have m8 : decide ((m - 1) * (p - k) < f) = true := decide_eq_true m6
          go_wp2
          go_ret
          exact ⟨rfl, hB.out⟩
      · skip
        clear hTF
        obtain ⟨b0, hb0⟩ : ∃ b0, b0 = b := ⟨_, rfl⟩
        go_wp2
        go_loopw [31] (fun i wr => ∃ j : Nat, j ≤ kn ∧ i = .int .i64 j ∧ Below w.heap.size w wr ∧ Arr i64c 1 wr wr.heap.size B kn ps ∧ Arr i64c 1 wr wr.heap.size B' kn' ss) (fun i _ => kn - (intOf i).toNat)
        case atStart => exact ⟨0, Nat.zero_le _, rfl, hB.out, hP.out, hS.out⟩
        case round =>
          obtain ⟨j, hj, rfl, hb, hp, hs⟩ := hrel
          have hP := hide hp
          have hS := hide hs
          have hB := hide hb
          clear hb
          by_cases hlt : j < kn
          · have hlt' : j < kn' := by have := hp.len; have := hs.len; omega
            obtain ⟨b1, o1, x1, rfl, _, hx1, d1⟩ := hp.int hlt
            obtain ⟨b2, o2, x2, rfl, _, hx2, d2⟩ := hs.int hlt'
            obtain ⟨w1, w2, w3⟩ := tk j x1 x2 hx1 hx2
            have hn3 : decide (bf < (x1 - b) * x2) = false := decide_eq_false (by omega)
            have hi1 : (j : Int) < (kn : Int) := by omega
            have hi2 : (j : Int) < (kn' : Int) := by omega
            have hi0 : (0 : Int) ≤ (j : Int) := by omega
            clear hp hs hx1 hx2 tk
            go_wp2_with fail
            go_quiet (fail)
            go_wp2
            exact ⟨⟨j + 1, by omega, by go_num, Below.up hB.out (below_drewN (Below.refl _ _) _), hP.out.go (below_drewN (Below.refl _ _) _), hS.out.go (below_drewN (Below.refl _ _) _)⟩, by simp [intOf]; omega⟩
          · have hjk : j = kn := by omega
            clear hp hs
            rcases hMF.out with m0 | ⟨rfl, rfl, rfl⟩ | ⟨rfl, m0, m1, m2, m3, m4, m5, m6⟩
            · skip
              clear hMF
              go_wp2
              go_ret
              exact ⟨rfl, hB.out⟩
            · skip
              clear hMF
              go_wp2
              go_ret
              exact ⟨rfl, hB.out⟩
            · skip
              clear hMF
              have m7 : decide (f ≤ m * (p - k)) = true := decide_eq_true m5
              have m8 : decide ((m - 1) * (p - k) < f) = true := decide_eq_true m6
              go_wp2
              go_ret
              exact ⟨rfl, hB.out⟩
    · skip
      have q1 : decide (r < a) = false := decide_eq_false (by omega)
      have q2 : IntKind.i64.wrap (r - a) = r - a := IntWalk.i64_in _ (by omega)
      have q3 : decide (100 ≤ r - a) = false := decide_eq_false (by omega)
      have q3' : ¬ 100 ≤ r - a := by omega
      have q4 : (r % 100 == z) = true := by rw [re]; simp
      clear ra rb r1 ra0
      have s1 : decide (dz < d) = false := decide_eq_false (by omega)
      have s2 : IntKind.i64.wrap (12 * d) = 12 * d := IntWalk.i64_in _ (by omega)
      have s3 : decide (12 * d < dz) = false := decide_eq_false (by omega)
      clear da db dd de
      rcases hTF.out with t0 | ⟨rfl, tl, tk⟩
      · skip
        rcases hMF.out with m0 | ⟨rfl, rfl, rfl⟩ | ⟨rfl, m0, m1, m2, m3, m4, m5, m6⟩
        · skip
          clear hMF
          go_wp2
          go_ret
          exact ⟨rfl, hB.out⟩
        · skip
          clear hMF
          go_wp2
          go_ret
          exact ⟨rfl, hB.out⟩
        · skip
          clear hMF
          have m7 : decide (f ≤ m * (p - k)) = true := decide_eq_true m5
          have m8 : decide ((m - 1) * (p - k) < f) = true := decide_eq_true m6
          go_wp2
          go_ret
          exact ⟨rfl, hB.out⟩
      · skip
        clear hTF
        obtain ⟨b0, hb0⟩ : ∃ b0, b0 = b := ⟨_, rfl⟩
        go_wp2
        go_loopw [31] (fun i wr => ∃ j : Nat, j ≤ kn ∧ i = .int .i64 j ∧ Below w.heap.size w wr ∧ Arr i64c 1 wr wr.heap.size B kn ps ∧ Arr i64c 1 wr wr.heap.size B' kn' ss) (fun i _ => kn - (intOf i).toNat)
        case atStart => exact ⟨0, Nat.zero_le _, rfl, hB.out, hP.out, hS.out⟩
        case round =>
          obtain ⟨j, hj, rfl, hb, hp, hs⟩ := hrel
          have hP := hide hp
          have hS := hide hs
          have hB := hide hb
          clear hb
          by_cases hlt : j < kn
          · have hlt' : j < kn' := by have := hp.len; have := hs.len; omega
            obtain ⟨b1, o1, x1, rfl, _, hx1, d1⟩ := hp.int hlt
            obtain ⟨b2, o2, x2, rfl, _, hx2, d2⟩ := hs.int hlt'
            obtain ⟨w1, w2, w3⟩ := tk j x1 x2 hx1 hx2
            have hn3 : decide (bf < (x1 - b) * x2) = false := decide_eq_false (by omega)
            have hi1 : (j : Int) < (kn : Int) := by omega
            have hi2 : (j : Int) < (kn' : Int) := by omega
            have hi0 : (0 : Int) ≤ (j : Int) := by omega
            clear hp hs hx1 hx2 tk
            go_wp2_with fail
            go_quiet (fail)
            go_wp2
            exact ⟨⟨j + 1, by omega, by go_num, Below.up hB.out (below_drewN (Below.refl _ _) _), hP.out.go (below_drewN (Below.refl _ _) _), hS.out.go (below_drewN (Below.refl _ _) _)⟩, by simp [intOf]; omega⟩
          · have hjk : j = kn := by omega
            clear hp hs
            rcases hMF.out with m0 | ⟨rfl, rfl, rfl⟩ | ⟨rfl, m0, m1, m2, m3, m4, m5, m6⟩
            · skip
              clear hMF
              go_wp2
              go_ret
              exact ⟨rfl, hB.out⟩
            · skip
              clear hMF
              go_wp2
              go_ret
              exact ⟨rfl, hB.out⟩
            · skip
              clear hMF
              have m7 : decide (f ≤ m * (p - k)) = true := decide_eq_true m5
              have m8 : decide ((m - 1) * (p - k) < f) = true := decide_eq_true m6
              go_wp2
              go_ret
              exact ⟨rfl, hB.out⟩
end Go.Proofs.Ytldnnlgekhjebaa
