/- Contracts of the program's and the reference's BestPrice. -/
import Derived.Test.YtldnnlgekhjebaaPriceG
namespace Go.Proofs.Ytldnnlgekhjebaa
open Go.ChangeShapes Go.WideShapes Go.ChangeAt Go.RowKit Go.Deep

theorem iBest_any (A : Option Addr) (n c : Nat) (l : List Int) (A' : Option Addr) (n' c' : Nat) (l' : List Int) (x : Int) (w : World) (hn : n ≤ 1048576) (hn' : n' ≤ 1048576) (hr : Arr i64c 1 w w.heap.size A n l) (hr' : Arr i64c 1 w w.heap.size A' n' l') :
    Calls Try.prog 13 #[.slice A n c, .slice A' n' c', .int .i64 x] w fun e w' =>
      e = .returned (.tuple #[.int .i64 (mBest l l' x).1, .int .i64 (mBest l l' x).2.1, .int .i64 (mBest l l' x).2.2]) ∧ Below w.heap.size w w' := by
  have hl := hide hr.len
  have hl' := hide hr'.len
  by_cases h0 : (12 : Int) < n
  · have hf : bestOk l l' x = false := by
      rw [Bool.eq_false_iff]; intro h
      have := (bestOk_iff.1 h).1
      rw [hl.out] at this
      omega
    have hm : Hid (mBest l l' x = (0, 0, 2)) := hide (by simp [mBest, hf])
    clear hf
    go_enter Try.func13, Try.ntmps13
    go_wp2
    go_ret3; exact ⟨by rw [hm.out]; rfl, Below.refl _ _⟩
  · cases h1 : allIn l 0 10000000
    · have hm : Hid (mBest l l' x = (0, 0, 2)) := hide (by simp [mBest, bestOk, h1])
      go_enter Try.func13, Try.ntmps13
      go_wp2_with fail
      refine (iEach_any A n c l n 0 10000000 _ hn hr).mono ?_
      rintro e w1 ⟨rfl, hb⟩
      have hB := hide hb
      clear hb
      go_wp2
      go_ret3; exact ⟨by rw [hm.out]; rfl, hB.out⟩
    · cases h2 : allIn l' 0 10000 && ((n' : Int) == n)
      · have hf : bestOk l l' x = false := by
          rw [Bool.eq_false_iff]; intro h
          obtain ⟨_, _, k1, k2, _⟩ := bestOk_iff.1 h
          rw [hl.out, hl'.out] at k2
          rw [k1, k2] at h2
          simp at h2
        have hm : Hid (mBest l l' x = (0, 0, 2)) := hide (by simp [mBest, hf])
        clear hf
        go_enter Try.func13, Try.ntmps13
        go_wp2_with fail
        refine (iEach_any A n c l n 0 10000000 _ hn hr).mono ?_
        rintro e w1 ⟨rfl, hb⟩
        have hB := hide hb
        clear hb
        go_wp2_with fail
        refine (iEach_any A' n' c' l' n 0 10000 _ hn' (hr'.go hB.out)).mono ?_
        rintro e w2 ⟨rfl, hb⟩
        replace hB := hide (Below.up hB.out hb)
        clear hb
        go_wp2
        go_ret3; exact ⟨by rw [hm.out]; rfl, hB.out⟩
      · have h2a : allIn l' 0 10000 = true := by simp at h2; exact h2.1
        have hnn : n' = n := by simp at h2; omega
        subst hnn
        cases h3 : inB x 0 10000000
        · have hm : Hid (mBest l l' x = (0, 0, 2)) := hide (by simp [mBest, bestOk, h3])
          go_enter Try.func13, Try.ntmps13
          go_wp2_with fail
          refine (iEach_any A n' c l n' 0 10000000 _ hn hr).mono ?_
          rintro e w1 ⟨rfl, hb⟩
          have hB := hide hb
          clear hb
          go_wp2_with fail
          refine (iEach_any A' n' c' l' n' 0 10000 _ hn' (hr'.go hB.out)).mono ?_
          rintro e w2 ⟨rfl, hb⟩
          replace hB := hide (Below.up hB.out hb)
          clear hb
          go_wp2_with (go_at_call 32; refine (isSum_any _ _).mono ?_; rintro e w' ⟨rfl, rfl⟩)
          go_ret3; exact ⟨by rw [hm.out]; rfl, hB.out⟩
        · have hok : Hid (bestOk l l' x = true) := hide (bestOk_iff.2 ⟨by rw [hl.out]; omega, h1, h2a, by rw [hl.out, hl'.out], h3⟩)
          have hxb := inB_true.1 h3
          have hp1 := hide h1
          have hp2 := hide h2a
          rcases Nat.eq_zero_or_pos n' with hz | hz
          · have hm : Hid (mBest l l' x = (0, 0, 3)) := hide (by simp [mBest, hok.out, hl.out, hz])
            subst hz
            go_enter Try.func13, Try.ntmps13
            go_wp2_with fail
            refine (iEach_any A 0 c l 0 0 10000000 _ hn hr).mono ?_
            rintro e w1 ⟨rfl, hb⟩
            have hB := hide hb
            clear hb
            go_wp2_with fail
            refine (iEach_any A' 0 c' l' 0 0 10000 _ hn' (hr'.go hB.out)).mono ?_
            rintro e w2 ⟨rfl, hb⟩
            replace hB := hide (Below.up hB.out hb)
            clear hb
            go_wp2_with (go_at_call 32; refine (isSum_any _ _).mono ?_; rintro e w' ⟨rfl, rfl⟩)
            go_ret3; exact ⟨by rw [hm.out]; rfl, hB.out⟩
          · have hm : Hid (mBest l l' x = ((bestTo (profAt l l' x) n' : Int), profAt l l' x (bestTo (profAt l l' x) n'), 0)) := hide (by
              simp only [mBest, hok.out, hl.out, if_true]; rw [if_neg (by omega)])
            have e0 : ((n' : Int) == 0) = false := by simp; omega
            clear h1 h2 h2a
            have h1 := hp1.out
            have h2 := hp2.out
            go_enter Try.func13, Try.ntmps13
            go_wp2_with fail
            refine (iEach_any A n' c l n' 0 10000000 _ hn hr).mono ?_
            rintro e w1 ⟨rfl, hb⟩
            have hB := hide hb
            clear hb
            go_wp2_with fail
            refine (iEach_any A' n' c' l' n' 0 10000 _ hn' (hr'.go hB.out)).mono ?_
            rintro e w2 ⟨rfl, hb⟩
            replace hB := hide (Below.up hB.out hb)
            clear hb
            go_wp2_with (go_at_call 32; refine (isSum_any _ _).mono ?_; rintro e w' ⟨rfl, rfl⟩)
            obtain ⟨b, o, p0, rfl, hbl, hx, c0⟩ := hr.int hz
            obtain ⟨b', o', s0, rfl, hbl', hx', c0'⟩ := hr'.int hz
            have d0 : w2.cell? ⟨b, o, none⟩ = some (.int .i64 p0) := (hB.out.cell (p := ⟨b, o, none⟩) hbl).trans c0
            have d0' : w2.cell? ⟨b', o', none⟩ = some (.int .i64 s0) := (hB.out.cell (p := ⟨b', o', none⟩) hbl').trans c0'
            have hpb := allIn_at hp1.out hx
            have hsb := allIn_at hp2.out hx'
            have hv := prof_bound hpb hsb hxb
            have hX := hide hx
            have hX' := hide hx'
            clear hx hx' c0 c0'
            have hz' : (0 : Int) < (n' : Int) := by omega
            have hw0 : IntKind.i64.wrap (p0 - x) = p0 - x := IntWalk.i64_in _ (by omega)
            have hw1 : IntKind.i64.wrap ((p0 - x) * s0) = (p0 - x) * s0 := IntWalk.i64_in _ (by omega)
            go_quiet (fail)
            clear hw0 hw1 d0 d0'
            go_wp2
            go_loopw [9, 10, 50] (fun bs mo i wr => ∃ (k m : Nat) (v : Int), k ≤ n' ∧ m < n' ∧ i = .int .i64 k ∧ bs = .int .i64 m ∧ mo = .int .i64 v ∧ Below w.heap.size w wr ∧ Hid (m = bestTo (profAt l l' x) k) ∧ Hid (v = profAt l l' x m)) (fun _ _ i _ => n' - (intOf i).toNat)
            case atStart => exact ⟨0, 0, (p0 - x) * s0, Nat.zero_le _, hz, rfl, rfl, rfl, below_drewN hB.out _, hide rfl, hide (profAt_eq hX.out hX'.out).symm⟩
            case round =>
              obtain ⟨k, m, v, hk, hmn, rfl, rfl, rfl, hb, hzm, hzv⟩ := hrel
              clear hpb hsb hv
              by_cases hlt : k < n'
              · obtain ⟨_, _, p1, hA1, hbl1, hx, c0⟩ := hr.int hlt
                cases hA1
                obtain ⟨_, _, s1, hA1, hbl2, hx', c0'⟩ := hr'.int hlt
                cases hA1
                have d0 : wr.cell? ⟨b, o + k, none⟩ = some (.int .i64 p1) := (hb.cell (p := ⟨b, o + k, none⟩) hbl).trans c0
                have d0' : wr.cell? ⟨b', o' + k, none⟩ = some (.int .i64 s1) := (hb.cell (p := ⟨b', o' + k, none⟩) hbl').trans c0'
                have hpb := allIn_at hp1.out hx
                have hsb := allIn_at hp2.out hx'
                have hv := prof_bound hpb hsb hxb
                have hY := hide hx
                have hY' := hide hx'
                have hBw := hide hb
                clear hx hx' c0 c0' hb hr hr'
                by_cases hgt : v < (p1 - x) * s1
                · go_wp2
                  go_roundw
                  case rel => exact ⟨k + 1, k, (p1 - x) * s1, by omega, hlt, by go_num, rfl, rfl, hBw.out, hide (by unfold bestTo; rw [← hzm.out, ← hzv.out, profAt_eq hY.out hY'.out, if_pos hgt]), hide (profAt_eq hY.out hY'.out).symm⟩
                  case measure => simp [intOf]; omega
                · go_wp2
                  go_roundw
                  case rel => exact ⟨k + 1, m, v, by omega, hmn, by go_num, rfl, rfl, hBw.out, hide (by unfold bestTo; rw [← hzm.out, ← hzv.out, profAt_eq hY.out hY'.out, if_neg (by omega)]), hzv⟩
                  case measure => simp [intOf]; omega
              · have hkn : k = n' := by omega
                subst hkn
                have hBw := hide hb
                clear hb
                go_wp2
                go_ret3
                exact ⟨ret3 (by rw [hm.out, ← hzm.out]) (by rw [hm.out, ← hzm.out, ← hzv.out]) (by rw [hm.out]), hBw.out⟩
theorem not_best {ps ss : List Int} {c : Int} (h : bestOk ps ss c = false) : mBest ps ss c = (0, 0, 2) := by simp [mBest, h]
theorem sBest_any (A : Option Addr) (n c : Nat) (l : List Int) (A' : Option Addr) (n' c' : Nat) (l' : List Int) (x : Int) (w : World) (hn : n ≤ 1048576) (hn' : n' ≤ 1048576) (hr : Arr i64c 1 w w.heap.size A n l) (hr' : Arr i64c 1 w w.heap.size A' n' l') :
    Calls Try.prog 14 #[.slice A n c, .slice A' n' c', .int .i64 x] w fun e w' =>
      e = .returned (.tuple #[.int .i64 (mBest l l' x).1, .int .i64 (mBest l l' x).2.1, .int .i64 (mBest l l' x).2.2]) ∧ Below w.heap.size w w' := by
  have hl := hide hr.len
  have hl' := hide hr'.len
  go_enter Try.func14, Try.ntmps14
  go_wp2
  go_loopw [9] (fun i wr => ∃ k : Nat, k ≤ n ∧ i = .int .i64 k ∧ Below w.heap.size w wr ∧ Hid ((l.take k).all (fun x => inB x 0 10000000) = true)) (fun i _ => n - (intOf i).toNat)
  case atStart => exact ⟨0, Nat.zero_le _, rfl, Below.refl _ _, hide (by simp)⟩
  case round =>
    obtain ⟨k, hk, rfl, hb, hall⟩ := hrel
    by_cases hlt : k < n
    · obtain ⟨b, o, p, rfl, hbl, hx, c0⟩ := hr.int hlt
      have d0 : wr.cell? ⟨b, o + k, none⟩ = some (.int .i64 p) := (hb.cell (p := ⟨b, o + k, none⟩) hbl).trans c0
      have hX := hide hx
      clear hx c0
      have hB := hide hb
      clear hr hb
      cases h1 : inB p 0 10000000
      · have hm : Hid (mBest l l' x = (0, 0, 2)) := hide (not_best (by unfold bestOk allIn; rw [all_not (l := l) hX.out h1]; simp))
        go_wp2_with (go_at_call 34; refine (money_any _ _).mono ?_; rintro e w' ⟨rfl, rfl⟩)
        go_ret3; exact ⟨by rw [hm.out]; rfl, hB.out⟩
      · go_wp2_with (go_at_call 34; refine (money_any _ _).mono ?_; rintro e w' ⟨rfl, rfl⟩)
        go_roundw
        case rel => exact ⟨k + 1, by omega, by go_num, hB.out, hide (by rw [take_snoc hX.out, List.all_append, hall.out]; simp [h1])⟩
        case measure => simp [intOf]; omega
    · have hkn : k = n := by omega
      subst hkn
      have hB := hide hb
      clear hb
      have hp1 : Hid (allIn l 0 10000000 = true) := hide (by have e := hall.out; rw [List.take_of_length_le (by rw [hl.out]; exact Nat.le_refl _)] at e; exact e)
      clear hall hlt
      go_wp2
      go_loopw [10] (fun i wr => ∃ k : Nat, k ≤ n' ∧ i = .int .i64 k ∧ Below w.heap.size w wr ∧ Hid ((l'.take k).all (fun x => inB x 0 10000) = true)) (fun i _ => n' - (intOf i).toNat)
      case atStart => exact ⟨0, Nat.zero_le _, rfl, hB.out, hide (by simp)⟩
      case round =>
        clear hB
        obtain ⟨q, hq, rfl, hb, hall⟩ := hrel
        by_cases hlt : q < n'
        · obtain ⟨b, o, p, rfl, hbl, hx, c0⟩ := hr'.int hlt
          have d0 : wr.cell? ⟨b, o + q, none⟩ = some (.int .i64 p) := (hb.cell (p := ⟨b, o + q, none⟩) hbl).trans c0
          have hX := hide hx
          clear hx c0
          have hB := hide hb
          clear hr' hr hb
          cases h1 : inB p 0 10000
          · have hm : Hid (mBest l l' x = (0, 0, 2)) := hide (not_best (by unfold bestOk allIn; rw [all_not (l := l') hX.out h1]; simp))
            go_wp2_with (go_at_call 37; refine (in_any _ _ _ _).mono ?_; rintro e w' ⟨rfl, rfl⟩)
            go_ret3; exact ⟨by rw [hm.out]; rfl, hB.out⟩
          · go_wp2_with (go_at_call 37; refine (in_any _ _ _ _).mono ?_; rintro e w' ⟨rfl, rfl⟩)
            go_roundw
            case rel => exact ⟨q + 1, by omega, by go_num, hB.out, hide (by rw [take_snoc hX.out, List.all_append, hall.out]; simp [h1])⟩
            case measure => simp [intOf]; omega
        · have hkn : q = n' := by omega
          subst hkn
          have hB := hide hb
          clear hb
          have hp2 : Hid (allIn l' 0 10000 = true) := hide (by have e := hall.out; rw [List.take_of_length_le (by rw [hl'.out]; exact Nat.le_refl _)] at e; exact e)
          clear hall hlt
          by_cases hkq : k = q
          · subst hkq
            have e1 : ((k : Int) != (k : Int)) = false := by simp
            by_cases h12 : (12 : Int) < (k : Int)
            · have hm : Hid (mBest l l' x = (0, 0, 2)) := hide (not_best (by
                rw [Bool.eq_false_iff]; intro h
                have := (bestOk_iff.1 h).1
                rw [hl.out] at this
                omega))
              go_wp2
              go_ret3; exact ⟨by rw [hm.out]; rfl, hB.out⟩
            · cases h3 : inB x 0 10000000
              · have hm : Hid (mBest l l' x = (0, 0, 2)) := hide (not_best (by simp [bestOk, h3]))
                go_wp2_with (go_at_call 34; refine (money_any _ _).mono ?_; rintro e w' ⟨rfl, rfl⟩)
                go_ret3; exact ⟨by rw [hm.out]; rfl, hB.out⟩
              · have hok : Hid (bestOk l l' x = true) := hide (bestOk_iff.2 ⟨by rw [hl.out]; omega, hp1.out, hp2.out, by rw [hl.out, hl'.out], h3⟩)
                have hxb := inB_true.1 h3
                rcases Nat.eq_zero_or_pos k with hz | hz
                · have hm : Hid (mBest l l' x = (0, 0, 3)) := hide (by simp [mBest, hok.out, hl.out, hz])
                  subst hz
                  go_wp2_with (go_at_call 34; refine (money_any _ _).mono ?_; rintro e w' ⟨rfl, rfl⟩)
                  go_ret3; exact ⟨by rw [hm.out]; rfl, hB.out⟩
                · have hm : Hid (mBest l l' x = ((bestTo (profAt l l' x) k : Int), profAt l l' x (bestTo (profAt l l' x) k), 0)) := hide (by
                    simp only [mBest, hok.out, hl.out, if_true]; rw [if_neg (by omega)])
                  have e0 : ((k : Int) == 0) = false := by simp; omega
                  go_wp2_with (go_at_call 34; refine (money_any _ _).mono ?_; rintro e w' ⟨rfl, rfl⟩)
                  go_loopw [11, 12] (fun bs i wr => ∃ (q m : Nat), 1 ≤ q ∧ q ≤ k ∧ m < k ∧ i = .int .i64 q ∧ bs = .int .i64 m ∧ Below w.heap.size w wr ∧ Hid (m = bestTo (profAt l l' x) q)) (fun _ i _ => k - (intOf i).toNat)
                  case atStart => exact ⟨1, 0, Nat.le_refl _, hz, hz, rfl, rfl, hB.out, hide (bestTo_one _).symm⟩
                  case round =>
                    clear hB
                    obtain ⟨q, m, hq1, hq, hmn, rfl, rfl, hb, hzm⟩ := hrel
                    obtain ⟨b, o, p1, rfl, hbl, hx, c0⟩ := hr.int hmn
                    have d0 : wr.cell? ⟨b, o + m, none⟩ = some (.int .i64 p1) := (hb.cell (p := ⟨b, o + m, none⟩) hbl).trans c0
                    have hX := hide hx
                    clear hx c0
                    obtain ⟨b', o', s1, rfl, hbl', hx', c0'⟩ := hr'.int hmn
                    have d0' : wr.cell? ⟨b', o' + m, none⟩ = some (.int .i64 s1) := (hb.cell (p := ⟨b', o' + m, none⟩) hbl').trans c0'
                    have hpb := allIn_at hp1.out hX.out
                    have hsb := allIn_at hp2.out hx'
                    have hv := prof_bound hpb hsb hxb
                    have hX' := hide hx'
                    clear hx' c0'
                    have hm0 : (0 : Int) ≤ (m : Int) := by omega
                    have hm1 : (m : Int) < (k : Int) := by omega
                    have hw1 : IntKind.i64.wrap (p1 - x) = p1 - x := IntWalk.i64_in _ (by omega)
                    have hw2 : IntKind.i64.wrap ((p1 - x) * s1) = (p1 - x) * s1 := IntWalk.i64_in _ (by omega)
                    by_cases hlt : q < k
                    · obtain ⟨b2, o2, p2, hA2, hbl2, hx2, c02⟩ := hr.int hlt
                      cases hA2
                      have d02 : wr.cell? ⟨b, o + q, none⟩ = some (.int .i64 p2) := (hb.cell (p := ⟨b, o + q, none⟩) hbl2).trans c02
                      have hX2 := hide hx2
                      clear hx2 c02
                      obtain ⟨_, _, s2, hA3, hbl3, hx', c0'⟩ := hr'.int hlt
                      cases hA3
                      have d02' : wr.cell? ⟨b', o' + q, none⟩ = some (.int .i64 s2) := (hb.cell (p := ⟨b', o' + q, none⟩) hbl').trans c0'
                      have hpb2 := allIn_at hp1.out hX2.out
                      have hsb2 := allIn_at hp2.out hx'
                      have hv2 := prof_bound hpb2 hsb2 hxb
                      have hX2' := hide hx'
                      have hBw := hide hb
                      clear hx' c0' hb hr hr'
                      have hq0 : (0 : Int) ≤ (q : Int) := by omega
                      have hq2 : (q : Int) < (k : Int) := by omega
                      have hw3 : IntKind.i64.wrap (p2 - x) = p2 - x := IntWalk.i64_in _ (by omega)
                      have hw4 : IntKind.i64.wrap ((p2 - x) * s2) = (p2 - x) * s2 := IntWalk.i64_in _ (by omega)
                      by_cases hgt : (p1 - x) * s1 < (p2 - x) * s2
                      · go_wp2
                        go_quiet (fail)
                        clear hw1 hw2 hw3 hw4
                        go_wp2
                        go_roundw
                        case rel => exact ⟨q + 1, q, by omega, by omega, hlt, by go_num, rfl, below_drewN hBw.out _, hide (by unfold bestTo; rw [← hzm.out, profAt_eq hX.out hX'.out, profAt_eq hX2.out hX2'.out, if_pos hgt])⟩
                        case measure => simp [intOf]; omega
                      · go_wp2
                        go_quiet (fail)
                        clear hw1 hw2 hw3 hw4
                        go_wp2
                        go_roundw
                        case rel => exact ⟨q + 1, m, by omega, by omega, hmn, by go_num, rfl, below_drewN hBw.out _, hide (by unfold bestTo; rw [← hzm.out, profAt_eq hX.out hX'.out, profAt_eq hX2.out hX2'.out, if_neg (by omega)])⟩
                        case measure => simp [intOf]; omega
                    · have hkn : q = k := by omega
                      subst hkn
                      have hBw := hide hb
                      clear hb
                      go_wp2
                      go_quiet (fail)
                      clear hw1 hw2
                      go_wp2
                      go_ret3
                      exact ⟨ret3 (by rw [hm.out, ← hzm.out]) (by rw [hm.out, ← hzm.out, profAt_eq hX.out hX'.out]) (by rw [hm.out]), below_drewN hBw.out _⟩
          · have e1 : ((k : Int) != (q : Int)) = true := by simp; omega
            have hm : Hid (mBest l l' x = (0, 0, 2)) := hide (not_best (by
              rw [Bool.eq_false_iff]; intro h
              have := (bestOk_iff.1 h).2.2.2.1
              rw [hl.out, hl'.out] at this
              omega))
            go_wp2
            go_ret3; exact ⟨by rw [hm.out]; rfl, hB.out⟩
end Go.Proofs.Ytldnnlgekhjebaa
