/- The reference's LogOf, and the walk of the exact law. No statement is proved here. -/
import Derived.Test.YtgjhibkljpjdhaaDoorLgC
import Derived.Test.YtgjhibkljpjdhaaDoorLgD
import Derived.Test.YtgjhibkljpjdhaaDoorMark
namespace Go.Proofs.YtgjhibkljpjdhaaDoor
open Go.ChangeShapes Go.WideShapes Go.ChangeAt Go.RowKit Go.Deep
set_option maxRecDepth 100000
set_option maxHeartbeats 2000000 in
theorem sLogOf_any (A : Option Addr) (n c : Nat) (l : List Entry) (w : World) (hn : n ≤ 1048576) (hq : ∀ x ∈ l, x.fits) (hr0 : Arr Entry.cells 3 w w.heap.size A n l) :
    Calls Tryd.prog 7 #[.slice A n c] w fun e w' => e = .returned (.tuple #[.string (mLog l).1, .int .i64 (mLog l).2]) ∧ Below w.heap.size w w' := by
  have hL := hide hr0.len
  have hr := hide hr0
  have hQ := hide hq
  clear hr0 hq
  go_enter Tryd.func7, Tryd.ntmps7
  go_wp2
  go_loopw [4] (fun i wr => ∃ k : Nat, k ≤ n ∧ i = .int .i64 k ∧ w = wr ∧ Hid (∀ j x, j < k → l[j]? = some x → x.ok = true)) (fun i _ => n - (intOf i).toNat)
  case atStart => exact ⟨0, Nat.zero_le _, rfl, rfl, hide fun j x h => by omega⟩
  case round =>
    obtain ⟨k, hk, rfl, rfl, hI⟩ := hrel
    by_cases hlt : k < n
    · obtain ⟨b, o, x, hA, hbl, hx, d0, d1, d2⟩ := hr.out.Entry hlt
      subst hA
      have hX := hide hx
      have hxf := hQ.out x (List.mem_of_getElem? hx)
      have hV := hide (sEntry_any b (o + k * 3) x w hxf d0 d1 d2)
      clear hx d0 d1 d2
      cases hok : x.ok
      · have hm := hide (mLog_bad (l := l) (by unfold allOk; exact all_not hX.out hok))
        rw [hok] at hV
        go_wp2_with (first | (go_at_call 21; refine hV.out.mono ?_; rintro e w2 ⟨rfl, rfl⟩) | fail)
        go_ret2
        exact ⟨by rw [hm.out]; rfl, Below.refl _ _⟩
      · have hI2 : Hid (∀ j x, j < k + 1 → l[j]? = some x → x.ok = true) := hide fun j y h hy => by
          by_cases he : j = k
          · subst he; rw [hX.out] at hy; cases hy; exact hok
          · exact hI.out j y (by omega) hy
        rw [hok] at hV
        go_wp2_with (first | (go_at_call 21; refine hV.out.mono ?_; rintro e w2 ⟨rfl, rfl⟩) | fail)
        go_roundw
        case rel => exact ⟨k + 1, by omega, by go_num, trivial, hI2⟩
        case measure => simp [intOf]; omega
    · have hall : allOk l = true := by unfold allOk; exact all_of_parts fun i x h => hI.out i x (by have := lt_of_get h; have := hL.out; omega) h
      have hOK := hide (allOk_all hall)
      have hM1 := hide (fun h => mLog_late hall h)
      have hM2 := hide (fun h h' => mLog_full hall h h')
      have hM3 := hide (fun h h' => mLog_good hall h h')
      clear hall hI
      go_wp2
      go_loopw [5] (fun i wr => ∃ k : Nat, 1 ≤ k ∧ (k ≤ n ∨ k = 1) ∧ i = .int .i64 k ∧ Below w.heap.size w wr ∧ Hid (∀ j, 1 ≤ j → j < k → lateAt l j = false)) (fun i _ => n - (intOf i).toNat)
      case atStart => exact ⟨1, Nat.le_refl _, .inr rfl, rfl, Below.refl _ _, hide fun j h1 h2 => by omega⟩
      case round =>
        obtain ⟨p, hp1, hp2, rfl, hb, hI⟩ := hrel
        by_cases hlt2 : p < n
        · obtain ⟨b, o, x, hA, hbl, hx, d0, d1, d2⟩ := (hr.out.go hb).Entry hlt2
          subst hA
          obtain ⟨b2, o2, y, hA2, _, hy, e0, e1, e2⟩ := (hr.out.go hb).Entry (k := p - 1) (by omega)
          cases hA2
          have hLA := hide (lateAt_eq hx hy)
          have hB := hide hb
          clear hb hx hy d1 d2 e1 e2
          have hi0 : (0 : Int) ≤ (p : Int) - 1 := by omega
          have hi1 : (p : Int) - 1 < (n : Int) := by omega
          have hw : IntKind.i64.wrap ((p : Int) - 1) = (p : Int) - 1 := IntWalk.i64_in _ (by omega)
          have hi2 : ((p : Int) - 1).toNat = p - 1 := by omega
          have hi3 : (1 : Int) ≤ (p : Int) := by omega
          have hkn : (p : Int) < (n : Int) := by omega
          have hkk : (0 : Int) ≤ (p : Int) := by omega
          by_cases hd : x.fDay < y.fDay
          · have hm := hide (hM1.out (inOrd_false (j := p) hp1 (by rw [hL.out]; exact hlt2) (by rw [hLA.out, decide_eq_true hd])))
            have hd2 : decide (x.fDay < y.fDay) = true := decide_eq_true hd
            go_wp2_with fail
            go_quiet (fail)
            clear hw hi2
            go_wp2
            go_ret2
            exact ⟨by rw [hm.out]; rfl, below_drewN hB.out _⟩
          · have hd2 : decide (x.fDay < y.fDay) = false := decide_eq_false hd
            have hI2 : Hid (∀ j, 1 ≤ j → j < p + 1 → lateAt l j = false) := hide fun j h1 h2 => by
              by_cases he : j = p
              · subst he; rw [hLA.out, decide_eq_false hd]
              · exact hI.out j h1 (by omega)
            go_wp2_with fail
            go_quiet (fail)
            clear hw hi2
            go_wp2
            go_roundw
            case rel => exact ⟨p + 1, by omega, .inl (by omega), by go_num, below_drewN hB.out _, hI2⟩
            case measure => simp [intOf]; omega
        · have hord := inOrd_true (l := l) fun j h1 h2 => hI.out j h1 (by have := hL.out; omega)
          replace hM2 := hide (hM2.out hord)
          replace hM3 := hide (hM3.out hord)
          have hsz := lgOf_size (l := l) hOK.out
          rw [hL.out] at hsz
          have hB := hide hb
          clear hord hI hb
          go_wp2_with fail
          refine (sMake_any A n c l _ hn (hr.out.go hB.out) hOK.out).mono ?_
          rintro e w2 ⟨rfl, hb⟩
          replace hB := hide (Below.up hB.out hb)
          clear hb
          have hm : Hid (mLog l = if 4000 < (lgOf l).2.size then (⟨#[]⟩, 5) else ((lgOf l).2, 0)) := hide (by
            by_cases h : 4000 < (lgOf l).2.size
            · rw [if_pos h, hM2.out h]
            · rw [if_neg h, hM3.out h])
          clear hM2 hM3
          obtain ⟨S, hS⟩ : ∃ S, S = (lgOf l).2 := ⟨_, rfl⟩
          rw [← hS] at hm hsz ⊢
          clear hS
          have hss : S.size ≤ 2097152000000 := by omega
          clear hsz
          by_cases hf : 4000 < S.size
          · have hf' : (4000 : Int) < (S.size : Int) := by omega
            rw [if_pos hf] at hm
            clear hf
            go_wp2
            go_ret2
            exact ⟨by rw [hm.out]; rfl, hB.out⟩
          · have hf' : ¬ (4000 : Int) < (S.size : Int) := by omega
            rw [if_neg hf] at hm
            clear hf
            go_wp2
            go_ret2
            exact ⟨by rw [hm.out]; rfl, hB.out⟩
end Go.Proofs.YtgjhibkljpjdhaaDoor
