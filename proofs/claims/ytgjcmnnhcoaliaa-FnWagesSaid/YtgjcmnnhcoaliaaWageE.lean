/- Contracts: the bonus for a quota a day; what a name earns. -/
import Derived.Test.YtgjcmnnhcoaliaaWageD
namespace Go.Proofs.Ytgjcmnnhcoaliaa
open Go.ChangeShapes Go.WideShapes Go.ChangeAt Go.RowKit Go.Deep
set_option maxRecDepth 100000
/-! ### the bonus -/
def dayF (s : ByteArray) (d : Int) (x : PieceW) : Int := if x.fName = s ∧ x.fDay = d then x.fMade else 0
theorem dayF_bound {l : List PieceW} (h : piecesOk l = true) (s : ByteArray) (d : Int) : ∀ x ∈ l, 0 ≤ dayF s d x ∧ dayF s d x ≤ 500 := by
  intro x hx
  have := piecesOk_at h hx
  unfold dayF
  split <;> omega
def bonusTo (l : List PieceW) (s : ByteArray) (q p : Int) : Nat → Int
  | 0 => 0
  | d + 1 => bonusTo l s q p d + if q ≤ sumOf (dayF s (d : Int)) l then p else 0
theorem bonusTo_yes {l : List PieceW} {s : ByteArray} {q p : Int} {d : Nat} (h : q ≤ sumOf (dayF s (d : Int)) l) : bonusTo l s q p (d + 1) = bonusTo l s q p d + p := by
  rw [bonusTo, if_pos h]
theorem bonusTo_no {l : List PieceW} {s : ByteArray} {q p : Int} {d : Nat} (h : ¬ q ≤ sumOf (dayF s (d : Int)) l) : bonusTo l s q p (d + 1) = bonusTo l s q p d := by
  rw [bonusTo, if_neg h, Int.add_zero]
theorem bonusTo_bound {l : List PieceW} {s : ByteArray} {q p : Int} (h0 : 0 ≤ p) (h1 : p ≤ 10000) (d : Nat) : 0 ≤ bonusTo l s q p d ∧ bonusTo l s q p d ≤ 10000 * d := by
  induction d with
  | zero => simp [bonusTo]
  | succ d ih =>
    rw [bonusTo]
    split <;> omega
def bonusOk (s : ByteArray) (q p : Int) : Bool := isName s && inB q 1 500 && inB p 0 10000
def mBonus (l : List PieceW) (s : ByteArray) (q p : Int) : Int × Int := if piecesOk l then (if bonusOk s q p then (bonusTo l s q p 366, 0) else (0, 2)) else (0, 1)
def dayRow (l : List PieceW) (s : ByteArray) (k : Nat) : List Int := (List.range 366).map fun (d : Nat) => sumOf (dayF s (d : Int)) (l.take k)
theorem dayRow_len (l : List PieceW) (s : ByteArray) (k : Nat) : (dayRow l s k).length = 366 := by simp [dayRow]
theorem dayRow_get {l : List PieceW} {s : ByteArray} {k d : Nat} (h : d < 366) : (dayRow l s k)[d]? = some (sumOf (dayF s (d : Int)) (l.take k)) := by simp [dayRow, h]
theorem dayRow_zero (l : List PieceW) (s : ByteArray) : dayRow l s 0 = List.replicate 366 0 := by
  apply List.ext_getElem?
  intro i
  rcases Nat.lt_or_ge i 366 with h | h
  · rw [dayRow_get h, List.getElem?_replicate_of_lt h]; rfl
  · rw [List.getElem?_eq_none (by rw [dayRow_len]; exact h), List.getElem?_eq_none (by rw [List.length_replicate]; exact h)]
theorem dayRow_no {l : List PieceW} {s : ByteArray} {k : Nat} {x : PieceW} (h : l[k]? = some x) (hs : ¬ x.fName = s) : dayRow l s (k + 1) = dayRow l s k := by
  unfold dayRow
  congr 1
  funext d
  rw [sumOf_snoc h, dayF, if_neg (fun e => hs e.1), Int.add_zero]
theorem dayRow_yes {l : List PieceW} {s : ByteArray} {k d : Nat} {x : PieceW} (h : l[k]? = some x) (hs : x.fName = s) (hd : x.fDay = (d : Int)) (h3 : d < 366) :
    (dayRow l s k).set d (sumOf (dayF s (d : Int)) (l.take k) + x.fMade) = dayRow l s (k + 1) := by
  apply List.ext_getElem?
  intro i
  rw [List.getElem?_set]
  rcases Nat.lt_or_ge i 366 with hi | hi
  · rw [dayRow_get hi, dayRow_get hi, sumOf_snoc h]
    by_cases e : d = i
    · subst e
      rw [if_pos rfl, if_pos (by rw [dayRow_len]; exact h3), dayF, if_pos ⟨hs, hd⟩]
    · rw [if_neg e, dayF, if_neg (fun q => e (by omega)), Int.add_zero]
  · rw [if_neg (by omega), List.getElem?_eq_none (by rw [dayRow_len]; exact hi), List.getElem?_eq_none (by rw [dayRow_len]; exact hi)]
theorem sumOf_day_bound {l : List PieceW} (h : piecesOk l = true) (s : ByteArray) (d : Int) (k : Nat) : 0 ≤ sumOf (dayF s d) (l.take k) ∧ sumOf (dayF s d) (l.take k) ≤ 15000 :=
  sumOf_take_bound (M := 500) (N := 30) (dayF_bound h s d) (piecesOk_len h) (by omega) k
theorem iBonus_any (A : Option Addr) (n c : Nat) (l : List PieceW) (s : ByteArray) (q p : Int) (w : World) (hn : n ≤ 1048576) (hf : ∀ x ∈ l, x.fits) (hz : s.size ≤ maxLen) (hr : Arr PieceW.cells 4 w w.heap.size A n l) :
    Calls Try.prog 10 #[.slice A n c, .string s, .int .i64 q, .int .i64 p] w fun e w' => e = .returned (.tuple #[.int .i64 (mBonus l s q p).1, .int .i64 (mBonus l s q p).2]) ∧ Below w.heap.size w w' := by
  have hl := hide hr.len
  cases hok : piecesOk l
  · have hm : Hid (mBonus l s q p = (0, 1)) := hide (by simp [mBonus, hok])
    go_enter Try.func10, Try.ntmps10
    go_wp2_with (go_at_call 22; refine (iPieces_any A n c l _ hn hf hr).mono ?_; rintro e whB ⟨rfl, hb⟩; have hB := hide (hb); clear hb)
    go_ret2; exact ⟨by rw [hm.out]; rfl, hB.out⟩
  · cases h0 : isName s
    · have hm : Hid (mBonus l s q p = (0, 2)) := hide (by simp [mBonus, bonusOk, hok, h0])
      go_enter Try.func10, Try.ntmps10
      go_wp2_with (first | (go_at_call 22; refine (iPieces_any A n c l _ hn hf hr).mono ?_; rintro e whB ⟨rfl, hb⟩; have hB := hide (hb); clear hb) | (go_at_call 24; refine (iName_any _ _ hz).mono ?_; rintro e w' ⟨rfl, rfl⟩) | (go_at_call 25; refine (within_any _ _ _ _).mono ?_; rintro e w' ⟨rfl, rfl⟩))
      go_ret2; exact ⟨by rw [hm.out]; rfl, hB.out⟩
    · cases h1 : inB q 1 500
      · have hm : Hid (mBonus l s q p = (0, 2)) := hide (by simp [mBonus, bonusOk, hok, h0, h1])
        go_enter Try.func10, Try.ntmps10
        go_wp2_with (first | (go_at_call 22; refine (iPieces_any A n c l _ hn hf hr).mono ?_; rintro e whB ⟨rfl, hb⟩; have hB := hide (hb); clear hb) | (go_at_call 24; refine (iName_any _ _ hz).mono ?_; rintro e w' ⟨rfl, rfl⟩) | (go_at_call 25; refine (within_any _ _ _ _).mono ?_; rintro e w' ⟨rfl, rfl⟩))
        go_ret2; exact ⟨by rw [hm.out]; rfl, hB.out⟩
      · cases h2 : inB p 0 10000
        · have hm : Hid (mBonus l s q p = (0, 2)) := hide (by simp [mBonus, bonusOk, hok, h0, h1, h2])
          go_enter Try.func10, Try.ntmps10
          go_wp2_with (first | (go_at_call 22; refine (iPieces_any A n c l _ hn hf hr).mono ?_; rintro e whB ⟨rfl, hb⟩; have hB := hide (hb); clear hb) | (go_at_call 24; refine (iName_any _ _ hz).mono ?_; rintro e w' ⟨rfl, rfl⟩) | (go_at_call 25; refine (within_any _ _ _ _).mono ?_; rintro e w' ⟨rfl, rfl⟩))
          go_ret2; exact ⟨by rw [hm.out]; rfl, hB.out⟩
        · skip
          have hm : Hid (mBonus l s q p = (bonusTo l s q p 366, 0)) := hide (by simp [mBonus, bonusOk, hok, h0, h1, h2])
          have hq := inB_true.1 h1
          have hp := inB_true.1 h2
          have hday := hide (fun d k => sumOf_day_bound hok s d k)
          have hpc := hide (fun (x : PieceW) (hx : x ∈ l) => piecesOk_at hok hx)
          obtain ⟨i0, hi0, hz0, hz1, hz2⟩ := info_parts info_int64'
          obtain ⟨cur, hcur⟩ : ∃ cur, cur = madeCells (Value.int .i64 0).cells (366 * 1) := ⟨_, rfl⟩
          have hmk : ∀ W : World, (Instr.makeSlice 37 (.int .i64 366) (.int .i64 366)).run Try.prog W = .ok (.slice (some ⟨W.heap.size, 0, none⟩) 366 366) (W.alloc (.cells cur 2)) := by
            intro W
            have := run_make_rowN (P := Try.prog) 37 2 i0 _ Try.underlying37 hi0 hz0 .i64 .i64 366 366 (Nat.le_refl _) (by rw [hz2]; omega) (by omega) W
            rw [hz1, ← hcur] at this
            exact this
          have hcl := hide (show cur.toList = (List.replicate 366 (0 : Int)).flatMap i64c by rw [hcur]; exact made_flat i64c_len (by omega) #[.int .i64 0] 0 rfl 366)
          clear hcur hi0 hz0 hz1 hz2
          go_enter Try.func10, Try.ntmps10
          go_wp2_with (first | (go_at_call 22; refine (iPieces_any A n c l _ hn hf hr).mono ?_; rintro e whB ⟨rfl, hb⟩; have hB := hide (hb); clear hb) | (go_at_call 24; refine (iName_any _ _ hz).mono ?_; rintro e w' ⟨rfl, rfl⟩) | (go_at_call 25; refine (within_any _ _ _ _).mono ?_; rintro e w' ⟨rfl, rfl⟩))
          clear hok h0 h1 h2 hmk
          have hmade := hide (Own.made (cells := i64c) (s := 1) (e := 2) whB hB.out.size (n := 366) (by unfold maxLen; omega) (0 : Int) i64c_len cur hcl.out)
          clear hcl
          go_loopw [35] (fun i wr => ∃ k : Nat, k ≤ n ∧ i = .int .i64 k ∧ Below w.heap.size w wr ∧ Own i64c 2 1 wr w.heap.size (.slice (some ⟨whB.heap.size, 0, none⟩) 366 366) 366 (dayRow l s k)) (fun i _ => n - (intOf i).toNat)
          case atStart => exact ⟨0, Nat.zero_le _, rfl, hB.out.alloc hB.out.size _, by rw [dayRow_zero]; exact hmade.out⟩
          case round =>
            obtain ⟨k, hk, rfl, hb, hown⟩ := hrel
            clear hmade
            have hge : w.heap.size ≤ whB.heap.size := hB.out.size
            have hO := hide hown
            clear hB hown
            by_cases hlt : k < n
            · obtain ⟨b, o, x, rfl, hbl, hx, c0, c1, c2, c3⟩ := hr.PieceW hlt
              have d0 : wr.cell? ⟨b, o + k * 4, none⟩ = some (.string x.fName) := (hb.cell (p := ⟨b, o + k * 4, none⟩) hbl).trans c0
              have d1 : wr.cell? ⟨b, o + k * 4 + 1, none⟩ = some (.string x.fSort) := (hb.cell (p := ⟨b, o + k * 4 + 1, none⟩) hbl).trans c1
              have d2 : wr.cell? ⟨b, o + k * 4 + 2, none⟩ = some (.int .i64 x.fDay) := (hb.cell (p := ⟨b, o + k * 4 + 2, none⟩) hbl).trans c2
              have d3 : wr.cell? ⟨b, o + k * 4 + 3, none⟩ = some (.int .i64 x.fMade) := (hb.cell (p := ⟨b, o + k * 4 + 3, none⟩) hbl).trans c3
              have hX := hide hx
              clear hx c0 c1 c2 c3
              have hB := hide hb
              clear hr hb hf
              have hx1 := hpc.out x (List.mem_of_getElem? hX.out)
              by_cases he : x.fName = s
              · have e1 := str_eq he
                obtain ⟨d, hd⟩ : ∃ d : Nat, x.fDay = (d : Int) := ⟨x.fDay.toNat, by omega⟩
                have hd3 : d < 366 := by omega
                have hD := hide hd
                have hyes := hide (dayRow_yes hX.out he hd hd3)
                rw [hd] at d2
                have hO2 := hide (hO.out.alloc' (.cells #[.string x.fName, .string x.fSort, .int .i64 (d : Int), .int .i64 x.fMade] 30))
                obtain ⟨z, hz1, hz2, hz3⟩ := hO2.out.int_at (k := d) hd3
                have hZ := hide hz1
                rw [dayRow_get hd3] at hz1
                have hzb := hday.out (d : Int) k
                rw [Option.some.inj hz1] at hzb
                have hmade1 : 1 ≤ x.fMade ∧ x.fMade ≤ 500 := hx1.2.1
                have hzz := hide hz1
                clear hz1 he hd hx1
                have i1 : (0 : Int) ≤ (d : Int) := by omega
                have i2 : (d : Int) < 366 := by omega
                have i3 : IntKind.i64.wrap (z + x.fMade) = z + x.fMade := IntWalk.i64_in _ (by omega)
                have hB2 := hide (hB.out.alloc hB.out.size (.cells #[.string x.fName, .string x.fSort, .int .i64 (d : Int), .int .i64 x.fMade] 30))
                have k2 : (wr.alloc (.cells #[.string x.fName, .string x.fSort, .int .i64 (d : Int), .int .i64 x.fMade] 30)).cell? ⟨wr.heap.size, 2, none⟩ = some (.int .i64 (d : Int)) := by rw [cell_of_row _ _ _ _ _ _ (heap_alloc_new wr _)]; rfl
                have k3 : (wr.alloc (.cells #[.string x.fName, .string x.fSort, .int .i64 (d : Int), .int .i64 x.fMade] 30)).cell? ⟨wr.heap.size, 3, none⟩ = some (.int .i64 x.fMade) := by rw [cell_of_row _ _ _ _ _ _ (heap_alloc_new wr _)]; rfl
                go_wp2_with fail
                obtain ⟨w2, hw2⟩ : ∃ w2, w2 = wr.alloc (.cells #[.string x.fName, .string x.fSort, .int .i64 (d : Int), .int .i64 x.fMade] 30) := ⟨_, rfl⟩
                rw [← hw2] at k2 k3 hz2 hz3 hO2 hB2 ⊢
                clear hw2
                go_still_tail 9, (by kernel_rfl)
                change wpList _ _ _ _ _ w2.drew
                go_wp2
                go_roundw
                case rel => exact ⟨k + 1, by omega, by go_num, (Below.drew hB2.out).setCell hge _, by rw [← hyes.out, Option.some.inj hzz.out]; exact (hO2.out.below (Below.refl _ _).drew).int_store hd3 _⟩
                case measure => simp [intOf]; omega
              · have e1 := str_ne he
                have hno := hide (dayRow_no hX.out he)
                clear he hx1
                go_wp2
                go_roundw
                case rel => exact ⟨k + 1, by omega, by go_num, hB.out.alloc hB.out.size _, by rw [hno.out]; exact hO.out.alloc' _⟩
                case measure => simp [intOf]; omega
            · have hkn : k = n := by omega
              subst hkn
              have hB := hide hb
              clear hb
              have hrow : Hid (∀ d : Nat, d < 366 → wr.cell? ⟨whB.heap.size, d, none⟩ = some (.int .i64 (sumOf (dayF s (d : Int)) l))) := hide (fun d hd => by
                obtain ⟨z, hz1, hz2, hz3⟩ := hO.out.int_at (k := d) hd
                rw [dayRow_get hd, List.take_of_length_le (by rw [hl.out]; exact Nat.le_refl _)] at hz1
                rw [Option.some.inj hz1]
                exact hz2)
              go_wp2
              go_loop [11, 55] (fun t i => ∃ (d : Nat) (z : Int), d ≤ 366 ∧ i = .int .i64 d ∧ t = .int .i64 z ∧ Hid (z = bonusTo l s q p d)) (fun _ i => 366 - (intOf i).toNat)
              case atStart => exact ⟨0, 0, by omega, rfl, rfl, hide rfl⟩
              case round =>
                obtain ⟨d, z, hd, rfl, rfl, hzz⟩ := hrel
                have hzb : 0 ≤ z ∧ z ≤ 3660000 := by
                  have := bonusTo_bound (l := l) (s := s) (q := q) hp.1 hp.2 d
                  rw [← hzz.out] at this
                  omega
                by_cases hlt2 : d < 366
                · have hcell := hrow.out d hlt2
                  have j1 : (0 : Int) ≤ (d : Int) := by omega
                  have j2 : (d : Int) < 366 := by omega
                  by_cases hge2 : q ≤ sumOf (dayF s (d : Int)) l
                  · have hs1 := hide (bonusTo_yes (p := p) hge2)
                    go_wp2
                    go_round
                    case rel => exact ⟨d + 1, z + p, by omega, by go_num, rfl, hide (by rw [hs1.out, hzz.out])⟩
                    case measure => simp [intOf]; omega
                  · have hs1 := hide (bonusTo_no (p := p) hge2)
                    go_wp2
                    go_round
                    case rel => exact ⟨d + 1, z, by omega, by go_num, rfl, hide (by rw [hs1.out, hzz.out])⟩
                    case measure => simp [intOf]; omega
                · have hd2 : d = 366 := by omega
                  subst hd2
                  go_wp2
                  go_ret2
                  exact ⟨ret2 (by rw [hm.out, hzz.out]) (by rw [hm.out]), hB.out⟩
end Go.Proofs.Ytgjcmnnhcoaliaa
