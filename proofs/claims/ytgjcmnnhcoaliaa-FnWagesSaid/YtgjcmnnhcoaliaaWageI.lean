/- Contracts: the wages of all names. -/
import Derived.Test.YtgjcmnnhcoaliaaWageF
import Derived.Test.YtgjcmnnhcoaliaaWageH
namespace Go.Proofs.Ytgjcmnnhcoaliaa
open Go.ChangeShapes Go.WideShapes Go.ChangeAt Go.RowKit Go.Deep
set_option maxRecDepth 100000
def wgTo (rs : List Rate) (l : List PieceW) (N : List ByteArray) (k : Nat) : List Int := (N.take k).map fun y => sumOf (wgF rs y) l
theorem wgTo_snoc {rs : List Rate} {l : List PieceW} {N : List ByteArray} {k : Nat} {y : ByteArray} (h : N[k]? = some y) : wgTo rs l N (k + 1) = wgTo rs l N k ++ [sumOf (wgF rs y) l] := by
  unfold wgTo; rw [take_snoc h, List.map_append]; rfl
def nmOk (rs : List Rate) (l : List PieceW) (y : ByteArray) : Bool := l.all (wgOk rs y)
def wgAll (rs : List Rate) (l : List PieceW) : Bool := (mNames l).all (nmOk rs l)
def mWgN (rs : List Rate) (l : List PieceW) : List ByteArray := if wgValid rs l && wgAll rs l then mNames l else []
def mWgW (rs : List Rate) (l : List PieceW) : List Int := if wgValid rs l && wgAll rs l then wgTo rs l (mNames l) (mNames l).length else []
def mWgC (rs : List Rate) (l : List PieceW) : Int := if wgValid rs l then (if wgAll rs l then 0 else 9) else 1
theorem mWgN_len (rs : List Rate) (l : List PieceW) {n : Nat} (h : l.length = n) (hn : n ≤ 1048576) : (mWgN rs l).length ≤ 1048576 := by
  unfold mWgN
  have := mNames_len l
  split
  · omega
  · simp
theorem mWgW_len (rs : List Rate) (l : List PieceW) {n : Nat} (h : l.length = n) (hn : n ≤ 1048576) : (mWgW rs l).length ≤ 1048576 := by
  unfold mWgW wgTo
  have := mNames_len l
  split
  · simp; omega
  · simp
theorem wgRes_of {rs : List Rate} {l : List PieceW} {y : ByteArray} (h : y ∈ mNames l) : wgRes rs l y = if nmOk rs l y then (sumOf (wgF rs y) l, 0) else (0, 9) := by
  unfold mNames at h
  rw [mem_names, List.mem_map] at h
  obtain ⟨x, hx, he⟩ := h
  have := wgN_pos hx he
  unfold wgRes nmOk
  rw [if_neg (by omega)]
theorem info_int8 : (Try.prog.info? 2).map (fun i => (i.zero, i.size, i.bytes)) = some (some (.int .i64 0), 1, 8) := by kernel_rfl
theorem ret_sl {v v' : Value} {k : IntKind} {a b : Int} (h : a = b) : Ending.returned (.tuple #[v, v', .int k a]) = .returned (.tuple #[v, v', .int k b]) := by rw [h]
theorem apart_none {v v' : Value} : (0 < 0 → 0 < 0 → Apart v v') ∧ (0 < 0 → 0 < 0 → Apart v' v) := ⟨fun h => absurd h (by omega), fun h => absurd h (by omega)⟩
set_option maxHeartbeats 1000000 in
theorem iWages_any (A : Option Addr) (n c : Nat) (l : List Rate) (A' : Option Addr) (n' c' : Nat) (l' : List PieceW) (w : World) (hn : n ≤ 1048576) (hn' : n' ≤ 1048576) (hf : ∀ x ∈ l, x.fits) (hf' : ∀ x ∈ l', x.fits)
    (hr : Arr Rate.cells 2 w w.heap.size A n l) (hr' : Arr PieceW.cells 4 w w.heap.size A' n' l') :
    Calls Try.prog 13 #[.slice A n c, .slice A' n' c'] w fun e w' => ∃ v v', e = .returned (.tuple #[v, v', .int .i64 (mWgC l l')]) ∧ Res strc 9 1 w' w.heap.size v (mWgN l l').length (mWgN l l') ∧ Res i64c 2 1 w' w.heap.size v' (mWgW l l').length (mWgW l l') ∧
      ((0 < (mWgN l l').length → 0 < (mWgW l l').length → Apart v v') ∧ (0 < (mWgW l l').length → 0 < (mWgN l l').length → Apart v' v)) ∧ Below w.heap.size w w' := by
  cases hok : ratesOk l
  · have hm : Hid (mWgN l l' = [] ∧ mWgW l l' = [] ∧ mWgC l l' = 1) := hide (by simp [mWgN, mWgW, mWgC, wgValid, hok])
    go_enter Try.func13, Try.ntmps13
    go_wp2_with (go_at_call 28; refine (iRates_any A n c l _ hn hf hr).mono ?_; rintro e whB ⟨rfl, hb⟩; have hB := hide (hb); clear hb)
    go_ret3; exact ⟨_, _, ret_sl hm.out.2.2.symm, by rw [hm.out.1]; exact Res.empty (Nat.zero_le _), by rw [hm.out.2.1]; exact Res.empty (Nat.zero_le _), by rw [hm.out.1, hm.out.2.1]; exact apart_none, hB.out⟩
  · cases hok2 : piecesOk l'
    · have hm : Hid (mWgN l l' = [] ∧ mWgW l l' = [] ∧ mWgC l l' = 1) := hide (by simp [mWgN, mWgW, mWgC, wgValid, hok2])
      go_enter Try.func13, Try.ntmps13
      go_wp2_with (first | (go_at_call 28; refine (iRates_any A n c l _ hn hf hr).mono ?_; rintro e whB ⟨rfl, hb⟩; have hB := hide (hb); clear hb) | (go_at_call 22; refine (iPieces_any A' n' c' l' _ hn' hf' (hr'.go hB.out)).mono ?_; rintro e whB2 ⟨rfl, hb⟩; have hB2 := hide (Below.up hB.out hb); clear hb))
      go_ret3; exact ⟨_, _, ret_sl hm.out.2.2.symm, by rw [hm.out.1]; exact Res.empty (Nat.zero_le _), by rw [hm.out.2.1]; exact Res.empty (Nat.zero_le _), by rw [hm.out.1, hm.out.2.1]; exact apart_none, hB2.out⟩
    · have hbad : Hid (wgAll l l' = false → mWgN l l' = [] ∧ mWgW l l' = [] ∧ mWgC l l' = 9) := hide (fun h => by simp [mWgN, mWgW, mWgC, wgValid, hok, hok2, h])
      have hgood : Hid (wgAll l l' = true → mWgN l l' = mNames l' ∧ mWgW l l' = wgTo l l' (mNames l') (mNames l').length ∧ mWgC l l' = 0) := hide (fun h => by simp [mWgN, mWgW, mWgC, wgValid, hok, hok2, h])
      have hO1 := hide hok
      have hO2 := hide hok2
      go_enter Try.func13, Try.ntmps13
      go_wp2_with (first | (go_at_call 28; refine (iRates_any A n c l _ hn hf hr).mono ?_; rintro e whB ⟨rfl, hb⟩; have hB := hide (hb); clear hb) | (go_at_call 22; refine (iPieces_any A' n' c' l' _ hn' hf' (hr'.go hB.out)).mono ?_; rintro e whB2 ⟨rfl, hb⟩; have hB2 := hide (Below.up hB.out hb); clear hb))
      clear hok hok2
      refine (iNames_any A' n' c' l' _ hn' (hr'.go hB2.out)).mono ?_
      rintro e w1 ⟨v1, rfl, ho1, hb1⟩
      have hB3 := hide (Below.up hB2.out hb1)
      obtain ⟨N, hN⟩ : ∃ N, Hid (N = mNames l') := ⟨_, hide rfl⟩
      obtain ⟨m, hm⟩ : ∃ m, Hid (N.length = m) := ⟨_, hide rfl⟩
      rw [← hN.out, hm.out] at ho1
      have hml : m ≤ n' := by rw [← hm.out, hN.out, ← hr'.len]; exact mNames_len l'
      obtain ⟨A1, c1, rfl, _⟩ := ho1.slice
      have hNo := hide (ho1.less hB2.out.size)
      have hAr := hide (ho1.arr strc_len)
      clear ho1 hb1 hB hB2 hf hf'
      go_wp2
      go_loopw [8, 27] (fun v i wr => ∃ k : Nat, k ≤ m ∧ i = .int .i64 k ∧ Below w1.heap.size w1 wr ∧ Own i64c 2 1 wr w1.heap.size v k (wgTo l l' N k) ∧ Hid ((N.take k).all (nmOk l l') = true)) (fun _ i _ => m - (intOf i).toNat)
      case atStart => exact ⟨0, Nat.zero_le _, rfl, (Below.refl _ _).alloc (Nat.le_refl _) _, Own.none_made _ (Nat.le_refl _), hide rfl⟩
      case round =>
        obtain ⟨k, hk, rfl, hb, hown, hall⟩ := hrel
        have hO := hide hown
        have hB := hide hb
        clear hown
        by_cases hlt : k < m
        · obtain ⟨b, o, y, rfl, hbl, hy, hcy⟩ := hAr.out.str (k := k) hlt
          have d0 : wr.cell? ⟨b, o + k, none⟩ = some (.string y) := (hb.cell (p := ⟨b, o + k, none⟩) hbl).trans hcy
          have hY := hide hy
          have hyN : Hid (y ∈ mNames l') := hide (by rw [← hN.out]; exact List.mem_of_getElem? hy)
          have hu := hide (wgTo_snoc (rs := l) (l := l') hy)
          have i0 : (0 : Int) ≤ (k : Int) := by omega
          have i1 : (k : Int) < (m : Int) := by omega
          clear hcy hy hb
          cases hq : nmOk l l' y
          · have hm9 := hide (hbad.out (by unfold wgAll; exact List.all_eq_false.2 ⟨y, hyN.out, by simp [hq]⟩))
            have hq2 : l'.all (wgOk l y) = false := hq
            clear hq
            go_wp2_with fail
            refine (iwage_any A n c l A' n' c' l' y _ hn hn' hO1.out hO2.out (hr.go (Below.up hB3.out hB.out)) (hr'.go (Below.up hB3.out hB.out))).mono ?_
            rintro e w5 ⟨rfl, hb5⟩
            go_wp2
            go_ret3
            exact ⟨_, _, ret_sl hm9.out.2.2.symm, by rw [hm9.out.1]; exact Res.empty (Nat.zero_le _), by rw [hm9.out.2.1]; exact Res.empty (Nat.zero_le _), by rw [hm9.out.1, hm9.out.2.1]; exact apart_none, Below.up (Below.up hB3.out hB.out) hb5⟩
          · have hq2 : l'.all (wgOk l y) = true := hq
            have hQ := hide hq
            clear hq
            go_wp2_with fail
            refine (iwage_any A n c l A' n' c' l' y _ hn hn' hO1.out hO2.out (hr.go (Below.up hB3.out hB.out)) (hr'.go (Below.up hB3.out hB.out))).mono ?_
            rintro e w5 ⟨rfl, hb5⟩
            have hB5 := hide (Below.up hB.out hb5)
            have hO5 := hide (hO.out.below hb5)
            clear hb5
            go_wp2_with (at_builtin; refine wpl_app1 rfl (.tmp 41) (.tmp 43) _ rfl Try.underlying37 info_int8 rfl (by omega) (by omega) rfl hO5.out (sumOf (wgF l y) l') _ rfl rfl rfl (i64c_one _) (by omega) hB5.out.size ?_; intro v6 w6 ho6 hg6)
            go_roundw
            case rel => exact ⟨k + 1, by omega, by go_num, hO5.out.grown hB5.out hg6, by rw [hu.out]; exact ho6, hide (by rw [take_snoc hY.out, List.all_append, hall.out]; simp [hQ.out])⟩
            case measure => simp [intOf]; omega
        · have hkn : k = m := by omega
          subst hkn
          clear hb
          have htk : Hid (N.take k = N) := hide (List.take_of_length_le (by rw [hm.out]; exact Nat.le_refl _))
          have hg := hide (hgood.out (by unfold wgAll; rw [← hN.out, ← htk.out]; exact hall.out))
          obtain ⟨A2, c2, rfl, _⟩ := hO.out.slice
          go_wp2
          go_ret3
          refine ⟨_, _, ret_sl hg.out.2.2.symm, ?_, ?_, ?_, Below.up hB3.out hB.out⟩
          · rw [hg.out.1, ← hN.out, hm.out]; exact (hNo.out.below hB.out).res
          · rw [hg.out.2.1, ← hN.out, hm.out, hO.out.len]; exact (hO.out.less hB3.out.size).res
          · rw [hg.out.1, hg.out.2.1, ← hN.out, hm.out, hO.out.len]; exact hNo.out.res.apart hO.out.res (Nat.le_refl _)
end Go.Proofs.Ytgjcmnnhcoaliaa
