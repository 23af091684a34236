/- Texts that belong together, joined: contracts and plain laws. No statement is proved here. -/
import Derived.Test.YtfpaejlipaainaaGreatDoorM01
import Derived.Test.YtfpaejlipaainaaGreatDoorM02
import Derived.Test.YtfpaejlipaainaaGreatDoorM03
import Derived.Test.YtfpaejlipaainaaGreatDoorM07
import Derived.Test.YtfpaejlipaainaaGreatDoorM08
import Derived.Lib.Bytealg
import Derived.Deep.LoopGhost
namespace Go.Proofs.YtfpaejlipaainaaGreatDoor
open Go.ChangeShapes Go.WideShapes Go.ChangeAt Go.RowKit Go.Deep
set_option maxRecDepth 100000
def valsOf (what : ByteArray) (l : List Entry) : List Int := (l.filter fun e => decide (e.fWhat = what)).map (·.fValue)
theorem vals_hit {what : ByteArray} {l : List Entry} {k : Nat} {x : Entry} (hx : l[k]? = some x) (h : x.fWhat = what) : valsOf what (l.take (k + 1)) = valsOf what (l.take k) ++ [x.fValue] := by
  unfold valsOf; rw [take_snoc hx, List.filter_append]; simp [h]
theorem vals_miss {what : ByteArray} {l : List Entry} {k : Nat} {x : Entry} (hx : l[k]? = some x) (h : ¬ x.fWhat = what) : valsOf what (l.take (k + 1)) = valsOf what (l.take k) := by
  unfold valsOf; rw [take_snoc hx, List.filter_append]; simp [h]
theorem vals_len (what : ByteArray) (l : List Entry) : (valsOf what l).length ≤ l.length := by
  unfold valsOf; rw [List.length_map]; exact List.length_filter_le _ _
def mVals (s what : ByteArray) : List Int := if lw s what = 0 then valsOf what (ents s) else []
theorem ents_len {s : ByteArray} (h : lcode s = 0) : (ents s).length ≤ 4000 := by
  have h1 := log_props s
  have h2 := lcode_small h
  omega
theorem mVals_len (s what : ByteArray) : (mVals s what).length ≤ 1048576 := by
  unfold mVals
  by_cases h : lw s what = 0
  · rw [if_pos h]
    have h1 := ents_len (lw_zero h).1
    have h2 := vals_len what (ents s)
    omega
  · rw [if_neg h]; exact Nat.zero_le _
theorem info_i64 : (Tryz.prog.info? 2).map (fun i => (i.zero, i.size, i.bytes)) = some (some (.int .i64 0), 1, 8) := by kernel_rfl
set_option maxHeartbeats 1000000 in
theorem iVals_any (s what : ByteArray) (w : World) (hz : what.size ≤ maxLen) (hG : Gl w) :
    Calls Tryz.prog 77 #[.string s, .string what] w fun e w' => ∃ v, e = .returned (.tuple #[v, .int .i64 (lw s what)]) ∧ Res i64c 2 1 w' w.heap.size v (mVals s what).length (mVals s what) ∧ Below w.heap.size w w' := by
  have hc := hide (iCode_any s w hG)
  have NAME : ∀ W : World, Hid (Calls Tryz.prog 126 #[.string what] W fun e w' => e = .returned (.bool (isName what)) ∧ W = w') := fun W => hide (iName_any what W hz)
  have hN := hide NAME
  have hGh := hide hG
  clear hG NAME
  by_cases h : lcode s = 0
  case neg =>
    have hm : Hid (mVals s what = []) := hide (by unfold mVals; rw [if_neg (fun hh => h (lw_zero hh).1)])
    have hq : Hid (lw s what = lcode s) := hide (by unfold lw; rw [if_neg (fun hh => h hh.1)])
    have e1 : (lcode s != 0) = true := bne_iff_ne.2 h
    clear h
    go_enter Tryz.func77, Tryz.ntmps77
    go_wp2_with fail
    refine hc.out.mono ?_
    rintro e w1 ⟨rfl, hb⟩
    have hB := hide hb
    clear hb
    go_wp2
    go_ret2
    exact ⟨_, by rw [hq.out]; rfl, by rw [hm.out]; exact Res.empty (Nat.zero_le _), hB.out⟩
  case pos =>
    have hsz := lcode_small h
    rw [h] at hc
    cases hn : isName what
    · have hm : Hid (mVals s what = []) := hide (by unfold mVals; rw [if_neg (fun hh => by have := (lw_zero hh).2; rw [hn] at this; cases this)])
      have hq : Hid (lw s what = 2) := hide (by unfold lw; rw [if_pos ⟨h, hn⟩])
      rw [hn] at hN
      clear h hn
      go_enter Tryz.func77, Tryz.ntmps77
      go_wp2_with (first | (go_at_call 64; refine hc.out.mono ?_; rintro e w1 ⟨rfl, hb⟩; have hB := hide hb; clear hb) | (go_at_call 126; refine (hN.out _).out.mono ?_; rintro e w' ⟨rfl, rfl⟩))
      go_ret2
      exact ⟨_, by rw [hq.out]; rfl, by rw [hm.out]; exact Res.empty (Nat.zero_le _), hB.out⟩
    · have hq : Hid (lw s what = 0) := hide (by unfold lw; rw [if_neg (by rw [hn]; simp), h])
      have hm : Hid (mVals s what = valsOf what (ents s)) := hide (by unfold mVals; rw [if_pos hq.out])
      have hlen := ents_len h
      rw [hn] at hN
      clear h hn
      go_enter Tryz.func77, Tryz.ntmps77
      go_wp2_with (first | (go_at_call 64; refine hc.out.mono ?_; rintro e w1 ⟨rfl, hb⟩; have hB := hide hb; clear hb) | (go_at_call 126; refine (hN.out _).out.mono ?_; rintro e w' ⟨rfl, rfl⟩) | fail)
      have hO := hide (Own.none_made (cells := i64c) (e := 2) (s := 1) w1 hB.out.size)
      have hB1 := hide (hB.out.alloc hB.out.size (.cells #[] 2))
      refine (iRead_log s _ hsz (hGh.out.below hB1.out)).mono ?_
      rintro e w2 ⟨vE, rfl, hoE, hb⟩
      replace hO := hide (hO.out.below hb)
      have hE := hide (hoE.less hB1.out.size)
      replace hB := hide (Below.up hB1.out hb)
      obtain ⟨AE, cE, rfl, _⟩ := hoE.slice
      clear hb hoE hB1
      unfold ents at hm hlen
      obtain ⟨L, hL⟩ : ∃ L, L = (rdLog s).1 := ⟨_, rfl⟩
      rw [← hL] at hm hE hlen ⊢
      obtain ⟨n, hn⟩ : ∃ n, n = L.length := ⟨_, rfl⟩
      rw [← hn] at hE hlen ⊢
      have hLh := hide hL
      have hnh := hide hn
      clear hL hn
      obtain ⟨vb, hvb⟩ : ∃ vb : Value, vb = .slice (some ⟨w1.heap.size, 0, none⟩) 0 0 := ⟨_, rfl⟩
      go_wp2
      go_loopw [7, 30] (fun v i wr => ∃ k : Nat, k ≤ n ∧ i = .int .i64 k ∧ Own i64c 2 1 wr w.heap.size v (valsOf what (L.take k)).length (valsOf what (L.take k)) ∧ Own Entry.cells 116 3 wr w.heap.size (.slice AE n cE) n L ∧ Below w.heap.size w wr) (fun _ i _ => n - (intOf i).toNat)
      case atStart => exact ⟨0, Nat.zero_le _, rfl, hO.out, hE.out, hB.out⟩
      case round =>
        clear hO hE hB
        obtain ⟨k, hk, rfl, ho, hoE, hb⟩ := hrel
        by_cases hlt : k < n
        · obtain ⟨b, o, x, rfl, hbl, hx, d0, d1, d2⟩ := (hoE.arr Entry.len).Entry hlt
          have hml : (valsOf what (L.take k)).length ≤ 4000 := by have h1 := vals_len what (L.take k); rw [List.length_take] at h1; omega
          have hO := hide (ho.below ((Below.refl _ _).alloc (Nat.le_refl _) (.cells #[.int .i64 x.fDay, .string x.fWhat, .int .i64 x.fValue] 116)))
          have hE := hide (hoE.below ((Below.refl _ _).alloc (Nat.le_refl _) (.cells #[.int .i64 x.fDay, .string x.fWhat, .int .i64 x.fValue] 116)))
          have hB := hide (hb.alloc hb.size (.cells #[.int .i64 x.fDay, .string x.fWhat, .int .i64 x.fValue] 116))
          clear ho hoE hb
          by_cases hw : x.fWhat = what
          · have hV := hide (vals_hit hx hw)
            have e1 := str_eq hw
            clear hw hx
            go_wp2_with (at_builtin; refine wpl_app1H (wr.heap.size + 1) (by simp) rfl (.tmp 38) (.tmp 41) rfl Tryz.underlying60 info_i64 rfl (by omega) (by omega) i64c_len i64c_one rfl hO.out x.fValue _ rfl rfl (by omega) hB.out.size ?_; intro v5 w5 ho5 hg5 _; have hB5 := hide (grown_below hB.out hO.out hg5 hB.out.size); have hE5 := hide (hE.out.kept hg5 (own_diff hE.out hO.out (by decide))); have hO5 := hide ho5; clear ho5 hg5)
            go_roundw
            case rel => exact ⟨k + 1, by omega, by go_num, by rw [hV.out, List.length_append]; exact hO5.out, hE5.out, hB5.out⟩
            case measure => simp [intOf]; omega
          · have hV := hide (vals_miss hx hw)
            have e1 := str_ne hw
            clear hw hx
            go_wp2
            go_roundw
            case rel => exact ⟨k + 1, by omega, by go_num, by rw [hV.out]; exact hO.out, hE.out, hB.out⟩
            case measure => simp [intOf]; omega
        · have hkn : k = n := by omega
          have hT : Hid (L.take k = L) := hide (List.take_of_length_le (by rw [← hnh.out]; omega))
          have hO := hide ho
          have hB := hide hb
          clear ho hoE hb
          go_wp2
          go_ret2
          exact ⟨_, by rw [hq.out]; rfl, by rw [hm.out]; have := hO.out; rw [hT.out] at this; exact this.res, hB.out⟩
end Go.Proofs.YtfpaejlipaainaaGreatDoor
namespace Go.Proofs.YtfpaejlipaainaaGreatDoor
open Go.ChangeShapes Go.WideShapes Go.ChangeAt Go.RowKit Go.Deep
set_option maxRecDepth 100000
def addB (s : ByteArray) (x : Entry) : ByteArray := s ++ lineB (stampB (lastSt s) (entB x)) x
def mAdd (s : ByteArray) (x : Entry) : ByteArray × Int :=
  if lcode s ≠ 0 then (⟨#[]⟩, lcode s) else if x.ok = false then (⟨#[]⟩, 7) else if x.fDay < lastDay (ents s) then (⟨#[]⟩, 6) else if 4000 < (addB s x).size then (⟨#[]⟩, 5) else (addB s x, 0)
theorem add_code {s : ByteArray} {x : Entry} (h : ¬ lcode s = 0) : mAdd s x = (⟨#[]⟩, lcode s) := by unfold mAdd; rw [if_pos h]
theorem add_bad {s : ByteArray} {x : Entry} (h : lcode s = 0) (hk : x.ok = false) : mAdd s x = (⟨#[]⟩, 7) := by unfold mAdd; rw [if_neg (by simp [h]), if_pos hk]
theorem add_late {s : ByteArray} {x : Entry} (h : lcode s = 0) (hk : x.ok = true) (hd : x.fDay < lastDay (ents s)) : mAdd s x = (⟨#[]⟩, 6) := by unfold mAdd; rw [if_neg (by simp [h]), if_neg (by simp [hk]), if_pos hd]
theorem add_full {s : ByteArray} {x : Entry} (h : lcode s = 0) (hk : x.ok = true) (hd : ¬ x.fDay < lastDay (ents s)) (hf : 4000 < (addB s x).size) : mAdd s x = (⟨#[]⟩, 5) := by unfold mAdd; rw [if_neg (by simp [h]), if_neg (by simp [hk]), if_neg hd, if_pos hf]
theorem add_good {s : ByteArray} {x : Entry} (h : lcode s = 0) (hk : x.ok = true) (hd : ¬ x.fDay < lastDay (ents s)) (hf : ¬ 4000 < (addB s x).size) : mAdd s x = (addB s x, 0) := by unfold mAdd; rw [if_neg (by simp [h]), if_neg (by simp [hk]), if_neg hd, if_neg hf]
set_option maxHeartbeats 1000000 in
theorem iAdd_any (s : ByteArray) (x : Entry) (w : World) (hx : x.fits) (hG : Gl w) :
    Calls Tryz.prog 76 #[.string s, .agg #[.int .i64 x.fDay, .string x.fWhat, .int .i64 x.fValue]] w fun e w' => e = .returned (.tuple #[.string (mAdd s x).1, .int .i64 (mAdd s x).2]) ∧ Below w.heap.size w w' := by
  have hGh := hide hG
  clear hG
  have k0 : (w.alloc (.cells #[.int .i64 x.fDay, .string x.fWhat, .int .i64 x.fValue] 116)).cell? ⟨w.heap.size, 0, none⟩ = some (.int .i64 x.fDay) := by rw [cell_of_row _ _ _ _ _ _ (heap_alloc_new w _)]; rfl
  have k1 : (w.alloc (.cells #[.int .i64 x.fDay, .string x.fWhat, .int .i64 x.fValue] 116)).cell? ⟨w.heap.size, 1, none⟩ = some (.string x.fWhat) := by rw [cell_of_row _ _ _ _ _ _ (heap_alloc_new w _)]; rfl
  have k2 : (w.alloc (.cells #[.int .i64 x.fDay, .string x.fWhat, .int .i64 x.fValue] 116)).cell? ⟨w.heap.size, 2, none⟩ = some (.int .i64 x.fValue) := by rw [cell_of_row _ _ _ _ _ _ (heap_alloc_new w _)]; rfl
  have hB := hide ((Below.refl w.heap.size w).alloc (Nat.le_refl _) (.cells #[.int .i64 x.fDay, .string x.fWhat, .int .i64 x.fValue] 116))
  have hz : w.heap.size < (w.alloc (.cells #[.int .i64 x.fDay, .string x.fWhat, .int .i64 x.fValue] 116)).heap.size := by simp
  have hc := hide (iCode_any s _ (hGh.out.below hB.out))
  have q0 := hide k0
  have q1 := hide k1
  have q2 := hide k2
  clear k0 k1 k2
  by_cases h : lcode s = 0
  case neg =>
    have hm := hide (add_code (x := x) h)
    have e1 : (lcode s != 0) = true := bne_iff_ne.2 h
    clear h
    go_enter Tryz.func76, Tryz.ntmps76
    go_wp2_with fail
    refine hc.out.mono ?_
    rintro e w1 ⟨rfl, hb⟩
    replace hB := hide (Below.up hB.out hb)
    clear hb
    go_wp2
    go_ret2
    exact ⟨by rw [hm.out]; rfl, hB.out⟩
  have hsz := lcode_small h
  have hlen := ents_len h
  rw [h] at hc
  cases hk : x.ok
  case false =>
    have hm := hide (add_bad h hk)
    clear h
    go_enter Tryz.func76, Tryz.ntmps76
    go_wp2_with fail
    refine hc.out.mono ?_
    rintro e w1 ⟨rfl, hb⟩
    have hD := hide hb
    replace hB := hide (Below.up hB.out hb)
    clear hb
    go_wp2_with fail
    refine (iRead_log s _ hsz (hGh.out.below hB.out)).mono ?_
    rintro e w2 ⟨vE, rfl, hoE, hb⟩
    have hE := hide (hoE.less hB.out.size)
    replace hB := hide (Below.up hB.out hb)
    replace hD := hide (Below.up hD.out hb)
    obtain ⟨AE, cE, rfl, _⟩ := hoE.slice
    clear hb hoE
    have k0 := keepc hD.out hz q0.out
    have k1 := keepc hD.out hz q1.out
    have k2 := keepc hD.out hz q2.out
    go_wp2_with fail
    refine (iEntry_any x _ hx).mono ?_
    rintro e w3 ⟨rfl, hb⟩
    replace hE := hide (hE.out.below hb)
    replace hB := hide (Below.up hB.out hb)
    replace hD := hide (Below.up hD.out hb)
    clear hb k0 k1 k2
    go_wp2
    go_ret2
    exact ⟨by rw [hm.out]; rfl, hB.out⟩
  obtain ⟨⟨b1, b2⟩, _, b3, b4⟩ := Entry.ok_iff.1 hk
  obtain ⟨_, _, _, t0, t1⟩ := log_props s
  by_cases hdd : x.fDay < lastDay (ents s)
  case pos =>
    have hm := hide (add_late h hk hdd)
    clear h
    go_enter Tryz.func76, Tryz.ntmps76
    go_wp2_with fail
    refine hc.out.mono ?_
    rintro e w1 ⟨rfl, hb⟩
    have hD := hide hb
    replace hB := hide (Below.up hB.out hb)
    clear hb
    go_wp2_with fail
    refine (iRead_log s _ hsz (hGh.out.below hB.out)).mono ?_
    rintro e w2 ⟨vE, rfl, hoE, hb⟩
    have hE := hide (hoE.less hB.out.size)
    replace hB := hide (Below.up hB.out hb)
    replace hD := hide (Below.up hD.out hb)
    obtain ⟨AE, cE, rfl, _⟩ := hoE.slice
    clear hb hoE
    have k0 := keepc hD.out hz q0.out
    have k1 := keepc hD.out hz q1.out
    have k2 := keepc hD.out hz q2.out
    go_wp2_with fail
    refine (iEntry_any x _ hx).mono ?_
    rintro e w3 ⟨rfl, hb⟩
    replace hE := hide (hE.out.below hb)
    replace hB := hide (Below.up hB.out hb)
    replace hD := hide (Below.up hD.out hb)
    clear hb k0 k1 k2
    unfold ents at hlen hdd
    obtain ⟨L, hL⟩ : ∃ L, L = (rdLog s).1 := ⟨_, rfl⟩
    rw [← hL] at hE hlen hdd ⊢
    obtain ⟨n, hn⟩ : ∃ n, n = L.length := ⟨_, rfl⟩
    rw [← hn] at hE hlen ⊢
    have hLh := hide hL
    have hnh := hide hn
    clear hL hn
    have k0 := keepc hD.out hz q0.out
    have k1 := keepc hD.out hz q1.out
    have k2 := keepc hD.out hz q2.out
    rcases Nat.eq_zero_or_pos n with hn0 | hn0
    · subst hn0
      have hz0 : lastDay L = 0 := by rw [List.eq_nil_of_length_eq_zero hnh.out.symm]; rfl
      exfalso; omega
    · obtain ⟨bb, o, y, rfl, _, hy, d0, d1, d2⟩ := (hE.out.arr Entry.len).Entry (k := n - 1) (by omega)
      have hld := hide (lastDay_at hy (by rw [← hnh.out]; omega))
      rw [hld.out] at hdd
      have g0 : decide ((0 : Int) < (n : Int)) = true := decide_eq_true (by omega)
      have hi0 : (0 : Int) ≤ (n : Int) - 1 := by omega
      have hi1 : (n : Int) - 1 < (n : Int) := by omega
      have hw : IntKind.i64.wrap ((n : Int) - 1) = (n : Int) - 1 := IntWalk.i64_in _ (by omega)
      have hi2 : ((n : Int) - 1).toNat = n - 1 := by omega
      have hi3 : (1 : Int) ≤ (n : Int) := by omega
      have hdd2 : decide (x.fDay < y.fDay) = true := decide_eq_true hdd
      clear hy
      go_wp2_with fail
      go_quiet (fail)
      clear hw hi2
      go_wp2
      go_ret2
      exact ⟨by rw [hm.out]; rfl, below_drewN hB.out _⟩
  by_cases hf : 4000 < (addB s x).size
  case pos =>
    have hm := hide (add_full h hk hdd hf)
    have hkk := hk
    obtain ⟨r1, r2⟩ := stampB_range (lastSt s) (entB x)
    have hls := lineB_size r1 r2 hk
    have j1 := cat_run s (lineB (stampB (lastSt s) (entB x)) x) (by omega)
    unfold addB at hf hm
    rw [ByteArray.size_append] at hf
    have hf1 : ((4000 : Int) < (s.size : Int) + ((lineB (stampB (lastSt s) (entB x)) x).size : Int)) := by omega
    have hf2 : ((4000 : Int) < ((s ++ lineB (stampB (lastSt s) (entB x)) x).size : Int)) := by rw [ByteArray.size_append]; omega
    clear h hk hls hf
    go_enter Tryz.func76, Tryz.ntmps76
    go_wp2_with fail
    refine hc.out.mono ?_
    rintro e w1 ⟨rfl, hb⟩
    have hD := hide hb
    replace hB := hide (Below.up hB.out hb)
    clear hb
    go_wp2_with fail
    refine (iRead_log s _ hsz (hGh.out.below hB.out)).mono ?_
    rintro e w2 ⟨vE, rfl, hoE, hb⟩
    have hE := hide (hoE.less hB.out.size)
    replace hB := hide (Below.up hB.out hb)
    replace hD := hide (Below.up hD.out hb)
    obtain ⟨AE, cE, rfl, _⟩ := hoE.slice
    clear hb hoE
    have k0 := keepc hD.out hz q0.out
    have k1 := keepc hD.out hz q1.out
    have k2 := keepc hD.out hz q2.out
    go_wp2_with fail
    refine (iEntry_any x _ hx).mono ?_
    rintro e w3 ⟨rfl, hb⟩
    replace hE := hide (hE.out.below hb)
    replace hB := hide (Below.up hB.out hb)
    replace hD := hide (Below.up hD.out hb)
    clear hb k0 k1 k2
    unfold ents at hlen hdd
    obtain ⟨L, hL⟩ : ∃ L, L = (rdLog s).1 := ⟨_, rfl⟩
    rw [← hL] at hE hlen hdd ⊢
    obtain ⟨n, hn⟩ : ∃ n, n = L.length := ⟨_, rfl⟩
    rw [← hn] at hE hlen ⊢
    have hLh := hide hL
    have hnh := hide hn
    clear hL hn
    have k0 := keepc hD.out hz q0.out
    have k1 := keepc hD.out hz q1.out
    have k2 := keepc hD.out hz q2.out
    rcases Nat.eq_zero_or_pos n with hn0 | hn0
    · subst hn0
      have hz0 : lastDay L = 0 := by rw [List.eq_nil_of_length_eq_zero hnh.out.symm]; rfl
      clear hz0
      go_wp2_with fail
      go_quiet (fail)
      have hkh := hide hkk
      go_wp2_with fail
      refine (iLine_any (lastSt s) x _ t0 t1 hkh.out (by exact hGh.out.below (below_drewN hB.out _))).mono ?_
      rintro e w4 ⟨rfl, hb⟩
      have hB4 := hide (Below.up (below_drewN hB.out _) hb)
      clear hb
      go_wp2
      go_ret2
      exact ⟨by rw [hm.out]; rfl, hB4.out⟩
    · obtain ⟨bb, o, y, rfl, _, hy, d0, d1, d2⟩ := (hE.out.arr Entry.len).Entry (k := n - 1) (by omega)
      have hld := hide (lastDay_at hy (by rw [← hnh.out]; omega))
      rw [hld.out] at hdd
      have g0 : decide ((0 : Int) < (n : Int)) = true := decide_eq_true (by omega)
      have hi0 : (0 : Int) ≤ (n : Int) - 1 := by omega
      have hi1 : (n : Int) - 1 < (n : Int) := by omega
      have hw : IntKind.i64.wrap ((n : Int) - 1) = (n : Int) - 1 := IntWalk.i64_in _ (by omega)
      have hi2 : ((n : Int) - 1).toNat = n - 1 := by omega
      have hi3 : (1 : Int) ≤ (n : Int) := by omega
      have hdd2 : decide (x.fDay < y.fDay) = false := decide_eq_false (by omega)
      clear hy
      go_wp2_with fail
      go_quiet (fail)
      clear hw hi2
      have hkh := hide hkk
      go_wp2_with fail
      refine (iLine_any (lastSt s) x _ t0 t1 hkh.out (by exact hGh.out.below (below_drewN hB.out _))).mono ?_
      rintro e w4 ⟨rfl, hb⟩
      have hB4 := hide (Below.up (below_drewN hB.out _) hb)
      clear hb
      go_wp2
      go_ret2
      exact ⟨by rw [hm.out]; rfl, hB4.out⟩
  case neg =>
    have hm := hide (add_good h hk hdd hf)
    have hkk := hk
    obtain ⟨r1, r2⟩ := stampB_range (lastSt s) (entB x)
    have hls := lineB_size r1 r2 hk
    have j1 := cat_run s (lineB (stampB (lastSt s) (entB x)) x) (by omega)
    unfold addB at hf hm
    rw [ByteArray.size_append] at hf
    have hf1 : ¬ ((4000 : Int) < (s.size : Int) + ((lineB (stampB (lastSt s) (entB x)) x).size : Int)) := by omega
    have hf2 : ¬ ((4000 : Int) < ((s ++ lineB (stampB (lastSt s) (entB x)) x).size : Int)) := by rw [ByteArray.size_append]; omega
    clear h hk hls hf
    go_enter Tryz.func76, Tryz.ntmps76
    go_wp2_with fail
    refine hc.out.mono ?_
    rintro e w1 ⟨rfl, hb⟩
    have hD := hide hb
    replace hB := hide (Below.up hB.out hb)
    clear hb
    go_wp2_with fail
    refine (iRead_log s _ hsz (hGh.out.below hB.out)).mono ?_
    rintro e w2 ⟨vE, rfl, hoE, hb⟩
    have hE := hide (hoE.less hB.out.size)
    replace hB := hide (Below.up hB.out hb)
    replace hD := hide (Below.up hD.out hb)
    obtain ⟨AE, cE, rfl, _⟩ := hoE.slice
    clear hb hoE
    have k0 := keepc hD.out hz q0.out
    have k1 := keepc hD.out hz q1.out
    have k2 := keepc hD.out hz q2.out
    go_wp2_with fail
    refine (iEntry_any x _ hx).mono ?_
    rintro e w3 ⟨rfl, hb⟩
    replace hE := hide (hE.out.below hb)
    replace hB := hide (Below.up hB.out hb)
    replace hD := hide (Below.up hD.out hb)
    clear hb k0 k1 k2
    unfold ents at hlen hdd
    obtain ⟨L, hL⟩ : ∃ L, L = (rdLog s).1 := ⟨_, rfl⟩
    rw [← hL] at hE hlen hdd ⊢
    obtain ⟨n, hn⟩ : ∃ n, n = L.length := ⟨_, rfl⟩
    rw [← hn] at hE hlen ⊢
    have hLh := hide hL
    have hnh := hide hn
    clear hL hn
    have k0 := keepc hD.out hz q0.out
    have k1 := keepc hD.out hz q1.out
    have k2 := keepc hD.out hz q2.out
    rcases Nat.eq_zero_or_pos n with hn0 | hn0
    · subst hn0
      have hz0 : lastDay L = 0 := by rw [List.eq_nil_of_length_eq_zero hnh.out.symm]; rfl
      clear hz0
      go_wp2_with fail
      go_quiet (fail)
      have hkh := hide hkk
      go_wp2_with fail
      refine (iLine_any (lastSt s) x _ t0 t1 hkh.out (by exact hGh.out.below (below_drewN hB.out _))).mono ?_
      rintro e w4 ⟨rfl, hb⟩
      have hB4 := hide (Below.up (below_drewN hB.out _) hb)
      clear hb
      go_wp2
      go_ret2
      exact ⟨by rw [hm.out]; rfl, hB4.out⟩
    · obtain ⟨bb, o, y, rfl, _, hy, d0, d1, d2⟩ := (hE.out.arr Entry.len).Entry (k := n - 1) (by omega)
      have hld := hide (lastDay_at hy (by rw [← hnh.out]; omega))
      rw [hld.out] at hdd
      have g0 : decide ((0 : Int) < (n : Int)) = true := decide_eq_true (by omega)
      have hi0 : (0 : Int) ≤ (n : Int) - 1 := by omega
      have hi1 : (n : Int) - 1 < (n : Int) := by omega
      have hw : IntKind.i64.wrap ((n : Int) - 1) = (n : Int) - 1 := IntWalk.i64_in _ (by omega)
      have hi2 : ((n : Int) - 1).toNat = n - 1 := by omega
      have hi3 : (1 : Int) ≤ (n : Int) := by omega
      have hdd2 : decide (x.fDay < y.fDay) = false := decide_eq_false (by omega)
      clear hy
      go_wp2_with fail
      go_quiet (fail)
      clear hw hi2
      have hkh := hide hkk
      go_wp2_with fail
      refine (iLine_any (lastSt s) x _ t0 t1 hkh.out (by exact hGh.out.below (below_drewN hB.out _))).mono ?_
      rintro e w4 ⟨rfl, hb⟩
      have hB4 := hide (Below.up (below_drewN hB.out _) hb)
      clear hb
      go_wp2
      go_ret2
      exact ⟨by rw [hm.out]; rfl, hB4.out⟩
end Go.Proofs.YtfpaejlipaainaaGreatDoor
namespace Go.Proofs.YtfpaejlipaainaaGreatDoor
open Go.ChangeShapes Go.WideShapes Go.ChangeAt Go.RowKit Go.Deep
set_option maxRecDepth 100000
structure Heap where
  fSort : ByteArray
  fYear : Int
  fBundles : Int
  deriving DecidableEq
def Heap.cells (x : Heap) : List Value := [.string x.fSort, .int .i64 x.fYear, .int .i64 x.fBundles]
def Heap.same (x y : Heap) : Bool := decide (x = y)
theorem Heap.len (x : Heap) : x.cells.length = 3 := rfl
theorem Arr.Heap {w : World} {B : Nat} {A : Option Addr} {n : Nat} {l : List Heap} (h : Arr Heap.cells 3 w B A n l) {k : Nat} (hk : k < n) : ∃ b o x, A = some ⟨b, o, none⟩ ∧ b < B ∧ l[k]? = some x ∧ w.cell? ⟨b, o + k * 3, none⟩ = some (.string x.fSort) ∧ w.cell? ⟨b, o + k * 3 + 1, none⟩ = some (.int .i64 x.fYear) ∧ w.cell? ⟨b, o + k * 3 + 2, none⟩ = some (.int .i64 x.fBundles) := by
  obtain ⟨b, o, x, e, hb, hx, hc⟩ := h.at_ hk
  exact ⟨b, o, x, e, hb, hx, hc 0 _ rfl, hc 1 _ rfl, hc 2 _ rfl⟩
theorem Own.Heap_at {e : TypeId} {w : World} {base g n c : Nat} {l : List Heap} (h : Own Heap.cells e 3 w base (.slice (some ⟨g, 0, none⟩) n c) n l) {k : Nat} (hk : k < n) :
    ∃ x, l[k]? = some x ∧ w.cell? ⟨g, k * 3, none⟩ = some (.string x.fSort) ∧ w.cell? ⟨g, k * 3 + 1, none⟩ = some (.int .i64 x.fYear) ∧ w.cell? ⟨g, k * 3 + 2, none⟩ = some (.int .i64 x.fBundles) ∧ w.frozen? ⟨g, k * 3, none⟩ = false ∧ w.frozen? ⟨g, k * 3 + 1, none⟩ = false ∧ w.frozen? ⟨g, k * 3 + 2, none⟩ = false := by
  obtain ⟨b, o, x, hA, _, hx, c0, c1, c2⟩ := (h.arr Heap.len).Heap hk
  injection hA with hA; injection hA with h1 h2; subst h1 h2
  simp only [Nat.zero_add] at c0 c1 c2
  exact ⟨x, hx, c0, c1, c2, h.2.frozenAt _, h.2.frozenAt _, h.2.frozenAt _⟩
def Heap.fits (x : Heap) : Prop := x.fSort.size ≤ maxLen
def Heap.wt (x : Heap) : Int := (x.fSort.size : Int)
def Heap.pre (l : List Heap) : Int := (l.map Heap.wt).sum
def Heap.tot (l : List Heap) : Int := l.length + Heap.pre l
end Go.Proofs.YtfpaejlipaainaaGreatDoor
namespace Go.Proofs.YtfpaejlipaainaaGreatDoor
open Go.ChangeShapes Go.WideShapes Go.ChangeAt Go.RowKit Go.Deep
def strLt (a b : ByteArray) : Bool := Op.bytesLess a.toList b.toList
theorem bl_irrefl : ∀ x : List UInt8, Op.bytesLess x x = false
  | [] => rfl
  | a :: x => by
    have h : ¬ a < a := by rw [UInt8.lt_iff_toNat_lt]; omega
    simp [Op.bytesLess, bl_irrefl x, h]
theorem bl_trans : ∀ x y z : List UInt8, Op.bytesLess x y = true → Op.bytesLess y z = true → Op.bytesLess x z = true
  | _, [], _ => by intro h; cases ‹List UInt8› <;> simp [Op.bytesLess] at h
  | _, _ :: _, [] => by intro _ h; simp [Op.bytesLess] at h
  | [], _ :: _, _ :: _ => by intro _ _; rfl
  | a :: x, b :: y, c :: z => by
    intro h1 h2
    simp only [Op.bytesLess, Bool.or_eq_true, Bool.and_eq_true, decide_eq_true_eq, beq_iff_eq, UInt8.lt_iff_toNat_lt] at h1 h2 ⊢
    rcases h1 with h1 | ⟨rfl, h1⟩
    · rcases h2 with h2 | ⟨rfl, _⟩
      · exact .inl (by omega)
      · exact .inl h1
    · rcases h2 with h2 | ⟨rfl, h2⟩
      · exact .inl h2
      · exact .inr ⟨rfl, bl_trans x y z h1 h2⟩
theorem cmp_of : ∀ x y : List UInt8, Lib.compareBytes x y = if Op.bytesLess x y then -1 else if x = y then 0 else 1
  | [], [] => rfl
  | [], _ :: _ => rfl
  | _ :: _, [] => rfl
  | a :: x, b :: y => by
    rw [Lib.compareBytes, cmp_of x y]
    simp only [Op.bytesLess, UInt8.lt_iff_toNat_lt]
    by_cases h1 : a.toNat < b.toNat
    · simp [h1]
    · by_cases h2 : b.toNat < a.toNat
      · have hab : ¬ a = b := by rintro rfl; omega
        have hb : (a == b) = false := by simp [hab]
        simp [h1, h2, hab]
      · have hab : a = b := UInt8.toNat_inj.1 (by omega)
        subst hab
        simp
theorem data_toList (a : ByteArray) : a.data.toList = a.toList := (ByteArray.toList_eq a).symm
theorem strLt_irrefl (a : ByteArray) : strLt a a = false := bl_irrefl _
theorem strLt_trans {a b c : ByteArray} (h : strLt a b = true) (h' : strLt b c = true) : strLt a c = true := bl_trans _ _ _ h h'
def strCmp (a b : ByteArray) : Int := Lib.compareBytes a.data.toList b.data.toList
theorem strCmp_of (a b : ByteArray) : strCmp a b = if strLt a b then -1 else if a = b then 0 else 1 := by
  unfold strCmp strLt
  rw [data_toList, data_toList, cmp_of]
  by_cases h : a = b
  · subst h; simp
  · have : ¬ a.toList = b.toList := fun e => h (toList_inj e)
    simp [h, this]
end Go.Proofs.YtfpaejlipaainaaGreatDoor
namespace Go.Proofs.YtfpaejlipaainaaGreatDoor
open Go.ChangeShapes Go.WideShapes Go.ChangeAt Go.RowKit Go.Deep
set_option maxRecDepth 100000
def Heap.ok (x : Heap) : Bool := isName x.fSort && inB x.fYear 1800 2100 && inB x.fBundles 1 1000
theorem Heap.ok_iff {x : Heap} : x.ok = true ↔ isName x.fSort = true ∧ (1800 ≤ x.fYear ∧ x.fYear ≤ 2100) ∧ (1 ≤ x.fBundles ∧ x.fBundles ≤ 1000) := by
  simp [Heap.ok, inB_true, and_assoc]
def hLt (a b : Heap) : Bool := strLt a.fSort b.fSort || (decide (a.fSort = b.fSort) && decide (a.fYear < b.fYear))
def hCmp (a b : Heap) : Int := if a.fSort = b.fSort then a.fYear - b.fYear else strCmp a.fSort b.fSort
theorem hCmp_neg {a b : Heap} : hCmp a b < 0 ↔ hLt a b = true := by
  unfold hCmp hLt
  by_cases h : a.fSort = b.fSort
  · rw [if_pos h, h, strLt_irrefl]; simp; omega
  · rw [if_neg h, strCmp_of, if_neg h]
    cases strLt a.fSort b.fSort <;> simp [h]
theorem hCmp_zero {a b : Heap} : hCmp a b = 0 ↔ a.fSort = b.fSort ∧ a.fYear = b.fYear := by
  unfold hCmp
  by_cases h : a.fSort = b.fSort
  · rw [if_pos h]; simp [h]; omega
  · rw [if_neg h, strCmp_of, if_neg h]
    cases strLt a.fSort b.fSort <;> simp [h]
theorem iYear_any (n : Int) (w : World) :
    Calls Tryz.prog 169 #[.int .i64 n] w fun e w' => e = .returned (.bool (inB n 1800 2100)) ∧ w = w' := by
  go_enter Tryz.func169, Tryz.ntmps169
  go_wp2_with (go_at_call 113; refine (within_any _ _ _ _).mono ?_; rintro e w' ⟨rfl, rfl⟩)
  go_ret; exact ⟨rfl, rfl⟩
theorem iHeap_any (x : Heap) (w : World) (hx : x.fits) :
    Calls Tryz.prog 114 #[.agg #[.string x.fSort, .int .i64 x.fYear, .int .i64 x.fBundles]] w fun e w' => e = .returned (.bool x.ok) ∧ Below w.heap.size w w' := by
  cases k0 : isName x.fSort
  · have ck : Hid (x.ok = false) := hide (by simp [Heap.ok, k0])
    go_enter Tryz.func114, Tryz.ntmps114
    go_wp2_with (first | (go_at_call 126; refine (iName_any _ _ hx).mono ?_; rintro e w' ⟨rfl, rfl⟩) | (go_at_call 169; refine (iYear_any _ _).mono ?_; rintro e w' ⟨rfl, rfl⟩) | (go_at_call 113; refine (within_any _ _ _ _).mono ?_; rintro e w' ⟨rfl, rfl⟩))
    go_ret
    exact ⟨retB ck.out.symm, by go_grown⟩
  · cases k1 : inB x.fYear 1800 2100
    · have ck : Hid (x.ok = false) := hide (by simp [Heap.ok, k1])
      go_enter Tryz.func114, Tryz.ntmps114
      go_wp2_with (first | (go_at_call 126; refine (iName_any _ _ hx).mono ?_; rintro e w' ⟨rfl, rfl⟩) | (go_at_call 169; refine (iYear_any _ _).mono ?_; rintro e w' ⟨rfl, rfl⟩) | (go_at_call 113; refine (within_any _ _ _ _).mono ?_; rintro e w' ⟨rfl, rfl⟩))
      go_ret
      exact ⟨retB ck.out.symm, by go_grown⟩
    · have ck : Hid (x.ok = inB x.fBundles 1 1000) := hide (by simp [Heap.ok, k0, k1])
      go_enter Tryz.func114, Tryz.ntmps114
      go_wp2_with (first | (go_at_call 126; refine (iName_any _ _ hx).mono ?_; rintro e w' ⟨rfl, rfl⟩) | (go_at_call 169; refine (iYear_any _ _).mono ?_; rintro e w' ⟨rfl, rfl⟩) | (go_at_call 113; refine (within_any _ _ _ _).mono ?_; rintro e w' ⟨rfl, rfl⟩))
      go_ret
      exact ⟨retB ck.out.symm, by go_grown⟩
theorem iCmp_any (x y : Heap) (w : World) (h1 : 1800 ≤ x.fYear) (h2 : x.fYear ≤ 2100) (h3 : 1800 ≤ y.fYear) (h4 : y.fYear ≤ 2100) :
    Calls Tryz.prog 115 #[.agg #[.string x.fSort, .int .i64 x.fYear, .int .i64 x.fBundles], .agg #[.string y.fSort, .int .i64 y.fYear, .int .i64 y.fBundles]] w fun e w' => e = .returned (.int .i64 (hCmp x y)) ∧ Below w.heap.size w w' := by
  by_cases h : x.fSort = y.fSort
  · have e1 := str_eq h
    have e2 : (x.fSort.toList != y.fSort.toList) = false := by rw [bne, e1]; rfl
    have ck : Hid (hCmp x y = x.fYear - y.fYear) := hide (by unfold hCmp; rw [if_pos h])
    clear h
    go_enter Tryz.func115, Tryz.ntmps115
    go_wp2
    go_ret
    exact ⟨ret1 ck.out.symm, by go_grown⟩
  · have e1 := str_ne h
    have e2 : (x.fSort.toList != y.fSort.toList) = true := by rw [bne, e1]; rfl
    have ck : Hid (hCmp x y = strCmp x.fSort y.fSort) := hide (by unfold hCmp; rw [if_neg h])
    clear h
    go_enter Tryz.func115, Tryz.ntmps115
    go_wp2_with (go_at_call 170; refine (Tryz.strings_Compare _ _ _).mono ?_; rintro e w' ⟨rfl, rfl⟩)
    go_ret
    exact ⟨ret1 ck.out.symm, by go_grown⟩
theorem sOne_any (b o : Nat) (x : Heap) (w : World) (hx : x.fits) (d0 : w.cell? ⟨b, o, none⟩ = some (.string x.fSort)) (d1 : w.cell? ⟨b, o + 1, none⟩ = some (.int .i64 x.fYear)) (d2 : w.cell? ⟨b, o + 2, none⟩ = some (.int .i64 x.fBundles)) :
    Calls Tryz.prog 136 #[.pointer (some ⟨b, o, none⟩)] w fun e w' => e = .returned (.bool x.ok) ∧ w = w' := by
  cases k0 : isName x.fSort
  · have ck : Hid (x.ok = false) := hide (by simp [Heap.ok, k0])
    go_enter Tryz.func136, Tryz.ntmps136
    go_wp2_with (first | (go_at_call 196; refine (sName_any _ _ hx).mono ?_; rintro e w' ⟨rfl, rfl⟩) | (go_at_call 135; refine (in_any _ _ _ _).mono ?_; rintro e w' ⟨rfl, rfl⟩))
    go_ret
    exact ⟨retB ck.out.symm, rfl⟩
  · cases k1 : inB x.fYear 1800 2100
    · have ck : Hid (x.ok = false) := hide (by simp [Heap.ok, k1])
      go_enter Tryz.func136, Tryz.ntmps136
      go_wp2_with (first | (go_at_call 196; refine (sName_any _ _ hx).mono ?_; rintro e w' ⟨rfl, rfl⟩) | (go_at_call 135; refine (in_any _ _ _ _).mono ?_; rintro e w' ⟨rfl, rfl⟩))
      go_ret
      exact ⟨retB ck.out.symm, rfl⟩
    · have ck : Hid (x.ok = inB x.fBundles 1 1000) := hide (by simp [Heap.ok, k0, k1])
      go_enter Tryz.func136, Tryz.ntmps136
      go_wp2_with (first | (go_at_call 196; refine (sName_any _ _ hx).mono ?_; rintro e w' ⟨rfl, rfl⟩) | (go_at_call 135; refine (in_any _ _ _ _).mono ?_; rintro e w' ⟨rfl, rfl⟩))
      go_ret
      exact ⟨retB ck.out.symm, rfl⟩
theorem sBefore_any (b o b' o' : Nat) (x y : Heap) (w : World) (d0 : w.cell? ⟨b, o, none⟩ = some (.string x.fSort)) (d1 : w.cell? ⟨b, o + 1, none⟩ = some (.int .i64 x.fYear)) (f0 : w.cell? ⟨b', o', none⟩ = some (.string y.fSort)) (f1 : w.cell? ⟨b', o' + 1, none⟩ = some (.int .i64 y.fYear)) :
    Calls Tryz.prog 137 #[.pointer (some ⟨b, o, none⟩), .pointer (some ⟨b', o', none⟩)] w fun e w' => e = .returned (.bool (hLt x y)) ∧ ∃ n, w' = w.drewN n := by
  cases h1 : Op.bytesLess x.fSort.toList y.fSort.toList
  · by_cases h : x.fSort = y.fSort
    · have e1 := str_eq h
      have ck : Hid (hLt x y = decide (x.fYear < y.fYear)) := hide (by unfold hLt strLt; rw [h1, decide_eq_true h]; simp)
      clear h
      by_cases h2 : x.fYear < y.fYear
      · have ck2 : Hid (hLt x y = true) := hide (by rw [ck.out]; exact decide_eq_true h2)
        have e3 : decide (x.fYear < y.fYear) = true := decide_eq_true h2
        go_enter Tryz.func137, Tryz.ntmps137
        go_wp2
        go_quiet (fail)
        go_wp2
        go_ret
        exact ⟨retB ck2.out.symm, _, rfl⟩
      · have ck2 : Hid (hLt x y = false) := hide (by rw [ck.out]; exact decide_eq_false h2)
        have e3 : decide (x.fYear < y.fYear) = false := decide_eq_false h2
        go_enter Tryz.func137, Tryz.ntmps137
        go_wp2
        go_quiet (fail)
        go_wp2
        go_ret
        exact ⟨retB ck2.out.symm, _, rfl⟩
    · have e1 := str_ne h
      have ck : Hid (hLt x y = false) := hide (by unfold hLt strLt; rw [h1, decide_eq_false h]; rfl)
      clear h
      go_enter Tryz.func137, Tryz.ntmps137
      go_wp2
      go_quiet (fail)
      go_wp2
      go_ret
      exact ⟨retB ck.out.symm, _, rfl⟩
  · have ck : Hid (hLt x y = true) := hide (by unfold hLt strLt; rw [h1]; rfl)
    go_enter Tryz.func137, Tryz.ntmps137
    go_wp2
    go_quiet (fail)
    go_wp2
    go_ret
    exact ⟨retB ck.out.symm, _, rfl⟩
end Go.Proofs.YtfpaejlipaainaaGreatDoor
namespace Go.Proofs.YtfpaejlipaainaaGreatDoor
open Go.ChangeShapes Go.WideShapes Go.ChangeAt Go.RowKit Go.Deep
theorem hLt_iff {a b : Heap} : hLt a b = true ↔ strLt a.fSort b.fSort = true ∨ (a.fSort = b.fSort ∧ a.fYear < b.fYear) := by simp [hLt]
theorem hLt_trans {a b c : Heap} (h : hLt a b = true) (h' : hLt b c = true) : hLt a c = true := by
  rw [hLt_iff] at *
  rcases h with h | ⟨h1, h2⟩ <;> rcases h' with h' | ⟨h3, h4⟩
  · exact .inl (strLt_trans h h')
  · exact .inl (by rw [← h3]; exact h)
  · exact .inl (by rw [h1]; exact h')
  · exact .inr ⟨h1.trans h3, by omega⟩
def Srt (l : List Heap) : Prop := l.Pairwise (fun a b => hLt a b = true)
def putK (l : List Heap) (x : Heap) : Nat := (l.takeWhile (fun y => hLt y x)).length
theorem putK_le (l : List Heap) (x : Heap) : putK l x ≤ l.length := by
  unfold putK; exact List.Sublist.length_le (List.takeWhile_sublist _)
theorem putK_uniq (l : List Heap) (x : Heap) (k : Nat) (hk : k ≤ l.length) (h1 : ∀ (i : Nat) y, i < k → l[i]? = some y → hLt y x = true) (h2 : ∀ y, l[k]? = some y → hLt y x = false) : putK l x = k := by
  induction l generalizing k with
  | nil => simp at hk; subst hk; rfl
  | cons a l ih =>
    unfold putK
    cases k with
    | zero =>
      have := h2 a rfl
      rw [List.takeWhile_cons, this]; rfl
    | succ k =>
      have ha := h1 0 a (by omega) rfl
      rw [List.takeWhile_cons, ha]
      have := ih k (by simpa using hk) (fun i y hi hy => h1 (i + 1) y (by omega) (by simpa using hy)) (fun y hy => h2 y (by simpa using hy))
      simp only [if_true, List.length_cons]
      unfold putK at this
      omega
def sameKey (y x : Heap) : Bool := decide (y.fSort = x.fSort) && decide (y.fYear = x.fYear)
theorem sameKey_iff {y x : Heap} : sameKey y x = true ↔ y.fSort = x.fSort ∧ y.fYear = x.fYear := by simp [sameKey]
def putFound (l : List Heap) (x : Heap) : Bool := match l[putK l x]? with
  | some y => sameKey y x
  | none => false
def putAt (l : List Heap) (x : Heap) : Heap := match l[putK l x]? with
  | some y => ⟨x.fSort, x.fYear, x.fBundles + y.fBundles⟩
  | none => x
def hPut (l : List Heap) (x : Heap) : List Heap :=
  if putFound l x then l.take (putK l x) ++ putAt l x :: l.drop (putK l x + 1) else l.take (putK l x) ++ x :: l.drop (putK l x)
theorem found_at {l : List Heap} {x : Heap} (h : putFound l x = true) : ∃ y, l[putK l x]? = some y ∧ y.fSort = x.fSort ∧ y.fYear = x.fYear ∧ putK l x < l.length ∧ putAt l x = ⟨x.fSort, x.fYear, x.fBundles + y.fBundles⟩ := by
  unfold putFound at h
  unfold putAt
  cases hy : l[putK l x]? with
  | none => rw [hy] at h; cases h
  | some y =>
    rw [hy] at h
    obtain ⟨h1, h2⟩ := sameKey_iff.1 h
    exact ⟨y, rfl, h1, h2, lt_of_get hy, rfl⟩
theorem hPut_found {l : List Heap} {x : Heap} (h : putFound l x = true) : hPut l x = l.set (putK l x) (putAt l x) := by
  obtain ⟨y, hy, _, _, hlt, _⟩ := found_at h
  unfold hPut
  rw [if_pos h, List.set_eq_take_append_cons_drop, if_pos hlt]
theorem hPut_len (l : List Heap) (x : Heap) : (hPut l x).length ≤ l.length + 1 := by
  have := putK_le l x
  unfold hPut
  split <;> simp <;> omega
theorem put_mem {l : List Heap} {x z : Heap} (h : z ∈ hPut l x) : z ∈ l ∨ (z.fSort = x.fSort ∧ z.fYear = x.fYear) := by
  unfold hPut at h
  split at h
  · rename_i hf
    obtain ⟨y, hy, e1, e2, hlt, hat⟩ := found_at hf
    rcases List.mem_append.1 h with h | h
    · exact .inl (List.mem_of_mem_take h)
    · rcases List.mem_cons.1 h with rfl | h
      · rw [hat]; exact .inr ⟨rfl, rfl⟩
      · exact .inl (List.mem_of_mem_drop h)
  · rcases List.mem_append.1 h with h | h
    · exact .inl (List.mem_of_mem_take h)
    · rcases List.mem_cons.1 h with rfl | h
      · exact .inr ⟨rfl, rfl⟩
      · exact .inl (List.mem_of_mem_drop h)
end Go.Proofs.YtfpaejlipaainaaGreatDoor
namespace Go.Proofs.YtfpaejlipaainaaGreatDoor
open Go.ChangeShapes Go.WideShapes Go.ChangeAt Go.RowKit Go.Deep
set_option maxRecDepth 100000
theorem keepr3 {w w' : World} {g : Nat} {o : Obj} (h : w.heap[g]? = some o) (hb : Below w.heap.size w w') : w'.heap[g]? = some o := (hb.block g (Array.getElem?_eq_some_iff.1 h).1).trans h
theorem row3 {w : World} {u0 u1 u2 : Value} {t : TypeId} {g : Nat} (h : w.heap[g]? = some (.cells #[u0, u1, u2] t (0, 0))) :
    w.cell? ⟨g, 0, none⟩ = some u0 ∧ w.cell? ⟨g, 1, none⟩ = some u1 ∧ w.cell? ⟨g, 2, none⟩ = some u2 ∧ ∀ j : Nat, w.frozen? ⟨g, j, none⟩ = false :=
  ⟨by rw [cell_of_row _ _ _ _ _ _ h]; rfl, by rw [cell_of_row _ _ _ _ _ _ h]; rfl, by rw [cell_of_row _ _ _ _ _ _ h]; rfl, fun j => frozen_of_row _ _ _ _ _ h⟩
theorem srt_before {l : List Heap} (h : Srt l) {x y : Heap} {m : Nat} (hy : l[m]? = some y) (hlt : hLt y x = true) : ∀ (i : Nat) z, i < m + 1 → l[i]? = some z → hLt z x = true := by
  intro i z hi hz
  by_cases he : i = m
  · subst he; rw [hy] at hz; cases hz; exact hlt
  · have h1 := lt_of_get hy
    have h2 := lt_of_get hz
    have h3 := (List.pairwise_iff_getElem.1 h) i m h2 h1 (by omega)
    rw [List.getElem?_eq_getElem h1] at hy
    rw [List.getElem?_eq_getElem h2] at hz
    rw [Option.some.inj hy, Option.some.inj hz] at h3
    exact hLt_trans h3 hlt
theorem srt_after {l : List Heap} (h : Srt l) {x y : Heap} {m : Nat} (hy : l[m]? = some y) (hlt : hLt y x = false) : ∀ (i : Nat) z, m ≤ i → l[i]? = some z → hLt z x = false := by
  intro i z hi hz
  by_cases he : i = m
  · subst he; rw [hy] at hz; cases hz; exact hlt
  · have h1 := lt_of_get hy
    have h2 := lt_of_get hz
    have h3 := (List.pairwise_iff_getElem.1 h) m i h1 h2 (by omega)
    rw [List.getElem?_eq_getElem h1] at hy
    rw [List.getElem?_eq_getElem h2] at hz
    rw [Option.some.inj hy, Option.some.inj hz] at h3
    cases h4 : hLt z x with
    | false => rfl
    | true => have := hLt_trans h3 h4; rw [hlt] at this; cases this
set_option maxHeartbeats 2000000 in
theorem bs_any (A : Option Addr) (n c : Nat) (l : List Heap) (x : Heap) (w : World) (hn : n ≤ 1048576) (hr0 : Arr Heap.cells 3 w w.heap.size A n l) (hyr0 : ∀ y ∈ l, 1800 ≤ y.fYear ∧ y.fYear ≤ 2100) (hx1 : 1800 ≤ x.fYear) (hx2 : x.fYear ≤ 2100) (hs0 : Srt l) :
    Calls Tryz.prog 178 #[.slice A n c, .agg #[.string x.fSort, .int .i64 x.fYear, .int .i64 x.fBundles], .func (.func 115) #[] #[]] w fun e w' => e = .returned (.tuple #[.int .i64 (putK l x), .bool (putFound l x)]) ∧ Below w.heap.size w w' := by
  have hr := hide hr0
  have hyr := hide hyr0
  have hs := hide hs0
  have hl : Hid (l.length = n) := hide hr0.len
  clear hr0 hyr0 hs0
  have hR0 := hide (heap_alloc_new w (.cells #[.string x.fSort, .int .i64 x.fYear, .int .i64 x.fBundles] 106))
  have hE0 : Hid (Below w.heap.size w (w.alloc (.cells #[.string x.fSort, .int .i64 x.fYear, .int .i64 x.fBundles] 106))) := hide ((Below.refl _ _).alloc (Nat.le_refl _) _)
  go_enter Tryz.func178, Tryz.ntmps178
  go_wp2
  go_loopg [9, 10] n (fun kx s9 s10 wr => ∃ lo hi : Nat, s9 = .int .i64 lo ∧ s10 = .int .i64 hi ∧ lo ≤ hi ∧ hi ≤ n ∧ hi - lo ≤ kx ∧ Below w.heap.size w wr ∧ wr.heap[w.heap.size]? = some (.cells #[.string x.fSort, .int .i64 x.fYear, .int .i64 x.fBundles] 106 (0, 0)) ∧ Hid ((∀ (i : Nat) z, i < lo → l[i]? = some z → hLt z x = true) ∧ (∀ (i : Nat) z, hi ≤ i → l[i]? = some z → hLt z x = false)))
  case atStart => exact ⟨0, n, rfl, rfl, Nat.zero_le _, Nat.le_refl _, by omega, hE0.out, hR0.out, hide ⟨fun i z hi => absurd hi (by omega), fun i z hi hz => absurd (lt_of_get hz) (by have := hl.out; omega)⟩⟩
  case round =>
    clear hE0 hR0
    obtain ⟨lo, hi, rfl, rfl, hlh, hin, hg, he, hrow, hI⟩ := hrel
    have hE := hide he
    have hR := hide hrow
    clear he hrow
    by_cases hlt : lo < hi
    · obtain ⟨m, hm⟩ : ∃ m : Nat, (m : Int) = ((lo : Int) + (hi : Int)) / 2 := ⟨(lo + hi) / 2, by omega⟩
      have hm' := hm.symm
      have hml : lo ≤ m := by omega
      have hmh : m < hi := by omega
      have hmn : (m : Int) < (n : Int) := by omega
      have hm0 : (0 : Int) ≤ (m : Int) := by omega
      clear hm
      have hlt' : (lo : Int) < (hi : Int) := by omega
      have hw1 : IntKind.i64.wrap ((lo : Int) + (hi : Int)) = (lo : Int) + (hi : Int) := IntWalk.i64_in _ (by omega)
      obtain ⟨b, o, y, rfl, hbl, hy0, c0, c1, c2⟩ := hr.out.Heap (k := m) (by omega)
      have hY := hide hy0
      have hyy := hyr.out y (List.mem_of_getElem? hy0)
      have hdr : Below wr.heap.size wr wr.drew := below_drewN (Below.refl _ _) 1
      have hE2 := hide (Below.up hE.out hdr)
      have hR2 := hide (keepr3 hR.out hdr)
      have key : ∀ (W : World), Below w.heap.size w W → W.heap[w.heap.size]? = some (.cells #[.string x.fSort, .int .i64 x.fYear, .int .i64 x.fBundles] 106 (0, 0)) → (W.cell? ⟨w.heap.size, 0, none⟩ = some (.string x.fSort) ∧ W.cell? ⟨w.heap.size, 1, none⟩ = some (.int .i64 x.fYear) ∧ W.cell? ⟨w.heap.size, 2, none⟩ = some (.int .i64 x.fBundles) ∧ W.cell? ⟨b, o + m * 3, none⟩ = some (.string y.fSort) ∧ W.cell? ⟨b, o + m * 3 + 1, none⟩ = some (.int .i64 y.fYear) ∧ W.cell? ⟨b, o + m * 3 + 2, none⟩ = some (.int .i64 y.fBundles)) := fun W h h' => by obtain ⟨e0, e1, e2, _⟩ := row3 h'; exact ⟨e0, e1, e2, (h.cell (p := ⟨b, o + m * 3, none⟩) hbl).trans c0, (h.cell (p := ⟨b, o + m * 3 + 1, none⟩) hbl).trans c1, (h.cell (p := ⟨b, o + m * 3 + 2, none⟩) hbl).trans c2⟩
      have hkey := hide key
      obtain ⟨g0, g1, g2, g3, g4, g5⟩ := key _ hE2.out hR2.out
      clear key c0 c1 c2 hy0 hdr
      cases hq : hLt y x
      · have hA := hide hq
        clear hq
        have hc : ¬ hCmp y x < 0 := by rw [hCmp_neg, hA.out]; simp
        have hc' : 0 ≤ hCmp y x := by omega
        go_wp2_with fail
        go_region_held3 (fun w' => w'.cell? ⟨w.heap.size, 0, none⟩ = some (.string x.fSort) ∧ w'.cell? ⟨w.heap.size, 1, none⟩ = some (.int .i64 x.fYear) ∧ w'.cell? ⟨w.heap.size, 2, none⟩ = some (.int .i64 x.fBundles) ∧ w'.cell? ⟨b, o + m * 3, none⟩ = some (.string y.fSort) ∧ w'.cell? ⟨b, o + m * 3 + 1, none⟩ = some (.int .i64 y.fYear) ∧ w'.cell? ⟨b, o + m * 3 + 2, none⟩ = some (.int .i64 y.fBundles)) (first | go_keep | exact hkey.out _ hE2.out hR2.out) (first | (go_at_call 115; refine (iCmp_any y x _ (by omega) (by omega) (by omega) (by omega)).mono ?_; rintro e w4 ⟨rfl, hb4⟩; replace hE2 := hide (Below.up hE2.out hb4); replace hR2 := hide (keepr3 hR2.out hb4); clear hb4 g0 g1 g2 g3 g4 g5) | fail)
        go_wp2
        go_roundg (m - lo)
        case measure => omega
        case rel => exact ⟨lo, m, rfl, rfl, by omega, by omega, Nat.le_refl _, hE2.out, hR2.out, hide ⟨hI.out.1, srt_after hs.out hY.out hA.out⟩⟩
      · have hA := hide hq
        clear hq
        have hc : hCmp y x < 0 := hCmp_neg.2 hA.out
        go_wp2_with fail
        go_region_held3 (fun w' => w'.cell? ⟨w.heap.size, 0, none⟩ = some (.string x.fSort) ∧ w'.cell? ⟨w.heap.size, 1, none⟩ = some (.int .i64 x.fYear) ∧ w'.cell? ⟨w.heap.size, 2, none⟩ = some (.int .i64 x.fBundles) ∧ w'.cell? ⟨b, o + m * 3, none⟩ = some (.string y.fSort) ∧ w'.cell? ⟨b, o + m * 3 + 1, none⟩ = some (.int .i64 y.fYear) ∧ w'.cell? ⟨b, o + m * 3 + 2, none⟩ = some (.int .i64 y.fBundles)) (first | go_keep | exact hkey.out _ hE2.out hR2.out) (first | (go_at_call 115; refine (iCmp_any y x _ (by omega) (by omega) (by omega) (by omega)).mono ?_; rintro e w4 ⟨rfl, hb4⟩; replace hE2 := hide (Below.up hE2.out hb4); replace hR2 := hide (keepr3 hR2.out hb4); clear hb4 g0 g1 g2 g3 g4 g5) | fail)
        go_wp2
        go_roundg (hi - (m + 1))
        case measure => omega
        case rel => exact ⟨m + 1, hi, by go_num, rfl, by omega, hin, Nat.le_refl _, hE2.out, hR2.out, hide ⟨srt_before hs.out hY.out hA.out, hI.out.2⟩⟩
    · have hll : lo = hi := by omega
      subst hll
      have hput : Hid (putK l x = lo) := hide (putK_uniq l x lo (by rw [hl.out]; omega) hI.out.1 (fun z hz => hI.out.2 lo z (Nat.le_refl _) hz))
      by_cases hln : lo < n
      · have hln' : (lo : Int) < (n : Int) := by omega
        have hlo0 : (0 : Int) ≤ (lo : Int) := by omega
        obtain ⟨b, o, y, rfl, hbl, hy0, c0, c1, c2⟩ := hr.out.Heap (k := lo) (by omega)
        have hY := hide hy0
        have hyy := hyr.out y (List.mem_of_getElem? hy0)
        have hdr : Below wr.heap.size wr wr.drew := below_drewN (Below.refl _ _) 1
        have hE2 := hide (Below.up hE.out hdr)
        have hR2 := hide (keepr3 hR.out hdr)
        have key : ∀ (W : World), Below w.heap.size w W → W.heap[w.heap.size]? = some (.cells #[.string x.fSort, .int .i64 x.fYear, .int .i64 x.fBundles] 106 (0, 0)) → (W.cell? ⟨w.heap.size, 0, none⟩ = some (.string x.fSort) ∧ W.cell? ⟨w.heap.size, 1, none⟩ = some (.int .i64 x.fYear) ∧ W.cell? ⟨w.heap.size, 2, none⟩ = some (.int .i64 x.fBundles) ∧ W.cell? ⟨b, o + lo * 3, none⟩ = some (.string y.fSort) ∧ W.cell? ⟨b, o + lo * 3 + 1, none⟩ = some (.int .i64 y.fYear) ∧ W.cell? ⟨b, o + lo * 3 + 2, none⟩ = some (.int .i64 y.fBundles)) := fun W h h' => by obtain ⟨e0, e1, e2, _⟩ := row3 h'; exact ⟨e0, e1, e2, (h.cell (p := ⟨b, o + lo * 3, none⟩) hbl).trans c0, (h.cell (p := ⟨b, o + lo * 3 + 1, none⟩) hbl).trans c1, (h.cell (p := ⟨b, o + lo * 3 + 2, none⟩) hbl).trans c2⟩
        have hkey := hide key
        obtain ⟨g0, g1, g2, g3, g4, g5⟩ := key _ hE2.out hR2.out
        clear key c0 c1 c2 hy0 hdr
        have hfd : Hid (putFound l x = decide (hCmp y x = 0)) := hide (by unfold putFound; rw [hput.out, hY.out]; show sameKey y x = _; rw [Bool.eq_iff_iff, sameKey_iff, decide_eq_true_eq, hCmp_zero])
        by_cases h0 : hCmp y x = 0
        · have hfv : Hid (putFound l x = true) := hide (hfd.out.trans (decide_eq_true h0))
          have h1 : (hCmp y x == 0) = true := by rw [h0]; rfl
          clear h0
          go_wp2_with fail
          go_region_held3 (fun w' => w'.cell? ⟨w.heap.size, 0, none⟩ = some (.string x.fSort) ∧ w'.cell? ⟨w.heap.size, 1, none⟩ = some (.int .i64 x.fYear) ∧ w'.cell? ⟨w.heap.size, 2, none⟩ = some (.int .i64 x.fBundles) ∧ w'.cell? ⟨b, o + lo * 3, none⟩ = some (.string y.fSort) ∧ w'.cell? ⟨b, o + lo * 3 + 1, none⟩ = some (.int .i64 y.fYear) ∧ w'.cell? ⟨b, o + lo * 3 + 2, none⟩ = some (.int .i64 y.fBundles)) (first | go_keep | exact hkey.out _ hE2.out hR2.out) (first | (go_at_call 115; refine (iCmp_any y x _ (by omega) (by omega) (by omega) (by omega)).mono ?_; rintro e w4 ⟨rfl, hb4⟩; replace hE2 := hide (Below.up hE2.out hb4); replace hR2 := hide (keepr3 hR2.out hb4); clear hb4 g0 g1 g2 g3 g4 g5) | fail)
          go_wp2
          exact bodyPost_ret (v := .tuple #[.int .i64 lo, .bool true]) (by simp [results, Tryz.results178, go_sem]) rfl ⟨by rw [hput.out, hfv.out], hE2.out⟩
        · have hfv : Hid (putFound l x = false) := hide (hfd.out.trans (decide_eq_false h0))
          have h1 : (hCmp y x == 0) = false := by simp; exact h0
          clear h0
          go_wp2_with fail
          go_region_held3 (fun w' => w'.cell? ⟨w.heap.size, 0, none⟩ = some (.string x.fSort) ∧ w'.cell? ⟨w.heap.size, 1, none⟩ = some (.int .i64 x.fYear) ∧ w'.cell? ⟨w.heap.size, 2, none⟩ = some (.int .i64 x.fBundles) ∧ w'.cell? ⟨b, o + lo * 3, none⟩ = some (.string y.fSort) ∧ w'.cell? ⟨b, o + lo * 3 + 1, none⟩ = some (.int .i64 y.fYear) ∧ w'.cell? ⟨b, o + lo * 3 + 2, none⟩ = some (.int .i64 y.fBundles)) (first | go_keep | exact hkey.out _ hE2.out hR2.out) (first | (go_at_call 115; refine (iCmp_any y x _ (by omega) (by omega) (by omega) (by omega)).mono ?_; rintro e w4 ⟨rfl, hb4⟩; replace hE2 := hide (Below.up hE2.out hb4); replace hR2 := hide (keepr3 hR2.out hb4); clear hb4 g0 g1 g2 g3 g4 g5) | fail)
          go_wp2
          exact bodyPost_ret (v := .tuple #[.int .i64 lo, .bool false]) (by simp [results, Tryz.results178, go_sem]) rfl ⟨by rw [hput.out, hfv.out], hE2.out⟩
      · have hfv : Hid (putFound l x = false) := hide (by unfold putFound; rw [hput.out, List.getElem?_eq_none (by rw [hl.out]; omega)])
        have hln' : decide ((lo : Int) < (n : Int)) = false := decide_eq_false (by omega)
        go_wp2_with fail
        go_quiet (fail)
        go_wp2
        exact bodyPost_ret (v := .tuple #[.int .i64 lo, .bool false]) (by simp [results, Tryz.results178, go_sem]) rfl ⟨by rw [hput.out, hfv.out], Below.up hE.out (below_drewN (Below.refl _ _) _)⟩
end Go.Proofs.YtfpaejlipaainaaGreatDoor
