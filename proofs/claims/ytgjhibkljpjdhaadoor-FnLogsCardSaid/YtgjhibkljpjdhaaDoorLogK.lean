/- Contracts: the values of a name in a log. -/
import Derived.Test.YtgjhibkljpjdhaaDoorLogI
namespace Go.Proofs.YtgjhibkljpjdhaaDoor
open Go.ChangeShapes Go.WideShapes Go.ChangeAt Go.RowKit Go.Deep
set_option maxRecDepth 100000
def valsOf (what : ByteArray) (l : List Entry) : List Int := (l.filter fun e => decide (e.fWhat = what)).map (·.fValue)
theorem vals_hit {what : ByteArray} {l : List Entry} {k : Nat} {x : Entry} (hx : l[k]? = some x) (h : x.fWhat = what) : valsOf what (l.take (k + 1)) = valsOf what (l.take k) ++ [x.fValue] := by
  unfold valsOf; rw [take_snoc hx, List.filter_append]; simp [h]
theorem vals_miss {what : ByteArray} {l : List Entry} {k : Nat} {x : Entry} (hx : l[k]? = some x) (h : ¬ x.fWhat = what) : valsOf what (l.take (k + 1)) = valsOf what (l.take k) := by
  unfold valsOf; rw [take_snoc hx, List.filter_append]; simp [h]
theorem vals_len (what : ByteArray) (l : List Entry) : (valsOf what l).length ≤ l.length := by
  unfold valsOf; rw [List.length_map]; exact List.length_filter_le _ _
def mVals (s what : ByteArray) : List Int := if lw s what = 0 then valsOf what (ents s) else []
theorem ents_len {s : ByteArray} (h : lcode s = 0) : (ents s).length ≤ 4000 := by
  have h1 := log_props s
  have h2 := lcode_small h
  omega
theorem mVals_len (s what : ByteArray) : (mVals s what).length ≤ 1048576 := by
  unfold mVals
  by_cases h : lw s what = 0
  · rw [if_pos h]
    have h1 := ents_len (lw_zero h).1
    have h2 := vals_len what (ents s)
    omega
  · rw [if_neg h]; exact Nat.zero_le _
theorem info_i64 : (Tryd.prog.info? 2).map (fun i => (i.zero, i.size, i.bytes)) = some (some (.int .i64 0), 1, 8) := by kernel_rfl
set_option maxHeartbeats 1000000 in
theorem iVals_any (s what : ByteArray) (w : World) (hz : what.size ≤ maxLen) (hG : Gl w) :
    Calls Tryd.prog 10 #[.string s, .string what] w fun e w' => ∃ v, e = .returned (.tuple #[v, .int .i64 (lw s what)]) ∧ Res i64c 2 1 w' w.heap.size v (mVals s what).length (mVals s what) ∧ Below w.heap.size w w' := by
  have hc := hide (iCode_any s w hG)
  have NAME : ∀ W : World, Hid (Calls Tryd.prog 26 #[.string what] W fun e w' => e = .returned (.bool (isName what)) ∧ W = w') := fun W => hide (iName_any what W hz)
  have hN := hide NAME
  have hGh := hide hG
  clear hG NAME
  by_cases h : lcode s = 0
  case neg =>
    have hm : Hid (mVals s what = []) := hide (by unfold mVals; rw [if_neg (fun hh => h (lw_zero hh).1)])
    have hq : Hid (lw s what = lcode s) := hide (by unfold lw; rw [if_neg (fun hh => h hh.1)])
    have e1 : (lcode s != 0) = true := bne_iff_ne.2 h
    clear h
    go_enter Tryd.func10, Tryd.ntmps10
    go_wp2_with fail
    refine hc.out.mono ?_
    rintro e w1 ⟨rfl, hb⟩
    have hB := hide hb
    clear hb
    go_wp2
    go_ret2
    exact ⟨_, by rw [hq.out]; rfl, by rw [hm.out]; exact Res.empty (Nat.zero_le _), hB.out⟩
  case pos =>
    have hsz := lcode_small h
    rw [h] at hc
    cases hn : isName what
    · have hm : Hid (mVals s what = []) := hide (by unfold mVals; rw [if_neg (fun hh => by have := (lw_zero hh).2; rw [hn] at this; cases this)])
      have hq : Hid (lw s what = 2) := hide (by unfold lw; rw [if_pos ⟨h, hn⟩])
      rw [hn] at hN
      clear h hn
      go_enter Tryd.func10, Tryd.ntmps10
      go_wp2_with (first | (go_at_call 23; refine hc.out.mono ?_; rintro e w1 ⟨rfl, hb⟩; have hB := hide hb; clear hb) | (go_at_call 26; refine (hN.out _).out.mono ?_; rintro e w' ⟨rfl, rfl⟩))
      go_ret2
      exact ⟨_, by rw [hq.out]; rfl, by rw [hm.out]; exact Res.empty (Nat.zero_le _), hB.out⟩
    · have hq : Hid (lw s what = 0) := hide (by unfold lw; rw [if_neg (by rw [hn]; simp), h])
      have hm : Hid (mVals s what = valsOf what (ents s)) := hide (by unfold mVals; rw [if_pos hq.out])
      have hlen := ents_len h
      rw [hn] at hN
      clear h hn
      go_enter Tryd.func10, Tryd.ntmps10
      go_wp2_with (first | (go_at_call 23; refine hc.out.mono ?_; rintro e w1 ⟨rfl, hb⟩; have hB := hide hb; clear hb) | (go_at_call 26; refine (hN.out _).out.mono ?_; rintro e w' ⟨rfl, rfl⟩) | fail)
      have hO := hide (Own.none_made (cells := i64c) (e := 2) (s := 1) w1 hB.out.size)
      have hB1 := hide (hB.out.alloc hB.out.size (.cells #[] 2))
      refine (iRead_log s _ hsz (hGh.out.below hB1.out)).mono ?_
      rintro e w2 ⟨vE, rfl, hoE, hb⟩
      replace hO := hide (hO.out.below hb)
      have hE := hide (hoE.less hB1.out.size)
      replace hB := hide (Below.up hB1.out hb)
      obtain ⟨AE, cE, rfl, _⟩ := hoE.slice
      clear hb hoE hB1
      unfold ents at hm hlen
      obtain ⟨L, hL⟩ : ∃ L, L = (rdLog s).1 := ⟨_, rfl⟩
      rw [← hL] at hm hE hlen ⊢
      obtain ⟨n, hn⟩ : ∃ n, n = L.length := ⟨_, rfl⟩
      rw [← hn] at hE hlen ⊢
      have hLh := hide hL
      have hnh := hide hn
      clear hL hn
      obtain ⟨vb, hvb⟩ : ∃ vb : Value, vb = .slice (some ⟨w1.heap.size, 0, none⟩) 0 0 := ⟨_, rfl⟩
      go_wp2
      go_loopw [7, 30] (fun v i wr => ∃ k : Nat, k ≤ n ∧ i = .int .i64 k ∧ Own i64c 2 1 wr w.heap.size v (valsOf what (L.take k)).length (valsOf what (L.take k)) ∧ Own Entry.cells 38 3 wr w.heap.size (.slice AE n cE) n L ∧ Below w.heap.size w wr) (fun _ i _ => n - (intOf i).toNat)
      case atStart => exact ⟨0, Nat.zero_le _, rfl, hO.out, hE.out, hB.out⟩
      case round =>
        clear hO hE hB
        obtain ⟨k, hk, rfl, ho, hoE, hb⟩ := hrel
        by_cases hlt : k < n
        · obtain ⟨b, o, x, rfl, hbl, hx, d0, d1, d2⟩ := (hoE.arr Entry.len).Entry hlt
          have hml : (valsOf what (L.take k)).length ≤ 4000 := by have h1 := vals_len what (L.take k); rw [List.length_take] at h1; omega
          have hO := hide (ho.below ((Below.refl _ _).alloc (Nat.le_refl _) (.cells #[.int .i64 x.fDay, .string x.fWhat, .int .i64 x.fValue] 38)))
          have hE := hide (hoE.below ((Below.refl _ _).alloc (Nat.le_refl _) (.cells #[.int .i64 x.fDay, .string x.fWhat, .int .i64 x.fValue] 38)))
          have hB := hide (hb.alloc hb.size (.cells #[.int .i64 x.fDay, .string x.fWhat, .int .i64 x.fValue] 38))
          clear ho hoE hb
          by_cases hw : x.fWhat = what
          · have hV := hide (vals_hit hx hw)
            have e1 := str_eq hw
            clear hw hx
            go_wp2_with (at_builtin; refine wpl_app1H (wr.heap.size + 1) (by simp) rfl (.tmp 38) (.tmp 41) rfl Tryd.underlying33 info_i64 rfl (by omega) (by omega) i64c_len i64c_one rfl hO.out x.fValue _ rfl rfl (by omega) hB.out.size ?_; intro v5 w5 ho5 hg5 _; have hB5 := hide (grown_below hB.out hO.out hg5 hB.out.size); have hE5 := hide (hE.out.kept hg5 (own_diff hE.out hO.out (by decide))); have hO5 := hide ho5; clear ho5 hg5)
            go_roundw
            case rel => exact ⟨k + 1, by omega, by go_num, by rw [hV.out, List.length_append]; exact hO5.out, hE5.out, hB5.out⟩
            case measure => simp [intOf]; omega
          · have hV := hide (vals_miss hx hw)
            have e1 := str_ne hw
            clear hw hx
            go_wp2
            go_roundw
            case rel => exact ⟨k + 1, by omega, by go_num, by rw [hV.out]; exact hO.out, hE.out, hB.out⟩
            case measure => simp [intOf]; omega
        · have hkn : k = n := by omega
          have hT : Hid (L.take k = L) := hide (List.take_of_length_le (by rw [← hnh.out]; omega))
          have hO := hide ho
          have hB := hide hb
          clear ho hoE hb
          go_wp2
          go_ret2
          exact ⟨_, by rw [hq.out]; rfl, by rw [hm.out]; have := hO.out; rw [hT.out] at this; exact this.res, hB.out⟩
end Go.Proofs.YtgjhibkljpjdhaaDoor
