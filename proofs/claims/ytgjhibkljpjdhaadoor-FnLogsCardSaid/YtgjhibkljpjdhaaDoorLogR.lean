/- Contracts: the names in a log. -/
import Derived.Test.YtgjhibkljpjdhaaDoorLogK
namespace Go.Proofs.YtgjhibkljpjdhaaDoor
open Go.ChangeShapes Go.WideShapes Go.ChangeAt Go.RowKit Go.Deep
set_option maxRecDepth 100000
theorem ix_hit (A : Option Addr) (n c : Nat) (l : List ByteArray) (x : ByteArray) (w : World) (hn : n ≤ 1048576) (hr : Arr strc 1 w w.heap.size A n l) (hx : x ∈ l) :
    Calls Tryd.prog 44 #[.slice A n c, .string x] w fun e w' => ∃ r : Nat, e = .returned (.int .i64 (r : Int)) ∧ w = w' := by
  have hX := hide hx
  have hl := hide hr.len
  clear hx
  go_enter Tryd.func44, Tryd.ntmps44
  go_wp2
  go_loopw [8] (fun i wr => ∃ k : Nat, k ≤ n ∧ i = .int .i64 k ∧ w = wr ∧ Hid (¬ x ∈ l.take k)) (fun i _ => n - (intOf i).toNat)
  case atStart => exact ⟨0, Nat.zero_le _, rfl, rfl, hide (by simp)⟩
  case round =>
    obtain ⟨k, hk, rfl, rfl, hm⟩ := hrel
    by_cases hlt : k < n
    · obtain ⟨b, o, y, rfl, _, hy, d0⟩ := hr.str hlt
      by_cases he : y = x
      · have e1 := str_eq (show x = y from he.symm)
        clear he hy
        go_wp2
        go_ret
        exact ⟨k, rfl, rfl⟩
      · have e1 := str_ne (fun h : x = y => he h.symm)
        have hm2 := hide (show ¬ x ∈ l.take (k + 1) by rw [take_snoc hy]; exact fun h => (List.mem_append.1 h).elim hm.out (fun h => he (List.mem_singleton.1 h).symm))
        clear he hy
        go_wp2
        go_round
        case rel => exact ⟨k + 1, by omega, by go_num, trivial, hm2⟩
        case measure => simp [intOf]; omega
    · exfalso
      apply hm.out
      rw [List.take_of_length_le (by rw [hl.out]; omega)]
      exact hX.out
theorem ix_miss (A : Option Addr) (n c : Nat) (l : List ByteArray) (x : ByteArray) (w : World) (hn : n ≤ 1048576) (hr : Arr strc 1 w w.heap.size A n l) (hx : ¬ x ∈ l) :
    Calls Tryd.prog 44 #[.slice A n c, .string x] w fun e w' => e = .returned (.int .i64 (-1)) ∧ w = w' := by
  have hX := hide hx
  clear hx
  go_enter Tryd.func44, Tryd.ntmps44
  go_wp2
  go_loopw [8] (fun i wr => ∃ k : Nat, k ≤ n ∧ i = .int .i64 k ∧ w = wr) (fun i _ => n - (intOf i).toNat)
  case atStart => exact ⟨0, Nat.zero_le _, rfl, rfl⟩
  case round =>
    obtain ⟨k, hk, rfl, rfl⟩ := hrel
    by_cases hlt : k < n
    · obtain ⟨b, o, y, rfl, _, hy, d0⟩ := hr.str hlt
      have e1 := str_ne (fun he : x = y => hX.out (by rw [he]; exact List.mem_of_getElem? hy))
      clear hy
      go_wp2
      go_round
      case rel => exact ⟨k + 1, by omega, by go_num, trivial⟩
      case measure => simp [intOf]; omega
    · have hkn : k = n := by omega
      go_wp2
      go_ret
      exact ⟨rfl, rfl⟩
def hasB (l : List ByteArray) (x : ByteArray) : Bool := l.any fun y => decide (y = x)
theorem hasB_iff {l : List ByteArray} {x : ByteArray} : hasB l x = true ↔ x ∈ l := by
  unfold hasB
  rw [List.any_eq_true]
  constructor
  · rintro ⟨y, hy, h⟩; rw [← of_decide_eq_true h]; exact hy
  · intro h; exact ⟨x, h, decide_eq_true rfl⟩
theorem hasB_false {l : List ByteArray} {x : ByteArray} (h : ¬ x ∈ l) : hasB l x = false := by
  cases hb : hasB l x
  · rfl
  · exact absurd (hasB_iff.1 hb) h
theorem has_any (A : Option Addr) (n c : Nat) (l : List ByteArray) (x : ByteArray) (w : World) (hn : n ≤ 1048576) (hr : Arr strc 1 w w.heap.size A n l) :
    Calls Tryd.prog 25 #[.slice A n c, .string x] w fun e w' => e = .returned (.bool (hasB l x)) ∧ w = w' := by
  by_cases hx : x ∈ l
  · have hd : Hid (hasB l x = true) := hide (hasB_iff.2 hx)
    have hc := hide (ix_hit A n c l x w hn hr hx)
    clear hx
    go_enter Tryd.func25, Tryd.ntmps25
    go_wp2_with fail
    refine hc.out.mono ?_
    rintro e w' ⟨r, rfl, rfl⟩
    have h0 : (0 : Int) ≤ (r : Int) := by omega
    go_wp2
    go_ret
    exact ⟨by rw [hd.out]; rfl, rfl⟩
  · have hd : Hid (hasB l x = false) := hide (hasB_false hx)
    have hc := hide (ix_miss A n c l x w hn hr hx)
    clear hx
    go_enter Tryd.func25, Tryd.ntmps25
    go_wp2_with fail
    refine hc.out.mono ?_
    rintro e w' ⟨rfl, rfl⟩
    go_wp2
    go_ret
    exact ⟨by rw [hd.out]; rfl, rfl⟩
def nmAdd (out : List ByteArray) (x : Entry) : List ByteArray := if hasB out x.fWhat = true then out else out ++ [x.fWhat]
def nmOf (l : List Entry) : List ByteArray := l.foldl nmAdd []
theorem nmOf_snoc {l : List Entry} {k : Nat} {x : Entry} (hx : l[k]? = some x) : nmOf (l.take (k + 1)) = nmAdd (nmOf (l.take k)) x := by
  unfold nmOf; rw [take_snoc hx, List.foldl_append]; rfl
theorem nmOf_hit {l : List Entry} {k : Nat} {x : Entry} (hx : l[k]? = some x) (h : x.fWhat ∈ nmOf (l.take k)) : nmOf (l.take (k + 1)) = nmOf (l.take k) := by
  rw [nmOf_snoc hx]; unfold nmAdd; rw [if_pos (hasB_iff.2 h)]
theorem nmOf_miss {l : List Entry} {k : Nat} {x : Entry} (hx : l[k]? = some x) (h : ¬ x.fWhat ∈ nmOf (l.take k)) : nmOf (l.take (k + 1)) = nmOf (l.take k) ++ [x.fWhat] := by
  rw [nmOf_snoc hx]; unfold nmAdd; rw [if_neg (fun hh => h (hasB_iff.1 hh))]
theorem fold_len : ∀ (l : List Entry) (out : List ByteArray), (l.foldl nmAdd out).length ≤ out.length + l.length
  | [], out => by simp
  | x :: l, out => by
    rw [List.foldl_cons, List.length_cons]
    have := fold_len l (nmAdd out x)
    have h2 : (nmAdd out x).length ≤ out.length + 1 := by unfold nmAdd; split <;> simp
    omega
theorem nmOf_len (l : List Entry) : (nmOf l).length ≤ l.length := by have := fold_len l []; simpa [nmOf] using this
def mNames (s : ByteArray) : List ByteArray := if lcode s = 0 then nmOf (ents s) else []
theorem mNames_len (s : ByteArray) : (mNames s).length ≤ 1048576 := by
  unfold mNames
  by_cases h : lcode s = 0
  · rw [if_pos h]; have h1 := ents_len h; have h2 := nmOf_len (ents s); omega
  · rw [if_neg h]; exact Nat.zero_le _
set_option maxHeartbeats 1000000 in
theorem iNames_any (s : ByteArray) (w : World) (hG : Gl w) :
    Calls Tryd.prog 8 #[.string s] w fun e w' => ∃ v, e = .returned (.tuple #[v, .int .i64 (lcode s)]) ∧ Res strc 9 1 w' w.heap.size v (mNames s).length (mNames s) ∧ Below w.heap.size w w' := by
  have hc := hide (iCode_any s w hG)
  have hGh := hide hG
  clear hG
  by_cases h : lcode s = 0
  case neg =>
    have hm : Hid (mNames s = []) := hide (by unfold mNames; rw [if_neg h])
    have e1 : (lcode s != 0) = true := bne_iff_ne.2 h
    clear h
    go_enter Tryd.func8, Tryd.ntmps8
    go_wp2_with fail
    refine hc.out.mono ?_
    rintro e w1 ⟨rfl, hb⟩
    have hB := hide hb
    clear hb
    go_wp2
    go_ret2
    exact ⟨_, rfl, by rw [hm.out]; exact Res.empty (Nat.zero_le _), hB.out⟩
  have hsz := lcode_small h
  have hm : Hid (mNames s = nmOf (ents s)) := hide (by unfold mNames; rw [if_pos h])
  have hlen := ents_len h
  rw [h] at hc
  have hq := hide h
  clear h
  go_enter Tryd.func8, Tryd.ntmps8
  go_wp2_with (first | (go_at_call 23; refine hc.out.mono ?_; rintro e w1 ⟨rfl, hb⟩; have hB := hide hb; clear hb) | fail)
  have hO := hide (Own.none_made (cells := strc) (e := 9) (s := 1) w1 hB.out.size)
  have hB1 := hide (hB.out.alloc hB.out.size (.cells #[] 9))
  refine (iRead_log s _ hsz (hGh.out.below hB1.out)).mono ?_
  rintro e w2 ⟨vE, rfl, hoE, hb⟩
  replace hO := hide (hO.out.below hb)
  have hE := hide (hoE.less hB1.out.size)
  replace hB := hide (Below.up hB1.out hb)
  obtain ⟨AE, cE, rfl, _⟩ := hoE.slice
  clear hb hoE hB1
  unfold ents at hm hlen
  obtain ⟨L, hL⟩ : ∃ L, L = (rdLog s).1 := ⟨_, rfl⟩
  rw [← hL] at hm hE hlen ⊢
  obtain ⟨n, hn⟩ : ∃ n, n = L.length := ⟨_, rfl⟩
  rw [← hn] at hE hlen ⊢
  have hLh := hide hL
  have hnh := hide hn
  clear hL hn
  go_wp2
  go_loopw [5, 25] (fun v i wr => ∃ k : Nat, k ≤ n ∧ i = .int .i64 k ∧ Own strc 9 1 wr w.heap.size v (nmOf (L.take k)).length (nmOf (L.take k)) ∧ Own Entry.cells 38 3 wr w.heap.size (.slice AE n cE) n L ∧ Below w.heap.size w wr) (fun _ i _ => n - (intOf i).toNat)
  case atStart => exact ⟨0, Nat.zero_le _, rfl, hO.out, hE.out, hB.out⟩
  case round =>
    clear hO hE hB
    obtain ⟨k, hk, rfl, ho, hoE, hb⟩ := hrel
    obtain ⟨AO, cO, rfl, _⟩ := ho.slice
    by_cases hlt : k < n
    · obtain ⟨b, o, x, rfl, hbl, hx, d0, d1, d2⟩ := (hoE.arr Entry.len).Entry hlt
      have hml : (nmOf (L.take k)).length ≤ 4000 := by have h1 := nmOf_len (L.take k); rw [List.length_take] at h1; omega
      have hO := hide (ho.below ((Below.refl _ _).alloc (Nat.le_refl _) (.cells #[.int .i64 x.fDay, .string x.fWhat, .int .i64 x.fValue] 38)))
      have hE := hide (hoE.below ((Below.refl _ _).alloc (Nat.le_refl _) (.cells #[.int .i64 x.fDay, .string x.fWhat, .int .i64 x.fValue] 38)))
      have hB := hide (hb.alloc hb.size (.cells #[.int .i64 x.fDay, .string x.fWhat, .int .i64 x.fValue] 38))
      clear ho hoE hb
      have hH := hide (has_any AO _ cO _ x.fWhat _ (by omega) (hO.out.arr strc_len))
      by_cases hw : x.fWhat ∈ nmOf (L.take k)
      · have hV := hide (nmOf_hit hx hw)
        rw [hasB_iff.2 hw] at hH
        clear hw hx
        obtain ⟨M, hM⟩ : ∃ M, M = nmOf (L.take k) := ⟨_, rfl⟩
        rw [← hM] at hV hO hH hml ⊢
        have hMh := hide hM
        clear hM
        go_wp2_with (first | (go_at_call 25; refine hH.out.mono ?_; rintro e w' ⟨rfl, rfl⟩) | fail)
        go_roundw
        case rel => exact ⟨k + 1, by omega, by go_num, by rw [hV.out]; exact hO.out, hE.out, hB.out⟩
        case measure => simp [intOf]; omega
      · have hV := hide (nmOf_miss hx hw)
        rw [hasB_false hw] at hH
        clear hw hx
        obtain ⟨M, hM⟩ : ∃ M, M = nmOf (L.take k) := ⟨_, rfl⟩
        rw [← hM] at hV hO hH hml ⊢
        have hMh := hide hM
        clear hM
        go_wp2_with (first | (go_at_call 25; refine hH.out.mono ?_; rintro e w' ⟨rfl, rfl⟩) | (at_builtin; refine wpl_app1H (wr.heap.size + 1) (by simp) rfl (.tmp 34) (.tmp 37) rfl Tryd.underlying28 info_str rfl (by omega) (by omega) strc_len strc_one rfl hO.out x.fWhat _ rfl rfl (by omega) hB.out.size ?_; intro v5 w5 ho5 hg5 _; have hB5 := hide (grown_below hB.out hO.out hg5 hB.out.size); have hE5 := hide (hE.out.kept hg5 (own_diff hE.out hO.out (by decide))); have hO5 := hide ho5; clear ho5 hg5) | fail)
        go_roundw
        case rel => exact ⟨k + 1, by omega, by go_num, by rw [hV.out, List.length_append]; exact hO5.out, hE5.out, hB5.out⟩
        case measure => simp [intOf]; omega
    · have hkn : k = n := by omega
      have hT : Hid (nmOf (L.take k) = nmOf L) := hide (by rw [List.take_of_length_le (by rw [← hnh.out]; omega)])
      have hO := hide ho
      have hB := hide hb
      clear ho hoE hb
      go_wp2
      go_ret2
      exact ⟨.slice AO (nmOf (L.take k)).length cO, by rw [hq.out]; rfl, by rw [hm.out, ← hT.out]; exact hO.out.res, hB.out⟩
theorem hasB_snoc {l : List ByteArray} {k : Nat} {y x : ByteArray} (hy : l[k]? = some y) : hasB (l.take (k + 1)) x = (hasB (l.take k) x || decide (y = x)) := by
  unfold hasB; rw [take_snoc hy, List.any_append]; simp
end Go.Proofs.YtgjhibkljpjdhaaDoor
