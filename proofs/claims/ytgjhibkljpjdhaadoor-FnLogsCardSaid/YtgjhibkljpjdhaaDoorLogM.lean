/- Contracts: the sum of a name in a log. -/
import Derived.Test.YtgjhibkljpjdhaaDoorLogK
namespace Go.Proofs.YtgjhibkljpjdhaaDoor
open Go.ChangeShapes Go.WideShapes Go.ChangeAt Go.RowKit Go.Deep
set_option maxRecDepth 100000
def pickB (what : ByteArray) (a b : Int) (x : Entry) : Bool := decide (x.fWhat = what) && inB x.fDay a b
def sumW (what : ByteArray) (a b : Int) (l : List Entry) : Int := sumOf (fun x => if pickB what a b x = true then x.fValue else 0) l
theorem sumW_hit {what : ByteArray} {a b : Int} {l : List Entry} {k : Nat} {x : Entry} (hx : l[k]? = some x) (h : pickB what a b x = true) : sumW what a b (l.take (k + 1)) = sumW what a b (l.take k) + x.fValue := by
  unfold sumW; rw [sumOf_snoc hx, if_pos h]
theorem sumW_miss {what : ByteArray} {a b : Int} {l : List Entry} {k : Nat} {x : Entry} (hx : l[k]? = some x) (h : pickB what a b x = false) : sumW what a b (l.take (k + 1)) = sumW what a b (l.take k) := by
  unfold sumW; rw [sumOf_snoc hx, h]; simp
theorem sumW_bound (what : ByteArray) (a b : Int) : ∀ l : List Entry, (∀ e ∈ l, e.ok = true) → -(1000000 * (l.length : Int)) ≤ sumW what a b l ∧ sumW what a b l ≤ 1000000 * (l.length : Int)
  | [], _ => by simp [sumW, sumOf]
  | x :: l, h => by
    obtain ⟨h1, h2⟩ := sumW_bound what a b l (fun e he => h e (List.mem_cons_of_mem _ he))
    obtain ⟨_, _, h3, h4⟩ := Entry.ok_iff.1 (h x (List.mem_cons_self ..))
    have e : sumW what a b (x :: l) = (if pickB what a b x = true then x.fValue else 0) + sumW what a b l := by unfold sumW sumOf; simp
    rw [e, List.length_cons]
    split <;> (constructor <;> (push_cast; omega))
/-- The code of a sum. -/
def sw (s what : ByteArray) (a b : Int) : Int := if lcode s = 0 ∧ (isName what = false ∨ inB a 0 100000 = false ∨ inB b 0 100000 = false) then 2 else lcode s
def mSum (s what : ByteArray) (a b : Int) : Int := if sw s what a b = 0 then sumW what a b (ents s) else 0
theorem sw_bad {s what : ByteArray} {a b : Int} (h : lcode s = 0) (h2 : isName what = false ∨ inB a 0 100000 = false ∨ inB b 0 100000 = false) : sw s what a b = 2 ∧ mSum s what a b = 0 := by
  have : sw s what a b = 2 := by unfold sw; rw [if_pos ⟨h, h2⟩]
  exact ⟨this, by unfold mSum; rw [this]; rfl⟩
theorem sw_code {s what : ByteArray} {a b : Int} (h : ¬ lcode s = 0) : sw s what a b = lcode s ∧ mSum s what a b = 0 := by
  have : sw s what a b = lcode s := by unfold sw; rw [if_neg (fun hh => h hh.1)]
  exact ⟨this, by unfold mSum; rw [this, if_neg h]⟩
theorem sw_good {s what : ByteArray} {a b : Int} (h : lcode s = 0) (h1 : isName what = true) (h2 : inB a 0 100000 = true) (h3 : inB b 0 100000 = true) : sw s what a b = 0 ∧ mSum s what a b = sumW what a b (ents s) := by
  have : sw s what a b = 0 := by unfold sw; rw [if_neg (by rw [h1, h2, h3]; simp), h]
  exact ⟨this, by unfold mSum; rw [this]; rfl⟩
theorem ents_ok {s : ByteArray} {k : Nat} {x : Entry} (h : (ents s)[k]? = some x) : x.ok = true := (log_props s).2.2.1 x (List.mem_of_getElem? h)
set_option maxHeartbeats 1000000 in
theorem iSum_any (s what : ByteArray) (a b : Int) (w : World) (hz : what.size ≤ maxLen) (hG : Gl w) :
    Calls Tryd.prog 9 #[.string s, .string what, .int .i64 a, .int .i64 b] w fun e w' => e = .returned (.tuple #[.int .i64 (mSum s what a b), .int .i64 (sw s what a b)]) ∧ Below w.heap.size w w' := by
  have hc := hide (iCode_any s w hG)
  have NAME : ∀ W : World, Hid (Calls Tryd.prog 26 #[.string what] W fun e w' => e = .returned (.bool (isName what)) ∧ W = w') := fun W => hide (iName_any what W hz)
  have hN := hide NAME
  have hGh := hide hG
  clear hG NAME
  by_cases h : lcode s = 0
  case neg =>
    have hm := hide (sw_code (what := what) (a := a) (b := b) h)
    have e1 : (lcode s != 0) = true := bne_iff_ne.2 h
    clear h
    go_enter Tryd.func9, Tryd.ntmps9
    go_wp2_with (first | (go_at_call 23; refine hc.out.mono ?_; rintro e w1 ⟨rfl, hb⟩; have hB := hide hb; clear hb) | fail)
    go_ret2
    exact ⟨by rw [hm.out.1, hm.out.2]; rfl, hB.out⟩
  have hsz := lcode_small h
  have hlen := ents_len h
  rw [h] at hc
  cases hn : isName what
  · have hm := hide (sw_bad (a := a) (b := b) h (.inl hn))
    rw [hn] at hN
    clear h hn
    go_enter Tryd.func9, Tryd.ntmps9
    go_wp2_with (first | (go_at_call 23; refine hc.out.mono ?_; rintro e w1 ⟨rfl, hb⟩; have hB := hide hb; clear hb) | (go_at_call 26; refine (hN.out _).out.mono ?_; rintro e w' ⟨rfl, rfl⟩) | fail)
    go_ret2
    exact ⟨by rw [hm.out.1, hm.out.2]; rfl, hB.out⟩
  cases ha : inB a 0 100000
  · have hm := hide (sw_bad (what := what) (b := b) h (.inr (.inl ha)))
    rw [hn] at hN
    clear h hn
    go_enter Tryd.func9, Tryd.ntmps9
    go_wp2_with (first | (go_at_call 23; refine hc.out.mono ?_; rintro e w1 ⟨rfl, hb⟩; have hB := hide hb; clear hb) | (go_at_call 26; refine (hN.out _).out.mono ?_; rintro e w' ⟨rfl, rfl⟩) | (go_at_call 27; refine (within_any _ _ _ _).mono ?_; rintro e w' ⟨rfl, rfl⟩) | fail)
    go_ret2
    exact ⟨by rw [hm.out.1, hm.out.2]; rfl, hB.out⟩
  cases hb0 : inB b 0 100000
  · have hm := hide (sw_bad (what := what) (a := a) h (.inr (.inr hb0)))
    rw [hn] at hN
    clear h hn
    go_enter Tryd.func9, Tryd.ntmps9
    go_wp2_with (first | (go_at_call 23; refine hc.out.mono ?_; rintro e w1 ⟨rfl, hb⟩; have hB := hide hb; clear hb) | (go_at_call 26; refine (hN.out _).out.mono ?_; rintro e w' ⟨rfl, rfl⟩) | (go_at_call 27; refine (within_any _ _ _ _).mono ?_; rintro e w' ⟨rfl, rfl⟩) | fail)
    go_ret2
    exact ⟨by rw [hm.out.1, hm.out.2]; rfl, hB.out⟩
  have hm := hide (sw_good h hn ha hb0)
  rw [hn] at hN
  clear h hn
  go_enter Tryd.func9, Tryd.ntmps9
  go_wp2_with (first | (go_at_call 23; refine hc.out.mono ?_; rintro e w1 ⟨rfl, hb⟩; have hB := hide hb; clear hb) | (go_at_call 26; refine (hN.out _).out.mono ?_; rintro e w' ⟨rfl, rfl⟩) | (go_at_call 27; refine (within_any _ _ _ _).mono ?_; rintro e w' ⟨rfl, rfl⟩) | fail)
  refine (iRead_log s _ hsz (hGh.out.below hB.out)).mono ?_
  rintro e w2 ⟨vE, rfl, hoE, hb⟩
  have hE := hide (hoE.less hB.out.size)
  replace hB := hide (Below.up hB.out hb)
  obtain ⟨AE, cE, rfl, _⟩ := hoE.slice
  clear hb hoE
  have hok := hide (fun k x (hx : (ents s)[k]? = some x) => ents_ok hx)
  have hbd := hide (fun k => sumW_bound what a b ((ents s).take k) (fun e he => (log_props s).2.2.1 e (List.mem_of_mem_take he)))
  unfold ents at hm hlen hok hbd
  obtain ⟨L, hL⟩ : ∃ L, L = (rdLog s).1 := ⟨_, rfl⟩
  rw [← hL] at hm hE hlen hok hbd ⊢
  obtain ⟨n, hn⟩ : ∃ n, n = L.length := ⟨_, rfl⟩
  rw [← hn] at hE hlen ⊢
  have hLh := hide hL
  have hnh := hide hn
  clear hL hn ha hb0
  go_wp2
  go_loopw [11, 43] (fun m i wr => ∃ k : Nat, k ≤ n ∧ i = .int .i64 k ∧ m = .int .i64 (sumW what a b (L.take k)) ∧ Own Entry.cells 38 3 wr w.heap.size (.slice AE n cE) n L ∧ Below w.heap.size w wr) (fun _ i _ => n - (intOf i).toNat)
  case atStart => exact ⟨0, Nat.zero_le _, rfl, rfl, hE.out, hB.out⟩
  case round =>
    clear hE hB
    obtain ⟨k, hk, rfl, rfl, hoE, hb⟩ := hrel
    by_cases hlt : k < n
    · obtain ⟨bb, o, x, rfl, hbl, hx, d0, d1, d2⟩ := (hoE.arr Entry.len).Entry hlt
      obtain ⟨_, _, v3, v4⟩ := Entry.ok_iff.1 (hok.out k x hx)
      obtain ⟨m1, m2⟩ := hbd.out k
      have hkl : ((L.take k).length : Int) ≤ 4000 := by rw [List.length_take]; omega
      have hE := hide (hoE.below ((Below.refl _ _).alloc (Nat.le_refl _) (.cells #[.int .i64 x.fDay, .string x.fWhat, .int .i64 x.fValue] 38)))
      have hB := hide (hb.alloc hb.size (.cells #[.int .i64 x.fDay, .string x.fWhat, .int .i64 x.fValue] 38))
      clear hoE hb
      obtain ⟨S, hS⟩ : ∃ S, S = sumW what a b (L.take k) := ⟨_, rfl⟩
      rw [← hS] at m1 m2 ⊢
      have hSh := hide hS
      clear hS
      have m3 : S ≤ 4000000000 := by omega
      have m4 : -4000000000 ≤ S := by omega
      clear m1 m2 hkl
      by_cases hw : x.fWhat = what
      · have e1 := str_eq hw
        cases hd : inB x.fDay a b
        · have hV := hide (sumW_miss (what := what) (a := a) (b := b) hx (by unfold pickB; rw [hd]; simp))
          clear hw hx
          go_wp2_with (go_at_call 27; refine (within_any _ _ _ _).mono ?_; rintro e w' ⟨rfl, rfl⟩)
          go_roundw
          case rel => exact ⟨k + 1, by omega, by go_num, by rw [hV.out, hSh.out], hE.out, hB.out⟩
          case measure => simp [intOf]; omega
        · have hV := hide (sumW_hit (what := what) (a := a) (b := b) hx (by unfold pickB; rw [hd, decide_eq_true hw]; rfl))
          clear hw hx
          go_wp2_with (go_at_call 27; refine (within_any _ _ _ _).mono ?_; rintro e w' ⟨rfl, rfl⟩)
          go_roundw
          case rel => exact ⟨k + 1, by omega, by go_num, by rw [hV.out, hSh.out], hE.out, hB.out⟩
          case measure => simp [intOf]; omega
      · have hV := hide (sumW_miss (what := what) (a := a) (b := b) hx (by unfold pickB; rw [decide_eq_false hw]; rfl))
        have e1 := str_ne hw
        clear hw hx
        go_wp2
        go_roundw
        case rel => exact ⟨k + 1, by omega, by go_num, by rw [hV.out, hSh.out], hE.out, hB.out⟩
        case measure => simp [intOf]; omega
    · have hkn : k = n := by omega
      have hT : Hid (sumW what a b (L.take k) = sumW what a b L) := hide (by rw [List.take_of_length_le (by rw [← hnh.out]; omega)])
      have hB := hide hb
      clear hoE hb
      go_wp2
      go_ret2
      exact ⟨by rw [hm.out.1, hm.out.2, ← hT.out]; rfl, hB.out⟩
theorem sw_lw {s what : ByteArray} {a b : Int} (h : ¬ lw s what = 0) : sw s what a b = lw s what ∧ mSum s what a b = 0 := by
  have : sw s what a b = lw s what := by
    unfold lw at h ⊢
    by_cases h1 : lcode s = 0
    · cases hn : isName what
      · rw [if_pos ⟨h1, rfl⟩]; exact (sw_bad h1 (.inl hn)).1
      · rw [hn] at h; exact absurd h1 (by simpa using h)
    · rw [if_neg (fun hh => h1 hh.1)]; exact (sw_code h1).1
  exact ⟨this, by unfold mSum; rw [this, if_neg h]⟩
end Go.Proofs.YtgjhibkljpjdhaaDoor
