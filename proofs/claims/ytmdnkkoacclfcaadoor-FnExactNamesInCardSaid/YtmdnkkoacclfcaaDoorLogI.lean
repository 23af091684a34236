/- Contracts: the entries of a log; the values of a name. -/
import Derived.Test.YtmdnkkoacclfcaaDoorLogG
namespace Go.Proofs.YtmdnkkoacclfcaaDoor
open Go.ChangeShapes Go.WideShapes Go.ChangeAt Go.RowKit Go.Deep
set_option maxRecDepth 100000
theorem lcode_small {s : ByteArray} (h : lcode s = 0) : s.size ≤ 4000 := by
  unfold lcode at h
  by_cases h1 : 4000 < s.size
  · rw [if_pos h1] at h; cases h
  · omega
theorem own_diff {α β : Type} {cells : α → List Value} {cells' : β → List Value} {w : World} {e e' s s' base base' n n' : Nat} {v v' : Value} {l : List α} {l' : List β} (h : Own cells e s w base v n l) (h' : Own cells' e' s' w base' v' n' l') (hne : e ≠ e') : v.ownBlock = none ∨ v.ownBlock ≠ v'.ownBlock := by
  rcases h.2.2 with ⟨rfl, _⟩ | ⟨g, cap, cur, rfl, _, hh, _⟩
  · exact .inl rfl
  · rcases h'.2.2 with ⟨rfl, _⟩ | ⟨g', cap', cur', rfl, _, hh', _⟩
    · exact .inr (by simp [Value.ownBlock])
    · refine .inr fun he => ?_
      have : g = g' := by simpa [Value.ownBlock] using he
      subst this
      rw [hh] at hh'
      injection hh' with hh'
      injection hh' with _ ht
      exact hne ht
theorem own_blk {α : Type} {cells : α → List Value} {w : World} {e t s base n g : Nat} {v : Value} {l : List α} {cs : Array Value} (h : Own cells e s w base v n l) (hb : w.heap[g]? = some (.cells cs t (0, 0))) (hne : e ≠ t) : some g ≠ v.ownBlock := by
  rcases h.2.2 with ⟨rfl, _⟩ | ⟨g', cap, cur, rfl, _, hh, _⟩
  · simp [Value.ownBlock]
  · intro he
    have : g' = g := by simpa [Value.ownBlock] using he.symm
    subst this
    rw [hh] at hb
    injection hb with hb
    injection hb with _ ht
    exact hne ht
def mEnts (s : ByteArray) : List Entry := if lcode s = 0 then ents s else []
theorem mEnts_len (s : ByteArray) : (mEnts s).length ≤ 1048576 := by
  unfold mEnts
  by_cases h : lcode s = 0
  · rw [if_pos h]
    have h1 := log_props s
    have h2 := lcode_small h
    omega
  · rw [if_neg h]; exact Nat.zero_le _
set_option maxHeartbeats 1000000 in
theorem iEnts_any (s : ByteArray) (w : World) (hG : Gl w) :
    Calls Tryd.prog 37 #[.string s] w fun e w' => ∃ v, e = .returned (.tuple #[v, .int .i64 (lcode s)]) ∧ Res Entry.cells 27 3 w' w.heap.size v (mEnts s).length (mEnts s) ∧ Below w.heap.size w w' := by
  have hc := hide (iCode_any s w hG)
  have hGh := hide hG
  clear hG
  by_cases h : lcode s = 0
  · have hm : Hid (mEnts s = ents s) := hide (by unfold mEnts; rw [if_pos h])
    have hsz := lcode_small h
    rw [h] at hc
    have hl := hide h
    clear h
    go_enter Tryd.func37, Tryd.ntmps37
    go_wp2_with fail
    refine hc.out.mono ?_
    rintro e w1 ⟨rfl, hb⟩
    have hB := hide hb
    clear hb
    go_wp2_with fail
    refine (iRead_log s w1 hsz (hGh.out.below hB.out)).mono ?_
    rintro e w2 ⟨v, rfl, ho, hb⟩
    have hO := hide (ho.res.less hB.out.size)
    have hB2 := hide (Below.up hB.out hb)
    clear hb ho
    go_wp2
    go_ret2
    exact ⟨v, by rw [hl.out]; rfl, by rw [hm.out]; exact hO.out, hB2.out⟩
  · have hm : Hid (mEnts s = []) := hide (by unfold mEnts; rw [if_neg h])
    have e1 : (lcode s != 0) = true := bne_iff_ne.2 h
    clear h
    go_enter Tryd.func37, Tryd.ntmps37
    go_wp2_with fail
    refine hc.out.mono ?_
    rintro e w1 ⟨rfl, hb⟩
    have hB := hide hb
    clear hb
    go_wp2
    go_ret2
    exact ⟨_, rfl, by rw [hm.out]; exact Res.empty (Nat.zero_le _), hB.out⟩
set_option maxHeartbeats 1000000 in
theorem sEnts_any (s : ByteArray) (w : World) :
    Calls Tryd.prog 36 #[.string s] w fun e w' => ∃ v, e = .returned (.tuple #[v, .int .i64 (lcode s)]) ∧ Res Entry.cells 27 3 w' w.heap.size v (mEnts s).length (mEnts s) ∧ Below w.heap.size w w' := by
  have hc := hide (sCode_any s w)
  by_cases h : lcode s = 0
  · have hm : Hid (mEnts s = ents s) := hide (by unfold mEnts; rw [if_pos h])
    have e1 : (lcode s != 0) = false := by rw [h]; rfl
    have hl := hide h
    clear h
    go_enter Tryd.func36, Tryd.ntmps36
    go_wp2_with fail
    refine hc.out.mono ?_
    rintro e w1 ⟨g, rfl, hg, hr, hb⟩
    have hB := hide hb
    obtain ⟨v, hblk, ho⟩ := hr hl.out
    have hO := hide ho.res
    obtain ⟨Av, cv, rfl, _⟩ := ho.slice
    have c3 : w1.cell? ⟨g, 3, none⟩ = some (.slice Av (ents s).length cv) := by rw [cell_of_row _ _ _ _ _ _ hblk]; rfl
    clear hb hblk hr ho
    go_wp2
    go_ret2
    exact ⟨_, by rw [hl.out]; rfl, by rw [hm.out]; exact hO.out, hB.out⟩
  · have hm : Hid (mEnts s = []) := hide (by unfold mEnts; rw [if_neg h])
    have e1 : (lcode s != 0) = true := bne_iff_ne.2 h
    clear h
    go_enter Tryd.func36, Tryd.ntmps36
    go_wp2_with fail
    refine hc.out.mono ?_
    rintro e w1 ⟨g, rfl, hg, hr, hb⟩
    have hB := hide hb
    clear hb hr
    go_wp2
    go_ret2
    exact ⟨_, rfl, by rw [hm.out]; exact Res.empty (Nat.zero_le _), hB.out⟩
/-! ### a name besides -/
def lw (s what : ByteArray) : Int := if lcode s = 0 ∧ isName what = false then 2 else lcode s
theorem lw_zero {s what : ByteArray} (h : lw s what = 0) : lcode s = 0 ∧ isName what = true := by
  unfold lw at h
  by_cases h1 : lcode s = 0 ∧ isName what = false
  · rw [if_pos h1] at h; cases h
  · rw [if_neg h1] at h
    refine ⟨h, ?_⟩
    cases hn : isName what
    · exact absurd ⟨h, hn⟩ h1
    · rfl
def SWhat (s what : ByteArray) (w w' : World) (e : Ending) : Prop := ∃ g, e = .returned (.tuple #[.pointer (some ⟨g, 0, none⟩), .int .i64 (lw s what)]) ∧ w.heap.size ≤ g ∧ (lw s what = 0 → RB w' w.heap.size g s (ents s) (upTo s) (lastSt s)) ∧ Below w.heap.size w w'
set_option maxHeartbeats 1000000 in
theorem sWhat_any (s what : ByteArray) (w : World) (hz : what.size ≤ maxLen) : Calls Tryd.prog 63 #[.string s, .string what] w fun e w' => SWhat s what w w' e := by
  have hc := hide (sCode_any s w)
  have NAME : ∀ W : World, Hid (Calls Tryd.prog 74 #[.string what] W fun e w' => e = .returned (.bool (isName what)) ∧ W = w') := fun W => hide (sName_any what W hz)
  have hN := hide NAME
  clear NAME
  by_cases h : lcode s = 0
  · have e1 : (lcode s == 0) = true := by rw [h]; rfl
    cases hn : isName what
    · have hm : Hid (lw s what = 2) := hide (by unfold lw; rw [if_pos ⟨h, hn⟩])
      rw [hn] at hN
      clear h hn
      go_enter Tryd.func63, Tryd.ntmps63
      go_wp2_with (first | (go_at_call 67; refine hc.out.mono ?_; rintro e w1 ⟨g, rfl, hg, hr, hb⟩; have hB := hide hb; clear hb hr) | (go_at_call 74; refine (hN.out _).out.mono ?_; rintro e w' ⟨rfl, rfl⟩))
      go_ret2
      exact ⟨g, by rw [hm.out]; rfl, hg, (fun h => by rw [hm.out] at h; cases h), hB.out⟩
    · have hm : Hid (lw s what = 0) := hide (by unfold lw; rw [if_neg (by rw [hn]; simp), h])
      rw [hn] at hN
      rw [h] at e1
      have hl := hide h
      clear hn
      go_enter Tryd.func63, Tryd.ntmps63
      go_wp2_with (first | (go_at_call 67; refine hc.out.mono ?_; rintro e w1 ⟨g, rfl, hg, hr, hb⟩; have hB := hide hb; have hRh := hide hr; clear hb hr) | (go_at_call 74; refine (hN.out _).out.mono ?_; rintro e w' ⟨rfl, rfl⟩))
      go_ret2
      exact ⟨g, by rw [hm.out]; rfl, hg, (fun _ => hRh.out hl.out), hB.out⟩
  · have e1 : (lcode s == 0) = false := beq_eq_false_iff_ne.2 h
    have hm : Hid (lw s what = lcode s) := hide (by unfold lw; rw [if_neg (fun hh => h hh.1)])
    have hl := hide h
    clear h
    go_enter Tryd.func63, Tryd.ntmps63
    go_wp2_with (first | (go_at_call 67; refine hc.out.mono ?_; rintro e w1 ⟨g, rfl, hg, hr, hb⟩; have hB := hide hb; clear hb hr) | (go_at_call 74; refine (hN.out _).out.mono ?_; rintro e w' ⟨rfl, rfl⟩))
    go_ret2
    exact ⟨g, by rw [hm.out]; rfl, hg, (fun h => absurd (hm.out.symm.trans h) hl.out), hB.out⟩
end Go.Proofs.YtmdnkkoacclfcaaDoor
