/- Contracts: the entries of a log; the values of a name. -/
import Derived.Test.YtgjhibkljpjdhaaDoorLogG
namespace Go.Proofs.YtgjhibkljpjdhaaDoor
open Go.ChangeShapes Go.WideShapes Go.ChangeAt Go.RowKit Go.Deep
set_option maxRecDepth 100000
theorem lcode_small {s : ByteArray} (h : lcode s = 0) : s.size ≤ 4000 := by
  unfold lcode at h
  by_cases h1 : 4000 < s.size
  · rw [if_pos h1] at h; cases h
  · omega
theorem own_diff {α β : Type} {cells : α → List Value} {cells' : β → List Value} {w : World} {e e' s s' base base' n n' : Nat} {v v' : Value} {l : List α} {l' : List β} (h : Own cells e s w base v n l) (h' : Own cells' e' s' w base' v' n' l') (hne : e ≠ e') : v.ownBlock = none ∨ v.ownBlock ≠ v'.ownBlock := by
  rcases h.2.2 with ⟨rfl, _⟩ | ⟨g, cap, cur, rfl, _, hh, _⟩
  · exact .inl rfl
  · rcases h'.2.2 with ⟨rfl, _⟩ | ⟨g', cap', cur', rfl, _, hh', _⟩
    · exact .inr (by simp [Value.ownBlock])
    · refine .inr fun he => ?_
      have : g = g' := by simpa [Value.ownBlock] using he
      subst this
      rw [hh] at hh'
      injection hh' with hh'
      injection hh' with _ ht
      exact hne ht
theorem own_blk {α : Type} {cells : α → List Value} {w : World} {e t s base n g : Nat} {v : Value} {l : List α} {cs : Array Value} (h : Own cells e s w base v n l) (hb : w.heap[g]? = some (.cells cs t (0, 0))) (hne : e ≠ t) : some g ≠ v.ownBlock := by
  rcases h.2.2 with ⟨rfl, _⟩ | ⟨g', cap, cur, rfl, _, hh, _⟩
  · simp [Value.ownBlock]
  · intro he
    have : g' = g := by simpa [Value.ownBlock] using he.symm
    subst this
    rw [hh] at hb
    injection hb with hb
    injection hb with _ ht
    exact hne ht
def mEnts (s : ByteArray) : List Entry := if lcode s = 0 then ents s else []
theorem mEnts_len (s : ByteArray) : (mEnts s).length ≤ 1048576 := by
  unfold mEnts
  by_cases h : lcode s = 0
  · rw [if_pos h]
    have h1 := log_props s
    have h2 := lcode_small h
    omega
  · rw [if_neg h]; exact Nat.zero_le _
set_option maxHeartbeats 1000000 in
theorem iEnts_any (s : ByteArray) (w : World) (hG : Gl w) :
    Calls Tryd.prog 13 #[.string s] w fun e w' => ∃ v, e = .returned (.tuple #[v, .int .i64 (lcode s)]) ∧ Res Entry.cells 38 3 w' w.heap.size v (mEnts s).length (mEnts s) ∧ Below w.heap.size w w' := by
  have hc := hide (iCode_any s w hG)
  have hGh := hide hG
  clear hG
  by_cases h : lcode s = 0
  · have hm : Hid (mEnts s = ents s) := hide (by unfold mEnts; rw [if_pos h])
    have hsz := lcode_small h
    rw [h] at hc
    have hl := hide h
    clear h
    go_enter Tryd.func13, Tryd.ntmps13
    go_wp2_with fail
    refine hc.out.mono ?_
    rintro e w1 ⟨rfl, hb⟩
    have hB := hide hb
    clear hb
    go_wp2_with fail
    refine (iRead_log s w1 hsz (hGh.out.below hB.out)).mono ?_
    rintro e w2 ⟨v, rfl, ho, hb⟩
    have hO := hide (ho.res.less hB.out.size)
    have hB2 := hide (Below.up hB.out hb)
    clear hb ho
    go_wp2
    go_ret2
    exact ⟨v, by rw [hl.out]; rfl, by rw [hm.out]; exact hO.out, hB2.out⟩
  · have hm : Hid (mEnts s = []) := hide (by unfold mEnts; rw [if_neg h])
    have e1 : (lcode s != 0) = true := bne_iff_ne.2 h
    clear h
    go_enter Tryd.func13, Tryd.ntmps13
    go_wp2_with fail
    refine hc.out.mono ?_
    rintro e w1 ⟨rfl, hb⟩
    have hB := hide hb
    clear hb
    go_wp2
    go_ret2
    exact ⟨_, rfl, by rw [hm.out]; exact Res.empty (Nat.zero_le _), hB.out⟩
set_option maxHeartbeats 1000000 in
theorem sEnts_any (s : ByteArray) (w : World) :
    Calls Tryd.prog 18 #[.string s] w fun e w' => ∃ v, e = .returned (.tuple #[v, .int .i64 (lcode s)]) ∧ Res Entry.cells 38 3 w' w.heap.size v (mEnts s).length (mEnts s) ∧ Below w.heap.size w w' := by
  have hc := hide (sCode_any s w)
  by_cases h : lcode s = 0
  · have hm : Hid (mEnts s = ents s) := hide (by unfold mEnts; rw [if_pos h])
    have e1 : (lcode s != 0) = false := by rw [h]; rfl
    have hl := hide h
    clear h
    go_enter Tryd.func18, Tryd.ntmps18
    go_wp2_with fail
    refine hc.out.mono ?_
    rintro e w1 ⟨g, rfl, hg, hr, hb⟩
    have hB := hide hb
    obtain ⟨v, hblk, ho⟩ := hr hl.out
    have hO := hide ho.res
    obtain ⟨Av, cv, rfl, _⟩ := ho.slice
    have c3 : w1.cell? ⟨g, 3, none⟩ = some (.slice Av (ents s).length cv) := by rw [cell_of_row _ _ _ _ _ _ hblk]; rfl
    clear hb hblk hr ho
    go_wp2
    go_ret2
    exact ⟨_, by rw [hl.out]; rfl, by rw [hm.out]; exact hO.out, hB.out⟩
  · have hm : Hid (mEnts s = []) := hide (by unfold mEnts; rw [if_neg h])
    have e1 : (lcode s != 0) = true := bne_iff_ne.2 h
    clear h
    go_enter Tryd.func18, Tryd.ntmps18
    go_wp2_with fail
    refine hc.out.mono ?_
    rintro e w1 ⟨g, rfl, hg, hr, hb⟩
    have hB := hide hb
    clear hb hr
    go_wp2
    go_ret2
    exact ⟨_, rfl, by rw [hm.out]; exact Res.empty (Nat.zero_le _), hB.out⟩
/-! ### a name besides -/
def lw (s what : ByteArray) : Int := if lcode s = 0 ∧ isName what = false then 2 else lcode s
theorem lw_zero {s what : ByteArray} (h : lw s what = 0) : lcode s = 0 ∧ isName what = true := by
  unfold lw at h
  by_cases h1 : lcode s = 0 ∧ isName what = false
  · rw [if_pos h1] at h; cases h
  · rw [if_neg h1] at h
    refine ⟨h, ?_⟩
    cases hn : isName what
    · exact absurd ⟨h, hn⟩ h1
    · rfl
def SWhat (s what : ByteArray) (w w' : World) (e : Ending) : Prop := ∃ g, e = .returned (.tuple #[.pointer (some ⟨g, 0, none⟩), .int .i64 (lw s what)]) ∧ w.heap.size ≤ g ∧ (lw s what = 0 → RB w' w.heap.size g s (ents s) (upTo s) (lastSt s)) ∧ Below w.heap.size w w'
end Go.Proofs.YtgjhibkljpjdhaaDoor
