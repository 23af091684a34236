/- Contracts: the entries of a log; the values of a name. -/
import Derived.Test.YtceajnoppdfeaaaGreatDoorLogG
namespace Go.Proofs.YtceajnoppdfeaaaGreatDoor
open Go.ChangeShapes Go.WideShapes Go.ChangeAt Go.RowKit Go.Deep
set_option maxRecDepth 100000
theorem lcode_small {s : ByteArray} (h : lcode s = 0) : s.size ≤ 4000 := by
  unfold lcode at h
  by_cases h1 : 4000 < s.size
  · rw [if_pos h1] at h; cases h
  · omega
theorem own_diff {α β : Type} {cells : α → List Value} {cells' : β → List Value} {w : World} {e e' s s' base base' n n' : Nat} {v v' : Value} {l : List α} {l' : List β} (h : Own cells e s w base v n l) (h' : Own cells' e' s' w base' v' n' l') (hne : e ≠ e') : v.ownBlock = none ∨ v.ownBlock ≠ v'.ownBlock := by
  rcases h.2.2 with ⟨rfl, _⟩ | ⟨g, cap, cur, rfl, _, hh, _⟩
  · exact .inl rfl
  · rcases h'.2.2 with ⟨rfl, _⟩ | ⟨g', cap', cur', rfl, _, hh', _⟩
    · exact .inr (by simp [Value.ownBlock])
    · refine .inr fun he => ?_
      have : g = g' := by simpa [Value.ownBlock] using he
      subst this
      rw [hh] at hh'
      injection hh' with hh'
      injection hh' with _ ht
      exact hne ht
theorem own_blk {α : Type} {cells : α → List Value} {w : World} {e t s base n g : Nat} {v : Value} {l : List α} {cs : Array Value} (h : Own cells e s w base v n l) (hb : w.heap[g]? = some (.cells cs t (0, 0))) (hne : e ≠ t) : some g ≠ v.ownBlock := by
  rcases h.2.2 with ⟨rfl, _⟩ | ⟨g', cap, cur, rfl, _, hh, _⟩
  · simp [Value.ownBlock]
  · intro he
    have : g' = g := by simpa [Value.ownBlock] using he.symm
    subst this
    rw [hh] at hb
    injection hb with hb
    injection hb with _ ht
    exact hne ht
def mEnts (s : ByteArray) : List Entry := if lcode s = 0 then ents s else []
theorem mEnts_len (s : ByteArray) : (mEnts s).length ≤ 1048576 := by
  unfold mEnts
  by_cases h : lcode s = 0
  · rw [if_pos h]
    have h1 := log_props s
    have h2 := lcode_small h
    omega
  · rw [if_neg h]; exact Nat.zero_le _
/-! ### a name besides -/
def lw (s what : ByteArray) : Int := if lcode s = 0 ∧ isName what = false then 2 else lcode s
theorem lw_zero {s what : ByteArray} (h : lw s what = 0) : lcode s = 0 ∧ isName what = true := by
  unfold lw at h
  by_cases h1 : lcode s = 0 ∧ isName what = false
  · rw [if_pos h1] at h; cases h
  · rw [if_neg h1] at h
    refine ⟨h, ?_⟩
    cases hn : isName what
    · exact absurd ⟨h, hn⟩ h1
    · rfl
def SWhat (s what : ByteArray) (w w' : World) (e : Ending) : Prop := ∃ g, e = .returned (.tuple #[.pointer (some ⟨g, 0, none⟩), .int .i64 (lw s what)]) ∧ w.heap.size ≤ g ∧ (lw s what = 0 → RB w' w.heap.size g s (ents s) (upTo s) (lastSt s)) ∧ Below w.heap.size w w'
end Go.Proofs.YtceajnoppdfeaaaGreatDoor
