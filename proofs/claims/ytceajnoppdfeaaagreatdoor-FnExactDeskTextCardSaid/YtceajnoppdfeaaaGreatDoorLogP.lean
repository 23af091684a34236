/- A log read, in plain words: no program in sight. No statement is proved here. -/
import Derived.Test.YtceajnoppdfeaaaGreatDoorEntB
namespace Go.Proofs.YtceajnoppdfeaaaGreatDoor
open Go.ChangeShapes Go.WideShapes Go.ChangeAt Go.RowKit Go.Deep
/-- The words of a line as an entry. -/
def wdEnt (a b c : List UInt8) : Entry := ⟨rdNum a, ⟨b.toArray⟩, rdNum c⟩
def entOf (l : List UInt8) : Option Entry := match spl 32 [] l with
  | [a, b, c, _] => if rdOk a = true ∧ rdOk c = true ∧ (wdEnt a b c).ok = true then some (wdEnt a b c) else none
  | _ => none
/-- The first line of a text, if it has one. -/
def lineOf (l : List UInt8) : Option (List UInt8) := if 10 ∈ l then some (l.takeWhile (· ≠ 10)) else none
def okLine (st day : Int) (l : List UInt8) (e : Entry) : Bool := decide (day ≤ e.fDay) && decide (lineB (stampB st (entB e)) e = ⟨(l ++ [10]).toArray⟩)
def stepOf (st day : Int) (rest : List UInt8) : Option (Entry × List UInt8) := match lineOf rest with
  | none => none
  | some l => match entOf l with
    | none => none
    | some e => if okLine st day l e = true then some (e, l) else none
def readK : Nat → List UInt8 → Int → Int → List Entry × Nat × Int
  | 0, _, st, _ => ([], 0, st)
  | f + 1, rest, st, day => match stepOf st day rest with
    | none => ([], 0, st)
    | some (e, l) =>
      let r := readK f (rest.drop (l.length + 1)) (stampB st (entB e)) e.fDay
      (e :: r.1, l.length + 1 + r.2.1, r.2.2)
def rdLog (s : ByteArray) : List Entry × Nat × Int := readK (s.size + 1) s.data.toList 0 0
/-- How far a log has been read. -/
def LogInv (s : ByteArray) (done : List Entry) (at_ : Nat) (st day : Int) : Prop :=
  at_ ≤ s.size ∧ ∃ f, s.size - at_ < f ∧ rdLog s = (done ++ (readK f (s.data.toList.drop at_) st day).1, at_ + (readK f (s.data.toList.drop at_) st day).2.1, (readK f (s.data.toList.drop at_) st day).2.2)
theorem log_start (s : ByteArray) : LogInv s [] 0 0 0 := ⟨Nat.zero_le _, s.size + 1, by omega, by simp [rdLog]⟩
theorem lineOf_len {l x : List UInt8} (h : lineOf l = some x) : x.length + 1 ≤ l.length := by
  unfold lineOf at h
  split at h
  · rename_i hm
    injection h with h
    subst h
    induction l with
    | nil => cases hm
    | cons c r ih =>
      rw [List.takeWhile_cons]
      by_cases hc : c = 10
      · subst hc; simp
      · have : decide (c ≠ 10) = true := decide_eq_true hc
        rw [if_pos this]
        have hr : 10 ∈ r := by
          rcases List.mem_cons.1 hm with e | e
          · exact absurd e.symm hc
          · exact e
        have := ih hr
        simp only [List.length_cons]; omega
  · cases h
theorem log_step {s : ByteArray} {done : List Entry} {at_ : Nat} {st day : Int} {e : Entry} {l : List UInt8} (h : LogInv s done at_ st day) (hs : stepOf st day (s.data.toList.drop at_) = some (e, l)) :
    LogInv s (done ++ [e]) (at_ + (l.length + 1)) (stampB st (entB e)) e.fDay := by
  obtain ⟨h1, f, h2, h3⟩ := h
  have hl : l.length + 1 ≤ s.size - at_ := by
    unfold stepOf at hs
    split at hs
    · cases hs
    · rename_i x hx
      have := lineOf_len hx
      rw [List.length_drop, size_list] at this
      split at hs
      · cases hs
      · split at hs
        · injection hs with hs; injection hs with _ hs; subst hs; exact this
        · cases hs
  obtain ⟨g, rfl⟩ : ∃ g, f = g + 1 := ⟨f - 1, by omega⟩
  refine ⟨by omega, g, by omega, ?_⟩
  rw [h3]
  simp only [readK, hs]
  rw [List.drop_drop]
  simp [Nat.add_assoc]
theorem log_end {s : ByteArray} {done : List Entry} {at_ : Nat} {st day : Int} (h : LogInv s done at_ st day) (hs : stepOf st day (s.data.toList.drop at_) = none) : rdLog s = (done, at_, st) := by
  obtain ⟨h1, f, h2, h3⟩ := h
  obtain ⟨g, rfl⟩ : ∃ g, f = g + 1 := ⟨f - 1, by omega⟩
  rw [h3]
  simp only [readK, hs]
  simp
theorem step_noline {st day : Int} {rest : List UInt8} (h : lineOf rest = none) : stepOf st day rest = none := by unfold stepOf; rw [h]
theorem step_noent {st day : Int} {rest l : List UInt8} (h : lineOf rest = some l) (he : entOf l = none) : stepOf st day rest = none := by unfold stepOf; rw [h]; simp only [he]
theorem step_bad {st day : Int} {rest l : List UInt8} {e : Entry} (h : lineOf rest = some l) (he : entOf l = some e) (hk : okLine st day l e = false) : stepOf st day rest = none := by unfold stepOf; rw [h]; simp only [he, hk]; rfl
theorem step_good {st day : Int} {rest l : List UInt8} {e : Entry} (h : lineOf rest = some l) (he : entOf l = some e) (hk : okLine st day l e = true) : stepOf st day rest = some (e, l) := by unfold stepOf; rw [h]; simp only [he, hk]; rfl
theorem entOf_ok {l : List UInt8} {e : Entry} (h : entOf l = some e) : e.ok = true := by
  unfold entOf at h
  split at h
  · split at h
    · rename_i hk; injection h with h; subst h; exact hk.2.2
    · cases h
  · cases h
end Go.Proofs.YtceajnoppdfeaaaGreatDoor
