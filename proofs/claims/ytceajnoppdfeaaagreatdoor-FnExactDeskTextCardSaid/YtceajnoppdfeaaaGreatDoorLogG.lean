/- Contracts: the code of a log; how far it can be read; what can be recovered; its entries. -/
import Derived.Test.YtceajnoppdfeaaaGreatDoorLogF
namespace Go.Proofs.YtceajnoppdfeaaaGreatDoor
open Go.ChangeShapes Go.WideShapes Go.ChangeAt Go.RowKit Go.Deep
set_option maxRecDepth 100000
theorem stepOf_some {st day : Int} {rest l : List UInt8} {e : Entry} (h : stepOf st day rest = some (e, l)) : l.length + 1 ≤ rest.length ∧ e.ok = true := by
  unfold stepOf at h
  split at h
  · cases h
  · rename_i x hx
    have h1 := lineOf_len hx
    split at h
    · cases h
    · rename_i e' he
      have h2 := entOf_ok he
      split at h
      · injection h with h; injection h with h3 h4; subst h3 h4; exact ⟨h1, h2⟩
      · cases h
theorem readK_props : ∀ (f : Nat) (rest : List UInt8) (st day : Int), 0 ≤ st → st ≤ 65518 → (readK f rest st day).2.1 ≤ rest.length ∧ (readK f rest st day).1.length ≤ (readK f rest st day).2.1 ∧ (∀ e ∈ (readK f rest st day).1, e.ok = true) ∧ 0 ≤ (readK f rest st day).2.2 ∧ (readK f rest st day).2.2 ≤ 65518
  | 0, rest, st, day, h0, h1 => ⟨Nat.zero_le _, Nat.le_refl _, by simp [readK], h0, h1⟩
  | f + 1, rest, st, day, h0, h1 => by
    cases hs : stepOf st day rest with
    | none => simp only [readK, hs]; exact ⟨Nat.zero_le _, Nat.le_refl _, by simp, h0, h1⟩
    | some x =>
      obtain ⟨e, l⟩ := x
      obtain ⟨h2, h3⟩ := stepOf_some hs
      obtain ⟨r1, r2⟩ := stampB_range st (entB e)
      obtain ⟨a1, a2, a3, a4, a5⟩ := readK_props f (rest.drop (l.length + 1)) (stampB st (entB e)) e.fDay r1 r2
      rw [List.length_drop] at a1
      simp only [readK, hs]
      refine ⟨by omega, by simp only [List.length_cons]; omega, ?_, a4, a5⟩
      intro y hy
      rcases List.mem_cons.1 hy with rfl | hy
      · exact h3
      · exact a3 y hy
def ents (s : ByteArray) : List Entry := (rdLog s).1
def upTo (s : ByteArray) : Nat := (rdLog s).2.1
def lastSt (s : ByteArray) : Int := (rdLog s).2.2
theorem log_props (s : ByteArray) : upTo s ≤ s.size ∧ (ents s).length ≤ upTo s ∧ (∀ e ∈ ents s, e.ok = true) ∧ 0 ≤ lastSt s ∧ lastSt s ≤ 65518 := by
  have h := readK_props (s.size + 1) s.data.toList 0 0 (by omega) (by omega)
  rw [size_list] at h
  exact h
theorem Entry.fits_of_ok {x : Entry} (h : x.ok = true) : x.fits := by
  have := name_size (Entry.ok_iff.1 h).2.1
  unfold Entry.fits maxLen; omega
def lcode (s : ByteArray) : Int := if 4000 < s.size then 5 else if upTo s = s.size then 0 else 8
theorem ret1' {k : IntKind} {a b : Int} (h : a = b) : Ending.returned (.int k a) = .returned (.int k b) := by rw [h]
set_option maxHeartbeats 1000000 in
theorem iCode_any (s : ByteArray) (w : World) (hG : Gl w) :
    Calls Tryz.prog 21 #[.string s] w fun e w' => e = .returned (.int .i64 (lcode s)) ∧ Below w.heap.size w w' := by
  by_cases h1 : (4000 : Int) < s.size
  · have hm : Hid (lcode s = 5) := hide (by unfold lcode; rw [if_pos (by omega)])
    go_enter Tryz.func21, Tryz.ntmps21
    go_wp2
    go_ret
    exact ⟨by rw [hm.out]; rfl, Below.refl _ _⟩
  have hc := hide (iRead_log s w (by omega) hG)
  have hp := (log_props s).1
  by_cases h2 : upTo s = s.size
  · have hm : Hid (lcode s = 0) := hide (by unfold lcode; rw [if_neg (by omega), if_pos h2])
    have hlt : ¬ ((upTo s : Nat) : Int) < s.size := by omega
    unfold upTo at hlt hp
    clear h2 hG hp
    go_enter Tryz.func21, Tryz.ntmps21
    go_wp2_with fail
    refine hc.out.mono ?_
    rintro e w1 ⟨v, rfl, _, hb⟩
    have hB := hide hb
    clear hb
    go_wp2
    go_ret
    exact ⟨by rw [hm.out]; rfl, hB.out⟩
  · have hm : Hid (lcode s = 8) := hide (by unfold lcode; rw [if_neg (by omega), if_neg h2])
    have hlt : ((upTo s : Nat) : Int) < s.size := by omega
    unfold upTo at hlt hp
    clear h2 hG hp
    go_enter Tryz.func21, Tryz.ntmps21
    go_wp2_with fail
    refine hc.out.mono ?_
    rintro e w1 ⟨v, rfl, _, hb⟩
    have hB := hide hb
    clear hb
    go_wp2
    go_ret
    exact ⟨by rw [hm.out]; rfl, hB.out⟩
def SCode (s : ByteArray) (w w' : World) (e : Ending) : Prop := ∃ g, e = .returned (.tuple #[.pointer (some ⟨g, 0, none⟩), .int .i64 (lcode s)]) ∧ w.heap.size ≤ g ∧ (lcode s = 0 → RB w' w.heap.size g s (ents s) (upTo s) (lastSt s)) ∧ Below w.heap.size w w'
set_option maxHeartbeats 1000000 in
theorem sCode_any (s : ByteArray) (w : World) : Calls Tryz.prog 27 #[.string s] w fun e w' => SCode s w w' e := by
  by_cases h1 : (4000 : Int) < s.size
  · have hm : Hid (lcode s = 5) := hide (by unfold lcode; rw [if_pos (by omega)])
    go_enter Tryz.func27, Tryz.ntmps27
    go_wp2
    go_ret2
    exact ⟨w.heap.size, by rw [hm.out]; rfl, Nat.le_refl _, (fun h => by rw [hm.out] at h; cases h), (Below.refl _ _).alloc (Nat.le_refl _) _⟩
  have hc := hide (sRead_log s w (by omega))
  by_cases h2 : upTo s = s.size
  · have hm : Hid (lcode s = 0) := hide (by unfold lcode; rw [if_neg (by omega), if_pos h2])
    have hne : (((upTo s : Nat) : Int) != (s.size : Int)) = false := by rw [h2]; simp
    clear h2
    go_enter Tryz.func27, Tryz.ntmps27
    go_wp2_with fail
    refine hc.out.mono ?_
    rintro e w1 ⟨g, rfl, hg, hr, hb⟩
    have hB := hide hb
    have hR := hide hr
    obtain ⟨v, hblk, _⟩ := hr
    have c1 : w1.cell? ⟨g, 1, none⟩ = some (.int .i64 ((upTo s : Nat) : Int)) := by rw [cell_of_row _ _ _ _ _ _ hblk]; rfl
    clear hb hblk
    go_wp2
    go_ret2
    exact ⟨g, by rw [hm.out]; rfl, hg, fun _ => hR.out, hB.out⟩
  · have hm : Hid (lcode s = 8) := hide (by unfold lcode; rw [if_neg (by omega), if_neg h2])
    have hne : (((upTo s : Nat) : Int) != (s.size : Int)) = true := by simp; omega
    clear h2
    go_enter Tryz.func27, Tryz.ntmps27
    go_wp2_with fail
    refine hc.out.mono ?_
    rintro e w1 ⟨g, rfl, hg, hr, hb⟩
    have hB := hide hb
    obtain ⟨v, hblk, _⟩ := hr
    have c1 : w1.cell? ⟨g, 1, none⟩ = some (.int .i64 ((upTo s : Nat) : Int)) := by rw [cell_of_row _ _ _ _ _ _ hblk]; rfl
    clear hb hblk
    go_wp2
    go_ret2
    exact ⟨g, by rw [hm.out]; rfl, hg, (fun h => by rw [hm.out] at h; cases h), hB.out⟩
/-! ### CheckLog, RecoverLog -/
def mCheck (s : ByteArray) : Int × Int := if 4000 < s.size then (0, 5) else ((upTo s : Int), 0)
def mRec (s : ByteArray) : ByteArray × Int × Int := if 4000 < s.size then (⟨#[]⟩, 0, 5) else (s.extract 0 (upTo s), (s.size : Int) - upTo s, 0)
theorem retSII {a a' : ByteArray} {b b' c c' : Int} (h : a = a') (h' : b = b') (h'' : c = c') : Ending.returned (.tuple #[.string a, .int .i64 b, .int .i64 c]) = .returned (.tuple #[.string a', .int .i64 b', .int .i64 c']) := by rw [h, h', h'']
end Go.Proofs.YtceajnoppdfeaaaGreatDoor
