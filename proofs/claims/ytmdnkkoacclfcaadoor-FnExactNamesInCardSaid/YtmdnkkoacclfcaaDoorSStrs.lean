/- Contracts of the laws' helpers on slices of texts: copying and comparing. -/
import Derived.Test.YtmdnkkoacclfcaaDoorKit
namespace Go.Proofs.YtmdnkkoacclfcaaDoor
open Go.ChangeShapes Go.WideShapes Go.ChangeAt Go.RowKit Go.Deep
theorem Own.str_at {e : TypeId} {w : World} {base g n c : Nat} {l : List ByteArray} (h : Own strc e 1 w base (.slice (some ⟨g, 0, none⟩) n c) n l) {k : Nat} (hk : k < n) :
    ∃ x, l[k]? = some x ∧ w.cell? ⟨g, k, none⟩ = some (.string x) ∧ w.frozen? ⟨g, k, none⟩ = false := by
  obtain ⟨b, o, x, hA, _, hx, c0⟩ := (h.arr strc_len).str hk
  injection hA with hA; injection hA with h1 h2; subst h1 h2
  simp only [Nat.zero_add] at c0
  exact ⟨x, hx, c0, h.2.frozenAt _⟩
theorem Own.str_store {e : TypeId} {w : World} {base g n c : Nat} {l : List ByteArray} (h : Own strc e 1 w base (.slice (some ⟨g, 0, none⟩) n c) n l) {k : Nat} (hk : k < n) (y : ByteArray) :
    Own strc e 1 (w.setCell ⟨g, k, none⟩ (.string y)) base (.slice (some ⟨g, 0, none⟩) n c) n (l.set k y) := by
  have hkl : k < l.length := by rw [h.len]; exact hk
  have := h.cell (x := l[k]) (x' := y) (k := k) (j := 0) (u := .string y) strc_len (List.getElem?_eq_getElem hkl) (by omega) rfl
  simpa using this
theorem eqStrs_any (A A' : Option Addr) (n c n' c' : Nat) (l l' : List ByteArray) (w : World) (hn : n ≤ 1048576) (hr : Arr strc 1 w w.heap.size A n l) (hr' : Arr strc 1 w w.heap.size A' n' l') :
    Calls Tryd.prog 42 #[.slice A n c, .slice A' n' c'] w fun e w' => e = .returned (.bool (decide (l = l'))) ∧ Below w.heap.size w w' := by
  have hl := hide hr.len
  have hl' := hide hr'.len
  by_cases hne : n = n'
  · subst hne
    have hpost : Hid (l = l' ↔ l.take n = l'.take n) := by
      have h1 := hl.out; have h2 := hl'.out
      show _ ↔ _
      rw [List.take_of_length_le (by omega), List.take_of_length_le (by omega)]
    go_enter Tryd.func42, Tryd.ntmps42
    go_wp2
    go_loopw [5] (fun i wr => ∃ k : Nat, k ≤ n ∧ i = .int .i64 k ∧ Below w.heap.size w wr ∧ Hid (l.take k = l'.take k)) (fun i _ => n - (intOf i).toNat)
    case atStart => exact ⟨0, Nat.zero_le _, rfl, Below.refl _ _, hide (by simp)⟩
    case round =>
      obtain ⟨k, hk, rfl, hb, hpre⟩ := hrel
      by_cases hlt : k < n
      · obtain ⟨b, o, x, rfl, hbl, hx, c0⟩ := hr.str hlt
        obtain ⟨b', o', y, rfl, hbl', hy, f0⟩ := hr'.str hlt
        have d0 : wr.cell? ⟨b, o + k, none⟩ = some (.string x) := (hb.cell (p := ⟨b, o + k, none⟩) hbl).trans c0
        have g0 : wr.cell? ⟨b', o' + k, none⟩ = some (.string y) := (hb.cell (p := ⟨b', o' + k, none⟩) hbl').trans f0
        have hX := hide hx
        have hY := hide hy
        have hB := hide hb
        clear c0 f0 hr hr' hx hy hb
        have hlt' : (k : Int) < (n : Int) := by omega
        have hk0 : (0 : Int) ≤ (k : Int) := by omega
        by_cases hxy : x = y
        · subst hxy
          go_wp2
          go_quiet (fail)
          go_wp2
          go_roundw
          case rel => exact ⟨k + 1, by omega, by go_num, below_drewN hB.out _, hide (by rw [take_snoc hX.out, take_snoc hY.out, hpre.out])⟩
          case measure => simp [intOf]; omega
        · have e1 := str_ne hxy
          have hd : Hid (decide (l = l') = false) := decide_eq_false fun he => by
            subst he
            rw [hX.out] at hY
            exact hxy (Option.some.inj hY.out)
          clear hxy
          go_wp2
          go_quiet (fail)
          go_wp2
          go_ret
          exact ⟨retB hd.out.symm, below_drewN hB.out _⟩
      · have hkn : k = n := by omega
        subst hkn
        have hB := hide hb
        clear hb
        go_wp2
        go_ret
        exact ⟨retB (Eq.symm (decide_eq_true (hpost.out.2 hpre.out))), hB.out⟩
  · have e1 : ((n : Int) != (n' : Int)) = true := by simp; omega
    have hd : Hid (decide (l = l') = false) := decide_eq_false fun he => hne (by rw [← hl.out, ← hl'.out, he])
    clear hne
    go_enter Tryd.func42, Tryd.ntmps42
    go_wp2
    go_ret
    exact ⟨retB hd.out.symm, Below.refl _ _⟩
end Go.Proofs.YtmdnkkoacclfcaaDoor
