/- Entry: contracts of the laws' helpers that write marks into a result and look for them again. -/
import Derived.Test.YtmdnkkoacclfcaaDoorSEntry
import Derived.Test.YtmdnkkoacclfcaaDoorMark
namespace Go.Proofs.YtmdnkkoacclfcaaDoor
open Go.ChangeShapes Go.WideShapes Go.ChangeAt Go.RowKit Go.Deep
set_option maxRecDepth 100000
def Entry.mk' (z : Int) : Entry := ⟨z, markS (z + 1), z + 1 + 1⟩
def Entry.marks (k : Int) (n : Nat) : List Entry := (List.range n).map fun (i : Nat) => Entry.mk' (k + 3 * (i : Int))
theorem Entry.marks_len (k : Int) (n : Nat) : (Entry.marks k n).length = n := by simp [Entry.marks]
theorem Entry.marks_snoc (k : Int) (n : Nat) : Entry.marks k (n + 1) = Entry.marks k n ++ [Entry.mk' (k + 3 * n)] := by simp [Entry.marks, List.range_succ]
theorem Entry.marks_get {k : Int} {n i : Nat} (h : i < n) : (Entry.marks k n)[i]? = some (Entry.mk' (k + 3 * i)) := by simp [Entry.marks, h]
theorem Entry.marks_set {l : List Entry} {k : Int} {i : Nat} (h : i < l.length) : (Entry.marks k i ++ l.drop i).set i (Entry.mk' (k + 3 * i)) = Entry.marks k (i + 1) ++ l.drop (i + 1) := by
  have hl := Entry.marks_len k i
  rw [List.set_append, if_neg (by omega), hl, Nat.sub_self, List.drop_eq_getElem_cons h, List.set_cons_zero, Entry.marks_snoc]
  simp
theorem markEntryS_any (v : Value) (n base : Nat) (l : List Entry) (k : Int) (w : World) (h0 : 0 ≤ k) (h1 : k ≤ 100000000000) (hn : n ≤ 1048576) (ho : Res Entry.cells 27 3 w base v n l) :
    Calls Tryd.prog 38 #[v, .int .i64 k] w fun e w' => e = .returned (.int .i64 (k + 3 * n)) ∧ Marked w w' v n ∧ Res Entry.cells 27 3 w' base v n (Entry.marks k n) := by
  have hl := hide ho.len
  rcases Nat.eq_zero_or_pos n with rfl | hn0
  · obtain ⟨A, c, rfl, _, hcm⟩ := ho.2.1
    go_enter Tryd.func38, Tryd.ntmps38
    go_wp2
    go_loopw [1, 5] (fun q i wr => q = .int .i64 k ∧ i = .int .i64 0 ∧ w = wr) (fun _ _ _ => 0)
    case atStart => exact ⟨rfl, rfl, rfl⟩
    case round =>
      obtain ⟨rfl, rfl, rfl⟩ := hrel
      go_wp2
      go_ret
      exact ⟨ret1 (by simp), ⟨fun _ => rfl, fun h => absurd h (by omega)⟩, Res.empty hcm⟩
  · have ho2 := ho.2.2 hn0
    clear ho
    rcases ho2.form with ⟨_, h00, _⟩ | ⟨g, cap, rfl, hgb, hgl, hnc, hcm⟩
    · omega
    have hO0 := hide ho2
    clear ho2
    have hN0 := hide hn0
    clear hn0
    go_enter Tryd.func38, Tryd.ntmps38
    go_wp2
    go_loopw [1, 5] (fun q i wr => ∃ (m : Nat) (z : Int), m ≤ n ∧ i = .int .i64 m ∧ q = .int .i64 z ∧ Hid (z = k + 3 * m) ∧ Hid (w.grownBy wr (some g)) ∧ Own Entry.cells 27 3 wr base (.slice (some ⟨g, 0, none⟩) n cap) n (Entry.marks k m ++ l.drop m)) (fun _ i _ => n - (intOf i).toNat)
    case atStart => exact ⟨0, k, Nat.zero_le _, rfl, rfl, hide (by simp), hide (World.grownBy.refl _ _), by simpa [Entry.marks] using hO0.out⟩
    case round =>
      obtain ⟨m, z, hm, rfl, rfl, hz, hG, hown⟩ := hrel
      by_cases hlt : m < n
      · have hz0 : 0 ≤ z := by have := hz.out; omega
        have hz1 : z ≤ 110000000000 := by have := hz.out; omega
        have hml : Hid (m < (Entry.marks k m ++ l.drop m).length) := hide (by simp [Entry.marks_len, hl.out]; omega)
        have hml2 : Hid (m < l.length) := hide (by rw [hl.out]; exact hlt)
        obtain ⟨x, hx, f0, f1, f2, y0, y1, y2⟩ := hown.Entry_at hlt
        have hO := hide (hown.asSet hx)
        clear hx hown
        go_wp2_with fail
        refine (markText_any _ _ (by omega)).mono ?_
        rintro e w1 ⟨rfl, hb⟩
        have hO1 := hide (Own.below (Own.cellS (m := m) (j := 0) (u := .int .i64 (z)) (hO.out) Entry.len hml.out (by omega) ⟨z, x.fWhat, x.fValue⟩ rfl) hb)
        have hG1 := hide (only_trans (only_setCell (hG.out) (p := ⟨g, m * 3 + 0, none⟩) rfl (.int .i64 (z))) (only_of_below hb _))
        clear hb f0 f1 f2 y0 y1 y2
        obtain ⟨x1, hx1, f0, f1, f2, y0, y1, y2⟩ := hO1.out.Entry_at hlt
        clear hx1
        go_wp2_with fail
        go_roundw
        case rel =>
          have hE := Own.cellS (m := m) (j := 2) (u := .int .i64 (z + 1 + 1)) (Own.cellS (m := m) (j := 1) (u := .string (markS (z + 1))) (hO1.out) Entry.len hml.out (by omega) ⟨z, markS (z + 1), x.fValue⟩ rfl) Entry.len hml.out (by omega) ⟨z, markS (z + 1), z + 1 + 1⟩ rfl
          have hGE := only_setCell (only_setCell (hG1.out) (p := ⟨g, m * 3 + 1, none⟩) rfl (.string (markS (z + 1)))) (p := ⟨g, m * 3 + 2, none⟩) rfl (.int .i64 (z + 1 + 1))
          refine ⟨m + 1, z + 1 + 1 + 1, by omega, by go_num, rfl, hide (by have := hz.out; omega), hide ?_, ?_⟩
          · simpa using hGE
          · have hmk : Entry.mk' (k + 3 * m) = ⟨z, markS (z + 1), z + 1 + 1⟩ := by rw [← hz.out]; rfl
            have hfin := Entry.marks_set (k := k) hml2.out
            rw [hmk] at hfin
            rw [hfin] at hE
            simpa using hE
        case measure => simp [intOf]; omega
      · have hmn : m = n := by omega
        subst hmn
        have hO := hide hown
        clear hown
        go_wp2
        go_ret
        have hfin := hO.out
        rw [List.drop_of_length_le (by rw [hl.out]; exact Nat.le_refl _), List.append_nil] at hfin
        exact ⟨ret1 (by rw [hz.out]), ⟨fun h => absurd hN0.out (by omega), fun _ => hG.out⟩, hfin.res⟩
theorem heldEntryS_any (A : Option Addr) (n c : Nat) (k : Int) (w : World) (h0 : 0 ≤ k) (h1 : k ≤ 100000000000) (hn : n ≤ 1048576) (hr : Arr Entry.cells 3 w w.heap.size A n (Entry.marks k n)) :
    Calls Tryd.prog 39 #[.slice A n c, .int .i64 k] w fun e w' => e = .returned (.int .i64 (k + 3 * n)) ∧ Below w.heap.size w w' := by
  go_enter Tryd.func39, Tryd.ntmps39
  go_wp2
  go_loopw [1, 5] (fun q i wr => ∃ (m : Nat) (z : Int), m ≤ n ∧ i = .int .i64 m ∧ q = .int .i64 z ∧ Hid (z = k + 3 * m) ∧ Below w.heap.size w wr) (fun _ i _ => n - (intOf i).toNat)
  case atStart => exact ⟨0, k, Nat.zero_le _, rfl, rfl, hide (by simp), Below.refl _ _⟩
  case round =>
    obtain ⟨m, z, hm, rfl, rfl, hz, hb⟩ := hrel
    by_cases hlt : m < n
    · have hz0 : 0 ≤ z := by have := hz.out; omega
      have hz1 : z ≤ 110000000000 := by have := hz.out; omega
      obtain ⟨b, o, x, rfl, hbl, hx, c0, c1, c2⟩ := hr.Entry hlt
      have hxe : Hid (⟨z, markS (z + 1), z + 1 + 1⟩ = x) := hide (by rw [Entry.marks_get hlt, ← hz.out] at hx; exact Option.some.inj hx)
      have d0 : wr.cell? ⟨b, o + m * 3, none⟩ = some (.int .i64 (z)) := ((hb.cell (p := ⟨b, o + m * 3, none⟩) hbl).trans c0).trans (by rw [← hxe.out])
      have d1 : wr.cell? ⟨b, o + m * 3 + 1, none⟩ = some (.string (markS (z + 1))) := ((hb.cell (p := ⟨b, o + m * 3 + 1, none⟩) hbl).trans c1).trans (by rw [← hxe.out])
      have d2 : wr.cell? ⟨b, o + m * 3 + 2, none⟩ = some (.int .i64 (z + 1 + 1)) := ((hb.cell (p := ⟨b, o + m * 3 + 2, none⟩) hbl).trans c2).trans (by rw [← hxe.out])
      clear c0 c1 c2 hx hr hxe
      have hlt' : (m : Int) < (n : Int) := by omega
      have hm0 : (0 : Int) ≤ (m : Int) := by omega
      have hbs : b < wr.heap.size := Nat.lt_of_lt_of_le hbl hb.size
      have hB := hide hb
      clear hb
      go_wp2_with fail
      go_region_held3 (fun w' => w'.cell? ⟨b, o + m * 3 + 1, none⟩ = some (.string (markS (z + 1)))) (first | go_keep | exact (hb.cell (p := ⟨b, o + m * 3 + 1, none⟩) hbs).trans d1) ((first | (go_at_call 70; refine (markText_any _ _ (by omega)).mono ?_; rintro e w1 ⟨rfl, hb⟩)))
      have e0 := (hb.cell (p := ⟨b, o + m * 3, none⟩) hbs).trans d0
      have e2 := (hb.cell (p := ⟨b, o + m * 3 + 2, none⟩) hbs).trans d2
      replace hbs := Nat.lt_of_lt_of_le (show b < _ from hbs) hb.size
      replace hB := hide (Below.up (Below.drew hB.out) hb)
      clear hb d0 d1 d2
      have d0 := e0
      have d2 := e2
      clear e0 e2
      have d1 : True := trivial
      go_wp2_with fail
      go_roundw
      case rel => exact ⟨m + 1, z + 1 + 1 + 1, by omega, by go_num, rfl, hide (by have := hz.out; omega), hB.out⟩
      case measure => simp [intOf]; omega
    · have hmn : m = n := by omega
      subst hmn
      have hB := hide hb
      clear hb
      go_wp2
      go_ret
      exact ⟨ret1 (by rw [hz.out]), hB.out⟩
end Go.Proofs.YtmdnkkoacclfcaaDoor
