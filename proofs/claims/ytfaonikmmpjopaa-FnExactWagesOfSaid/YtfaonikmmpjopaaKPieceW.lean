/- PieceW: contracts of the laws' helpers that write marks into a result and look for them again. -/
import Derived.Test.YtfaonikmmpjopaaSPieceW
import Derived.Test.YtfaonikmmpjopaaMark
namespace Go.Proofs.Ytfaonikmmpjopaa
open Go.ChangeShapes Go.WideShapes Go.ChangeAt Go.RowKit Go.Deep
set_option maxRecDepth 100000
def PieceW.mk' (z : Int) : PieceW := ⟨markS (z), markS (z + 1), z + 1 + 1, z + 1 + 1 + 1⟩
def PieceW.marks (k : Int) (n : Nat) : List PieceW := (List.range n).map fun (i : Nat) => PieceW.mk' (k + 4 * (i : Int))
theorem PieceW.marks_len (k : Int) (n : Nat) : (PieceW.marks k n).length = n := by simp [PieceW.marks]
theorem PieceW.marks_snoc (k : Int) (n : Nat) : PieceW.marks k (n + 1) = PieceW.marks k n ++ [PieceW.mk' (k + 4 * n)] := by simp [PieceW.marks, List.range_succ]
theorem PieceW.marks_get {k : Int} {n i : Nat} (h : i < n) : (PieceW.marks k n)[i]? = some (PieceW.mk' (k + 4 * i)) := by simp [PieceW.marks, h]
theorem PieceW.marks_set {l : List PieceW} {k : Int} {i : Nat} (h : i < l.length) : (PieceW.marks k i ++ l.drop i).set i (PieceW.mk' (k + 4 * i)) = PieceW.marks k (i + 1) ++ l.drop (i + 1) := by
  have hl := PieceW.marks_len k i
  rw [List.set_append, if_neg (by omega), hl, Nat.sub_self, List.drop_eq_getElem_cons h, List.set_cons_zero, PieceW.marks_snoc]
  simp
theorem markPieceWS_any (v : Value) (n base : Nat) (l : List PieceW) (k : Int) (w : World) (h0 : 0 ≤ k) (h1 : k ≤ 100000000000) (hn : n ≤ 1048576) (ho : Res PieceW.cells 65 4 w base v n l) :
    Calls Try.prog 37 #[v, .int .i64 k] w fun e w' => e = .returned (.int .i64 (k + 4 * n)) ∧ Marked w w' v n ∧ Res PieceW.cells 65 4 w' base v n (PieceW.marks k n) := by
  have hl := hide ho.len
  rcases Nat.eq_zero_or_pos n with rfl | hn0
  · obtain ⟨A, c, rfl, _, hcm⟩ := ho.2.1
    go_enter Try.func37, Try.ntmps37
    go_wp2
    go_loopw [1, 5] (fun q i wr => q = .int .i64 k ∧ i = .int .i64 0 ∧ w = wr) (fun _ _ _ => 0)
    case atStart => exact ⟨rfl, rfl, rfl⟩
    case round =>
      obtain ⟨rfl, rfl, rfl⟩ := hrel
      go_wp2
      go_ret
      exact ⟨ret1 (by simp), ⟨fun _ => rfl, fun h => absurd h (by omega)⟩, Res.empty hcm⟩
  · have ho2 := ho.2.2 hn0
    clear ho
    rcases ho2.form with ⟨_, h00, _⟩ | ⟨g, cap, rfl, hgb, hgl, hnc, hcm⟩
    · omega
    have hO0 := hide ho2
    clear ho2
    have hN0 := hide hn0
    clear hn0
    go_enter Try.func37, Try.ntmps37
    go_wp2
    go_loopw [1, 5] (fun q i wr => ∃ (m : Nat) (z : Int), m ≤ n ∧ i = .int .i64 m ∧ q = .int .i64 z ∧ Hid (z = k + 4 * m) ∧ Hid (w.grownBy wr (some g)) ∧ Own PieceW.cells 65 4 wr base (.slice (some ⟨g, 0, none⟩) n cap) n (PieceW.marks k m ++ l.drop m)) (fun _ i _ => n - (intOf i).toNat)
    case atStart => exact ⟨0, k, Nat.zero_le _, rfl, rfl, hide (by simp), hide (World.grownBy.refl _ _), by simpa [PieceW.marks] using hO0.out⟩
    case round =>
      obtain ⟨m, z, hm, rfl, rfl, hz, hG, hown⟩ := hrel
      by_cases hlt : m < n
      · have hz0 : 0 ≤ z := by have := hz.out; omega
        have hz1 : z ≤ 110000000000 := by have := hz.out; omega
        have hml : Hid (m < (PieceW.marks k m ++ l.drop m).length) := hide (by simp [PieceW.marks_len, hl.out]; omega)
        have hml2 : Hid (m < l.length) := hide (by rw [hl.out]; exact hlt)
        obtain ⟨x, hx, f0, f1, f2, f3, y0, y1, y2, y3⟩ := hown.PieceW_at hlt
        have hO := hide (hown.asSet hx)
        clear hx hown
        go_wp2_with fail
        refine (markText_any _ _ (by omega)).mono ?_
        rintro e w1 ⟨rfl, hb⟩
        have hO1 := hide (Own.below (hO.out) hb)
        have hG1 := hide (only_trans (hG.out) (only_of_below hb _))
        clear hb f0 f1 f2 f3 y0 y1 y2 y3
        obtain ⟨x1, hx1, f0, f1, f2, f3, y0, y1, y2, y3⟩ := hO1.out.PieceW_at hlt
        clear hx1
        go_wp2_with fail
        refine (markText_any _ _ (by omega)).mono ?_
        rintro e w2 ⟨rfl, hb⟩
        have hO2 := hide (Own.below (Own.cellS (m := m) (j := 0) (u := .string (markS (z))) (hO1.out) PieceW.len hml.out (by omega) ⟨markS (z), x.fSort, x.fDay, x.fMade⟩ rfl) hb)
        have hG2 := hide (only_trans (only_setCell (hG1.out) (p := ⟨g, m * 4 + 0, none⟩) rfl (.string (markS (z)))) (only_of_below hb _))
        clear hb f0 f1 f2 f3 y0 y1 y2 y3
        obtain ⟨x2, hx2, f0, f1, f2, f3, y0, y1, y2, y3⟩ := hO2.out.PieceW_at hlt
        clear hx2
        go_wp2_with fail
        go_roundw
        case rel =>
          have hE := Own.cellS (m := m) (j := 3) (u := .int .i64 (z + 1 + 1 + 1)) (Own.cellS (m := m) (j := 2) (u := .int .i64 (z + 1 + 1)) (Own.cellS (m := m) (j := 1) (u := .string (markS (z + 1))) (hO2.out) PieceW.len hml.out (by omega) ⟨markS (z), markS (z + 1), x.fDay, x.fMade⟩ rfl) PieceW.len hml.out (by omega) ⟨markS (z), markS (z + 1), z + 1 + 1, x.fMade⟩ rfl) PieceW.len hml.out (by omega) ⟨markS (z), markS (z + 1), z + 1 + 1, z + 1 + 1 + 1⟩ rfl
          have hGE := only_setCell (only_setCell (only_setCell (hG2.out) (p := ⟨g, m * 4 + 1, none⟩) rfl (.string (markS (z + 1)))) (p := ⟨g, m * 4 + 2, none⟩) rfl (.int .i64 (z + 1 + 1))) (p := ⟨g, m * 4 + 3, none⟩) rfl (.int .i64 (z + 1 + 1 + 1))
          refine ⟨m + 1, z + 1 + 1 + 1 + 1, by omega, by go_num, rfl, hide (by have := hz.out; omega), hide ?_, ?_⟩
          · simpa using hGE
          · have hmk : PieceW.mk' (k + 4 * m) = ⟨markS (z), markS (z + 1), z + 1 + 1, z + 1 + 1 + 1⟩ := by rw [← hz.out]; rfl
            have hfin := PieceW.marks_set (k := k) hml2.out
            rw [hmk] at hfin
            rw [hfin] at hE
            simpa using hE
        case measure => simp [intOf]; omega
      · have hmn : m = n := by omega
        subst hmn
        have hO := hide hown
        clear hown
        go_wp2
        go_ret
        have hfin := hO.out
        rw [List.drop_of_length_le (by rw [hl.out]; exact Nat.le_refl _), List.append_nil] at hfin
        exact ⟨ret1 (by rw [hz.out]), ⟨fun h => absurd hN0.out (by omega), fun _ => hG.out⟩, hfin.res⟩
end Go.Proofs.Ytfaonikmmpjopaa
