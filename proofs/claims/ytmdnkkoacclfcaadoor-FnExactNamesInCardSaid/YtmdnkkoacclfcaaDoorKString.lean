/- String: contracts of the laws' helpers that write marks into a result and look for them again. -/
import Derived.Test.YtmdnkkoacclfcaaDoorSStrs
import Derived.Test.YtmdnkkoacclfcaaDoorMark
namespace Go.Proofs.YtmdnkkoacclfcaaDoor
open Go.ChangeShapes Go.WideShapes Go.ChangeAt Go.RowKit Go.Deep
set_option maxRecDepth 100000
def Str.mk' (z : Int) : ByteArray := markS (z)
def Str.marks (k : Int) (n : Nat) : List ByteArray := (List.range n).map fun (i : Nat) => Str.mk' (k + 1 * (i : Int))
theorem Str.marks_len (k : Int) (n : Nat) : (Str.marks k n).length = n := by simp [Str.marks]
theorem Str.marks_snoc (k : Int) (n : Nat) : Str.marks k (n + 1) = Str.marks k n ++ [Str.mk' (k + 1 * n)] := by simp [Str.marks, List.range_succ]
theorem Str.marks_get {k : Int} {n i : Nat} (h : i < n) : (Str.marks k n)[i]? = some (Str.mk' (k + 1 * i)) := by simp [Str.marks, h]
theorem Str.marks_set {l : List ByteArray} {k : Int} {i : Nat} (h : i < l.length) : (Str.marks k i ++ l.drop i).set i (Str.mk' (k + 1 * i)) = Str.marks k (i + 1) ++ l.drop (i + 1) := by
  have hl := Str.marks_len k i
  rw [List.set_append, if_neg (by omega), hl, Nat.sub_self, List.drop_eq_getElem_cons h, List.set_cons_zero, Str.marks_snoc]
  simp
theorem markStringS_any (v : Value) (n base : Nat) (l : List ByteArray) (k : Int) (w : World) (h0 : 0 ≤ k) (h1 : k ≤ 100000000000) (hn : n ≤ 1048576) (ho : Res strc 9 1 w base v n l) :
    Calls Tryd.prog 43 #[v, .int .i64 k] w fun e w' => e = .returned (.int .i64 (k + 1 * n)) ∧ Marked w w' v n ∧ Res strc 9 1 w' base v n (Str.marks k n) := by
  have hl := hide ho.len
  rcases Nat.eq_zero_or_pos n with rfl | hn0
  · obtain ⟨A, c, rfl, _, hcm⟩ := ho.2.1
    go_enter Tryd.func43, Tryd.ntmps43
    go_wp2
    go_loopw [1, 5] (fun q i wr => q = .int .i64 k ∧ i = .int .i64 0 ∧ w = wr) (fun _ _ _ => 0)
    case atStart => exact ⟨rfl, rfl, rfl⟩
    case round =>
      obtain ⟨rfl, rfl, rfl⟩ := hrel
      go_wp2
      go_ret
      exact ⟨ret1 (by simp), ⟨fun _ => rfl, fun h => absurd h (by omega)⟩, Res.empty hcm⟩
  · have ho2 := ho.2.2 hn0
    clear ho
    rcases ho2.form with ⟨_, h00, _⟩ | ⟨g, cap, rfl, hgb, hgl, hnc, hcm⟩
    · omega
    have hO0 := hide ho2
    clear ho2
    have hN0 := hide hn0
    clear hn0
    go_enter Tryd.func43, Tryd.ntmps43
    go_wp2
    go_loopw [1, 5] (fun q i wr => ∃ (m : Nat) (z : Int), m ≤ n ∧ i = .int .i64 m ∧ q = .int .i64 z ∧ Hid (z = k + 1 * m) ∧ Hid (w.grownBy wr (some g)) ∧ Own strc 9 1 wr base (.slice (some ⟨g, 0, none⟩) n cap) n (Str.marks k m ++ l.drop m)) (fun _ i _ => n - (intOf i).toNat)
    case atStart => exact ⟨0, k, Nat.zero_le _, rfl, rfl, hide (by simp), hide (World.grownBy.refl _ _), by simpa [Str.marks] using hO0.out⟩
    case round =>
      obtain ⟨m, z, hm, rfl, rfl, hz, hG, hown⟩ := hrel
      by_cases hlt : m < n
      · have hz0 : 0 ≤ z := by have := hz.out; omega
        have hz1 : z ≤ 110000000000 := by have := hz.out; omega
        have hml : Hid (m < (Str.marks k m ++ l.drop m).length) := hide (by simp [Str.marks_len, hl.out]; omega)
        have hml2 : Hid (m < l.length) := hide (by rw [hl.out]; exact hlt)
        obtain ⟨x, hx, f0, y0⟩ := hown.str_at hlt
        have hO := hide (hown.asSet hx)
        clear hx hown
        go_wp2_with fail
        refine (markText_any _ _ (by omega)).mono ?_
        rintro e w1 ⟨rfl, hb⟩
        have hO1 := hide (Own.below (hO.out) hb)
        have hG1 := hide (only_trans (hG.out) (only_of_below hb _))
        clear hb f0 y0
        obtain ⟨x1, hx1, f0, y0⟩ := hO1.out.str_at hlt
        clear hx1
        go_wp2_with fail
        go_roundw
        case rel =>
          have hE := Own.cellS (m := m) (j := 0) (u := .string (markS (z))) (hO1.out) strc_len hml.out (by omega) (markS (z)) rfl
          have hGE := only_setCell (hG1.out) (p := ⟨g, m * 1 + 0, none⟩) rfl (.string (markS (z)))
          refine ⟨m + 1, z + 1, by omega, by go_num, rfl, hide (by have := hz.out; omega), hide ?_, ?_⟩
          · simpa using hGE
          · have hmk : Str.mk' (k + 1 * m) = markS (z) := by rw [← hz.out]; rfl
            have hfin := Str.marks_set (k := k) hml2.out
            rw [hmk] at hfin
            rw [hfin] at hE
            simpa using hE
        case measure => simp [intOf]; omega
      · have hmn : m = n := by omega
        subst hmn
        have hO := hide hown
        clear hown
        go_wp2
        go_ret
        have hfin := hO.out
        rw [List.drop_of_length_le (by rw [hl.out]; exact Nat.le_refl _), List.append_nil] at hfin
        exact ⟨ret1 (by rw [hz.out]), ⟨fun h => absurd hN0.out (by omega), fun _ => hG.out⟩, hfin.res⟩
theorem heldStringS_any (A : Option Addr) (n c : Nat) (k : Int) (w : World) (h0 : 0 ≤ k) (h1 : k ≤ 100000000000) (hn : n ≤ 1048576) (hr : Arr strc 1 w w.heap.size A n (Str.marks k n)) :
    Calls Tryd.prog 44 #[.slice A n c, .int .i64 k] w fun e w' => e = .returned (.int .i64 (k + 1 * n)) ∧ Below w.heap.size w w' := by
  go_enter Tryd.func44, Tryd.ntmps44
  go_wp2
  go_loopw [1, 5] (fun q i wr => ∃ (m : Nat) (z : Int), m ≤ n ∧ i = .int .i64 m ∧ q = .int .i64 z ∧ Hid (z = k + 1 * m) ∧ Below w.heap.size w wr) (fun _ i _ => n - (intOf i).toNat)
  case atStart => exact ⟨0, k, Nat.zero_le _, rfl, rfl, hide (by simp), Below.refl _ _⟩
  case round =>
    obtain ⟨m, z, hm, rfl, rfl, hz, hb⟩ := hrel
    by_cases hlt : m < n
    · have hz0 : 0 ≤ z := by have := hz.out; omega
      have hz1 : z ≤ 110000000000 := by have := hz.out; omega
      obtain ⟨b, o, x, rfl, hbl, hx, c0⟩ := hr.str hlt
      have hxe : Hid (markS (z) = x) := hide (by rw [Str.marks_get hlt, ← hz.out] at hx; exact Option.some.inj hx)
      have d0 : wr.cell? ⟨b, o + m, none⟩ = some (.string (markS (z))) := ((hb.cell (p := ⟨b, o + m, none⟩) hbl).trans c0).trans (by rw [← hxe.out])
      clear c0 hx hr hxe
      have hlt' : (m : Int) < (n : Int) := by omega
      have hm0 : (0 : Int) ≤ (m : Int) := by omega
      have hbs : b < wr.heap.size := Nat.lt_of_lt_of_le hbl hb.size
      have hB := hide hb
      clear hb
      go_wp2_with fail
      go_region_held3 (fun w' => w'.cell? ⟨b, o + m, none⟩ = some (.string (markS (z)))) (first | go_keep | exact (hb.cell (p := ⟨b, o + m, none⟩) hbs).trans d0) ((first | (go_at_call 70; refine (markText_any _ _ (by omega)).mono ?_; rintro e w1 ⟨rfl, hb⟩)))
      replace hbs := Nat.lt_of_lt_of_le (show b < _ from hbs) hb.size
      replace hB := hide (Below.up (Below.drew hB.out) hb)
      clear hb d0
      go_wp2_with fail
      go_roundw
      case rel => exact ⟨m + 1, z + 1, by omega, by go_num, rfl, hide (by have := hz.out; omega), hB.out⟩
      case measure => simp [intOf]; omega
    · have hmn : m = n := by omega
      subst hmn
      have hB := hide hb
      clear hb
      go_wp2
      go_ret
      exact ⟨ret1 (by rw [hz.out]), hB.out⟩
end Go.Proofs.YtmdnkkoacclfcaaDoor
