/- Heap: contracts of the laws' helpers that write marks into a result and look for them again. -/
import Derived.Test.YtpmldpegjnpoaaaSHeap
import Derived.Test.YtpmldpegjnpoaaaMark
namespace Go.Proofs.Ytpmldpegjnpoaaa
open Go.ChangeShapes Go.WideShapes Go.ChangeAt Go.RowKit Go.Deep
set_option maxRecDepth 100000
def Heap.mk' (z : Int) : Heap := ⟨markS (z), z + 1, z + 1 + 1⟩
def Heap.marks (k : Int) (n : Nat) : List Heap := (List.range n).map fun (i : Nat) => Heap.mk' (k + 3 * (i : Int))
theorem Heap.marks_len (k : Int) (n : Nat) : (Heap.marks k n).length = n := by simp [Heap.marks]
theorem Heap.marks_snoc (k : Int) (n : Nat) : Heap.marks k (n + 1) = Heap.marks k n ++ [Heap.mk' (k + 3 * n)] := by simp [Heap.marks, List.range_succ]
theorem Heap.marks_get {k : Int} {n i : Nat} (h : i < n) : (Heap.marks k n)[i]? = some (Heap.mk' (k + 3 * i)) := by simp [Heap.marks, h]
theorem Heap.marks_set {l : List Heap} {k : Int} {i : Nat} (h : i < l.length) : (Heap.marks k i ++ l.drop i).set i (Heap.mk' (k + 3 * i)) = Heap.marks k (i + 1) ++ l.drop (i + 1) := by
  have hl := Heap.marks_len k i
  rw [List.set_append, if_neg (by omega), hl, Nat.sub_self, List.drop_eq_getElem_cons h, List.set_cons_zero, Heap.marks_snoc]
  simp
theorem markHeapS_any (v : Value) (n base : Nat) (l : List Heap) (k : Int) (w : World) (h0 : 0 ≤ k) (h1 : k ≤ 100000000000) (hn : n ≤ 1048576) (ho : Res Heap.cells 31 3 w base v n l) :
    Calls Try.prog 13 #[v, .int .i64 k] w fun e w' => e = .returned (.int .i64 (k + 3 * n)) ∧ Marked w w' v n ∧ Res Heap.cells 31 3 w' base v n (Heap.marks k n) := by
  have hl := hide ho.len
  rcases Nat.eq_zero_or_pos n with rfl | hn0
  · obtain ⟨A, c, rfl, _, hcm⟩ := ho.2.1
    go_enter Try.func13, Try.ntmps13
    go_wp2
    go_loopw [1, 5] (fun q i wr => q = .int .i64 k ∧ i = .int .i64 0 ∧ w = wr) (fun _ _ _ => 0)
    case atStart => exact ⟨rfl, rfl, rfl⟩
    case round =>
      obtain ⟨rfl, rfl, rfl⟩ := hrel
      go_wp2
      go_ret
      exact ⟨ret1 (by simp), ⟨fun _ => rfl, fun h => absurd h (by omega)⟩, Res.empty hcm⟩
  · have ho2 := ho.2.2 hn0
    clear ho
    rcases ho2.form with ⟨_, h00, _⟩ | ⟨g, cap, rfl, hgb, hgl, hnc, hcm⟩
    · omega
    have hO0 := hide ho2
    clear ho2
    have hN0 := hide hn0
    clear hn0
    go_enter Try.func13, Try.ntmps13
    go_wp2
    go_loopw [1, 5] (fun q i wr => ∃ (m : Nat) (z : Int), m ≤ n ∧ i = .int .i64 m ∧ q = .int .i64 z ∧ Hid (z = k + 3 * m) ∧ Hid (w.grownBy wr (some g)) ∧ Own Heap.cells 31 3 wr base (.slice (some ⟨g, 0, none⟩) n cap) n (Heap.marks k m ++ l.drop m)) (fun _ i _ => n - (intOf i).toNat)
    case atStart => exact ⟨0, k, Nat.zero_le _, rfl, rfl, hide (by simp), hide (World.grownBy.refl _ _), by simpa [Heap.marks] using hO0.out⟩
    case round =>
      obtain ⟨m, z, hm, rfl, rfl, hz, hG, hown⟩ := hrel
      by_cases hlt : m < n
      · have hz0 : 0 ≤ z := by have := hz.out; omega
        have hz1 : z ≤ 110000000000 := by have := hz.out; omega
        have hml : Hid (m < (Heap.marks k m ++ l.drop m).length) := hide (by simp [Heap.marks_len, hl.out]; omega)
        have hml2 : Hid (m < l.length) := hide (by rw [hl.out]; exact hlt)
        obtain ⟨x, hx, f0, f1, f2, y0, y1, y2⟩ := hown.Heap_at hlt
        have hO := hide (hown.asSet hx)
        clear hx hown
        go_wp2_with fail
        refine (markText_any _ _ (by omega)).mono ?_
        rintro e w1 ⟨rfl, hb⟩
        have hO1 := hide (Own.below (hO.out) hb)
        have hG1 := hide (only_trans (hG.out) (only_of_below hb _))
        clear hb f0 f1 f2 y0 y1 y2
        obtain ⟨x1, hx1, f0, f1, f2, y0, y1, y2⟩ := hO1.out.Heap_at hlt
        clear hx1
        go_wp2_with fail
        go_roundw
        case rel =>
          have hE := Own.cellS (m := m) (j := 2) (u := .int .i64 (z + 1 + 1)) (Own.cellS (m := m) (j := 1) (u := .int .i64 (z + 1)) (Own.cellS (m := m) (j := 0) (u := .string (markS (z))) (hO1.out) Heap.len hml.out (by omega) ⟨markS (z), x.fYear, x.fBundles⟩ rfl) Heap.len hml.out (by omega) ⟨markS (z), z + 1, x.fBundles⟩ rfl) Heap.len hml.out (by omega) ⟨markS (z), z + 1, z + 1 + 1⟩ rfl
          have hGE := only_setCell (only_setCell (only_setCell (hG1.out) (p := ⟨g, m * 3 + 0, none⟩) rfl (.string (markS (z)))) (p := ⟨g, m * 3 + 1, none⟩) rfl (.int .i64 (z + 1))) (p := ⟨g, m * 3 + 2, none⟩) rfl (.int .i64 (z + 1 + 1))
          refine ⟨m + 1, z + 1 + 1 + 1, by omega, by go_num, rfl, hide (by have := hz.out; omega), hide ?_, ?_⟩
          · simpa using hGE
          · have hmk : Heap.mk' (k + 3 * m) = ⟨markS (z), z + 1, z + 1 + 1⟩ := by rw [← hz.out]; rfl
            have hfin := Heap.marks_set (k := k) hml2.out
            rw [hmk] at hfin
            rw [hfin] at hE
            simpa using hE
        case measure => simp [intOf]; omega
      · have hmn : m = n := by omega
        subst hmn
        have hO := hide hown
        clear hown
        go_wp2
        go_ret
        have hfin := hO.out
        rw [List.drop_of_length_le (by rw [hl.out]; exact Nat.le_refl _), List.append_nil] at hfin
        exact ⟨ret1 (by rw [hz.out]), ⟨fun h => absurd hN0.out (by omega), fun _ => hG.out⟩, hfin.res⟩
theorem heldHeapS_any (A : Option Addr) (n c : Nat) (k : Int) (w : World) (h0 : 0 ≤ k) (h1 : k ≤ 100000000000) (hn : n ≤ 1048576) (hr : Arr Heap.cells 3 w w.heap.size A n (Heap.marks k n)) :
    Calls Try.prog 14 #[.slice A n c, .int .i64 k] w fun e w' => e = .returned (.int .i64 (k + 3 * n)) ∧ Below w.heap.size w w' := by
  go_enter Try.func14, Try.ntmps14
  go_wp2
  go_loopw [1, 5] (fun q i wr => ∃ (m : Nat) (z : Int), m ≤ n ∧ i = .int .i64 m ∧ q = .int .i64 z ∧ Hid (z = k + 3 * m) ∧ Below w.heap.size w wr) (fun _ i _ => n - (intOf i).toNat)
  case atStart => exact ⟨0, k, Nat.zero_le _, rfl, rfl, hide (by simp), Below.refl _ _⟩
  case round =>
    obtain ⟨m, z, hm, rfl, rfl, hz, hb⟩ := hrel
    by_cases hlt : m < n
    · have hz0 : 0 ≤ z := by have := hz.out; omega
      have hz1 : z ≤ 110000000000 := by have := hz.out; omega
      obtain ⟨b, o, x, rfl, hbl, hx, c0, c1, c2⟩ := hr.Heap hlt
      have hxe : Hid (⟨markS (z), z + 1, z + 1 + 1⟩ = x) := hide (by rw [Heap.marks_get hlt, ← hz.out] at hx; exact Option.some.inj hx)
      have d0 : wr.cell? ⟨b, o + m * 3, none⟩ = some (.string (markS (z))) := ((hb.cell (p := ⟨b, o + m * 3, none⟩) hbl).trans c0).trans (by rw [← hxe.out])
      have d1 : wr.cell? ⟨b, o + m * 3 + 1, none⟩ = some (.int .i64 (z + 1)) := ((hb.cell (p := ⟨b, o + m * 3 + 1, none⟩) hbl).trans c1).trans (by rw [← hxe.out])
      have d2 : wr.cell? ⟨b, o + m * 3 + 2, none⟩ = some (.int .i64 (z + 1 + 1)) := ((hb.cell (p := ⟨b, o + m * 3 + 2, none⟩) hbl).trans c2).trans (by rw [← hxe.out])
      clear c0 c1 c2 hx hr hxe
      have hlt' : (m : Int) < (n : Int) := by omega
      have hm0 : (0 : Int) ≤ (m : Int) := by omega
      have hbs : b < wr.heap.size := Nat.lt_of_lt_of_le hbl hb.size
      have hB := hide hb
      clear hb
      go_wp2_with fail
      go_region_held3 (fun w' => w'.cell? ⟨b, o + m * 3, none⟩ = some (.string (markS (z)))) (first | go_keep | exact (hb.cell (p := ⟨b, o + m * 3, none⟩) hbs).trans d0) ((first | (go_at_call 32; refine (markText_any _ _ (by omega)).mono ?_; rintro e w1 ⟨rfl, hb⟩)))
      have e1 := (hb.cell (p := ⟨b, o + m * 3 + 1, none⟩) hbs).trans d1
      have e2 := (hb.cell (p := ⟨b, o + m * 3 + 2, none⟩) hbs).trans d2
      replace hbs := Nat.lt_of_lt_of_le (show b < _ from hbs) hb.size
      replace hB := hide (Below.up (Below.drew hB.out) hb)
      clear hb d0 d1 d2
      have d1 := e1
      have d2 := e2
      clear e1 e2
      have d0 : True := trivial
      go_wp2_with fail
      go_roundw
      case rel => exact ⟨m + 1, z + 1 + 1 + 1, by omega, by go_num, rfl, hide (by have := hz.out; omega), hB.out⟩
      case measure => simp [intOf]; omega
    · have hmn : m = n := by omega
      subst hmn
      have hB := hide hb
      clear hb
      go_wp2
      go_ret
      exact ⟨ret1 (by rw [hz.out]), hB.out⟩
end Go.Proofs.Ytpmldpegjnpoaaa
