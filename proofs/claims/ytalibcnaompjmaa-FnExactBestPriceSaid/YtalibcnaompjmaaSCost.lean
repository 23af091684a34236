/- The struct Cost: its cells, slices of it, and the contracts of the laws' own helpers on it (copying, comparing, measuring). -/
import Derived.Test.YtalibcnaompjmaaKit
namespace Go.Proofs.Ytalibcnaompjmaa
open Go.ChangeShapes Go.WideShapes Go.ChangeAt Go.RowKit Go.Deep
structure Cost where
  fUnits : Int
  fHundred : Int
  deriving DecidableEq
def Cost.cells (x : Cost) : List Value := [.int .i64 x.fUnits, .int .i64 x.fHundred]
def Cost.same (x y : Cost) : Bool := decide (x = y)
theorem Cost.same_true {x y : Cost} : x.same y = true ↔ x = y := by simp [Cost.same]
theorem Cost.same_false {x y : Cost} : x.same y = false ↔ ¬ x = y := by simp [Cost.same]
theorem Cost.len (x : Cost) : x.cells.length = 2 := rfl
theorem Arr.Cost {w : World} {B : Nat} {A : Option Addr} {n : Nat} {l : List Cost} (h : Arr Cost.cells 2 w B A n l) {k : Nat} (hk : k < n) : ∃ b o x, A = some ⟨b, o, none⟩ ∧ b < B ∧ l[k]? = some x ∧ w.cell? ⟨b, o + k * 2, none⟩ = some (.int .i64 x.fUnits) ∧ w.cell? ⟨b, o + k * 2 + 1, none⟩ = some (.int .i64 x.fHundred) := by
  obtain ⟨b, o, x, e, hb, hx, hc⟩ := h.at_ hk
  exact ⟨b, o, x, e, hb, hx, hc 0 _ rfl, hc 1 _ rfl⟩
theorem Own.Cost_at {e : TypeId} {w : World} {base g n c : Nat} {l : List Cost} (h : Own Cost.cells e 2 w base (.slice (some ⟨g, 0, none⟩) n c) n l) {k : Nat} (hk : k < n) :
    ∃ x, l[k]? = some x ∧ w.cell? ⟨g, k * 2, none⟩ = some (.int .i64 x.fUnits) ∧ w.cell? ⟨g, k * 2 + 1, none⟩ = some (.int .i64 x.fHundred) ∧ w.frozen? ⟨g, k * 2, none⟩ = false ∧ w.frozen? ⟨g, k * 2 + 1, none⟩ = false := by
  obtain ⟨b, o, x, hA, _, hx, c0, c1⟩ := (h.arr Cost.len).Cost hk
  injection hA with hA; injection hA with h1 h2; subst h1 h2
  simp only [Nat.zero_add] at c0 c1
  exact ⟨x, hx, c0, c1, h.2.frozenAt _, h.2.frozenAt _⟩
theorem Own.Cost_store {e : TypeId} {w : World} {base g n c : Nat} {l : List Cost} (h : Own Cost.cells e 2 w base (.slice (some ⟨g, 0, none⟩) n c) n l) {k : Nat} (hk : k < n) (y0 : Int) (y1 : Int) :
    Own Cost.cells e 2 ((w.setCell ⟨g, k * 2, none⟩ (.int .i64 y0)).setCell ⟨g, k * 2 + 1, none⟩ (.int .i64 y1)) base (.slice (some ⟨g, 0, none⟩) n c) n (l.set k ⟨y0, y1⟩) := by
  have hkl : k < l.length := by rw [h.len]; exact hk
  have e0 : l[k]? = some l[k] := List.getElem?_eq_getElem hkl
  generalize l[k] = x at e0
  have h0 := h.cell (x := x) (x' := (⟨y0, x.fHundred⟩ : Cost)) (k := k) (j := 0) Cost.len e0 (by omega) rfl
  have e1 : (l.set k (⟨y0, x.fHundred⟩ : Cost))[k]? = some (⟨y0, x.fHundred⟩ : Cost) := List.getElem?_set_self hkl
  have h1 := h0.cell (x := (⟨y0, x.fHundred⟩ : Cost)) (x' := (⟨y0, y1⟩ : Cost)) (k := k) (j := 1) Cost.len e1 (by omega) rfl
  have e2 : (l.set k (⟨y0, y1⟩ : Cost))[k]? = some (⟨y0, y1⟩ : Cost) := List.getElem?_set_self hkl
  rw [List.set_set] at h1
  exact h1
def Cost.fits (_ : Cost) : Prop := True
theorem read_Cost {H : Type} {enc : TypeId × Value → H} {W : World} {r : Reach} {b0 : Nat} {sp : Nat → Bool} {held : Bool} {v : Value} {d : DataW H} {ps : List MemPlace}
    (hval : Value.okWide Try.prog W r b0 27 v) (h : DataW.Trod enc Try.prog W 0 sp held 27 v d ps) :
    ∃ (A : Option Addr) (n c : Nat) (l : List Cost), v = .slice A n c ∧ n ≤ c ∧ c ≤ maxLen ∧ (∀ x ∈ l, x.fits) ∧ Arr Cost.cells 2 W W.heap.size A n l := by
  refine read_row Cost.cells 2 _ Try.underlying27 (by kernel_rfl) (by omega) (fun n cs x hx => ?_) hval h
  obtain ⟨hlen, hf⟩ := field_one (by kernel_rfl) Try.underlying61 hx
  have hl : cs.length = 2 := hlen.trans (by kernel_rfl)
  match cs, hl with
  | [u0, u1], _ =>
    obtain ⟨_, _, t0⟩ := hf 0 _ rfl u0 rfl
    obtain ⟨y0, e0, _, _⟩ := DataW.trod_int Try.underlying2 t0
    obtain rfl : u0 = _ := by simpa using e0
    obtain ⟨_, _, t1⟩ := hf 1 _ rfl u1 rfl
    obtain ⟨y1, e1, _, _⟩ := DataW.trod_int Try.underlying2 t1
    obtain rfl : u1 = _ := by simpa using e1
    exact ⟨⟨y0, y1⟩, trivial, rfl⟩
theorem toCost_any (a0 : Int) (a1 : Int) (w : World) :
    Calls Try.prog 51 #[.agg #[.int .i64 a0, .int .i64 a1]] w fun e w' => e = .returned (.agg #[.int .i64 a0, .int .i64 a1]) ∧ Below w.heap.size w w' := by
  go_enter Try.func51, Try.ntmps51
  go_wp2
  exact bodyPost_ret (v := .agg #[.int .i64 a0, .int .i64 a1]) (by simp [results, Try.results51, go_sem]) rfl ⟨rfl, by go_grown⟩
theorem info_Cost : (Try.prog.info? 57).map (fun i => (i.zero, i.size, i.bytes)) = some (some (.agg #[.int .i64 0, .int .i64 0]), 2, 16) := by kernel_rfl
theorem toCostS_any (A : Option Addr) (n c : Nat) (l : List Cost) (w : World) (hn : n ≤ 1048576) (hr : Arr Cost.cells 2 w w.heap.size A n l) :
    Calls Try.prog 22 #[.slice A n c] w fun e w' => e = .returned (.slice (some ⟨w.heap.size, 0, none⟩) n n) ∧ Own Cost.cells 57 2 w' w.heap.size (.slice (some ⟨w.heap.size, 0, none⟩) n n) n l ∧ Below w.heap.size w w' := by
  obtain ⟨i0, hi0, hz0, hz1, hz2⟩ := info_parts info_Cost
  have hmk := fun W => run_make_rowN (P := Try.prog) 30 57 i0 _ Try.underlying30 hi0 hz0 .i64 .i64 n n (Nat.le_refl _) (by rw [hz2]; omega) (by omega) W
  rw [hz1] at hmk
  obtain ⟨cur, hcur⟩ : ∃ cur, cur = madeCells (Value.agg #[.int .i64 0, .int .i64 0]).cells (n * 2) := ⟨_, rfl⟩
  rw [← hcur] at hmk
  have hcl : cur.toList = (List.replicate n (⟨0, 0⟩ : Cost)).flatMap Cost.cells := by rw [hcur]; exact made_flat Cost.len (by omega) #[.int .i64 0, .int .i64 0] ⟨0, 0⟩ rfl n
  clear hcur
  have hmade : Own Cost.cells 57 2 (w.alloc (.cells cur 57)) w.heap.size (.slice (some ⟨w.heap.size, 0, none⟩) n n) n (List.replicate n (⟨0, 0⟩ : Cost)) :=
    Own.made w (Nat.le_refl _) (by unfold maxLen; omega) _ Cost.len cur hcl
  clear hcl
  have hlen := hide hr.len
  go_enter Try.func22, Try.ntmps22
  go_wp2
  go_loopw [4] (fun i wr => ∃ k : Nat, k ≤ n ∧ i = .int .i64 k ∧ Below w.heap.size w wr ∧ w.heap.size < wr.heap.size ∧ Own Cost.cells 57 2 wr w.heap.size (.slice (some ⟨w.heap.size, 0, none⟩) n n) n (l.take k ++ List.replicate (n - k) ⟨0, 0⟩)) (fun i _ => n - (intOf i).toNat)
  case atStart => exact ⟨0, Nat.zero_le _, rfl, by go_grown, by simp, by simpa using hmade⟩
  case round =>
    obtain ⟨k, hk, rfl, hb, hsz, hown⟩ := hrel
    clear hmade
    by_cases hlt : k < n
    · obtain ⟨b, o, x, rfl, hbl, hx, c0, c1⟩ := hr.Cost hlt
      have d0 : wr.cell? ⟨b, o + k * 2, none⟩ = some (.int .i64 x.fUnits) := (hb.cell (p := ⟨b, o + k * 2, none⟩) hbl).trans c0
      have d1 : wr.cell? ⟨b, o + k * 2 + 1, none⟩ = some (.int .i64 x.fHundred) := (hb.cell (p := ⟨b, o + k * 2 + 1, none⟩) hbl).trans c1
      clear c0 c1 hr
      have hB := hide hb
      clear hb
      have hcap : (k : Int) < n := by omega
      have hO := hide hown
      clear hown
 
      go_wp2_with (go_at_call 51; refine (toCost_any _ _ _).mono ?_; rintro e w1 ⟨rfl, hb1⟩; have hB1 := hide hb1; have hO1 := hide (hO.out.below hb1); have hsz1 : w.heap.size < w1.heap.size := Nat.lt_of_lt_of_le hsz hb1.size; obtain ⟨x1, hx1, f0, f1, z0, z1⟩ := hO1.out.Cost_at hlt; have HX1 := hide hx1; clear hx1 hb1)
      all_goals go_roundw
      case rel => exact ⟨k + 1, by omega, by go_num, (((hB.out.trans (hB1.out.mono (Nat.le_of_lt hsz))).setCell (Nat.le_refl _) _).setCell (Nat.le_refl _) _), by simp only [World.size_setCell]; exact hsz1, by have := hO1.out.Cost_store hlt x.fUnits x.fHundred; rw [fill_set hlen.out hx] at this; exact this⟩
      case measure => simp [intOf]; omega
    · have hkn : k = n := by omega
      go_wp2
      go_ret
      exact ⟨rfl, by have := hown; rw [hkn, Nat.sub_self, List.replicate_zero, List.append_nil, List.take_of_length_le (by rw [hlen.out]; exact Nat.le_refl _)] at this; exact this, hb⟩
def Cost.wt (_ : Cost) : Int := 0
theorem Cost.wt_nonneg (x : Cost) : 0 ≤ x.wt := by unfold Cost.wt; omega
def Cost.pre (l : List Cost) : Int := (l.map Cost.wt).sum
theorem Cost.pre_nonneg (l : List Cost) : 0 ≤ Cost.pre l := by
  unfold Cost.pre
  induction l with
  | nil => simp
  | cons a l ih => have := a.wt_nonneg; simp only [List.map_cons, List.sum_cons]; omega
theorem Cost.pre_snoc {l : List Cost} {k : Nat} {x : Cost} (h : l[k]? = some x) : Cost.pre (l.take (k + 1)) = Cost.pre (l.take k) + x.wt := by
  unfold Cost.pre; rw [take_snoc h]; simp
theorem Cost.pre_le (l : List Cost) (k : Nat) : Cost.pre (l.take k) ≤ Cost.pre l := by
  have h := Cost.pre_nonneg (l.drop k)
  have : Cost.pre l = Cost.pre (l.take k) + Cost.pre (l.drop k) := by unfold Cost.pre; rw [← List.sum_append, ← List.map_append, List.take_append_drop]
  omega
theorem Cost.wt_le {l : List Cost} {x : Cost} (h : x ∈ l) : x.wt ≤ Cost.pre l := by
  obtain ⟨k, hk⟩ := List.mem_iff_getElem?.1 h
  have h1 := Cost.pre_snoc hk; have h2 := Cost.pre_le l (k + 1); have h3 := Cost.pre_nonneg (l.take k)
  omega
def Cost.tot (l : List Cost) : Int := l.length + Cost.pre l
theorem Cost.pre_zero (l : List Cost) : Cost.pre l = 0 := by unfold Cost.pre; induction l with | nil => rfl | cons a l ih => simp only [List.map_cons, List.sum_cons, ih]; rfl
theorem szCostS_any (A : Option Addr) (n c : Nat) (l : List Cost) (r : Int) (w : World) (hn : n ≤ maxLen) (h0 : 0 ≤ r) (h1 : r ≤ 1048576) (hr : Arr Cost.cells 2 w w.heap.size A n l) (_ : ∀ x ∈ l, x.fits) :
    Calls Try.prog 20 #[.slice A n c, .int .i64 r] w fun e w' => e = .returned (.int .i64 (szv (r - Cost.tot l))) ∧ Below w.heap.size w w' := by
  have ht : Cost.tot l = n := by unfold Cost.tot; rw [Cost.pre_zero, hr.len]; omega
  rw [ht]
  clear ht hr
  unfold maxLen at hn
  by_cases h : r - n < 0
  · rw [szv_neg (by omega)]
    go_enter Try.func20, Try.ntmps20
    go_wp2
    go_ret; exact ⟨rfl, Below.refl _ _⟩
  · rw [szv_pos (by omega)]
    go_enter Try.func20, Try.ntmps20
    go_wp2
    go_ret; exact ⟨rfl, Below.refl _ _⟩
theorem eqCost_fields (a0 : Int) (a1 : Int) (b0 : Int) (b1 : Int) (w : World) :
    Calls Try.prog 52 #[.agg #[.int .i64 a0, .int .i64 a1], .agg #[.int .i64 b0, .int .i64 b1]] w fun e w' => e = .returned (.bool (Cost.same (⟨a0, a1⟩ : Cost) (⟨b0, b1⟩ : Cost))) ∧ Below w.heap.size w w' := by
  by_cases h : (⟨a0, a1⟩ : Cost) = (⟨b0, b1⟩ : Cost)
  · injection h with h0 h1
    subst h0 h1
    rw [Cost.same_true.2 rfl]
    go_enter Try.func52, Try.ntmps52
    go_wp2
    go_ret; exact ⟨rfl, by go_grown⟩
  · rw [Cost.same_false.2 h]
    by_cases g0 : a0 = b0
    · subst g0
      by_cases g1 : a1 = b1
      · subst g1
        exact absurd rfl h
      · clear h
        have e1 : (a1 != b1) = true := by simp [g1]
        clear g1
        go_enter Try.func52, Try.ntmps52
        go_wp2
        go_ret; exact ⟨rfl, by go_grown⟩
    · clear h
      have e1 : (a0 != b0) = true := by simp [g0]
      clear g0
      go_enter Try.func52, Try.ntmps52
      go_wp2
      go_ret; exact ⟨rfl, by go_grown⟩
theorem eqCost_any (x y : Cost) (w : World) : Calls Try.prog 52 #[.agg #[.int .i64 x.fUnits, .int .i64 x.fHundred], .agg #[.int .i64 y.fUnits, .int .i64 y.fHundred]] w fun e w' => e = .returned (.bool (x.same y)) ∧ Below w.heap.size w w' := eqCost_fields _ _ _ _ w
theorem eqCostS_any (A A' : Option Addr) (n c n' c' : Nat) (l l' : List Cost) (w : World) (hn : n ≤ 1048576) (hr : Arr Cost.cells 2 w w.heap.size A n l) (hr' : Arr Cost.cells 2 w w.heap.size A' n' l') :
    Calls Try.prog 24 #[.slice A n c, .slice A' n' c'] w fun e w' => e = .returned (.bool (decide (l = l'))) ∧ Below w.heap.size w w' := by
  have hl := hide hr.len
  have hl' := hide hr'.len
  by_cases hne : n = n'
  · subst hne
    have hpost : Hid (l = l' ↔ l.take n = l'.take n) := by
      have h1 := hl.out; have h2 := hl'.out
      show _ ↔ _
      rw [List.take_of_length_le (by omega), List.take_of_length_le (by omega)]
    go_enter Try.func24, Try.ntmps24
    go_wp2
    go_loopw [5] (fun i wr => ∃ k : Nat, k ≤ n ∧ i = .int .i64 k ∧ Below w.heap.size w wr ∧ Hid (l.take k = l'.take k)) (fun i _ => n - (intOf i).toNat)
    case atStart => exact ⟨0, Nat.zero_le _, rfl, Below.refl _ _, hide (by simp)⟩
    case round =>
      obtain ⟨k, hk, rfl, hb, hpre⟩ := hrel
      by_cases hlt : k < n
      · obtain ⟨b, o, x, rfl, hbl, hx, c0, c1⟩ := hr.Cost hlt
        obtain ⟨b', o', y, rfl, hbl', hy, f0, f1⟩ := hr'.Cost hlt
        have d0 : wr.cell? ⟨b, o + k * 2, none⟩ = some (.int .i64 x.fUnits) := (hb.cell (p := ⟨b, o + k * 2, none⟩) hbl).trans c0
        have g0 : wr.cell? ⟨b', o' + k * 2, none⟩ = some (.int .i64 y.fUnits) := (hb.cell (p := ⟨b', o' + k * 2, none⟩) hbl').trans f0
        have d1 : wr.cell? ⟨b, o + k * 2 + 1, none⟩ = some (.int .i64 x.fHundred) := (hb.cell (p := ⟨b, o + k * 2 + 1, none⟩) hbl).trans c1
        have g1 : wr.cell? ⟨b', o' + k * 2 + 1, none⟩ = some (.int .i64 y.fHundred) := (hb.cell (p := ⟨b', o' + k * 2 + 1, none⟩) hbl').trans f1
        have hX := hide hx
        have hY := hide hy
        have hB := hide hb
        clear c0 f0 c1 f1 hr hr' hx hy hb
        have hlt' : (k : Int) < (n : Int) := by omega
        have hk0 : (0 : Int) ≤ (k : Int) := by omega
        go_wp2_with fail
        go_still_tail 8, (by kernel_rfl)
        change wpList _ _ _ _ _ wr.drew
        have hB2 := hide (Below.drew hB.out)
        cases hxy : x.same y
        · go_wp2_with (go_at_call 52; refine (eqCost_any x y _).mono ?_; rintro e w1 ⟨rfl, hb1⟩; have hB1 := hide (hB2.out.trans (hb1.mono hB2.out.size)); clear hb1)
          go_ret
          refine ⟨retB (Eq.symm (decide_eq_false fun he => ?_)), hB1.out⟩
          subst he
          rw [hX.out] at hY
          have := Option.some.inj hY.out
          subst this
          exact Cost.same_false.1 hxy rfl
        · go_wp2_with (go_at_call 52; refine (eqCost_any x y _).mono ?_; rintro e w1 ⟨rfl, hb1⟩; have hB1 := hide (hB2.out.trans (hb1.mono hB2.out.size)); clear hb1)
          go_roundw
          case rel => exact ⟨k + 1, by omega, by go_num, hB1.out, hide (by rw [take_snoc hX.out, take_snoc hY.out, hpre.out, Cost.same_true.1 hxy])⟩
          case measure => simp [intOf]; omega
      · have hkn : k = n := by omega
        subst hkn
        have hB := hide hb
        clear hb
        go_wp2
        go_ret
        exact ⟨retB (Eq.symm (decide_eq_true (hpost.out.2 hpre.out))), hB.out⟩
  · have e1 : ((n : Int) != (n' : Int)) = true := by simp; omega
    have hd : Hid (decide (l = l') = false) := decide_eq_false fun he => hne (by rw [← hl.out, ← hl'.out, he])
    clear hne
    go_enter Try.func24, Try.ntmps24
    go_wp2
    go_ret
    exact ⟨retB hd.out.symm, Below.refl _ _⟩
end Go.Proofs.Ytalibcnaompjmaa
