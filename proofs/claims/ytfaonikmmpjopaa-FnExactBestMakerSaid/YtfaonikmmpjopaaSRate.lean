/- The struct Rate: its cells, slices of it, and the contracts of the laws' own helpers on it (copying, comparing, measuring). -/
import Derived.Test.YtfaonikmmpjopaaKit
namespace Go.Proofs.Ytfaonikmmpjopaa
open Go.ChangeShapes Go.WideShapes Go.ChangeAt Go.RowKit Go.Deep
set_option maxRecDepth 100000
structure Rate where
  fSort : ByteArray
  fCents : Int
  deriving DecidableEq
def Rate.cells (x : Rate) : List Value := [.string x.fSort, .int .i64 x.fCents]
def Rate.same (x y : Rate) : Bool := decide (x = y)
theorem Rate.same_true {x y : Rate} : x.same y = true ↔ x = y := by simp [Rate.same]
theorem Rate.same_false {x y : Rate} : x.same y = false ↔ ¬ x = y := by simp [Rate.same]
theorem Rate.len (x : Rate) : x.cells.length = 2 := rfl
theorem Arr.Rate {w : World} {B : Nat} {A : Option Addr} {n : Nat} {l : List Rate} (h : Arr Rate.cells 2 w B A n l) {k : Nat} (hk : k < n) : ∃ b o x, A = some ⟨b, o, none⟩ ∧ b < B ∧ l[k]? = some x ∧ w.cell? ⟨b, o + k * 2, none⟩ = some (.string x.fSort) ∧ w.cell? ⟨b, o + k * 2 + 1, none⟩ = some (.int .i64 x.fCents) := by
  obtain ⟨b, o, x, e, hb, hx, hc⟩ := h.at_ hk
  exact ⟨b, o, x, e, hb, hx, hc 0 _ rfl, hc 1 _ rfl⟩
theorem Own.Rate_at {e : TypeId} {w : World} {base g n c : Nat} {l : List Rate} (h : Own Rate.cells e 2 w base (.slice (some ⟨g, 0, none⟩) n c) n l) {k : Nat} (hk : k < n) :
    ∃ x, l[k]? = some x ∧ w.cell? ⟨g, k * 2, none⟩ = some (.string x.fSort) ∧ w.cell? ⟨g, k * 2 + 1, none⟩ = some (.int .i64 x.fCents) ∧ w.frozen? ⟨g, k * 2, none⟩ = false ∧ w.frozen? ⟨g, k * 2 + 1, none⟩ = false := by
  obtain ⟨b, o, x, hA, _, hx, c0, c1⟩ := (h.arr Rate.len).Rate hk
  injection hA with hA; injection hA with h1 h2; subst h1 h2
  simp only [Nat.zero_add] at c0 c1
  exact ⟨x, hx, c0, c1, h.2.frozenAt _, h.2.frozenAt _⟩
theorem Own.Rate_store {e : TypeId} {w : World} {base g n c : Nat} {l : List Rate} (h : Own Rate.cells e 2 w base (.slice (some ⟨g, 0, none⟩) n c) n l) {k : Nat} (hk : k < n) (y0 : ByteArray) (y1 : Int) :
    Own Rate.cells e 2 ((w.setCell ⟨g, k * 2, none⟩ (.string y0)).setCell ⟨g, k * 2 + 1, none⟩ (.int .i64 y1)) base (.slice (some ⟨g, 0, none⟩) n c) n (l.set k ⟨y0, y1⟩) := by
  have hkl : k < l.length := by rw [h.len]; exact hk
  have e0 : l[k]? = some l[k] := List.getElem?_eq_getElem hkl
  generalize l[k] = x at e0
  have h0 := h.cell (x := x) (x' := (⟨y0, x.fCents⟩ : Rate)) (k := k) (j := 0) Rate.len e0 (by omega) rfl
  have e1 : (l.set k (⟨y0, x.fCents⟩ : Rate))[k]? = some (⟨y0, x.fCents⟩ : Rate) := List.getElem?_set_self hkl
  have h1 := h0.cell (x := (⟨y0, x.fCents⟩ : Rate)) (x' := (⟨y0, y1⟩ : Rate)) (k := k) (j := 1) Rate.len e1 (by omega) rfl
  have e2 : (l.set k (⟨y0, y1⟩ : Rate))[k]? = some (⟨y0, y1⟩ : Rate) := List.getElem?_set_self hkl
  rw [List.set_set] at h1
  exact h1
def Rate.fits (x : Rate) : Prop := x.fSort.size ≤ maxLen
theorem read_Rate {H : Type} {enc : TypeId × Value → H} {W : World} {r : Reach} {b0 : Nat} {sp : Nat → Bool} {held : Bool} {v : Value} {d : DataW H} {ps : List MemPlace}
    (hval : Value.okWide Try.prog W r b0 22 v) (h : DataW.Trod enc Try.prog W 0 sp held 22 v d ps) :
    ∃ (A : Option Addr) (n c : Nat) (l : List Rate), v = .slice A n c ∧ n ≤ c ∧ c ≤ maxLen ∧ (∀ x ∈ l, x.fits) ∧ Arr Rate.cells 2 W W.heap.size A n l := by
  refine read_row Rate.cells 2 _ Try.underlying22 (by kernel_rfl) (by omega) (fun n cs x hx => ?_) hval h
  obtain ⟨hlen, hf⟩ := field_one (by kernel_rfl) Try.underlying74 hx
  have hl : cs.length = 2 := hlen.trans (by kernel_rfl)
  match cs, hl with
  | [u0, u1], _ =>
    obtain ⟨_, _, t0⟩ := hf 0 _ rfl u0 rfl
    obtain ⟨y0, e0, _, z0⟩ := DataW.trod_string Try.underlying9 t0
    obtain rfl : u0 = _ := by simpa using e0
    obtain ⟨_, _, t1⟩ := hf 1 _ rfl u1 rfl
    obtain ⟨y1, e1, _, _⟩ := DataW.trod_int Try.underlying2 t1
    obtain rfl : u1 = _ := by simpa using e1
    exact ⟨⟨y0, y1⟩, z0, rfl⟩
theorem toRate_any (a0 : ByteArray) (a1 : Int) (w : World) :
    Calls Try.prog 57 #[.agg #[.string a0, .int .i64 a1]] w fun e w' => e = .returned (.agg #[.string a0, .int .i64 a1]) ∧ Below w.heap.size w w' := by
  go_enter Try.func57, Try.ntmps57
  go_wp2
  exact bodyPost_ret (v := .agg #[.string a0, .int .i64 a1]) (by simp [results, Try.results57, go_sem]) rfl ⟨rfl, by go_grown⟩
theorem info_Rate : (Try.prog.info? 72).map (fun i => (i.zero, i.size, i.bytes)) = some (some (.agg #[.string ByteArray.empty, .int .i64 0]), 2, 24) := by kernel_rfl
theorem toRateS_any (A : Option Addr) (n c : Nat) (l : List Rate) (w : World) (hn : n ≤ 1048576) (hr : Arr Rate.cells 2 w w.heap.size A n l) :
    Calls Try.prog 16 #[.slice A n c] w fun e w' => e = .returned (.slice (some ⟨w.heap.size, 0, none⟩) n n) ∧ Own Rate.cells 72 2 w' w.heap.size (.slice (some ⟨w.heap.size, 0, none⟩) n n) n l ∧ Below w.heap.size w w' := by
  obtain ⟨i0, hi0, hz0, hz1, hz2⟩ := info_parts info_Rate
  have hmk := fun W => run_make_rowN (P := Try.prog) 25 72 i0 _ Try.underlying25 hi0 hz0 .i64 .i64 n n (Nat.le_refl _) (by rw [hz2]; omega) (by omega) W
  rw [hz1] at hmk
  obtain ⟨cur, hcur⟩ : ∃ cur, cur = madeCells (Value.agg #[.string ByteArray.empty, .int .i64 0]).cells (n * 2) := ⟨_, rfl⟩
  rw [← hcur] at hmk
  have hcl : cur.toList = (List.replicate n (⟨ByteArray.empty, 0⟩ : Rate)).flatMap Rate.cells := by rw [hcur]; exact made_flat Rate.len (by omega) #[.string ByteArray.empty, .int .i64 0] ⟨ByteArray.empty, 0⟩ rfl n
  clear hcur
  have hmade : Own Rate.cells 72 2 (w.alloc (.cells cur 72)) w.heap.size (.slice (some ⟨w.heap.size, 0, none⟩) n n) n (List.replicate n (⟨ByteArray.empty, 0⟩ : Rate)) :=
    Own.made w (Nat.le_refl _) (by unfold maxLen; omega) _ Rate.len cur hcl
  clear hcl
  have hlen := hide hr.len
  go_enter Try.func16, Try.ntmps16
  go_wp2
  go_loopw [4] (fun i wr => ∃ k : Nat, k ≤ n ∧ i = .int .i64 k ∧ Below w.heap.size w wr ∧ w.heap.size < wr.heap.size ∧ Own Rate.cells 72 2 wr w.heap.size (.slice (some ⟨w.heap.size, 0, none⟩) n n) n (l.take k ++ List.replicate (n - k) ⟨ByteArray.empty, 0⟩)) (fun i _ => n - (intOf i).toNat)
  case atStart => exact ⟨0, Nat.zero_le _, rfl, by go_grown, by simp, by simpa using hmade⟩
  case round =>
    obtain ⟨k, hk, rfl, hb, hsz, hown⟩ := hrel
    clear hmade
    by_cases hlt : k < n
    · obtain ⟨b, o, x, rfl, hbl, hx, c0, c1⟩ := hr.Rate hlt
      have d0 : wr.cell? ⟨b, o + k * 2, none⟩ = some (.string x.fSort) := (hb.cell (p := ⟨b, o + k * 2, none⟩) hbl).trans c0
      have d1 : wr.cell? ⟨b, o + k * 2 + 1, none⟩ = some (.int .i64 x.fCents) := (hb.cell (p := ⟨b, o + k * 2 + 1, none⟩) hbl).trans c1
      clear c0 c1 hr
      have hB := hide hb
      clear hb
      have hcap : (k : Int) < n := by omega
      have hO := hide hown
      clear hown
 
      go_wp2_with (go_at_call 57; refine (toRate_any _ _ _).mono ?_; rintro e w1 ⟨rfl, hb1⟩; have hB1 := hide hb1; have hO1 := hide (hO.out.below hb1); have hsz1 : w.heap.size < w1.heap.size := Nat.lt_of_lt_of_le hsz hb1.size; obtain ⟨x1, hx1, f0, f1, z0, z1⟩ := hO1.out.Rate_at hlt; have HX1 := hide hx1; clear hx1 hb1)
      all_goals go_roundw
      case rel => exact ⟨k + 1, by omega, by go_num, (((hB.out.trans (hB1.out.mono (Nat.le_of_lt hsz))).setCell (Nat.le_refl _) _).setCell (Nat.le_refl _) _), by simp only [World.size_setCell]; exact hsz1, by have := hO1.out.Rate_store hlt x.fSort x.fCents; rw [fill_set hlen.out hx] at this; exact this⟩
      case measure => simp [intOf]; omega
    · have hkn : k = n := by omega
      go_wp2
      go_ret
      exact ⟨rfl, by have := hown; rw [hkn, Nat.sub_self, List.replicate_zero, List.append_nil, List.take_of_length_le (by rw [hlen.out]; exact Nat.le_refl _)] at this; exact this, hb⟩
def Rate.wt (x : Rate) : Int := (x.fSort.size : Int)
theorem Rate.wt_nonneg (x : Rate) : 0 ≤ x.wt := by unfold Rate.wt; omega
def Rate.pre (l : List Rate) : Int := (l.map Rate.wt).sum
theorem Rate.pre_nonneg (l : List Rate) : 0 ≤ Rate.pre l := by
  unfold Rate.pre
  induction l with
  | nil => simp
  | cons a l ih => have := a.wt_nonneg; simp only [List.map_cons, List.sum_cons]; omega
theorem Rate.pre_snoc {l : List Rate} {k : Nat} {x : Rate} (h : l[k]? = some x) : Rate.pre (l.take (k + 1)) = Rate.pre (l.take k) + x.wt := by
  unfold Rate.pre; rw [take_snoc h]; simp
theorem Rate.pre_le (l : List Rate) (k : Nat) : Rate.pre (l.take k) ≤ Rate.pre l := by
  have h := Rate.pre_nonneg (l.drop k)
  have : Rate.pre l = Rate.pre (l.take k) + Rate.pre (l.drop k) := by unfold Rate.pre; rw [← List.sum_append, ← List.map_append, List.take_append_drop]
  omega
theorem Rate.wt_le {l : List Rate} {x : Rate} (h : x ∈ l) : x.wt ≤ Rate.pre l := by
  obtain ⟨k, hk⟩ := List.mem_iff_getElem?.1 h
  have h1 := Rate.pre_snoc hk; have h2 := Rate.pre_le l (k + 1); have h3 := Rate.pre_nonneg (l.take k)
  omega
def Rate.tot (l : List Rate) : Int := l.length + Rate.pre l
theorem szRate_any (x : Rate) (r : Int) (w : World) (hx : x.fits) (h0 : 0 ≤ r) (h1 : r ≤ 1048576) :
    Calls Try.prog 55 #[.agg #[.string x.fSort, .int .i64 x.fCents], .int .i64 r] w fun e w' => e = .returned (.int .i64 (szv (r - x.wt))) ∧ Below w.heap.size w w' := by
  unfold Rate.fits maxLen at hx
  unfold Rate.wt
  obtain ⟨a0, a1⟩ := x
  simp only at hx ⊢
  by_cases g0 : r - a0.size < 0
  · rw [szv_neg (by omega)]
    go_enter Try.func55, Try.ntmps55
    go_wp2
    go_ret; exact ⟨rfl, by go_grown⟩
  rw [szv_pos (by omega)]
  go_enter Try.func55, Try.ntmps55
  go_wp2
  go_ret; exact ⟨ret1 (by omega), by go_grown⟩
theorem szRateS_any (A : Option Addr) (n c : Nat) (l : List Rate) (r : Int) (w : World) (hn : n ≤ maxLen) (h0 : 0 ≤ r) (h1 : r ≤ 1048576) (hr : Arr Rate.cells 2 w w.heap.size A n l) (hfit : ∀ x ∈ l, x.fits) :
    Calls Try.prog 14 #[.slice A n c, .int .i64 r] w fun e w' => e = .returned (.int .i64 (szv (r - Rate.tot l))) ∧ Below w.heap.size w w' := by
  have hl := hide hr.len
  have ht : Hid (Rate.tot l = n + Rate.pre l) := by unfold Rate.tot; rw [hr.len]; rfl
  have hp0 := Rate.pre_nonneg l
  unfold maxLen at hn
  by_cases h : r - n < 0
  · go_enter Try.func14, Try.ntmps14
    go_wp2
    go_ret; exact ⟨ret1 (Eq.symm (by rw [ht.out]; exact szv_neg (by omega))), Below.refl _ _⟩
  · have hFit := hide hfit
    clear hfit
    have hn2 : n ≤ 1048576 := by omega
    go_enter Try.func14, Try.ntmps14
    go_wp2
    go_loopw [1, 5] (fun q i wr => ∃ (k : Nat) (z : Int), k ≤ n ∧ i = .int .i64 k ∧ q = .int .i64 z ∧ 0 ≤ z ∧ z ≤ 1048576 ∧ Below w.heap.size w wr ∧ Hid (z = r - n - Rate.pre (l.take k))) (fun _ i _ => n - (intOf i).toNat)
    case atStart => exact ⟨0, r - n, Nat.zero_le _, rfl, rfl, by omega, by omega, Below.refl _ _, hide (by unfold Rate.pre; simp)⟩
    case round =>
      obtain ⟨k, z, hk, rfl, rfl, hz0, hz1, hb, hz⟩ := hrel
      by_cases hlt : k < n
      · obtain ⟨b, o, x, rfl, hbl, hx, c0, c1⟩ := hr.Rate hlt
        have d0 : wr.cell? ⟨b, o + k * 2, none⟩ = some (.string x.fSort) := (hb.cell (p := ⟨b, o + k * 2, none⟩) hbl).trans c0
        have d1 : wr.cell? ⟨b, o + k * 2 + 1, none⟩ = some (.int .i64 x.fCents) := (hb.cell (p := ⟨b, o + k * 2 + 1, none⟩) hbl).trans c1
        have hX := hide hx
        have hB := hide hb
        clear c0 c1 hr hx hb
        have hxm : x ∈ l := List.mem_of_getElem? hX.out
        have hxf := hFit.out x hxm
        have hxw := x.wt_nonneg
        have hsn := hide (Rate.pre_snoc hX.out)
        have hle := hide (Rate.pre_le l (k + 1))
        clear hxm
        by_cases hz2 : z - x.wt < 0
        · have hsv := szv_neg hz2
          go_wp2_with (go_at_call 55; refine (szRate_any x z _ hxf hz0 hz1).mono ?_; rintro e w1 ⟨rfl, hb1⟩; have hB1 := hide (hB.out.trans (hb1.mono hB.out.size)); clear hb1)
          go_ret
          exact ⟨ret1 (Eq.symm (by rw [ht.out]; exact szv_neg (by have e1 := hz.out; have e2 := hsn.out; have e3 := hle.out; omega))), hB1.out⟩
        · have hsv := szv_pos (x := z - x.wt) (by omega)
          go_wp2_with (go_at_call 55; refine (szRate_any x z _ hxf hz0 hz1).mono ?_; rintro e w1 ⟨rfl, hb1⟩; have hB1 := hide (hB.out.trans (hb1.mono hB.out.size)); clear hb1)
          go_roundw
          case rel => exact ⟨k + 1, z - x.wt, by omega, by go_num, rfl, by omega, by omega, hB1.out, hide (by have e1 := hz.out; have e2 := hsn.out; omega)⟩
          case measure => simp [intOf]; omega
      · have hkn : k = n := by omega
        subst hkn
        have hB := hide hb
        clear hb
        go_wp2
        go_ret
        exact ⟨ret1 (by rw [ht.out]; have e1 := hz.out; rw [List.take_of_length_le (by rw [hl.out]; exact Nat.le_refl _)] at e1; rw [szv_pos (by omega)]; omega), hB.out⟩
theorem eqRate_fields (a0 : ByteArray) (a1 : Int) (b0 : ByteArray) (b1 : Int) (w : World) :
    Calls Try.prog 60 #[.agg #[.string a0, .int .i64 a1], .agg #[.string b0, .int .i64 b1]] w fun e w' => e = .returned (.bool (Rate.same (⟨a0, a1⟩ : Rate) (⟨b0, b1⟩ : Rate))) ∧ Below w.heap.size w w' := by
  by_cases h : (⟨a0, a1⟩ : Rate) = (⟨b0, b1⟩ : Rate)
  · injection h with h0 h1
    subst h0 h1
    rw [Rate.same_true.2 rfl]
    go_enter Try.func60, Try.ntmps60
    go_wp2
    go_ret; exact ⟨rfl, by go_grown⟩
  · rw [Rate.same_false.2 h]
    by_cases g0 : a0 = b0
    · subst g0
      by_cases g1 : a1 = b1
      · subst g1
        exact absurd rfl h
      · clear h
        have e1 : (a1 != b1) = true := by simp [g1]
        clear g1
        go_enter Try.func60, Try.ntmps60
        go_wp2
        go_ret; exact ⟨rfl, by go_grown⟩
    · clear h
      have e1 := str_ne g0
      clear g0
      go_enter Try.func60, Try.ntmps60
      go_wp2
      go_ret; exact ⟨rfl, by go_grown⟩
theorem eqRate_any (x y : Rate) (w : World) : Calls Try.prog 60 #[.agg #[.string x.fSort, .int .i64 x.fCents], .agg #[.string y.fSort, .int .i64 y.fCents]] w fun e w' => e = .returned (.bool (x.same y)) ∧ Below w.heap.size w w' := eqRate_fields _ _ _ _ w
theorem eqRateS_any (A A' : Option Addr) (n c n' c' : Nat) (l l' : List Rate) (w : World) (hn : n ≤ 1048576) (hr : Arr Rate.cells 2 w w.heap.size A n l) (hr' : Arr Rate.cells 2 w w.heap.size A' n' l') :
    Calls Try.prog 18 #[.slice A n c, .slice A' n' c'] w fun e w' => e = .returned (.bool (decide (l = l'))) ∧ Below w.heap.size w w' := by
  have hl := hide hr.len
  have hl' := hide hr'.len
  by_cases hne : n = n'
  · subst hne
    have hpost : Hid (l = l' ↔ l.take n = l'.take n) := by
      have h1 := hl.out; have h2 := hl'.out
      show _ ↔ _
      rw [List.take_of_length_le (by omega), List.take_of_length_le (by omega)]
    go_enter Try.func18, Try.ntmps18
    go_wp2
    go_loopw [5] (fun i wr => ∃ k : Nat, k ≤ n ∧ i = .int .i64 k ∧ Below w.heap.size w wr ∧ Hid (l.take k = l'.take k)) (fun i _ => n - (intOf i).toNat)
    case atStart => exact ⟨0, Nat.zero_le _, rfl, Below.refl _ _, hide (by simp)⟩
    case round =>
      obtain ⟨k, hk, rfl, hb, hpre⟩ := hrel
      by_cases hlt : k < n
      · obtain ⟨b, o, x, rfl, hbl, hx, c0, c1⟩ := hr.Rate hlt
        obtain ⟨b', o', y, rfl, hbl', hy, f0, f1⟩ := hr'.Rate hlt
        have d0 : wr.cell? ⟨b, o + k * 2, none⟩ = some (.string x.fSort) := (hb.cell (p := ⟨b, o + k * 2, none⟩) hbl).trans c0
        have g0 : wr.cell? ⟨b', o' + k * 2, none⟩ = some (.string y.fSort) := (hb.cell (p := ⟨b', o' + k * 2, none⟩) hbl').trans f0
        have d1 : wr.cell? ⟨b, o + k * 2 + 1, none⟩ = some (.int .i64 x.fCents) := (hb.cell (p := ⟨b, o + k * 2 + 1, none⟩) hbl).trans c1
        have g1 : wr.cell? ⟨b', o' + k * 2 + 1, none⟩ = some (.int .i64 y.fCents) := (hb.cell (p := ⟨b', o' + k * 2 + 1, none⟩) hbl').trans f1
        have hX := hide hx
        have hY := hide hy
        have hB := hide hb
        clear c0 f0 c1 f1 hr hr' hx hy hb
        have hlt' : (k : Int) < (n : Int) := by omega
        have hk0 : (0 : Int) ≤ (k : Int) := by omega
        go_wp2_with fail
        go_still_tail 8, (by kernel_rfl)
        change wpList _ _ _ _ _ wr.drew
        have hB2 := hide (Below.drew hB.out)
        cases hxy : x.same y
        · go_wp2_with (go_at_call 60; refine (eqRate_any x y _).mono ?_; rintro e w1 ⟨rfl, hb1⟩; have hB1 := hide (hB2.out.trans (hb1.mono hB2.out.size)); clear hb1)
          go_ret
          refine ⟨retB (Eq.symm (decide_eq_false fun he => ?_)), hB1.out⟩
          subst he
          rw [hX.out] at hY
          have := Option.some.inj hY.out
          subst this
          exact Rate.same_false.1 hxy rfl
        · go_wp2_with (go_at_call 60; refine (eqRate_any x y _).mono ?_; rintro e w1 ⟨rfl, hb1⟩; have hB1 := hide (hB2.out.trans (hb1.mono hB2.out.size)); clear hb1)
          go_roundw
          case rel => exact ⟨k + 1, by omega, by go_num, hB1.out, hide (by rw [take_snoc hX.out, take_snoc hY.out, hpre.out, Rate.same_true.1 hxy])⟩
          case measure => simp [intOf]; omega
      · have hkn : k = n := by omega
        subst hkn
        have hB := hide hb
        clear hb
        go_wp2
        go_ret
        exact ⟨retB (Eq.symm (decide_eq_true (hpost.out.2 hpre.out))), hB.out⟩
  · have e1 : ((n : Int) != (n' : Int)) = true := by simp; omega
    have hd : Hid (decide (l = l') = false) := decide_eq_false fun he => hne (by rw [← hl.out, ← hl'.out, he])
    clear hne
    go_enter Try.func18, Try.ntmps18
    go_wp2
    go_ret
    exact ⟨retB hd.out.symm, Below.refl _ _⟩
end Go.Proofs.Ytfaonikmmpjopaa
