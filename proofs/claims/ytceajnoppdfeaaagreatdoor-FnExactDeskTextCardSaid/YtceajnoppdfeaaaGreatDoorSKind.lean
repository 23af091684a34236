/- The struct Kind: its cells, slices of it, and the contracts of the laws' own helpers on it (copying, comparing, measuring). -/
import Derived.Test.YtceajnoppdfeaaaGreatDoorKit
namespace Go.Proofs.YtceajnoppdfeaaaGreatDoor
open Go.ChangeShapes Go.WideShapes Go.ChangeAt Go.RowKit Go.Deep
set_option maxRecDepth 100000
structure Kind where
  fReach : Int
  fHave : Int
  deriving DecidableEq
def Kind.cells (x : Kind) : List Value := [.int .i64 x.fReach, .int .i64 x.fHave]
def Kind.same (x y : Kind) : Bool := decide (x = y)
theorem Kind.same_true {x y : Kind} : x.same y = true ↔ x = y := by simp [Kind.same]
theorem Kind.same_false {x y : Kind} : x.same y = false ↔ ¬ x = y := by simp [Kind.same]
theorem Kind.len (x : Kind) : x.cells.length = 2 := rfl
theorem Arr.Kind {w : World} {B : Nat} {A : Option Addr} {n : Nat} {l : List Kind} (h : Arr Kind.cells 2 w B A n l) {k : Nat} (hk : k < n) : ∃ b o x, A = some ⟨b, o, none⟩ ∧ b < B ∧ l[k]? = some x ∧ w.cell? ⟨b, o + k * 2, none⟩ = some (.int .i64 x.fReach) ∧ w.cell? ⟨b, o + k * 2 + 1, none⟩ = some (.int .i64 x.fHave) := by
  obtain ⟨b, o, x, e, hb, hx, hc⟩ := h.at_ hk
  exact ⟨b, o, x, e, hb, hx, hc 0 _ rfl, hc 1 _ rfl⟩
theorem Own.Kind_at {e : TypeId} {w : World} {base g n c : Nat} {l : List Kind} (h : Own Kind.cells e 2 w base (.slice (some ⟨g, 0, none⟩) n c) n l) {k : Nat} (hk : k < n) :
    ∃ x, l[k]? = some x ∧ w.cell? ⟨g, k * 2, none⟩ = some (.int .i64 x.fReach) ∧ w.cell? ⟨g, k * 2 + 1, none⟩ = some (.int .i64 x.fHave) ∧ w.frozen? ⟨g, k * 2, none⟩ = false ∧ w.frozen? ⟨g, k * 2 + 1, none⟩ = false := by
  obtain ⟨b, o, x, hA, _, hx, c0, c1⟩ := (h.arr Kind.len).Kind hk
  injection hA with hA; injection hA with h1 h2; subst h1 h2
  simp only [Nat.zero_add] at c0 c1
  exact ⟨x, hx, c0, c1, h.2.frozenAt _, h.2.frozenAt _⟩
theorem Own.Kind_store {e : TypeId} {w : World} {base g n c : Nat} {l : List Kind} (h : Own Kind.cells e 2 w base (.slice (some ⟨g, 0, none⟩) n c) n l) {k : Nat} (hk : k < n) (y0 : Int) (y1 : Int) :
    Own Kind.cells e 2 ((w.setCell ⟨g, k * 2, none⟩ (.int .i64 y0)).setCell ⟨g, k * 2 + 1, none⟩ (.int .i64 y1)) base (.slice (some ⟨g, 0, none⟩) n c) n (l.set k ⟨y0, y1⟩) := by
  have hkl : k < l.length := by rw [h.len]; exact hk
  have e0 : l[k]? = some l[k] := List.getElem?_eq_getElem hkl
  generalize l[k] = x at e0
  have h0 := h.cell (x := x) (x' := (⟨y0, x.fHave⟩ : Kind)) (k := k) (j := 0) Kind.len e0 (by omega) rfl
  have e1 : (l.set k (⟨y0, x.fHave⟩ : Kind))[k]? = some (⟨y0, x.fHave⟩ : Kind) := List.getElem?_set_self hkl
  have h1 := h0.cell (x := (⟨y0, x.fHave⟩ : Kind)) (x' := (⟨y0, y1⟩ : Kind)) (k := k) (j := 1) Kind.len e1 (by omega) rfl
  have e2 : (l.set k (⟨y0, y1⟩ : Kind))[k]? = some (⟨y0, y1⟩ : Kind) := List.getElem?_set_self hkl
  rw [List.set_set] at h1
  exact h1
def Kind.fits (_ : Kind) : Prop := True
theorem read_Kind {H : Type} {enc : TypeId × Value → H} {W : World} {r : Reach} {b0 : Nat} {sp : Nat → Bool} {held : Bool} {v : Value} {d : DataW H} {ps : List MemPlace}
    (hval : Value.okWide Tryz.prog W r b0 22 v) (h : DataW.Trod enc Tryz.prog W 0 sp held 22 v d ps) :
    ∃ (A : Option Addr) (n c : Nat) (l : List Kind), v = .slice A n c ∧ n ≤ c ∧ c ≤ maxLen ∧ (∀ x ∈ l, x.fits) ∧ Arr Kind.cells 2 W W.heap.size A n l := by
  refine read_row Kind.cells 2 _ Tryz.underlying22 (by kernel_rfl) (by omega) (fun n cs x hx => ?_) hval h
  obtain ⟨hlen, hf⟩ := field_one (by kernel_rfl) Tryz.underlying60 hx
  have hl : cs.length = 2 := hlen.trans (by kernel_rfl)
  match cs, hl with
  | [u0, u1], _ =>
    obtain ⟨_, _, t0⟩ := hf 0 _ rfl u0 rfl
    obtain ⟨y0, e0, _, _⟩ := DataW.trod_int Tryz.underlying2 t0
    obtain rfl : u0 = _ := by simpa using e0
    obtain ⟨_, _, t1⟩ := hf 1 _ rfl u1 rfl
    obtain ⟨y1, e1, _, _⟩ := DataW.trod_int Tryz.underlying2 t1
    obtain rfl : u1 = _ := by simpa using e1
    exact ⟨⟨y0, y1⟩, trivial, rfl⟩
theorem read_VKind {H : Type} {enc : TypeId × Value → H} {W : World} {r : Reach} {b0 : Nat} {sp : Nat → Bool} {held : Bool} {v : Value} {d : DataW H} {ps : List MemPlace}
    (hval : Value.okWide Tryz.prog W r b0 60 v) (h : DataW.Trod enc Tryz.prog W 0 sp held 60 v d ps) : ∃ x : Kind, v = .agg #[.int .i64 x.fReach, .int .i64 x.fHave] ∧ x.fits := by
  obtain ⟨cs, rfl, hsz⟩ := okWide_struct Tryz.underlying60 hval
  obtain ⟨fuel, hx⟩ := h
  obtain ⟨hlen, hf⟩ := field_one (by kernel_rfl) Tryz.underlying60 hx
  obtain ⟨l⟩ := cs
  have hl : l.length = 2 := hsz.trans (by kernel_rfl)
  clear hlen hsz hx hval
  match l, hl with
  | [u0, u1], _ =>
    obtain ⟨_, _, t0⟩ := hf 0 _ rfl u0 rfl
    obtain ⟨y0, e0, _, _⟩ := DataW.trod_int Tryz.underlying2 t0
    obtain rfl : u0 = _ := by simpa using e0
    obtain ⟨_, _, t1⟩ := hf 1 _ rfl u1 rfl
    obtain ⟨y1, e1, _, _⟩ := DataW.trod_int Tryz.underlying2 t1
    obtain rfl : u1 = _ := by simpa using e1
    exact ⟨⟨y0, y1⟩, rfl, trivial⟩
theorem toKind_any (a0 : Int) (a1 : Int) (w : World) :
    Calls Tryz.prog 32 #[.agg #[.int .i64 a0, .int .i64 a1]] w fun e w' => e = .returned (.agg #[.int .i64 a0, .int .i64 a1]) ∧ Below w.heap.size w w' := by
  go_enter Tryz.func32, Tryz.ntmps32
  go_wp2
  exact bodyPost_ret (v := .agg #[.int .i64 a0, .int .i64 a1]) (by simp [results, Tryz.results32, go_sem]) rfl ⟨rfl, by go_grown⟩
theorem info_Kind : (Tryz.prog.info? 58).map (fun i => (i.zero, i.size, i.bytes)) = some (some (.agg #[.int .i64 0, .int .i64 0]), 2, 16) := by kernel_rfl
theorem toKindS_any (A : Option Addr) (n c : Nat) (l : List Kind) (w : World) (hn : n ≤ 1048576) (hr : Arr Kind.cells 2 w w.heap.size A n l) :
    Calls Tryz.prog 15 #[.slice A n c] w fun e w' => e = .returned (.slice (some ⟨w.heap.size, 0, none⟩) n n) ∧ Own Kind.cells 58 2 w' w.heap.size (.slice (some ⟨w.heap.size, 0, none⟩) n n) n l ∧ Below w.heap.size w w' := by
  obtain ⟨i0, hi0, hz0, hz1, hz2⟩ := info_parts info_Kind
  have hmk := fun W => run_make_rowN (P := Tryz.prog) 28 58 i0 _ Tryz.underlying28 hi0 hz0 .i64 .i64 n n (Nat.le_refl _) (by rw [hz2]; omega) (by omega) W
  rw [hz1] at hmk
  obtain ⟨cur, hcur⟩ : ∃ cur, cur = madeCells (Value.agg #[.int .i64 0, .int .i64 0]).cells (n * 2) := ⟨_, rfl⟩
  rw [← hcur] at hmk
  have hcl : cur.toList = (List.replicate n (⟨0, 0⟩ : Kind)).flatMap Kind.cells := by rw [hcur]; exact made_flat Kind.len (by omega) #[.int .i64 0, .int .i64 0] ⟨0, 0⟩ rfl n
  clear hcur
  have hmade : Own Kind.cells 58 2 (w.alloc (.cells cur 58)) w.heap.size (.slice (some ⟨w.heap.size, 0, none⟩) n n) n (List.replicate n (⟨0, 0⟩ : Kind)) :=
    Own.made w (Nat.le_refl _) (by unfold maxLen; omega) _ Kind.len cur hcl
  clear hcl
  have hlen := hide hr.len
  go_enter Tryz.func15, Tryz.ntmps15
  go_wp2
  go_loopw [4] (fun i wr => ∃ k : Nat, k ≤ n ∧ i = .int .i64 k ∧ Below w.heap.size w wr ∧ w.heap.size < wr.heap.size ∧ Own Kind.cells 58 2 wr w.heap.size (.slice (some ⟨w.heap.size, 0, none⟩) n n) n (l.take k ++ List.replicate (n - k) ⟨0, 0⟩)) (fun i _ => n - (intOf i).toNat)
  case atStart => exact ⟨0, Nat.zero_le _, rfl, by go_grown, by simp, by simpa using hmade⟩
  case round =>
    obtain ⟨k, hk, rfl, hb, hsz, hown⟩ := hrel
    clear hmade
    by_cases hlt : k < n
    · obtain ⟨b, o, x, rfl, hbl, hx, c0, c1⟩ := hr.Kind hlt
      have d0 : wr.cell? ⟨b, o + k * 2, none⟩ = some (.int .i64 x.fReach) := (hb.cell (p := ⟨b, o + k * 2, none⟩) hbl).trans c0
      have d1 : wr.cell? ⟨b, o + k * 2 + 1, none⟩ = some (.int .i64 x.fHave) := (hb.cell (p := ⟨b, o + k * 2 + 1, none⟩) hbl).trans c1
      clear c0 c1 hr
      have hB := hide hb
      clear hb
      have hcap : (k : Int) < n := by omega
      have hO := hide hown
      clear hown
 
      go_wp2_with (go_at_call 32; refine (toKind_any _ _ _).mono ?_; rintro e w1 ⟨rfl, hb1⟩; have hB1 := hide hb1; have hO1 := hide (hO.out.below hb1); have hsz1 : w.heap.size < w1.heap.size := Nat.lt_of_lt_of_le hsz hb1.size; obtain ⟨x1, hx1, f0, f1, z0, z1⟩ := hO1.out.Kind_at hlt; have HX1 := hide hx1; clear hx1 hb1)
      all_goals go_roundw
      case rel => exact ⟨k + 1, by omega, by go_num, (((hB.out.trans (hB1.out.mono (Nat.le_of_lt hsz))).setCell (Nat.le_refl _) _).setCell (Nat.le_refl _) _), by simp only [World.size_setCell]; exact hsz1, by have := hO1.out.Kind_store hlt x.fReach x.fHave; rw [fill_set hlen.out hx] at this; exact this⟩
      case measure => simp [intOf]; omega
    · have hkn : k = n := by omega
      go_wp2
      go_ret
      exact ⟨rfl, by have := hown; rw [hkn, Nat.sub_self, List.replicate_zero, List.append_nil, List.take_of_length_le (by rw [hlen.out]; exact Nat.le_refl _)] at this; exact this, hb⟩
def Kind.wt (_ : Kind) : Int := 0
theorem Kind.wt_nonneg (x : Kind) : 0 ≤ x.wt := by unfold Kind.wt; omega
def Kind.pre (l : List Kind) : Int := (l.map Kind.wt).sum
theorem Kind.pre_nonneg (l : List Kind) : 0 ≤ Kind.pre l := by
  unfold Kind.pre
  induction l with
  | nil => simp
  | cons a l ih => have := a.wt_nonneg; simp only [List.map_cons, List.sum_cons]; omega
theorem Kind.pre_snoc {l : List Kind} {k : Nat} {x : Kind} (h : l[k]? = some x) : Kind.pre (l.take (k + 1)) = Kind.pre (l.take k) + x.wt := by
  unfold Kind.pre; rw [take_snoc h]; simp
theorem Kind.pre_le (l : List Kind) (k : Nat) : Kind.pre (l.take k) ≤ Kind.pre l := by
  have h := Kind.pre_nonneg (l.drop k)
  have : Kind.pre l = Kind.pre (l.take k) + Kind.pre (l.drop k) := by unfold Kind.pre; rw [← List.sum_append, ← List.map_append, List.take_append_drop]
  omega
theorem Kind.wt_le {l : List Kind} {x : Kind} (h : x ∈ l) : x.wt ≤ Kind.pre l := by
  obtain ⟨k, hk⟩ := List.mem_iff_getElem?.1 h
  have h1 := Kind.pre_snoc hk; have h2 := Kind.pre_le l (k + 1); have h3 := Kind.pre_nonneg (l.take k)
  omega
def Kind.tot (l : List Kind) : Int := l.length + Kind.pre l
theorem Kind.pre_zero (l : List Kind) : Kind.pre l = 0 := by unfold Kind.pre; induction l with | nil => rfl | cons a l ih => simp only [List.map_cons, List.sum_cons, ih]; rfl
theorem szKindS_any (A : Option Addr) (n c : Nat) (l : List Kind) (r : Int) (w : World) (hn : n ≤ maxLen) (h0 : 0 ≤ r) (h1 : r ≤ 1048576) (hr : Arr Kind.cells 2 w w.heap.size A n l) (_ : ∀ x ∈ l, x.fits) :
    Calls Tryz.prog 12 #[.slice A n c, .int .i64 r] w fun e w' => e = .returned (.int .i64 (szv (r - Kind.tot l))) ∧ Below w.heap.size w w' := by
  have ht : Kind.tot l = n := by unfold Kind.tot; rw [Kind.pre_zero, hr.len]; omega
  rw [ht]
  clear ht hr
  unfold maxLen at hn
  by_cases h : r - n < 0
  · rw [szv_neg (by omega)]
    go_enter Tryz.func12, Tryz.ntmps12
    go_wp2
    go_ret; exact ⟨rfl, Below.refl _ _⟩
  · rw [szv_pos (by omega)]
    go_enter Tryz.func12, Tryz.ntmps12
    go_wp2
    go_ret; exact ⟨rfl, Below.refl _ _⟩
theorem eqKind_fields (a0 : Int) (a1 : Int) (b0 : Int) (b1 : Int) (w : World) :
    Calls Tryz.prog 39 #[.agg #[.int .i64 a0, .int .i64 a1], .agg #[.int .i64 b0, .int .i64 b1]] w fun e w' => e = .returned (.bool (Kind.same (⟨a0, a1⟩ : Kind) (⟨b0, b1⟩ : Kind))) ∧ Below w.heap.size w w' := by
  by_cases h : (⟨a0, a1⟩ : Kind) = (⟨b0, b1⟩ : Kind)
  · injection h with h0 h1
    subst h0 h1
    rw [Kind.same_true.2 rfl]
    go_enter Tryz.func39, Tryz.ntmps39
    go_wp2
    go_ret; exact ⟨rfl, by go_grown⟩
  · rw [Kind.same_false.2 h]
    by_cases g0 : a0 = b0
    · subst g0
      by_cases g1 : a1 = b1
      · subst g1
        exact absurd rfl h
      · clear h
        have e1 : (a1 != b1) = true := by simp [g1]
        clear g1
        go_enter Tryz.func39, Tryz.ntmps39
        go_wp2
        go_ret; exact ⟨rfl, by go_grown⟩
    · clear h
      have e1 : (a0 != b0) = true := by simp [g0]
      clear g0
      go_enter Tryz.func39, Tryz.ntmps39
      go_wp2
      go_ret; exact ⟨rfl, by go_grown⟩
theorem eqKind_any (x y : Kind) (w : World) : Calls Tryz.prog 39 #[.agg #[.int .i64 x.fReach, .int .i64 x.fHave], .agg #[.int .i64 y.fReach, .int .i64 y.fHave]] w fun e w' => e = .returned (.bool (x.same y)) ∧ Below w.heap.size w w' := eqKind_fields _ _ _ _ w
theorem eqKindS_any (A A' : Option Addr) (n c n' c' : Nat) (l l' : List Kind) (w : World) (hn : n ≤ 1048576) (hr : Arr Kind.cells 2 w w.heap.size A n l) (hr' : Arr Kind.cells 2 w w.heap.size A' n' l') :
    Calls Tryz.prog 22 #[.slice A n c, .slice A' n' c'] w fun e w' => e = .returned (.bool (decide (l = l'))) ∧ Below w.heap.size w w' := by
  have hl := hide hr.len
  have hl' := hide hr'.len
  by_cases hne : n = n'
  · subst hne
    have hpost : Hid (l = l' ↔ l.take n = l'.take n) := by
      have h1 := hl.out; have h2 := hl'.out
      show _ ↔ _
      rw [List.take_of_length_le (by omega), List.take_of_length_le (by omega)]
    go_enter Tryz.func22, Tryz.ntmps22
    go_wp2
    go_loopw [5] (fun i wr => ∃ k : Nat, k ≤ n ∧ i = .int .i64 k ∧ Below w.heap.size w wr ∧ Hid (l.take k = l'.take k)) (fun i _ => n - (intOf i).toNat)
    case atStart => exact ⟨0, Nat.zero_le _, rfl, Below.refl _ _, hide (by simp)⟩
    case round =>
      obtain ⟨k, hk, rfl, hb, hpre⟩ := hrel
      by_cases hlt : k < n
      · obtain ⟨b, o, x, rfl, hbl, hx, c0, c1⟩ := hr.Kind hlt
        obtain ⟨b', o', y, rfl, hbl', hy, f0, f1⟩ := hr'.Kind hlt
        have d0 : wr.cell? ⟨b, o + k * 2, none⟩ = some (.int .i64 x.fReach) := (hb.cell (p := ⟨b, o + k * 2, none⟩) hbl).trans c0
        have g0 : wr.cell? ⟨b', o' + k * 2, none⟩ = some (.int .i64 y.fReach) := (hb.cell (p := ⟨b', o' + k * 2, none⟩) hbl').trans f0
        have d1 : wr.cell? ⟨b, o + k * 2 + 1, none⟩ = some (.int .i64 x.fHave) := (hb.cell (p := ⟨b, o + k * 2 + 1, none⟩) hbl).trans c1
        have g1 : wr.cell? ⟨b', o' + k * 2 + 1, none⟩ = some (.int .i64 y.fHave) := (hb.cell (p := ⟨b', o' + k * 2 + 1, none⟩) hbl').trans f1
        have hX := hide hx
        have hY := hide hy
        have hB := hide hb
        clear c0 f0 c1 f1 hr hr' hx hy hb
        have hlt' : (k : Int) < (n : Int) := by omega
        have hk0 : (0 : Int) ≤ (k : Int) := by omega
        go_wp2_with fail
        go_still_tail 8, (by kernel_rfl)
        change wpList _ _ _ _ _ wr.drew
        have hB2 := hide (Below.drew hB.out)
        cases hxy : x.same y
        · go_wp2_with (go_at_call 39; refine (eqKind_any x y _).mono ?_; rintro e w1 ⟨rfl, hb1⟩; have hB1 := hide (hB2.out.trans (hb1.mono hB2.out.size)); clear hb1)
          go_ret
          refine ⟨retB (Eq.symm (decide_eq_false fun he => ?_)), hB1.out⟩
          subst he
          rw [hX.out] at hY
          have := Option.some.inj hY.out
          subst this
          exact Kind.same_false.1 hxy rfl
        · go_wp2_with (go_at_call 39; refine (eqKind_any x y _).mono ?_; rintro e w1 ⟨rfl, hb1⟩; have hB1 := hide (hB2.out.trans (hb1.mono hB2.out.size)); clear hb1)
          go_roundw
          case rel => exact ⟨k + 1, by omega, by go_num, hB1.out, hide (by rw [take_snoc hX.out, take_snoc hY.out, hpre.out, Kind.same_true.1 hxy])⟩
          case measure => simp [intOf]; omega
      · have hkn : k = n := by omega
        subst hkn
        have hB := hide hb
        clear hb
        go_wp2
        go_ret
        exact ⟨retB (Eq.symm (decide_eq_true (hpost.out.2 hpre.out))), hB.out⟩
  · have e1 : ((n : Int) != (n' : Int)) = true := by simp; omega
    have hd : Hid (decide (l = l') = false) := decide_eq_false fun he => hne (by rw [← hl.out, ← hl'.out, he])
    clear hne
    go_enter Tryz.func22, Tryz.ntmps22
    go_wp2
    go_ret
    exact ⟨retB hd.out.symm, Below.refl _ _⟩
end Go.Proofs.YtceajnoppdfeaaaGreatDoor
