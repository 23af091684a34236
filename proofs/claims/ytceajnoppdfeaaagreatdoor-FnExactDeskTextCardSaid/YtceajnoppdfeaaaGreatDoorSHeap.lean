/- The struct Heap: its cells, slices of it, and the contracts of the laws' own helpers on it (copying, comparing, measuring). -/
import Derived.Test.YtceajnoppdfeaaaGreatDoorKit
namespace Go.Proofs.YtceajnoppdfeaaaGreatDoor
open Go.ChangeShapes Go.WideShapes Go.ChangeAt Go.RowKit Go.Deep
set_option maxRecDepth 100000
structure Heap where
  fSort : ByteArray
  fYear : Int
  fBundles : Int
  deriving DecidableEq
def Heap.cells (x : Heap) : List Value := [.string x.fSort, .int .i64 x.fYear, .int .i64 x.fBundles]
def Heap.same (x y : Heap) : Bool := decide (x = y)
theorem Heap.same_true {x y : Heap} : x.same y = true ↔ x = y := by simp [Heap.same]
theorem Heap.same_false {x y : Heap} : x.same y = false ↔ ¬ x = y := by simp [Heap.same]
theorem Heap.len (x : Heap) : x.cells.length = 3 := rfl
theorem Arr.Heap {w : World} {B : Nat} {A : Option Addr} {n : Nat} {l : List Heap} (h : Arr Heap.cells 3 w B A n l) {k : Nat} (hk : k < n) : ∃ b o x, A = some ⟨b, o, none⟩ ∧ b < B ∧ l[k]? = some x ∧ w.cell? ⟨b, o + k * 3, none⟩ = some (.string x.fSort) ∧ w.cell? ⟨b, o + k * 3 + 1, none⟩ = some (.int .i64 x.fYear) ∧ w.cell? ⟨b, o + k * 3 + 2, none⟩ = some (.int .i64 x.fBundles) := by
  obtain ⟨b, o, x, e, hb, hx, hc⟩ := h.at_ hk
  exact ⟨b, o, x, e, hb, hx, hc 0 _ rfl, hc 1 _ rfl, hc 2 _ rfl⟩
theorem Own.Heap_at {e : TypeId} {w : World} {base g n c : Nat} {l : List Heap} (h : Own Heap.cells e 3 w base (.slice (some ⟨g, 0, none⟩) n c) n l) {k : Nat} (hk : k < n) :
    ∃ x, l[k]? = some x ∧ w.cell? ⟨g, k * 3, none⟩ = some (.string x.fSort) ∧ w.cell? ⟨g, k * 3 + 1, none⟩ = some (.int .i64 x.fYear) ∧ w.cell? ⟨g, k * 3 + 2, none⟩ = some (.int .i64 x.fBundles) ∧ w.frozen? ⟨g, k * 3, none⟩ = false ∧ w.frozen? ⟨g, k * 3 + 1, none⟩ = false ∧ w.frozen? ⟨g, k * 3 + 2, none⟩ = false := by
  obtain ⟨b, o, x, hA, _, hx, c0, c1, c2⟩ := (h.arr Heap.len).Heap hk
  injection hA with hA; injection hA with h1 h2; subst h1 h2
  simp only [Nat.zero_add] at c0 c1 c2
  exact ⟨x, hx, c0, c1, c2, h.2.frozenAt _, h.2.frozenAt _, h.2.frozenAt _⟩
theorem Own.Heap_store {e : TypeId} {w : World} {base g n c : Nat} {l : List Heap} (h : Own Heap.cells e 3 w base (.slice (some ⟨g, 0, none⟩) n c) n l) {k : Nat} (hk : k < n) (y0 : ByteArray) (y1 : Int) (y2 : Int) :
    Own Heap.cells e 3 (((w.setCell ⟨g, k * 3, none⟩ (.string y0)).setCell ⟨g, k * 3 + 1, none⟩ (.int .i64 y1)).setCell ⟨g, k * 3 + 2, none⟩ (.int .i64 y2)) base (.slice (some ⟨g, 0, none⟩) n c) n (l.set k ⟨y0, y1, y2⟩) := by
  have hkl : k < l.length := by rw [h.len]; exact hk
  have e0 : l[k]? = some l[k] := List.getElem?_eq_getElem hkl
  generalize l[k] = x at e0
  have h0 := h.cell (x := x) (x' := (⟨y0, x.fYear, x.fBundles⟩ : Heap)) (k := k) (j := 0) Heap.len e0 (by omega) rfl
  have e1 : (l.set k (⟨y0, x.fYear, x.fBundles⟩ : Heap))[k]? = some (⟨y0, x.fYear, x.fBundles⟩ : Heap) := List.getElem?_set_self hkl
  have h1 := h0.cell (x := (⟨y0, x.fYear, x.fBundles⟩ : Heap)) (x' := (⟨y0, y1, x.fBundles⟩ : Heap)) (k := k) (j := 1) Heap.len e1 (by omega) rfl
  have e2 : (l.set k (⟨y0, y1, x.fBundles⟩ : Heap))[k]? = some (⟨y0, y1, x.fBundles⟩ : Heap) := List.getElem?_set_self hkl
  rw [List.set_set] at h1
  have h2 := h1.cell (x := (⟨y0, y1, x.fBundles⟩ : Heap)) (x' := (⟨y0, y1, y2⟩ : Heap)) (k := k) (j := 2) Heap.len e2 (by omega) rfl
  have e3 : (l.set k (⟨y0, y1, y2⟩ : Heap))[k]? = some (⟨y0, y1, y2⟩ : Heap) := List.getElem?_set_self hkl
  rw [List.set_set] at h2
  exact h2
def Heap.fits (x : Heap) : Prop := x.fSort.size ≤ maxLen
theorem read_Heap {H : Type} {enc : TypeId × Value → H} {W : World} {r : Reach} {b0 : Nat} {sp : Nat → Bool} {held : Bool} {v : Value} {d : DataW H} {ps : List MemPlace}
    (hval : Value.okWide Tryz.prog W r b0 23 v) (h : DataW.Trod enc Tryz.prog W 0 sp held 23 v d ps) :
    ∃ (A : Option Addr) (n c : Nat) (l : List Heap), v = .slice A n c ∧ n ≤ c ∧ c ≤ maxLen ∧ (∀ x ∈ l, x.fits) ∧ Arr Heap.cells 3 W W.heap.size A n l := by
  refine read_row Heap.cells 3 _ Tryz.underlying23 (by kernel_rfl) (by omega) (fun n cs x hx => ?_) hval h
  obtain ⟨hlen, hf⟩ := field_one (by kernel_rfl) Tryz.underlying53 hx
  have hl : cs.length = 3 := hlen.trans (by kernel_rfl)
  match cs, hl with
  | [u0, u1, u2], _ =>
    obtain ⟨_, _, t0⟩ := hf 0 _ rfl u0 rfl
    obtain ⟨y0, e0, _, z0⟩ := DataW.trod_string Tryz.underlying9 t0
    obtain rfl : u0 = _ := by simpa using e0
    obtain ⟨_, _, t1⟩ := hf 1 _ rfl u1 rfl
    obtain ⟨y1, e1, _, _⟩ := DataW.trod_int Tryz.underlying2 t1
    obtain rfl : u1 = _ := by simpa using e1
    obtain ⟨_, _, t2⟩ := hf 2 _ rfl u2 rfl
    obtain ⟨y2, e2, _, _⟩ := DataW.trod_int Tryz.underlying2 t2
    obtain rfl : u2 = _ := by simpa using e2
    exact ⟨⟨y0, y1, y2⟩, z0, rfl⟩
theorem read_VHeap {H : Type} {enc : TypeId × Value → H} {W : World} {r : Reach} {b0 : Nat} {sp : Nat → Bool} {held : Bool} {v : Value} {d : DataW H} {ps : List MemPlace}
    (hval : Value.okWide Tryz.prog W r b0 53 v) (h : DataW.Trod enc Tryz.prog W 0 sp held 53 v d ps) : ∃ x : Heap, v = .agg #[.string x.fSort, .int .i64 x.fYear, .int .i64 x.fBundles] ∧ x.fits := by
  obtain ⟨cs, rfl, hsz⟩ := okWide_struct Tryz.underlying53 hval
  obtain ⟨fuel, hx⟩ := h
  obtain ⟨hlen, hf⟩ := field_one (by kernel_rfl) Tryz.underlying53 hx
  obtain ⟨l⟩ := cs
  have hl : l.length = 3 := hsz.trans (by kernel_rfl)
  clear hlen hsz hx hval
  match l, hl with
  | [u0, u1, u2], _ =>
    obtain ⟨_, _, t0⟩ := hf 0 _ rfl u0 rfl
    obtain ⟨y0, e0, _, z0⟩ := DataW.trod_string Tryz.underlying9 t0
    obtain rfl : u0 = _ := by simpa using e0
    obtain ⟨_, _, t1⟩ := hf 1 _ rfl u1 rfl
    obtain ⟨y1, e1, _, _⟩ := DataW.trod_int Tryz.underlying2 t1
    obtain rfl : u1 = _ := by simpa using e1
    obtain ⟨_, _, t2⟩ := hf 2 _ rfl u2 rfl
    obtain ⟨y2, e2, _, _⟩ := DataW.trod_int Tryz.underlying2 t2
    obtain rfl : u2 = _ := by simpa using e2
    exact ⟨⟨y0, y1, y2⟩, rfl, z0⟩
theorem toHeap_any (a0 : ByteArray) (a1 : Int) (a2 : Int) (w : World) :
    Calls Tryz.prog 33 #[.agg #[.string a0, .int .i64 a1, .int .i64 a2]] w fun e w' => e = .returned (.agg #[.string a0, .int .i64 a1, .int .i64 a2]) ∧ Below w.heap.size w w' := by
  go_enter Tryz.func33, Tryz.ntmps33
  go_wp2
  exact bodyPost_ret (v := .agg #[.string a0, .int .i64 a1, .int .i64 a2]) (by simp [results, Tryz.results33, go_sem]) rfl ⟨rfl, by go_grown⟩
theorem info_Heap : (Tryz.prog.info? 61).map (fun i => (i.zero, i.size, i.bytes)) = some (some (.agg #[.string ByteArray.empty, .int .i64 0, .int .i64 0]), 3, 32) := by kernel_rfl
theorem toHeapS_any (A : Option Addr) (n c : Nat) (l : List Heap) (w : World) (hn : n ≤ 1048576) (hr : Arr Heap.cells 3 w w.heap.size A n l) :
    Calls Tryz.prog 16 #[.slice A n c] w fun e w' => e = .returned (.slice (some ⟨w.heap.size, 0, none⟩) n n) ∧ Own Heap.cells 61 3 w' w.heap.size (.slice (some ⟨w.heap.size, 0, none⟩) n n) n l ∧ Below w.heap.size w w' := by
  obtain ⟨i0, hi0, hz0, hz1, hz2⟩ := info_parts info_Heap
  have hmk := fun W => run_make_rowN (P := Tryz.prog) 29 61 i0 _ Tryz.underlying29 hi0 hz0 .i64 .i64 n n (Nat.le_refl _) (by rw [hz2]; omega) (by omega) W
  rw [hz1] at hmk
  obtain ⟨cur, hcur⟩ : ∃ cur, cur = madeCells (Value.agg #[.string ByteArray.empty, .int .i64 0, .int .i64 0]).cells (n * 3) := ⟨_, rfl⟩
  rw [← hcur] at hmk
  have hcl : cur.toList = (List.replicate n (⟨ByteArray.empty, 0, 0⟩ : Heap)).flatMap Heap.cells := by rw [hcur]; exact made_flat Heap.len (by omega) #[.string ByteArray.empty, .int .i64 0, .int .i64 0] ⟨ByteArray.empty, 0, 0⟩ rfl n
  clear hcur
  have hmade : Own Heap.cells 61 3 (w.alloc (.cells cur 61)) w.heap.size (.slice (some ⟨w.heap.size, 0, none⟩) n n) n (List.replicate n (⟨ByteArray.empty, 0, 0⟩ : Heap)) :=
    Own.made w (Nat.le_refl _) (by unfold maxLen; omega) _ Heap.len cur hcl
  clear hcl
  have hlen := hide hr.len
  go_enter Tryz.func16, Tryz.ntmps16
  go_wp2
  go_loopw [4] (fun i wr => ∃ k : Nat, k ≤ n ∧ i = .int .i64 k ∧ Below w.heap.size w wr ∧ w.heap.size < wr.heap.size ∧ Own Heap.cells 61 3 wr w.heap.size (.slice (some ⟨w.heap.size, 0, none⟩) n n) n (l.take k ++ List.replicate (n - k) ⟨ByteArray.empty, 0, 0⟩)) (fun i _ => n - (intOf i).toNat)
  case atStart => exact ⟨0, Nat.zero_le _, rfl, by go_grown, by simp, by simpa using hmade⟩
  case round =>
    obtain ⟨k, hk, rfl, hb, hsz, hown⟩ := hrel
    clear hmade
    by_cases hlt : k < n
    · obtain ⟨b, o, x, rfl, hbl, hx, c0, c1, c2⟩ := hr.Heap hlt
      have d0 : wr.cell? ⟨b, o + k * 3, none⟩ = some (.string x.fSort) := (hb.cell (p := ⟨b, o + k * 3, none⟩) hbl).trans c0
      have d1 : wr.cell? ⟨b, o + k * 3 + 1, none⟩ = some (.int .i64 x.fYear) := (hb.cell (p := ⟨b, o + k * 3 + 1, none⟩) hbl).trans c1
      have d2 : wr.cell? ⟨b, o + k * 3 + 2, none⟩ = some (.int .i64 x.fBundles) := (hb.cell (p := ⟨b, o + k * 3 + 2, none⟩) hbl).trans c2
      clear c0 c1 c2 hr
      have hB := hide hb
      clear hb
      have hcap : (k : Int) < n := by omega
      have hO := hide hown
      clear hown
 
      go_wp2_with (go_at_call 33; refine (toHeap_any _ _ _ _).mono ?_; rintro e w1 ⟨rfl, hb1⟩; have hB1 := hide hb1; have hO1 := hide (hO.out.below hb1); have hsz1 : w.heap.size < w1.heap.size := Nat.lt_of_lt_of_le hsz hb1.size; obtain ⟨x1, hx1, f0, f1, f2, z0, z1, z2⟩ := hO1.out.Heap_at hlt; have HX1 := hide hx1; clear hx1 hb1)
      all_goals go_roundw
      case rel => exact ⟨k + 1, by omega, by go_num, ((((hB.out.trans (hB1.out.mono (Nat.le_of_lt hsz))).setCell (Nat.le_refl _) _).setCell (Nat.le_refl _) _).setCell (Nat.le_refl _) _), by simp only [World.size_setCell]; exact hsz1, by have := hO1.out.Heap_store hlt x.fSort x.fYear x.fBundles; rw [fill_set hlen.out hx] at this; exact this⟩
      case measure => simp [intOf]; omega
    · have hkn : k = n := by omega
      go_wp2
      go_ret
      exact ⟨rfl, by have := hown; rw [hkn, Nat.sub_self, List.replicate_zero, List.append_nil, List.take_of_length_le (by rw [hlen.out]; exact Nat.le_refl _)] at this; exact this, hb⟩
def Heap.wt (x : Heap) : Int := (x.fSort.size : Int)
theorem Heap.wt_nonneg (x : Heap) : 0 ≤ x.wt := by unfold Heap.wt; omega
def Heap.pre (l : List Heap) : Int := (l.map Heap.wt).sum
theorem Heap.pre_nonneg (l : List Heap) : 0 ≤ Heap.pre l := by
  unfold Heap.pre
  induction l with
  | nil => simp
  | cons a l ih => have := a.wt_nonneg; simp only [List.map_cons, List.sum_cons]; omega
theorem Heap.pre_snoc {l : List Heap} {k : Nat} {x : Heap} (h : l[k]? = some x) : Heap.pre (l.take (k + 1)) = Heap.pre (l.take k) + x.wt := by
  unfold Heap.pre; rw [take_snoc h]; simp
theorem Heap.pre_le (l : List Heap) (k : Nat) : Heap.pre (l.take k) ≤ Heap.pre l := by
  have h := Heap.pre_nonneg (l.drop k)
  have : Heap.pre l = Heap.pre (l.take k) + Heap.pre (l.drop k) := by unfold Heap.pre; rw [← List.sum_append, ← List.map_append, List.take_append_drop]
  omega
theorem Heap.wt_le {l : List Heap} {x : Heap} (h : x ∈ l) : x.wt ≤ Heap.pre l := by
  obtain ⟨k, hk⟩ := List.mem_iff_getElem?.1 h
  have h1 := Heap.pre_snoc hk; have h2 := Heap.pre_le l (k + 1); have h3 := Heap.pre_nonneg (l.take k)
  omega
def Heap.tot (l : List Heap) : Int := l.length + Heap.pre l
theorem szHeap_any (x : Heap) (r : Int) (w : World) (hx : x.fits) (h0 : 0 ≤ r) (h1 : r ≤ 1048576) :
    Calls Tryz.prog 26 #[.agg #[.string x.fSort, .int .i64 x.fYear, .int .i64 x.fBundles], .int .i64 r] w fun e w' => e = .returned (.int .i64 (szv (r - x.wt))) ∧ Below w.heap.size w w' := by
  unfold Heap.fits maxLen at hx
  unfold Heap.wt
  obtain ⟨a0, a1, a2⟩ := x
  simp only at hx ⊢
  by_cases g0 : r - a0.size < 0
  · rw [szv_neg (by omega)]
    go_enter Tryz.func26, Tryz.ntmps26
    go_wp2
    go_ret; exact ⟨rfl, by go_grown⟩
  rw [szv_pos (by omega)]
  go_enter Tryz.func26, Tryz.ntmps26
  go_wp2
  go_ret; exact ⟨ret1 (by omega), by go_grown⟩
theorem szHeapS_any (A : Option Addr) (n c : Nat) (l : List Heap) (r : Int) (w : World) (hn : n ≤ maxLen) (h0 : 0 ≤ r) (h1 : r ≤ 1048576) (hr : Arr Heap.cells 3 w w.heap.size A n l) (hfit : ∀ x ∈ l, x.fits) :
    Calls Tryz.prog 13 #[.slice A n c, .int .i64 r] w fun e w' => e = .returned (.int .i64 (szv (r - Heap.tot l))) ∧ Below w.heap.size w w' := by
  have hl := hide hr.len
  have ht : Hid (Heap.tot l = n + Heap.pre l) := by unfold Heap.tot; rw [hr.len]; rfl
  have hp0 := Heap.pre_nonneg l
  unfold maxLen at hn
  by_cases h : r - n < 0
  · go_enter Tryz.func13, Tryz.ntmps13
    go_wp2
    go_ret; exact ⟨ret1 (Eq.symm (by rw [ht.out]; exact szv_neg (by omega))), Below.refl _ _⟩
  · have hFit := hide hfit
    clear hfit
    have hn2 : n ≤ 1048576 := by omega
    go_enter Tryz.func13, Tryz.ntmps13
    go_wp2
    go_loopw [1, 5] (fun q i wr => ∃ (k : Nat) (z : Int), k ≤ n ∧ i = .int .i64 k ∧ q = .int .i64 z ∧ 0 ≤ z ∧ z ≤ 1048576 ∧ Below w.heap.size w wr ∧ Hid (z = r - n - Heap.pre (l.take k))) (fun _ i _ => n - (intOf i).toNat)
    case atStart => exact ⟨0, r - n, Nat.zero_le _, rfl, rfl, by omega, by omega, Below.refl _ _, hide (by unfold Heap.pre; simp)⟩
    case round =>
      obtain ⟨k, z, hk, rfl, rfl, hz0, hz1, hb, hz⟩ := hrel
      by_cases hlt : k < n
      · obtain ⟨b, o, x, rfl, hbl, hx, c0, c1, c2⟩ := hr.Heap hlt
        have d0 : wr.cell? ⟨b, o + k * 3, none⟩ = some (.string x.fSort) := (hb.cell (p := ⟨b, o + k * 3, none⟩) hbl).trans c0
        have d1 : wr.cell? ⟨b, o + k * 3 + 1, none⟩ = some (.int .i64 x.fYear) := (hb.cell (p := ⟨b, o + k * 3 + 1, none⟩) hbl).trans c1
        have d2 : wr.cell? ⟨b, o + k * 3 + 2, none⟩ = some (.int .i64 x.fBundles) := (hb.cell (p := ⟨b, o + k * 3 + 2, none⟩) hbl).trans c2
        have hX := hide hx
        have hB := hide hb
        clear c0 c1 c2 hr hx hb
        have hxm : x ∈ l := List.mem_of_getElem? hX.out
        have hxf := hFit.out x hxm
        have hxw := x.wt_nonneg
        have hsn := hide (Heap.pre_snoc hX.out)
        have hle := hide (Heap.pre_le l (k + 1))
        clear hxm
        by_cases hz2 : z - x.wt < 0
        · have hsv := szv_neg hz2
          go_wp2_with (go_at_call 26; refine (szHeap_any x z _ hxf hz0 hz1).mono ?_; rintro e w1 ⟨rfl, hb1⟩; have hB1 := hide (hB.out.trans (hb1.mono hB.out.size)); clear hb1)
          go_ret
          exact ⟨ret1 (Eq.symm (by rw [ht.out]; exact szv_neg (by have e1 := hz.out; have e2 := hsn.out; have e3 := hle.out; omega))), hB1.out⟩
        · have hsv := szv_pos (x := z - x.wt) (by omega)
          go_wp2_with (go_at_call 26; refine (szHeap_any x z _ hxf hz0 hz1).mono ?_; rintro e w1 ⟨rfl, hb1⟩; have hB1 := hide (hB.out.trans (hb1.mono hB.out.size)); clear hb1)
          go_roundw
          case rel => exact ⟨k + 1, z - x.wt, by omega, by go_num, rfl, by omega, by omega, hB1.out, hide (by have e1 := hz.out; have e2 := hsn.out; omega)⟩
          case measure => simp [intOf]; omega
      · have hkn : k = n := by omega
        subst hkn
        have hB := hide hb
        clear hb
        go_wp2
        go_ret
        exact ⟨ret1 (by rw [ht.out]; have e1 := hz.out; rw [List.take_of_length_le (by rw [hl.out]; exact Nat.le_refl _)] at e1; rw [szv_pos (by omega)]; omega), hB.out⟩
theorem eqHeap_fields (a0 : ByteArray) (a1 : Int) (a2 : Int) (b0 : ByteArray) (b1 : Int) (b2 : Int) (w : World) :
    Calls Tryz.prog 40 #[.agg #[.string a0, .int .i64 a1, .int .i64 a2], .agg #[.string b0, .int .i64 b1, .int .i64 b2]] w fun e w' => e = .returned (.bool (Heap.same (⟨a0, a1, a2⟩ : Heap) (⟨b0, b1, b2⟩ : Heap))) ∧ Below w.heap.size w w' := by
  by_cases h : (⟨a0, a1, a2⟩ : Heap) = (⟨b0, b1, b2⟩ : Heap)
  · injection h with h0 h1 h2
    subst h0 h1 h2
    rw [Heap.same_true.2 rfl]
    go_enter Tryz.func40, Tryz.ntmps40
    go_wp2
    go_ret; exact ⟨rfl, by go_grown⟩
  · rw [Heap.same_false.2 h]
    by_cases g0 : a0 = b0
    · subst g0
      by_cases g1 : a1 = b1
      · subst g1
        by_cases g2 : a2 = b2
        · subst g2
          exact absurd rfl h
        · clear h
          have e1 : (a2 != b2) = true := by simp [g2]
          clear g2
          go_enter Tryz.func40, Tryz.ntmps40
          go_wp2
          go_ret; exact ⟨rfl, by go_grown⟩
      · clear h
        have e1 : (a1 != b1) = true := by simp [g1]
        clear g1
        go_enter Tryz.func40, Tryz.ntmps40
        go_wp2
        go_ret; exact ⟨rfl, by go_grown⟩
    · clear h
      have e1 := str_ne g0
      clear g0
      go_enter Tryz.func40, Tryz.ntmps40
      go_wp2
      go_ret; exact ⟨rfl, by go_grown⟩
theorem eqHeap_any (x y : Heap) (w : World) : Calls Tryz.prog 40 #[.agg #[.string x.fSort, .int .i64 x.fYear, .int .i64 x.fBundles], .agg #[.string y.fSort, .int .i64 y.fYear, .int .i64 y.fBundles]] w fun e w' => e = .returned (.bool (x.same y)) ∧ Below w.heap.size w w' := eqHeap_fields _ _ _ _ _ _ w
theorem eqHeapS_any (A A' : Option Addr) (n c n' c' : Nat) (l l' : List Heap) (w : World) (hn : n ≤ 1048576) (hr : Arr Heap.cells 3 w w.heap.size A n l) (hr' : Arr Heap.cells 3 w w.heap.size A' n' l') :
    Calls Tryz.prog 23 #[.slice A n c, .slice A' n' c'] w fun e w' => e = .returned (.bool (decide (l = l'))) ∧ Below w.heap.size w w' := by
  have hl := hide hr.len
  have hl' := hide hr'.len
  by_cases hne : n = n'
  · subst hne
    have hpost : Hid (l = l' ↔ l.take n = l'.take n) := by
      have h1 := hl.out; have h2 := hl'.out
      show _ ↔ _
      rw [List.take_of_length_le (by omega), List.take_of_length_le (by omega)]
    go_enter Tryz.func23, Tryz.ntmps23
    go_wp2
    go_loopw [5] (fun i wr => ∃ k : Nat, k ≤ n ∧ i = .int .i64 k ∧ Below w.heap.size w wr ∧ Hid (l.take k = l'.take k)) (fun i _ => n - (intOf i).toNat)
    case atStart => exact ⟨0, Nat.zero_le _, rfl, Below.refl _ _, hide (by simp)⟩
    case round =>
      obtain ⟨k, hk, rfl, hb, hpre⟩ := hrel
      by_cases hlt : k < n
      · obtain ⟨b, o, x, rfl, hbl, hx, c0, c1, c2⟩ := hr.Heap hlt
        obtain ⟨b', o', y, rfl, hbl', hy, f0, f1, f2⟩ := hr'.Heap hlt
        have d0 : wr.cell? ⟨b, o + k * 3, none⟩ = some (.string x.fSort) := (hb.cell (p := ⟨b, o + k * 3, none⟩) hbl).trans c0
        have g0 : wr.cell? ⟨b', o' + k * 3, none⟩ = some (.string y.fSort) := (hb.cell (p := ⟨b', o' + k * 3, none⟩) hbl').trans f0
        have d1 : wr.cell? ⟨b, o + k * 3 + 1, none⟩ = some (.int .i64 x.fYear) := (hb.cell (p := ⟨b, o + k * 3 + 1, none⟩) hbl).trans c1
        have g1 : wr.cell? ⟨b', o' + k * 3 + 1, none⟩ = some (.int .i64 y.fYear) := (hb.cell (p := ⟨b', o' + k * 3 + 1, none⟩) hbl').trans f1
        have d2 : wr.cell? ⟨b, o + k * 3 + 2, none⟩ = some (.int .i64 x.fBundles) := (hb.cell (p := ⟨b, o + k * 3 + 2, none⟩) hbl).trans c2
        have g2 : wr.cell? ⟨b', o' + k * 3 + 2, none⟩ = some (.int .i64 y.fBundles) := (hb.cell (p := ⟨b', o' + k * 3 + 2, none⟩) hbl').trans f2
        have hX := hide hx
        have hY := hide hy
        have hB := hide hb
        clear c0 f0 c1 f1 c2 f2 hr hr' hx hy hb
        have hlt' : (k : Int) < (n : Int) := by omega
        have hk0 : (0 : Int) ≤ (k : Int) := by omega
        go_wp2_with fail
        go_still_tail 8, (by kernel_rfl)
        change wpList _ _ _ _ _ wr.drew
        have hB2 := hide (Below.drew hB.out)
        cases hxy : x.same y
        · go_wp2_with (go_at_call 40; refine (eqHeap_any x y _).mono ?_; rintro e w1 ⟨rfl, hb1⟩; have hB1 := hide (hB2.out.trans (hb1.mono hB2.out.size)); clear hb1)
          go_ret
          refine ⟨retB (Eq.symm (decide_eq_false fun he => ?_)), hB1.out⟩
          subst he
          rw [hX.out] at hY
          have := Option.some.inj hY.out
          subst this
          exact Heap.same_false.1 hxy rfl
        · go_wp2_with (go_at_call 40; refine (eqHeap_any x y _).mono ?_; rintro e w1 ⟨rfl, hb1⟩; have hB1 := hide (hB2.out.trans (hb1.mono hB2.out.size)); clear hb1)
          go_roundw
          case rel => exact ⟨k + 1, by omega, by go_num, hB1.out, hide (by rw [take_snoc hX.out, take_snoc hY.out, hpre.out, Heap.same_true.1 hxy])⟩
          case measure => simp [intOf]; omega
      · have hkn : k = n := by omega
        subst hkn
        have hB := hide hb
        clear hb
        go_wp2
        go_ret
        exact ⟨retB (Eq.symm (decide_eq_true (hpost.out.2 hpre.out))), hB.out⟩
  · have e1 : ((n : Int) != (n' : Int)) = true := by simp; omega
    have hd : Hid (decide (l = l') = false) := decide_eq_false fun he => hne (by rw [← hl.out, ← hl'.out, he])
    clear hne
    go_enter Tryz.func23, Tryz.ntmps23
    go_wp2
    go_ret
    exact ⟨retB hd.out.symm, Below.refl _ _⟩
end Go.Proofs.YtceajnoppdfeaaaGreatDoor
