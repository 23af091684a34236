/- The struct Heap: its cells, slices of it, and the contracts of the laws' own helpers on it (copying, comparing, measuring). -/
import Derived.Test.YtcmcolgbkfadfaaDoorKit
namespace Go.Proofs.YtcmcolgbkfadfaaDoor
open Go.ChangeShapes Go.WideShapes Go.ChangeAt Go.RowKit Go.Deep
set_option maxRecDepth 100000
structure Heap where
  fSort : ByteArray
  fYear : Int
  fBundles : Int
  deriving DecidableEq
def Heap.cells (x : Heap) : List Value := [.string x.fSort, .int .i64 x.fYear, .int .i64 x.fBundles]
def Heap.same (x y : Heap) : Bool := decide (x = y)
theorem Heap.same_true {x y : Heap} : x.same y = true ↔ x = y := by simp [Heap.same]
theorem Heap.same_false {x y : Heap} : x.same y = false ↔ ¬ x = y := by simp [Heap.same]
theorem Heap.len (x : Heap) : x.cells.length = 3 := rfl
theorem Arr.Heap {w : World} {B : Nat} {A : Option Addr} {n : Nat} {l : List Heap} (h : Arr Heap.cells 3 w B A n l) {k : Nat} (hk : k < n) : ∃ b o x, A = some ⟨b, o, none⟩ ∧ b < B ∧ l[k]? = some x ∧ w.cell? ⟨b, o + k * 3, none⟩ = some (.string x.fSort) ∧ w.cell? ⟨b, o + k * 3 + 1, none⟩ = some (.int .i64 x.fYear) ∧ w.cell? ⟨b, o + k * 3 + 2, none⟩ = some (.int .i64 x.fBundles) := by
  obtain ⟨b, o, x, e, hb, hx, hc⟩ := h.at_ hk
  exact ⟨b, o, x, e, hb, hx, hc 0 _ rfl, hc 1 _ rfl, hc 2 _ rfl⟩
theorem Own.Heap_at {e : TypeId} {w : World} {base g n c : Nat} {l : List Heap} (h : Own Heap.cells e 3 w base (.slice (some ⟨g, 0, none⟩) n c) n l) {k : Nat} (hk : k < n) :
    ∃ x, l[k]? = some x ∧ w.cell? ⟨g, k * 3, none⟩ = some (.string x.fSort) ∧ w.cell? ⟨g, k * 3 + 1, none⟩ = some (.int .i64 x.fYear) ∧ w.cell? ⟨g, k * 3 + 2, none⟩ = some (.int .i64 x.fBundles) ∧ w.frozen? ⟨g, k * 3, none⟩ = false ∧ w.frozen? ⟨g, k * 3 + 1, none⟩ = false ∧ w.frozen? ⟨g, k * 3 + 2, none⟩ = false := by
  obtain ⟨b, o, x, hA, _, hx, c0, c1, c2⟩ := (h.arr Heap.len).Heap hk
  injection hA with hA; injection hA with h1 h2; subst h1 h2
  simp only [Nat.zero_add] at c0 c1 c2
  exact ⟨x, hx, c0, c1, c2, h.2.frozenAt _, h.2.frozenAt _, h.2.frozenAt _⟩
theorem Own.Heap_store {e : TypeId} {w : World} {base g n c : Nat} {l : List Heap} (h : Own Heap.cells e 3 w base (.slice (some ⟨g, 0, none⟩) n c) n l) {k : Nat} (hk : k < n) (y0 : ByteArray) (y1 : Int) (y2 : Int) :
    Own Heap.cells e 3 (((w.setCell ⟨g, k * 3, none⟩ (.string y0)).setCell ⟨g, k * 3 + 1, none⟩ (.int .i64 y1)).setCell ⟨g, k * 3 + 2, none⟩ (.int .i64 y2)) base (.slice (some ⟨g, 0, none⟩) n c) n (l.set k ⟨y0, y1, y2⟩) := by
  have hkl : k < l.length := by rw [h.len]; exact hk
  have e0 : l[k]? = some l[k] := List.getElem?_eq_getElem hkl
  generalize l[k] = x at e0
  have h0 := h.cell (x := x) (x' := (⟨y0, x.fYear, x.fBundles⟩ : Heap)) (k := k) (j := 0) Heap.len e0 (by omega) rfl
  have e1 : (l.set k (⟨y0, x.fYear, x.fBundles⟩ : Heap))[k]? = some (⟨y0, x.fYear, x.fBundles⟩ : Heap) := List.getElem?_set_self hkl
  have h1 := h0.cell (x := (⟨y0, x.fYear, x.fBundles⟩ : Heap)) (x' := (⟨y0, y1, x.fBundles⟩ : Heap)) (k := k) (j := 1) Heap.len e1 (by omega) rfl
  have e2 : (l.set k (⟨y0, y1, x.fBundles⟩ : Heap))[k]? = some (⟨y0, y1, x.fBundles⟩ : Heap) := List.getElem?_set_self hkl
  rw [List.set_set] at h1
  have h2 := h1.cell (x := (⟨y0, y1, x.fBundles⟩ : Heap)) (x' := (⟨y0, y1, y2⟩ : Heap)) (k := k) (j := 2) Heap.len e2 (by omega) rfl
  have e3 : (l.set k (⟨y0, y1, y2⟩ : Heap))[k]? = some (⟨y0, y1, y2⟩ : Heap) := List.getElem?_set_self hkl
  rw [List.set_set] at h2
  exact h2
def Heap.fits (x : Heap) : Prop := x.fSort.size ≤ maxLen
theorem read_VHeap {H : Type} {enc : TypeId × Value → H} {W : World} {r : Reach} {b0 : Nat} {sp : Nat → Bool} {held : Bool} {v : Value} {d : DataW H} {ps : List MemPlace}
    (hval : Value.okWide Tryd.prog W r b0 23 v) (h : DataW.Trod enc Tryd.prog W 0 sp held 23 v d ps) : ∃ x : Heap, v = .agg #[.string x.fSort, .int .i64 x.fYear, .int .i64 x.fBundles] ∧ x.fits := by
  obtain ⟨cs, rfl, hsz⟩ := okWide_struct Tryd.underlying23 hval
  obtain ⟨fuel, hx⟩ := h
  obtain ⟨hlen, hf⟩ := field_one (by kernel_rfl) Tryd.underlying23 hx
  obtain ⟨l⟩ := cs
  have hl : l.length = 3 := hsz.trans (by kernel_rfl)
  clear hlen hsz hx hval
  match l, hl with
  | [u0, u1, u2], _ =>
    obtain ⟨_, _, t0⟩ := hf 0 _ rfl u0 rfl
    obtain ⟨y0, e0, _, z0⟩ := DataW.trod_string Tryd.underlying9 t0
    obtain rfl : u0 = _ := by simpa using e0
    obtain ⟨_, _, t1⟩ := hf 1 _ rfl u1 rfl
    obtain ⟨y1, e1, _, _⟩ := DataW.trod_int Tryd.underlying2 t1
    obtain rfl : u1 = _ := by simpa using e1
    obtain ⟨_, _, t2⟩ := hf 2 _ rfl u2 rfl
    obtain ⟨y2, e2, _, _⟩ := DataW.trod_int Tryd.underlying2 t2
    obtain rfl : u2 = _ := by simpa using e2
    exact ⟨⟨y0, y1, y2⟩, rfl, z0⟩
theorem toHeap_any (a0 : ByteArray) (a1 : Int) (a2 : Int) (w : World) :
    Calls Tryd.prog 8 #[.agg #[.string a0, .int .i64 a1, .int .i64 a2]] w fun e w' => e = .returned (.agg #[.string a0, .int .i64 a1, .int .i64 a2]) ∧ Below w.heap.size w w' := by
  go_enter Tryd.func8, Tryd.ntmps8
  go_wp2
  exact bodyPost_ret (v := .agg #[.string a0, .int .i64 a1, .int .i64 a2]) (by simp [results, Tryd.results8, go_sem]) rfl ⟨rfl, by go_grown⟩
def Heap.wt (x : Heap) : Int := (x.fSort.size : Int)
theorem Heap.wt_nonneg (x : Heap) : 0 ≤ x.wt := by unfold Heap.wt; omega
def Heap.pre (l : List Heap) : Int := (l.map Heap.wt).sum
theorem Heap.pre_nonneg (l : List Heap) : 0 ≤ Heap.pre l := by
  unfold Heap.pre
  induction l with
  | nil => simp
  | cons a l ih => have := a.wt_nonneg; simp only [List.map_cons, List.sum_cons]; omega
theorem Heap.pre_snoc {l : List Heap} {k : Nat} {x : Heap} (h : l[k]? = some x) : Heap.pre (l.take (k + 1)) = Heap.pre (l.take k) + x.wt := by
  unfold Heap.pre; rw [take_snoc h]; simp
theorem Heap.pre_le (l : List Heap) (k : Nat) : Heap.pre (l.take k) ≤ Heap.pre l := by
  have h := Heap.pre_nonneg (l.drop k)
  have : Heap.pre l = Heap.pre (l.take k) + Heap.pre (l.drop k) := by unfold Heap.pre; rw [← List.sum_append, ← List.map_append, List.take_append_drop]
  omega
theorem Heap.wt_le {l : List Heap} {x : Heap} (h : x ∈ l) : x.wt ≤ Heap.pre l := by
  obtain ⟨k, hk⟩ := List.mem_iff_getElem?.1 h
  have h1 := Heap.pre_snoc hk; have h2 := Heap.pre_le l (k + 1); have h3 := Heap.pre_nonneg (l.take k)
  omega
def Heap.tot (l : List Heap) : Int := l.length + Heap.pre l
theorem szHeap_any (x : Heap) (r : Int) (w : World) (hx : x.fits) (h0 : 0 ≤ r) (h1 : r ≤ 1048576) :
    Calls Tryd.prog 6 #[.agg #[.string x.fSort, .int .i64 x.fYear, .int .i64 x.fBundles], .int .i64 r] w fun e w' => e = .returned (.int .i64 (szv (r - x.wt))) ∧ Below w.heap.size w w' := by
  unfold Heap.fits maxLen at hx
  unfold Heap.wt
  obtain ⟨a0, a1, a2⟩ := x
  simp only at hx ⊢
  by_cases g0 : r - a0.size < 0
  · rw [szv_neg (by omega)]
    go_enter Tryd.func6, Tryd.ntmps6
    go_wp2
    go_ret; exact ⟨rfl, by go_grown⟩
  rw [szv_pos (by omega)]
  go_enter Tryd.func6, Tryd.ntmps6
  go_wp2
  go_ret; exact ⟨ret1 (by omega), by go_grown⟩
theorem eqHeap_fields (a0 : ByteArray) (a1 : Int) (a2 : Int) (b0 : ByteArray) (b1 : Int) (b2 : Int) (w : World) :
    Calls Tryd.prog 12 #[.agg #[.string a0, .int .i64 a1, .int .i64 a2], .agg #[.string b0, .int .i64 b1, .int .i64 b2]] w fun e w' => e = .returned (.bool (Heap.same (⟨a0, a1, a2⟩ : Heap) (⟨b0, b1, b2⟩ : Heap))) ∧ Below w.heap.size w w' := by
  by_cases h : (⟨a0, a1, a2⟩ : Heap) = (⟨b0, b1, b2⟩ : Heap)
  · injection h with h0 h1 h2
    subst h0 h1 h2
    rw [Heap.same_true.2 rfl]
    go_enter Tryd.func12, Tryd.ntmps12
    go_wp2
    go_ret; exact ⟨rfl, by go_grown⟩
  · rw [Heap.same_false.2 h]
    by_cases g0 : a0 = b0
    · subst g0
      by_cases g1 : a1 = b1
      · subst g1
        by_cases g2 : a2 = b2
        · subst g2
          exact absurd rfl h
        · clear h
          have e1 : (a2 != b2) = true := by simp [g2]
          clear g2
          go_enter Tryd.func12, Tryd.ntmps12
          go_wp2
          go_ret; exact ⟨rfl, by go_grown⟩
      · clear h
        have e1 : (a1 != b1) = true := by simp [g1]
        clear g1
        go_enter Tryd.func12, Tryd.ntmps12
        go_wp2
        go_ret; exact ⟨rfl, by go_grown⟩
    · clear h
      have e1 := str_ne g0
      clear g0
      go_enter Tryd.func12, Tryd.ntmps12
      go_wp2
      go_ret; exact ⟨rfl, by go_grown⟩
theorem eqHeap_any (x y : Heap) (w : World) : Calls Tryd.prog 12 #[.agg #[.string x.fSort, .int .i64 x.fYear, .int .i64 x.fBundles], .agg #[.string y.fSort, .int .i64 y.fYear, .int .i64 y.fBundles]] w fun e w' => e = .returned (.bool (x.same y)) ∧ Below w.heap.size w w' := eqHeap_fields _ _ _ _ _ _ w
end Go.Proofs.YtcmcolgbkfadfaaDoor
