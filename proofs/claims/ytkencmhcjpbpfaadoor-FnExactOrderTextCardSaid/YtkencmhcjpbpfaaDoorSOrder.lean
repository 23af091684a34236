/- The struct Order: its cells, slices of it, and the contracts of the laws' own helpers on it (copying, comparing, measuring). -/
import Derived.Test.YtkencmhcjpbpfaaDoorKit
namespace Go.Proofs.YtkencmhcjpbpfaaDoor
open Go.ChangeShapes Go.WideShapes Go.ChangeAt Go.RowKit Go.Deep
set_option maxRecDepth 100000
structure Order where
  fWho : ByteArray
  fMany : Int
  fEach : Int
  fFrom : Int
  fDue : Int
  deriving DecidableEq
def Order.cells (x : Order) : List Value := [.string x.fWho, .int .i64 x.fMany, .int .i64 x.fEach, .int .i64 x.fFrom, .int .i64 x.fDue]
def Order.same (x y : Order) : Bool := decide (x = y)
theorem Order.same_true {x y : Order} : x.same y = true ↔ x = y := by simp [Order.same]
theorem Order.same_false {x y : Order} : x.same y = false ↔ ¬ x = y := by simp [Order.same]
theorem Order.len (x : Order) : x.cells.length = 5 := rfl
theorem Arr.Order {w : World} {B : Nat} {A : Option Addr} {n : Nat} {l : List Order} (h : Arr Order.cells 5 w B A n l) {k : Nat} (hk : k < n) : ∃ b o x, A = some ⟨b, o, none⟩ ∧ b < B ∧ l[k]? = some x ∧ w.cell? ⟨b, o + k * 5, none⟩ = some (.string x.fWho) ∧ w.cell? ⟨b, o + k * 5 + 1, none⟩ = some (.int .i64 x.fMany) ∧ w.cell? ⟨b, o + k * 5 + 2, none⟩ = some (.int .i64 x.fEach) ∧ w.cell? ⟨b, o + k * 5 + 3, none⟩ = some (.int .i64 x.fFrom) ∧ w.cell? ⟨b, o + k * 5 + 4, none⟩ = some (.int .i64 x.fDue) := by
  obtain ⟨b, o, x, e, hb, hx, hc⟩ := h.at_ hk
  exact ⟨b, o, x, e, hb, hx, hc 0 _ rfl, hc 1 _ rfl, hc 2 _ rfl, hc 3 _ rfl, hc 4 _ rfl⟩
theorem Own.Order_at {e : TypeId} {w : World} {base g n c : Nat} {l : List Order} (h : Own Order.cells e 5 w base (.slice (some ⟨g, 0, none⟩) n c) n l) {k : Nat} (hk : k < n) :
    ∃ x, l[k]? = some x ∧ w.cell? ⟨g, k * 5, none⟩ = some (.string x.fWho) ∧ w.cell? ⟨g, k * 5 + 1, none⟩ = some (.int .i64 x.fMany) ∧ w.cell? ⟨g, k * 5 + 2, none⟩ = some (.int .i64 x.fEach) ∧ w.cell? ⟨g, k * 5 + 3, none⟩ = some (.int .i64 x.fFrom) ∧ w.cell? ⟨g, k * 5 + 4, none⟩ = some (.int .i64 x.fDue) ∧ w.frozen? ⟨g, k * 5, none⟩ = false ∧ w.frozen? ⟨g, k * 5 + 1, none⟩ = false ∧ w.frozen? ⟨g, k * 5 + 2, none⟩ = false ∧ w.frozen? ⟨g, k * 5 + 3, none⟩ = false ∧ w.frozen? ⟨g, k * 5 + 4, none⟩ = false := by
  obtain ⟨b, o, x, hA, _, hx, c0, c1, c2, c3, c4⟩ := (h.arr Order.len).Order hk
  injection hA with hA; injection hA with h1 h2; subst h1 h2
  simp only [Nat.zero_add] at c0 c1 c2 c3 c4
  exact ⟨x, hx, c0, c1, c2, c3, c4, h.2.frozenAt _, h.2.frozenAt _, h.2.frozenAt _, h.2.frozenAt _, h.2.frozenAt _⟩
theorem Own.Order_store {e : TypeId} {w : World} {base g n c : Nat} {l : List Order} (h : Own Order.cells e 5 w base (.slice (some ⟨g, 0, none⟩) n c) n l) {k : Nat} (hk : k < n) (y0 : ByteArray) (y1 : Int) (y2 : Int) (y3 : Int) (y4 : Int) :
    Own Order.cells e 5 (((((w.setCell ⟨g, k * 5, none⟩ (.string y0)).setCell ⟨g, k * 5 + 1, none⟩ (.int .i64 y1)).setCell ⟨g, k * 5 + 2, none⟩ (.int .i64 y2)).setCell ⟨g, k * 5 + 3, none⟩ (.int .i64 y3)).setCell ⟨g, k * 5 + 4, none⟩ (.int .i64 y4)) base (.slice (some ⟨g, 0, none⟩) n c) n (l.set k ⟨y0, y1, y2, y3, y4⟩) := by
  have hkl : k < l.length := by rw [h.len]; exact hk
  have e0 : l[k]? = some l[k] := List.getElem?_eq_getElem hkl
  generalize l[k] = x at e0
  have h0 := h.cell (x := x) (x' := (⟨y0, x.fMany, x.fEach, x.fFrom, x.fDue⟩ : Order)) (k := k) (j := 0) Order.len e0 (by omega) rfl
  have e1 : (l.set k (⟨y0, x.fMany, x.fEach, x.fFrom, x.fDue⟩ : Order))[k]? = some (⟨y0, x.fMany, x.fEach, x.fFrom, x.fDue⟩ : Order) := List.getElem?_set_self hkl
  have h1 := h0.cell (x := (⟨y0, x.fMany, x.fEach, x.fFrom, x.fDue⟩ : Order)) (x' := (⟨y0, y1, x.fEach, x.fFrom, x.fDue⟩ : Order)) (k := k) (j := 1) Order.len e1 (by omega) rfl
  have e2 : (l.set k (⟨y0, y1, x.fEach, x.fFrom, x.fDue⟩ : Order))[k]? = some (⟨y0, y1, x.fEach, x.fFrom, x.fDue⟩ : Order) := List.getElem?_set_self hkl
  rw [List.set_set] at h1
  have h2 := h1.cell (x := (⟨y0, y1, x.fEach, x.fFrom, x.fDue⟩ : Order)) (x' := (⟨y0, y1, y2, x.fFrom, x.fDue⟩ : Order)) (k := k) (j := 2) Order.len e2 (by omega) rfl
  have e3 : (l.set k (⟨y0, y1, y2, x.fFrom, x.fDue⟩ : Order))[k]? = some (⟨y0, y1, y2, x.fFrom, x.fDue⟩ : Order) := List.getElem?_set_self hkl
  rw [List.set_set] at h2
  have h3 := h2.cell (x := (⟨y0, y1, y2, x.fFrom, x.fDue⟩ : Order)) (x' := (⟨y0, y1, y2, y3, x.fDue⟩ : Order)) (k := k) (j := 3) Order.len e3 (by omega) rfl
  have e4 : (l.set k (⟨y0, y1, y2, y3, x.fDue⟩ : Order))[k]? = some (⟨y0, y1, y2, y3, x.fDue⟩ : Order) := List.getElem?_set_self hkl
  rw [List.set_set] at h3
  have h4 := h3.cell (x := (⟨y0, y1, y2, y3, x.fDue⟩ : Order)) (x' := (⟨y0, y1, y2, y3, y4⟩ : Order)) (k := k) (j := 4) Order.len e4 (by omega) rfl
  have e5 : (l.set k (⟨y0, y1, y2, y3, y4⟩ : Order))[k]? = some (⟨y0, y1, y2, y3, y4⟩ : Order) := List.getElem?_set_self hkl
  rw [List.set_set] at h4
  exact h4
def Order.fits (x : Order) : Prop := x.fWho.size ≤ maxLen
theorem read_VOrder {H : Type} {enc : TypeId × Value → H} {W : World} {r : Reach} {b0 : Nat} {sp : Nat → Bool} {held : Bool} {v : Value} {d : DataW H} {ps : List MemPlace}
    (hval : Value.okWide Tryd.prog W r b0 23 v) (h : DataW.Trod enc Tryd.prog W 0 sp held 23 v d ps) : ∃ x : Order, v = .agg #[.string x.fWho, .int .i64 x.fMany, .int .i64 x.fEach, .int .i64 x.fFrom, .int .i64 x.fDue] ∧ x.fits := by
  obtain ⟨cs, rfl, hsz⟩ := okWide_struct Tryd.underlying23 hval
  obtain ⟨fuel, hx⟩ := h
  obtain ⟨hlen, hf⟩ := field_one (by kernel_rfl) Tryd.underlying23 hx
  obtain ⟨l⟩ := cs
  have hl : l.length = 5 := hsz.trans (by kernel_rfl)
  clear hlen hsz hx hval
  match l, hl with
  | [u0, u1, u2, u3, u4], _ =>
    obtain ⟨_, _, t0⟩ := hf 0 _ rfl u0 rfl
    obtain ⟨y0, e0, _, z0⟩ := DataW.trod_string Tryd.underlying9 t0
    obtain rfl : u0 = _ := by simpa using e0
    obtain ⟨_, _, t1⟩ := hf 1 _ rfl u1 rfl
    obtain ⟨y1, e1, _, _⟩ := DataW.trod_int Tryd.underlying2 t1
    obtain rfl : u1 = _ := by simpa using e1
    obtain ⟨_, _, t2⟩ := hf 2 _ rfl u2 rfl
    obtain ⟨y2, e2, _, _⟩ := DataW.trod_int Tryd.underlying2 t2
    obtain rfl : u2 = _ := by simpa using e2
    obtain ⟨_, _, t3⟩ := hf 3 _ rfl u3 rfl
    obtain ⟨y3, e3, _, _⟩ := DataW.trod_int Tryd.underlying2 t3
    obtain rfl : u3 = _ := by simpa using e3
    obtain ⟨_, _, t4⟩ := hf 4 _ rfl u4 rfl
    obtain ⟨y4, e4, _, _⟩ := DataW.trod_int Tryd.underlying2 t4
    obtain rfl : u4 = _ := by simpa using e4
    exact ⟨⟨y0, y1, y2, y3, y4⟩, rfl, z0⟩
theorem toOrder_any (a0 : ByteArray) (a1 : Int) (a2 : Int) (a3 : Int) (a4 : Int) (w : World) :
    Calls Tryd.prog 6 #[.agg #[.string a0, .int .i64 a1, .int .i64 a2, .int .i64 a3, .int .i64 a4]] w fun e w' => e = .returned (.agg #[.string a0, .int .i64 a1, .int .i64 a2, .int .i64 a3, .int .i64 a4]) ∧ Below w.heap.size w w' := by
  go_enter Tryd.func6, Tryd.ntmps6
  go_wp2
  exact bodyPost_ret (v := .agg #[.string a0, .int .i64 a1, .int .i64 a2, .int .i64 a3, .int .i64 a4]) (by simp [results, Tryd.results6, go_sem]) rfl ⟨rfl, by go_grown⟩
def Order.wt (x : Order) : Int := (x.fWho.size : Int)
theorem Order.wt_nonneg (x : Order) : 0 ≤ x.wt := by unfold Order.wt; omega
def Order.pre (l : List Order) : Int := (l.map Order.wt).sum
theorem Order.pre_nonneg (l : List Order) : 0 ≤ Order.pre l := by
  unfold Order.pre
  induction l with
  | nil => simp
  | cons a l ih => have := a.wt_nonneg; simp only [List.map_cons, List.sum_cons]; omega
theorem Order.pre_snoc {l : List Order} {k : Nat} {x : Order} (h : l[k]? = some x) : Order.pre (l.take (k + 1)) = Order.pre (l.take k) + x.wt := by
  unfold Order.pre; rw [take_snoc h]; simp
theorem Order.pre_le (l : List Order) (k : Nat) : Order.pre (l.take k) ≤ Order.pre l := by
  have h := Order.pre_nonneg (l.drop k)
  have : Order.pre l = Order.pre (l.take k) + Order.pre (l.drop k) := by unfold Order.pre; rw [← List.sum_append, ← List.map_append, List.take_append_drop]
  omega
theorem Order.wt_le {l : List Order} {x : Order} (h : x ∈ l) : x.wt ≤ Order.pre l := by
  obtain ⟨k, hk⟩ := List.mem_iff_getElem?.1 h
  have h1 := Order.pre_snoc hk; have h2 := Order.pre_le l (k + 1); have h3 := Order.pre_nonneg (l.take k)
  omega
def Order.tot (l : List Order) : Int := l.length + Order.pre l
theorem szOrder_any (x : Order) (r : Int) (w : World) (hx : x.fits) (h0 : 0 ≤ r) (h1 : r ≤ 1048576) :
    Calls Tryd.prog 4 #[.agg #[.string x.fWho, .int .i64 x.fMany, .int .i64 x.fEach, .int .i64 x.fFrom, .int .i64 x.fDue], .int .i64 r] w fun e w' => e = .returned (.int .i64 (szv (r - x.wt))) ∧ Below w.heap.size w w' := by
  unfold Order.fits maxLen at hx
  unfold Order.wt
  obtain ⟨a0, a1, a2, a3, a4⟩ := x
  simp only at hx ⊢
  by_cases g0 : r - a0.size < 0
  · rw [szv_neg (by omega)]
    go_enter Tryd.func4, Tryd.ntmps4
    go_wp2
    go_ret; exact ⟨rfl, by go_grown⟩
  rw [szv_pos (by omega)]
  go_enter Tryd.func4, Tryd.ntmps4
  go_wp2
  go_ret; exact ⟨ret1 (by omega), by go_grown⟩
end Go.Proofs.YtkencmhcjpbpfaaDoor
