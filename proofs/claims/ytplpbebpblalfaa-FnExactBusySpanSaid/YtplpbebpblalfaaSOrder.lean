/- The struct Order: its cells, slices of it, and the contracts of the laws' own helpers on it (copying, comparing, measuring). -/
import Derived.Test.YtplpbebpblalfaaKit
namespace Go.Proofs.Ytplpbebpblalfaa
open Go.ChangeShapes Go.WideShapes Go.ChangeAt Go.RowKit Go.Deep
set_option maxRecDepth 100000
structure Order where
  fWho : ByteArray
  fMany : Int
  fEach : Int
  fFrom : Int
  fDue : Int
  deriving DecidableEq
def Order.cells (x : Order) : List Value := [.string x.fWho, .int .i64 x.fMany, .int .i64 x.fEach, .int .i64 x.fFrom, .int .i64 x.fDue]
def Order.same (x y : Order) : Bool := decide (x = y)
theorem Order.same_true {x y : Order} : x.same y = true ↔ x = y := by simp [Order.same]
theorem Order.same_false {x y : Order} : x.same y = false ↔ ¬ x = y := by simp [Order.same]
theorem Order.len (x : Order) : x.cells.length = 5 := rfl
theorem Arr.Order {w : World} {B : Nat} {A : Option Addr} {n : Nat} {l : List Order} (h : Arr Order.cells 5 w B A n l) {k : Nat} (hk : k < n) : ∃ b o x, A = some ⟨b, o, none⟩ ∧ b < B ∧ l[k]? = some x ∧ w.cell? ⟨b, o + k * 5, none⟩ = some (.string x.fWho) ∧ w.cell? ⟨b, o + k * 5 + 1, none⟩ = some (.int .i64 x.fMany) ∧ w.cell? ⟨b, o + k * 5 + 2, none⟩ = some (.int .i64 x.fEach) ∧ w.cell? ⟨b, o + k * 5 + 3, none⟩ = some (.int .i64 x.fFrom) ∧ w.cell? ⟨b, o + k * 5 + 4, none⟩ = some (.int .i64 x.fDue) := by
  obtain ⟨b, o, x, e, hb, hx, hc⟩ := h.at_ hk
  exact ⟨b, o, x, e, hb, hx, hc 0 _ rfl, hc 1 _ rfl, hc 2 _ rfl, hc 3 _ rfl, hc 4 _ rfl⟩
theorem Own.Order_at {e : TypeId} {w : World} {base g n c : Nat} {l : List Order} (h : Own Order.cells e 5 w base (.slice (some ⟨g, 0, none⟩) n c) n l) {k : Nat} (hk : k < n) :
    ∃ x, l[k]? = some x ∧ w.cell? ⟨g, k * 5, none⟩ = some (.string x.fWho) ∧ w.cell? ⟨g, k * 5 + 1, none⟩ = some (.int .i64 x.fMany) ∧ w.cell? ⟨g, k * 5 + 2, none⟩ = some (.int .i64 x.fEach) ∧ w.cell? ⟨g, k * 5 + 3, none⟩ = some (.int .i64 x.fFrom) ∧ w.cell? ⟨g, k * 5 + 4, none⟩ = some (.int .i64 x.fDue) ∧ w.frozen? ⟨g, k * 5, none⟩ = false ∧ w.frozen? ⟨g, k * 5 + 1, none⟩ = false ∧ w.frozen? ⟨g, k * 5 + 2, none⟩ = false ∧ w.frozen? ⟨g, k * 5 + 3, none⟩ = false ∧ w.frozen? ⟨g, k * 5 + 4, none⟩ = false := by
  obtain ⟨b, o, x, hA, _, hx, c0, c1, c2, c3, c4⟩ := (h.arr Order.len).Order hk
  injection hA with hA; injection hA with h1 h2; subst h1 h2
  simp only [Nat.zero_add] at c0 c1 c2 c3 c4
  exact ⟨x, hx, c0, c1, c2, c3, c4, h.2.frozenAt _, h.2.frozenAt _, h.2.frozenAt _, h.2.frozenAt _, h.2.frozenAt _⟩
theorem Own.Order_store {e : TypeId} {w : World} {base g n c : Nat} {l : List Order} (h : Own Order.cells e 5 w base (.slice (some ⟨g, 0, none⟩) n c) n l) {k : Nat} (hk : k < n) (y0 : ByteArray) (y1 : Int) (y2 : Int) (y3 : Int) (y4 : Int) :
    Own Order.cells e 5 (((((w.setCell ⟨g, k * 5, none⟩ (.string y0)).setCell ⟨g, k * 5 + 1, none⟩ (.int .i64 y1)).setCell ⟨g, k * 5 + 2, none⟩ (.int .i64 y2)).setCell ⟨g, k * 5 + 3, none⟩ (.int .i64 y3)).setCell ⟨g, k * 5 + 4, none⟩ (.int .i64 y4)) base (.slice (some ⟨g, 0, none⟩) n c) n (l.set k ⟨y0, y1, y2, y3, y4⟩) := by
  have hkl : k < l.length := by rw [h.len]; exact hk
  have e0 : l[k]? = some l[k] := List.getElem?_eq_getElem hkl
  generalize l[k] = x at e0
  have h0 := h.cell (x := x) (x' := (⟨y0, x.fMany, x.fEach, x.fFrom, x.fDue⟩ : Order)) (k := k) (j := 0) Order.len e0 (by omega) rfl
  have e1 : (l.set k (⟨y0, x.fMany, x.fEach, x.fFrom, x.fDue⟩ : Order))[k]? = some (⟨y0, x.fMany, x.fEach, x.fFrom, x.fDue⟩ : Order) := List.getElem?_set_self hkl
  have h1 := h0.cell (x := (⟨y0, x.fMany, x.fEach, x.fFrom, x.fDue⟩ : Order)) (x' := (⟨y0, y1, x.fEach, x.fFrom, x.fDue⟩ : Order)) (k := k) (j := 1) Order.len e1 (by omega) rfl
  have e2 : (l.set k (⟨y0, y1, x.fEach, x.fFrom, x.fDue⟩ : Order))[k]? = some (⟨y0, y1, x.fEach, x.fFrom, x.fDue⟩ : Order) := List.getElem?_set_self hkl
  rw [List.set_set] at h1
  have h2 := h1.cell (x := (⟨y0, y1, x.fEach, x.fFrom, x.fDue⟩ : Order)) (x' := (⟨y0, y1, y2, x.fFrom, x.fDue⟩ : Order)) (k := k) (j := 2) Order.len e2 (by omega) rfl
  have e3 : (l.set k (⟨y0, y1, y2, x.fFrom, x.fDue⟩ : Order))[k]? = some (⟨y0, y1, y2, x.fFrom, x.fDue⟩ : Order) := List.getElem?_set_self hkl
  rw [List.set_set] at h2
  have h3 := h2.cell (x := (⟨y0, y1, y2, x.fFrom, x.fDue⟩ : Order)) (x' := (⟨y0, y1, y2, y3, x.fDue⟩ : Order)) (k := k) (j := 3) Order.len e3 (by omega) rfl
  have e4 : (l.set k (⟨y0, y1, y2, y3, x.fDue⟩ : Order))[k]? = some (⟨y0, y1, y2, y3, x.fDue⟩ : Order) := List.getElem?_set_self hkl
  rw [List.set_set] at h3
  have h4 := h3.cell (x := (⟨y0, y1, y2, y3, x.fDue⟩ : Order)) (x' := (⟨y0, y1, y2, y3, y4⟩ : Order)) (k := k) (j := 4) Order.len e4 (by omega) rfl
  have e5 : (l.set k (⟨y0, y1, y2, y3, y4⟩ : Order))[k]? = some (⟨y0, y1, y2, y3, y4⟩ : Order) := List.getElem?_set_self hkl
  rw [List.set_set] at h4
  exact h4
def Order.fits (x : Order) : Prop := x.fWho.size ≤ maxLen
theorem read_Order {H : Type} {enc : TypeId × Value → H} {W : World} {r : Reach} {b0 : Nat} {sp : Nat → Bool} {held : Bool} {v : Value} {d : DataW H} {ps : List MemPlace}
    (hval : Value.okWide Try.prog W r b0 22 v) (h : DataW.Trod enc Try.prog W 0 sp held 22 v d ps) :
    ∃ (A : Option Addr) (n c : Nat) (l : List Order), v = .slice A n c ∧ n ≤ c ∧ c ≤ maxLen ∧ (∀ x ∈ l, x.fits) ∧ Arr Order.cells 5 W W.heap.size A n l := by
  refine read_row Order.cells 5 _ Try.underlying22 (by kernel_rfl) (by omega) (fun n cs x hx => ?_) hval h
  obtain ⟨hlen, hf⟩ := field_one (by kernel_rfl) Try.underlying51 hx
  have hl : cs.length = 5 := hlen.trans (by kernel_rfl)
  match cs, hl with
  | [u0, u1, u2, u3, u4], _ =>
    obtain ⟨_, _, t0⟩ := hf 0 _ rfl u0 rfl
    obtain ⟨y0, e0, _, z0⟩ := DataW.trod_string Try.underlying9 t0
    obtain rfl : u0 = _ := by simpa using e0
    obtain ⟨_, _, t1⟩ := hf 1 _ rfl u1 rfl
    obtain ⟨y1, e1, _, _⟩ := DataW.trod_int Try.underlying2 t1
    obtain rfl : u1 = _ := by simpa using e1
    obtain ⟨_, _, t2⟩ := hf 2 _ rfl u2 rfl
    obtain ⟨y2, e2, _, _⟩ := DataW.trod_int Try.underlying2 t2
    obtain rfl : u2 = _ := by simpa using e2
    obtain ⟨_, _, t3⟩ := hf 3 _ rfl u3 rfl
    obtain ⟨y3, e3, _, _⟩ := DataW.trod_int Try.underlying2 t3
    obtain rfl : u3 = _ := by simpa using e3
    obtain ⟨_, _, t4⟩ := hf 4 _ rfl u4 rfl
    obtain ⟨y4, e4, _, _⟩ := DataW.trod_int Try.underlying2 t4
    obtain rfl : u4 = _ := by simpa using e4
    exact ⟨⟨y0, y1, y2, y3, y4⟩, z0, rfl⟩
theorem read_VOrder {H : Type} {enc : TypeId × Value → H} {W : World} {r : Reach} {b0 : Nat} {sp : Nat → Bool} {held : Bool} {v : Value} {d : DataW H} {ps : List MemPlace}
    (hval : Value.okWide Try.prog W r b0 51 v) (h : DataW.Trod enc Try.prog W 0 sp held 51 v d ps) : ∃ x : Order, v = .agg #[.string x.fWho, .int .i64 x.fMany, .int .i64 x.fEach, .int .i64 x.fFrom, .int .i64 x.fDue] ∧ x.fits := by
  obtain ⟨cs, rfl, hsz⟩ := okWide_struct Try.underlying51 hval
  obtain ⟨fuel, hx⟩ := h
  obtain ⟨hlen, hf⟩ := field_one (by kernel_rfl) Try.underlying51 hx
  obtain ⟨l⟩ := cs
  have hl : l.length = 5 := hsz.trans (by kernel_rfl)
  clear hlen hsz hx hval
  match l, hl with
  | [u0, u1, u2, u3, u4], _ =>
    obtain ⟨_, _, t0⟩ := hf 0 _ rfl u0 rfl
    obtain ⟨y0, e0, _, z0⟩ := DataW.trod_string Try.underlying9 t0
    obtain rfl : u0 = _ := by simpa using e0
    obtain ⟨_, _, t1⟩ := hf 1 _ rfl u1 rfl
    obtain ⟨y1, e1, _, _⟩ := DataW.trod_int Try.underlying2 t1
    obtain rfl : u1 = _ := by simpa using e1
    obtain ⟨_, _, t2⟩ := hf 2 _ rfl u2 rfl
    obtain ⟨y2, e2, _, _⟩ := DataW.trod_int Try.underlying2 t2
    obtain rfl : u2 = _ := by simpa using e2
    obtain ⟨_, _, t3⟩ := hf 3 _ rfl u3 rfl
    obtain ⟨y3, e3, _, _⟩ := DataW.trod_int Try.underlying2 t3
    obtain rfl : u3 = _ := by simpa using e3
    obtain ⟨_, _, t4⟩ := hf 4 _ rfl u4 rfl
    obtain ⟨y4, e4, _, _⟩ := DataW.trod_int Try.underlying2 t4
    obtain rfl : u4 = _ := by simpa using e4
    exact ⟨⟨y0, y1, y2, y3, y4⟩, rfl, z0⟩
theorem toOrder_any (a0 : ByteArray) (a1 : Int) (a2 : Int) (a3 : Int) (a4 : Int) (w : World) :
    Calls Try.prog 33 #[.agg #[.string a0, .int .i64 a1, .int .i64 a2, .int .i64 a3, .int .i64 a4]] w fun e w' => e = .returned (.agg #[.string a0, .int .i64 a1, .int .i64 a2, .int .i64 a3, .int .i64 a4]) ∧ Below w.heap.size w w' := by
  go_enter Try.func33, Try.ntmps33
  go_wp2
  exact bodyPost_ret (v := .agg #[.string a0, .int .i64 a1, .int .i64 a2, .int .i64 a3, .int .i64 a4]) (by simp [results, Try.results33, go_sem]) rfl ⟨rfl, by go_grown⟩
theorem info_Order : (Try.prog.info? 47).map (fun i => (i.zero, i.size, i.bytes)) = some (some (.agg #[.string ByteArray.empty, .int .i64 0, .int .i64 0, .int .i64 0, .int .i64 0]), 5, 48) := by kernel_rfl
theorem toOrderS_any (A : Option Addr) (n c : Nat) (l : List Order) (w : World) (hn : n ≤ 1048576) (hr : Arr Order.cells 5 w w.heap.size A n l) :
    Calls Try.prog 11 #[.slice A n c] w fun e w' => e = .returned (.slice (some ⟨w.heap.size, 0, none⟩) n n) ∧ Own Order.cells 47 5 w' w.heap.size (.slice (some ⟨w.heap.size, 0, none⟩) n n) n l ∧ Below w.heap.size w w' := by
  obtain ⟨i0, hi0, hz0, hz1, hz2⟩ := info_parts info_Order
  have hmk := fun W => run_make_rowN (P := Try.prog) 26 47 i0 _ Try.underlying26 hi0 hz0 .i64 .i64 n n (Nat.le_refl _) (by rw [hz2]; omega) (by omega) W
  rw [hz1] at hmk
  obtain ⟨cur, hcur⟩ : ∃ cur, cur = madeCells (Value.agg #[.string ByteArray.empty, .int .i64 0, .int .i64 0, .int .i64 0, .int .i64 0]).cells (n * 5) := ⟨_, rfl⟩
  rw [← hcur] at hmk
  have hcl : cur.toList = (List.replicate n (⟨ByteArray.empty, 0, 0, 0, 0⟩ : Order)).flatMap Order.cells := by rw [hcur]; exact made_flat Order.len (by omega) #[.string ByteArray.empty, .int .i64 0, .int .i64 0, .int .i64 0, .int .i64 0] ⟨ByteArray.empty, 0, 0, 0, 0⟩ rfl n
  clear hcur
  have hmade : Own Order.cells 47 5 (w.alloc (.cells cur 47)) w.heap.size (.slice (some ⟨w.heap.size, 0, none⟩) n n) n (List.replicate n (⟨ByteArray.empty, 0, 0, 0, 0⟩ : Order)) :=
    Own.made w (Nat.le_refl _) (by unfold maxLen; omega) _ Order.len cur hcl
  clear hcl
  have hlen := hide hr.len
  go_enter Try.func11, Try.ntmps11
  go_wp2
  go_loopw [4] (fun i wr => ∃ k : Nat, k ≤ n ∧ i = .int .i64 k ∧ Below w.heap.size w wr ∧ w.heap.size < wr.heap.size ∧ Own Order.cells 47 5 wr w.heap.size (.slice (some ⟨w.heap.size, 0, none⟩) n n) n (l.take k ++ List.replicate (n - k) ⟨ByteArray.empty, 0, 0, 0, 0⟩)) (fun i _ => n - (intOf i).toNat)
  case atStart => exact ⟨0, Nat.zero_le _, rfl, by go_grown, by simp, by simpa using hmade⟩
  case round =>
    obtain ⟨k, hk, rfl, hb, hsz, hown⟩ := hrel
    clear hmade
    by_cases hlt : k < n
    · obtain ⟨b, o, x, rfl, hbl, hx, c0, c1, c2, c3, c4⟩ := hr.Order hlt
      have d0 : wr.cell? ⟨b, o + k * 5, none⟩ = some (.string x.fWho) := (hb.cell (p := ⟨b, o + k * 5, none⟩) hbl).trans c0
      have d1 : wr.cell? ⟨b, o + k * 5 + 1, none⟩ = some (.int .i64 x.fMany) := (hb.cell (p := ⟨b, o + k * 5 + 1, none⟩) hbl).trans c1
      have d2 : wr.cell? ⟨b, o + k * 5 + 2, none⟩ = some (.int .i64 x.fEach) := (hb.cell (p := ⟨b, o + k * 5 + 2, none⟩) hbl).trans c2
      have d3 : wr.cell? ⟨b, o + k * 5 + 3, none⟩ = some (.int .i64 x.fFrom) := (hb.cell (p := ⟨b, o + k * 5 + 3, none⟩) hbl).trans c3
      have d4 : wr.cell? ⟨b, o + k * 5 + 4, none⟩ = some (.int .i64 x.fDue) := (hb.cell (p := ⟨b, o + k * 5 + 4, none⟩) hbl).trans c4
      clear c0 c1 c2 c3 c4 hr
      have hB := hide hb
      clear hb
      have hcap : (k : Int) < n := by omega
      have hO := hide hown
      clear hown
 
      go_wp2_with (go_at_call 33; refine (toOrder_any _ _ _ _ _ _).mono ?_; rintro e w1 ⟨rfl, hb1⟩; have hB1 := hide hb1; have hO1 := hide (hO.out.below hb1); have hsz1 : w.heap.size < w1.heap.size := Nat.lt_of_lt_of_le hsz hb1.size; obtain ⟨x1, hx1, f0, f1, f2, f3, f4, z0, z1, z2, z3, z4⟩ := hO1.out.Order_at hlt; have HX1 := hide hx1; clear hx1 hb1)
      all_goals go_roundw
      case rel => exact ⟨k + 1, by omega, by go_num, ((((((hB.out.trans (hB1.out.mono (Nat.le_of_lt hsz))).setCell (Nat.le_refl _) _).setCell (Nat.le_refl _) _).setCell (Nat.le_refl _) _).setCell (Nat.le_refl _) _).setCell (Nat.le_refl _) _), by simp only [World.size_setCell]; exact hsz1, by have := hO1.out.Order_store hlt x.fWho x.fMany x.fEach x.fFrom x.fDue; rw [fill_set hlen.out hx] at this; exact this⟩
      case measure => simp [intOf]; omega
    · have hkn : k = n := by omega
      go_wp2
      go_ret
      exact ⟨rfl, by have := hown; rw [hkn, Nat.sub_self, List.replicate_zero, List.append_nil, List.take_of_length_le (by rw [hlen.out]; exact Nat.le_refl _)] at this; exact this, hb⟩
def Order.wt (x : Order) : Int := (x.fWho.size : Int)
theorem Order.wt_nonneg (x : Order) : 0 ≤ x.wt := by unfold Order.wt; omega
def Order.pre (l : List Order) : Int := (l.map Order.wt).sum
theorem Order.pre_nonneg (l : List Order) : 0 ≤ Order.pre l := by
  unfold Order.pre
  induction l with
  | nil => simp
  | cons a l ih => have := a.wt_nonneg; simp only [List.map_cons, List.sum_cons]; omega
theorem Order.pre_snoc {l : List Order} {k : Nat} {x : Order} (h : l[k]? = some x) : Order.pre (l.take (k + 1)) = Order.pre (l.take k) + x.wt := by
  unfold Order.pre; rw [take_snoc h]; simp
theorem Order.pre_le (l : List Order) (k : Nat) : Order.pre (l.take k) ≤ Order.pre l := by
  have h := Order.pre_nonneg (l.drop k)
  have : Order.pre l = Order.pre (l.take k) + Order.pre (l.drop k) := by unfold Order.pre; rw [← List.sum_append, ← List.map_append, List.take_append_drop]
  omega
theorem Order.wt_le {l : List Order} {x : Order} (h : x ∈ l) : x.wt ≤ Order.pre l := by
  obtain ⟨k, hk⟩ := List.mem_iff_getElem?.1 h
  have h1 := Order.pre_snoc hk; have h2 := Order.pre_le l (k + 1); have h3 := Order.pre_nonneg (l.take k)
  omega
def Order.tot (l : List Order) : Int := l.length + Order.pre l
theorem szOrder_any (x : Order) (r : Int) (w : World) (hx : x.fits) (h0 : 0 ≤ r) (h1 : r ≤ 1048576) :
    Calls Try.prog 31 #[.agg #[.string x.fWho, .int .i64 x.fMany, .int .i64 x.fEach, .int .i64 x.fFrom, .int .i64 x.fDue], .int .i64 r] w fun e w' => e = .returned (.int .i64 (szv (r - x.wt))) ∧ Below w.heap.size w w' := by
  unfold Order.fits maxLen at hx
  unfold Order.wt
  obtain ⟨a0, a1, a2, a3, a4⟩ := x
  simp only at hx ⊢
  by_cases g0 : r - a0.size < 0
  · rw [szv_neg (by omega)]
    go_enter Try.func31, Try.ntmps31
    go_wp2
    go_ret; exact ⟨rfl, by go_grown⟩
  rw [szv_pos (by omega)]
  go_enter Try.func31, Try.ntmps31
  go_wp2
  go_ret; exact ⟨ret1 (by omega), by go_grown⟩
theorem szOrderS_any (A : Option Addr) (n c : Nat) (l : List Order) (r : Int) (w : World) (hn : n ≤ maxLen) (h0 : 0 ≤ r) (h1 : r ≤ 1048576) (hr : Arr Order.cells 5 w w.heap.size A n l) (hfit : ∀ x ∈ l, x.fits) :
    Calls Try.prog 9 #[.slice A n c, .int .i64 r] w fun e w' => e = .returned (.int .i64 (szv (r - Order.tot l))) ∧ Below w.heap.size w w' := by
  have hl := hide hr.len
  have ht : Hid (Order.tot l = n + Order.pre l) := by unfold Order.tot; rw [hr.len]; rfl
  have hp0 := Order.pre_nonneg l
  unfold maxLen at hn
  by_cases h : r - n < 0
  · go_enter Try.func9, Try.ntmps9
    go_wp2
    go_ret; exact ⟨ret1 (Eq.symm (by rw [ht.out]; exact szv_neg (by omega))), Below.refl _ _⟩
  · have hFit := hide hfit
    clear hfit
    have hn2 : n ≤ 1048576 := by omega
    go_enter Try.func9, Try.ntmps9
    go_wp2
    go_loopw [1, 5] (fun q i wr => ∃ (k : Nat) (z : Int), k ≤ n ∧ i = .int .i64 k ∧ q = .int .i64 z ∧ 0 ≤ z ∧ z ≤ 1048576 ∧ Below w.heap.size w wr ∧ Hid (z = r - n - Order.pre (l.take k))) (fun _ i _ => n - (intOf i).toNat)
    case atStart => exact ⟨0, r - n, Nat.zero_le _, rfl, rfl, by omega, by omega, Below.refl _ _, hide (by unfold Order.pre; simp)⟩
    case round =>
      obtain ⟨k, z, hk, rfl, rfl, hz0, hz1, hb, hz⟩ := hrel
      by_cases hlt : k < n
      · obtain ⟨b, o, x, rfl, hbl, hx, c0, c1, c2, c3, c4⟩ := hr.Order hlt
        have d0 : wr.cell? ⟨b, o + k * 5, none⟩ = some (.string x.fWho) := (hb.cell (p := ⟨b, o + k * 5, none⟩) hbl).trans c0
        have d1 : wr.cell? ⟨b, o + k * 5 + 1, none⟩ = some (.int .i64 x.fMany) := (hb.cell (p := ⟨b, o + k * 5 + 1, none⟩) hbl).trans c1
        have d2 : wr.cell? ⟨b, o + k * 5 + 2, none⟩ = some (.int .i64 x.fEach) := (hb.cell (p := ⟨b, o + k * 5 + 2, none⟩) hbl).trans c2
        have d3 : wr.cell? ⟨b, o + k * 5 + 3, none⟩ = some (.int .i64 x.fFrom) := (hb.cell (p := ⟨b, o + k * 5 + 3, none⟩) hbl).trans c3
        have d4 : wr.cell? ⟨b, o + k * 5 + 4, none⟩ = some (.int .i64 x.fDue) := (hb.cell (p := ⟨b, o + k * 5 + 4, none⟩) hbl).trans c4
        have hX := hide hx
        have hB := hide hb
        clear c0 c1 c2 c3 c4 hr hx hb
        have hxm : x ∈ l := List.mem_of_getElem? hX.out
        have hxf := hFit.out x hxm
        have hxw := x.wt_nonneg
        have hsn := hide (Order.pre_snoc hX.out)
        have hle := hide (Order.pre_le l (k + 1))
        clear hxm
        by_cases hz2 : z - x.wt < 0
        · have hsv := szv_neg hz2
          go_wp2_with (go_at_call 31; refine (szOrder_any x z _ hxf hz0 hz1).mono ?_; rintro e w1 ⟨rfl, hb1⟩; have hB1 := hide (hB.out.trans (hb1.mono hB.out.size)); clear hb1)
          go_ret
          exact ⟨ret1 (Eq.symm (by rw [ht.out]; exact szv_neg (by have e1 := hz.out; have e2 := hsn.out; have e3 := hle.out; omega))), hB1.out⟩
        · have hsv := szv_pos (x := z - x.wt) (by omega)
          go_wp2_with (go_at_call 31; refine (szOrder_any x z _ hxf hz0 hz1).mono ?_; rintro e w1 ⟨rfl, hb1⟩; have hB1 := hide (hB.out.trans (hb1.mono hB.out.size)); clear hb1)
          go_roundw
          case rel => exact ⟨k + 1, z - x.wt, by omega, by go_num, rfl, by omega, by omega, hB1.out, hide (by have e1 := hz.out; have e2 := hsn.out; omega)⟩
          case measure => simp [intOf]; omega
      · have hkn : k = n := by omega
        subst hkn
        have hB := hide hb
        clear hb
        go_wp2
        go_ret
        exact ⟨ret1 (by rw [ht.out]; have e1 := hz.out; rw [List.take_of_length_le (by rw [hl.out]; exact Nat.le_refl _)] at e1; rw [szv_pos (by omega)]; omega), hB.out⟩
theorem eqOrder_fields (a0 : ByteArray) (a1 : Int) (a2 : Int) (a3 : Int) (a4 : Int) (b0 : ByteArray) (b1 : Int) (b2 : Int) (b3 : Int) (b4 : Int) (w : World) :
    Calls Try.prog 42 #[.agg #[.string a0, .int .i64 a1, .int .i64 a2, .int .i64 a3, .int .i64 a4], .agg #[.string b0, .int .i64 b1, .int .i64 b2, .int .i64 b3, .int .i64 b4]] w fun e w' => e = .returned (.bool (Order.same (⟨a0, a1, a2, a3, a4⟩ : Order) (⟨b0, b1, b2, b3, b4⟩ : Order))) ∧ Below w.heap.size w w' := by
  by_cases h : (⟨a0, a1, a2, a3, a4⟩ : Order) = (⟨b0, b1, b2, b3, b4⟩ : Order)
  · injection h with h0 h1 h2 h3 h4
    subst h0 h1 h2 h3 h4
    rw [Order.same_true.2 rfl]
    go_enter Try.func42, Try.ntmps42
    go_wp2
    go_ret; exact ⟨rfl, by go_grown⟩
  · rw [Order.same_false.2 h]
    by_cases g0 : a0 = b0
    · subst g0
      by_cases g1 : a1 = b1
      · subst g1
        by_cases g2 : a2 = b2
        · subst g2
          by_cases g3 : a3 = b3
          · subst g3
            by_cases g4 : a4 = b4
            · subst g4
              exact absurd rfl h
            · clear h
              have e1 : (a4 != b4) = true := by simp [g4]
              clear g4
              go_enter Try.func42, Try.ntmps42
              go_wp2
              go_ret; exact ⟨rfl, by go_grown⟩
          · clear h
            have e1 : (a3 != b3) = true := by simp [g3]
            clear g3
            go_enter Try.func42, Try.ntmps42
            go_wp2
            go_ret; exact ⟨rfl, by go_grown⟩
        · clear h
          have e1 : (a2 != b2) = true := by simp [g2]
          clear g2
          go_enter Try.func42, Try.ntmps42
          go_wp2
          go_ret; exact ⟨rfl, by go_grown⟩
      · clear h
        have e1 : (a1 != b1) = true := by simp [g1]
        clear g1
        go_enter Try.func42, Try.ntmps42
        go_wp2
        go_ret; exact ⟨rfl, by go_grown⟩
    · clear h
      have e1 := str_ne g0
      clear g0
      go_enter Try.func42, Try.ntmps42
      go_wp2
      go_ret; exact ⟨rfl, by go_grown⟩
theorem eqOrder_any (x y : Order) (w : World) : Calls Try.prog 42 #[.agg #[.string x.fWho, .int .i64 x.fMany, .int .i64 x.fEach, .int .i64 x.fFrom, .int .i64 x.fDue], .agg #[.string y.fWho, .int .i64 y.fMany, .int .i64 y.fEach, .int .i64 y.fFrom, .int .i64 y.fDue]] w fun e w' => e = .returned (.bool (x.same y)) ∧ Below w.heap.size w w' := eqOrder_fields _ _ _ _ _ _ _ _ _ _ w
theorem eqOrderS_any (A A' : Option Addr) (n c n' c' : Nat) (l l' : List Order) (w : World) (hn : n ≤ 1048576) (hr : Arr Order.cells 5 w w.heap.size A n l) (hr' : Arr Order.cells 5 w w.heap.size A' n' l') :
    Calls Try.prog 13 #[.slice A n c, .slice A' n' c'] w fun e w' => e = .returned (.bool (decide (l = l'))) ∧ Below w.heap.size w w' := by
  have hl := hide hr.len
  have hl' := hide hr'.len
  by_cases hne : n = n'
  · subst hne
    have hpost : Hid (l = l' ↔ l.take n = l'.take n) := by
      have h1 := hl.out; have h2 := hl'.out
      show _ ↔ _
      rw [List.take_of_length_le (by omega), List.take_of_length_le (by omega)]
    go_enter Try.func13, Try.ntmps13
    go_wp2
    go_loopw [5] (fun i wr => ∃ k : Nat, k ≤ n ∧ i = .int .i64 k ∧ Below w.heap.size w wr ∧ Hid (l.take k = l'.take k)) (fun i _ => n - (intOf i).toNat)
    case atStart => exact ⟨0, Nat.zero_le _, rfl, Below.refl _ _, hide (by simp)⟩
    case round =>
      obtain ⟨k, hk, rfl, hb, hpre⟩ := hrel
      by_cases hlt : k < n
      · obtain ⟨b, o, x, rfl, hbl, hx, c0, c1, c2, c3, c4⟩ := hr.Order hlt
        obtain ⟨b', o', y, rfl, hbl', hy, f0, f1, f2, f3, f4⟩ := hr'.Order hlt
        have d0 : wr.cell? ⟨b, o + k * 5, none⟩ = some (.string x.fWho) := (hb.cell (p := ⟨b, o + k * 5, none⟩) hbl).trans c0
        have g0 : wr.cell? ⟨b', o' + k * 5, none⟩ = some (.string y.fWho) := (hb.cell (p := ⟨b', o' + k * 5, none⟩) hbl').trans f0
        have d1 : wr.cell? ⟨b, o + k * 5 + 1, none⟩ = some (.int .i64 x.fMany) := (hb.cell (p := ⟨b, o + k * 5 + 1, none⟩) hbl).trans c1
        have g1 : wr.cell? ⟨b', o' + k * 5 + 1, none⟩ = some (.int .i64 y.fMany) := (hb.cell (p := ⟨b', o' + k * 5 + 1, none⟩) hbl').trans f1
        have d2 : wr.cell? ⟨b, o + k * 5 + 2, none⟩ = some (.int .i64 x.fEach) := (hb.cell (p := ⟨b, o + k * 5 + 2, none⟩) hbl).trans c2
        have g2 : wr.cell? ⟨b', o' + k * 5 + 2, none⟩ = some (.int .i64 y.fEach) := (hb.cell (p := ⟨b', o' + k * 5 + 2, none⟩) hbl').trans f2
        have d3 : wr.cell? ⟨b, o + k * 5 + 3, none⟩ = some (.int .i64 x.fFrom) := (hb.cell (p := ⟨b, o + k * 5 + 3, none⟩) hbl).trans c3
        have g3 : wr.cell? ⟨b', o' + k * 5 + 3, none⟩ = some (.int .i64 y.fFrom) := (hb.cell (p := ⟨b', o' + k * 5 + 3, none⟩) hbl').trans f3
        have d4 : wr.cell? ⟨b, o + k * 5 + 4, none⟩ = some (.int .i64 x.fDue) := (hb.cell (p := ⟨b, o + k * 5 + 4, none⟩) hbl).trans c4
        have g4 : wr.cell? ⟨b', o' + k * 5 + 4, none⟩ = some (.int .i64 y.fDue) := (hb.cell (p := ⟨b', o' + k * 5 + 4, none⟩) hbl').trans f4
        have hX := hide hx
        have hY := hide hy
        have hB := hide hb
        clear c0 f0 c1 f1 c2 f2 c3 f3 c4 f4 hr hr' hx hy hb
        have hlt' : (k : Int) < (n : Int) := by omega
        have hk0 : (0 : Int) ≤ (k : Int) := by omega
        go_wp2_with fail
        go_still_tail 8, (by kernel_rfl)
        change wpList _ _ _ _ _ wr.drew
        have hB2 := hide (Below.drew hB.out)
        cases hxy : x.same y
        · go_wp2_with (go_at_call 42; refine (eqOrder_any x y _).mono ?_; rintro e w1 ⟨rfl, hb1⟩; have hB1 := hide (hB2.out.trans (hb1.mono hB2.out.size)); clear hb1)
          go_ret
          refine ⟨retB (Eq.symm (decide_eq_false fun he => ?_)), hB1.out⟩
          subst he
          rw [hX.out] at hY
          have := Option.some.inj hY.out
          subst this
          exact Order.same_false.1 hxy rfl
        · go_wp2_with (go_at_call 42; refine (eqOrder_any x y _).mono ?_; rintro e w1 ⟨rfl, hb1⟩; have hB1 := hide (hB2.out.trans (hb1.mono hB2.out.size)); clear hb1)
          go_roundw
          case rel => exact ⟨k + 1, by omega, by go_num, hB1.out, hide (by rw [take_snoc hX.out, take_snoc hY.out, hpre.out, Order.same_true.1 hxy])⟩
          case measure => simp [intOf]; omega
      · have hkn : k = n := by omega
        subst hkn
        have hB := hide hb
        clear hb
        go_wp2
        go_ret
        exact ⟨retB (Eq.symm (decide_eq_true (hpost.out.2 hpre.out))), hB.out⟩
  · have e1 : ((n : Int) != (n' : Int)) = true := by simp; omega
    have hd : Hid (decide (l = l') = false) := decide_eq_false fun he => hne (by rw [← hl.out, ← hl'.out, he])
    clear hne
    go_enter Try.func13, Try.ntmps13
    go_wp2
    go_ret
    exact ⟨retB hd.out.symm, Below.refl _ _⟩
end Go.Proofs.Ytplpbebpblalfaa
