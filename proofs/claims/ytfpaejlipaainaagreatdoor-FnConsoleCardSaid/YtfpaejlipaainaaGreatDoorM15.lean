/- Texts that belong together, joined: contracts and plain laws. No statement is proved here. -/
import Derived.Test.YtfpaejlipaainaaGreatDoorM01
import Derived.Test.YtfpaejlipaainaaGreatDoorM04
import Derived.Orders
import Derived.OrdersIn
import Derived.RangeFuncCalls
import Derived.Deep.DeepCutAuto
namespace Go.Proofs.YtfpaejlipaainaaGreatDoor
open Go.ChangeShapes Go.WideShapes Go.ChangeAt Go.RowKit Go.Deep
theorem filter_le {p q : Nat → Bool} (h : ∀ x, q x = true → p x = true) : ∀ (l : List Nat), (l.filter q).length ≤ (l.filter p).length := by
  intro l
  induction l with
  | nil => simp
  | cons x xs ih =>
    rw [List.filter_cons, List.filter_cons]
    cases hq : q x
    · cases hp : p x <;> simp <;> omega
    · rw [h x hq]; simp; exact ih
theorem filter_lt {p q : Nat → Bool} (h : ∀ x, q x = true → p x = true) {i : Nat} (hp : p i = true) (hq : q i = false) : ∀ (l : List Nat), i ∈ l → (l.filter q).length < (l.filter p).length := by
  intro l
  induction l with
  | nil => intro hi; cases hi
  | cons x xs ih =>
    intro hi
    rw [List.filter_cons, List.filter_cons]
    have hle := filter_le h xs
    rcases List.mem_cons.1 hi with rfl | hi
    · rw [hp, hq]; simp; omega
    · have := ih hi
      cases hqx : q x
      · cases hpx : p x <;> simp <;> omega
      · rw [h x hqx]; simp; exact this
def leftOf (ops : Array Oper) (l : Array Bool) : Nat := ((List.range ops.size).filter fun i => !l.getD i true).length
theorem ready_left {md : Region.Mode} {ops : Array Oper} {l : Array Bool} (h : leftOf ops l = 0) : Region.ready md ops l = [] := by
  unfold leftOf at h
  have h0 := List.eq_nil_of_length_eq_zero h
  rw [List.filter_eq_nil_iff] at h0
  unfold Region.ready
  rw [List.filter_eq_nil_iff]
  intro i hi h1
  rw [Bool.and_eq_true] at h1
  exact h0 i hi h1.1
theorem ready_mem {md : Region.Mode} {ops : Array Oper} {l : Array Bool} {i : Nat} (h : i ∈ Region.ready md ops l) : i < ops.size ∧ l.getD i true = false ∧ ((ops[i]?).map (·.after.all fun e => !Region.binds md e || l.getD e.on false)).getD false = true := by
  unfold Region.ready at h
  rw [List.mem_filter, Bool.and_eq_true] at h
  exact ⟨List.mem_range.1 h.1, by simpa using h.2.1, h.2.2⟩
theorem left_less {ops : Array Oper} {l : Array Bool} {i : Nat} (hi : i < ops.size) (hl : l.getD i true = false) : leftOf ops (l.setIfInBounds i true) < leftOf ops l := by
  unfold leftOf
  refine filter_lt (i := i) ?_ (by simp [hl]) ?_ _ (List.mem_range.2 hi)
  · intro x hx
    rcases Nat.decEq i x with hne | rfl
    · simpa [Array.getD_eq_getD_getElem?, Array.getElem?_setIfInBounds_ne hne] using hx
    · simp [hl]
  · by_cases hs : i < l.size
    · simp [Array.getD_eq_getD_getElem?, Array.getElem?_setIfInBounds_self_of_lt hs]
    · exfalso
      rw [Array.getD_eq_getD_getElem?, Array.getElem?_eq_none (by omega)] at hl
      simp at hl
theorem wpAny_inv {P : Program} {ops : Array Oper} {md : Region.Mode} {Q : Exit → Act → World → Prop} (I : Array Bool → Act → World → Prop)
    (h : ∀ l a w, I l a w → ∀ i, i < ops.size → l.getD i true = false → ((ops[i]?).map (·.after.all fun e => !Region.binds md e || l.getD e.on false)).getD false = true → wpOp P ops Q i (fun a' w' => I (l.setIfInBounds i true) a' w') a w)
    (he : ∀ l a w, I l a w → Region.ready md ops l = [] → Q .normal a w) :
    ∀ (fuel : Nat) (l : Array Bool) (a : Act) (w : World), leftOf ops l ≤ fuel → I l a w → wpAny P md ops Q fuel l a w := by
  intro fuel
  induction fuel with
  | zero =>
    intro l a w hl hI
    have hr := ready_left (md := md) (Nat.le_zero.1 hl)
    exact ⟨hr, he _ _ _ hI hr⟩
  | succ fuel ih =>
    intro l a w hl hI
    refine ⟨he _ _ _ hI, fun i hi => ?_⟩
    obtain ⟨h1, h2, h3⟩ := ready_mem hi
    refine wpOp_mono (fun a' w' hI' => ih _ _ _ ?_ hI') (h l a w hI i h1 h2 h3)
    have := left_less (ops := ops) h1 h2
    omega
theorem leftOf_start (ops : Array Oper) (l : Array Bool) : leftOf ops l ≤ ops.size := by
  unfold leftOf
  have := List.length_filter_le (fun i => !l.getD i true) (List.range ops.size)
  rwa [List.length_range] at this
theorem wp_region_inv {P : Program} {ops : Array Oper} {id : Nat} {Q : Exit → Act → World → Prop} {a : Act} {w : World} (hm : P.follows .mixedOrders = true) (I : Array Bool → Act → World → Prop)
    (h0 : I (Array.replicate ops.size false) a w.drew)
    (h : ∀ l a w, I l a w → ∀ i, i < ops.size → l.getD i true = false → ((ops[i]?).map (·.after.all fun e => !Region.binds .any e || l.getD e.on false)).getD false = true → wpOp P ops Q i (fun a' w' => I (l.setIfInBounds i true) a' w') a w)
    (he : ∀ l a w, I l a w → Region.ready .any ops l = [] → Q .normal a w) : (Code.region id ops true).wp P Q a w :=
  wp_region_any hm (wpAny_inv I h he _ _ _ _ (leftOf_start _ _) h0)
theorem oper_in {P : Program} {o : Oper} {a : Act} {w : World} {K : Act → World → Prop} {Q : Exit → Act → World → Prop} {l n : Nat} (hd : ∀ c, o.op ≠ .defer c) (hr : ∀ r x w', (execOp a.eval o).run P w ≠ .ok (.row r x) w')
    (h : o.wp P a w K Q) : o.wpIn (Fence.wide.inRound l) n P a w K Q := by
  refine ⟨fun _ _ => trivial, ?_⟩
  rw [Oper.semAt_eq _ _ _ hd]
  unfold Oper.wp at h
  generalize (execOp a.eval o).run P w = r at h hr
  cases r with
  | ok x w' =>
    cases x with
    | enter f args => exact ⟨fun h => (by cases h), CallsIn.inRound l (callsIn_wide.2 h)⟩
    | row r x => exact (hr _ _ _ rfl).elim
    | round _ _ _ _ _ => exact h.elim
    | _ => exact h
  | halt x w' => cases x <;> exact h
theorem region_in {P : Program} {ops : Array Oper} {id l n : Nat} {Q : Exit → Act → World → Prop} {a : Act} {w : World} (hm : P.follows .mixedOrders = true) (hd : ∀ (i : Nat) o, ops[i]? = some o → ∀ c, o.op ≠ .defer c)
    (hr : ∀ (i : Nat) o, ops[i]? = some o → ∀ ρ w r x w', (execOp ρ o).run P w ≠ .ok (.row r x) w') (hL : ¬ LetsOut Q)
    (h : wpAny P .any ops Q ops.size (Array.replicate ops.size false) a w.drew) : (Code.region id ops true).wpIn (Fence.wide.inRound l) n P Q a w := by
  refine wpIn_region_any hm ?_
  have key : ∀ (fuel : Nat) (li : Array Bool) (a : Act) (w : World), wpAny P .any ops Q fuel li a w → wpAnyIn (Fence.wide.inRound l) n P .any ops Q fuel li a w := by
    intro fuel
    induction fuel with
    | zero => intro li a w h; exact h
    | succ fuel ih =>
      intro li a w h
      refine ⟨h.1, fun i hi => ?_⟩
      have h1 := h.2 i hi
      unfold wpOp at h1
      unfold wpOpIn
      cases ho : ops[i]? with
      | none => rw [ho] at h1; exact ih _ _ _ h1
      | some o =>
        rw [ho] at h1
        simp only at h1 ⊢
        split at h1
        · rename_i hw
          rw [if_pos hw]
          rcases h1 with h1 | h1
          · exact Oper.wpIn_mono (fun a w => ih _ _ _) (oper_in (hd i o ho) (fun r x w' => hr i o ho _ _ r x w') h1)
          · exact (hL h1.2).elim
        · rename_i hw
          rw [if_neg hw]
          exact ⟨fun _ _ => trivial, ih _ _ _ h1⟩
  exact key _ _ _ _ h
def backB (ops : Array Oper) : Bool := (List.range ops.size).all fun i => ((ops[i]?).map (·.after.all fun e => decide (e.on < i))).getD true
theorem ready_nil_all {md : Region.Mode} {ops : Array Oper} {l : Array Bool} (hc : backB ops = true) (hs : l.size = ops.size) (h : Region.ready md ops l = []) : ∀ n i, i < n → i < ops.size → l.getD i true = true := by
  intro n
  induction n with
  | zero => intro i hi; omega
  | succ n ih =>
    intro i hi hio
    by_cases hlt : i < n
    · exact ih i hlt hio
    have hin : i = n := by omega
    cases hg : l.getD i true with
    | true => rfl
    | false =>
      exfalso
      unfold Region.ready at h
      rw [List.filter_eq_nil_iff] at h
      apply h i (List.mem_range.2 hio)
      rw [hg]
      simp only [Bool.not_false, Bool.true_and]
      unfold backB at hc
      rw [List.all_eq_true] at hc
      have h1 := hc i (List.mem_range.2 hio)
      rw [Array.getElem?_eq_getElem hio] at h1 ⊢
      simp only [Option.map_some, Option.getD_some] at h1 ⊢
      rw [Array.all_eq_true_iff_forall_mem] at h1 ⊢
      intro e he
      have h2 := of_decide_eq_true (h1 e he)
      have h3 := ih e.on (by omega) (by omega)
      have h4 : l.getD e.on false = true := by
        have hlt : e.on < l.size := by omega
        simpa [Array.getD_eq_getD_getElem?, Array.getElem?_eq_getElem hlt] using h3
      rw [h4, Bool.or_true]
end Go.Proofs.YtfpaejlipaainaaGreatDoor
namespace Go.Proofs.YtfpaejlipaainaaGreatDoor
open Go.ChangeShapes Go.WideShapes Go.ChangeAt Go.RowKit Go.Deep
set_option maxRecDepth 100000
theorem wpOp_of {P : Program} {ops : Array Oper} {Q : Exit → Act → World → Prop} {i : Nat} {o : Oper} {K : Act → World → Prop} {a : Act} {w : World} (ho : ops[i]? = some o) (hg : o.guard = none) (h : o.wp P a w K Q) : wpOp P ops Q i K a w := by
  have hw : Region.wanted o (yielded ops a.tmps) = true := by simp [Region.wanted, hg]
  unfold wpOp
  rw [ho]
  simp only
  rw [if_pos hw]
  exact .inl h
theorem wpOp_step {P : Program} {ops : Array Oper} {Q : Exit → Act → World → Prop} {i : Nat} {o : Oper} {K : Act → World → Prop} {a : Act} {w : World} (ho : ops[i]? = some o) (hg : o.guard = none) (h : if Region.wanted o (yielded ops a.tmps) = true then o.wp P a w K Q else False) : wpOp P ops Q i K a w := by
  have hw : Region.wanted o (yielded ops a.tmps) = true := by simp [Region.wanted, hg]
  rw [if_pos hw] at h
  exact wpOp_of ho hg h
def Q1 (wr w : World) (y : Int) (u : Value) : Prop := ∃ q, u = .slice (some ⟨q, 0, none⟩) 1 1 ∧ w.heap[q]? = some (.cells #[.int .i64 y] 2 (0, 0)) ∧ wr.heap.size ≤ q
theorem Q1.kept {wr w w' : World} {y : Int} {u : Value} {row : Option Nat} (h : Q1 wr w y u) (hg : w.grownBy w' row) (hr : ∀ q, row = some q → q < wr.heap.size) : Q1 wr w' y u := by
  obtain ⟨q, e, hq, hl⟩ := h
  exact ⟨q, e, (hg.block q (Array.getElem?_eq_some_iff.1 hq).1 (fun e => by have := hr q e.symm; omega)).trans hq, hl⟩
theorem Q1.alloc {wr w : World} {y : Int} {u : Value} (h : Q1 wr w y u) (O : Obj) : Q1 wr (w.alloc O) y u := h.kept (World.grownBy_alloc w O none) (fun q e => by cases e)
theorem Q1.new {wr w : World} (y : Int) (h : wr.heap.size ≤ w.heap.size) : Q1 wr (w.alloc (.cells #[.int .i64 y] 2)) y (.slice (some ⟨w.heap.size, 0, none⟩) 1 1) := ⟨_, rfl, heap_alloc_new w _, h⟩
section
variable {ws wr w w' : World} {base b0 b1 b2 b3 b4 b5 b6 b7 b8 : Nat} {S bd : Int} {A : Option Addr} {n c : Nat} {rods : List Int} {vf vo vl vb : Value} {gu : Nat} {o : List Int} {st : List Int × Int}
structure R7 (ws wr : World) (base b0 b1 b2 b3 b4 b5 b6 b7 b8 : Nat) (S bd : Int) (A : Option Addr) (n c : Nat) (rods : List Int) (vf vo vl vb : Value) (gu : Nat) (o : List Int) (st : List Int × Int) (k x : Int) (B4 B5 B8 B9 : Bool) (u49 u50 u53 u54 : Value) (w : World) : Prop where
  m0 : B5 = false → JM w base b0 b1 b2 b3 b4 b5 b6 b7 b8 S bd A n c rods vf vo vl vb gu o st vo vl o (laidOf rods o)
  m1 : B5 = true → B9 = false → JM w base b0 b1 b2 b3 b4 b5 b6 b7 b8 S bd A n c rods vf vo vl vb gu o st u50 vl (o ++ [k]) (laidOf rods o)
  m2 : B9 = true → JM w base b0 b1 b2 b3 b4 b5 b6 b7 b8 S bd A n c rods vf vo vl vb gu o st u50 u54 (o ++ [k]) (laidOf rods o ++ [x])
  q4 : B4 = true → B5 = false → Q1 wr w k u49
  q8 : B8 = true → B9 = false → Q1 wr w x u53
  c54 : B5 = true → B4 = true
  c98 : B9 = true → B8 = true
  c95 : B9 = true → B5 = true
  far : wr.heap.size ≤ w.heap.size
  b : Below base ws w
  hb : base ≤ w.heap.size
  ho : ∀ q, vo.ownBlock = some q → q < wr.heap.size
variable {k x : Int} {B4 B5 B8 B9 : Bool} {u49 u50 u53 u54 : Value}
theorem R7.start (h : JS wr base b0 b1 b2 b3 b4 b5 b6 b7 b8 S bd A n c rods vf vo vl vb gu o st) (hb : Below base ws wr) (u49 u50 u53 u54 : Value) : R7 ws wr base b0 b1 b2 b3 b4 b5 b6 b7 b8 S bd A n c rods vf vo vl vb gu o st k x false false false false u49 u50 u53 u54 wr.drew := by
  have hd : Below wr.heap.size wr wr.drew := below_drewN (Below.refl _ _) 1
  have hJ := h.below hd
  exact ⟨fun _ => hJ.mid, fun e => (by cases e), fun e => (by cases e), fun e => (by cases e), fun e => (by cases e), fun e => (by cases e), fun e => (by cases e), fun e => (by cases e), hd.size, hb.trans (hd.mono h.hb), hJ.hb, fun q e => (h.t.o0.2.lt q e).2⟩
theorem R7.four (h : R7 ws wr base b0 b1 b2 b3 b4 b5 b6 b7 b8 S bd A n c rods vf vo vl vb gu o st k x B4 B5 B8 B9 u49 u50 u53 u54 w) : R7 ws wr base b0 b1 b2 b3 b4 b5 b6 b7 b8 S bd A n c rods vf vo vl vb gu o st k x true B5 B8 B9 (.slice (some ⟨w.heap.size, 0, none⟩) 1 1) u50 u53 u54 (w.alloc (.cells #[.int .i64 k] 2)) := by
  have hd : Below w.heap.size w (w.alloc (.cells #[.int .i64 k] 2)) := (Below.refl _ _).alloc (Nat.le_refl _) _
  exact ⟨fun e => (h.m0 e).below hd, fun e f => (h.m1 e f).below hd, fun e => (h.m2 e).below hd, fun _ _ => Q1.new k h.far, fun e f => (h.q8 e f).alloc _, fun e => rfl, h.c98, h.c95, Nat.le_trans h.far hd.size, h.b.trans (hd.mono h.hb), Nat.le_trans h.hb hd.size, h.ho⟩
theorem R7.eight (h : R7 ws wr base b0 b1 b2 b3 b4 b5 b6 b7 b8 S bd A n c rods vf vo vl vb gu o st k x B4 B5 B8 B9 u49 u50 u53 u54 w) : R7 ws wr base b0 b1 b2 b3 b4 b5 b6 b7 b8 S bd A n c rods vf vo vl vb gu o st k x B4 B5 true B9 u49 u50 (.slice (some ⟨w.heap.size, 0, none⟩) 1 1) u54 (w.alloc (.cells #[.int .i64 x] 2)) := by
  have hd : Below w.heap.size w (w.alloc (.cells #[.int .i64 x] 2)) := (Below.refl _ _).alloc (Nat.le_refl _) _
  exact ⟨fun e => (h.m0 e).below hd, fun e f => (h.m1 e f).below hd, fun e => (h.m2 e).below hd, fun e f => (h.q4 e f).alloc _, fun _ _ => Q1.new x h.far, h.c54, fun _ => rfl, h.c95, Nat.le_trans h.far hd.size, h.b.trans (hd.mono h.hb), Nat.le_trans h.hb hd.size, h.ho⟩
theorem R7.five {v : Value} {H : Nat} (h : R7 ws wr base b0 b1 b2 b3 b4 b5 b6 b7 b8 S bd A n c rods vf vo vl vb gu o st k x B4 B5 B8 B9 u49 u50 u53 u54 w) (h5 : B5 = false) (h4 : B4 = true) (ho : Own i64c 2 1 w' base v (o.length + 1) (o ++ [k])) (hg : w.grownBy w' vo.ownBlock) (hat : v.ownBlock = vo.ownBlock ∨ v.ownBlock = some H) (hH : w.heap.size ≤ H) : R7 ws wr base b0 b1 b2 b3 b4 b5 b6 b7 b8 S bd A n c rods vf vo vl vb gu o st k x B4 true B8 B9 u49 v u53 u54 w' := by
  have hm := h.m0 h5
  have h9 : B9 = false := by cases hB : B9; rfl; (have := h.c95 hB; rw [h5] at this; cases this)
  exact ⟨fun e => (by cases e), fun _ _ => hm.app0 ho hg hat hH, fun e => (by rw [h9] at e; cases e), fun _ e => (by cases e), fun e f => (h.q8 e f).kept hg h.ho, fun _ => h4, h.c98, fun _ => rfl, Nat.le_trans h.far hg.size, grown_below h.b hm.t.o0 hg h.hb, Nat.le_trans h.hb hg.size, h.ho⟩
theorem R7.nine {v : Value} {H : Nat} (h : R7 ws wr base b0 b1 b2 b3 b4 b5 b6 b7 b8 S bd A n c rods vf vo vl vb gu o st k x B4 B5 B8 B9 u49 u50 u53 u54 w) (h9 : B9 = false) (h5 : B5 = true) (h8 : B8 = true) (ho : Own i64c 2 1 w' base v ((laidOf rods o).length + 1) (laidOf rods o ++ [x])) (hg : w.grownBy w' vl.ownBlock) (hat : v.ownBlock = vl.ownBlock ∨ v.ownBlock = some H) (hH : w.heap.size ≤ H) : R7 ws wr base b0 b1 b2 b3 b4 b5 b6 b7 b8 S bd A n c rods vf vo vl vb gu o st k x B4 B5 B8 true u49 u50 u53 v w' := by
  have hm := h.m1 h5 h9
  exact ⟨fun e => (by rw [h5] at e; cases e), fun _ e => (by cases e), fun _ => hm.app1 ho hg hat hH, fun e f => (by rw [h5] at f; cases f), fun _ e => (by cases e), h.c54, fun _ => h8, fun _ => h5, Nat.le_trans h.far hg.size, grown_below h.b hm.t.o1 hg h.hb, Nat.le_trans h.hb hg.size, h.ho⟩
theorem R7.cells (h : R7 ws wr base b0 b1 b2 b3 b4 b5 b6 b7 b8 S bd A n c rods vf vo vl vb gu o st k x B4 B5 B8 B9 u49 u50 u53 u54 w) : w.cell? ⟨b7, 0, none⟩ = some (.slice (some ⟨gu, 0, none⟩) n n) ∧ w.cell? ⟨b2, 0, none⟩ = some vl ∧ w.cell? ⟨b4, 0, none⟩ = some vo := by
  cases h5 : B5
  · have x := (h.m0 h5).x
    exact ⟨(brow1 x.h7).1, (brow1 x.h2).1, (brow1 x.h4).1⟩
  · cases h9 : B9
    · have x := (h.m1 h5 h9).x
      exact ⟨(brow1 x.h7).1, (brow1 x.h2).1, (brow1 x.h4).1⟩
    · have x := (h.m2 h9).x
      exact ⟨(brow1 x.h7).1, (brow1 x.h2).1, (brow1 x.h4).1⟩
structure E7 (ws wr : World) (base b0 b1 b2 b3 b4 b5 b6 b7 b8 : Nat) (S bd : Int) (A : Option Addr) (n c : Nat) (rods : List Int) (vf vo vl vb : Value) (gu : Nat) (o : List Int) (st : List Int × Int) (k : Nat) (x : Int) (B0 B1 B2 B3 B4 B5 B6 B7 B8 B9 B10 B11 B12 B13 : Bool) (u49 u50 u53 u54 : Value) (wx : World) : Prop where
  r : B11 = false → R7 ws wr base b0 b1 b2 b3 b4 b5 b6 b7 b8 S bd A n c rods vf vo vl vb gu o st (k : Int) x B4 B5 B8 B9 u49 u50 u53 u54 wx
  d : B11 = true → B0 = true ∧ B1 = true ∧ B2 = true ∧ B3 = true ∧ B4 = true ∧ B5 = true ∧ B6 = true ∧ B7 = true ∧ B8 = true ∧ B9 = true ∧ B10 = true
  c12 : B12 = true → B11 = true
  c13 : B13 = true → B12 = true
  e : B11 = true → ∃ w1, JM w1 base b0 b1 b2 b3 b4 b5 b6 b7 b8 S bd A n c rods vf vo vl vb gu o st u50 u54 (o ++ [(k : Int)]) (laidOf rods o ++ [x]) ∧ Below base ws w1 ∧ (B12 = false → wx = w1.setCell ⟨gu, k, none⟩ (.bool true)) ∧ (B12 = true → B13 = false → wx = (w1.setCell ⟨gu, k, none⟩ (.bool true)).setCell ⟨b4, 0, none⟩ u50) ∧ (B13 = true → wx = ((w1.setCell ⟨gu, k, none⟩ (.bool true)).setCell ⟨b4, 0, none⟩ u50).setCell ⟨b2, 0, none⟩ u54)
theorem wpOp_ofK {P : Program} {ops : Array Oper} {Q : Exit → Act → World → Prop} {i : Nat} {o : Oper} {K0 : Act → World → Prop} {a : Act} {w : World} (ho : ops[i]? = some o) (hg : o.guard = none) (h : ∀ K : Act → World → Prop, (∀ a w, K0 a w → K a w) → o.wp P a w K Q) : wpOp P ops Q i K0 a w := wpOp_of ho hg (h K0 (fun _ _ h => h))
end
end Go.Proofs.YtfpaejlipaainaaGreatDoor
namespace Go.Proofs.YtfpaejlipaainaaGreatDoor
open Go.ChangeShapes Go.WideShapes Go.ChangeAt Go.RowKit Go.Deep
set_option maxRecDepth 100000
section
variable {w w' : World} {base b0 b1 b2 b3 b4 b5 b6 b7 b8 : Nat} {S bd : Int} {A Al : Option Addr} {n c cl : Nat} {rods : List Int} {vf vo vl vb : Value} {gu : Nat} {o : List Int} {st : List Int × Int}
theorem below_then {B : Nat} {w w1 w2 : World} (h : Below B w w1) (hB : B ≤ w1.heap.size) (k : Below w1.heap.size w1 w2) : Below B w w2 := h.trans (k.mono hB)
theorem below_two' {B : Nat} {w w1 w2 : World} (h : Below B w w1) (k : Below B w1 w2) : Below B w w2 := h.trans k
theorem laidOf_len (rods o : List Int) : (laidOf rods o).length = o.length := by unfold laidOf; rw [List.length_map]
theorem JS.laid (h : JS w base b0 b1 b2 b3 b4 b5 b6 b7 b8 S bd A n c rods vf vo (.slice Al o.length cl) vb gu o st) : Arr i64c 1 w w.heap.size Al o.length (laidOf rods o) := by
  have h1 := h.t.o1
  rw [laidOf_len] at h1
  exact h1.arr i64c_len
theorem JS.four (h : JS w base b0 b1 b2 b3 b4 b5 b6 b7 b8 S bd A n c rods vf vo vl vb gu o st) : w.cell? ⟨b0, 0, none⟩ = some (.int .i64 st.2) ∧ w.cell? ⟨b1, 0, none⟩ = some (.int .i64 S) ∧ w.cell? ⟨b2, 0, none⟩ = some vl ∧ w.cell? ⟨b3, 0, none⟩ = some (.int .i64 bd) :=
  ⟨h.cells.1.1, h.cells.1.2.1, h.cells.1.2.2.1, h.cells.1.2.2.2.1⟩
theorem JX.four {vr vu : Value} {least : Int} (h : JX w base b0 b1 b2 b3 b4 b5 b6 b7 b8 S bd least vl vo vr vb vu vf) : w.cell? ⟨b4, 0, none⟩ = some vo ∧ w.cell? ⟨b1, 0, none⟩ = some (.int .i64 S) ∧ w.cell? ⟨b2, 0, none⟩ = some vl ∧ w.cell? ⟨b3, 0, none⟩ = some (.int .i64 bd) :=
  ⟨(brow1 h.h4).1, (brow1 h.h1).1, (brow1 h.h2).1, (brow1 h.h3).1⟩
theorem JS.four' (h : JS w base b0 b1 b2 b3 b4 b5 b6 b7 b8 S bd A n c rods vf vo vl vb gu o st) : w.cell? ⟨b4, 0, none⟩ = some vo ∧ w.cell? ⟨b1, 0, none⟩ = some (.int .i64 S) ∧ w.cell? ⟨b2, 0, none⟩ = some vl ∧ w.cell? ⟨b3, 0, none⟩ = some (.int .i64 bd) :=
  ⟨h.cells.1.2.2.2.2.1, h.cells.1.2.1, h.cells.1.2.2.1, h.cells.1.2.2.2.1⟩
end
set_option maxHeartbeats 4000000 in
theorem place_any (base b0 b1 b2 b3 b4 b5 b6 b7 b8 : Nat) (S bd : Int) (A : Option Addr) (n c : Nat) (rods : List Int) (vf : Value) (gu : Nat) (hS : 3 ≤ S ∧ S ≤ 60) (hR : RB7 rods) (hn : rods.length = n)
    (hvf : vf = .func (.func 240) #[] #[.pointer (some ⟨b0, 0, none⟩), .pointer (some ⟨b1, 0, none⟩), .pointer (some ⟨b2, 0, none⟩), .pointer (some ⟨b3, 0, none⟩), .pointer (some ⟨b4, 0, none⟩), .pointer (some ⟨b5, 0, none⟩), .pointer (some ⟨b6, 0, none⟩), .pointer (some ⟨b7, 0, none⟩), .pointer (some ⟨b8, 0, none⟩)]) :
    ∀ (f : Nat) (o : List Int) (st : List Int × Int) (vo vl vb : Value) (w : World), o.length + f = n + 1 → (∀ z ∈ o, 0 ≤ z ∧ z < (n : Int)) → o.length ≤ n → JS w base b0 b1 b2 b3 b4 b5 b6 b7 b8 S bd A n c rods vf vo vl vb gu o st →
    Calls Tryz.prog 240 #[.pointer (some ⟨b0, 0, none⟩), .pointer (some ⟨b1, 0, none⟩), .pointer (some ⟨b2, 0, none⟩), .pointer (some ⟨b3, 0, none⟩), .pointer (some ⟨b4, 0, none⟩), .pointer (some ⟨b5, 0, none⟩), .pointer (some ⟨b6, 0, none⟩), .pointer (some ⟨b7, 0, none⟩), .pointer (some ⟨b8, 0, none⟩)] w fun e w' =>
      e = .returned (.tuple #[]) ∧ ∃ vo' vl' vb', JS w' base b0 b1 b2 b3 b4 b5 b6 b7 b8 S bd A n c rods vf vo' vl' vb' gu o (plc S bd rods f o st) ∧ Below base w w' := by
  have hn7 : n ≤ 7 := by rw [← hn]; exact hR.1
  have hRh := hide hR
  have hnh := hide hn
  clear hR hn
  have hvfh := hide hvf
  clear hvf
  intro f
  induction f with
  | zero => intro o st vo vl vb w h1 _ h2; omega
  | succ f ih =>
    intro o st vo vl vb w hf hv hol hJ
    have hvh := hide hv
    have hJh := hide hJ
    have hfh := hide hf
    have hlr := hide (laid_RB hRh.out hnh.out hol hv)
    have hihh := hide ih
    obtain ⟨Ao, co, hvo, hco⟩ := hJ.t.o0.slice
    subst hvo
    obtain ⟨Al, cl, hvl, hcl⟩ := hJ.t.o1.slice
    have hlen1 : (laidOf rods o).length = o.length := by unfold laidOf; rw [List.length_map]
    rw [hlen1] at hvl
    subst hvl
    clear ih hv hJ hf hlen1
    obtain ⟨m, hm⟩ : ∃ m, m = mAbv S bd (laidOf rods o) := ⟨_, rfl⟩
    have hmh := hide hm
    clear hm
    go_enter Tryz.func240, Tryz.ntmps240
    go_upto_region 0 with fail
    go_cut [20] (fun v wx => v = .bool (decide (0 ≤ st.2 ∧ st.2 ≤ (m : Int))) ∧ JS wx base b0 b1 b2 b3 b4 b5 b6 b7 b8 S bd A n c rods vf (.slice Ao o.length co) (.slice Al o.length cl) vb gu o st ∧ Below base w wx)
    case first =>
      have hdr : Below w.heap.size w w.drew := below_drewN (Below.refl _ _) 1
      have hJ2 := hide (hJh.out.below hdr)
      have hB2 := hide (hdr.mono hJh.out.hb)
      obtain ⟨c0, c1, c2, c3⟩ := hJ2.out.four
      clear hdr
      by_cases hl : 0 ≤ st.2
      · have hd : decide (0 ≤ st.2) = true := decide_eq_true hl
        go_region_held3 (fun w' => w'.cell? ⟨b0, 0, none⟩ = some (.int .i64 st.2) ∧ w'.cell? ⟨b1, 0, none⟩ = some (.int .i64 S) ∧ w'.cell? ⟨b2, 0, none⟩ = some (.slice Al o.length cl) ∧ w'.cell? ⟨b3, 0, none⟩ = some (.int .i64 bd)) (first | go_keep | exact JS.four hJ3.out) (first | (go_at_call 241; refine (iAboves_any S bd Al o.length cl (laidOf rods o) _ hS hlr.out hJ2.out.laid).mono ?_; rw [← hmh.out]; rintro e w4 ⟨rfl, hb4⟩; have hJ3 := hide (hJ2.out.below hb4); have hB3 := hide (below_then hB2.out hJ2.out.hb hb4); clear hb4) | fail)
        go_wp2_with fail
        go_meet
        exact ⟨congrArg Value.bool (by simp [hl]), hJ3.out, hB3.out⟩
      · have hd : decide (0 ≤ st.2) = false := decide_eq_false hl
        have hd2 : Hid (decide (0 ≤ st.2 ∧ st.2 ≤ (m : Int)) = false) := hide (by simp [hl])
        obtain ⟨e0, e1, e2, e3⟩ := hJh.out.four
        clear c0 c1 c2 c3
        go_quiet (fail)
        go_wp2_with fail
        go_meet
        exact ⟨congrArg Value.bool hd2.out.symm, hJh.out.below (below_drewN (Below.refl _ _) _), below_drewN (Below.refl _ _) _⟩
    case rest =>
      obtain ⟨rfl, hJ1, hB1⟩ := hcut
      have hJ := hide hJ1
      have hB := hide hB1
      clear hJ1 hB1 hJh
      by_cases hp : 0 ≤ st.2 ∧ st.2 ≤ (m : Int)
      · have hpl : Hid (plc S bd rods (f + 1) o st = st) := hide (by rw [plc, if_pos (by rw [← hmh.out]; exact hp)])
        have hd : decide (0 ≤ st.2 ∧ st.2 ≤ (m : Int)) = true := decide_eq_true hp
        rw [hd]
        clear hd hp
        go_wp2
        refine bodyPost_ret (results_none rfl _ _ _) rfl ?_
        exact ⟨rfl, _, _, _, by rw [hpl.out]; exact hJ.out, hB.out⟩
      have hd : decide (0 ≤ st.2 ∧ st.2 ≤ (m : Int)) = false := decide_eq_false hp
      rw [hd]
      clear hd
      obtain ⟨c0, c1, c2, c3, c4, c5, c6, c7, c8⟩ := hJ.out.cells.1
      by_cases hl : o.length = n
      · have hpl : Hid (plc S bd rods (f + 1) o st = (o, (m : Int))) := hide (by rw [plc, if_neg (by rw [← hmh.out]; exact hp), if_pos (by rw [hnh.out]; exact hl), ← hmh.out])
        have hq : ((o.length : Int) == (n : Int)) = true := by rw [hl]; simp
        clear hp hl
        go_wp2_with fail
        have hdr : Below wc.heap.size wc wc.drew := below_drewN (Below.refl _ _) 1
        have hJ2 := hide (hJ.out.below hdr)
        have hB2 := hide (below_then hB.out hJ.out.hb hdr)
        clear c0 c1 c2 c3 c4 c5 c6 c7 c8 hdr
        have ho4 := hide (hJ2.out.t.o0.arr i64c_len)
        have hJA : Hid (∀ O, JS (wc.alloc O).drew base b0 b1 b2 b3 b4 b5 b6 b7 b8 S bd A n c rods vf (.slice Ao o.length co) (.slice Al o.length cl) vb gu o st) := hide (fun O => hJ2.out.below ((Below.refl _ _).alloc (Nat.le_refl _) O))
        obtain ⟨d1, d2, d3, d4⟩ := hJ2.out.cells.2
        obtain ⟨c0, c1, c2, c3, c4, c5, c6, c7, c8⟩ := hJ2.out.cells.1
        have hA0 : Hid (Own i64c 2 1 ((wc.alloc (.cells #[] 2)).drew) base (.slice (some ⟨wc.heap.size, 0, none⟩) 0 0) 0 []) := hide (Own.none_made (base := base) wc.drew hJ2.out.hb)
        have hA1 : Hid (Arr i64c 1 ((wc.alloc (.cells #[] 2)).drew) wc.heap.size Ao o.length o) := hide (ho4.out.below ((Below.refl _ _).alloc (Nat.le_refl _) _))
        have hA2 : base ≤ ((wc.alloc (.cells #[] 2)).drew).heap.size := (hJA.out _).hb
        have hkA := hide (JS.four' (hJA.out (.cells #[] 2)))
        go_region_held3 (fun w' => w'.cell? ⟨b4, 0, none⟩ = some (.slice Ao o.length co) ∧ w'.cell? ⟨b1, 0, none⟩ = some (.int .i64 S) ∧ w'.cell? ⟨b2, 0, none⟩ = some (.slice Al o.length cl) ∧ w'.cell? ⟨b3, 0, none⟩ = some (.int .i64 bd)) (first | exact hkA.out | exact JS.four' hJ6.out | exact JS.four' hJ5.out | exact (hJ6.out.x.set6 _).four | exact ((hJ6.out.x.set6 _).set0 _).four | go_keep) (first | (refine step_appN rfl (.tmp 26) (.tmp 27) (by rfl) Tryz.underlying60 info_i64j rfl (by omega) (by omega) i64c_len i64c_one (by rfl) hA0.out (by rfl) hA1.out (by omega) hA2 ?_; intro v5 w5 ho5 hg5 hat5; rw [Nat.zero_add, List.nil_append] at ho5; have hs5 := some_of_at hat5 rfl; obtain ⟨g5, c5, hv5, _, _, _, _⟩ := ho5.formS hs5; subst hv5; clear hs5; have hQ := hide (JS.copied hJ2.out ho5 hg5 hat5); have hO5 := hide ho5; have hJ5 := hide hQ.out.1; clear ho5 hg5 hat5) | (go_at_call 241; refine (iAboves_any S bd Al o.length cl (laidOf rods o) _ hS hlr.out hJ5.out.laid).mono ?_; rw [← hmh.out]; rintro e w6 ⟨rfl, hb6⟩; have hJ6 := hide (hJ5.out.below hb6); have hO6 := hide (hO5.out.below hb6); have hB6 := hide (below_then (below_then hB2.out hJ2.out.hb hQ.out.2.2.2.2) hJ5.out.hb hb6); obtain ⟨q1, q2, q3, q4⟩ := hJ6.out.cells.2; obtain ⟨k0, k1, k2, k3, k4, k5, k6, k7, k8⟩ := hJ6.out.cells.1; have z0 := brow1 (hJ6.out.x.set6 (.slice (some ⟨g5, 0, none⟩) o.length c5)).h0; have z1 := z0.1; have z2 := z0.2 0; clear z0 hb6))
        go_wp2
        refine bodyPost_ret (results_none rfl _ _ _) rfl ?_
        exact ⟨rfl, _, _, _, by rw [hpl.out]; exact JS.best hJ6.out hO6.out hQ.out.2.1 hQ.out.2.2.1 hQ.out.2.2.2.1 (m : Int), (hB6.out.setCell (p := ⟨b6, 0, none⟩) hJ6.out.x.lo.2.2.2.2.2.2.1 _).setCell (p := ⟨b0, 0, none⟩) hJ6.out.x.lo.1 _⟩
      · have hpl : Hid (plc S bd rods (f + 1) o st = plcTo S bd rods f o st n) := hide (by rw [plc, if_neg (by rw [← hmh.out]; exact hp), if_neg (by rw [hnh.out]; exact hl), hnh.out]; rfl)
        have hq : ((o.length : Int) == (n : Int)) = false := by rw [beq_eq_false_iff_ne]; omega
        have hlt0 : o.length < n := by omega
        clear hp hl
        go_wp2
        clear c0 c1 c2 c3 c4 c5 c6 c7 c8
        go_loopw [35] (fun i wr => ∃ (k : Nat) (vo' vl' vb' : Value), k ≤ n ∧ i = .int .i64 k ∧ JS wr base b0 b1 b2 b3 b4 b5 b6 b7 b8 S bd A n c rods vf vo' vl' vb' gu o (plcTo S bd rods f o st k) ∧ Below base w wr) (fun i _ => n - (intOf i).toNat)
        case atStart => exact ⟨0, _, _, _, Nat.zero_le _, rfl, hJ.out, hB.out⟩
        case round =>
          clear hJ hB hq
          obtain ⟨k, vo', vl', vb', hk, rfl, hj, hb⟩ := hrel
          have hJ := hide hj
          have hB := hide hb
          clear hj hb
          by_cases hlt : k < n
          · obtain ⟨rb, ro, x, hA, hrb, hx, cx⟩ := hJ.out.r.int hlt
            subst hA
            obtain ⟨y, hy, e0, ef⟩ := hJ.out.u.bool_at hlt
            rw [usedL_get hlt] at hy
            have hy2 : decide ((k : Int) ∈ o) = y := Option.some.inj hy
            have hX := hide hx
            obtain ⟨Ao', co', hvo', hco'⟩ := hJ.out.t.o0.slice
            subst hvo'
            obtain ⟨Al', cl', hvl', hcl'⟩ := hJ.out.t.o1.slice
            rw [laidOf_len] at hvl' hcl'
            subst hvl'
            obtain ⟨c0, c1, c2, c3, c4, c5, c6, c7, c8⟩ := hJ.out.cells.1
            have hk0 : (0 : Int) ≤ (k : Int) := by omega
            have hkn : (k : Int) < (n : Int) := by omega
            clear hy hx
            cases y with
            | true =>
              have hst := hide (plcTo_yes (S := S) (b := bd) (rods := rods) (n := f) (st := st) (of_decide_eq_true hy2))
              clear hy2
              go_wp2
              go_roundw
              case rel => exact ⟨k + 1, _, _, _, by omega, by go_num, by rw [hst.out]; exact hJ.out, hB.out⟩
              case measure => simp [intOf]; omega
            | false =>
              have hno := hide (of_decide_eq_false hy2)
              have hst := hide (plcTo_no (S := S) (b := bd) (rods := rods) (n := f) (st := st) hno.out)
              clear hy2
              go_upto_region 7 with fail
              go_cut [50] (fun _ wx => ∃ vo2 vl2, JS wx base b0 b1 b2 b3 b4 b5 b6 b7 b8 S bd (some ⟨rb, ro, none⟩) n c rods vf vo2 vl2 vb' gu (o ++ [(k : Int)]) (plcTo S bd rods f o st k) ∧ Below base w wx)
              case first =>
                have hRs := hide (R7.start (k := (k : Int)) (x := x) hJ.out hB.out u49 u50 u53 u54)
                have hown := hide hJ.out.t
                clear c0 c1 c2 c3 c4 c5 c6 c7 c8 cx e0 ef
                refine wp_region_inv (by kernel_rfl) (fun l a wx => ∃ (B0 B1 B2 B3 B4 B5 B6 B7 B8 B9 B10 B11 B12 B13 : Bool) (v45 v46 v47 v48 v49 v50 v51 v52 v53 v54 v55 : Value), l = #[B0, B1, B2, B3, B4, B5, B6, B7, B8, B9, B10, B11, B12, B13] ∧ a = { tmps := #[Value.pointer (some { block := b0, off := 0 }), Value.pointer (some { block := b1, off := 0 }), Value.pointer (some { block := b2, off := 0 }), Value.pointer (some { block := b3, off := 0 }), Value.pointer (some { block := b4, off := 0 }), Value.pointer (some { block := b5, off := 0 }), Value.pointer (some { block := b6, off := 0 }), Value.pointer (some { block := b7, off := 0 }), Value.pointer (some { block := b8, off := 0 }), Value.int IntKind.i64 (k : Int), Value.int IntKind.i64 x, u11, u12, u13, u14, u15, u16, u17, u18, u19, Value.bool false, Value.slice Ao o.length co, Value.int IntKind.i64 (o.length : Int), Value.slice (some { block := rb, off := ro }) n c, Value.int IntKind.i64 (n : Int), Value.bool false, u26, u27, u28, u29, u30, u31, u32, Value.slice (some { block := rb, off := ro }) n c, Value.int IntKind.i64 (n : Int), Value.int IntKind.i64 (k : Int), Value.bool true, Value.int IntKind.i64 (k : Int), Value.pointer (some { block := rb, off := ro + k }), Value.int IntKind.i64 x, Value.slice (some { block := gu, off := 0 }) n n, Value.int IntKind.i64 (k : Int), Value.pointer (some { block := gu, off := k }), Value.bool false, Value.bool true, v45, v46, v47, v48, v49, v50, v51, v52, v53, v54, v55, u56, u57, u58, u59, u60, u61, u62, u63, u64, u65, u66, u67, u68, u69, u70, u71], defers := [] } ∧ (B0 = true → v45 = .slice (some ⟨gu, 0, none⟩) n n) ∧ (B1 = true → v46 = .int .i64 (k : Int)) ∧ (B2 = true → v47 = .slice Ao' o.length co') ∧ (B3 = true → v48 = .int .i64 (k : Int)) ∧ (B6 = true → v51 = .slice Al' o.length cl') ∧ (B7 = true → v52 = .int .i64 x) ∧ (B10 = true → v55 = .pointer (some ⟨gu, k, none⟩)) ∧ (B5 = true → B2 = true) ∧ (B4 = true → B3 = true) ∧ (B9 = true → B6 = true) ∧ (B8 = true → B7 = true) ∧ E7 w wr base b0 b1 b2 b3 b4 b5 b6 b7 b8 S bd (some ⟨rb, ro, none⟩) n c rods vf (.slice Ao' o.length co') (.slice Al' o.length cl') vb' gu o (plcTo S bd rods f o st k) k x B0 B1 B2 B3 B4 B5 B6 B7 B8 B9 B10 B11 B12 B13 v49 v50 v53 v54 wx) ?_ ?_ ?_
                · exact ⟨false, false, false, false, false, false, false, false, false, false, false, false, false, false, u45, u46, u47, u48, u49, u50, u51, u52, u53, u54, u55, rfl, rfl, fun e => (by cases e), fun e => (by cases e), fun e => (by cases e), fun e => (by cases e), fun e => (by cases e), fun e => (by cases e), fun e => (by cases e), fun e => (by cases e), fun e => (by cases e), fun e => (by cases e), fun e => (by cases e), ⟨fun _ => hRs.out, fun e => (by cases e), fun e => (by cases e), fun e => (by cases e), fun e => (by cases e)⟩⟩
                · rintro l a wx ⟨B0, B1, B2, B3, B4, B5, B6, B7, B8, B9, B10, B11, B12, B13, v45, v46, v47, v48, v49, v50, v51, v52, v53, v54, v55, rfl, rfl, f0, f1, f2, f3, f6, f7, f10, g5, g4, g9, g8, hE⟩ i hi hl ha
                  have hi14 : i < 14 := hi
                  have hEh := hide hE
                  clear hE hi hRs
                  rcases (by omega : i = 0 ∨ i = 1 ∨ i = 2 ∨ i = 3 ∨ i = 4 ∨ i = 5 ∨ i = 6 ∨ i = 7 ∨ i = 8 ∨ i = 9 ∨ i = 10 ∨ i = 11 ∨ i = 12 ∨ i = 13) with rfl | rfl | rfl | rfl | rfl | rfl | rfl | rfl | rfl | rfl | rfl | rfl | rfl | rfl
                  · have hb : B0 = false := hl
                    clear hl
                    obtain rfl := hb
                    clear ha
                    have h11 : B11 = false := by cases hx : B11; rfl; (have := hEh.out.d hx; simp at this)
                    obtain rfl := h11
                    have hRr := hide (hEh.out.r rfl)
                    have hE12 : B12 = false := by cases hx : B12; rfl; (have := hEh.out.c12 hx; cases this)
                    have hE13 : B13 = false := by cases hx : B13; rfl; (have := hEh.out.c13 hx; rw [hE12] at this; cases this)
                    obtain rfl := hE12
                    obtain rfl := hE13
                    clear hEh
                    obtain ⟨c7, c2, c4⟩ := hRr.out.cells
                    refine wpOp_ofK rfl rfl fun K hK => ?_
                    go_simp
                    refine hK _ _ ?_
                    exact ⟨true, B1, B2, B3, B4, B5, B6, B7, B8, B9, B10, false, false, false, _, v46, v47, v48, v49, v50, v51, v52, v53, v54, v55, rfl, rfl, fun _ => rfl, f1, f2, f3, f6, f7, f10, g5, g4, g9, g8, ⟨fun _ => hRr.out, fun e => (by cases e), fun e => (by cases e), fun e => (by cases e), fun e => (by cases e)⟩⟩
                  · have hb : B1 = false := hl
                    clear hl
                    obtain rfl := hb
                    clear ha
                    have h11 : B11 = false := by cases hx : B11; rfl; (have := hEh.out.d hx; simp at this)
                    obtain rfl := h11
                    have hRr := hide (hEh.out.r rfl)
                    have hE12 : B12 = false := by cases hx : B12; rfl; (have := hEh.out.c12 hx; cases this)
                    have hE13 : B13 = false := by cases hx : B13; rfl; (have := hEh.out.c13 hx; rw [hE12] at this; cases this)
                    obtain rfl := hE12
                    obtain rfl := hE13
                    clear hEh
                    refine wpOp_ofK rfl rfl fun K hK => ?_
                    go_simp
                    refine hK _ _ ?_
                    exact ⟨B0, true, B2, B3, B4, B5, B6, B7, B8, B9, B10, false, false, false, v45, _, v47, v48, v49, v50, v51, v52, v53, v54, v55, rfl, rfl, f0, fun _ => rfl, f2, f3, f6, f7, f10, g5, g4, g9, g8, ⟨fun _ => hRr.out, fun e => (by cases e), fun e => (by cases e), fun e => (by cases e), fun e => (by cases e)⟩⟩
                  · have hb : B2 = false := hl
                    clear hl
                    obtain rfl := hb
                    clear ha
                    have h11 : B11 = false := by cases hx : B11; rfl; (have := hEh.out.d hx; simp at this)
                    obtain rfl := h11
                    have hRr := hide (hEh.out.r rfl)
                    have hE12 : B12 = false := by cases hx : B12; rfl; (have := hEh.out.c12 hx; cases this)
                    have hE13 : B13 = false := by cases hx : B13; rfl; (have := hEh.out.c13 hx; rw [hE12] at this; cases this)
                    obtain rfl := hE12
                    obtain rfl := hE13
                    clear hEh
                    obtain ⟨c7, c2, c4⟩ := hRr.out.cells
                    refine wpOp_ofK rfl rfl fun K hK => ?_
                    go_simp
                    refine hK _ _ ?_
                    exact ⟨B0, B1, true, B3, B4, B5, B6, B7, B8, B9, B10, false, false, false, v45, v46, _, v48, v49, v50, v51, v52, v53, v54, v55, rfl, rfl, f0, f1, fun _ => rfl, f3, f6, f7, f10, fun _ => rfl, g4, g9, g8, ⟨fun _ => hRr.out, fun e => (by cases e), fun e => (by cases e), fun e => (by cases e), fun e => (by cases e)⟩⟩
                  · have hb : B3 = false := hl
                    clear hl
                    obtain rfl := hb
                    clear ha
                    have h11 : B11 = false := by cases hx : B11; rfl; (have := hEh.out.d hx; simp at this)
                    obtain rfl := h11
                    have hRr := hide (hEh.out.r rfl)
                    have hE12 : B12 = false := by cases hx : B12; rfl; (have := hEh.out.c12 hx; cases this)
                    have hE13 : B13 = false := by cases hx : B13; rfl; (have := hEh.out.c13 hx; rw [hE12] at this; cases this)
                    obtain rfl := hE12
                    obtain rfl := hE13
                    clear hEh
                    refine wpOp_ofK rfl rfl fun K hK => ?_
                    go_simp
                    refine hK _ _ ?_
                    exact ⟨B0, B1, B2, true, B4, B5, B6, B7, B8, B9, B10, false, false, false, v45, v46, v47, _, v49, v50, v51, v52, v53, v54, v55, rfl, rfl, f0, f1, f2, fun _ => rfl, f6, f7, f10, g5, fun _ => rfl, g9, g8, ⟨fun _ => hRr.out, fun e => (by cases e), fun e => (by cases e), fun e => (by cases e), fun e => (by cases e)⟩⟩
                  · have hb : B4 = false := hl
                    clear hl
                    obtain rfl := hb
                    simp [Region.binds] at ha
                    have h11 : B11 = false := by cases hx : B11; rfl; (have := hEh.out.d hx; simp at this)
                    obtain rfl := h11
                    have hRr := hide (hEh.out.r rfl)
                    have hE12 : B12 = false := by cases hx : B12; rfl; (have := hEh.out.c12 hx; cases this)
                    have hE13 : B13 = false := by cases hx : B13; rfl; (have := hEh.out.c13 hx; rw [hE12] at this; cases this)
                    obtain rfl := hE12
                    obtain rfl := hE13
                    clear hEh
                    obtain rfl := f3 ha
                    refine wpOp_ofK rfl rfl fun K hK => ?_
                    go_simp
                    refine hK _ _ ?_
                    exact ⟨B0, B1, B2, B3, true, B5, B6, B7, B8, B9, B10, false, false, false, v45, v46, v47, _, _, v50, v51, v52, v53, v54, v55, rfl, rfl, f0, f1, f2, f3, f6, f7, f10, g5, fun _ => ha, g9, g8, ⟨fun _ => hRr.out.four, fun e => (by cases e), fun e => (by cases e), fun e => (by cases e), fun e => (by cases e)⟩⟩
                  · have hb : B5 = false := hl
                    clear hl
                    obtain rfl := hb
                    simp [Region.binds] at ha
                    have h11 : B11 = false := by cases hx : B11; rfl; (have := hEh.out.d hx; simp at this)
                    obtain rfl := h11
                    have hRr := hide (hEh.out.r rfl)
                    have hE12 : B12 = false := by cases hx : B12; rfl; (have := hEh.out.c12 hx; cases this)
                    have hE13 : B13 = false := by cases hx : B13; rfl; (have := hEh.out.c13 hx; rw [hE12] at this; cases this)
                    obtain rfl := hE12
                    obtain rfl := hE13
                    clear hEh
                    obtain ⟨h2, h4⟩ := ha
                    obtain rfl := f2 h2
                    obtain rfl := h4
                    obtain ⟨q, rfl, hq, hql⟩ := hRr.out.q4 rfl rfl
                    refine wpOp_step rfl rfl ?_
                    refine step_appN rfl (.tmp 47) (.tmp 49) (by rfl) Tryz.underlying60 info_i64j rfl (by omega) (by omega) i64c_len i64c_one (by rfl) (hRr.out.m0 rfl).t.o0 (by rfl) (arr_oneJ hq) (by omega) hRr.out.hb ?_
                    intro v5 w5 ho5 hg5 hat5
                    exact ⟨B0, B1, B2, B3, true, true, B6, B7, B8, B9, B10, false, false, false, v45, v46, _, v48, _, _, v51, v52, v53, v54, v55, rfl, rfl, f0, f1, f2, f3, f6, f7, f10, fun _ => h2, g4, g9, g8, ⟨fun _ => hRr.out.five rfl rfl ho5 hg5 hat5 (Nat.le_refl _), fun e => (by cases e), fun e => (by cases e), fun e => (by cases e), fun e => (by cases e)⟩⟩
                  · have hb : B6 = false := hl
                    clear hl
                    obtain rfl := hb
                    clear ha
                    have h11 : B11 = false := by cases hx : B11; rfl; (have := hEh.out.d hx; simp at this)
                    obtain rfl := h11
                    have hRr := hide (hEh.out.r rfl)
                    have hE12 : B12 = false := by cases hx : B12; rfl; (have := hEh.out.c12 hx; cases this)
                    have hE13 : B13 = false := by cases hx : B13; rfl; (have := hEh.out.c13 hx; rw [hE12] at this; cases this)
                    obtain rfl := hE12
                    obtain rfl := hE13
                    clear hEh
                    obtain ⟨c7, c2, c4⟩ := hRr.out.cells
                    refine wpOp_ofK rfl rfl fun K hK => ?_
                    go_simp
                    refine hK _ _ ?_
                    exact ⟨B0, B1, B2, B3, B4, B5, true, B7, B8, B9, B10, false, false, false, v45, v46, v47, v48, v49, v50, _, v52, v53, v54, v55, rfl, rfl, f0, f1, f2, f3, fun _ => rfl, f7, f10, g5, g4, fun _ => rfl, g8, ⟨fun _ => hRr.out, fun e => (by cases e), fun e => (by cases e), fun e => (by cases e), fun e => (by cases e)⟩⟩
                  · have hb : B7 = false := hl
                    clear hl
                    obtain rfl := hb
                    clear ha
                    have h11 : B11 = false := by cases hx : B11; rfl; (have := hEh.out.d hx; simp at this)
                    obtain rfl := h11
                    have hRr := hide (hEh.out.r rfl)
                    have hE12 : B12 = false := by cases hx : B12; rfl; (have := hEh.out.c12 hx; cases this)
                    have hE13 : B13 = false := by cases hx : B13; rfl; (have := hEh.out.c13 hx; rw [hE12] at this; cases this)
                    obtain rfl := hE12
                    obtain rfl := hE13
                    clear hEh
                    refine wpOp_ofK rfl rfl fun K hK => ?_
                    go_simp
                    refine hK _ _ ?_
                    exact ⟨B0, B1, B2, B3, B4, B5, B6, true, B8, B9, B10, false, false, false, v45, v46, v47, v48, v49, v50, v51, _, v53, v54, v55, rfl, rfl, f0, f1, f2, f3, f6, fun _ => rfl, f10, g5, g4, g9, fun _ => rfl, ⟨fun _ => hRr.out, fun e => (by cases e), fun e => (by cases e), fun e => (by cases e), fun e => (by cases e)⟩⟩
                  · have hb : B8 = false := hl
                    clear hl
                    obtain rfl := hb
                    simp [Region.binds] at ha
                    have h11 : B11 = false := by cases hx : B11; rfl; (have := hEh.out.d hx; simp at this)
                    obtain rfl := h11
                    have hRr := hide (hEh.out.r rfl)
                    have hE12 : B12 = false := by cases hx : B12; rfl; (have := hEh.out.c12 hx; cases this)
                    have hE13 : B13 = false := by cases hx : B13; rfl; (have := hEh.out.c13 hx; rw [hE12] at this; cases this)
                    obtain rfl := hE12
                    obtain rfl := hE13
                    clear hEh
                    obtain rfl := f7 ha
                    refine wpOp_ofK rfl rfl fun K hK => ?_
                    go_simp
                    refine hK _ _ ?_
                    exact ⟨B0, B1, B2, B3, B4, B5, B6, B7, true, B9, B10, false, false, false, v45, v46, v47, v48, v49, v50, v51, _, _, v54, v55, rfl, rfl, f0, f1, f2, f3, f6, f7, f10, g5, g4, g9, fun _ => ha, ⟨fun _ => hRr.out.eight, fun e => (by cases e), fun e => (by cases e), fun e => (by cases e), fun e => (by cases e)⟩⟩
                  · have hb : B9 = false := hl
                    clear hl
                    obtain rfl := hb
                    simp [Region.binds] at ha
                    have h11 : B11 = false := by cases hx : B11; rfl; (have := hEh.out.d hx; simp at this)
                    obtain rfl := h11
                    have hRr := hide (hEh.out.r rfl)
                    have hE12 : B12 = false := by cases hx : B12; rfl; (have := hEh.out.c12 hx; cases this)
                    have hE13 : B13 = false := by cases hx : B13; rfl; (have := hEh.out.c13 hx; rw [hE12] at this; cases this)
                    obtain rfl := hE12
                    obtain rfl := hE13
                    clear hEh
                    obtain ⟨h6, h8, h5⟩ := ha
                    obtain rfl := f6 h6
                    obtain rfl := h8
                    obtain rfl := h5
                    obtain ⟨q, rfl, hq, hql⟩ := hRr.out.q8 rfl rfl
                    have hlo := (hRr.out.m1 rfl rfl).t.o1
                    rw [laidOf_len] at hlo
                    refine wpOp_step rfl rfl ?_
                    refine step_appN rfl (.tmp 51) (.tmp 53) (by rfl) Tryz.underlying60 info_i64j rfl (by omega) (by omega) i64c_len i64c_one (by rfl) hlo (by rfl) (arr_oneJ hq) (by omega) hRr.out.hb ?_
                    intro v5 w5 ho5 hg5 hat5
                    exact ⟨B0, B1, B2, B3, B4, true, B6, B7, true, true, B10, false, false, false, v45, v46, v47, v48, v49, v50, _, v52, _, _, v55, rfl, rfl, f0, f1, f2, f3, f6, f7, f10, g5, g4, fun _ => h6, g8, ⟨fun _ => hRr.out.nine rfl rfl rfl (by rw [laidOf_len]; exact ho5) hg5 hat5 (Nat.le_refl _), fun e => (by cases e), fun e => (by cases e), fun e => (by cases e), fun e => (by cases e)⟩⟩
                  · have hb : B10 = false := hl
                    clear hl
                    obtain rfl := hb
                    simp [Region.binds] at ha
                    have h11 : B11 = false := by cases hx : B11; rfl; (have := hEh.out.d hx; simp at this)
                    obtain rfl := h11
                    have hRr := hide (hEh.out.r rfl)
                    have hE12 : B12 = false := by cases hx : B12; rfl; (have := hEh.out.c12 hx; cases this)
                    have hE13 : B13 = false := by cases hx : B13; rfl; (have := hEh.out.c13 hx; rw [hE12] at this; cases this)
                    obtain rfl := hE12
                    obtain rfl := hE13
                    clear hEh
                    obtain ⟨h0, h1, _, _, h5, h9⟩ := ha
                    obtain rfl := f0 h0
                    obtain rfl := f1 h1
                    refine wpOp_ofK rfl rfl fun K hK => ?_
                    go_simp
                    refine hK _ _ ?_
                    exact ⟨B0, B1, B2, B3, B4, B5, B6, B7, B8, B9, true, false, false, false, _, _, _, _, v49, v50, _, _, v53, v54, _, rfl, rfl, (by first | exact fun _ => rfl | exact f0), (by first | exact fun _ => rfl | exact f1), (by first | exact fun _ => rfl | exact f2), (by first | exact fun _ => rfl | exact f3), (by first | exact fun _ => rfl | exact f6), (by first | exact fun _ => rfl | exact f7), fun _ => rfl, g5, g4, g9, g8, ⟨fun _ => hRr.out, fun e => (by cases e), fun e => (by cases e), fun e => (by cases e), fun e => (by cases e)⟩⟩
                  · have hb : B11 = false := hl
                    clear hl
                    obtain rfl := hb
                    simp [Region.binds] at ha
                    obtain ⟨h10, h9, h0, h1, h5, _⟩ := ha
                    have hE12 : B12 = false := by cases hx : B12; rfl; (have := hEh.out.c12 hx; cases this)
                    have hE13 : B13 = false := by cases hx : B13; rfl; (have := hEh.out.c13 hx; rw [hE12] at this; cases this)
                    obtain rfl := hE12
                    obtain rfl := hE13
                    have hRr := hide (hEh.out.r rfl)
                    have h8 := hRr.out.c98 h9
                    have h4 := hRr.out.c54 h5
                    have hm := hide (hRr.out.m2 h9)
                    obtain rfl := f10 h10
                    obtain ⟨_, _, ⟨z, e1⟩, e2, _, _, _, _⟩ := hm.out.facts hlt true
                    refine wpOp_ofK rfl rfl fun K hK => ?_
                    go_simp
                    refine hK _ _ ?_
                    exact ⟨B0, B1, B2, B3, B4, B5, B6, B7, B8, B9, B10, true, false, false, _, _, _, _, v49, v50, _, _, v53, v54, _, rfl, rfl, (by first | exact fun _ => rfl | exact f0), (by first | exact fun _ => rfl | exact f1), (by first | exact fun _ => rfl | exact f2), (by first | exact fun _ => rfl | exact f3), (by first | exact fun _ => rfl | exact f6), (by first | exact fun _ => rfl | exact f7), (by first | exact fun _ => rfl | exact f10), g5, g4, g9, g8, ⟨fun e => (by cases e), fun _ => ⟨h0, h1, g5 h5, g4 h4, h4, h5, g9 h9, g8 h8, h8, h9, h10⟩, fun _ => rfl, fun e => (by cases e), fun _ => ⟨_, hm.out, hRr.out.b, fun _ => rfl, fun e => (by cases e), fun e => (by cases e)⟩⟩⟩
                  · have hb : B12 = false := hl
                    clear hl
                    obtain rfl := hb
                    simp [Region.binds] at ha
                    have h11 : B11 = true := ha.2.1
                    have hd := hEh.out.d h11
                    obtain ⟨w1, hm0, hbw, q0, q1, q2⟩ := hEh.out.e h11
                    have hm := hide hm0
                    have hf := hm0.facts hlt true
                    have hB1 := hide hbw
                    clear hm0 hbw
                    have hoA := hm.out.t.o0
                    rw [List.length_append, List.length_singleton] at hoA
                    have hoB := hm.out.t.o1
                    rw [List.length_append, List.length_singleton, laidOf_len] at hoB
                    obtain ⟨gA, cA, rfl⟩ := row_form hoA
                    obtain ⟨gB, cB, rfl⟩ := row_form hoB
                    clear hoA hoB
                    obtain rfl := q0 rfl
                    have hE13 : B13 = false := by cases hx : B13; rfl; (have := hEh.out.c13 hx; cases this)
                    obtain rfl := hE13
                    obtain ⟨_, _, _, _, e3, e4, e5, e6⟩ := hf
                    clear q0 q1 q2 ha hEh
                    refine wpOp_ofK rfl rfl fun K hK => ?_
                    go_simp
                    refine hK _ _ ?_
                    exact ⟨B0, B1, B2, B3, B4, B5, B6, B7, B8, B9, B10, B11, true, false, _, _, _, _, v49, _, _, _, v53, _, _, rfl, rfl, (by first | exact fun _ => rfl | exact f0), (by first | exact fun _ => rfl | exact f1), (by first | exact fun _ => rfl | exact f2), (by first | exact fun _ => rfl | exact f3), (by first | exact fun _ => rfl | exact f6), (by first | exact fun _ => rfl | exact f7), (by first | exact fun _ => rfl | exact f10), g5, g4, g9, g8, ⟨fun e => (by rw [h11] at e; cases e), fun _ => hd, fun _ => h11, fun e => (by cases e), fun _ => ⟨w1, hm.out, hB1.out, fun e => (by cases e), fun _ _ => rfl, fun e => (by cases e)⟩⟩⟩
                  · have hb : B13 = false := hl
                    clear hl
                    obtain rfl := hb
                    simp [Region.binds] at ha
                    have h11 : B11 = true := hEh.out.c12 ha.2.1
                    have hd := hEh.out.d h11
                    obtain ⟨w1, hm0, hbw, q0, q1, q2⟩ := hEh.out.e h11
                    have hm := hide hm0
                    have hf := hm0.facts hlt true
                    have hB1 := hide hbw
                    clear hm0 hbw
                    have hoA := hm.out.t.o0
                    rw [List.length_append, List.length_singleton] at hoA
                    have hoB := hm.out.t.o1
                    rw [List.length_append, List.length_singleton, laidOf_len] at hoB
                    obtain ⟨gA, cA, rfl⟩ := row_form hoA
                    obtain ⟨gB, cB, rfl⟩ := row_form hoB
                    clear hoA hoB
                    have h12 : B12 = true := ha.2.1
                    obtain rfl := q1 h12 rfl
                    obtain ⟨_, _, _, _, e3, e4, e5, e6⟩ := hf
                    clear q0 q1 q2 ha hEh
                    refine wpOp_ofK rfl rfl fun K hK => ?_
                    go_simp
                    refine hK _ _ ?_
                    exact ⟨B0, B1, B2, B3, B4, B5, B6, B7, B8, B9, B10, B11, B12, true, _, _, _, _, v49, _, _, _, v53, _, _, rfl, rfl, (by first | exact fun _ => rfl | exact f0), (by first | exact fun _ => rfl | exact f1), (by first | exact fun _ => rfl | exact f2), (by first | exact fun _ => rfl | exact f3), (by first | exact fun _ => rfl | exact f6), (by first | exact fun _ => rfl | exact f7), (by first | exact fun _ => rfl | exact f10), g5, g4, g9, g8, ⟨fun e => (by rw [h11] at e; cases e), fun _ => hd, fun _ => h11, fun _ => h12, fun _ => ⟨w1, hm.out, hB1.out, fun e => (by rw [h12] at e; cases e), fun _ e => (by cases e), fun _ => rfl⟩⟩⟩
                · rintro l a wx ⟨B0, B1, B2, B3, B4, B5, B6, B7, B8, B9, B10, B11, B12, B13, v45, v46, v47, v48, v49, v50, v51, v52, v53, v54, v55, rfl, rfl, _, _, _, _, _, _, _, _, _, _, _, hE⟩ hr
                  have h13 : B13 = true := ready_nil_all (by kernel_rfl) rfl hr 14 13 (by decide) (by decide)
                  obtain ⟨w1, hm0, hbw, q0, q1, q2⟩ := hE.e (hE.c12 (hE.c13 h13))
                  have hm := hide hm0
                  have hB1 := hide hbw
                  obtain rfl := q2 h13
                  clear hm0 hbw q0 q1 q2 hE hr h13
                  go_wp2_with fail
                  go_meet
                  exact ⟨_, _, hm.out.stored hlt true (usedL_push hlt) (laidOf_snoc hX.out).symm, ((hB1.out.setCell (p := ⟨gu, k, none⟩) (hm.out.u.2.lt _ rfl).1 _).setCell (p := ⟨b4, 0, none⟩) hm.out.x.lo.2.2.2.2.1 _).setCell (p := ⟨b2, 0, none⟩) hm.out.x.lo.2.2.1 _⟩
              case rest =>
                obtain ⟨vo2, vl2, hj2, hb2⟩ := hcut
                have hJ2 := hide hj2
                have hB2 := hide hb2
                clear hj2 hb2 hJ hB c0 c1 c2 c3 c4 c5 c6 c7 c8 e0 ef cx
                obtain ⟨c0, c1, c2, c3, c4, c5, c6, c7, c8⟩ := hJ2.out.cells.1
                rw [hvfh.out] at c8
                go_wp2_with fail
                refine (hihh.out (o ++ [(k : Int)]) (plcTo S bd rods f o st k) vo2 vl2 vb' _ ?_ ?_ ?_ hJ2.out).mono ?_
                · rw [List.length_append, List.length_singleton]; have := hfh.out; omega
                · intro z hz
                  rcases List.mem_append.1 hz with hz | hz
                  · exact hvh.out z hz
                  · rw [List.mem_singleton.1 hz]; omega
                · rw [List.length_append, List.length_singleton]; omega
                rintro e w5 ⟨rfl, vo3, vl3, vb3, hj3, hb3⟩
                rw [← hst.out] at hj3
                have hJ3 := hide hj3
                have hB3 := hide (below_two' hB2.out hb3)
                clear hj3 hb3 hJ2 hB2 c0 c1 c2 c3 c4 c5 c6 c7 c8
                go_upto_region 9 with fail
                have hl3 : (o ++ [(k : Int)]).length = o.length + 1 := by simp
                obtain ⟨g3, k3, x3, rfl, _, _, _⟩ := hJ3.out.t.o0.at' (k := 0) (by rw [hl3]; omega)
                obtain ⟨g4, k4, x4, rfl, _, _, _⟩ := hJ3.out.t.o1.at' (k := 0) (by rw [laidOf_len, hl3]; omega)
                have hm3 : o.length + 1 ≤ k3 := by
                  rcases hJ3.out.t.o0.form with ⟨h, _⟩ | ⟨_, _, h, _, _, h5, _⟩
                  · cases h
                  · injection h with _ _ h6; rw [h6]; omega
                have hm4 : o.length + 1 ≤ k4 := by
                  rcases hJ3.out.t.o1.form with ⟨h, _⟩ | ⟨_, _, h, _, _, h5, _⟩
                  · cases h
                  · injection h with _ _ h6; rw [h6]; rw [laidOf_len] at h5; omega
                have hcell := hJ3.out.cells
                rw [laidOf_len, hl3] at hcell
                obtain ⟨⟨c0, c1, c2, c3, c4, c5, c6, c7, c8⟩, d1, d2, d3, d4⟩ := hcell
                obtain ⟨y3, _, e0, ef⟩ := hJ3.out.u.bool_at hlt
                have hr3 := run_head (P := Tryz.prog) Tryz.underlying60 info_i64j g3 0 (o.length + 1) k3 o.length (by omega)
                have hr4 := run_head (P := Tryz.prog) Tryz.underlying60 info_i64j g4 0 (o.length + 1) k4 o.length (by omega)
                have hw9 : IntKind.i64.wrap (((o.length + 1 : Nat) : Int) - 1) = (o.length : Int) := by rw [show ((o.length + 1 : Nat) : Int) - 1 = (o.length : Int) by omega]; exact IntWalk.i64_in _ (by omega)
                have xU := hJ3.out.x.bool hJ3.out.u (grown_set w5 gu k (.bool false))
                rw [laidOf_len, hl3] at xU
                have z0 := brow1 xU.h4
                have z1 := z0.1
                have z2 := z0.2 0
                have z3 := brow1 (xU.set4 (.slice (some ⟨g3, 0, none⟩) o.length k3)).h2
                have z4 := z3.1
                have z5 := z3.2 0
                have z6 := (brow1 xU.h2).1
                clear hl3 hm3 hm4 z0 z3 xU
                go_region
                have hJ4 := hide ((JS.popped hJ3.out hlt hno.out hX.out).below (below_drewN (Below.refl _ _) 1))
                have hlo := hJ3.out.x.lo
                have hB4 := hide (below_drewN (((hB3.out.setCell (p := ⟨gu, k, none⟩) (hJ3.out.u.2.lt _ rfl).1 (.bool false)).setCell (p := ⟨b4, 0, none⟩) hlo.2.2.2.2.1 (.slice (some ⟨g3, 0, none⟩) o.length k3)).setCell (p := ⟨b2, 0, none⟩) hlo.2.2.1 (.slice (some ⟨g4, 0, none⟩) o.length k4)) 1)
                clear hlo c0 c1 c2 c3 c4 c5 c6 c7 c8 d1 d2 d3 d4 e0 ef hr3 hr4 hw9 z1 z2 z4 z5 z6
                go_wp2
                go_roundw
                case rel => exact ⟨k + 1, _, _, _, by omega, by go_num, hJ4.out, hB4.out⟩
                case measure => simp [intOf]; omega
          · have hkn : k = n := by omega
            have hfin : Hid (plcTo S bd rods f o st k = plc S bd rods (f + 1) o st) := hide (by rw [hpl.out, hkn])
            have hnk : ¬ (k : Int) < (n : Int) := by omega
            clear hkn
            go_wp2
            refine bodyPost_end (results_none rfl _ _ _) rfl ?_
            exact ⟨rfl, ⟨_, _, _, by rw [← hfin.out]; exact hJ.out⟩, hB.out⟩
end Go.Proofs.YtfpaejlipaainaaGreatDoor
