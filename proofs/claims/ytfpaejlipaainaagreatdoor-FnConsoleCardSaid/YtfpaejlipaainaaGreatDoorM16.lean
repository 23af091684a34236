/- Texts that belong together, joined: contracts and plain laws. No statement is proved here. -/
import Derived.Test.YtfpaejlipaainaaGreatDoorM14
import Derived.Test.YtfpaejlipaainaaGreatDoorM15
import Derived.Laws.EntriesVeiled
namespace Go.Proofs.YtfpaejlipaainaaGreatDoor
open Go.ChangeShapes Go.WideShapes Go.ChangeAt Go.RowKit Go.Deep
theorem alloc_old {w : World} {O o : Obj} {k : Nat} (h : w.heap[k]? = some o) : (w.alloc O).heap[k]? = some o := ((World.grownBy_alloc w O none).block k (Array.getElem?_eq_some_iff.1 h).1 (fun e => by cases e)).trans h
theorem alloc_at {w : World} {O : Obj} {k : Nat} (h : w.heap.size = k) : (w.alloc O).heap[k]? = some O := by subst h; exact heap_alloc_new w O
def NW (w1 w : World) (q : Nat) (a : Array Value) (t : TypeId) : Prop := w.heap[q]? = some (.cells a t (0, 0)) ∧ w1.heap.size ≤ q
section
variable {ws w1 w : World} {q n base : Nat} {a cu : Array Value} {t : TypeId}
theorem NW.lt (h : NW w1 w q a t) : q < w.heap.size := (Array.getElem?_eq_some_iff.1 h.1).1
theorem NW.alloc (h : NW w1 w q a t) (O : Obj) : NW w1 (w.alloc O) q a t := ⟨((World.grownBy_alloc w O none).block q h.lt (fun e => by cases e)).trans h.1, h.2⟩
theorem NW.new (hf : w1.heap.size ≤ w.heap.size) (a : Array Value) (t : TypeId) : NW w1 (w.alloc (.cells a t)) w.heap.size a t := ⟨heap_alloc_new w _, hf⟩
theorem NW.set {k : Nat} (h : NW w1 w q a t) (u : Value) (hne : q ≠ k) : NW w1 (w.setCell ⟨k, 0, none⟩ u) q a t := ⟨heap_set_far h.1 hne, h.2⟩
theorem NW.put (h : NW w1 w q a t) (u : Value) : NW w1 (w.setCell ⟨q, 0, none⟩ u) q (a.setIfInBounds 0 u) t := ⟨box_set h.1 0 u, h.2⟩
theorem NW.ne {q' : Nat} {a' : Array Value} {t' : TypeId} (h : NW w1 w q a t) (h' : NW w1 w q' a' t') (hne : t ≠ t') : q ≠ q' := ty_far h.1 h'.1 hne
structure K2 (w1 : World) (n : Nat) (cu : Array Value) (B0 B1 B4 B5 B6 B7 B8 B9 B10 : Bool) (v15 v16 v19 v10 v11 v12 : Value) (w : World) : Prop where
  a0 : B0 = true → ∃ q, v15 = .slice (some ⟨q, 0, none⟩) 0 0 ∧ NW w1 w q #[] 2
  a1 : B1 = true → ∃ q, v16 = .slice (some ⟨q, 0, none⟩) 0 0 ∧ NW w1 w q #[] 2
  a4 : B4 = true → ∃ q, v19 = .slice (some ⟨q, 0, none⟩) n n ∧ NW w1 w q cu 4
  a5 : B5 = true → ∃ q, v10 = .pointer (some ⟨q, 0, none⟩) ∧ (B8 = false → NW w1 w q #[.slice none 0 0] 60) ∧ (B8 = true → NW w1 w q #[v15] 60)
  a6 : B6 = true → ∃ q, v11 = .pointer (some ⟨q, 0, none⟩) ∧ (B9 = false → NW w1 w q #[.slice none 0 0] 60) ∧ (B9 = true → NW w1 w q #[v16] 60)
  a7 : B7 = true → ∃ q, v12 = .pointer (some ⟨q, 0, none⟩) ∧ (B10 = false → NW w1 w q #[.slice none 0 0] 240) ∧ (B10 = true → NW w1 w q #[v19] 240)
  d01 : B0 = true → B1 = true → v15 ≠ v16
  d56 : B5 = true → B6 = true → v10 ≠ v11
  c8 : B8 = true → B5 = true ∧ B0 = true
  c9 : B9 = true → B6 = true ∧ B1 = true
  c10 : B10 = true → B7 = true ∧ B4 = true
  far : w1.heap.size ≤ w.heap.size
  b : Below w1.heap.size w1 w
variable {B0 B1 B4 B5 B6 B7 B8 B9 B10 : Bool} {v15 v16 v19 v10 v11 v12 : Value}
theorem sl_ne {p q n m c d : Nat} (h : p ≠ q) : Value.slice (some ⟨p, 0, none⟩) n c ≠ .slice (some ⟨q, 0, none⟩) m d := by
  intro e; injection e with e; injection e with e; injection e with e; exact h e
theorem pt_ne {p q : Nat} (h : p ≠ q) : Value.pointer (some ⟨p, 0, none⟩) ≠ .pointer (some ⟨q, 0, none⟩) := by
  intro e; injection e with e; injection e with e; injection e with e; exact h e
theorem K2.start (w : World) (v15 v16 v19 v10 v11 v12 : Value) : K2 w n cu false false false false false false false false false v15 v16 v19 v10 v11 v12 w.drew :=
  ⟨fun e => (by cases e), fun e => (by cases e), fun e => (by cases e), fun e => (by cases e), fun e => (by cases e), fun e => (by cases e), fun e => (by cases e), fun e => (by cases e), fun e => (by cases e), fun e => (by cases e), fun e => (by cases e), (below_drewN (Below.refl w.heap.size w) 1).size, below_drewN (Below.refl _ _) 1⟩
theorem K2.n0 (h : K2 w1 n cu B0 B1 B4 B5 B6 B7 B8 B9 B10 v15  v16  v19  v10  v11  v12 w) (hb : B0 = false) : K2 w1 n cu true B1 B4 B5 B6 B7 B8 B9 B10 (.slice (some ⟨w.heap.size, 0, none⟩) 0 0)  v16  v19  v10  v11  v12 (w.alloc (.cells #[] 2)) := by
  have hd : B8 = false := by cases hx : B8; rfl; (have := (h.c8 hx).2; rw [hb] at this; cases this)
  exact ⟨fun _ => ⟨_, rfl, NW.new h.far _ _⟩, fun e => (let ⟨q, h1, h2⟩ := h.a1 e; ⟨q, h1, h2.alloc _⟩), fun e => (let ⟨q, h1, h2⟩ := h.a4 e; ⟨q, h1, h2.alloc _⟩), fun e => (let ⟨q, h1, h2, h3⟩ := h.a5 e; ⟨q, h1, fun f => (h2 f).alloc _, fun f => (by rw [hd] at f; cases f)⟩), fun e => (let ⟨q, h1, h2, h3⟩ := h.a6 e; ⟨q, h1, fun f => (h2 f).alloc _, fun f => (h3 f).alloc _⟩), fun e => (let ⟨q, h1, h2, h3⟩ := h.a7 e; ⟨q, h1, fun f => (h2 f).alloc _, fun f => (h3 f).alloc _⟩), fun _ e => (by obtain ⟨q, rfl, h2⟩ := h.a1 e; have := h2.lt; exact sl_ne (by omega)), h.d56, fun f => (by rw [hd] at f; cases f), h.c9, h.c10, Nat.le_trans h.far (by simp), h.b.alloc h.far _⟩
theorem K2.n1 (h : K2 w1 n cu B0 B1 B4 B5 B6 B7 B8 B9 B10 v15  v16  v19  v10  v11  v12 w) (hb : B1 = false) : K2 w1 n cu B0 true B4 B5 B6 B7 B8 B9 B10 v15  (.slice (some ⟨w.heap.size, 0, none⟩) 0 0)  v19  v10  v11  v12 (w.alloc (.cells #[] 2)) := by
  have hd : B9 = false := by cases hx : B9; rfl; (have := (h.c9 hx).2; rw [hb] at this; cases this)
  exact ⟨fun e => (let ⟨q, h1, h2⟩ := h.a0 e; ⟨q, h1, h2.alloc _⟩), fun _ => ⟨_, rfl, NW.new h.far _ _⟩, fun e => (let ⟨q, h1, h2⟩ := h.a4 e; ⟨q, h1, h2.alloc _⟩), fun e => (let ⟨q, h1, h2, h3⟩ := h.a5 e; ⟨q, h1, fun f => (h2 f).alloc _, fun f => (h3 f).alloc _⟩), fun e => (let ⟨q, h1, h2, h3⟩ := h.a6 e; ⟨q, h1, fun f => (h2 f).alloc _, fun f => (by rw [hd] at f; cases f)⟩), fun e => (let ⟨q, h1, h2, h3⟩ := h.a7 e; ⟨q, h1, fun f => (h2 f).alloc _, fun f => (h3 f).alloc _⟩), fun e _ => (by obtain ⟨q, rfl, h2⟩ := h.a0 e; have := h2.lt; exact sl_ne (by omega)), h.d56, h.c8, fun f => (by rw [hd] at f; cases f), h.c10, Nat.le_trans h.far (by simp), h.b.alloc h.far _⟩
theorem K2.n4 (h : K2 w1 n cu B0 B1 B4 B5 B6 B7 B8 B9 B10 v15  v16  v19  v10  v11  v12 w) (hb : B4 = false) : K2 w1 n cu B0 B1 true B5 B6 B7 B8 B9 B10 v15  v16  (.slice (some ⟨w.heap.size, 0, none⟩) n n)  v10  v11  v12 (w.alloc (.cells cu 4)) := by
  have hd : B10 = false := by cases hx : B10; rfl; (have := (h.c10 hx).2; rw [hb] at this; cases this)
  exact ⟨fun e => (let ⟨q, h1, h2⟩ := h.a0 e; ⟨q, h1, h2.alloc _⟩), fun e => (let ⟨q, h1, h2⟩ := h.a1 e; ⟨q, h1, h2.alloc _⟩), fun _ => ⟨_, rfl, NW.new h.far _ _⟩, fun e => (let ⟨q, h1, h2, h3⟩ := h.a5 e; ⟨q, h1, fun f => (h2 f).alloc _, fun f => (h3 f).alloc _⟩), fun e => (let ⟨q, h1, h2, h3⟩ := h.a6 e; ⟨q, h1, fun f => (h2 f).alloc _, fun f => (h3 f).alloc _⟩), fun e => (let ⟨q, h1, h2, h3⟩ := h.a7 e; ⟨q, h1, fun f => (h2 f).alloc _, fun f => (by rw [hd] at f; cases f)⟩), h.d01, h.d56, h.c8, h.c9, fun f => (by rw [hd] at f; cases f), Nat.le_trans h.far (by simp), h.b.alloc h.far _⟩
theorem K2.n5 (h : K2 w1 n cu B0 B1 B4 B5 B6 B7 B8 B9 B10 v15  v16  v19  v10  v11  v12 w) (hb : B5 = false) : K2 w1 n cu B0 B1 B4 true B6 B7 B8 B9 B10 v15  v16  v19  (.pointer (some ⟨w.heap.size, 0, none⟩))  v11  v12 (w.alloc (.cells #[.slice none 0 0] 60)) := by
  have hd : B8 = false := by cases hx : B8; rfl; (have := (h.c8 hx).1; rw [hb] at this; cases this)
  exact ⟨fun e => (let ⟨q, h1, h2⟩ := h.a0 e; ⟨q, h1, h2.alloc _⟩), fun e => (let ⟨q, h1, h2⟩ := h.a1 e; ⟨q, h1, h2.alloc _⟩), fun e => (let ⟨q, h1, h2⟩ := h.a4 e; ⟨q, h1, h2.alloc _⟩), fun _ => ⟨_, rfl, fun _ => NW.new h.far _ _, fun f => (by rw [hd] at f; cases f)⟩, fun e => (let ⟨q, h1, h2, h3⟩ := h.a6 e; ⟨q, h1, fun f => (h2 f).alloc _, fun f => (h3 f).alloc _⟩), fun e => (let ⟨q, h1, h2, h3⟩ := h.a7 e; ⟨q, h1, fun f => (h2 f).alloc _, fun f => (h3 f).alloc _⟩), h.d01, fun _ e => (by obtain ⟨q, rfl, h2, h3⟩ := h.a6 e; have hq : q < w.heap.size := (by cases hx : B9; exact (h2 hx).lt; exact (h3 hx).lt); exact pt_ne (by omega)), fun f => (by rw [hd] at f; cases f), h.c9, h.c10, Nat.le_trans h.far (by simp), h.b.alloc h.far _⟩
theorem K2.n6 (h : K2 w1 n cu B0 B1 B4 B5 B6 B7 B8 B9 B10 v15  v16  v19  v10  v11  v12 w) (hb : B6 = false) : K2 w1 n cu B0 B1 B4 B5 true B7 B8 B9 B10 v15  v16  v19  v10  (.pointer (some ⟨w.heap.size, 0, none⟩))  v12 (w.alloc (.cells #[.slice none 0 0] 60)) := by
  have hd : B9 = false := by cases hx : B9; rfl; (have := (h.c9 hx).1; rw [hb] at this; cases this)
  exact ⟨fun e => (let ⟨q, h1, h2⟩ := h.a0 e; ⟨q, h1, h2.alloc _⟩), fun e => (let ⟨q, h1, h2⟩ := h.a1 e; ⟨q, h1, h2.alloc _⟩), fun e => (let ⟨q, h1, h2⟩ := h.a4 e; ⟨q, h1, h2.alloc _⟩), fun e => (let ⟨q, h1, h2, h3⟩ := h.a5 e; ⟨q, h1, fun f => (h2 f).alloc _, fun f => (h3 f).alloc _⟩), fun _ => ⟨_, rfl, fun _ => NW.new h.far _ _, fun f => (by rw [hd] at f; cases f)⟩, fun e => (let ⟨q, h1, h2, h3⟩ := h.a7 e; ⟨q, h1, fun f => (h2 f).alloc _, fun f => (h3 f).alloc _⟩), h.d01, fun e _ => (by obtain ⟨q, rfl, h2, h3⟩ := h.a5 e; have hq : q < w.heap.size := (by cases hx : B8; exact (h2 hx).lt; exact (h3 hx).lt); exact pt_ne (by omega)), h.c8, fun f => (by rw [hd] at f; cases f), h.c10, Nat.le_trans h.far (by simp), h.b.alloc h.far _⟩
theorem K2.n7 (h : K2 w1 n cu B0 B1 B4 B5 B6 B7 B8 B9 B10 v15  v16  v19  v10  v11  v12 w) (hb : B7 = false) : K2 w1 n cu B0 B1 B4 B5 B6 true B8 B9 B10 v15  v16  v19  v10  v11  (.pointer (some ⟨w.heap.size, 0, none⟩)) (w.alloc (.cells #[.slice none 0 0] 240)) := by
  have hd : B10 = false := by cases hx : B10; rfl; (have := (h.c10 hx).1; rw [hb] at this; cases this)
  exact ⟨fun e => (let ⟨q, h1, h2⟩ := h.a0 e; ⟨q, h1, h2.alloc _⟩), fun e => (let ⟨q, h1, h2⟩ := h.a1 e; ⟨q, h1, h2.alloc _⟩), fun e => (let ⟨q, h1, h2⟩ := h.a4 e; ⟨q, h1, h2.alloc _⟩), fun e => (let ⟨q, h1, h2, h3⟩ := h.a5 e; ⟨q, h1, fun f => (h2 f).alloc _, fun f => (h3 f).alloc _⟩), fun e => (let ⟨q, h1, h2, h3⟩ := h.a6 e; ⟨q, h1, fun f => (h2 f).alloc _, fun f => (h3 f).alloc _⟩), fun _ => ⟨_, rfl, fun _ => NW.new h.far _ _, fun f => (by rw [hd] at f; cases f)⟩, h.d01, h.d56, h.c8, h.c9, fun f => (by rw [hd] at f; cases f), Nat.le_trans h.far (by simp), h.b.alloc h.far _⟩
theorem K2.s8 {p : Nat} (h : K2 w1 n cu B0 B1 B4 B5 B6 B7 B8 B9 B10 v15  v16  v19  v10  v11  v12 w) (hb : B8 = false) (hp : B5 = true) (hv : B0 = true) (he : v10 = .pointer (some ⟨p, 0, none⟩)) : NW w1 w p #[.slice none 0 0] 60 ∧ K2 w1 n cu B0 B1 B4 B5 B6 B7 true B9 B10 v15  v16  v19  v10  v11  v12 (w.setCell ⟨p, 0, none⟩ v15) := by
  obtain ⟨p', h1, h2, _⟩ := h.a5 hp
  have hpe : p' = p := by rw [h1] at he; injection he with he; injection he with he; injection he with he
  subst hpe
  have hc := h2 hb
  exact ⟨hc, ⟨fun e => (let ⟨q, g1, g2⟩ := h.a0 e; ⟨q, g1, g2.set _ (g2.ne hc (by decide))⟩), fun e => (let ⟨q, g1, g2⟩ := h.a1 e; ⟨q, g1, g2.set _ (g2.ne hc (by decide))⟩), fun e => (let ⟨q, g1, g2⟩ := h.a4 e; ⟨q, g1, g2.set _ (g2.ne hc (by decide))⟩), fun _ => ⟨_, h1, fun f => (by cases f), fun _ => hc.put _⟩, fun e => (let ⟨q, g1, g2, g3⟩ := h.a6 e; ⟨q, g1, fun f => (g2 f).set _ (fun e2 => (by subst e2; exact h.d56 hp e (h1.trans g1.symm))), fun f => (g3 f).set _ (fun e2 => (by subst e2; exact h.d56 hp e (h1.trans g1.symm)))⟩), fun e => (let ⟨q, g1, g2, g3⟩ := h.a7 e; ⟨q, g1, fun f => (g2 f).set _ ((g2 f).ne hc (by decide)), fun f => (g3 f).set _ ((g3 f).ne hc (by decide))⟩), h.d01, h.d56, fun _ => ⟨hp, hv⟩, h.c9, h.c10, (by simpa using h.far), h.b.setCell (p := ⟨_, 0, none⟩) hc.2 _⟩⟩
theorem K2.s9 {p : Nat} (h : K2 w1 n cu B0 B1 B4 B5 B6 B7 B8 B9 B10 v15  v16  v19  v10  v11  v12 w) (hb : B9 = false) (hp : B6 = true) (hv : B1 = true) (he : v11 = .pointer (some ⟨p, 0, none⟩)) : NW w1 w p #[.slice none 0 0] 60 ∧ K2 w1 n cu B0 B1 B4 B5 B6 B7 B8 true B10 v15  v16  v19  v10  v11  v12 (w.setCell ⟨p, 0, none⟩ v16) := by
  obtain ⟨p', h1, h2, _⟩ := h.a6 hp
  have hpe : p' = p := by rw [h1] at he; injection he with he; injection he with he; injection he with he
  subst hpe
  have hc := h2 hb
  exact ⟨hc, ⟨fun e => (let ⟨q, g1, g2⟩ := h.a0 e; ⟨q, g1, g2.set _ (g2.ne hc (by decide))⟩), fun e => (let ⟨q, g1, g2⟩ := h.a1 e; ⟨q, g1, g2.set _ (g2.ne hc (by decide))⟩), fun e => (let ⟨q, g1, g2⟩ := h.a4 e; ⟨q, g1, g2.set _ (g2.ne hc (by decide))⟩), fun e => (let ⟨q, g1, g2, g3⟩ := h.a5 e; ⟨q, g1, fun f => (g2 f).set _ (fun e2 => (by subst e2; exact h.d56 e hp (g1.trans h1.symm))), fun f => (g3 f).set _ (fun e2 => (by subst e2; exact h.d56 e hp (g1.trans h1.symm)))⟩), fun _ => ⟨_, h1, fun f => (by cases f), fun _ => hc.put _⟩, fun e => (let ⟨q, g1, g2, g3⟩ := h.a7 e; ⟨q, g1, fun f => (g2 f).set _ ((g2 f).ne hc (by decide)), fun f => (g3 f).set _ ((g3 f).ne hc (by decide))⟩), h.d01, h.d56, h.c8, fun _ => ⟨hp, hv⟩, h.c10, (by simpa using h.far), h.b.setCell (p := ⟨_, 0, none⟩) hc.2 _⟩⟩
theorem K2.s10 {p : Nat} (h : K2 w1 n cu B0 B1 B4 B5 B6 B7 B8 B9 B10 v15  v16  v19  v10  v11  v12 w) (hb : B10 = false) (hp : B7 = true) (hv : B4 = true) (he : v12 = .pointer (some ⟨p, 0, none⟩)) : NW w1 w p #[.slice none 0 0] 240 ∧ K2 w1 n cu B0 B1 B4 B5 B6 B7 B8 B9 true v15  v16  v19  v10  v11  v12 (w.setCell ⟨p, 0, none⟩ v19) := by
  obtain ⟨p', h1, h2, _⟩ := h.a7 hp
  have hpe : p' = p := by rw [h1] at he; injection he with he; injection he with he; injection he with he
  subst hpe
  have hc := h2 hb
  exact ⟨hc, ⟨fun e => (let ⟨q, g1, g2⟩ := h.a0 e; ⟨q, g1, g2.set _ (g2.ne hc (by decide))⟩), fun e => (let ⟨q, g1, g2⟩ := h.a1 e; ⟨q, g1, g2.set _ (g2.ne hc (by decide))⟩), fun e => (let ⟨q, g1, g2⟩ := h.a4 e; ⟨q, g1, g2.set _ (g2.ne hc (by decide))⟩), fun e => (let ⟨q, g1, g2, g3⟩ := h.a5 e; ⟨q, g1, fun f => (g2 f).set _ ((g2 f).ne hc (by decide)), fun f => (g3 f).set _ ((g3 f).ne hc (by decide))⟩), fun e => (let ⟨q, g1, g2, g3⟩ := h.a6 e; ⟨q, g1, fun f => (g2 f).set _ ((g2 f).ne hc (by decide)), fun f => (g3 f).set _ ((g3 f).ne hc (by decide))⟩), fun _ => ⟨_, h1, fun f => (by cases f), fun _ => hc.put _⟩, h.d01, h.d56, h.c8, h.c9, fun _ => ⟨hp, hv⟩, (by simpa using h.far), h.b.setCell (p := ⟨_, 0, none⟩) hc.2 _⟩⟩
end
end Go.Proofs.YtfpaejlipaainaaGreatDoor
namespace Go.Proofs.YtfpaejlipaainaaGreatDoor
open Go.ChangeShapes Go.WideShapes Go.ChangeAt Go.RowKit Go.Deep
set_option maxRecDepth 100000
theorem info_boolj : (Tryz.prog.info? 4).map (fun i => (i.zero, i.size, i.bytes)) = some (some (.bool false), 1, 1) := by kernel_rfl
theorem JS_start {w w1 wx : World} {S bd : Int} {A : Option Addr} {n c : Nat} {rods : List Int} {q0 q1 q4 q5 q6 q7 : Nat} {cu : Array Value} (vf : Value) (hs1 : w1.heap.size = w.heap.size + 6) (hBw : Below w.heap.size w w1)
    (r0 : w1.heap[w.heap.size]? = some (.cells #[.int .i64 S] 2 (0, 0))) (r1 : w1.heap[w.heap.size + 1]? = some (.cells #[.slice A n c] 60 (0, 0))) (r2 : w1.heap[w.heap.size + 1 + 1]? = some (.cells #[.int .i64 bd] 2 (0, 0)))
    (r3 : w1.heap[w.heap.size + 1 + 1 + 1]? = some (.cells #[] 2 (0, 0))) (r4 : w1.heap[w.heap.size + 1 + 1 + 1 + 1]? = some (.cells #[.slice (some ⟨w.heap.size + 1 + 1 + 1, 0, none⟩) 0 0] 60 (0, 0))) (r5 : w1.heap[w.heap.size + 1 + 1 + 1 + 1 + 1]? = some (.cells #[.int .i64 (-1)] 2 (0, 0)))
    (hb : Below w1.heap.size w1 wx) (m0 : NW w1 wx q0 #[] 2) (m1 : NW w1 wx q1 #[] 2) (m4 : NW w1 wx q4 cu 4) (m5 : NW w1 wx q5 #[.slice (some ⟨q0, 0, none⟩) 0 0] 60) (m6 : NW w1 wx q6 #[.slice (some ⟨q1, 0, none⟩) 0 0] 60) (m7 : NW w1 wx q7 #[.slice (some ⟨q4, 0, none⟩) n n] 240)
    (d01 : q0 ≠ q1) (d56 : q5 ≠ q6) (hr : Arr i64c 1 w w.heap.size A n rods) (hcl : cu.toList = (List.replicate n false).flatMap boolc) (hn7 : n ≤ 7) :
    JS (wx.alloc (.cells #[vf] 1)) w.heap.size (w.heap.size + 1 + 1 + 1 + 1 + 1) w.heap.size q6 (w.heap.size + 1 + 1) q5 (w.heap.size + 1) (w.heap.size + 1 + 1 + 1 + 1) q7 wx.heap.size S bd A n c rods vf (.slice (some ⟨q0, 0, none⟩) 0 0) (.slice (some ⟨q1, 0, none⟩) 0 0) (.slice (some ⟨w.heap.size + 1 + 1 + 1, 0, none⟩) 0 0) q4 [] ([], -1) := by
  have up : ∀ {k : Nat} {o : Obj}, w1.heap[k]? = some o → (wx.alloc (.cells #[vf] 1)).heap[k]? = some o := fun h => alloc_old ((hb.block _ (Array.getElem?_eq_some_iff.1 h).1).trans h)
  have g0 := m0.2; have g1 := m1.2; have g4 := m4.2; have g5 := m5.2; have g6 := m6.2; have g7 := m7.2
  have hsz := hb.size
  have hu : usedL n [] = List.replicate n false := by
    unfold usedL
    rw [List.eq_replicate_iff]
    exact ⟨by simp, fun b hb => by obtain ⟨k, _, rfl⟩ := List.mem_map.1 hb; simp⟩
  have hcs : cu.size = n * 1 := by rw [← Array.length_toList, hcl, flat_len boolc_len, List.length_replicate]
  have ow : ∀ {W : World} {g : Nat}, w.heap.size ≤ g → W.heap[g]? = some (.cells #[] 2 (0, 0)) → Own i64c 2 1 W w.heap.size (.slice (some ⟨g, 0, none⟩) 0 0) 0 [] := fun hle h => ⟨rfl, rfl, .inr ⟨_, 0, _, rfl, hle, h, Nat.le_refl _, by decide, rfl, rfl⟩⟩
  refine ⟨⟨up r5, up r0, alloc_old m6.1, up r2, alloc_old m5.1, up r1, up r4, alloc_old m7.1, heap_alloc_new wx _, ?_, ?_⟩, ⟨ow (by omega) (alloc_old m0.1), ow (by omega) (alloc_old m1.1), ow (by omega) (up r3), ?_, ?_, ?_⟩, ?_, ?_, ?_, ?_, ?_, by simp; omega⟩
  · exact ⟨by omega, by omega, fun e => d56 e.symm, by omega, by omega, by omega, by omega, by omega⟩
  · exact ⟨by omega, by omega, by omega, by omega, by omega, by omega, by omega, by omega, by omega⟩
  · intro g h1 h2; cases h1; cases h2; exact d01 rfl
  · intro g h1 h2; have e1 := Option.some.inj (show some q0 = some g from h1); have e2 := Option.some.inj (show some (w.heap.size + 1 + 1 + 1) = some g from h2); omega
  · intro g h1 h2; have e1 := Option.some.inj (show some q1 = some g from h1); have e2 := Option.some.inj (show some (w.heap.size + 1 + 1 + 1) = some g from h2); omega
  · rw [hu]
    exact ⟨by simp, by rw [flat_len boolc_len]; simp, .inr ⟨q4, n, cu, rfl, by omega, alloc_old m4.1, Nat.le_refl _, by unfold maxLen; omega, hcs, by rw [hcl, List.take_of_length_le (by rw [flat_len boolc_len]; simp)]⟩⟩
  · exact hr.below (hBw.trans ((hb.mono (by omega)).trans ((Below.refl _ _).alloc (by omega) _)))
  · refine ⟨fun e => ?_, fun e => ?_, fun e => ?_⟩ <;> (have h3 := Option.some.inj (show some q0 = some _ from e); omega)
  · refine ⟨fun e => ?_, fun e => ?_, fun e => ?_⟩ <;> (have h3 := Option.some.inj (show some q1 = some _ from e); omega)
  · refine ⟨fun e => ?_, fun e => ?_, fun e => ?_⟩ <;> (have h3 := Option.some.inj (show some (w.heap.size + 1 + 1 + 1) = some _ from e); omega)
set_option maxHeartbeats 4000000 in
theorem iFewest_any (S bd : Int) (A : Option Addr) (n c : Nat) (rods : List Int) (w : World) (hS : 3 ≤ S ∧ S ≤ 60) (hR : RB7 rods) (hn : rods.length = n) (hr : Arr i64c 1 w w.heap.size A n rods) :
    Calls Tryz.prog 189 #[.int .i64 S, .slice A n c, .int .i64 bd] w fun e w' => ∃ v, e = .returned (.tuple #[v, .int .i64 (mOrd S bd rods).2]) ∧ Own i64c 2 1 w' w.heap.size v (mOrd S bd rods).1.length (mOrd S bd rods).1 ∧ Below w.heap.size w w' := by
  have hn7 : n ≤ 7 := by rw [← hn]; exact hR.1
  have hRh := hide hR
  have hnh := hide hn
  have hrh := hide hr
  clear hR hn hr
  go_enter Tryz.func189, Tryz.ntmps189
  go_upto_region 2 with fail
  obtain ⟨w1, hw1⟩ : ∃ w1, w1 = ((((((w.alloc (Obj.cells #[Value.int IntKind.i64 S] 2)).alloc (Obj.cells #[Value.slice A n c] 60)).alloc (Obj.cells #[Value.int IntKind.i64 bd] 2)).alloc (Obj.cells #[] 2)).alloc (Obj.cells #[Value.slice (some { block := w.heap.size + 1 + 1 + 1, off := 0 }) 0 0] 60)).alloc (Obj.cells #[Value.int IntKind.i64 (-1)] 2)) := ⟨_, rfl⟩
  have hBw : Below w.heap.size w w1 := by rw [hw1]; go_grown
  have hs1 : w1.heap.size = w.heap.size + 6 := by rw [hw1]; simp
  have r0 : w1.heap[w.heap.size]? = some (.cells #[.int .i64 S] 2 (0, 0)) := by rw [hw1]; exact alloc_old (alloc_old (alloc_old (alloc_old (alloc_old (alloc_at (by simp))))))
  have r1 : w1.heap[w.heap.size + 1]? = some (.cells #[.slice A n c] 60 (0, 0)) := by rw [hw1]; exact alloc_old (alloc_old (alloc_old (alloc_old (alloc_at (by simp)))))
  have r2 : w1.heap[w.heap.size + 1 + 1]? = some (.cells #[.int .i64 bd] 2 (0, 0)) := by rw [hw1]; exact alloc_old (alloc_old (alloc_old (alloc_at (by simp))))
  have r3 : w1.heap[w.heap.size + 1 + 1 + 1]? = some (.cells #[] 2 (0, 0)) := by rw [hw1]; exact alloc_old (alloc_old (alloc_at (by simp)))
  have r4 : w1.heap[w.heap.size + 1 + 1 + 1 + 1]? = some (.cells #[.slice (some ⟨w.heap.size + 1 + 1 + 1, 0, none⟩) 0 0] 60 (0, 0)) := by rw [hw1]; exact alloc_old (alloc_at (by simp))
  have r5 : w1.heap[w.heap.size + 1 + 1 + 1 + 1 + 1]? = some (.cells #[.int .i64 (-1)] 2 (0, 0)) := by rw [hw1]; exact alloc_at (by simp)
  obtain ⟨i0, hi0, hz0, hz1, hz2⟩ := info_parts info_boolj
  have hmk := fun W => run_make_rowN (P := Tryz.prog) 240 4 i0 _ Tryz.underlying240 hi0 hz0 .i64 .i64 n n (Nat.le_refl _) (by rw [hz2]; omega) (by omega) W
  rw [hz1] at hmk
  obtain ⟨cu, hcu⟩ : ∃ cu, cu = madeCells (Value.bool false).cells (n * 1) := ⟨_, rfl⟩
  rw [← hcu] at hmk
  have hcl := hide (show cu.toList = (List.replicate n false).flatMap boolc by rw [hcu]; exact made_flat boolc_len (by omega) #[.bool false] false rfl n)
  clear hcu
  have hwh := hide hw1
  rw [← hw1]
  clear hw1
  have c4 := (brow1 r1).1
  refine wp_region_inv (by kernel_rfl) (fun l a wx => ∃ (B0 B1 B2 B3 B4 B5 B6 B7 B8 B9 B10 : Bool) (v10 v11 v12 v15 v16 v17 v18 v19 : Value), l = #[B0, B1, B2, B3, B4, B5, B6, B7, B8, B9, B10] ∧ a = { tmps := #[Value.int IntKind.i64 S, Value.slice A n c, Value.int IntKind.i64 bd, Value.pointer (some { block := w.heap.size, off := 0 }), Value.pointer (some { block := w.heap.size + 1, off := 0 }), Value.pointer (some { block := w.heap.size + 1 + 1, off := 0 }), Value.slice none 0 0, Value.int IntKind.i64 0, Value.pointer (some { block := w.heap.size + 1 + 1 + 1 + 1, off := 0 }), Value.pointer (some { block := w.heap.size + 1 + 1 + 1 + 1 + 1, off := 0 }), v10, v11, v12, undef, Value.slice (some { block := w.heap.size + 1 + 1 + 1, off := 0 }) 0 0, v15, v16, v17, v18, v19, undef, undef, undef, undef, undef], defers := [] } ∧ (B2 = true → v17 = .slice A n c) ∧ (B3 = true → v18 = .int .i64 (n : Int)) ∧ K2 w1 n cu B0 B1 B4 B5 B6 B7 B8 B9 B10 v15 v16 v19 v10 v11 v12 wx) ?_ ?_ ?_
  · exact ⟨false, false, false, false, false, false, false, false, false, false, false, undef, undef, undef, undef, undef, undef, undef, undef, rfl, rfl, fun e => (by cases e), fun e => (by cases e), K2.start w1 _ _ _ _ _ _⟩
  · rintro l a wx ⟨B0, B1, B2, B3, B4, B5, B6, B7, B8, B9, B10, v10, v11, v12, v15, v16, v17, v18, v19, rfl, rfl, f2, f3, hE⟩ i hi hl ha
    have hi11 : i < 11 := hi
    have hEh := hide hE
    clear hE hi
    rcases (by omega : i = 0 ∨ i = 1 ∨ i = 2 ∨ i = 3 ∨ i = 4 ∨ i = 5 ∨ i = 6 ∨ i = 7 ∨ i = 8 ∨ i = 9 ∨ i = 10) with rfl | rfl | rfl | rfl | rfl | rfl | rfl | rfl | rfl | rfl | rfl
    · have hb : B0 = false := hl
      clear hl
      obtain rfl := hb
      clear ha
      refine wpOp_ofK rfl rfl fun K hK => ?_
      go_simp
      refine hK _ _ ?_
      exact ⟨true, B1, B2, B3, B4, B5, B6, B7, B8, B9, B10, v10, v11, v12, _, v16, v17, v18, v19, rfl, rfl, f2, f3, hEh.out.n0 rfl⟩
    · have hb : B1 = false := hl
      clear hl
      obtain rfl := hb
      clear ha
      refine wpOp_ofK rfl rfl fun K hK => ?_
      go_simp
      refine hK _ _ ?_
      exact ⟨B0, true, B2, B3, B4, B5, B6, B7, B8, B9, B10, v10, v11, v12, v15, _, v17, v18, v19, rfl, rfl, f2, f3, hEh.out.n1 rfl⟩
    · have hb : B2 = false := hl
      clear hl
      obtain rfl := hb
      clear ha
      have c4x := (hEh.out.b.cell (p := ⟨w.heap.size + 1, 0, none⟩) (by show w.heap.size + 1 < _; omega)).trans c4
      refine wpOp_ofK rfl rfl fun K hK => ?_
      go_simp
      refine hK _ _ ?_
      exact ⟨B0, B1, true, B3, B4, B5, B6, B7, B8, B9, B10, v10, v11, v12, v15, v16, _, v18, v19, rfl, rfl, fun _ => rfl, f3, hEh.out⟩
    · have hb : B3 = false := hl
      clear hl
      obtain rfl := hb
      simp [Region.binds] at ha
      obtain rfl := f2 ha
      refine wpOp_ofK rfl rfl fun K hK => ?_
      go_simp
      refine hK _ _ ?_
      exact ⟨B0, B1, B2, true, B4, B5, B6, B7, B8, B9, B10, v10, v11, v12, v15, v16, _, _, v19, rfl, rfl, f2, fun _ => rfl, hEh.out⟩
    · have hb : B4 = false := hl
      clear hl
      obtain rfl := hb
      simp [Region.binds] at ha
      obtain rfl := f3 ha
      refine wpOp_ofK rfl rfl fun K hK => ?_
      go_simp
      refine hK _ _ ?_
      exact ⟨B0, B1, B2, B3, true, B5, B6, B7, B8, B9, B10, v10, v11, v12, v15, v16, v17, _, _, rfl, rfl, f2, f3, hEh.out.n4 rfl⟩
    · have hb : B5 = false := hl
      clear hl
      obtain rfl := hb
      clear ha
      refine wpOp_ofK rfl rfl fun K hK => ?_
      go_simp
      refine hK _ _ ?_
      exact ⟨B0, B1, B2, B3, B4, true, B6, B7, B8, B9, B10, _, v11, v12, v15, v16, v17, v18, v19, rfl, rfl, f2, f3, hEh.out.n5 rfl⟩
    · have hb : B6 = false := hl
      clear hl
      obtain rfl := hb
      clear ha
      refine wpOp_ofK rfl rfl fun K hK => ?_
      go_simp
      refine hK _ _ ?_
      exact ⟨B0, B1, B2, B3, B4, B5, true, B7, B8, B9, B10, v10, _, v12, v15, v16, v17, v18, v19, rfl, rfl, f2, f3, hEh.out.n6 rfl⟩
    · have hb : B7 = false := hl
      clear hl
      obtain rfl := hb
      clear ha
      refine wpOp_ofK rfl rfl fun K hK => ?_
      go_simp
      refine hK _ _ ?_
      exact ⟨B0, B1, B2, B3, B4, B5, B6, true, B8, B9, B10, v10, v11, _, v15, v16, v17, v18, v19, rfl, rfl, f2, f3, hEh.out.n7 rfl⟩
    · have hb : B8 = false := hl
      clear hl
      obtain rfl := hb
      simp [Region.binds] at ha
      have hp := ha.1
      have hv := ha.2.1
      clear ha
      obtain ⟨p, rfl, _, _⟩ := hEh.out.a5 hp
      obtain ⟨q, rfl, _⟩ := hEh.out.a0 hv
      have hs := hide (hEh.out.s8 rfl hp hv rfl)
      obtain ⟨cz, fz⟩ := brow1 hs.out.1.1
      have fz0 := fz 0
      clear fz
      refine wpOp_ofK rfl rfl fun K hK => ?_
      go_simp
      refine hK _ _ ?_
      exact ⟨B0, B1, B2, B3, B4, B5, B6, B7, true, B9, B10, _, v11, v12, _, v16, _, _, v19, rfl, rfl, (by first | exact f2 | exact fun _ => rfl), (by first | exact f3 | exact fun _ => rfl), hs.out.2⟩
    · have hb : B9 = false := hl
      clear hl
      obtain rfl := hb
      simp [Region.binds] at ha
      have hp := ha.1
      have hv := ha.2.1
      clear ha
      obtain ⟨p, rfl, _, _⟩ := hEh.out.a6 hp
      obtain ⟨q, rfl, _⟩ := hEh.out.a1 hv
      have hs := hide (hEh.out.s9 rfl hp hv rfl)
      obtain ⟨cz, fz⟩ := brow1 hs.out.1.1
      have fz0 := fz 0
      clear fz
      refine wpOp_ofK rfl rfl fun K hK => ?_
      go_simp
      refine hK _ _ ?_
      exact ⟨B0, B1, B2, B3, B4, B5, B6, B7, B8, true, B10, v10, _, v12, v15, _, _, _, v19, rfl, rfl, (by first | exact f2 | exact fun _ => rfl), (by first | exact f3 | exact fun _ => rfl), hs.out.2⟩
    · have hb : B10 = false := hl
      clear hl
      obtain rfl := hb
      simp [Region.binds] at ha
      have hp := ha.1
      have hv := ha.2.1
      clear ha
      obtain ⟨p, rfl, _, _⟩ := hEh.out.a7 hp
      obtain ⟨q, rfl, _⟩ := hEh.out.a4 hv
      have hs := hide (hEh.out.s10 rfl hp hv rfl)
      obtain ⟨cz, fz⟩ := brow1 hs.out.1.1
      have fz0 := fz 0
      clear fz
      refine wpOp_ofK rfl rfl fun K hK => ?_
      go_simp
      refine hK _ _ ?_
      exact ⟨B0, B1, B2, B3, B4, B5, B6, B7, B8, B9, true, v10, v11, _, v15, v16, _, _, _, rfl, rfl, (by first | exact f2 | exact fun _ => rfl), (by first | exact f3 | exact fun _ => rfl), hs.out.2⟩
  · rintro l a wx ⟨B0, B1, B2, B3, B4, B5, B6, B7, B8, B9, B10, v10, v11, v12, v15, v16, v17, v18, v19, rfl, rfl, f2, f3, hE⟩ hr
    have h10 := ready_nil_all (by kernel_rfl) rfl hr 11 10 (by decide) (by decide)
    have h9 := ready_nil_all (by kernel_rfl) rfl hr 11 9 (by decide) (by decide)
    have h8 := ready_nil_all (by kernel_rfl) rfl hr 11 8 (by decide) (by decide)
    change B10 = true at h10
    change B9 = true at h9
    change B8 = true at h8
    obtain ⟨h5, h0⟩ := hE.c8 h8
    obtain ⟨h6, h1⟩ := hE.c9 h9
    obtain ⟨h7, h4⟩ := hE.c10 h10
    obtain ⟨q5, rfl, _, n5⟩ := hE.a5 h5
    obtain ⟨q6, rfl, _, n6⟩ := hE.a6 h6
    obtain ⟨q7, rfl, _, n7⟩ := hE.a7 h7
    obtain ⟨q0, rfl, n0⟩ := hE.a0 h0
    obtain ⟨q1, rfl, n1⟩ := hE.a1 h1
    obtain ⟨q4, rfl, n4⟩ := hE.a4 h4
    have d01 := hE.d01 h0 h1
    have d56 := hE.d56 h5 h6
    have hEb := hide hE.b
    have m5 := hide (n5 h8)
    have m6 := hide (n6 h9)
    have m7 := hide (n7 h10)
    have m0 := hide n0
    have m1 := hide n1
    have m4 := hide n4
    clear n0 n1 n4 n5 n6 n7 hE hr f2 f3 h0 h1 h4 h5 h6 h7 h8 h9 h10 hmk c4
    obtain ⟨x1, x2⟩ := brow1 (heap_alloc_new wx (.cells #[Value.nilFunc] 1))
    have x3 := x2 0
    clear x2
    have hJ0 := JS_start (.func (.func 240) #[] #[Value.pointer (some { block := w.heap.size + 1 + 1 + 1 + 1 + 1, off := 0 }), Value.pointer (some { block := w.heap.size, off := 0 }), Value.pointer (some { block := q6, off := 0 }), Value.pointer (some { block := w.heap.size + 1 + 1, off := 0 }), Value.pointer (some { block := q5, off := 0 }), Value.pointer (some { block := w.heap.size + 1, off := 0 }), Value.pointer (some { block := w.heap.size + 1 + 1 + 1 + 1, off := 0 }), Value.pointer (some { block := q7, off := 0 }), Value.pointer (some { block := wx.heap.size, off := 0 })]) hs1 hBw r0 r1 r2 r3 r4 r5 hEb.out m0.out m1.out m4.out m5.out m6.out m7.out (fun e => d01 (by rw [e])) (fun e => d56 (by rw [e])) hrh.out hcl.out hn7 (S := S) (bd := bd)
    have hJ := hide hJ0
    have hB8 := hide (below_then hBw (by omega) (hEb.out.alloc hEb.out.size (.cells #[.func (.func 240) #[] #[Value.pointer (some { block := w.heap.size + 1 + 1 + 1 + 1 + 1, off := 0 }), Value.pointer (some { block := w.heap.size, off := 0 }), Value.pointer (some { block := q6, off := 0 }), Value.pointer (some { block := w.heap.size + 1 + 1, off := 0 }), Value.pointer (some { block := q5, off := 0 }), Value.pointer (some { block := w.heap.size + 1, off := 0 }), Value.pointer (some { block := w.heap.size + 1 + 1 + 1 + 1, off := 0 }), Value.pointer (some { block := q7, off := 0 }), Value.pointer (some { block := wx.heap.size, off := 0 })]] 1)))
    clear hJ0 r0 r1 r2 r3 r4 r5 hBw hs1
    go_wp2_with fail
    refine (place_any _ _ _ _ _ _ _ _ _ _ S bd A n c rods _ _ hS hRh.out hnh.out rfl (n + 1) [] ([], -1) _ _ _ _ (by simp) (by simp) (Nat.zero_le _) hJ.out).mono ?_
    rintro e w5 ⟨rfl, vo, vl, vb, hj, hb⟩
    have hJ5 := hide hj
    have hB5 := hide (below_two' hB8.out hb)
    have hm : Hid (plc S bd rods (n + 1) [] ([], -1) = mOrd S bd rods) := hide (by unfold mOrd; rw [hnh.out])
    clear hj hb
    rw [hm.out] at hJ5
    obtain ⟨Ab, cb, hvb, _⟩ := hJ5.out.t.o2.slice
    subst hvb
    obtain ⟨c0, c1, c2, c3, c4, c5, c6, c7, c8⟩ := hJ5.out.cells.1
    clear hJ hB8 x1 x3 m0 m1 m4 m5 m6 m7 hEb d01 d56 c1 c2 c3 c4 c5 c7 c8
    go_wp2_with fail
    go_quiet (fail)
    go_wp2_with fail
    go_ret2
    exact ⟨_, rfl, hJ5.out.t.o2.below (below_drewN (Below.refl _ _) nq), below_drewN hB5.out nq⟩
end Go.Proofs.YtfpaejlipaainaaGreatDoor
namespace Go.Proofs.YtfpaejlipaainaaGreatDoor
open Go.ChangeShapes Go.WideShapes Go.ChangeAt Go.RowKit Go.Deep
set_option maxRecDepth 100000
set_option maxHeartbeats 2000000 in
theorem iOrder_any (S b : Int) (A : Option Addr) (n c : Nat) (l : List Int) (w : World) (hn : n ≤ 1048576) (hS : inB S 3 60 = true) (hr : Arr i64c 1 w w.heap.size A n l) :
    Calls Tryz.prog 131 #[.int .i64 S, .slice A n c, .int .i64 b] w fun e w' => ∃ v, e = .returned (.tuple #[v, .int .i64 (ordC S b l)]) ∧ Res i64c 2 1 w' w.heap.size v (ordL S b l).length (ordL S b l) ∧ Below w.heap.size w w' := by
  have hrh := hide hr
  have hSb := inB_true.1 hS
  have hlen := hide hr.len
  have hLC := hide (iLaidC_any S b A n c l w hn hS hr)
  clear hr hS
  cases h1 : rodsOk l
  · have hC : Hid (ordC S b l = 1) := hide (by unfold ordC; rw [h1]; rfl)
    have hO : Hid (ordL S b l = []) := hide (by unfold ordL; rw [hC.out]; rfl)
    rw [h1] at hLC
    go_enter Tryz.func131, Tryz.ntmps131
    go_wp2_with fail
    refine hLC.out.mono ?_
    rintro e w1 ⟨rfl, hb⟩
    have hB := hide hb
    clear hb
    go_wp2
    go_ret2
    exact ⟨_, by rw [hC.out]; rfl, by rw [hO.out]; exact Res.empty (Nat.zero_le _), hB.out⟩
  · cases h2 : inB b 0 5
    · have hC : Hid (ordC S b l = 2) := hide (by unfold ordC; rw [h1, h2]; rfl)
      have hO : Hid (ordL S b l = []) := hide (by unfold ordL; rw [hC.out]; rfl)
      rw [h1, h2] at hLC
      go_enter Tryz.func131, Tryz.ntmps131
      go_wp2_with fail
      refine hLC.out.mono ?_
      rintro e w1 ⟨rfl, hb⟩
      have hB := hide hb
      clear hb
      go_wp2
      go_ret2
      exact ⟨_, by rw [hC.out]; rfl, by rw [hO.out]; exact Res.empty (Nat.zero_le _), hB.out⟩
    · rw [h1, h2] at hLC
      have hR := hide (rods_RB h1)
      obtain ⟨q, hq⟩ : ∃ q, q = (mOrd S b l).2 := ⟨_, rfl⟩
      by_cases h3 : 0 < q
      · have hC : Hid (ordC S b l = 3) := hide (by unfold ordC; rw [h1, h2, ← hq, if_pos h3]; rfl)
        have hO : Hid (ordL S b l = []) := hide (by unfold ordL; rw [hC.out]; rfl)
        have hQ := hide hq
        clear hq
        go_enter Tryz.func131, Tryz.ntmps131
        go_wp2_with fail
        refine hLC.out.mono ?_
        rintro e w1 ⟨rfl, hb⟩
        have hB := hide hb
        clear hb
        go_wp2_with fail
        refine (iFewest_any S b A n c l _ hSb hR.out hlen.out (hrh.out.go hB.out)).mono ?_
        rw [← hQ.out]
        rintro e w2 ⟨v, rfl, ho, hb⟩
        have hB2 := hide (Below.up hB.out hb)
        clear ho hb
        go_wp2
        go_ret2
        exact ⟨_, by rw [hC.out]; rfl, by rw [hO.out]; exact Res.empty (Nat.zero_le _), hB2.out⟩
      · have hC : Hid (ordC S b l = 0) := hide (by unfold ordC; rw [h1, h2, ← hq, if_neg h3]; rfl)
        have hO : Hid (ordL S b l = (mOrd S b l).1) := hide (by unfold ordL; rw [hC.out, if_pos rfl])
        have hQ := hide hq
        clear hq
        go_enter Tryz.func131, Tryz.ntmps131
        go_wp2_with fail
        refine hLC.out.mono ?_
        rintro e w1 ⟨rfl, hb⟩
        have hB := hide hb
        clear hb
        go_wp2_with fail
        refine (iFewest_any S b A n c l _ hSb hR.out hlen.out (hrh.out.go hB.out)).mono ?_
        rw [← hQ.out]
        rintro e w2 ⟨v, rfl, ho, hb⟩
        have hB2 := hide (Below.up hB.out hb)
        have hO2 := hide (ho.less hB.out.size)
        clear ho hb
        obtain ⟨Av, cv, hv, _⟩ := hO2.out.slice
        subst hv
        go_wp2
        go_ret2
        exact ⟨_, by rw [hC.out]; rfl, by rw [hO.out]; exact hO2.out.res, hB2.out⟩
end Go.Proofs.YtfpaejlipaainaaGreatDoor
namespace Go.Proofs.YtfpaejlipaainaaGreatDoor
open Go.ChangeShapes Go.WideShapes Go.ChangeAt Go.RowKit Go.Deep
set_option maxRecDepth 100000
structure AskIn (w : World) (g : Nat) (x : DeskV) (Aw : Option Addr) (nw cw : Nat) (ws : List ByteArray) (An : Option Addr) (m cn : Nat) (N : List Int) : Prop where
  hG : Gl w
  hK : w.heap[g]? = some (.cells #[.string x.fStroke, .int .i64 x.fStakes, .slice x.A x.n x.c, .slice x.A' x.n' x.c', .string x.fLog] 29 (0, 0))
  hx : x.good w w.heap.size
  ok : x.pure.ok = true
  hw : Arr strc 1 w w.heap.size Aw nw ws
  hn : Arr i64c 1 w w.heap.size An m N
  nw : nw ≤ 1048577
  mm : m ≤ 1048576
  mc : m ≤ cn
  wsz : ∀ s ∈ ws, s.size ≤ maxLen
  nb : ∀ z ∈ N, -1000000000000000000 ≤ z ∧ z ≤ 1000000000000000000
section
variable {w w' : World} {g : Nat} {x : DeskV} {Aw : Option Addr} {nw cw : Nat} {ws : List ByteArray} {An : Option Addr} {m cn : Nat} {N : List Int}
theorem AskIn.below (h : AskIn w g x Aw nw cw ws An m cn N) (hb : Below w.heap.size w w') : AskIn w' g x Aw nw cw ws An m cn N :=
  ⟨h.hG.below hb, keepr h.hK hb, h.hx.go hb, h.ok, h.hw.go hb, h.hn.go hb, h.nw, h.mm, h.mc, h.wsz, h.nb⟩
theorem AskIn.parts (h : AskIn w g x Aw nw cw ws An m cn N) : strokeOk x.fStroke = true ∧ inB x.fStakes 3 60 = true ∧ kindsOk x.kinds = true ∧ heapsOk x.heaps = true ∧ lcode x.fLog = 0 := by
  have := h.ok
  simp only [DeskM.ok, DeskV.pure, Bool.and_eq_true] at this
  exact ⟨this.1.1.1.1, this.1.1.1.2, this.1.1.2, this.1.2, of_decide_eq_true this.2⟩
end
set_option maxHeartbeats 2000000 in
theorem iAsk_round {w : World} {g : Nat} {x : DeskV} {Aw : Option Addr} {nw cw : Nat} {ws : List ByteArray} {An : Option Addr} {m cn : Nat} {N : List Int} (h : AskIn w g x Aw nw cw ws An m cn N) (hw0 : ws[0]? = some Cmd.cRound.word) (h0 : 0 < nw) (hm : 0 < m) :
    Calls Tryz.prog 80 #[.pointer (some ⟨g, 0, none⟩), .slice Aw nw cw, .slice An m cn] w fun e w' => e = .returned (.tuple #[.string (mAsk x.pure .cRound ws N).1, .int .i64 (mAsk x.pure .cRound ws N).2]) ∧ Below w.heap.size w w' := by
  obtain ⟨p1, p2, p3, p4, p5⟩ := h.parts
  obtain ⟨q, hq⟩ : ∃ q : Nat, x.fStakes = (q : Int) := ⟨x.fStakes.toNat, by have := inB_true.1 p2; omega⟩
  have hqn : x.fStakes.toNat = q := by omega
  rw [hq] at p2
  have hqb := inB_true.1 p2
  obtain ⟨bw, ow, y0, hAw, hbw, hy0, cw0⟩ := h.hw.str h0
  subst hAw
  rw [hw0] at hy0
  have hy00 : y0 = Cmd.cRound.word := (Option.some.inj hy0).symm
  subst hy00
  simp only [Cmd.word, Nat.add_zero] at cw0
  have hH := hide h
  have hdr : Below w.heap.size w w.drew := below_drewN (Below.refl _ _) 1
  have hH2 := hide (h.below hdr)
  have hDR := hide hdr
  obtain ⟨bn0, on0, z0, hA0, hb0, hz0, cn0⟩ := h.hn.int (k := 0) hm
  subst hA0
  simp only [Nat.add_zero] at cn0
  have hZ0 : Hid (N.getD 0 0 = z0) := hide (by rw [List.getD_eq_getElem?_getD, hz0]; rfl)
  have hcell : Hid (∀ W, Below w.heap.size w W → W.cell? ⟨g, 0, none⟩ = some (.string x.fStroke) ∧ W.cell? ⟨g, 1, none⟩ = some (.int .i64 (q : Int)) ∧ W.cell? ⟨bn0, on0, none⟩ = some (.int .i64 z0)) := hide (fun W hb => ⟨(row5 (keepr hH.out.hK hb)).1, by rw [← hq]; exact (row5 (keepr hH.out.hK hb)).2.1, (hb.cell (p := ⟨bn0, on0, none⟩) hb0).trans cn0⟩)
  have hM : Hid (mAsk x.pure .cRound ws N = (mRoundT x.fStroke q z0, mRoundC z0)) := hide (by unfold mAsk DeskV.pure; simp only; rw [hqn, hZ0.out])
  have hi0 : (0 : Int) < (m : Int) := by omega
  have kw := cw0
  clear h hw0 hy0 hdr hz0
  go_enter Tryz.func80, Tryz.ntmps80
  go_wp2_with fail
  obtain ⟨c0, c1, c2, c3, c4, cf⟩ := row5 hH2.out.hK
  rw [hq] at c1
  go_region_held3 (fun w' => w'.cell? ⟨g, 0, none⟩ = some (.string x.fStroke) ∧ w'.cell? ⟨g, 1, none⟩ = some (.int .i64 (q : Int)) ∧ w'.cell? ⟨bn0, on0, none⟩ = some (.int .i64 z0)) (first | exact hcell.out _ hB4.out | exact hcell.out _ hDR.out | go_keep) (first | (go_at_call 127; refine (iRound_any x.fStroke q z0 _ p1 p2).mono ?_; rintro e w4 ⟨rfl, hb4⟩; have hB4 := hide (hDR.out.trans (hb4.mono hDR.out.size)); clear hb4) | fail)
  go_wp2
  go_ret2
  exact ⟨by rw [hM.out]; rfl, hB4.out⟩
set_option maxHeartbeats 2000000 in
theorem iAsk_word {w : World} {g : Nat} {x : DeskV} {Aw : Option Addr} {nw cw : Nat} {ws : List ByteArray} {An : Option Addr} {m cn : Nat} {N : List Int} (h : AskIn w g x Aw nw cw ws An m cn N) (hw0 : ws[0]? = some Cmd.cWord.word) (h0 : 0 < nw) (hm : 0 < m) (h1 : 1 < nw) :
    Calls Tryz.prog 80 #[.pointer (some ⟨g, 0, none⟩), .slice Aw nw cw, .slice An m cn] w fun e w' => e = .returned (.tuple #[.string (mAsk x.pure .cWord ws N).1, .int .i64 (mAsk x.pure .cWord ws N).2]) ∧ Below w.heap.size w w' := by
  obtain ⟨p1, p2, p3, p4, p5⟩ := h.parts
  obtain ⟨q, hq⟩ : ∃ q : Nat, x.fStakes = (q : Int) := ⟨x.fStakes.toNat, by have := inB_true.1 p2; omega⟩
  have hqn : x.fStakes.toNat = q := by omega
  rw [hq] at p2
  have hqb := inB_true.1 p2
  obtain ⟨bw, ow, y0, hAw, hbw, hy0, cw0⟩ := h.hw.str h0
  subst hAw
  rw [hw0] at hy0
  have hy00 : y0 = Cmd.cWord.word := (Option.some.inj hy0).symm
  subst hy00
  simp only [Cmd.word, Nat.add_zero] at cw0
  have hH := hide h
  have hdr : Below w.heap.size w w.drew := below_drewN (Below.refl _ _) 1
  have hH2 := hide (h.below hdr)
  have hDR := hide hdr
  obtain ⟨bn0, on0, z0, hA0, hb0, hz0, cn0⟩ := h.hn.int (k := 0) hm
  subst hA0
  simp only [Nat.add_zero] at cn0
  have hZ0 : Hid (N.getD 0 0 = z0) := hide (by rw [List.getD_eq_getElem?_getD, hz0]; rfl)
  obtain ⟨bw1, ow1, y1, hAw1, hbw1, hy1, cw1⟩ := h.hw.str (k := 1) h1
  cases hAw1
  have hY1 : Hid (ws.getD 1 ⟨#[]⟩ = y1) := hide (by rw [List.getD_eq_getElem?_getD, hy1]; rfl)
  have hy1s := h.wsz y1 (List.mem_of_getElem? hy1)
  have hi1 : (1 : Int) < (nw : Int) := by omega
  have hcell : Hid (∀ W, Below w.heap.size w W → W.cell? ⟨g, 1, none⟩ = some (.int .i64 (q : Int)) ∧ W.cell? ⟨bn0, on0, none⟩ = some (.int .i64 z0) ∧ W.cell? ⟨bw, ow + 1, none⟩ = some (.string y1)) := hide (fun W hb => ⟨by rw [← hq]; exact (row5 (keepr hH.out.hK hb)).2.1, (hb.cell (p := ⟨bn0, on0, none⟩) hb0).trans cn0, (hb.cell (p := ⟨bw, ow + 1, none⟩) hbw).trans cw1⟩)
  have hM : Hid (mAsk x.pure .cWord ws N = (mRowT y1 q z0, mRowC y1 z0)) := hide (by unfold mAsk DeskV.pure; simp only; rw [hqn, hZ0.out, hY1.out])
  have hi0 : (0 : Int) < (m : Int) := by omega
  clear h hw0 hy0 hdr hz0 hy1 cw1
  go_enter Tryz.func80, Tryz.ntmps80
  go_wp2_with fail
  obtain ⟨c0, c1, c2, c3, c4, cf⟩ := row5 hH2.out.hK
  rw [hq] at c1
  go_region_held3 (fun w' => w'.cell? ⟨g, 1, none⟩ = some (.int .i64 (q : Int)) ∧ w'.cell? ⟨bn0, on0, none⟩ = some (.int .i64 z0) ∧ w'.cell? ⟨bw, ow + 1, none⟩ = some (.string y1)) (first | exact hcell.out _ hB4.out | exact hcell.out _ hDR.out | go_keep) (first | (go_at_call 128; refine (iRow_any y1 q z0 _ hy1s p2).mono ?_; rintro e w4 ⟨rfl, hb4⟩; have hB4 := hide (hDR.out.trans (hb4.mono hDR.out.size)); clear hb4) | fail)
  go_wp2
  go_ret2
  exact ⟨by rw [hM.out]; rfl, hB4.out⟩
set_option maxHeartbeats 2000000 in
theorem iAsk_sound {w : World} {g : Nat} {x : DeskV} {Aw : Option Addr} {nw cw : Nat} {ws : List ByteArray} {An : Option Addr} {m cn : Nat} {N : List Int} (h : AskIn w g x Aw nw cw ws An m cn N) (hw0 : ws[0]? = some Cmd.cSound.word) (h0 : 0 < nw) (hm : 0 < m) :
    Calls Tryz.prog 80 #[.pointer (some ⟨g, 0, none⟩), .slice Aw nw cw, .slice An m cn] w fun e w' => e = .returned (.tuple #[.string (mAsk x.pure .cSound ws N).1, .int .i64 (mAsk x.pure .cSound ws N).2]) ∧ Below w.heap.size w w' := by
  obtain ⟨p1, p2, p3, p4, p5⟩ := h.parts
  obtain ⟨q, hq⟩ : ∃ q : Nat, x.fStakes = (q : Int) := ⟨x.fStakes.toNat, by have := inB_true.1 p2; omega⟩
  have hqn : x.fStakes.toNat = q := by omega
  rw [hq] at p2
  have hqb := inB_true.1 p2
  obtain ⟨bw, ow, y0, hAw, hbw, hy0, cw0⟩ := h.hw.str h0
  subst hAw
  rw [hw0] at hy0
  have hy00 : y0 = Cmd.cSound.word := (Option.some.inj hy0).symm
  subst hy00
  simp only [Cmd.word, Nat.add_zero] at cw0
  have hH := hide h
  have hdr : Below w.heap.size w w.drew := below_drewN (Below.refl _ _) 1
  have hH2 := hide (h.below hdr)
  have hDR := hide hdr
  obtain ⟨bn0, on0, z0, hA0, hb0, hz0, cn0⟩ := h.hn.int (k := 0) hm
  subst hA0
  simp only [Nat.add_zero] at cn0
  have hZ0 : Hid (N.getD 0 0 = z0) := hide (by rw [List.getD_eq_getElem?_getD, hz0]; rfl)
  have hcell : Hid (∀ W, Below w.heap.size w W → W.cell? ⟨g, 0, none⟩ = some (.string x.fStroke) ∧ W.cell? ⟨g, 1, none⟩ = some (.int .i64 (q : Int)) ∧ W.cell? ⟨bn0, on0, none⟩ = some (.int .i64 z0)) := hide (fun W hb => ⟨(row5 (keepr hH.out.hK hb)).1, by rw [← hq]; exact (row5 (keepr hH.out.hK hb)).2.1, (hb.cell (p := ⟨bn0, on0, none⟩) hb0).trans cn0⟩)
  have hi0 : (0 : Int) < (m : Int) := by omega
  cases hs : mSound x.fStroke q z0
  · have hM : Hid (mAsk x.pure .cSound ws N = (⟨#[110, 111]⟩, mSoundC z0)) := hide (by unfold mAsk DeskV.pure; simp only; rw [hqn, hZ0.out, hs]; rfl)
    clear h hw0 hy0 hdr hz0
    go_enter Tryz.func80, Tryz.ntmps80
    go_wp2_with fail
    obtain ⟨c0, c1, c2, c3, c4, cf⟩ := row5 hH2.out.hK
    rw [hq] at c1
    go_region_held3 (fun w' => w'.cell? ⟨g, 0, none⟩ = some (.string x.fStroke) ∧ w'.cell? ⟨g, 1, none⟩ = some (.int .i64 (q : Int)) ∧ w'.cell? ⟨bn0, on0, none⟩ = some (.int .i64 z0)) (first | exact hcell.out _ hB4.out | exact hcell.out _ hDR.out | go_keep) (first | (go_at_call 129; refine (iIsSound_any x.fStroke q z0 _ p1 p2).mono ?_; rw [hs]; rintro e w4 ⟨rfl, hb4⟩; have hB4 := hide (hDR.out.trans (hb4.mono hDR.out.size)); clear hb4) | fail)
    go_wp2
    go_ret2
    exact ⟨by rw [hM.out]; rfl, hB4.out⟩
  · have hM : Hid (mAsk x.pure .cSound ws N = (⟨#[121, 101, 115]⟩, mSoundC z0)) := hide (by unfold mAsk DeskV.pure; simp only; rw [hqn, hZ0.out, hs]; rfl)
    clear h hw0 hy0 hdr hz0
    go_enter Tryz.func80, Tryz.ntmps80
    go_wp2_with fail
    obtain ⟨c0, c1, c2, c3, c4, cf⟩ := row5 hH2.out.hK
    rw [hq] at c1
    go_region_held3 (fun w' => w'.cell? ⟨g, 0, none⟩ = some (.string x.fStroke) ∧ w'.cell? ⟨g, 1, none⟩ = some (.int .i64 (q : Int)) ∧ w'.cell? ⟨bn0, on0, none⟩ = some (.int .i64 z0)) (first | exact hcell.out _ hB4.out | exact hcell.out _ hDR.out | go_keep) (first | (go_at_call 129; refine (iIsSound_any x.fStroke q z0 _ p1 p2).mono ?_; rw [hs]; rintro e w4 ⟨rfl, hb4⟩; have hB4 := hide (hDR.out.trans (hb4.mono hDR.out.size)); clear hb4) | fail)
    go_wp2
    go_ret2
    exact ⟨by rw [hM.out]; rfl, hB4.out⟩
set_option maxHeartbeats 2000000 in
theorem iAsk_add {w : World} {g : Nat} {x : DeskV} {Aw : Option Addr} {nw cw : Nat} {ws : List ByteArray} {An : Option Addr} {m cn : Nat} {N : List Int} (h : AskIn w g x Aw nw cw ws An m cn N) (hw0 : ws[0]? = some Cmd.cAdd.word) (h0 : 0 < nw) (hm : 0 < m) :
    Calls Tryz.prog 80 #[.pointer (some ⟨g, 0, none⟩), .slice Aw nw cw, .slice An m cn] w fun e w' => e = .returned (.tuple #[.string (mAsk x.pure .cAdd ws N).1, .int .i64 (mAsk x.pure .cAdd ws N).2]) ∧ Below w.heap.size w w' := by
  obtain ⟨p1, p2, p3, p4, p5⟩ := h.parts
  obtain ⟨q, hq⟩ : ∃ q : Nat, x.fStakes = (q : Int) := ⟨x.fStakes.toNat, by have := inB_true.1 p2; omega⟩
  have hqn : x.fStakes.toNat = q := by omega
  rw [hq] at p2
  have hqb := inB_true.1 p2
  obtain ⟨bw, ow, y0, hAw, hbw, hy0, cw0⟩ := h.hw.str h0
  subst hAw
  rw [hw0] at hy0
  have hy00 : y0 = Cmd.cAdd.word := (Option.some.inj hy0).symm
  subst hy00
  simp only [Cmd.word, Nat.add_zero] at cw0
  have hH := hide h
  have hdr : Below w.heap.size w w.drew := below_drewN (Below.refl _ _) 1
  have hH2 := hide (h.below hdr)
  have hDR := hide hdr
  obtain ⟨bn0, on0, z0, hA0, hb0, hz0, cn0⟩ := h.hn.int (k := 0) hm
  subst hA0
  simp only [Nat.add_zero] at cn0
  have hZ0 : Hid (N.getD 0 0 = z0) := hide (by rw [List.getD_eq_getElem?_getD, hz0]; rfl)
  have hcell : Hid (∀ W, Below w.heap.size w W → W.cell? ⟨g, 0, none⟩ = some (.string x.fStroke) ∧ W.cell? ⟨g, 1, none⟩ = some (.int .i64 (q : Int)) ∧ W.cell? ⟨bn0, on0, none⟩ = some (.int .i64 z0)) := hide (fun W hb => ⟨(row5 (keepr hH.out.hK hb)).1, by rw [← hq]; exact (row5 (keepr hH.out.hK hb)).2.1, (hb.cell (p := ⟨bn0, on0, none⟩) hb0).trans cn0⟩)
  have hM : Hid (mAsk x.pure .cAdd ws N = (numLine [mStk x.fStroke q z0], mStkC x.fStroke q z0)) := hide (by unfold mAsk DeskV.pure; simp only; rw [hqn, hZ0.out])
  have hi0 : (0 : Int) < (m : Int) := by omega
  clear h hw0 hy0 hdr hz0
  go_enter Tryz.func80, Tryz.ntmps80
  go_wp2_with fail
  obtain ⟨c0, c1, c2, c3, c4, cf⟩ := row5 hH2.out.hK
  rw [hq] at c1
  go_region_held3 (fun w' => w'.cell? ⟨g, 0, none⟩ = some (.string x.fStroke) ∧ w'.cell? ⟨g, 1, none⟩ = some (.int .i64 (q : Int)) ∧ w'.cell? ⟨bn0, on0, none⟩ = some (.int .i64 z0)) (first | exact hcell.out _ hB4.out | exact hcell.out _ hDR.out | go_keep) (first | (go_at_call 130; refine (iStk_any x.fStroke q z0 _ p1 p2).mono ?_; rintro e w4 ⟨rfl, hb4⟩; have hB4 := hide (hDR.out.trans (hb4.mono hDR.out.size)); clear hb4) | fail)
  go_wp2_with fail
  have hB5 := hide (hB4.out.trans (((Below.refl w4.heap.size w4).alloc (Nat.le_refl _) (.cells #[.int .i64 (mStk x.fStroke q z0)] 2)).mono hB4.out.size))
  have hA5 := hide (arr_oneJ (y := mStk x.fStroke q z0) (heap_alloc_new w4 _))
  refine (iNumLine_any (some ⟨w4.heap.size, 0, none⟩) 1 1 [mStk x.fStroke q z0] _ (by omega) (stk_I64 x.fStroke q z0) (hH.out.hG.below hB5.out) hA5.out).mono ?_
  rintro e w6 ⟨rfl, hb6⟩
  have hB6 := hide (hB5.out.trans (hb6.mono hB5.out.size))
  clear hb6
  go_wp2
  go_ret2
  exact ⟨by rw [hM.out]; rfl, hB6.out⟩
set_option maxHeartbeats 2000000 in
theorem iAsk_joins {w : World} {g : Nat} {x : DeskV} {Aw : Option Addr} {nw cw : Nat} {ws : List ByteArray} {An : Option Addr} {m cn : Nat} {N : List Int} (h : AskIn w g x Aw nw cw ws An m cn N) (hw0 : ws[0]? = some Cmd.cJoins.word) (h0 : 0 < nw) (hm : 0 < m) :
    Calls Tryz.prog 80 #[.pointer (some ⟨g, 0, none⟩), .slice Aw nw cw, .slice An m cn] w fun e w' => e = .returned (.tuple #[.string (mAsk x.pure .cJoins ws N).1, .int .i64 (mAsk x.pure .cJoins ws N).2]) ∧ Below w.heap.size w w' := by
  obtain ⟨p1, p2, p3, p4, p5⟩ := h.parts
  obtain ⟨q, hq⟩ : ∃ q : Nat, x.fStakes = (q : Int) := ⟨x.fStakes.toNat, by have := inB_true.1 p2; omega⟩
  have hqn : x.fStakes.toNat = q := by omega
  rw [hq] at p2
  have hqb := inB_true.1 p2
  obtain ⟨bw, ow, y0, hAw, hbw, hy0, cw0⟩ := h.hw.str h0
  subst hAw
  rw [hw0] at hy0
  have hy00 : y0 = Cmd.cJoins.word := (Option.some.inj hy0).symm
  subst hy00
  simp only [Cmd.word, Nat.add_zero] at cw0
  have hH := hide h
  have hdr : Below w.heap.size w w.drew := below_drewN (Below.refl _ _) 1
  have hH2 := hide (h.below hdr)
  have hDR := hide hdr
  obtain ⟨bn0, on0, z0, hA0, hb0, hz0, cn0⟩ := h.hn.int (k := 0) hm
  subst hA0
  simp only [Nat.add_zero] at cn0
  have hZ0 : Hid (N.getD 0 0 = z0) := hide (by rw [List.getD_eq_getElem?_getD, hz0]; rfl)
  have hcut : ∀ W, (Instr.slice 60 (.slice (some ⟨bn0, on0, none⟩) m cn) (some (.int .i64 1)) none none).run Tryz.prog W = .ok (.slice (cutA (some ⟨bn0, on0, none⟩) cn 1 1) (m - 1) (cn - 1)) W := fun W => run_cut (P := Tryz.prog) Tryz.underlying60 info_i64j (some ⟨bn0, on0, none⟩) m cn 1 (by omega) W
  have hAc := hide (h.hn.cut (k := 1) (by omega) h.mc)
  obtain ⟨A1, hA1⟩ : ∃ A1, A1 = cutA (some ⟨bn0, on0, none⟩) cn 1 1 := ⟨_, rfl⟩
  rw [← hA1] at hcut hAc
  obtain ⟨m1, hm1⟩ : ∃ m1, m1 = m - 1 := ⟨_, rfl⟩
  rw [← hm1] at hcut hAc
  obtain ⟨c1n, hc1n⟩ : ∃ c1, c1 = cn - 1 := ⟨_, rfl⟩
  rw [← hc1n] at hcut
  have hm1b : m1 ≤ 1048576 := by have := h.mm; omega
  obtain ⟨TN, hTN⟩ : ∃ TN, TN = N.drop 1 := ⟨_, rfl⟩
  rw [← hTN] at hAc
  clear hA1 hm1 hc1n
  have hcell : Hid (∀ W, Below w.heap.size w W → W.cell? ⟨g, 1, none⟩ = some (.int .i64 (q : Int)) ∧ W.cell? ⟨bn0, on0, none⟩ = some (.int .i64 z0)) := hide (fun W hb => ⟨by rw [← hq]; exact (row5 (keepr hH.out.hK hb)).2.1, (hb.cell (p := ⟨bn0, on0, none⟩) hb0).trans cn0⟩)
  have hM : Hid (mAsk x.pure .cJoins ws N = (numLine (ordL (q : Int) z0 TN), ordC (q : Int) z0 TN)) := hide (by unfold mAsk DeskV.pure; simp only; rw [hq, hZ0.out, ← hTN])
  have hi0 : (0 : Int) < (m : Int) := by omega
  clear h hw0 hy0 hdr hz0 hTN
  go_enter Tryz.func80, Tryz.ntmps80
  go_wp2_with fail
  obtain ⟨c0, c1, c2, c3, c4, cf⟩ := row5 hH2.out.hK
  rw [hq] at c1
  go_region_held3 (fun w' => w'.cell? ⟨g, 1, none⟩ = some (.int .i64 (q : Int)) ∧ w'.cell? ⟨bn0, on0, none⟩ = some (.int .i64 z0)) (first | exact hcell.out _ hB4.out | exact hcell.out _ hDR.out | go_keep) (first | (go_at_call 131; refine (iOrder_any (q : Int) z0 A1 m1 c1n TN _ hm1b p2 ((hAc.out.go hDR.out))).mono ?_; rintro e w4 ⟨v4, rfl, hr4, hb4⟩; have hB4 := hide (hDR.out.trans (hb4.mono hDR.out.size)); have hR4 := hide hr4; obtain ⟨A4, c4, hv4, _⟩ := hr4.slice; subst hv4; clear hb4 hr4) | fail)
  go_wp2_with fail
  refine (iNumLine_any A4 _ c4 (ordL (q : Int) z0 TN) _ (ord_len (q : Int) z0 TN) (ord_I64 (q : Int) z0 TN) (hH.out.hG.below hB4.out) (hR4.out.arr i64c_len)).mono ?_
  rintro e w6 ⟨rfl, hb6⟩
  have hB6 := hide (hB4.out.trans (hb6.mono hB4.out.size))
  clear hb6
  go_wp2
  go_ret2
  exact ⟨by rw [hM.out]; rfl, hB6.out⟩
set_option maxHeartbeats 2000000 in
theorem iAsk_few {w : World} {g : Nat} {x : DeskV} {Aw : Option Addr} {nw cw : Nat} {ws : List ByteArray} {An : Option Addr} {m cn : Nat} {N : List Int} (h : AskIn w g x Aw nw cw ws An m cn N) (hw0 : ws[0]? = some Cmd.cFew.word) (h0 : 0 < nw) (hm : 0 < m) :
    Calls Tryz.prog 80 #[.pointer (some ⟨g, 0, none⟩), .slice Aw nw cw, .slice An m cn] w fun e w' => e = .returned (.tuple #[.string (mAsk x.pure .cFew ws N).1, .int .i64 (mAsk x.pure .cFew ws N).2]) ∧ Below w.heap.size w w' := by
  obtain ⟨p1, p2, p3, p4, p5⟩ := h.parts
  obtain ⟨q, hq⟩ : ∃ q : Nat, x.fStakes = (q : Int) := ⟨x.fStakes.toNat, by have := inB_true.1 p2; omega⟩
  have hqn : x.fStakes.toNat = q := by omega
  rw [hq] at p2
  have hqb := inB_true.1 p2
  obtain ⟨bw, ow, y0, hAw, hbw, hy0, cw0⟩ := h.hw.str h0
  subst hAw
  rw [hw0] at hy0
  have hy00 : y0 = Cmd.cFew.word := (Option.some.inj hy0).symm
  subst hy00
  simp only [Cmd.word, Nat.add_zero] at cw0
  have hH := hide h
  have hdr : Below w.heap.size w w.drew := below_drewN (Below.refl _ _) 1
  have hH2 := hide (h.below hdr)
  have hDR := hide hdr
  obtain ⟨bn0, on0, z0, hA0, hb0, hz0, cn0⟩ := h.hn.int (k := 0) hm
  subst hA0
  simp only [Nat.add_zero] at cn0
  have hZ0 : Hid (N.getD 0 0 = z0) := hide (by rw [List.getD_eq_getElem?_getD, hz0]; rfl)
  have hcell : Hid (∀ W, Below w.heap.size w W → W.cell? ⟨g, 2, none⟩ = some (.slice x.A x.n x.c) ∧ W.cell? ⟨bn0, on0, none⟩ = some (.int .i64 z0)) := hide (fun W hb => ⟨(row5 (keepr hH.out.hK hb)).2.2.1, (hb.cell (p := ⟨bn0, on0, none⟩) hb0).trans cn0⟩)
  have hM : Hid (mAsk x.pure .cFew ws N = (numLine (fewL x.kinds z0), fewC x.kinds z0)) := hide (by unfold mAsk DeskV.pure; simp only; rw [hZ0.out])
  have hi0 : (0 : Int) < (m : Int) := by omega
  clear h hw0 hy0 hdr hz0
  go_enter Tryz.func80, Tryz.ntmps80
  go_wp2_with fail
  obtain ⟨c0, c1, c2, c3, c4, cf⟩ := row5 hH2.out.hK
  rw [hq] at c1
  go_region_held3 (fun w' => w'.cell? ⟨g, 2, none⟩ = some (.slice x.A x.n x.c) ∧ w'.cell? ⟨bn0, on0, none⟩ = some (.int .i64 z0)) (first | exact hcell.out _ hB4.out | exact hcell.out _ hDR.out | go_keep) (first | (go_at_call 133; refine (iFew_any x.A x.n x.c x.kinds z0 _ p3 hH2.out.hx.kinds).mono ?_; rintro e w4 ⟨v4, s4, rfl, hr4, hb4⟩; have hB4 := hide (hDR.out.trans (hb4.mono hDR.out.size)); have hR4 := hide hr4; obtain ⟨A4, c4, hv4, _⟩ := hr4.slice; subst hv4; clear hb4 hr4) | fail)
  go_wp2_with fail
  refine (iNumLine_any A4 _ c4 (fewL x.kinds z0) _ (few_len _ p3) (few_I64 _ p3) (hH.out.hG.below hB4.out) (hR4.out.arr i64c_len)).mono ?_
  rintro e w6 ⟨rfl, hb6⟩
  have hB6 := hide (hB4.out.trans (hb6.mono hB4.out.size))
  clear hb6
  go_wp2
  go_ret2
  exact ⟨by rw [hM.out]; rfl, hB6.out⟩
set_option maxHeartbeats 2000000 in
theorem iAsk_broken {w : World} {g : Nat} {x : DeskV} {Aw : Option Addr} {nw cw : Nat} {ws : List ByteArray} {An : Option Addr} {m cn : Nat} {N : List Int} (h : AskIn w g x Aw nw cw ws An m cn N) (hw0 : ws[0]? = some Cmd.cBroken.word) (h0 : 0 < nw) :
    Calls Tryz.prog 80 #[.pointer (some ⟨g, 0, none⟩), .slice Aw nw cw, .slice An m cn] w fun e w' => e = .returned (.tuple #[.string (mAsk x.pure .cBroken ws N).1, .int .i64 (mAsk x.pure .cBroken ws N).2]) ∧ Below w.heap.size w w' := by
  obtain ⟨p1, p2, p3, p4, p5⟩ := h.parts
  obtain ⟨q, hq⟩ : ∃ q : Nat, x.fStakes = (q : Int) := ⟨x.fStakes.toNat, by have := inB_true.1 p2; omega⟩
  have hqn : x.fStakes.toNat = q := by omega
  rw [hq] at p2
  have hqb := inB_true.1 p2
  obtain ⟨bw, ow, y0, hAw, hbw, hy0, cw0⟩ := h.hw.str h0
  subst hAw
  rw [hw0] at hy0
  have hy00 : y0 = Cmd.cBroken.word := (Option.some.inj hy0).symm
  subst hy00
  simp only [Cmd.word, Nat.add_zero] at cw0
  have hH := hide h
  have hdr : Below w.heap.size w w.drew := below_drewN (Below.refl _ _) 1
  have hH2 := hide (h.below hdr)
  have hDR := hide hdr
  have hM : Hid (mAsk x.pure .cBroken ws N = (numLine (newL (q : Int) N), newC (q : Int) N)) := hide (by unfold mAsk DeskV.pure; simp only; rw [hq])
  obtain ⟨c0, c1, c2, c3, c4, cf⟩ := row5 h.hK
  rw [hq] at c1
  clear h hw0 hy0 hdr
  go_enter Tryz.func80, Tryz.ntmps80
  go_wp2_with fail
  refine (iNew_fe (q : Int) An m cn N _ hH.out.mm p2 hH.out.hn).mono ?_
  rintro e w4 ⟨v4, rfl, hr4, hb4⟩
  have hB4 := hide hb4
  have hR4 := hide hr4
  obtain ⟨A4, c4, hv4, _⟩ := hr4.slice
  subst hv4
  clear hb4 hr4 hDR hH2
  go_wp2_with fail
  refine (iNumLine_any A4 _ c4 (newL (q : Int) N) _ (new_len N (by omega)) (new_I64 N (by omega)) (hH.out.hG.below hB4.out) (hR4.out.arr i64c_len)).mono ?_
  rintro e w6 ⟨rfl, hb6⟩
  have hB6 := hide (hB4.out.trans (hb6.mono hB4.out.size))
  clear hb6
  go_wp2
  go_ret2
  exact ⟨by rw [hM.out]; rfl, hB6.out⟩
end Go.Proofs.YtfpaejlipaainaaGreatDoor
