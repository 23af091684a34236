/- Three rows of numbers that one call builds side by side: no two of them share a block. -/
import Derived.Test.YtnfbeobdoieeiaaDoorSInts
import Derived.Maps.AppendAt
namespace Go.Proofs.YtnfbeobdoieeiaaDoor
open Go.ChangeShapes Go.WideShapes Go.ChangeAt Go.RowKit Go.Deep
set_option maxRecDepth 100000
/-- 'append(v, y)', with where the new slice lies. -/
theorem wpl_app2 {P : Program} {ops : Array Oper} {rest : List Oper} {o : Oper} {a : Act} {Q : Exit → Act → World → Prop} {α : Type} {cells : α → List Value} {e s bytes : Nat} {w : World} {base n : Nat} {v : Value} {l : List α}
    (hgd : o.guard = none) (so x : Operand) (t : TypeId) (ho : o.op = .call { callee := .builtin .append, args := #[so, x], argTypes := #[t, t] })
    (ht : P.underlying t = some (.slice e)) {z : Value} (hinfo : (P.info? e).map (fun i => (i.zero, i.size, i.bytes)) = some (some z, s, bytes)) (hzs : z.cells.size = s) (hsz : 0 < s) (hby : bytes ≤ 100)
    (hs : a.eval so = v) (hown : Own cells e s w base v n l) (y : α) (arr : Array Value) (harr : arr.toList = cells y) (hx : a.eval x = .slice (some ⟨w.heap.size, 0, none⟩) 1 1)
    (hlen : (cells y).length = s) (h1 : ∀ u ∈ cells y, u.oneCell' = true) (hn : n ≤ 1048576) (hbase : base ≤ w.heap.size)
    (h : ∀ v' w', Own cells e s w' base v' (n + 1) (l ++ [y]) → w.grownBy w' v.ownBlock → (v'.ownBlock = v.ownBlock ∨ v'.ownBlock = some (w.heap.size + 1)) → wpList P ops Q rest (a.put o.dst v') w') : wpList P ops Q (o :: rest) a (w.alloc (.cells arr e)) := by
  obtain ⟨i, hi, hz0, hz1, hz2⟩ := info_parts hinfo
  refine wpList_append_own_at _ hgd so x t ho base e i z s bytes ht hi hz0 hz1 hz2 hzs hsz v n (l.flatMap cells) hs (hown.2.alloc _) ⟨w.heap.size, 0, none⟩ 1 1 (cells y) hx (by rw [hlen, Nat.one_mul]) ?_ h1 (by unfold maxLen; omega) ?_ (by simp; omega) ?_
  · intro j u hu
    rw [Addr.add_lit, Nat.zero_add, cell_of_row _ _ _ _ _ _ (heap_alloc_new w _), ← harr] at *
    simpa using hu
  · have : (n + 1) * bytes ≤ 1048577 * 100 := Nat.mul_le_mul (by omega) hby
    omega
  · intro v' w' hown' hg _ hat
    refine h v' w' ⟨by simp [hown.1], by simpa using hown'⟩ ?_ (by simpa using hat)
    have h0 := World.grownBy_alloc w (.cells arr e) v.ownBlock
    exact ⟨hg.os.trans h0.os, hg.tape.trans h0.tape, hg.output.trans h0.output, Nat.le_trans h0.size hg.size, fun k hk hne => (hg.block k (Nat.lt_of_lt_of_le hk h0.size) hne).trans (h0.block k hk hne)⟩
def Far (a b : Value) : Prop := ∀ g, a.ownBlock = some g → b.ownBlock ≠ some g
theorem Far.symm {a b : Value} (h : Far a b) : Far b a := fun g hb ha => h g ha hb
theorem Far.ne {a b : Value} (h : Far a b) : a.ownBlock = none ∨ a.ownBlock ≠ b.ownBlock := by
  cases ha : a.ownBlock with
  | none => exact .inl rfl
  | some g => exact .inr (fun e => h g ha e.symm)
theorem Far.apart {a b : Value} (h : Far a b) : Apart a b := h.ne
theorem Own.lt' {α : Type} {cells : α → List Value} {e s : Nat} {w : World} {base : Nat} {v : Value} {n : Nat} {l : List α} (h : Own cells e s w base v n l) : ∀ g, v.ownBlock = some g → base ≤ g ∧ g < w.heap.size := h.2.lt
theorem Far.new {a : Value} {g : Nat} {α : Type} {cells : α → List Value} {e s : Nat} {w : World} {base : Nat} {v : Value} {n : Nat} {l : List α} (h : Own cells e s w base v n l) (hg : w.heap.size ≤ g) (ha : a.ownBlock = some g) : Far a v := by
  intro g' h1 h2
  rw [ha] at h1
  injection h1 with h1
  have := (h.lt' g' h2).2
  omega
theorem Far.moved {α : Type} {cells : α → List Value} {e s : Nat} {w : World} {base : Nat} {v v' u : Value} {n : Nat} {l : List α} {g : Nat} (hv : Far v v') (h : Own cells e s w base v' n l) (hat : u.ownBlock = v.ownBlock ∨ u.ownBlock = some g) (hg : w.heap.size ≤ g) : Far u v' := by
  rcases hat with hat | hat
  · intro g' h1 h2; rw [hat] at h1; exact hv g' h1 h2
  · exact Far.new h hg hat
structure Trio (e : TypeId) (w : World) (base : Nat) (v0 v1 v2 : Value) (a b c : List Int) : Prop where
  o0 : Own i64c e 1 w base v0 a.length a
  o1 : Own i64c e 1 w base v1 b.length b
  o2 : Own i64c e 1 w base v2 c.length c
  f01 : Far v0 v1
  f02 : Far v0 v2
  f12 : Far v1 v2
section
variable {e : TypeId} {w w' : World} {base : Nat} {v0 v1 v2 v : Value} {a b c : List Int}
theorem Trio.below (h : Trio e w base v0 v1 v2 a b c) (hb : Below w.heap.size w w') : Trio e w' base v0 v1 v2 a b c := ⟨h.o0.below hb, h.o1.below hb, h.o2.below hb, h.f01, h.f02, h.f12⟩
theorem Trio.alloc (h : Trio e w base v0 v1 v2 a b c) (o : Obj) : Trio e (w.alloc o) base v0 v1 v2 a b c := h.below ((Below.refl _ _).alloc (Nat.le_refl _) o)
theorem Trio.swap (h : Trio e w base v0 v1 v2 a b c) : Trio e w base v1 v0 v2 b a c := ⟨h.o1, h.o0, h.o2, h.f01.symm, h.f12, h.f02⟩
theorem Trio.turn (h : Trio e w base v0 v1 v2 a b c) : Trio e w base v2 v0 v1 c a b := ⟨h.o2, h.o0, h.o1, h.f02.symm, h.f12.symm, h.f01⟩
theorem Trio.app0 (h : Trio e w base v0 v1 v2 a b c) {y : Int} (ho : Own i64c e 1 w' base v (a.length + 1) (a ++ [y])) (hg : w.grownBy w' v0.ownBlock) {g : Nat} (hat : v.ownBlock = v0.ownBlock ∨ v.ownBlock = some g) (hge : w.heap.size ≤ g) :
    Trio e w' base v v1 v2 (a ++ [y]) b c :=
  ⟨by rw [List.length_append]; exact ho, h.o1.kept hg h.f01.symm.ne, h.o2.kept hg h.f02.symm.ne, h.f01.moved h.o1 hat hge, h.f02.moved h.o2 hat hge, h.f12⟩
theorem Trio.app1 (h : Trio e w base v0 v1 v2 a b c) {y : Int} (ho : Own i64c e 1 w' base v (b.length + 1) (b ++ [y])) (hg : w.grownBy w' v1.ownBlock) {g : Nat} (hat : v.ownBlock = v1.ownBlock ∨ v.ownBlock = some g) (hge : w.heap.size ≤ g) :
    Trio e w' base v0 v v2 a (b ++ [y]) c := (h.swap.app0 ho hg hat hge).swap
theorem Trio.set0 (h : Trio e w base v0 v1 v2 a b c) {g n cap : Nat} (hv : v0 = .slice (some ⟨g, 0, none⟩) n cap) {k : Nat} (hk : k < a.length) (y : Int) : Trio e (w.setCell ⟨g, k, none⟩ (.int .i64 y)) base v0 v1 v2 (a.set k y) b c := by
  subst hv
  have hn : n = a.length := by
    rcases h.o0.form with ⟨h1, _⟩ | ⟨_, _, h1, _⟩
    · exact nomatch h1
    · injection h1
  subst hn
  have hg : w.grownBy (w.setCell ⟨g, k, none⟩ (.int .i64 y)) (some g) := only_setCell (only_of_below (Below.refl _ _) _) rfl _
  exact ⟨by rw [List.length_set]; exact h.o0.int_store hk y, h.o1.kept hg h.f01.symm.ne, h.o2.kept hg h.f02.symm.ne, h.f01, h.f02, h.f12⟩
theorem Trio.set1 (h : Trio e w base v0 v1 v2 a b c) {g n cap : Nat} (hv : v1 = .slice (some ⟨g, 0, none⟩) n cap) {k : Nat} (hk : k < b.length) (y : Int) : Trio e (w.setCell ⟨g, k, none⟩ (.int .i64 y)) base v0 v1 v2 a (b.set k y) c := (h.swap.set0 hv hk y).swap
theorem Trio.set2 (h : Trio e w base v0 v1 v2 a b c) {g n cap : Nat} (hv : v2 = .slice (some ⟨g, 0, none⟩) n cap) {k : Nat} (hk : k < c.length) (y : Int) : Trio e (w.setCell ⟨g, k, none⟩ (.int .i64 y)) base v0 v1 v2 a b (c.set k y) := (h.turn.set0 hv hk y).turn.turn
theorem Own.at' {n : Nat} {l : List Int} (h : Own i64c e 1 w base v n l) {k : Nat} (hk : k < n) : ∃ g cap x, v = .slice (some ⟨g, 0, none⟩) n cap ∧ base ≤ g ∧ g < w.heap.size ∧ l[k]? = some x ∧ w.cell? ⟨g, k, none⟩ = some (.int .i64 x) ∧ w.frozen? ⟨g, k, none⟩ = false := by
  rcases h.form with ⟨_, hn, _⟩ | ⟨g, cap, rfl, hb, hg, _, _⟩
  · omega
  · obtain ⟨x, h1, h2, h3⟩ := h.int_at hk
    exact ⟨g, cap, x, rfl, hb, hg, h1, h2, h3⟩
/-- A store into a row that the call made is nothing to what was there before. -/
theorem below_setCell {B : Nat} {w0 : World} (hb : Below B w0 w) {g k : Nat} (hg : B ≤ g) (y : Value) : Below B w0 (w.setCell ⟨g, k, none⟩ y) :=
  ⟨hb.os, hb.tape, hb.output, by simpa [World.setCell] using hb.size, fun i hi => (Below.heap_setCell w ⟨g, k, none⟩ y i (by intro e; have e2 : i = g := e; omega)).trans (hb.block i hi)⟩
end
end Go.Proofs.YtnfbeobdoieeiaaDoor
