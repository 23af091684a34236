/- Contracts: the oldest bundles of a sort are taken. -/
import Derived.Test.YtpmldpegjnpoaaaHeapC
namespace Go.Proofs.Ytpmldpegjnpoaaa
open Go.ChangeShapes Go.WideShapes Go.ChangeAt Go.RowKit Go.Deep
set_option maxRecDepth 100000
/-! ### two rows side by side -/
def Far2 (a b : Value) : Prop := ∀ g, a.ownBlock = some g → b.ownBlock ≠ some g
theorem Far2.symm {a b : Value} (h : Far2 a b) : Far2 b a := fun g hb ha => h g ha hb
theorem Far2.ne {a b : Value} (h : Far2 a b) : a.ownBlock = none ∨ a.ownBlock ≠ b.ownBlock := by
  cases ha : a.ownBlock with
  | none => exact .inl rfl
  | some g => exact .inr (fun e => h g ha e.symm)
theorem Own.lt2 {α : Type} {cells : α → List Value} {e s : Nat} {w : World} {base : Nat} {v : Value} {n : Nat} {l : List α} (h : Own cells e s w base v n l) : ∀ g, v.ownBlock = some g → base ≤ g ∧ g < w.heap.size := h.2.lt
theorem Far2.moved {α : Type} {cells : α → List Value} {e s : Nat} {w : World} {base : Nat} {v v' u : Value} {n : Nat} {l : List α} {H : Nat} (hv : Far2 v v') (h : Own cells e s w base v' n l) (hat : u.ownBlock = v.ownBlock ∨ u.ownBlock = some H) (hH : w.heap.size ≤ H) : Far2 u v' := by
  intro g h1 h2
  rcases hat with e | e
  · rw [e] at h1; exact hv g h1 h2
  · rw [e] at h1
    injection h1 with h1
    have := (h.lt2 g h2).2
    omega
theorem Far2.new {α : Type} {cells : α → List Value} {e s : Nat} {w : World} {base : Nat} {v v' : Value} {n : Nat} {l : List α} {H : Nat} (h : Own cells e s w base v' n l) (hv : v.ownBlock = some H) (hH : w.heap.size ≤ H) : Far2 v v' := by
  intro g h1 h2
  rw [hv] at h1
  injection h1 with h1
  have := (h.lt2 g h2).2
  omega
/-- A block that was new is still there behind an append to another row. -/
theorem grown_new {W w2 : World} {O : Obj} {row : Option Nat} (hg : (W.alloc O).grownBy w2 row) (hne : row ≠ some W.heap.size) : w2.heap[W.heap.size]? = some O :=
  (hg.block W.heap.size (by simp) (fun e => hne e.symm)).trans (heap_alloc_new W O)
theorem Own.ne_new {α : Type} {cells : α → List Value} {e s : Nat} {w : World} {base : Nat} {v : Value} {n : Nat} {l : List α} (h : Own cells e s w base v n l) : v.ownBlock ≠ some w.heap.size := fun e => by have := (h.lt2 _ e).2; omega
/-! ### what is taken, and what is left -/
def bF (s : ByteArray) (x : Heap) : Int := if x.fSort = s then x.fBundles else 0
theorem bF_bound {l : List Heap} (h : heapsOk l = true) (s : ByteArray) : ∀ x ∈ l, 0 ≤ bF s x ∧ bF s x ≤ 1000 := by
  intro x hx
  have := heapsOk_at h hx
  unfold bF
  split <;> omega
def hSum (l : List Heap) (s : ByteArray) : Int := sumOf (bF s) l
def tkStep (s : ByteArray) (x : Heap) (t : List Heap × List Heap × Int) : List Heap × List Heap × Int :=
  if x.fSort = s then (if t.2.2 = 0 then (t.1 ++ [x], t.2.1, 0) else if x.fBundles ≤ t.2.2 then (t.1, t.2.1 ++ [x], t.2.2 - x.fBundles) else (t.1 ++ [⟨x.fSort, x.fYear, x.fBundles - t.2.2⟩], t.2.1 ++ [⟨x.fSort, x.fYear, t.2.2⟩], 0)) else (t.1 ++ [x], t.2.1, t.2.2)
def tkTo (l : List Heap) (s : ByteArray) (b : Int) : Nat → List Heap × List Heap × Int
  | 0 => ([], [], b)
  | k + 1 => match l[k]? with
    | some x => tkStep s x (tkTo l s b k)
    | none => tkTo l s b k
theorem tkTo_step {l : List Heap} {s : ByteArray} {b : Int} {k : Nat} {x : Heap} {L T : List Heap} {z : Int} (h : l[k]? = some x) (ht : tkTo l s b k = (L, T, z)) : tkTo l s b (k + 1) = tkStep s x (L, T, z) := by rw [tkTo, h, ← ht]
theorem tk_a {s : ByteArray} {x : Heap} {L T : List Heap} {z : Int} (h : ¬ x.fSort = s) : tkStep s x (L, T, z) = (L ++ [x], T, z) := if_neg h
theorem tk_b {s : ByteArray} {x : Heap} {L T : List Heap} (h : x.fSort = s) : tkStep s x (L, T, 0) = (L ++ [x], T, 0) := by unfold tkStep; rw [if_pos h]; rfl
theorem tk_c {s : ByteArray} {x : Heap} {L T : List Heap} {z : Int} (h : x.fSort = s) (h0 : 0 < z) (h1 : x.fBundles ≤ z) : tkStep s x (L, T, z) = (L, T ++ [x], z - x.fBundles) := by
  unfold tkStep; rw [if_pos h, if_neg (by show ¬ z = 0; omega), if_pos h1]
theorem tk_d {s : ByteArray} {x : Heap} {L T : List Heap} {z : Int} (h : x.fSort = s) (h0 : 0 < z) (h1 : z < x.fBundles) : tkStep s x (L, T, z) = (L ++ [⟨x.fSort, x.fYear, x.fBundles - z⟩], T ++ [⟨x.fSort, x.fYear, z⟩], 0) := by
  unfold tkStep; rw [if_pos h, if_neg (by show ¬ z = 0; omega), if_neg (by show ¬ x.fBundles ≤ z; omega)]
theorem tkTo_len (l : List Heap) (s : ByteArray) (b : Int) (k : Nat) : (tkTo l s b k).1.length ≤ k ∧ (tkTo l s b k).2.1.length ≤ k := by
  induction k with
  | zero => simp [tkTo]
  | succ k ih =>
    unfold tkTo
    split
    · unfold tkStep
      split
      · split
        · simp; omega
        · split <;> (simp; omega)
      · simp; omega
    · omega
def tkArgs (s : ByteArray) (b : Int) : Bool := isName s && inB b 1 20000
def mTkC (l : List Heap) (s : ByteArray) (b : Int) : Int := if heapsOk l then (if tkArgs s b then (if hSum l s = 0 then 3 else if hSum l s < b then 5 else 0) else 2) else 1
def mTkL (l : List Heap) (s : ByteArray) (b : Int) : List Heap := if mTkC l s b = 0 then (tkTo l s b l.length).1 else []
def mTkT (l : List Heap) (s : ByteArray) (b : Int) : List Heap := if mTkC l s b = 0 then (tkTo l s b l.length).2.1 else []
theorem mTk_none {l : List Heap} {s : ByteArray} {b : Int} {c : Int} (h : mTkC l s b = c) (hc : ¬ c = 0) : mTkL l s b = [] ∧ mTkT l s b = [] ∧ mTkC l s b = c := by
  refine ⟨?_, ?_, h⟩
  · unfold mTkL; rw [h, if_neg hc]
  · unfold mTkT; rw [h, if_neg hc]
theorem mTkL_len (l : List Heap) (s : ByteArray) (b : Int) {n : Nat} (h : l.length = n) (hn : n ≤ 1048576) : (mTkL l s b).length ≤ 1048576 := by
  unfold mTkL
  split
  · have := (tkTo_len l s b l.length).1; omega
  · simp
theorem mTkT_len (l : List Heap) (s : ByteArray) (b : Int) {n : Nat} (h : l.length = n) (hn : n ≤ 1048576) : (mTkT l s b).length ≤ 1048576 := by
  unfold mTkT
  split
  · have := (tkTo_len l s b l.length).2; omega
  · simp
theorem ret_sl {v v' : Value} {k : IntKind} {a b : Int} (h : a = b) : Ending.returned (.tuple #[v, v', .int k a]) = .returned (.tuple #[v, v', .int k b]) := by rw [h]
theorem apart_none {v v' : Value} : (0 < 0 → 0 < 0 → Apart v v') ∧ (0 < 0 → 0 < 0 → Apart v' v) := ⟨fun h => absurd h (by omega), fun h => absurd h (by omega)⟩
theorem ret2b {k : IntKind} {a a' : Int} {b b' : Bool} (h : a = a') (h' : b = b') : Ending.returned (.tuple #[.int k a, .bool b]) = .returned (.tuple #[.int k a', .bool b']) := by rw [h, h']
end Go.Proofs.Ytpmldpegjnpoaaa
