/- Appending a whole slice to a row that the call owns, and what slices.Clone gives back, whatever the elements are. No statement is proved here. -/
import Derived.Test.YtpnbnhhifgcklaaDoorKit
import Derived.Maps.AppendAt
namespace Go.Proofs.YtpnbnhhifgcklaaDoor
open Go.ChangeShapes Go.WideShapes Go.ChangeAt Go.RowKit Go.Deep
set_option maxRecDepth 100000
section
variable {α : Type} {cells : α → List Value} {s : Nat}
/-- The cells of a slice that reads as a list, one after the other. -/
theorem Arr.flat {w : World} {B b o n : Nat} {l : List α} (hs : ∀ x, (cells x).length = s) (h0 : 0 < s) (h : Arr cells s w B (some ⟨b, o, none⟩) n l) (hn : 0 < n) :
    ∀ j u, (l.flatMap cells)[j]? = some u → w.cell? ((⟨b, o, none⟩ : Addr).add j) = some u := by
  intro j u hu
  obtain ⟨b', o', hA, _, hc⟩ := h.2 hn
  injection hA with hA
  injection hA with h1 h2
  subst h1 h2
  have hj : j / s * s + j % s = j := Nat.div_add_mod' j s
  have hu2 := hu
  rw [← hj, flat_get hs l (j / s) (j % s) (Nat.mod_lt _ h0)] at hu2
  cases hx : l[j / s]? with
  | none => rw [hx] at hu2; cases hu2
  | some x =>
    rw [hx] at hu2
    have := hc _ x hx _ u hu2
    rw [Addr.add_lit, ← hj, ← Nat.add_assoc]
    exact this
theorem run_app_arr {P : Program} {w : World} {base n m c B e bytes : Nat} {t ty : TypeId} {v : Value} {A : Option Addr} {l xs : List α}
    (ht : P.underlying t = some (.slice e)) {z : Value} (hinfo : (P.info? e).map (fun i => (i.zero, i.size, i.bytes)) = some (some z, s, bytes)) (hzs : z.cells.size = s) (hsz : 0 < s) (hby : bytes ≤ 100)
    (hs : ∀ x, (cells x).length = s) (h1 : ∀ x, ∀ u ∈ cells x, u.oneCell' = true)
    (hown : Own cells e s w base v n l) (hr : Arr cells s w B A m xs) (hn : n + m ≤ 4194304) (hbase : base ≤ w.heap.size) :
    ∃ v' w', (Builtin.append_ #[t, t] ty #[v, .slice A m c]).run P w = .ok v' w' ∧ Own cells e s w' base v' (n + m) (l ++ xs) ∧ w.grownBy w' v.ownBlock ∧ (v'.ownBlock = v.ownBlock ∨ v'.ownBlock = some w.heap.size) := by
  obtain ⟨i, hi, hz0, hz1, hz2⟩ := info_parts hinfo
  have hone : ∀ u ∈ xs.flatMap cells, u.oneCell' = true := by
    intro u hu
    obtain ⟨x, _, hx⟩ := List.mem_flatMap.1 hu
    exact h1 x u hx
  have hlen : (xs.flatMap cells).length = m * s := by rw [flat_len hs, hr.1]
  have hbb : (n + m) * bytes ≤ 140737488355328 := by
    have : (n + m) * bytes ≤ 4194304 * 100 := Nat.mul_le_mul hn hby
    omega
  have close : ∀ {v' : Value} {w' : World}, w'.ownsRow base e s v' (n + m) (l.flatMap cells ++ xs.flatMap cells) → Own cells e s w' base v' (n + m) (l ++ xs) := fun h =>
    ⟨by rw [List.length_append, hown.1, hr.1], by rw [List.flatMap_append]; exact h⟩
  cases A with
  | none =>
    have hm : m = 0 := by
      rcases Nat.eq_zero_or_pos m with h | h
      · exact h
      · obtain ⟨b, o, hA, _⟩ := hr.2 h
        cases hA
    subst hm
    obtain rfl : xs = [] := List.eq_nil_of_length_eq_zero hr.1
    refine ⟨v, w, ?_, by simpa using hown, World.grownBy.refl w _, .inl rfl⟩
    rcases hown.2.2 with ⟨rfl, rfl⟩ | ⟨g, cap, cur, rfl, _, _, hnc, _⟩
    · simp [Builtin.append_, run_underlying ht, sizeOf, typeInfo, hi, Builtin.lenOf, Builtin.firstCells]
    · simp [Builtin.append_, run_underlying ht, sizeOf, typeInfo, hi, Builtin.lenOf, Builtin.firstCells, hnc, storeCells]
  | some ad =>
    have hcell : ∀ j u, (xs.flatMap cells)[j]? = some u → w.cell? (ad.add j) = some u := by
      rcases Nat.eq_zero_or_pos m with h | h
      · subst h
        obtain rfl : xs = [] := List.eq_nil_of_length_eq_zero hr.1
        intro j u hu
        simp at hu
      · obtain ⟨b, o, hA, hb⟩ := hr.2 h
        injection hA with hA
        subst hA
        exact Arr.flat hs hsz hr h
    obtain ⟨v', w', hrun, h2, h3, _, h5⟩ := run_append_own_at (P := P) w base t ty e i z s bytes ht hi hz0 hz1 hz2 hzs hsz v n (l.flatMap cells) hown.2 ad m c (xs.flatMap cells) hlen hcell hone (by unfold maxLen; omega) hbb hbase
    exact ⟨v', w', hrun, close h2, h3, h5⟩
/-- 'append(v, xs...)' at a plain place. -/
theorem wpl_appN {P : Program} {ops : Array Oper} {rest : List Oper} {o : Oper} {a : Act} {Q : Exit → Act → World → Prop} {w : World} {base n m c B e bytes : Nat} {t : TypeId} {v : Value} {A : Option Addr} {l xs : List α}
    (hgd : o.guard = none) (so x : Operand) (ho : o.op = .call { callee := .builtin .append, args := #[so, x], argTypes := #[t, t] })
    (ht : P.underlying t = some (.slice e)) {z : Value} (hinfo : (P.info? e).map (fun i => (i.zero, i.size, i.bytes)) = some (some z, s, bytes)) (hzs : z.cells.size = s) (hsz : 0 < s) (hby : bytes ≤ 100)
    (hs : ∀ x, (cells x).length = s) (h1 : ∀ x, ∀ u ∈ cells x, u.oneCell' = true)
    (hso : a.eval so = v) (hown : Own cells e s w base v n l) (hx : a.eval x = .slice A m c) (hr : Arr cells s w B A m xs) (hn : n + m ≤ 4194304) (hbase : base ≤ w.heap.size)
    (h : ∀ v' w', Own cells e s w' base v' (n + m) (l ++ xs) → w.grownBy w' v.ownBlock → (v'.ownBlock = v.ownBlock ∨ v'.ownBlock = some w.heap.size) → wpList P ops Q rest (a.put o.dst v') w') : wpList P ops Q (o :: rest) a w := by
  refine wpList_plain hgd fun K hK => ?_
  obtain ⟨v', w', hrun, h2, h3, h4⟩ := run_app_arr (P := P) (c := c) (ty := o.type) ht hinfo hzs hsz hby hs h1 hown hr hn hbase
  unfold Oper.wp execOp
  simp only [ho, resolve, invoke, builtin, Sem.run_bind, Sem.run_pure, Result.andThen_ok, List.map_toArray, List.map_cons, List.map_nil, hso, hx, hrun]
  exact hK _ _ (h v' w' h2 h3 h4)
/-- The element that has just been laid into a block of its own. -/
theorem Arr.one_new {w : World} {e : Nat} {y : α} {arr : Array Value} (harr : arr.toList = cells y) : Arr cells s (w.alloc (.cells arr e)) (w.heap.size + 1) (some ⟨w.heap.size, 0, none⟩) 1 [y] := by
  refine ⟨rfl, fun _ => ⟨_, _, rfl, by omega, fun i x hx j u hu => ?_⟩⟩
  have hi : i = 0 := by have := lt_of_get hx; simp at this; exact this
  subst hi
  obtain rfl : y = x := by simpa using hx
  simp only [Nat.zero_mul, Nat.zero_add]
  rw [cell_of_row _ _ _ _ _ _ (heap_alloc_new w _)]
  rw [← harr] at hu
  simpa using hu
theorem wp_app1 {P : Program} {o : Oper} {a : Act} {K : Act → World → Prop} {Q : Exit → Act → World → Prop} {w : World} {base n e bytes : Nat} {t : TypeId} {v : Value} {l : List α}
    (so x : Operand) (ho : o.op = .call { callee := .builtin .append, args := #[so, x], argTypes := #[t, t] })
    (ht : P.underlying t = some (.slice e)) {z : Value} (hinfo : (P.info? e).map (fun i => (i.zero, i.size, i.bytes)) = some (some z, s, bytes)) (hzs : z.cells.size = s) (hsz : 0 < s) (hby : bytes ≤ 100)
    (hs : ∀ x, (cells x).length = s) (h1 : ∀ x, ∀ u ∈ cells x, u.oneCell' = true)
    (hso : a.eval so = v) (hown : Own cells e s w base v n l) (y : α) (arr : Array Value) (harr : arr.toList = cells y) (hx : a.eval x = .slice (some ⟨w.heap.size, 0, none⟩) 1 1) (hn : n ≤ 1048576) (hbase : base ≤ w.heap.size)
    (h : ∀ v' w', Own cells e s w' base v' (n + 1) (l ++ [y]) → w.grownBy w' v.ownBlock → (v'.ownBlock = v.ownBlock ∨ v'.ownBlock = some (w.heap.size + 1)) → K (a.put o.dst v') w') : o.wp P a (w.alloc (.cells arr e)) K Q := by
  have hown2 : Own cells e s (w.alloc (.cells arr e)) base v n l := ⟨hown.1, hown.2.alloc _⟩
  obtain ⟨v', w', hrun, h2, h3, h4⟩ := run_app_arr (P := P) (c := 1) (ty := o.type) ht hinfo hzs hsz hby hs h1 hown2 (Arr.one_new (s := s) harr) (by omega) (by simp; omega)
  unfold Oper.wp execOp
  simp only [ho, resolve, invoke, builtin, Sem.run_bind, Sem.run_pure, Result.andThen_ok, List.map_toArray, List.map_cons, List.map_nil, hso, hx, hrun]
  refine h v' w' h2 ?_ (by simpa using h4)
  have h0 := World.grownBy_alloc w (.cells arr e) v.ownBlock
  exact ⟨h3.os.trans h0.os, h3.tape.trans h0.tape, h3.output.trans h0.output, Nat.le_trans h0.size h3.size, fun k hk hne => (h3.block k (Nat.lt_of_lt_of_le hk h0.size) hne).trans (h0.block k hk hne)⟩
/-- 'append(v, y)' at a plain place, the heap's size under a name of its own. -/
theorem wpl_app1H {P : Program} {ops : Array Oper} {rest : List Oper} {o : Oper} {a : Act} {Q : Exit → Act → World → Prop} {w : World} {base n e bytes : Nat} {t : TypeId} {v : Value} {l : List α} (H : Nat) (hH : w.heap.size = H)
    (hgd : o.guard = none) (so x : Operand) (ho : o.op = .call { callee := .builtin .append, args := #[so, x], argTypes := #[t, t] })
    (ht : P.underlying t = some (.slice e)) {z : Value} (hinfo : (P.info? e).map (fun i => (i.zero, i.size, i.bytes)) = some (some z, s, bytes)) (hzs : z.cells.size = s) (hsz : 0 < s) (hby : bytes ≤ 100)
    (hs : ∀ x, (cells x).length = s) (h1 : ∀ x, ∀ u ∈ cells x, u.oneCell' = true)
    (hso : a.eval so = v) (hown : Own cells e s w base v n l) (y : α) (arr : Array Value) (harr : arr.toList = cells y) (hx : a.eval x = .slice (some ⟨H, 0, none⟩) 1 1) (hn : n ≤ 1048576) (hbase : base ≤ w.heap.size)
    (h : ∀ v' w', Own cells e s w' base v' (n + 1) (l ++ [y]) → w.grownBy w' v.ownBlock → (v'.ownBlock = v.ownBlock ∨ v'.ownBlock = some (w.heap.size + 1)) → wpList P ops Q rest (a.put o.dst v') w') : wpList P ops Q (o :: rest) a (w.alloc (.cells arr e)) := by
  subst hH
  exact wpList_plain hgd fun K hK => wp_app1 so x ho ht hinfo hzs hsz hby hs h1 hso hown y arr harr hx hn hbase fun v' w' h1 h2 h3 => hK _ _ (h v' w' h1 h2 h3)
/-- 'append(v, y)' at a step of a place that draws its order. -/
theorem step_app1 {P : Program} {ops : Array Oper} {o : Oper} {a : Act} {K : Act → World → Prop} {Q : Exit → Act → World → Prop} {E : Prop} {w : World} {base n e bytes : Nat} {t : TypeId} {v : Value} {l : List α}
    (hgd : o.guard = none) (so x : Operand) (ho : o.op = .call { callee := .builtin .append, args := #[so, x], argTypes := #[t, t] })
    (ht : P.underlying t = some (.slice e)) {z : Value} (hinfo : (P.info? e).map (fun i => (i.zero, i.size, i.bytes)) = some (some z, s, bytes)) (hzs : z.cells.size = s) (hsz : 0 < s) (hby : bytes ≤ 100)
    (hs : ∀ x, (cells x).length = s) (h1 : ∀ x, ∀ u ∈ cells x, u.oneCell' = true)
    (hso : a.eval so = v) (hown : Own cells e s w base v n l) (y : α) (arr : Array Value) (harr : arr.toList = cells y) (hx : a.eval x = .slice (some ⟨w.heap.size, 0, none⟩) 1 1) (hn : n ≤ 1048576) (hbase : base ≤ w.heap.size)
    (h : ∀ v' w', Own cells e s w' base v' (n + 1) (l ++ [y]) → w.grownBy w' v.ownBlock → (v'.ownBlock = v.ownBlock ∨ v'.ownBlock = some (w.heap.size + 1)) → K (a.put o.dst v') w') :
    if Region.wanted o (yielded ops a.tmps) = true then Oper.wp P o a (w.alloc (.cells arr e)) K Q else E := by
  have hw : Region.wanted o (yielded ops a.tmps) = true := by simp [Region.wanted, hgd]
  rw [if_pos hw]
  exact wp_app1 so x ho ht hinfo hzs hsz hby hs h1 hso hown y arr harr hx hn hbase h
/-- 'append(v, xs...)' at a step of a place that draws its order. -/
theorem step_appN {P : Program} {ops : Array Oper} {o : Oper} {a : Act} {K : Act → World → Prop} {Q : Exit → Act → World → Prop} {E : Prop} {w : World} {base n m c B e bytes : Nat} {t : TypeId} {v : Value} {A : Option Addr} {l xs : List α}
    (hgd : o.guard = none) (so x : Operand) (ho : o.op = .call { callee := .builtin .append, args := #[so, x], argTypes := #[t, t] })
    (ht : P.underlying t = some (.slice e)) {z : Value} (hinfo : (P.info? e).map (fun i => (i.zero, i.size, i.bytes)) = some (some z, s, bytes)) (hzs : z.cells.size = s) (hsz : 0 < s) (hby : bytes ≤ 100)
    (hs : ∀ x, (cells x).length = s) (h1 : ∀ x, ∀ u ∈ cells x, u.oneCell' = true)
    (hso : a.eval so = v) (hown : Own cells e s w base v n l) (hx : a.eval x = .slice A m c) (hr : Arr cells s w B A m xs) (hn : n + m ≤ 4194304) (hbase : base ≤ w.heap.size)
    (h : ∀ v' w', Own cells e s w' base v' (n + m) (l ++ xs) → w.grownBy w' v.ownBlock → (v'.ownBlock = v.ownBlock ∨ v'.ownBlock = some w.heap.size) → K (a.put o.dst v') w') :
    if Region.wanted o (yielded ops a.tmps) = true then Oper.wp P o a w K Q else E := by
  have hw : Region.wanted o (yielded ops a.tmps) = true := by simp [Region.wanted, hgd]
  rw [if_pos hw]
  obtain ⟨v', w', hrun, h2, h3, h4⟩ := run_app_arr (P := P) (c := c) (ty := o.type) ht hinfo hzs hsz hby hs h1 hown hr hn hbase
  unfold Oper.wp execOp
  simp only [ho, resolve, invoke, builtin, Sem.run_bind, Sem.run_pure, Result.andThen_ok, List.map_toArray, List.map_cons, List.map_nil, hso, hx, hrun]
  exact h v' w' h2 h3 h4
/-- Behind slices.Clone: nil for nil, else a row of its own. -/
theorem grown_below {e base : Nat} {w w' : World} {v : Value} {n : Nat} {l : List α} (hb : Below base w w') (h : Own cells e s w' base v n l) {w2 : World} (hg : w'.grownBy w2 v.ownBlock) (hB : base ≤ w'.heap.size) : Below base w w2 :=
  hb.grown hg hB (fun k hk => (h.2.lt k hk).1)
end
/-- Cutting a slice: 's[k:]' and 's[:k]'. -/
def cutA (A : Option Addr) (cap k s : Nat) : Option Addr := if cap = k then A else A.map (·.add (k * s))
theorem run_cut {P : Program} {t e s bytes : Nat} (ht : P.underlying t = some (.slice e)) {z : Value} (hinfo : (P.info? e).map (fun i => (i.zero, i.size, i.bytes)) = some (some z, s, bytes)) (A : Option Addr) (n cap k : Nat) (hk : k ≤ n) (W : World) :
    (Instr.slice t (.slice A n cap) (some (.int .i64 (k : Int))) none none).run P W = .ok (.slice (cutA A cap k s) (n - k) (cap - k)) W := by
  obtain ⟨i, hi, _, hs, _⟩ := info_parts hinfo
  have he : P.elem t = e := by simp [Program.elem, ht]
  rw [run_slice_l W t A n cap (by rw [he]; exact ht) .i64 k (by omega) (by omega), he]
  simp [sizeOf, typeInfo, hi, Result.andThen, sliced, cutA, hs]
theorem run_head {P : Program} {t e s bytes : Nat} (ht : P.underlying t = some (.slice e)) {z : Value} (hinfo : (P.info? e).map (fun i => (i.zero, i.size, i.bytes)) = some (some z, s, bytes)) (b o n cap k : Nat) (hk : k ≤ cap) (W : World) :
    (Instr.slice t (.slice (some ⟨b, o, none⟩) n cap) none (some (.int .i64 (k : Int))) none).run P W = .ok (.slice (some ⟨b, o, none⟩) k cap) W := by
  obtain ⟨i, hi, _, hs, _⟩ := info_parts hinfo
  have he : P.elem t = e := by simp [Program.elem, ht]
  rw [run_slice_h W t _ n cap (by rw [he]; exact ht) .i64 k (by omega) (by omega), he]
  simp [sizeOf, typeInfo, hi, Result.andThen, sliced]
  intro _
  rw [Addr.add_lit, Nat.add_zero]
theorem Arr.cut {α : Type} {cells : α → List Value} {s : Nat} {w : World} {B : Nat} {A : Option Addr} {n k cap : Nat} {l : List α} (h : Arr cells s w B A n l) (hk : k ≤ n) (hc : n ≤ cap) : Arr cells s w B (cutA A cap k s) (n - k) (l.drop k) := by
  refine ⟨by rw [List.length_drop, h.1], fun hn => ?_⟩
  obtain ⟨b, o, rfl, hb, hcell⟩ := h.2 (by omega)
  refine ⟨b, o + k * s, by unfold cutA; rw [if_neg (by omega), Option.map_some, Addr.add_lit], hb, fun i x hx j u hu => ?_⟩
  rw [List.getElem?_drop] at hx
  have := hcell (k + i) x hx j u hu
  rwa [Nat.add_mul, ← Nat.add_assoc] at this
theorem Arr.head {α : Type} {cells : α → List Value} {s : Nat} {w : World} {B : Nat} {A : Option Addr} {n k : Nat} {l : List α} (h : Arr cells s w B A n l) (hk : k ≤ n) : Arr cells s w B A k (l.take k) := by
  refine ⟨by rw [List.length_take, h.1]; omega, fun hn => ?_⟩
  obtain ⟨b, o, rfl, hb, hcell⟩ := h.2 (by omega)
  refine ⟨b, o, rfl, hb, fun i x hx j u hu => ?_⟩
  rcases Nat.lt_or_ge i k with hi | hi
  · rw [List.getElem?_take, if_pos hi] at hx
    exact hcell i x hx j u hu
  · rw [List.getElem?_take, if_neg (by omega)] at hx
    cases hx
theorem Own.formS {α : Type} {cells : α → List Value} {e s : Nat} {w : World} {base n : Nat} {v : Value} {l : List α} (h : Own cells e s w base v n l) (hs : v.ownBlock.isSome = true) : ∃ g cap, v = .slice (some ⟨g, 0, none⟩) n cap ∧ base ≤ g ∧ g < w.heap.size ∧ n ≤ cap ∧ cap ≤ maxLen := by
  rcases h.form with ⟨rfl, _⟩ | h
  · simp [Value.ownBlock] at hs
  · exact h
theorem some_of_at {v v' : Value} {H : Nat} (hat : v'.ownBlock = v.ownBlock ∨ v'.ownBlock = some H) (h : v.ownBlock.isSome = true) : v'.ownBlock.isSome = true := by
  rcases hat with e | e <;> rw [e]
  · exact h
  · rfl
/-- A cell that was there before the call reads alike in any two of its worlds. -/
theorem keep_cell {B : Nat} {w wr w2 : World} {p : Addr} {u : Value} (hp : p.block < B) (hB : Below B w wr) (hB2 : Below B w w2) (d : wr.cell? p = some u) : w2.cell? p = some u :=
  (hB2.cell hp).trans ((hB.cell hp).symm.trans d)
theorem strc_one : ∀ x, ∀ u ∈ strc x, u.oneCell' = true := by intro x u hu; simp [strc] at hu; subst hu; rfl
theorem i64c_one : ∀ x, ∀ u ∈ i64c x, u.oneCell' = true := by intro x u hu; simp [i64c] at hu; subst hu; rfl
end Go.Proofs.YtpnbnhhifgcklaaDoor
