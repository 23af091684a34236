/- Texts that belong together, joined: contracts and plain laws. No statement is proved here. -/
import Derived.Test.YtfpaejlipaainaaGreatDoorM01
import Derived.Test.YtfpaejlipaainaaGreatDoorM02
import Derived.Maps.AppendAt
import Derived.Lib.OwnBridge
import Derived.Sort.OwnSorted
namespace Go.Proofs.YtfpaejlipaainaaGreatDoor
open Go.ChangeShapes Go.WideShapes Go.ChangeAt Go.RowKit Go.Deep
def plTo (l : List Int) (k : Nat) : List Int := (List.range (min k (l.length - 1))).map fun i => sumOf id (l.take (i + 1))
def placesL (l : List Int) : List Int := plTo l l.length
theorem plTo_len (l : List Int) (k : Nat) : (plTo l k).length = min k (l.length - 1) := by simp [plTo]
theorem placesL_len (l : List Int) : (placesL l).length = l.length - 1 := by unfold placesL; rw [plTo_len]; omega
theorem plTo_yes {l : List Int} {k : Nat} (h : k + 1 < l.length) : plTo l (k + 1) = plTo l k ++ [sumOf id (l.take (k + 1))] := by
  unfold plTo
  rw [show min (k + 1) (l.length - 1) = k + 1 by omega, show min k (l.length - 1) = k by omega, List.range_succ, List.map_append]; rfl
theorem plTo_no {l : List Int} {k : Nat} (h : l.length ≤ k + 1) : plTo l (k + 1) = plTo l k := by
  unfold plTo
  rw [show min (k + 1) (l.length - 1) = l.length - 1 by omega, show min k (l.length - 1) = l.length - 1 by omega]
def abvTo (S b : Int) (P : List Int) (k j : Nat) : Bool := (List.range j).any fun i => decide (((P.getD k 0 - P.getD i 0 - S).natAbs : Int) ≤ b)
def abvL (S b : Int) (P : List Int) (k : Nat) : Bool := abvTo S b P k k
theorem abvTo_succ (S b : Int) (P : List Int) (k j : Nat) : abvTo S b P k (j + 1) = (abvTo S b P k j || decide (((P.getD k 0 - P.getD j 0 - S).natAbs : Int) ≤ b)) := by
  unfold abvTo; rw [List.range_succ, List.any_append]; simp
theorem abvTo_more {S b : Int} {P : List Int} {k j j' : Nat} (h : abvTo S b P k j = true) (hj : j ≤ j') : abvTo S b P k j' = true := by
  unfold abvTo at h ⊢
  rw [List.any_eq_true] at h ⊢
  obtain ⟨x, hx, hp⟩ := h
  exact ⟨x, List.mem_range.2 (by have := List.mem_range.1 hx; omega), hp⟩
def abvN (S b : Int) (P : List Int) (m : Nat) : Nat := ((List.range m).filter (abvL S b P)).length
theorem abvN_yes {S b : Int} {P : List Int} {m : Nat} (h : abvL S b P m = true) : abvN S b P (m + 1) = abvN S b P m + 1 := by
  unfold abvN; rw [List.range_succ, List.filter_append, List.length_append]; simp [h]
theorem abvN_no {S b : Int} {P : List Int} {m : Nat} (h : abvL S b P m = false) : abvN S b P (m + 1) = abvN S b P m := by
  unfold abvN; rw [List.range_succ, List.filter_append, List.length_append]; simp [h]
theorem abvN_le (S b : Int) (P : List Int) (m : Nat) : abvN S b P m ≤ m := by
  unfold abvN
  have := List.length_filter_le (abvL S b P) (List.range m)
  rwa [List.length_range] at this
def mAbv (S b : Int) (l : List Int) : Nat := abvN S b (placesL l) (placesL l).length
def laidOf (rods o : List Int) : List Int := o.map fun k => rods.getD k.toNat 0
theorem laidOf_snoc {rods o : List Int} {k : Nat} {x : Int} (h : rods[k]? = some x) : laidOf rods (o ++ [(k : Int)]) = laidOf rods o ++ [x] := by
  unfold laidOf; rw [List.map_append]; simp [List.getD_eq_getElem?_getD, h]
def plc (S b : Int) (rods : List Int) : Nat → List Int → List Int × Int → List Int × Int
  | 0, _, st => st
  | n + 1, o, st =>
    if 0 ≤ st.2 ∧ st.2 ≤ (mAbv S b (laidOf rods o) : Int) then st
    else if o.length = rods.length then (o, (mAbv S b (laidOf rods o) : Int))
    else (List.range rods.length).foldl (fun st (k : Nat) => if (k : Int) ∈ o then st else plc S b rods n (o ++ [(k : Int)]) st) st
def plcTo (S b : Int) (rods : List Int) (n : Nat) (o : List Int) (st : List Int × Int) (k : Nat) : List Int × Int :=
  (List.range k).foldl (fun st (k : Nat) => if (k : Int) ∈ o then st else plc S b rods n (o ++ [(k : Int)]) st) st
theorem plcTo_yes {S b : Int} {rods : List Int} {n : Nat} {o : List Int} {st : List Int × Int} {k : Nat} (h : (k : Int) ∈ o) : plcTo S b rods n o st (k + 1) = plcTo S b rods n o st k := by
  unfold plcTo; rw [List.range_succ, List.foldl_append]; simp [h]
theorem plcTo_no {S b : Int} {rods : List Int} {n : Nat} {o : List Int} {st : List Int × Int} {k : Nat} (h : ¬ (k : Int) ∈ o) : plcTo S b rods n o st (k + 1) = plc S b rods n (o ++ [(k : Int)]) (plcTo S b rods n o st k) := by
  unfold plcTo; rw [List.range_succ, List.foldl_append]; simp [h]
def mOrd (S b : Int) (rods : List Int) : List Int × Int := plc S b rods (rods.length + 1) [] ([], -1)
end Go.Proofs.YtfpaejlipaainaaGreatDoor
namespace Go.Proofs.YtfpaejlipaainaaGreatDoor
open Go.ChangeShapes Go.WideShapes Go.ChangeAt Go.RowKit Go.Deep
set_option maxRecDepth 100000
section
variable {α : Type} {cells : α → List Value} {s : Nat}
theorem Arr.flat {w : World} {B b o n : Nat} {l : List α} (hs : ∀ x, (cells x).length = s) (h0 : 0 < s) (h : Arr cells s w B (some ⟨b, o, none⟩) n l) (hn : 0 < n) :
    ∀ j u, (l.flatMap cells)[j]? = some u → w.cell? ((⟨b, o, none⟩ : Addr).add j) = some u := by
  intro j u hu
  obtain ⟨b', o', hA, _, hc⟩ := h.2 hn
  injection hA with hA
  injection hA with h1 h2
  subst h1 h2
  have hj : j / s * s + j % s = j := Nat.div_add_mod' j s
  have hu2 := hu
  rw [← hj, flat_get hs l (j / s) (j % s) (Nat.mod_lt _ h0)] at hu2
  cases hx : l[j / s]? with
  | none => rw [hx] at hu2; cases hu2
  | some x =>
    rw [hx] at hu2
    have := hc _ x hx _ u hu2
    rw [Addr.add_lit, ← hj, ← Nat.add_assoc]
    exact this
theorem run_app_arr {P : Program} {w : World} {base n m c B e bytes : Nat} {t ty : TypeId} {v : Value} {A : Option Addr} {l xs : List α}
    (ht : P.underlying t = some (.slice e)) {z : Value} (hinfo : (P.info? e).map (fun i => (i.zero, i.size, i.bytes)) = some (some z, s, bytes)) (hzs : z.cells.size = s) (hsz : 0 < s) (hby : bytes ≤ 100)
    (hs : ∀ x, (cells x).length = s) (h1 : ∀ x, ∀ u ∈ cells x, u.oneCell' = true)
    (hown : Own cells e s w base v n l) (hr : Arr cells s w B A m xs) (hn : n + m ≤ 4194304) (hbase : base ≤ w.heap.size) :
    ∃ v' w', (Builtin.append_ #[t, t] ty #[v, .slice A m c]).run P w = .ok v' w' ∧ Own cells e s w' base v' (n + m) (l ++ xs) ∧ w.grownBy w' v.ownBlock ∧ (v'.ownBlock = v.ownBlock ∨ v'.ownBlock = some w.heap.size) := by
  obtain ⟨i, hi, hz0, hz1, hz2⟩ := info_parts hinfo
  have hone : ∀ u ∈ xs.flatMap cells, u.oneCell' = true := by
    intro u hu
    obtain ⟨x, _, hx⟩ := List.mem_flatMap.1 hu
    exact h1 x u hx
  have hlen : (xs.flatMap cells).length = m * s := by rw [flat_len hs, hr.1]
  have hbb : (n + m) * bytes ≤ 140737488355328 := by
    have : (n + m) * bytes ≤ 4194304 * 100 := Nat.mul_le_mul hn hby
    omega
  have close : ∀ {v' : Value} {w' : World}, w'.ownsRow base e s v' (n + m) (l.flatMap cells ++ xs.flatMap cells) → Own cells e s w' base v' (n + m) (l ++ xs) := fun h =>
    ⟨by rw [List.length_append, hown.1, hr.1], by rw [List.flatMap_append]; exact h⟩
  cases A with
  | none =>
    have hm : m = 0 := by
      rcases Nat.eq_zero_or_pos m with h | h
      · exact h
      · obtain ⟨b, o, hA, _⟩ := hr.2 h
        cases hA
    subst hm
    obtain rfl : xs = [] := List.eq_nil_of_length_eq_zero hr.1
    refine ⟨v, w, ?_, by simpa using hown, World.grownBy.refl w _, .inl rfl⟩
    rcases hown.2.2 with ⟨rfl, rfl⟩ | ⟨g, cap, cur, rfl, _, _, hnc, _⟩
    · simp [Builtin.append_, run_underlying ht, sizeOf, typeInfo, hi, Builtin.lenOf, Builtin.firstCells]
    · simp [Builtin.append_, run_underlying ht, sizeOf, typeInfo, hi, Builtin.lenOf, Builtin.firstCells, hnc, storeCells]
  | some ad =>
    have hcell : ∀ j u, (xs.flatMap cells)[j]? = some u → w.cell? (ad.add j) = some u := by
      rcases Nat.eq_zero_or_pos m with h | h
      · subst h
        obtain rfl : xs = [] := List.eq_nil_of_length_eq_zero hr.1
        intro j u hu
        simp at hu
      · obtain ⟨b, o, hA, hb⟩ := hr.2 h
        injection hA with hA
        subst hA
        exact Arr.flat hs hsz hr h
    obtain ⟨v', w', hrun, h2, h3, _, h5⟩ := run_append_own_at (P := P) w base t ty e i z s bytes ht hi hz0 hz1 hz2 hzs hsz v n (l.flatMap cells) hown.2 ad m c (xs.flatMap cells) hlen hcell hone (by unfold maxLen; omega) hbb hbase
    exact ⟨v', w', hrun, close h2, h3, h5⟩
theorem wpl_appN {P : Program} {ops : Array Oper} {rest : List Oper} {o : Oper} {a : Act} {Q : Exit → Act → World → Prop} {w : World} {base n m c B e bytes : Nat} {t : TypeId} {v : Value} {A : Option Addr} {l xs : List α}
    (hgd : o.guard = none) (so x : Operand) (ho : o.op = .call { callee := .builtin .append, args := #[so, x], argTypes := #[t, t] })
    (ht : P.underlying t = some (.slice e)) {z : Value} (hinfo : (P.info? e).map (fun i => (i.zero, i.size, i.bytes)) = some (some z, s, bytes)) (hzs : z.cells.size = s) (hsz : 0 < s) (hby : bytes ≤ 100)
    (hs : ∀ x, (cells x).length = s) (h1 : ∀ x, ∀ u ∈ cells x, u.oneCell' = true)
    (hso : a.eval so = v) (hown : Own cells e s w base v n l) (hx : a.eval x = .slice A m c) (hr : Arr cells s w B A m xs) (hn : n + m ≤ 4194304) (hbase : base ≤ w.heap.size)
    (h : ∀ v' w', Own cells e s w' base v' (n + m) (l ++ xs) → w.grownBy w' v.ownBlock → (v'.ownBlock = v.ownBlock ∨ v'.ownBlock = some w.heap.size) → wpList P ops Q rest (a.put o.dst v') w') : wpList P ops Q (o :: rest) a w := by
  refine wpList_plain hgd fun K hK => ?_
  obtain ⟨v', w', hrun, h2, h3, h4⟩ := run_app_arr (P := P) (c := c) (ty := o.type) ht hinfo hzs hsz hby hs h1 hown hr hn hbase
  unfold Oper.wp execOp
  simp only [ho, resolve, invoke, builtin, Sem.run_bind, Sem.run_pure, Result.andThen_ok, List.map_toArray, List.map_cons, List.map_nil, hso, hx, hrun]
  exact hK _ _ (h v' w' h2 h3 h4)
theorem Arr.one_new {w : World} {e : Nat} {y : α} {arr : Array Value} (harr : arr.toList = cells y) : Arr cells s (w.alloc (.cells arr e)) (w.heap.size + 1) (some ⟨w.heap.size, 0, none⟩) 1 [y] := by
  refine ⟨rfl, fun _ => ⟨_, _, rfl, by omega, fun i x hx j u hu => ?_⟩⟩
  have hi : i = 0 := by have := lt_of_get hx; simp at this; exact this
  subst hi
  obtain rfl : y = x := by simpa using hx
  simp only [Nat.zero_mul, Nat.zero_add]
  rw [cell_of_row _ _ _ _ _ _ (heap_alloc_new w _)]
  rw [← harr] at hu
  simpa using hu
theorem wp_app1 {P : Program} {o : Oper} {a : Act} {K : Act → World → Prop} {Q : Exit → Act → World → Prop} {w : World} {base n e bytes : Nat} {t : TypeId} {v : Value} {l : List α}
    (so x : Operand) (ho : o.op = .call { callee := .builtin .append, args := #[so, x], argTypes := #[t, t] })
    (ht : P.underlying t = some (.slice e)) {z : Value} (hinfo : (P.info? e).map (fun i => (i.zero, i.size, i.bytes)) = some (some z, s, bytes)) (hzs : z.cells.size = s) (hsz : 0 < s) (hby : bytes ≤ 100)
    (hs : ∀ x, (cells x).length = s) (h1 : ∀ x, ∀ u ∈ cells x, u.oneCell' = true)
    (hso : a.eval so = v) (hown : Own cells e s w base v n l) (y : α) (arr : Array Value) (harr : arr.toList = cells y) (hx : a.eval x = .slice (some ⟨w.heap.size, 0, none⟩) 1 1) (hn : n ≤ 1048576) (hbase : base ≤ w.heap.size)
    (h : ∀ v' w', Own cells e s w' base v' (n + 1) (l ++ [y]) → w.grownBy w' v.ownBlock → (v'.ownBlock = v.ownBlock ∨ v'.ownBlock = some (w.heap.size + 1)) → K (a.put o.dst v') w') : o.wp P a (w.alloc (.cells arr e)) K Q := by
  have hown2 : Own cells e s (w.alloc (.cells arr e)) base v n l := ⟨hown.1, hown.2.alloc _⟩
  obtain ⟨v', w', hrun, h2, h3, h4⟩ := run_app_arr (P := P) (c := 1) (ty := o.type) ht hinfo hzs hsz hby hs h1 hown2 (Arr.one_new (s := s) harr) (by omega) (by simp; omega)
  unfold Oper.wp execOp
  simp only [ho, resolve, invoke, builtin, Sem.run_bind, Sem.run_pure, Result.andThen_ok, List.map_toArray, List.map_cons, List.map_nil, hso, hx, hrun]
  refine h v' w' h2 ?_ (by simpa using h4)
  have h0 := World.grownBy_alloc w (.cells arr e) v.ownBlock
  exact ⟨h3.os.trans h0.os, h3.tape.trans h0.tape, h3.output.trans h0.output, Nat.le_trans h0.size h3.size, fun k hk hne => (h3.block k (Nat.lt_of_lt_of_le hk h0.size) hne).trans (h0.block k hk hne)⟩
theorem wpl_app1H {P : Program} {ops : Array Oper} {rest : List Oper} {o : Oper} {a : Act} {Q : Exit → Act → World → Prop} {w : World} {base n e bytes : Nat} {t : TypeId} {v : Value} {l : List α} (H : Nat) (hH : w.heap.size = H)
    (hgd : o.guard = none) (so x : Operand) (ho : o.op = .call { callee := .builtin .append, args := #[so, x], argTypes := #[t, t] })
    (ht : P.underlying t = some (.slice e)) {z : Value} (hinfo : (P.info? e).map (fun i => (i.zero, i.size, i.bytes)) = some (some z, s, bytes)) (hzs : z.cells.size = s) (hsz : 0 < s) (hby : bytes ≤ 100)
    (hs : ∀ x, (cells x).length = s) (h1 : ∀ x, ∀ u ∈ cells x, u.oneCell' = true)
    (hso : a.eval so = v) (hown : Own cells e s w base v n l) (y : α) (arr : Array Value) (harr : arr.toList = cells y) (hx : a.eval x = .slice (some ⟨H, 0, none⟩) 1 1) (hn : n ≤ 1048576) (hbase : base ≤ w.heap.size)
    (h : ∀ v' w', Own cells e s w' base v' (n + 1) (l ++ [y]) → w.grownBy w' v.ownBlock → (v'.ownBlock = v.ownBlock ∨ v'.ownBlock = some (w.heap.size + 1)) → wpList P ops Q rest (a.put o.dst v') w') : wpList P ops Q (o :: rest) a (w.alloc (.cells arr e)) := by
  subst hH
  exact wpList_plain hgd fun K hK => wp_app1 so x ho ht hinfo hzs hsz hby hs h1 hso hown y arr harr hx hn hbase fun v' w' h1 h2 h3 => hK _ _ (h v' w' h1 h2 h3)
theorem step_app1 {P : Program} {ops : Array Oper} {o : Oper} {a : Act} {K : Act → World → Prop} {Q : Exit → Act → World → Prop} {E : Prop} {w : World} {base n e bytes : Nat} {t : TypeId} {v : Value} {l : List α}
    (hgd : o.guard = none) (so x : Operand) (ho : o.op = .call { callee := .builtin .append, args := #[so, x], argTypes := #[t, t] })
    (ht : P.underlying t = some (.slice e)) {z : Value} (hinfo : (P.info? e).map (fun i => (i.zero, i.size, i.bytes)) = some (some z, s, bytes)) (hzs : z.cells.size = s) (hsz : 0 < s) (hby : bytes ≤ 100)
    (hs : ∀ x, (cells x).length = s) (h1 : ∀ x, ∀ u ∈ cells x, u.oneCell' = true)
    (hso : a.eval so = v) (hown : Own cells e s w base v n l) (y : α) (arr : Array Value) (harr : arr.toList = cells y) (hx : a.eval x = .slice (some ⟨w.heap.size, 0, none⟩) 1 1) (hn : n ≤ 1048576) (hbase : base ≤ w.heap.size)
    (h : ∀ v' w', Own cells e s w' base v' (n + 1) (l ++ [y]) → w.grownBy w' v.ownBlock → (v'.ownBlock = v.ownBlock ∨ v'.ownBlock = some (w.heap.size + 1)) → K (a.put o.dst v') w') :
    if Region.wanted o (yielded ops a.tmps) = true then Oper.wp P o a (w.alloc (.cells arr e)) K Q else E := by
  have hw : Region.wanted o (yielded ops a.tmps) = true := by simp [Region.wanted, hgd]
  rw [if_pos hw]
  exact wp_app1 so x ho ht hinfo hzs hsz hby hs h1 hso hown y arr harr hx hn hbase h
theorem step_appN {P : Program} {ops : Array Oper} {o : Oper} {a : Act} {K : Act → World → Prop} {Q : Exit → Act → World → Prop} {E : Prop} {w : World} {base n m c B e bytes : Nat} {t : TypeId} {v : Value} {A : Option Addr} {l xs : List α}
    (hgd : o.guard = none) (so x : Operand) (ho : o.op = .call { callee := .builtin .append, args := #[so, x], argTypes := #[t, t] })
    (ht : P.underlying t = some (.slice e)) {z : Value} (hinfo : (P.info? e).map (fun i => (i.zero, i.size, i.bytes)) = some (some z, s, bytes)) (hzs : z.cells.size = s) (hsz : 0 < s) (hby : bytes ≤ 100)
    (hs : ∀ x, (cells x).length = s) (h1 : ∀ x, ∀ u ∈ cells x, u.oneCell' = true)
    (hso : a.eval so = v) (hown : Own cells e s w base v n l) (hx : a.eval x = .slice A m c) (hr : Arr cells s w B A m xs) (hn : n + m ≤ 4194304) (hbase : base ≤ w.heap.size)
    (h : ∀ v' w', Own cells e s w' base v' (n + m) (l ++ xs) → w.grownBy w' v.ownBlock → (v'.ownBlock = v.ownBlock ∨ v'.ownBlock = some w.heap.size) → K (a.put o.dst v') w') :
    if Region.wanted o (yielded ops a.tmps) = true then Oper.wp P o a w K Q else E := by
  have hw : Region.wanted o (yielded ops a.tmps) = true := by simp [Region.wanted, hgd]
  rw [if_pos hw]
  obtain ⟨v', w', hrun, h2, h3, h4⟩ := run_app_arr (P := P) (c := c) (ty := o.type) ht hinfo hzs hsz hby hs h1 hown hr hn hbase
  unfold Oper.wp execOp
  simp only [ho, resolve, invoke, builtin, Sem.run_bind, Sem.run_pure, Result.andThen_ok, List.map_toArray, List.map_cons, List.map_nil, hso, hx, hrun]
  exact h v' w' h2 h3 h4
theorem grown_below {e base : Nat} {w w' : World} {v : Value} {n : Nat} {l : List α} (hb : Below base w w') (h : Own cells e s w' base v n l) {w2 : World} (hg : w'.grownBy w2 v.ownBlock) (hB : base ≤ w'.heap.size) : Below base w w2 :=
  hb.grown hg hB (fun k hk => (h.2.lt k hk).1)
end
def cutA (A : Option Addr) (cap k s : Nat) : Option Addr := if cap = k then A else A.map (·.add (k * s))
theorem run_cut {P : Program} {t e s bytes : Nat} (ht : P.underlying t = some (.slice e)) {z : Value} (hinfo : (P.info? e).map (fun i => (i.zero, i.size, i.bytes)) = some (some z, s, bytes)) (A : Option Addr) (n cap k : Nat) (hk : k ≤ n) (W : World) :
    (Instr.slice t (.slice A n cap) (some (.int .i64 (k : Int))) none none).run P W = .ok (.slice (cutA A cap k s) (n - k) (cap - k)) W := by
  obtain ⟨i, hi, _, hs, _⟩ := info_parts hinfo
  have he : P.elem t = e := by simp [Program.elem, ht]
  rw [run_slice_l W t A n cap (by rw [he]; exact ht) .i64 k (by omega) (by omega), he]
  simp [sizeOf, typeInfo, hi, Result.andThen, sliced, cutA, hs]
theorem run_head {P : Program} {t e s bytes : Nat} (ht : P.underlying t = some (.slice e)) {z : Value} (hinfo : (P.info? e).map (fun i => (i.zero, i.size, i.bytes)) = some (some z, s, bytes)) (b o n cap k : Nat) (hk : k ≤ cap) (W : World) :
    (Instr.slice t (.slice (some ⟨b, o, none⟩) n cap) none (some (.int .i64 (k : Int))) none).run P W = .ok (.slice (some ⟨b, o, none⟩) k cap) W := by
  obtain ⟨i, hi, _, hs, _⟩ := info_parts hinfo
  have he : P.elem t = e := by simp [Program.elem, ht]
  rw [run_slice_h W t _ n cap (by rw [he]; exact ht) .i64 k (by omega) (by omega), he]
  simp [sizeOf, typeInfo, hi, Result.andThen, sliced]
  intro _
  rw [Addr.add_lit, Nat.add_zero]
theorem Arr.cut {α : Type} {cells : α → List Value} {s : Nat} {w : World} {B : Nat} {A : Option Addr} {n k cap : Nat} {l : List α} (h : Arr cells s w B A n l) (hk : k ≤ n) (hc : n ≤ cap) : Arr cells s w B (cutA A cap k s) (n - k) (l.drop k) := by
  refine ⟨by rw [List.length_drop, h.1], fun hn => ?_⟩
  obtain ⟨b, o, rfl, hb, hcell⟩ := h.2 (by omega)
  refine ⟨b, o + k * s, by unfold cutA; rw [if_neg (by omega), Option.map_some, Addr.add_lit], hb, fun i x hx j u hu => ?_⟩
  rw [List.getElem?_drop] at hx
  have := hcell (k + i) x hx j u hu
  rwa [Nat.add_mul, ← Nat.add_assoc] at this
theorem Own.formS {α : Type} {cells : α → List Value} {e s : Nat} {w : World} {base n : Nat} {v : Value} {l : List α} (h : Own cells e s w base v n l) (hs : v.ownBlock.isSome = true) : ∃ g cap, v = .slice (some ⟨g, 0, none⟩) n cap ∧ base ≤ g ∧ g < w.heap.size ∧ n ≤ cap ∧ cap ≤ maxLen := by
  rcases h.form with ⟨rfl, _⟩ | h
  · simp [Value.ownBlock] at hs
  · exact h
theorem some_of_at {v v' : Value} {H : Nat} (hat : v'.ownBlock = v.ownBlock ∨ v'.ownBlock = some H) (h : v.ownBlock.isSome = true) : v'.ownBlock.isSome = true := by
  rcases hat with e | e <;> rw [e]
  · exact h
  · rfl
theorem strc_one : ∀ x, ∀ u ∈ strc x, u.oneCell' = true := by intro x u hu; simp [strc] at hu; subst hu; rfl
theorem i64c_one : ∀ x, ∀ u ∈ i64c x, u.oneCell' = true := by intro x u hu; simp [i64c] at hu; subst hu; rfl
end Go.Proofs.YtfpaejlipaainaaGreatDoor
namespace Go.Proofs.YtfpaejlipaainaaGreatDoor
open Go.ChangeShapes Go.WideShapes Go.ChangeAt Go.RowKit Go.Deep
theorem Own.int_at {e : TypeId} {w : World} {base g n c : Nat} {l : List Int} (h : Own i64c e 1 w base (.slice (some ⟨g, 0, none⟩) n c) n l) {k : Nat} (hk : k < n) :
    ∃ x, l[k]? = some x ∧ w.cell? ⟨g, k, none⟩ = some (.int .i64 x) ∧ w.frozen? ⟨g, k, none⟩ = false := by
  obtain ⟨b, o, x, hA, _, hx, c0⟩ := (h.arr i64c_len).int hk
  injection hA with hA; injection hA with h1 h2; subst h1 h2
  simp only [Nat.zero_add] at c0
  exact ⟨x, hx, c0, h.2.frozenAt _⟩
theorem Own.int_store {e : TypeId} {w : World} {base g n c : Nat} {l : List Int} (h : Own i64c e 1 w base (.slice (some ⟨g, 0, none⟩) n c) n l) {k : Nat} (hk : k < n) (y : Int) :
    Own i64c e 1 (w.setCell ⟨g, k, none⟩ (.int .i64 y)) base (.slice (some ⟨g, 0, none⟩) n c) n (l.set k y) := by
  have hkl : k < l.length := by rw [h.len]; exact hk
  have := h.cell (x := l[k]) (x' := y) (k := k) (j := 0) (u := .int .i64 y) i64c_len (List.getElem?_eq_getElem hkl) (by omega) rfl
  simpa using this
end Go.Proofs.YtfpaejlipaainaaGreatDoor
namespace Go.Proofs.YtfpaejlipaainaaGreatDoor
open Go.ChangeShapes Go.WideShapes Go.ChangeAt Go.RowKit Go.Deep
set_option maxRecDepth 100000
def allIn (l : List Int) (lo hi : Int) : Bool := l.all fun x => inB x lo hi
theorem iEach_any (A : Option Addr) (n c : Nat) (l : List Int) (m lo hi : Int) (w : World) (hn : n ≤ 1048576) (hr : Arr i64c 1 w w.heap.size A n l) :
    Calls Tryz.prog 272 #[.slice A n c, .int .i64 m, .int .i64 lo, .int .i64 hi] w fun e w' => e = .returned (.bool (allIn l lo hi && ((n : Int) == m))) ∧ Below w.heap.size w w' := by
  have hl := hide hr.len
  go_enter Tryz.func272, Tryz.ntmps272
  go_wp2
  go_loopw [13] (fun i wr => ∃ k : Nat, k ≤ n ∧ i = .int .i64 k ∧ Below w.heap.size w wr ∧ Hid ((l.take k).all (fun x => inB x lo hi) = true)) (fun i _ => n - (intOf i).toNat)
  case atStart => exact ⟨0, Nat.zero_le _, rfl, Below.refl _ _, hide (by simp)⟩
  case round =>
    obtain ⟨k, hk, rfl, hb, hall⟩ := hrel
    by_cases hlt : k < n
    · obtain ⟨b, o, x, rfl, hbl, hx, c0⟩ := hr.int hlt
      have d0 : wr.cell? ⟨b, o + k, none⟩ = some (.int .i64 x) := (hb.cell (p := ⟨b, o + k, none⟩) hbl).trans c0
      have hX := hide hx
      clear hx c0
      have hB := hide hb
      clear hr hb
      cases h1 : inB x lo hi
      · have hd : Hid ((allIn l lo hi && ((n : Int) == m)) = false) := hide (by unfold allIn; rw [all_not hX.out h1]; rfl)
        go_wp2_with (go_at_call 113; refine (within_any _ _ _ _).mono ?_; rintro e w' ⟨rfl, rfl⟩)
        go_ret
        exact ⟨retB hd.out.symm, hB.out⟩
      · go_wp2_with (go_at_call 113; refine (within_any _ _ _ _).mono ?_; rintro e w' ⟨rfl, rfl⟩)
        go_roundw
        case rel => exact ⟨k + 1, by omega, by go_num, hB.out, hide (by rw [take_snoc hX.out, List.all_append, hall.out]; simp [h1])⟩
        case measure => simp [intOf]; omega
    · have hkn : k = n := by omega
      subst hkn
      have hB := hide hb
      clear hb
      have hd : Hid (allIn l lo hi = true) := hide (by have e := hall.out; rw [List.take_of_length_le (by rw [hl.out]; exact Nat.le_refl _)] at e; exact e)
      go_wp2
      go_ret
      exact ⟨retB (by rw [hd.out, Bool.true_and]), hB.out⟩
theorem iDist_any (a b : Int) (w : World) (ha : -1000000 ≤ a ∧ a ≤ 1000000) (hb : -1000000 ≤ b ∧ b ≤ 1000000) :
    Calls Tryz.prog 291 #[.int .i64 a, .int .i64 b] w fun e w' => e = .returned (.int .i64 ((a - b).natAbs : Int)) ∧ w = w' := by
  obtain ⟨d, hd⟩ : ∃ d, d = a - b := ⟨_, rfl⟩
  obtain ⟨d', hd'⟩ : ∃ d, d = b - a := ⟨_, rfl⟩
  have w1 : IntKind.i64.wrap (a - b) = d := by rw [← hd]; exact IntWalk.i64_in _ (by omega)
  have w2 : IntKind.i64.wrap (b - a) = d' := by rw [← hd']; exact IntWalk.i64_in _ (by omega)
  obtain ⟨m, hm⟩ : ∃ m, m = ((a - b).natAbs : Int) := ⟨_, rfl⟩
  have hmx : max d d' = m := by omega
  have hmh := hide hm
  clear hm hd hd'
  go_enter Tryz.func291, Tryz.ntmps291
  go_wp2
  go_ret
  exact ⟨ret1 hmh.out, rfl⟩
theorem info_i64j : (Tryz.prog.info? 2).map (fun i => (i.zero, i.size, i.bytes)) = some (some (.int .i64 0), 1, 8) := by kernel_rfl
def RB7 (l : List Int) : Prop := l.length ≤ 7 ∧ ∀ x ∈ l, 1 ≤ x ∧ x ≤ 200
theorem sum_RB {l : List Int} (h : RB7 l) (k : Nat) : 0 ≤ sumOf id (l.take k) ∧ sumOf id (l.take k) ≤ 1400 :=
  sumOf_take_bound (M := 200) (N := 7) (f := id) (fun x hx => by have := h.2 x hx; exact ⟨by show 0 ≤ x; omega, this.2⟩) h.1 (by omega) k
theorem iPlaces_any (A : Option Addr) (n c : Nat) (l : List Int) (w : World) (hl : RB7 l) (hr : Arr i64c 1 w w.heap.size A n l) :
    Calls Tryz.prog 273 #[.slice A n c] w fun e w' => ∃ v, e = .returned v ∧ Own i64c 2 1 w' w.heap.size v (placesL l).length (placesL l) ∧ Below w.heap.size w w' := by
  have hlen := hide hr.len
  have hn : n ≤ 7 := by rw [← hr.len]; exact hl.1
  have hbh := hide (sum_RB hl)
  clear hl
  go_enter Tryz.func273, Tryz.ntmps273
  go_wp2
  go_loopw [3, 4, 10] (fun v p i wr => ∃ (k : Nat) (z : Int), k ≤ n ∧ i = .int .i64 k ∧ p = .int .i64 z ∧ Below w.heap.size w wr ∧ Own i64c 2 1 wr w.heap.size v (plTo l k).length (plTo l k) ∧ Hid (z = sumOf id (l.take k))) (fun _ _ i _ => n - (intOf i).toNat)
  case atStart =>
    have h0 : plTo l 0 = [] := by simp [plTo]
    exact ⟨0, 0, Nat.zero_le _, rfl, rfl, (Below.refl w.heap.size w).alloc (Nat.le_refl _) _, by rw [h0]; exact Own.none_made _ (Nat.le_refl _), hide rfl⟩
  case round =>
    obtain ⟨k, z, hk, rfl, rfl, hb, ho, hz⟩ := hrel
    have hO := hide ho
    by_cases hlt : k < n
    · obtain ⟨b, o, x, rfl, hbl, hx, c0⟩ := hr.int hlt
      have d0 : wr.cell? ⟨b, o + k, none⟩ = some (.int .i64 x) := (hb.cell (p := ⟨b, o + k, none⟩) hbl).trans c0
      have hX := hide hx
      clear hx c0
      have hB := hide hb
      have hnx : Hid (z + x = sumOf id (l.take (k + 1))) := hide (by rw [sumOf_snoc hX.out, ← hz.out]; rfl)
      have hzb : 0 ≤ z + x ∧ z + x ≤ 1400 := by rw [hnx.out]; exact hbh.out (k + 1)
      have hw1 : IntKind.i64.wrap ((n : Int) - 1) = (n : Int) - 1 := IntWalk.i64_in _ (by omega)
      have hpl := plTo_len l k
      have hll : (plTo l k).length ≤ 7 := by omega
      clear hr hb ho hpl
      by_cases hlast : k + 1 < n
      · have hu := hide (plTo_yes (l := l) (k := k) (by rw [hlen.out]; exact hlast))
        have hc1 : (k : Int) < (n : Int) - 1 := by omega
        have hc2 : decide ((k : Int) < (n : Int) - 1) = true := decide_eq_true hc1
        go_wp2_with (at_builtin; refine wpl_app1H wr.heap.size rfl rfl (.tmp 23) (.tmp 25) rfl Tryz.underlying60 info_i64j rfl (by omega) (by omega) i64c_len i64c_one rfl hO.out (z + x) _ rfl rfl (by omega) hB.out.size ?_; intro v5 w5 ho5 hg5 _; have hB5 := hide (grown_below hB.out hO.out hg5 hB.out.size); have hO5 := hide ho5; clear ho5 hg5)
        go_roundw
        case rel => exact ⟨k + 1, z + x, by omega, by go_num, rfl, hB5.out, by rw [hu.out, List.length_append, ← hnx.out]; exact hO5.out, hnx⟩
        case measure => simp [intOf]; omega
      · have hu := hide (plTo_no (l := l) (k := k) (by rw [hlen.out]; omega))
        have hc1 : ¬ (k : Int) < (n : Int) - 1 := by omega
        have hc2 : decide ((k : Int) < (n : Int) - 1) = false := decide_eq_false hc1
        go_wp2
        go_roundw
        case rel => exact ⟨k + 1, z + x, by omega, by go_num, rfl, hB.out, by rw [hu.out]; exact hO.out, hnx⟩
        case measure => simp [intOf]; omega
    · have hkn : k = n := by omega
      have hB := hide hb
      have hfin : Hid (plTo l k = placesL l) := hide (by unfold placesL; rw [hlen.out, hkn])
      subst hkn
      clear hb ho
      go_wp2
      go_ret
      exact ⟨_, rfl, by rw [← hfin.out]; exact hO.out, hB.out⟩
def PB7 (P : List Int) : Prop := P.length ≤ 7 ∧ ∀ x ∈ P, 0 ≤ x ∧ x ≤ 1400
theorem places_PB {l : List Int} (h : RB7 l) : PB7 (placesL l) := by
  refine ⟨by rw [placesL_len]; have := h.1; omega, fun x hx => ?_⟩
  unfold placesL plTo at hx
  obtain ⟨i, _, rfl⟩ := List.mem_map.1 hx
  exact sum_RB h (i + 1)
theorem getD_of {P : List Int} {k : Nat} {x : Int} (h : P[k]? = some x) : P.getD k 0 = x := by rw [List.getD_eq_getElem?_getD, h]; rfl
theorem iAbove_any (S b : Int) (A : Option Addr) (n c : Nat) (P : List Int) (k : Nat) (w : World) (hS : 3 ≤ S ∧ S ≤ 60) (hP : PB7 P) (hk : k < n) (hnc : n ≤ c) (hr : Arr i64c 1 w w.heap.size A n P) :
    Calls Tryz.prog 274 #[.int .i64 S, .slice A n c, .int .i64 (k : Int), .int .i64 b] w fun e w' => e = .returned (.bool (abvL S b P k)) ∧ Below w.heap.size w w' := by
  have hlen := hide hr.len
  have hn : n ≤ 7 := by rw [← hr.len]; exact hP.1
  have hPh := hide hP
  obtain ⟨g, o, x0, rfl, hbl0, hx0, c0⟩ := hr.int hk
  have hcut := run_head (P := Tryz.prog) Tryz.underlying60 info_i64j g o n c k (by omega)
  have hX0 := hide hx0
  have hkb := hPh.out.2 x0 (List.mem_of_getElem? hx0)
  clear hP hx0
  go_enter Tryz.func274, Tryz.ntmps274
  go_wp2
  go_loopw [15] (fun i wr => ∃ j : Nat, j ≤ k ∧ i = .int .i64 j ∧ Below w.heap.size w wr ∧ Hid (abvTo S b P k j = false)) (fun i _ => k - (intOf i).toNat)
  case atStart => exact ⟨0, Nat.zero_le _, rfl, Below.refl _ _, hide rfl⟩
  case round =>
    obtain ⟨j, hj, rfl, hb, hno⟩ := hrel
    by_cases hlt : j < k
    · obtain ⟨g', o', y, hA, hbl1, hy, c1⟩ := hr.int (show j < n by omega)
      cases hA
      have d0 : wr.cell? ⟨g, o + k, none⟩ = some (.int .i64 x0) := (hb.cell (p := ⟨g, o + k, none⟩) hbl0).trans c0
      have d1 : wr.cell? ⟨g, o + j, none⟩ = some (.int .i64 y) := (hb.cell (p := ⟨g, o + j, none⟩) hbl0).trans c1
      have hY := hide hy
      have hyb := hPh.out.2 y (List.mem_of_getElem? hy)
      have hB := hide hb
      have hstep : Hid (abvTo S b P k (j + 1) = decide (((x0 - y - S).natAbs : Int) ≤ b)) := hide (by rw [abvTo_succ, hno.out, Bool.false_or, getD_of hX0.out, getD_of hY.out])
      obtain ⟨d, hd⟩ : ∃ d, d = x0 - y := ⟨_, rfl⟩
      have w1 : IntKind.i64.wrap (x0 - y) = d := by rw [← hd]; exact IntWalk.i64_in _ (by omega)
      rw [← hd] at hstep
      have hdb : -1400 ≤ d ∧ d ≤ 1400 := by omega
      have hk0 : (0 : Int) ≤ (k : Int) := by omega
      have hkn : (k : Int) < (n : Int) := by omega
      clear hr hb hy c0 c1 hd hcut
      by_cases hc : ((d - S).natAbs : Int) ≤ b
      · have hfin : Hid (abvL S b P k = true) := hide (abvTo_more (j := j + 1) (by rw [hstep.out, decide_eq_true hc]) (by omega))
        have hc2 : decide (((d - S).natAbs : Int) ≤ b) = true := decide_eq_true hc
        go_wp2_with fail
        refine (iDist_any d S _ (by omega) (by omega)).mono ?_
        rintro e w1 ⟨rfl, rfl⟩
        obtain ⟨q, hq⟩ : ∃ q, q = ((d - S).natAbs : Int) := ⟨_, rfl⟩
        rw [← hq] at hc hc2 ⊢
        clear hq
        go_wp2
        go_ret
        exact ⟨retB hfin.out.symm, hB.out⟩
      · have hnx : Hid (abvTo S b P k (j + 1) = false) := hide (by rw [hstep.out, decide_eq_false hc])
        have hc2 : decide (((d - S).natAbs : Int) ≤ b) = false := decide_eq_false hc
        go_wp2_with fail
        refine (iDist_any d S _ (by omega) (by omega)).mono ?_
        rintro e w1 ⟨rfl, rfl⟩
        obtain ⟨q, hq⟩ : ∃ q, q = ((d - S).natAbs : Int) := ⟨_, rfl⟩
        rw [← hq] at hc hc2 ⊢
        clear hq
        go_wp2
        go_roundw
        case rel => exact ⟨j + 1, by omega, by go_num, hB.out, hnx⟩
        case measure => simp [intOf]; omega
    · have hjk : j = k := by omega
      have hfin : Hid (abvL S b P k = false) := hide (by have h := hno.out; rw [hjk] at h; exact h)
      have hB := hide hb
      subst hjk
      clear hb
      go_wp2
      go_ret
      exact ⟨retB hfin.out.symm, hB.out⟩
theorem iAboves_any (S b : Int) (A : Option Addr) (n c : Nat) (l : List Int) (w : World) (hS : 3 ≤ S ∧ S ≤ 60) (hl : RB7 l) (hr : Arr i64c 1 w w.heap.size A n l) :
    Calls Tryz.prog 241 #[.int .i64 S, .slice A n c, .int .i64 b] w fun e w' => e = .returned (.int .i64 (mAbv S b l : Int)) ∧ Below w.heap.size w w' := by
  have hPB := hide (places_PB hl)
  obtain ⟨P, hP⟩ : ∃ P, P = placesL l := ⟨_, rfl⟩
  have hfin : Hid (mAbv S b l = abvN S b P P.length) := hide (by rw [hP]; rfl)
  rw [← hP] at hPB
  have hp7 := hPB.out.1
  go_enter Tryz.func241, Tryz.ntmps241
  go_wp2_with fail
  refine (iPlaces_any A n c l _ hl hr).mono ?_
  rw [← hP]
  rintro e w1 ⟨v, rfl, ho, hb⟩
  obtain ⟨A1, c1, rfl, hc1⟩ := ho.slice
  have hO := hide (ho.arr i64c_len)
  have hB := hide hb
  clear hb ho hP hr hl
  go_wp2
  go_loopw [7, 14] (fun q i wr => ∃ (k z : Nat), k ≤ P.length ∧ i = .int .i64 k ∧ q = .int .i64 (z : Int) ∧ Below w1.heap.size w1 wr ∧ Hid (z = abvN S b P k)) (fun _ i _ => P.length - (intOf i).toNat)
  case atStart => exact ⟨0, 0, Nat.zero_le _, rfl, rfl, Below.refl _ _, hide rfl⟩
  case round =>
    obtain ⟨k, z, hk, rfl, rfl, hb, hz⟩ := hrel
    have hB2 := hide hb
    clear hb
    have hzb : z ≤ k := by rw [hz.out]; exact abvN_le S b P k
    by_cases hlt : k < P.length
    · cases ha : abvL S b P k
      · have hnx : Hid (z = abvN S b P (k + 1)) := hide (by rw [abvN_no ha]; exact hz.out)
        go_wp2_with fail
        refine (iAbove_any S b A1 P.length c1 P k _ hS hPB.out hlt hc1 (hO.out.go hB2.out)).mono ?_
        rw [ha]
        rintro e w2 ⟨rfl, hb⟩
        replace hB2 := hide (Below.up hB2.out hb)
        clear hb
        go_wp2
        go_roundw
        case rel => exact ⟨k + 1, z, by omega, by go_num, rfl, hB2.out, hnx⟩
        case measure => simp [intOf]; omega
      · have hnx : Hid (z + 1 = abvN S b P (k + 1)) := hide (by rw [abvN_yes ha, ← hz.out])
        go_wp2_with fail
        refine (iAbove_any S b A1 P.length c1 P k _ hS hPB.out hlt hc1 (hO.out.go hB2.out)).mono ?_
        rw [ha]
        rintro e w2 ⟨rfl, hb⟩
        replace hB2 := hide (Below.up hB2.out hb)
        clear hb
        go_wp2
        go_roundw
        case rel => exact ⟨k + 1, z + 1, by omega, by go_num, by go_num, hB2.out, hnx⟩
        case measure => simp [intOf]; omega
    · have hkn : k = P.length := by omega
      have hf2 : Hid (z = mAbv S b l) := hide (by rw [hfin.out, ← hkn]; exact hz.out)
      clear hkn
      go_wp2
      go_ret
      exact ⟨by rw [hf2.out]; rfl, (Below.up hB.out hB2.out)⟩
def rodsOk (l : List Int) : Bool := decide (l.length ≤ 7) && allIn l 1 200
theorem rods_RB {l : List Int} (h : rodsOk l = true) : RB7 l := by
  unfold rodsOk at h
  rw [Bool.and_eq_true] at h
  refine ⟨of_decide_eq_true h.1, fun x hx => ?_⟩
  have := List.all_eq_true.1 h.2 x hx
  exact inB_true.1 this
theorem iLaid_any (S : Int) (A : Option Addr) (n c : Nat) (l : List Int) (w : World) (hn : n ≤ 1048576) (hS : inB S 3 60 = true) (hr : Arr i64c 1 w w.heap.size A n l) :
    Calls Tryz.prog 239 #[.int .i64 S, .slice A n c] w fun e w' => e = .returned (.bool (rodsOk l)) ∧ Below w.heap.size w w' := by
  have hlen := hr.len
  by_cases h7 : n ≤ 7
  · have hm : Hid (rodsOk l = allIn l 1 200) := hide (by unfold rodsOk; rw [decide_eq_true (by omega)]; rfl)
    have hd : decide ((n : Int) ≤ 7) = true := decide_eq_true (by omega)
    clear hlen
    go_enter Tryz.func239, Tryz.ntmps239
    go_wp2_with fail
    refine (iStakes_any S _).mono ?_
    rw [hS]
    rintro e w2 ⟨rfl, rfl⟩
    go_wp2_with fail
    refine (iEach_any A n c l n 1 200 _ hn hr).mono ?_
    rw [beq_self_eq_true, Bool.and_true]
    rintro e w2 ⟨rfl, hb⟩
    have hB := hide hb
    clear hb
    go_wp2
    go_ret
    exact ⟨retB hm.out.symm, hB.out⟩
  · have hm : Hid (rodsOk l = false) := hide (by unfold rodsOk; rw [decide_eq_false (by omega)]; rfl)
    have hd : decide ((n : Int) ≤ 7) = false := decide_eq_false (by omega)
    clear hlen
    go_enter Tryz.func239, Tryz.ntmps239
    go_wp2_with fail
    refine (iStakes_any S _).mono ?_
    rw [hS]
    rintro e w2 ⟨rfl, rfl⟩
    go_wp2
    go_ret
    exact ⟨retB hm.out.symm, Below.refl _ _⟩
theorem iLaidC_any (S b : Int) (A : Option Addr) (n c : Nat) (l : List Int) (w : World) (hn : n ≤ 1048576) (hS : inB S 3 60 = true) (hr : Arr i64c 1 w w.heap.size A n l) :
    Calls Tryz.prog 188 #[.int .i64 S, .slice A n c, .int .i64 b] w fun e w' => e = .returned (.int .i64 (if rodsOk l then (if inB b 0 5 then 0 else 2) else 1)) ∧ Below w.heap.size w w' := by
  cases h1 : rodsOk l
  · go_enter Tryz.func188, Tryz.ntmps188
    go_wp2_with fail
    refine (iLaid_any S A n c l _ hn hS hr).mono ?_
    rw [h1]
    rintro e w2 ⟨rfl, hb⟩
    have hB := hide hb
    clear hb
    go_wp2
    go_ret
    exact ⟨rfl, hB.out⟩
  cases h2 : inB b 0 5
  all_goals
    go_enter Tryz.func188, Tryz.ntmps188
    go_wp2_with fail
    refine (iLaid_any S A n c l _ hn hS hr).mono ?_
    rw [h1]
    rintro e w2 ⟨rfl, hb⟩
    have hB := hide hb
    clear hb
    go_wp2_with (go_at_call 113; refine (within_any _ _ _ _).mono ?_; rintro e w' ⟨rfl, rfl⟩)
    go_ret
    exact ⟨rfl, hB.out⟩
def ordC (S b : Int) (rods : List Int) : Int := if rodsOk rods then (if inB b 0 5 then (if 0 < (mOrd S b rods).2 then 3 else 0) else 2) else 1
def ordL (S b : Int) (rods : List Int) : List Int := if ordC S b rods = 0 then (mOrd S b rods).1 else []
end Go.Proofs.YtfpaejlipaainaaGreatDoor
namespace Go.Proofs.YtfpaejlipaainaaGreatDoor
open Go.ChangeShapes Go.WideShapes Go.ChangeAt Go.RowKit Go.Deep
def manyOf (S : Nat) (br : List Int) (f : Int) : Nat := 1 + ((List.range (S - 1)).takeWhile fun j => br.contains ((f + ((j + 1 : Nat) : Int)) % (S : Int))).length
theorem takeWhile_len {p : Nat → Bool} {m k : Nat} (hk : k ≤ m) (h : ∀ j, j < k → p j = true) (he : k = m ∨ p k = false) : ((List.range m).takeWhile p).length = k := by
  obtain ⟨d, rfl⟩ : ∃ d, m = k + d := ⟨m - k, by omega⟩
  rw [List.range_add, List.takeWhile_append_of_pos (fun x hx => h x (List.mem_range.1 hx)), List.length_append, List.length_range]
  suffices h2 : ((List.map (fun x => k + x) (List.range d)).takeWhile p).length = 0 by omega
  cases d with
  | zero => rfl
  | succ d =>
    have hp : p k = false := by
      rcases he with he | he
      · omega
      · exact he
    rw [List.range_succ_eq_map, List.map_cons, List.takeWhile_cons]
    simp [hp]
theorem manyOf_eq {S : Nat} {br : List Int} {f : Int} {k : Nat} (h1 : 1 ≤ k) (hk : k ≤ S) (h : ∀ j, 1 ≤ j → j < k → br.contains ((f + (j : Int)) % (S : Int)) = true) (he : k = S ∨ br.contains ((f + (k : Int)) % (S : Int)) = false) : manyOf S br f = k := by
  unfold manyOf
  rw [takeWhile_len (k := k - 1) (by omega) (fun j hj => h (j + 1) (by omega) (by omega)) ?_]
  · omega
  · rcases he with he | he
    · left; omega
    · right; rw [show k - 1 + 1 = k by omega]; exact he
theorem manyOf_le {S : Nat} {br : List Int} {f : Int} (hS : 1 ≤ S) : 1 ≤ manyOf S br f ∧ manyOf S br f ≤ S := by
  unfold manyOf
  have : ∀ p : Nat → Bool, ((List.range (S - 1)).takeWhile p).length ≤ S - 1 := fun p => by
    have h := (List.takeWhile_sublist (l := List.range (S - 1)) p).length_le
    rwa [List.length_range] at h
  have := this fun j => br.contains ((f + ((j + 1 : Nat) : Int)) % (S : Int))
  omega
def partAt (S : Nat) (br : List Int) (f : Int) : Bool := !(br.contains ((f + (S : Int) - 1) % (S : Int)) && (decide (br.length < S) || decide (0 < f)))
def partsTo (S : Nat) (br : List Int) (k : Nat) : List (Int × Int) := ((br.take k).filter (partAt S br)).map fun f => (f, (manyOf S br f : Int))
theorem partsTo_yes {S : Nat} {br : List Int} {k : Nat} {f : Int} (hx : br[k]? = some f) (h : partAt S br f = true) : partsTo S br (k + 1) = partsTo S br k ++ [(f, (manyOf S br f : Int))] := by
  unfold partsTo; rw [take_snoc hx, List.filter_append, List.map_append]; simp [h]
theorem partsTo_no {S : Nat} {br : List Int} {k : Nat} {f : Int} (hx : br[k]? = some f) (h : partAt S br f = false) : partsTo S br (k + 1) = partsTo S br k := by
  unfold partsTo; rw [take_snoc hx, List.filter_append, List.map_append]; simp [h]
theorem partsTo_len (S : Nat) (br : List Int) (k : Nat) : (partsTo S br k).length ≤ k := by
  unfold partsTo
  rw [List.length_map]
  have h := List.length_filter_le (partAt S br) (br.take k)
  rw [List.length_take] at h
  omega
def partsL (S : Nat) (br : List Int) : List (Int × Int) := partsTo S br br.length
def gapsTo (S : Nat) (p : Int × Int) (i : Nat) : List Int := (List.range i).map fun j : Nat => (p.1 + 2 * (j : Int)) % (S : Int)
theorem gapsTo_succ (S : Nat) (p : Int × Int) (i : Nat) : gapsTo S p (i + 1) = gapsTo S p i ++ [(p.1 + 2 * (i : Int)) % (S : Int)] := by
  unfold gapsTo; rw [List.range_succ, List.map_append]; rfl
def gapsOf (S : Nat) (p : Int × Int) : List Int := gapsTo S p ((p.2.toNat + 1) / 2)
def gapsUp (S : Nat) (L : List (Int × Int)) (k : Nat) : List Int := (L.take k).flatMap (gapsOf S)
theorem gapsUp_succ {S : Nat} {L : List (Int × Int)} {k : Nat} {p : Int × Int} (h : L[k]? = some p) : gapsUp S L (k + 1) = gapsUp S L k ++ gapsOf S p := by
  unfold gapsUp; rw [take_snoc h, List.flatMap_append]; simp
def mNew (S : Nat) (br : List Int) : List Int := (gapsUp S (partsL S br) (partsL S br).length).mergeSort fun x y => decide (x ≤ y)
end Go.Proofs.YtfpaejlipaainaaGreatDoor
namespace Go.Proofs.YtfpaejlipaainaaGreatDoor
open Go.ChangeShapes Go.WideShapes Go.ChangeAt Go.RowKit Go.Deep Go.Sort
set_option maxRecDepth 100000
theorem flat_i64c (l : List Int) : l.flatMap i64c = l.map (Value.int .i64) := by
  induction l with
  | nil => rfl
  | cons a l ih => rw [List.flatMap_cons, ih]; rfl
theorem heap_sortedI {w : World} {g n : Nat} {os : Array Obj} {cur : Array Value} {e : TypeId} {fr : Nat × Nat} (d : Array Int) (hb : w.heap[g]? = some (.cells cur e fr)) :
    (grow (putRow (Value.int .i64) (Sort.ahead w n) g 0 d) os).heap[g]? = some (.cells (putCells (Value.int .i64) 0 d cur) e fr) := by
  have hg : g < w.heap.size := (Array.getElem?_eq_some_iff.1 hb).1
  rw [heap_grow_old _ _ (by simpa using hg)]
  simp [putRow, mapBlock, Sort.ahead, Array.getElem?_modify, hb, onCells]
theorem grownBy_sortedI {w : World} {g n : Nat} {os : Array Obj} (d : Array Int) : w.grownBy (grow (putRow (Value.int .i64) (Sort.ahead w n) g 0 d) os) (some g) := by
  refine ⟨rfl, rfl, rfl, by simp, fun k hk hne => ?_⟩
  rw [heap_grow_old _ _ (by simpa using hk)]
  have : g ≠ k := fun e => hne (by rw [e])
  simp [putRow, mapBlock, Sort.ahead, Array.getElem?_modify, this]
theorem take_putI (cur : Array Value) (ts : List Int) (h : ts.length ≤ cur.size) : (putCells (Value.int .i64) 0 ts.toArray cur).toList.take ts.length = ts.map (Value.int .i64) := by
  apply List.ext_getElem?
  intro i
  rw [List.getElem?_take, List.getElem?_map]
  by_cases hi : i < ts.length
  · rw [if_pos hi, Array.getElem?_toList]
    simp [putCells, hi, show i < cur.size by omega]
  · rw [if_neg hi, List.getElem?_eq_none (by omega)]; rfl
theorem sortI_own (n base g cap : Nat) (l : List Int) (w : World) (hn : n ≤ 1048576) (ho : Own i64c 2 1 w base (.slice (some ⟨g, 0, none⟩) n cap) n l) :
    Calls Tryz.prog 244 #[.slice (some ⟨g, 0, none⟩) n cap] w fun e w' => e = .returned (.tuple #[]) ∧ Own i64c 2 1 w' base (.slice (some ⟨g, 0, none⟩) n cap) n (l.mergeSort fun x y => decide (x ≤ y)) ∧ w.grownBy w' (some g) := by
  have hrow : w.ownsRow base 2 1 (.slice (some ⟨g, 0, none⟩) n cap) n (l.map (Value.int .i64)) := by have := ho.2; rwa [flat_i64c] at this
  obtain ⟨g', cap', hv, hb, hg, _, _, hl, hH⟩ := Lib.holds_of_ownsRow hrow (by intro h; cases h)
  injection hv with h1 _ h3
  injection h1 with h1
  injection h1 with h1
  subst h1
  subst h3
  have hc := Tryz.slices_Sort_int g 0 cap l w hH hg (by rw [hl]; omega)
  rw [hl] at hc
  refine hc.mono fun e w' ⟨he, q, os, hw⟩ => ?_
  rcases hrow.2 with ⟨h0, _⟩ | ⟨g', cap', cur, hv, hbase, hbk, h1, h2, h3, h4⟩
  · cases h0
  cases hv
  refine ⟨he, ?_, by rw [hw]; exact grownBy_sortedI _⟩
  rw [hw]
  have hml : (l.mergeSort fun x y => decide (x ≤ y)).length = l.length := List.length_mergeSort _
  refine ⟨by rw [hml, hl], by rw [flat_i64c, List.length_map, hml, hl, Nat.mul_one], .inr ⟨g, cap, _, rfl, hbase, heap_sortedI _ hbk, h1, h2, by simp [putCells, h3], ?_⟩⟩
  rw [flat_i64c, Nat.mul_one]
  have := take_putI cur (l.mergeSort fun x y => decide (x ≤ y)) (by rw [hml, hl]; omega)
  rwa [hml, hl] at this
theorem iIndexI_any (A : Option Addr) (n c : Nat) (l : List Int) (y : Int) (w : World) (hn : n ≤ 1048576) (hr : Arr i64c 1 w w.heap.size A n l) :
    Calls Tryz.prog 275 #[.slice A n c, .int .i64 y] w fun e w' => e = .returned (.bool (l.contains y)) ∧ Below w.heap.size w w' := by
  have hix : ∀ W : World, Arr i64c 1 W W.heap.size A n l → Calls Tryz.prog 292 #[.slice A n c, .int .i64 y] W fun e w' => (∃ z : Int, e = .returned (.int .i64 z) ∧ (decide (0 ≤ z)) = l.contains y ∧ -1 ≤ z ∧ z ≤ 1048576) ∧ Below W.heap.size W w' := by
    intro W hrW
    have hlen := hide hrW.len
    go_enter Tryz.func292, Tryz.ntmps292
    go_wp2
    go_loopw [8] (fun i wr => ∃ k : Nat, k ≤ n ∧ i = .int .i64 k ∧ Below W.heap.size W wr ∧ Hid ((l.take k).contains y = false)) (fun i _ => n - (intOf i).toNat)
    case atStart => exact ⟨0, Nat.zero_le _, rfl, Below.refl _ _, hide rfl⟩
    case round =>
      obtain ⟨k, hk, rfl, hb, hno⟩ := hrel
      by_cases hlt : k < n
      · obtain ⟨b, o, x, rfl, hbl, hx, c0⟩ := hrW.int hlt
        have d0 : wr.cell? ⟨b, o + k, none⟩ = some (.int .i64 x) := (hb.cell (p := ⟨b, o + k, none⟩) hbl).trans c0
        have hX := hide hx
        clear hx c0
        have hB := hide hb
        clear hrW hb
        by_cases he : y = x
        · subst he
          have hyes : Hid (decide (0 ≤ (k : Int)) = l.contains y) := hide (by
            have h1 : y ∈ l := List.mem_of_getElem? hX.out
            rw [decide_eq_true (by omega)]
            exact (List.contains_iff_mem.2 h1).symm)
          have hbe : (y == y) = true := by simp
          go_wp2
          go_ret
          exact ⟨⟨(k : Int), rfl, hyes.out, by omega, by omega⟩, hB.out⟩
        · have hbe : (y == x) = false := by simp [he]
          have hnx : Hid ((l.take (k + 1)).contains y = false) := hide (by
            have h1 := hno.out
            rw [take_snoc hX.out]
            rw [← Bool.not_eq_true, List.contains_iff_mem] at h1 ⊢
            intro h2
            rcases List.mem_append.1 h2 with h2 | h2
            · exact h1 h2
            · exact he (List.mem_singleton.1 h2))
          clear he
          go_wp2
          go_roundw
          case rel => exact ⟨k + 1, by omega, by go_num, hB.out, hnx⟩
          case measure => simp [intOf]; omega
      · have hkn : k = n := by omega
        have hB := hide hb
        have hfin : Hid (decide (0 ≤ (-1 : Int)) = l.contains y) := hide (by
          have h1 := hno.out
          rw [hkn, List.take_of_length_le (by rw [hlen.out]; exact Nat.le_refl _)] at h1
          rw [h1]; rfl)
        subst hkn
        clear hb
        go_wp2
        go_ret
        exact ⟨⟨-1, rfl, hfin.out, by omega, by omega⟩, hB.out⟩
  have hixh := hide hix
  have hR := hide hr
  clear hix hr
  go_enter Tryz.func275, Tryz.ntmps275
  go_wp2_with fail
  refine (hixh.out _ hR.out).mono ?_
  rintro e w1 ⟨⟨z, rfl, hz, hz1, hz2⟩, hb⟩
  have hZ := hide hz
  have hB := hide hb
  clear hz hb
  go_wp2
  go_ret
  exact ⟨retB hZ.out, hB.out⟩
end Go.Proofs.YtfpaejlipaainaaGreatDoor
namespace Go.Proofs.YtfpaejlipaainaaGreatDoor
open Go.ChangeShapes Go.WideShapes Go.ChangeAt Go.RowKit Go.Deep
set_option maxRecDepth 100000
def Far (a b : Value) : Prop := ∀ g, a.ownBlock = some g → b.ownBlock ≠ some g
theorem Far.symm {a b : Value} (h : Far a b) : Far b a := fun g hb ha => h g ha hb
theorem Far.ne {a b : Value} (h : Far a b) : a.ownBlock = none ∨ a.ownBlock ≠ b.ownBlock := by
  cases ha : a.ownBlock with
  | none => exact .inl rfl
  | some g => exact .inr (fun e => h g ha e.symm)
theorem Far.apart {a b : Value} (h : Far a b) : Apart a b := h.ne
theorem Own.lt' {α : Type} {cells : α → List Value} {e s : Nat} {w : World} {base : Nat} {v : Value} {n : Nat} {l : List α} (h : Own cells e s w base v n l) : ∀ g, v.ownBlock = some g → base ≤ g ∧ g < w.heap.size := h.2.lt
theorem Far.new {a : Value} {g : Nat} {α : Type} {cells : α → List Value} {e s : Nat} {w : World} {base : Nat} {v : Value} {n : Nat} {l : List α} (h : Own cells e s w base v n l) (hg : w.heap.size ≤ g) (ha : a.ownBlock = some g) : Far a v := by
  intro g' h1 h2
  rw [ha] at h1
  injection h1 with h1
  have := (h.lt' g' h2).2
  omega
theorem Far.moved {α : Type} {cells : α → List Value} {e s : Nat} {w : World} {base : Nat} {v v' u : Value} {n : Nat} {l : List α} {g : Nat} (hv : Far v v') (h : Own cells e s w base v' n l) (hat : u.ownBlock = v.ownBlock ∨ u.ownBlock = some g) (hg : w.heap.size ≤ g) : Far u v' := by
  rcases hat with hat | hat
  · intro g' h1 h2; rw [hat] at h1; exact hv g' h1 h2
  · exact Far.new h hg hat
structure Trio (e : TypeId) (w : World) (base : Nat) (v0 v1 v2 : Value) (a b c : List Int) : Prop where
  o0 : Own i64c e 1 w base v0 a.length a
  o1 : Own i64c e 1 w base v1 b.length b
  o2 : Own i64c e 1 w base v2 c.length c
  f01 : Far v0 v1
  f02 : Far v0 v2
  f12 : Far v1 v2
section
variable {e : TypeId} {w w' : World} {base : Nat} {v0 v1 v2 v : Value} {a b c : List Int}
theorem Trio.below (h : Trio e w base v0 v1 v2 a b c) (hb : Below w.heap.size w w') : Trio e w' base v0 v1 v2 a b c := ⟨h.o0.below hb, h.o1.below hb, h.o2.below hb, h.f01, h.f02, h.f12⟩
theorem Trio.alloc (h : Trio e w base v0 v1 v2 a b c) (o : Obj) : Trio e (w.alloc o) base v0 v1 v2 a b c := h.below ((Below.refl _ _).alloc (Nat.le_refl _) o)
theorem Trio.swap (h : Trio e w base v0 v1 v2 a b c) : Trio e w base v1 v0 v2 b a c := ⟨h.o1, h.o0, h.o2, h.f01.symm, h.f12, h.f02⟩
theorem Trio.turn (h : Trio e w base v0 v1 v2 a b c) : Trio e w base v2 v0 v1 c a b := ⟨h.o2, h.o0, h.o1, h.f02.symm, h.f12.symm, h.f01⟩
theorem Trio.app0 (h : Trio e w base v0 v1 v2 a b c) {y : Int} (ho : Own i64c e 1 w' base v (a.length + 1) (a ++ [y])) (hg : w.grownBy w' v0.ownBlock) {g : Nat} (hat : v.ownBlock = v0.ownBlock ∨ v.ownBlock = some g) (hge : w.heap.size ≤ g) :
    Trio e w' base v v1 v2 (a ++ [y]) b c :=
  ⟨by rw [List.length_append]; exact ho, h.o1.kept hg h.f01.symm.ne, h.o2.kept hg h.f02.symm.ne, h.f01.moved h.o1 hat hge, h.f02.moved h.o2 hat hge, h.f12⟩
theorem Trio.app1 (h : Trio e w base v0 v1 v2 a b c) {y : Int} (ho : Own i64c e 1 w' base v (b.length + 1) (b ++ [y])) (hg : w.grownBy w' v1.ownBlock) {g : Nat} (hat : v.ownBlock = v1.ownBlock ∨ v.ownBlock = some g) (hge : w.heap.size ≤ g) :
    Trio e w' base v0 v v2 a (b ++ [y]) c := (h.swap.app0 ho hg hat hge).swap
theorem Trio.set0 (h : Trio e w base v0 v1 v2 a b c) {g n cap : Nat} (hv : v0 = .slice (some ⟨g, 0, none⟩) n cap) {k : Nat} (hk : k < a.length) (y : Int) : Trio e (w.setCell ⟨g, k, none⟩ (.int .i64 y)) base v0 v1 v2 (a.set k y) b c := by
  subst hv
  have hn : n = a.length := by
    rcases h.o0.form with ⟨h1, _⟩ | ⟨_, _, h1, _⟩
    · exact nomatch h1
    · injection h1
  subst hn
  have hg : w.grownBy (w.setCell ⟨g, k, none⟩ (.int .i64 y)) (some g) := only_setCell (only_of_below (Below.refl _ _) _) rfl _
  exact ⟨by rw [List.length_set]; exact h.o0.int_store hk y, h.o1.kept hg h.f01.symm.ne, h.o2.kept hg h.f02.symm.ne, h.f01, h.f02, h.f12⟩
theorem Trio.set1 (h : Trio e w base v0 v1 v2 a b c) {g n cap : Nat} (hv : v1 = .slice (some ⟨g, 0, none⟩) n cap) {k : Nat} (hk : k < b.length) (y : Int) : Trio e (w.setCell ⟨g, k, none⟩ (.int .i64 y)) base v0 v1 v2 a (b.set k y) c := (h.swap.set0 hv hk y).swap
theorem Trio.set2 (h : Trio e w base v0 v1 v2 a b c) {g n cap : Nat} (hv : v2 = .slice (some ⟨g, 0, none⟩) n cap) {k : Nat} (hk : k < c.length) (y : Int) : Trio e (w.setCell ⟨g, k, none⟩ (.int .i64 y)) base v0 v1 v2 a b (c.set k y) := (h.turn.set0 hv hk y).turn.turn
theorem Own.at' {n : Nat} {l : List Int} (h : Own i64c e 1 w base v n l) {k : Nat} (hk : k < n) : ∃ g cap x, v = .slice (some ⟨g, 0, none⟩) n cap ∧ base ≤ g ∧ g < w.heap.size ∧ l[k]? = some x ∧ w.cell? ⟨g, k, none⟩ = some (.int .i64 x) ∧ w.frozen? ⟨g, k, none⟩ = false := by
  rcases h.form with ⟨_, hn, _⟩ | ⟨g, cap, rfl, hb, hg, _, _⟩
  · omega
  · obtain ⟨x, h1, h2, h3⟩ := h.int_at hk
    exact ⟨g, cap, x, rfl, hb, hg, h1, h2, h3⟩
end
end Go.Proofs.YtfpaejlipaainaaGreatDoor
