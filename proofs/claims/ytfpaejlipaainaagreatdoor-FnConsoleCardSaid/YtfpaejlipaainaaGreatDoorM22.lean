/- Texts that belong together, joined: contracts and plain laws. No statement is proved here. -/
import Derived.Test.YtfpaejlipaainaaGreatDoorM02
import Derived.Test.YtfpaejlipaainaaGreatDoorM03
import Derived.Test.YtfpaejlipaainaaGreatDoorM04
import Derived.Test.YtfpaejlipaainaaGreatDoorM11
import Derived.Test.YtfpaejlipaainaaGreatDoorM12
import Derived.Test.YtfpaejlipaainaaGreatDoorM21
import Derived.Lib.AppendStr
import Derived.Lib.Builder
import Derived.Laws.Externs
import Derived.Laws.EntriesVeiled
import Derived.Deep.RegionHeld3
namespace Go.Proofs.YtfpaejlipaainaaGreatDoor
open Go.ChangeShapes Go.WideShapes Go.ChangeAt Go.RowKit Go.Deep
set_option maxRecDepth 100000
theorem bd_size : (Tryz.prog.info? 69).map (·.size) = some 2 := by kernel_rfl
theorem bd_lies : liesAt Tryz.prog Tryz.prog.depth 69 (2 / Tryz.prog.cellsOf 69) 0 69 1 = true := by kernel_rfl
set_option maxHeartbeats 1000000 in
theorem bd_used (b : Nat) (w : World) (h0 : w.cell? ⟨b, 0, none⟩ = some (.pointer (some ⟨b, 0, none⟩))) :
    Calls Tryz.prog 88 #[.pointer (some ⟨b, 0, none⟩)] w fun e w' => e = .returned (.tuple #[]) ∧ w' = w := by
  obtain ⟨j, hj, _⟩ := Option.map_eq_some_iff.1 bd_size
  have hne : ∀ W, (binOp .neq 67 (.pointer (some ⟨b, 0, none⟩)) (.pointer (some ⟨b, 0, none⟩))).run Tryz.prog W = .ok (.bool false) W := fun W => Lib.run_neq_ptr_same W _ Tryz.underlying67 hj
  go_enter Tryz.func88, Tryz.ntmps88
  go_wp2
  go_end0
  exact ⟨rfl, rfl⟩
set_option maxHeartbeats 1000000 in
theorem bd_fresh (b : Nat) (w : World) (h0 : w.cell? ⟨b, 0, none⟩ = some (.pointer none)) (hsh : w.shape? b = some (69, 2)) (hfz : w.frozen? ⟨b, 0, none⟩ = false) :
    Calls Tryz.prog 88 #[.pointer (some ⟨b, 0, none⟩)] w fun e w' => e = .returned (.tuple #[]) ∧ w' = w.setCell ⟨b, 0, none⟩ (.pointer (some ⟨b, 0, none⟩)) := by
  obtain ⟨j, hj, hjs⟩ := Option.map_eq_some_iff.1 bd_size
  have h1 := Lib.run_to_unsafe (P := Tryz.prog) w ⟨b, 0, none⟩ Tryz.underlying67 Tryz.underlying172 hj (by rw [hjs]; decide) hsh (Nat.zero_lt_succ 1)
  have h2 := Lib.run_from_unsafe (P := Tryz.prog) w ⟨b, 0, none⟩ Tryz.underlying172 Tryz.underlying67 hj hsh bd_lies
  go_enter Tryz.func88, Tryz.ntmps88
  go_wp2
  rw [run_callFunc_extern Tryz.func140 (by kernel_rfl) (by kernel_rfl) (by kernel_rfl) (e := Extern.AbiNoEscape.same) (by kernel_rfl)]
  rw [Lib.run_noEscape]
  simp only [Result.andThen]
  rw [Oper.upon_value]
  go_wp2
  go_end0
  exact ⟨rfl, rfl⟩
def BD (w : World) (B b : Nat) (S : ByteArray) : Prop := Lib.IsBuilder 69 5 B b (Lib.strCells S) w
def BFr (b : Nat) (w w' : World) : Prop := w.heap.size ≤ w'.heap.size ∧ ∀ (k : Nat) (cs : Array Value) (t : TypeId), w.heap[k]? = some (.cells cs t (0, 0)) → t ≠ 5 → k ≠ b → w'.heap[k]? = some (.cells cs t (0, 0))
theorem BFr.refl (b : Nat) (w : World) : BFr b w w := ⟨Nat.le_refl _, fun _ _ _ h _ _ => h⟩
theorem BFr.trans {b : Nat} {w w1 w2 : World} (h : BFr b w w1) (k : BFr b w1 w2) : BFr b w w2 := ⟨Nat.le_trans h.1 k.1, fun j cs t hj ht hn => k.2 j cs t (h.2 j cs t hj ht hn) ht hn⟩
theorem BFr.set (b i : Nat) (w : World) (u : Value) : BFr b w (w.setCell ⟨b, i, none⟩ u) := ⟨(grown_set w b i u).size, fun _ _ _ h _ hn => box_kept h (grown_set w b i u) hn⟩
theorem ro_ty {w : World} {B e s n g : Nat} {v : Value} {l : List Value} {cs : Array Value} {t : TypeId} (h : w.ownsRow B e s v n l) (hb : w.heap[g]? = some (.cells cs t (0, 0))) (hne : e ≠ t) : v.ownBlock ≠ some g := by
  rcases h.2 with ⟨rfl, _⟩ | ⟨g', cap, cur, rfl, _, hh, _⟩
  · simp [Value.ownBlock]
  · intro he
    have : g' = g := by simpa [Value.ownBlock] using he
    subst this
    rw [hb] at hh
    cases hh
    exact hne rfl
theorem bd_check (B b : Nat) (bs : List Value) (w : World) (h : Lib.IsBuilder 69 5 B b bs w) :
    Calls Tryz.prog 88 #[.pointer (some ⟨b, 0, none⟩)] w fun e w' => e = .returned (.tuple #[]) ∧ (Lib.BuilderAt 69 5 B b (.pointer (some ⟨b, 0, none⟩)) bs w' ∧ Below B w w') ∧ BFr b w w' := by
  rcases h with h | h
  · refine (bd_fresh b w h.cell0 h.shape h.frozen0).mono ?_
    rintro e w' ⟨rfl, rfl⟩
    exact ⟨rfl, ⟨h.used _, (Below.refl B w).setCell (p := ⟨b, 0, none⟩) h.1 _⟩, BFr.set b 0 w _⟩
  · refine (bd_used b w h.cell0).mono ?_
    rintro e w' ⟨rfl, rfl⟩
    exact ⟨rfl, ⟨h, Below.refl B _⟩, BFr.refl b _⟩
theorem info_u8b : (Tryz.prog.info? 5).map (fun i => (i.zero, i.size, i.bytes)) = some (some (.int .u8 0), 1, 1) := by kernel_rfl
theorem str_app (a b : ByteArray) : Lib.strCells (a ++ b) = Lib.strCells a ++ Lib.strCells b := by
  unfold Lib.strCells; rw [Joins.data_append, List.map_append]
set_option maxHeartbeats 4000000 in
theorem bd_write (B b : Nat) (S s : ByteArray) (w : World) (h : BD w B b S) (hlen : S.size + s.size ≤ 140737488355328) (hBw : B ≤ w.heap.size) :
    Calls Tryz.prog 38 #[.pointer (some ⟨b, 0, none⟩), .string s] w fun e w' => e = .returned (.tuple #[.int .i64 s.size, .nilIface]) ∧ BD w' B b (S ++ s) ∧ Below B w w' ∧ BFr b w w' := by
  obtain ⟨i0, hi, hz0, hz1, hz2⟩ := info_parts info_u8b
  have hlen' : (Lib.strCells S).length + s.size ≤ 140737488355328 := by rw [Lib.strCells_length]; exact hlen
  go_enter Tryz.func38, Tryz.ntmps38
  go_wp2_with fail
  refine (bd_check B b (Lib.strCells S) _ h).mono ?_
  rintro e w1 ⟨rfl, ⟨h1, hb1⟩, hfr⟩
  have hFr := hide hfr
  clear hfr
  obtain ⟨hB, v, hbk, hown, hne⟩ := h1
  have c0 : w1.cell? ⟨b, 0, none⟩ = some (.pointer (some ⟨b, 0, none⟩)) := by rw [Lib.cell_of_heap hbk]; rfl
  have c1 : w1.cell? ⟨b, 1, none⟩ = some v := by rw [Lib.cell_of_heap hbk]; rfl
  clear h
  go_wp2_with (at_builtin; refine Lib.wpList_append_own_string _ rfl _ _ 22 9 rfl B 5 i0 Tryz.underlying22 Tryz.underlying9 hi hz0 hz1 hz2 _ _ _ rfl hown s rfl ?c3 ?c4 ?c5 ?_)
  case c3 => unfold maxLen; omega
  case c4 => omega
  case c5 => have := hb1.size; omega
  intro v' w2 hown' hgrow _
  have hlt : b < w1.heap.size := (Array.getElem?_eq_some_iff.1 hbk).1
  have hb2 : w2.heap[b]? = some (.cells #[.pointer (some ⟨b, 0, none⟩), v] 69 (0, 0)) := (hgrow.block b hlt (fun e => hne e.symm)).trans hbk
  have d0 : w2.cell? ⟨b, 0, none⟩ = some (.pointer (some ⟨b, 0, none⟩)) := by rw [Lib.cell_of_heap hb2]; rfl
  have d1 : w2.cell? ⟨b, 1, none⟩ = some v := by rw [Lib.cell_of_heap hb2]; rfl
  have f1 : w2.frozen? ⟨b, 1, none⟩ = false := Lib.frozen_of_heap hb2 1
  obtain ⟨ao, n', cap, rfl⟩ : ∃ ao n' cap, v' = .slice ao n' cap := by
    rcases hown'.2 with ⟨hv, _⟩ | ⟨g, cap, cur, hv, _⟩
    · exact ⟨_, _, _, hv⟩
    · exact ⟨_, _, _, hv⟩
  have hgh := hide hgrow
  have hoh := hide hown'
  have hbh := hide hb1
  clear hgrow hown' hb1
  go_wp2
  go_ret2
  refine ⟨rfl, ?_, ?_, ?_⟩
  · refine .inr ?_
    rw [str_app]
    exact Lib.BuilderAt.put (T := 69) (e := 5) hB hb2 (bs' := Lib.strCells S ++ Lib.strCells s) (by simpa [Lib.strCells_length] using hoh.out) (by decide)
  · exact (hbh.out.grown hgh.out (by have := hbh.out.size; omega) (fun k hk => (hown.lt k hk).1)).setCell (p := ⟨b, 1, none⟩) hB _
  · refine (hFr.out.trans ⟨hgh.out.size, fun k cs t hk ht _ => ?_⟩).trans (BFr.set b 1 w2 _)
    exact (hgh.out.block k (Array.getElem?_eq_some_iff.1 hk).1 (fun e => ro_ty hown hk (Ne.symm ht) e.symm)).trans hk
section
variable {w w' : World} {B b : Nat} {S : ByteArray}
theorem BD.row (h : BD w B b S) : ∃ p v, w.heap[b]? = some (.cells #[p, v] 69 (0, 0)) := by
  rcases h with ⟨_, v, h, _⟩ | ⟨_, v, h, _⟩
  · exact ⟨_, v, h⟩
  · exact ⟨_, v, h⟩
theorem at_below {p : Value} {bs : List Value} (h : Lib.BuilderAt 69 5 B b p bs w) (hb : Below w.heap.size w w') : Lib.BuilderAt 69 5 B b p bs w' := by
  obtain ⟨hB, v, h1, h2, h3⟩ := h
  have hg : w.grownBy w' none := ⟨hb.os, hb.tape, hb.output, hb.size, fun i hi _ => hb.block i hi⟩
  refine ⟨hB, v, (hb.block b (Array.getElem?_eq_some_iff.1 h1).1).trans h1, h2.kept hg ?_, h3⟩
  cases hv : v.ownBlock with
  | none => exact .inl rfl
  | some g => exact .inr (by simp)
theorem BD.below (h : BD w B b S) (hb : Below w.heap.size w w') : BD w' B b S := by
  rcases h with h | h
  · exact .inl (at_below h hb)
  · exact .inr (at_below h hb)
theorem at_set {p : Value} {bs : List Value} {g i : Nat} {u : Value} {cs : Array Value} {t : TypeId} (h : Lib.BuilderAt 69 5 B b p bs w) (hg : w.heap[g]? = some (.cells cs t (0, 0))) (h1 : t ≠ 5) (h2 : t ≠ 69) : Lib.BuilderAt 69 5 B b p bs (w.setCell ⟨g, i, none⟩ u) := by
  obtain ⟨hB, v, k1, k2, k3⟩ := h
  have hne : b ≠ g := by
    intro e; subst e
    rw [k1] at hg; cases hg
    exact h2 rfl
  exact ⟨hB, v, box_kept k1 (grown_set w g i u) hne, k2.kept (grown_set w g i u) (.inr (ro_ty k2 hg (Ne.symm h1))), k3⟩
theorem BD.set {g i : Nat} {u : Value} {cs : Array Value} {t : TypeId} (h : BD w B b S) (hg : w.heap[g]? = some (.cells cs t (0, 0))) (h1 : t ≠ 5) (h2 : t ≠ 69) : BD (w.setCell ⟨g, i, none⟩ u) B b S := by
  rcases h with h | h
  · exact .inl (at_set h hg h1 h2)
  · exact .inr (at_set h hg h1 h2)
theorem Res.bfr {α : Type} {cells : α → List Value} {e s n base : Nat} {v : Value} {l : List α} (h : Res cells e s w base v n l) (hd : BD w B b S) (hf : BFr b w w') (he : e ≠ 5) (h2 : e ≠ 69) : Res cells e s w' base v n l := by
  refine ⟨h.1, h.2.1, fun hn => ⟨(h.2.2 hn).1, ?_⟩⟩
  obtain ⟨p, u, hrow⟩ := hd.row
  have ho := (h.2.2 hn).2
  refine ⟨ho.1, ?_⟩
  rcases ho.2 with hv | ⟨g, cap, cur, hv, hle, hh, rest⟩
  · exact .inl hv
  · refine .inr ⟨g, cap, cur, hv, hle, hf.2 g cur e hh he ?_, rest⟩
    intro e2; subst e2
    rw [hrow] at hh; cases hh
    exact h2 rfl
theorem bd_new (w : World) (hB : B ≤ w.heap.size) : BD (w.alloc (.cells #[.pointer none, .slice none 0 0] 69)) B w.heap.size ⟨#[]⟩ := .inl ⟨hB, .slice none 0 0, heap_alloc_new w _, World.ownsRow_nil _ _ _ _, by simp [Value.ownBlock]⟩
end
end Go.Proofs.YtfpaejlipaainaaGreatDoor
namespace Go.Proofs.YtfpaejlipaainaaGreatDoor
open Go.ChangeShapes Go.WideShapes Go.ChangeAt Go.RowKit Go.Deep
set_option maxRecDepth 100000
theorem bd_string (B b : Nat) (S : ByteArray) (w : World) (h : BD w B b S) (hBw : B ≤ w.heap.size) :
    Calls Tryz.prog 39 #[.pointer (some ⟨b, 0, none⟩)] w fun e w' => e = .returned (.string S) ∧ Below B w w' := by
  have h1 := Tryz.Builder_String_any B b S.data.toList w h hBw
  refine h1.mono ?_
  rintro e w' ⟨rfl, hb⟩
  exact ⟨by rw [mk_data], hb⟩
theorem iNewM_any (w : World) : Calls Tryz.prog 8 #[] w fun e w' => e = .returned (.agg #[.string ⟨#[70, 66]⟩, .int .i64 5, .slice none 0 0, .slice none 0 0, .string ⟨#[]⟩]) ∧ Below w.heap.size w w' := by
  go_enter Tryz.func8, Tryz.ntmps8
  go_wp2
  exact bodyPost_ret (v := .agg #[.string ⟨#[70, 66]⟩, .int .i64 5, .slice none 0 0, .slice none 0 0, .string ⟨#[]⟩]) (by simp [results, Tryz.results8, go_sem]) rfl ⟨rfl, by go_grown⟩
structure RS (w wr : World) (g b : Nat) (L : List ByteArray) (wv : Value) (x : DeskV) (M : DeskM) (S : ByteArray) : Prop where
  box : wr.heap[g]? = some (.cells #[.string x.fStroke, .int .i64 x.fStakes, .slice x.A x.n x.c, .slice x.A' x.n' x.c', .string x.fLog] 29 (0, 0))
  dv : DV wr w.heap.size x
  p : x.pure = M
  bd : BD wr w.heap.size b S
  rows : Res strc 9 1 wr w.heap.size wv L.length L
  low : Below w.heap.size w wr
  hg : w.heap.size ≤ g
  hb : w.heap.size ≤ b
section
variable {w wr w' : World} {B g b : Nat} {L : List ByteArray} {wv : Value} {x : DeskV} {M : DeskM} {S : ByteArray}
theorem RS.below (h : RS w wr g b L wv x M S) (hb : Below wr.heap.size wr w') : RS w w' g b L wv x M S :=
  ⟨keepr h.box hb, h.dv.below hb, h.p, h.bd.below hb, h.rows.below hb, h.low.trans (hb.mono h.low.size), h.hg, h.hb⟩
theorem BD.alloc (h : BD w B b S) (o : Obj) : BD (w.alloc o) B b S := h.below ((Below.refl _ _).alloc (Nat.le_refl _) o)
theorem RS.alloc (h : RS w wr g b L wv x M S) (o : Obj) : RS w (wr.alloc o) g b L wv x M S := h.below ((Below.refl _ _).alloc (Nat.le_refl _) o)
theorem RS.gb (h : RS w wr g b L wv x M S) : g ≠ b := by
  intro e; subst e
  obtain ⟨p, v, hr⟩ := h.bd.row
  rw [h.box] at hr; cases hr
theorem DV.bfr (h : DV wr w.heap.size x) (hd : BD wr w.heap.size b S) (hf : BFr b wr w') : DV w' w.heap.size x := ⟨h.k.bfr hd hf (by decide) (by decide), h.h.bfr hd hf (by decide) (by decide), h.nk, h.nh, h.fit⟩
theorem RS.wrote (h : RS w wr g b L wv x M S) {S' : ByteArray} (hd : BD w' w.heap.size b S') (hb : Below w.heap.size wr w') (hf : BFr b wr w') : RS w w' g b L wv x M S' :=
  ⟨hf.2 _ _ _ h.box (by decide) h.gb, h.dv.bfr h.bd hf, h.p, hd, h.rows.bfr h.bd hf (by decide) (by decide), h.low.trans hb, h.hg, h.hb⟩
theorem BD.set5 {B g' : Nat} {a0 a1 a2 a3 a4 b0 b1 b2 b3 b4 : Value} (h : BD wr B b S) (hg : wr.heap[g']? = some (.cells #[b0, b1, b2, b3, b4] 29 (0, 0))) : BD (set5 wr g' a0 a1 a2 a3 a4) B b S :=
  ((((h.set hg (i := 0) (u := a0) (by decide) (by decide)).set (box_set hg 0 a0) (i := 1) (u := a1) (by decide) (by decide)).set (box_set (box_set hg 0 a0) 1 a1) (i := 2) (u := a2) (by decide) (by decide)).set (box_set (box_set (box_set hg 0 a0) 1 a1) 2 a2) (i := 3) (u := a3) (by decide) (by decide)).set (box_set (box_set (box_set (box_set hg 0 a0) 1 a1) 2 a2) 3 a3) (i := 4) (u := a4) (by decide) (by decide)
theorem RS.next (h : RS w wr g b L wv x M S) {x' : DeskV} (hd : DV wr w.heap.size x') : RS w (set5 wr g (.string x'.fStroke) (.int .i64 x'.fStakes) (.slice x'.A x'.n x'.c) (.slice x'.A' x'.n' x'.c') (.string x'.fLog)) g b L wv x' x'.pure S :=
  ⟨set5_row h.box, set5_dv h.box hd, rfl, h.bd.set5 h.box, set5_res h.box h.rows, set5_below h.low h.hg, h.hg, h.hb⟩
end
theorem stroke_le {x : DeskV} (h : x.pure.ok = true) : x.fStroke.size ≤ maxLen := by
  have h1 := (DeskM.ok_parts.1 h).1
  have h1 : strokeOk x.fStroke = true := h1
  unfold strokeOk at h1
  rw [Bool.and_eq_true, Bool.and_eq_true] at h1
  have := of_decide_eq_true h1.1.2
  unfold maxLen; omega
theorem mLines_size (s : ByteArray) : ∀ y ∈ mLines s, y.size ≤ s.size := by
  intro y hy
  have h1 := words_size 10 _ hy
  have h2 : (⟨(Lib.trimSuffix s.data.toList [10]).toArray⟩ : ByteArray).size ≤ s.size := by
    rw [Lib.size_eq, Lib.size_eq s]
    show (Lib.trimSuffix s.data.toList [10]).length ≤ _
    unfold Lib.trimSuffix
    split
    · rw [List.length_take]; omega
    · exact Nat.le_refl _
  omega
theorem mStep_none {p : DeskM × List ByteArray} {s : ByteArray} (h : mLine p.1 s = none) : mStep p s = (p.1, p.2 ++ [⟨#[63]⟩]) := by unfold mStep; rw [h]
theorem mStep_some {p : DeskM × List ByteArray} {s : ByteArray} {q : DeskM × List ByteArray} (h : mLine p.1 s = some q) : mStep p s = (q.1, p.2 ++ q.2) := by unfold mStep; rw [h]
theorem mFold_take {L : List ByteArray} {k : Nat} {s : ByteArray} (h : L[k]? = some s) : mFold (L.take (k + 1)) = mStep (mFold (L.take k)) s := by rw [take_snoc h, mFold_snoc]
set_option maxHeartbeats 8000000 in
theorem iRun_any (s : ByteArray) (w : World) (hG : Gl w) (hs : s.size ≤ 1048576) :
    Calls Tryz.prog 12 #[.string s] w fun e w' => e = .returned (.string (mRun s)) ∧ Below w.heap.size w w' := by
  have hGh := hide hG
  clear hG
  by_cases hs0 : s = ⟨#[]⟩
  · subst hs0
    have hM : Hid (mRun ⟨#[]⟩ = ⟨#[]⟩) := hide (by unfold mRun; rw [if_pos rfl])
    go_enter Tryz.func12, Tryz.ntmps12
    go_wp2
    go_ret
    exact ⟨by rw [hM.out]; rfl, Below.refl _ _⟩
  · have hne : s.toList.isEmpty = false := by
      cases hq : s.toList with
      | nil => exact absurd (toList_inj (hq.trans (by simp : [] = (⟨#[]⟩ : ByteArray).toList))) hs0
      | cons a l => rfl
    obtain ⟨L, hL⟩ : ∃ L, L = mLines s := ⟨_, rfl⟩
    have hM : Hid (mRun s = if L.length ≤ 60 then linesB (mFold L).2 else linesB ((mFold (L.take 60)).2 ++ [⟨#[101, 114, 114, 111, 114, 32, 102, 117, 108, 108]⟩])) := hide (by unfold mRun; rw [if_neg hs0, hL])
    have hLs : Hid (∀ y ∈ L, y.size ≤ 1048576) := hide (by rw [hL]; intro y hy; have := mLines_size s y hy; omega)
    have hLN : L.length ≤ 1048577 := by
      rw [hL]
      unfold mLines
      have h1 := words_le 10 (⟨(Lib.trimSuffix s.data.toList [10]).toArray⟩ : ByteArray)
      have h2 : (⟨(Lib.trimSuffix s.data.toList [10]).toArray⟩ : ByteArray).size ≤ s.size := by
        rw [Lib.size_eq, Lib.size_eq s]
        show (Lib.trimSuffix s.data.toList [10]).length ≤ _
        unfold Lib.trimSuffix
        split
        · rw [List.length_take]; omega
        · exact Nat.le_refl _
      omega
    have hLh := hide hL
    clear hL hs0
    go_enter Tryz.func12, Tryz.ntmps12
    go_wp2_with fail
    refine (iNewM_any _).mono ?_
    rintro e w1 ⟨rfl, hb⟩
    have hB1 := hide hb
    clear hb
    go_upto_region 5 with fail
    obtain ⟨g, hg⟩ : ∃ g, g = w1.heap.size := ⟨_, rfl⟩
    obtain ⟨b, hb⟩ : ∃ b, b = w1.heap.size + 1 := ⟨_, rfl⟩
    have hR0 : RS w ((w1.alloc (Obj.cells #[Value.string ⟨#[70, 66]⟩, Value.int IntKind.i64 5, Value.slice none 0 0, Value.slice none 0 0, Value.string ⟨#[]⟩] 29)).alloc (Obj.cells #[Value.pointer none, Value.slice none 0 0] 69)) g b [] (.slice none 0 0) ⟨⟨#[70, 66]⟩, 5, none, 0, 0, [], none, 0, 0, [], ⟨#[]⟩⟩ newM ⟨#[]⟩ := by
      rw [hg, hb]
      have hsz := hB1.out.size
      refine ⟨alloc_old (heap_alloc_new w1 _), ⟨Res.empty (Nat.zero_le _), Res.empty (Nat.zero_le _), Nat.zero_le _, Nat.zero_le _, fun h hh => (by cases hh)⟩, rfl, ?_, Res.empty (Nat.zero_le _), ?_, hsz, by omega⟩
      · have := bd_new (B := w.heap.size) (w1.alloc (Obj.cells #[Value.string ⟨#[70, 66]⟩, Value.int IntKind.i64 5, Value.slice none 0 0, Value.slice none 0 0, Value.string ⟨#[]⟩] 29)) (by simp; omega)
        rw [World.size_alloc] at this
        exact this
      · exact (hB1.out.alloc hsz _).alloc (by simp; omega) _
    rw [← hb, ← hg]
    refine nameW' (φ := fun W => RS w W g b [] (.slice none 0 0) ⟨⟨#[70, 66]⟩, 5, none, 0, 0, [], none, 0, 0, [], ⟨#[]⟩⟩ newM ⟨#[]⟩) hR0 ?_
    clear hR0 hg hb hB1
    rintro W1 hR1
    have hR1 := hide hR1
    obtain ⟨t, ht⟩ : ∃ t : ByteArray, t = ⟨(Lib.trimSuffix s.data.toList (⟨#[10]⟩ : ByteArray).data.toList).toArray⟩ := ⟨_, rfl⟩
    have htL : Hid (words 10 t = L) := hide (by rw [ht, hLh.out]; rfl)
    have hts : t.size ≤ 1048576 := by
      rw [ht, Lib.size_eq]
      show (Lib.trimSuffix s.data.toList _).length ≤ _
      have h4 := Lib.size_eq s
      unfold Lib.trimSuffix
      split
      · rw [List.length_take]; omega
      · omega
    have hTr := hide (fun W => Tryz.strings_TrimSuffix s ⟨#[10]⟩ W (by omega))
    rw [← ht] at hTr
    have htsh := hide hts
    clear ht hts
    go_wp2_with fail
    refine (hTr.out _).mono ?_
    rintro e w2 ⟨rfl, rfl⟩
    go_wp2_with fail
    refine (iSplit_any 10 t _ htsh.out (hGh.out.below hR1.out.low)).mono ?_
    rw [htL.out]
    rintro e w3 ⟨v3, rfl, ho3, hb⟩
    obtain ⟨A3, c3, hv3, hc3⟩ := ho3.slice
    subst hv3
    have hR2 := hide (hR1.out.below hb)
    have hO3 := hide (ho3.less hR1.out.low.size)
    obtain ⟨N, hN⟩ : ∃ N, N = L.length := ⟨_, rfl⟩
    have hNh := hide hN
    rw [← hN] at hLN hM ⊢
    have hR3 : RS w w3 g b L (.slice A3 N c3) ⟨⟨#[70, 66]⟩, 5, none, 0, 0, [], none, 0, 0, [], ⟨#[]⟩⟩ (mFold (L.take 0)).1 (linesB (mFold (L.take 0)).2) := by
      have h := hR2.out
      refine ⟨h.box, h.dv, h.p, h.bd, ?_, h.low, h.hg, h.hb⟩
      rw [hN]
      exact hO3.out.res
    have hR3 := hide hR3
    clear hb ho3 hR2 hO3 hN hR1 hTr
    go_wp2
    go_loopw [19] (fun i wr => ∃ (k : Nat) (x : DeskV), k ≤ N ∧ k ≤ 60 ∧ i = .int .i64 (k : Int) ∧ RS w wr g b L (.slice A3 N c3) x (mFold (L.take k)).1 (linesB (mFold (L.take k)).2)) (fun i _ => N - (intOf i).toNat)
    case atStart => exact ⟨0, _, Nat.zero_le _, Nat.zero_le _, rfl, hR3.out⟩
    case round =>
      obtain ⟨k, x, hk, hk60, rfl, hr⟩ := hrel
      have hR := hide hr
      clear hR3
      have hfs : Hid ((linesB (mFold (L.take k)).2).size ≤ 10066330200000) := hide (by
        have h1 := mFold_size (L.take k) (fun y hy => hLs.out y (List.mem_of_mem_take hy))
        have h2 : (L.take k).length ≤ 60 := by rw [List.length_take]; omega
        omega)
      obtain ⟨S, hS⟩ : ∃ S, S = linesB (mFold (L.take k)).2 := ⟨_, rfl⟩
      have hSh := hide hS
      rw [← hS] at hR hfs
      have hRow := hr.rows
      rw [← hNh.out] at hRow
      clear hr hS
      by_cases hlt : k < N
      · obtain ⟨b3, o3, y, hA3, _, hy, cy⟩ := (hRow.arr strc_len).str hlt
        subst hA3
        have hyh := hide hy
        have hys := hide (hLs.out y (List.mem_of_getElem? hy))
        clear hy hRow
        have hlti : (k : Int) < (N : Int) := by omega
        by_cases h60 : k = 60
        · subst h60
          have hN60 : ¬ N ≤ 60 := by omega
          have hM2 : Hid (mRun s = S ++ (⟨#[101, 114, 114, 111, 114, 32, 102, 117, 108, 108, 10]⟩ : ByteArray)) := hide (by
            rw [hM.out, if_neg hN60, linesB_snoc, ← hSh.out]
            rfl)
          go_wp2_with fail
          refine (bd_write w.heap.size b S ⟨#[101, 114, 114, 111, 114, 32, 102, 117, 108, 108, 10]⟩ _ hR.out.bd (by have := hfs.out; show S.size + 11 ≤ _; omega) hR.out.low.size).mono ?_
          rintro e w4 ⟨rfl, hd4, hb4, hf4⟩
          have hR4 := hide (hR.out.wrote hd4 hb4 hf4)
          clear hd4 hb4 hf4
          go_wp2_with fail
          refine (bd_string w.heap.size b _ _ hR4.out.bd hR4.out.low.size).mono ?_
          rintro e w5 ⟨rfl, hb5⟩
          have hB5 := hide (hR4.out.low.trans hb5)
          clear hb5
          go_wp2
          go_ret
          exact ⟨by rw [hM2.out]; try rfl, hB5.out⟩
        · have h6i : ((k : Int) == 60) = false := by simp; omega
          have h6j : ¬ (k : Int) = 60 := by omega
          obtain ⟨c0, c1, c2, c3', c4, _⟩ := row5 hR.out.box
          have hok : x.pure.ok = true := by rw [hR.out.p]; exact mFold_ok _
          have hfold := hide (mFold_take hyh.out)
          have hpx := hide hR.out.p
          have hDc := hide (iDc_any x y wr (hGh.out.below hR.out.low) hR.out.dv.good (stroke_le hok) hys.out)
          cases hm : mLine x.pure y with
          | none =>
            have hres : dcRes x.pure y = (noM, [], 7) := by unfold dcRes; rw [if_pos hok, hm]
            rw [hres] at hDc
            have hnx : Hid (mFold (L.take (k + 1)) = ((mFold (L.take k)).1, (mFold (L.take k)).2 ++ [⟨#[63]⟩])) := hide (by rw [hfold.out]; exact mStep_none (by rw [← hpx.out]; exact hm))
            clear hres hm hok
            go_wp2_with fail
            refine hDc.out.mono ?_
            rintro e w5 ⟨x5, v5, rfl, hp5, hd5, hl5, hb5⟩
            have hR5 := hide (hR.out.below hb5)
            clear hp5 hl5 hb5 c0 c1 c2 c3' c4 hDc
            go_wp2_with fail
            refine (bd_write w.heap.size b S ⟨#[63, 10]⟩ _ (hR5.out.bd.alloc _) (by have := hfs.out; show S.size + 2 ≤ _; omega) (by rw [World.size_alloc]; have := hR5.out.low.size; omega)).mono ?_
            rintro e w6 ⟨rfl, hd6, hb6, hf6⟩
            have hR6 := hide ((hR5.out.alloc _).wrote hd6 hb6 hf6)
            clear hd6 hb6 hf6 hR5
            go_wp2
            go_roundw
            case rel => exact ⟨k + 1, x, by omega, by omega, by go_num, by rw [hnx.out, linesB_snoc, ← hSh.out]; exact hR6.out⟩
            case measure => simp [intOf]; omega
          | some q =>
            obtain ⟨d', out⟩ := q
            have hres : dcRes x.pure y = (d', out, 0) := by unfold dcRes; rw [if_pos hok, hm]
            rw [hres] at hDc
            have hnx : Hid (mFold (L.take (k + 1)) = (d', (mFold (L.take k)).2 ++ out)) := hide (by rw [hfold.out]; exact mStep_some (by rw [← hpx.out]; exact hm))
            have hfew := hide (mLine_few hok hys.out hm)
            clear hres hm hok
            go_wp2_with fail
            refine hDc.out.mono ?_
            rintro e w5 ⟨x5, v5, rfl, hp5, hd5, hl5, hb5⟩
            have hR5 := hide (hR.out.below hb5)
            have hwB := hR.out.low.size
            obtain ⟨A5, c5, hv5, hc5⟩ := hl5.slice
            subst hv5
            obtain ⟨m, hm⟩ : ∃ m, m = out.length := ⟨_, rfl⟩
            have hmh := hide hm
            rw [← hm] at hl5 ⊢
            have hL5 := hide (hl5.less hwB)
            have hD5 := hide (hd5.less hwB)
            have hP5 := hide hp5
            have hm5 : m ≤ 5000 := by rw [hm]; exact hfew.out.1
            have a0 := fun O => (row5 (alloc_old (O := O) hR5.out.box)).1
            have a1 := fun O => (row5 (alloc_old (O := O) hR5.out.box)).2.1
            have a2 := fun O => (row5 (alloc_old (O := O) hR5.out.box)).2.2.1
            have a3 := fun O => (row5 (alloc_old (O := O) hR5.out.box)).2.2.2.1
            have a4 := fun O => (row5 (alloc_old (O := O) hR5.out.box)).2.2.2.2.1
            have b0 := fun O => (row5 (alloc_old (O := O) hR5.out.box)).2.2.2.2.2 0
            have b1 := fun O => (row5 (alloc_old (O := O) hR5.out.box)).2.2.2.2.2 1
            have b2 := fun O => (row5 (alloc_old (O := O) hR5.out.box)).2.2.2.2.2 2
            have b3' := fun O => (row5 (alloc_old (O := O) hR5.out.box)).2.2.2.2.2 3
            have b4 := fun O => (row5 (alloc_old (O := O) hR5.out.box)).2.2.2.2.2 4
            clear hb5 hd5 hl5 hp5 hm c0 c1 c2 c3' c4 hDc hwB
            go_upto_region 14 with fail
            refine nameW' (φ := fun W => RS w W g b L (.slice (some ⟨b3, o3, .none⟩) N c3) x5 d' S ∧ Res strc 9 1 W w.heap.size (.slice A5 m c5) m out) ⟨by have h := (hR5.out.alloc (.cells #[.string x5.fStroke, .int .i64 x5.fStakes, .slice x5.A x5.n x5.c, .slice x5.A' x5.n' x5.c', .string x5.fLog] 29)).next (hD5.out.below ((Below.refl _ _).alloc (Nat.le_refl _) _)); rw [hP5.out] at h; exact h, set5_res (hR5.out.alloc _).box (hL5.out.below ((Below.refl _ _).alloc (Nat.le_refl _) _))⟩ ?_
            rintro W6 ⟨hr6, hl6⟩
            have hR6 := hide hr6
            have hL6 := hide hl6
            clear hr6 hl6 hR5 hL5 hD5 hP5 a0 a1 a2 a3 a4 b0 b1 b2 b3' b4
            go_wp2
            go_loopw [40] (fun i wx => ∃ j : Nat, j ≤ m ∧ i = .int .i64 (j : Int) ∧ RS w wx g b L (.slice (some ⟨b3, o3, .none⟩) N c3) x5 d' (S ++ linesB (out.take j)) ∧ Res strc 9 1 wx w.heap.size (.slice A5 m c5) m out) (fun i _ => m - (intOf i).toNat)
            case atStart => exact ⟨0, Nat.zero_le _, rfl, by rw [List.take_zero]; rw [show linesB [] = (⟨#[]⟩ : ByteArray) from rfl, app_empty]; exact hR6.out, hL6.out⟩
            case round =>
              clear hR6 hL6
              obtain ⟨j, hj, rfl, hr, hl⟩ := hrel
              have hR6 := hide hr
              have hL6 := hide hl
              clear hr
              by_cases hjl : j < m
              · obtain ⟨b7, o7, z, hA7, _, hz, cz⟩ := (hl.arr strc_len).str hjl
                subst hA7
                have hzs := hfew.out.2 z (List.mem_of_getElem? hz)
                have hnz := hide (take_snoc hz)
                have hjm : (j : Int) < (m : Int) := by omega
                obtain ⟨P, hP⟩ : ∃ P, P = linesB (out.take j) := ⟨_, rfl⟩
                have hPh := hide hP
                have hPs : P.size ≤ 167772165000 := by
                  have h1 := linesB_size (L := out.take j) (M := 33554432) (fun l hl => hfew.out.2 l (List.mem_of_mem_take hl))
                  have h2 : (out.take j).length ≤ 5000 := by rw [List.length_take]; omega
                  rw [hP]; omega
                rw [← hP] at hR6
                have hcat := fun W => cat_run z ⟨#[10]⟩ (by show z.size + 1 ≤ _; omega) W
                have hsz : (S ++ P).size + (z ++ ⟨#[10]⟩).size ≤ 140737488355328 := by
                  have h1 := hfs.out
                  have h2 : (⟨#[10]⟩ : ByteArray).size = 1 := rfl
                  rw [ba_add, ba_add, h2]
                  omega
                have hWr := hide (bd_write w.heap.size b (S ++ P) (z ++ ⟨#[10]⟩) wr hR6.out.bd hsz hR6.out.low.size)
                clear hl hz hP hsz
                go_wp2_with fail
                refine hWr.out.mono ?_
                rintro e w8 ⟨rfl, hd8, hb8, hf8⟩
                have hR8 := hide (hR6.out.wrote hd8 hb8 hf8)
                have hL8 := hide (hL6.out.bfr hR6.out.bd hf8 (by decide) (by decide))
                have hnz2 : S ++ P ++ (z ++ ⟨#[10]⟩) = S ++ linesB (out.take (j + 1)) := by rw [hnz.out, linesB_snoc, ← hPh.out, ByteArray.append_assoc]
                rw [hnz2] at hR8
                clear hnz2
                clear hd8 hb8 hf8 hR6 hL6 cz
                go_wp2
                go_roundw
                case rel => exact ⟨j + 1, by omega, by go_num, hR8.out, hL8.out⟩
                case measure => simp [intOf]; omega
              · obtain rfl : j = m := by omega
                have hjm : ¬ (j : Int) < (j : Int) := by omega
                clear hl
                rw [show out.take j = out by rw [hmh.out, List.take_length]] at hR6
                go_wp2
                go_roundw
                case rel => exact ⟨k + 1, x5, by omega, by omega, by go_num, by rw [hnx.out, linesB_app, ← hSh.out]; exact hR6.out⟩
                case measure => simp [intOf]; omega
      · obtain rfl : k = N := by omega
        have hM2 : Hid (mRun s = S) := hide (by
          rw [hM.out, if_pos hk60, hSh.out, hNh.out, List.take_of_length_le (Nat.le_refl _)])
        have hlti : ¬ (k : Int) < (k : Int) := by omega
        go_wp2_with fail
        refine (bd_string w.heap.size b _ _ hR.out.bd hR.out.low.size).mono ?_
        rintro e w5 ⟨rfl, hb5⟩
        have hB5 := hide (hR.out.low.trans hb5)
        clear hb5
        go_wp2
        go_ret
        exact ⟨by rw [hM2.out]; try rfl, hB5.out⟩
end Go.Proofs.YtfpaejlipaainaaGreatDoor
namespace Go.Proofs.YtfpaejlipaainaaGreatDoor
open Go.ChangeShapes Go.WideShapes Go.ChangeAt Go.RowKit Go.Deep
set_option maxRecDepth 100000
theorem text_any (w : World) (g m k n c : Nat) (l : List ByteArray) (hs : Src w g m) (hm : m ≤ 999999999) (hn : 0 < n) (hn' : n ≤ 1000000) (hk : k ≠ g) (hr : Arr strc 1 w w.heap.size (some ⟨k, 0, none⟩) n l) :
    Calls Tryz.prog 59 #[.pointer (some ⟨g, 0, none⟩), .slice (some ⟨k, 0, none⟩) n c] w fun e w' => ∃ x, e = .returned (.string x) ∧ x ∈ l ∧ w.grownBy w' (some g) ∧ Src w' g (m + 2) := by
  go_enter Tryz.func59, Tryz.ntmps59
  go_wp2_with fail
  refine (pick_any w g m n hs hm).mono ?_
  rintro e w1 ⟨i, rfl, hx0, hx1, hx2, hg1, hs1⟩
  have hi : i.toNat < n := by
    rcases Nat.lt_or_ge 1 n with h | h
    · have := hx2 (by omega); omega
    · have := hx1 (by omega); omega
  have hi' : i < (n : Int) := by omega
  obtain ⟨b, o, x, hbo, hb, hx, d0⟩ := hr.str hi
  obtain ⟨rfl, rfl⟩ : b = k ∧ o = 0 := by cases hbo; exact ⟨rfl, rfl⟩
  have d1 : w1.cell? ⟨b, 0 + i.toNat, none⟩ = some (.string x) := (World.cell?_of_block (hg1.block b hb (fun e => hk (by injection e)))).trans d0
  have hM := hide (List.mem_of_getElem? hx)
  have hG1 := hide hg1
  clear hg1 hx1 hx2 hbo hb hx d0 hr
  rw [Nat.zero_add] at d1
  go_wp2
  go_ret
  exact ⟨x, rfl, hM.out, hG1.out, hs1⟩
theorem lit_strs (w : World) (cs : Array Value) (T : TypeId) (l : List ByteArray) (n : Nat) (h : cs.toList = l.map Value.string) (hn : l.length = n) : Arr strc 1 (w.alloc (.cells cs T)) (w.alloc (.cells cs T)).heap.size (some ⟨w.heap.size, 0, none⟩) n l := by
  refine ⟨hn, fun _ => ⟨_, _, rfl, by simp, fun i x hx j u hu => ?_⟩⟩
  have hj : j = 0 := by have := lt_of_get hu; simp [strc] at this; exact this
  subst hj
  have hu' : u = .string x := by simpa [strc] using hu.symm
  subst hu'
  rw [cell_of_row _ _ _ _ _ _ (heap_alloc_new w _)]
  rw [← Array.getElem?_toList, h, List.getElem?_map]
  simp [hx]
end Go.Proofs.YtfpaejlipaainaaGreatDoor
namespace Go.Proofs.YtfpaejlipaainaaGreatDoor
open Go.ChangeShapes Go.WideShapes Go.ChangeAt Go.RowKit Go.Deep
set_option maxRecDepth 100000
def lineCB (y : ByteArray) : Bool := decide (y.size ≤ 100) && !(y.data.toList.contains 10)
theorem lineC_size {y : ByteArray} (h : lineCB y = true) : y.size ≤ 100 := by
  unfold lineCB at h; rw [Bool.and_eq_true] at h; exact of_decide_eq_true h.1
theorem lineC_none {y : ByteArray} (h : lineCB y = true) : ¬ (10 : UInt8) ∈ y.data.toList := by
  unfold lineCB at h; rw [Bool.and_eq_true] at h
  intro hm
  have := h.2
  rw [List.contains_iff_mem.2 hm] at this
  cases this
def DrewL1 (w : World) (g m : Nat) (e : Ending) (w' : World) : Prop := ∃ y : ByteArray, e = .returned (.string y) ∧ lineCB y = true ∧ w.grownBy w' (some g) ∧ Src w' g m
def linesC0 : List ByteArray := [⟨#[115, 116, 114, 111, 107, 101, 32, 70, 70, 66]⟩, ⟨#[115, 116, 114, 111, 107, 101, 32, 70, 66]⟩, ⟨#[115, 116, 114, 111, 107, 101, 32, 70, 70]⟩, ⟨#[115, 116, 114, 111, 107, 101, 32, 102, 98]⟩, ⟨#[115, 116, 114, 111, 107, 101]⟩, ⟨#[115, 116, 97, 107, 101, 115, 32, 54]⟩, ⟨#[115, 116, 97, 107, 101, 115, 32, 55]⟩, ⟨#[115, 116, 97, 107, 101, 115, 32, 50]⟩, ⟨#[115, 116, 97, 107, 101, 115, 32, 120]⟩, ⟨#[115, 116, 97, 107, 101, 115, 32, 54, 48]⟩]
theorem linesC0_ok : ∀ y ∈ linesC0, lineCB y = true := List.all_eq_true.1 (by decide)
def linesC1 : List ByteArray := [⟨#[114, 111, 117, 110, 100, 32, 48]⟩, ⟨#[114, 111, 117, 110, 100, 32, 49]⟩, ⟨#[114, 111, 117, 110, 100, 32, 49, 48, 49]⟩, ⟨#[114, 111, 117, 110, 100, 32, 120]⟩, ⟨#[115, 111, 117, 110, 100, 32, 49]⟩, ⟨#[115, 111, 117, 110, 100, 32, 50]⟩, ⟨#[115, 111, 117, 110, 100, 32, 49, 51]⟩, ⟨#[115, 111, 117, 110, 100]⟩, ⟨#[97, 100, 100, 32, 49]⟩, ⟨#[97, 100, 100, 32, 50]⟩, ⟨#[97, 100, 100, 32, 48]⟩, ⟨#[97, 100, 100, 32, 120]⟩]
theorem linesC1_ok : ∀ y ∈ linesC1, lineCB y = true := List.all_eq_true.1 (by decide)
def linesC2 : List ByteArray := [⟨#[106, 111, 105, 110, 115, 32, 48, 32, 53, 32, 49, 48, 32, 56]⟩, ⟨#[106, 111, 105, 110, 115, 32, 49, 32, 53, 32, 53, 32, 53]⟩, ⟨#[106, 111, 105, 110, 115, 32, 48, 32, 51]⟩, ⟨#[106, 111, 105, 110, 115, 32, 54, 32, 49, 32, 50]⟩, ⟨#[106, 111, 105, 110, 115, 32, 48]⟩, ⟨#[106, 111, 105, 110, 115, 32, 48, 32, 120]⟩, ⟨#[106, 111, 105, 110, 115, 32, 48, 32, 48]⟩]
theorem linesC2_ok : ∀ y ∈ linesC2, lineCB y = true := List.all_eq_true.1 (by decide)
def linesC3 : List ByteArray := [⟨#[119, 111, 114, 100, 32, 97, 98, 32, 48]⟩, ⟨#[119, 111, 114, 100, 32, 97, 98, 32, 49]⟩, ⟨#[119, 111, 114, 100, 32, 97, 98, 99, 32, 50]⟩, ⟨#[119, 111, 114, 100, 32, 97, 66, 32, 49]⟩, ⟨#[119, 111, 114, 100, 32, 97, 98]⟩, ⟨#[119, 111, 114, 100, 32, 97, 98, 32, 120]⟩, ⟨#[98, 114, 111, 107, 101, 110, 32, 48, 32, 49, 32, 52]⟩, ⟨#[98, 114, 111, 107, 101, 110, 32, 48, 32, 50]⟩, ⟨#[98, 114, 111, 107, 101, 110, 32, 52, 32, 49]⟩, ⟨#[98, 114, 111, 107, 101, 110, 32, 57]⟩, ⟨#[98, 114, 111, 107, 101, 110, 32, 120]⟩]
theorem linesC3_ok : ∀ y ∈ linesC3, lineCB y = true := List.all_eq_true.1 (by decide)
def linesC4 : List ByteArray := [⟨#[107, 105, 110, 100, 115, 32, 53, 32, 50, 32, 56, 32, 51]⟩, ⟨#[107, 105, 110, 100, 115, 32, 51, 32, 52]⟩, ⟨#[107, 105, 110, 100, 115, 32, 56, 32, 51, 32, 53, 32, 50]⟩, ⟨#[107, 105, 110, 100, 115, 32, 53]⟩, ⟨#[107, 105, 110, 100, 115, 32, 48, 32, 49]⟩, ⟨#[102, 101, 119, 32, 49, 50]⟩, ⟨#[102, 101, 119, 32, 49, 54]⟩, ⟨#[102, 101, 119, 32, 57, 48]⟩, ⟨#[102, 101, 119, 32, 45, 49]⟩, ⟨#[102, 101, 119, 32, 120]⟩]
theorem linesC4_ok : ∀ y ∈ linesC4, lineCB y = true := List.all_eq_true.1 (by decide)
def linesC5 : List ByteArray := [⟨#[104, 101, 97, 112, 32, 98, 114, 111, 119, 110, 32, 49, 57, 48, 48, 32, 51]⟩, ⟨#[104, 101, 97, 112, 32, 98, 114, 111, 119, 110, 32, 49, 57, 48, 50, 32, 53]⟩, ⟨#[104, 101, 97, 112, 32, 119, 104, 105, 116, 101, 32, 49, 57, 48, 49, 32, 57]⟩, ⟨#[104, 101, 97, 112, 32, 66, 114, 111, 119, 110, 32, 49, 57, 48, 48, 32, 51]⟩, ⟨#[104, 101, 97, 112, 32, 98, 114, 111, 119, 110, 32, 49, 57, 48, 48]⟩, ⟨#[104, 101, 97, 112, 32, 98, 114, 111, 119, 110, 32, 49, 57, 48, 48, 32, 49, 48, 48, 48]⟩, ⟨#[104, 101, 97, 112, 115]⟩, ⟨#[104, 101, 97, 112, 115, 32, 49]⟩]
theorem linesC5_ok : ∀ y ∈ linesC5, lineCB y = true := List.all_eq_true.1 (by decide)
def linesC6 : List ByteArray := [⟨#[101, 110, 116, 101, 114, 32, 51, 32, 115, 97, 108, 101, 115, 32, 53, 48, 48]⟩, ⟨#[101, 110, 116, 101, 114, 32, 52, 32, 115, 97, 108, 101, 115, 32, 45, 50, 48]⟩, ⟨#[101, 110, 116, 101, 114, 32, 50, 32, 99, 117, 116, 115, 32, 49]⟩, ⟨#[101, 110, 116, 101, 114, 32, 57, 32, 67, 117, 116, 115, 32, 49]⟩, ⟨#[108, 111, 103]⟩, ⟨#[108, 111, 103, 32, 49]⟩, ⟨#[]⟩, ⟨#[98, 111, 111, 116]⟩]
theorem linesC6_ok : ∀ y ∈ linesC6, lineCB y = true := List.all_eq_true.1 (by decide)
set_option maxHeartbeats 8000000 in
theorem line28_any (w : World) (g m : Nat) (hs : Src w g m) (hm : m ≤ 900000000) :
    Calls Tryz.prog 25 #[.pointer (some ⟨g, 0, none⟩)] w fun e w' => DrewL1 w g (m + 20) e w' := by
  go_enter Tryz.func25, Tryz.ntmps25
  go_wp2_with fail
  refine (pick_any _ g _ _ hs (by omega)).mono ?_
  rintro e w2 ⟨y, rfl, u0, _, u2, hg, hs2⟩
  have hD : Hid (PS w w2 g (m + 2)) := hide ((PS.first hs).step hg hs2)
  clear hg hs2 hs
  have u3 := u2 (by omega)
  clear u2
  by_cases hy0 : y = 0
  · subst hy0
    go_wp2_with fail
    refine (text_any _ g _ _ 10 _ linesC0 (hD.out.2.2.alloc _) (by omega) (by omega) (by omega) (Nat.ne_of_gt hD.out.2.2.lt) (lit_strs _ _ _ _ _ rfl rfl)).mono ?_
    rintro e w3 ⟨s, rfl, hs, hg0, hs3⟩
    have hg := grown_two (World.grownBy_alloc _ _ _) hg0
    have hD2 := hide (hD.out.step hg hs3)
    have hso := hide (linesC0_ok s hs)
    clear hg hg0 hs hs3 hD
    go_wp2
    go_ret
    exact ⟨s, rfl, hso.out, hD2.out.1, hD2.out.2.2.more (by omega)⟩
  by_cases hy1 : y = 1
  · subst hy1
    go_wp2_with fail
    refine (text_any _ g _ _ 12 _ linesC1 (hD.out.2.2.alloc _) (by omega) (by omega) (by omega) (Nat.ne_of_gt hD.out.2.2.lt) (lit_strs _ _ _ _ _ rfl rfl)).mono ?_
    rintro e w3 ⟨s, rfl, hs, hg0, hs3⟩
    have hg := grown_two (World.grownBy_alloc _ _ _) hg0
    have hD2 := hide (hD.out.step hg hs3)
    have hso := hide (linesC1_ok s hs)
    clear hg hg0 hs hs3 hD
    go_wp2
    go_ret
    exact ⟨s, rfl, hso.out, hD2.out.1, hD2.out.2.2.more (by omega)⟩
  by_cases hy2 : y = 2
  · subst hy2
    go_wp2_with fail
    refine (text_any _ g _ _ 7 _ linesC2 (hD.out.2.2.alloc _) (by omega) (by omega) (by omega) (Nat.ne_of_gt hD.out.2.2.lt) (lit_strs _ _ _ _ _ rfl rfl)).mono ?_
    rintro e w3 ⟨s, rfl, hs, hg0, hs3⟩
    have hg := grown_two (World.grownBy_alloc _ _ _) hg0
    have hD2 := hide (hD.out.step hg hs3)
    have hso := hide (linesC2_ok s hs)
    clear hg hg0 hs hs3 hD
    go_wp2
    go_ret
    exact ⟨s, rfl, hso.out, hD2.out.1, hD2.out.2.2.more (by omega)⟩
  by_cases hy3 : y = 3
  · subst hy3
    go_wp2_with fail
    refine (text_any _ g _ _ 11 _ linesC3 (hD.out.2.2.alloc _) (by omega) (by omega) (by omega) (Nat.ne_of_gt hD.out.2.2.lt) (lit_strs _ _ _ _ _ rfl rfl)).mono ?_
    rintro e w3 ⟨s, rfl, hs, hg0, hs3⟩
    have hg := grown_two (World.grownBy_alloc _ _ _) hg0
    have hD2 := hide (hD.out.step hg hs3)
    have hso := hide (linesC3_ok s hs)
    clear hg hg0 hs hs3 hD
    go_wp2
    go_ret
    exact ⟨s, rfl, hso.out, hD2.out.1, hD2.out.2.2.more (by omega)⟩
  by_cases hy4 : y = 4
  · subst hy4
    go_wp2_with fail
    refine (text_any _ g _ _ 10 _ linesC4 (hD.out.2.2.alloc _) (by omega) (by omega) (by omega) (Nat.ne_of_gt hD.out.2.2.lt) (lit_strs _ _ _ _ _ rfl rfl)).mono ?_
    rintro e w3 ⟨s, rfl, hs, hg0, hs3⟩
    have hg := grown_two (World.grownBy_alloc _ _ _) hg0
    have hD2 := hide (hD.out.step hg hs3)
    have hso := hide (linesC4_ok s hs)
    clear hg hg0 hs hs3 hD
    go_wp2
    go_ret
    exact ⟨s, rfl, hso.out, hD2.out.1, hD2.out.2.2.more (by omega)⟩
  by_cases hy5 : y = 5
  · subst hy5
    go_wp2_with fail
    refine (text_any _ g _ _ 8 _ linesC5 (hD.out.2.2.alloc _) (by omega) (by omega) (by omega) (Nat.ne_of_gt hD.out.2.2.lt) (lit_strs _ _ _ _ _ rfl rfl)).mono ?_
    rintro e w3 ⟨s, rfl, hs, hg0, hs3⟩
    have hg := grown_two (World.grownBy_alloc _ _ _) hg0
    have hD2 := hide (hD.out.step hg hs3)
    have hso := hide (linesC5_ok s hs)
    clear hg hg0 hs hs3 hD
    go_wp2
    go_ret
    exact ⟨s, rfl, hso.out, hD2.out.1, hD2.out.2.2.more (by omega)⟩
  · obtain rfl : y = 6 := by omega
    go_wp2_with fail
    refine (text_any _ g _ _ 8 _ linesC6 (hD.out.2.2.alloc _) (by omega) (by omega) (by omega) (Nat.ne_of_gt hD.out.2.2.lt) (lit_strs _ _ _ _ _ rfl rfl)).mono ?_
    rintro e w3 ⟨s, rfl, hs, hg0, hs3⟩
    have hg := grown_two (World.grownBy_alloc _ _ _) hg0
    have hD2 := hide (hD.out.step hg hs3)
    have hso := hide (linesC6_ok s hs)
    clear hg hg0 hs hs3 hD
    go_wp2
    go_ret
    exact ⟨s, rfl, hso.out, hD2.out.1, hD2.out.2.2.more (by omega)⟩
def DrewLn (w : World) (e : Ending) (w' : World) : Prop := ∃ (A : Option Addr) (n c : Nat) (l : List ByteArray), e = .returned (.slice A n c) ∧ Arr strc 1 w' w'.heap.size A n l ∧ (∀ y ∈ l, lineCB y = true) ∧ n ≤ 8 ∧ n ≤ c ∧ Below w.heap.size w w'
theorem info_strcn : (Tryz.prog.info? 9).map (fun i => (i.zero, i.size, i.bytes)) = some (some (.string ByteArray.empty), 1, 16) := by kernel_rfl
set_option maxHeartbeats 4000000 in
theorem a2Lines_any (w : World) (A : Option Addr) (n c : Nat) (l : List Int) (hr : Arr u8c 1 w w.heap.size A n l) (hl : byteL l) (hc : c ≤ maxLen) (hn : n ≤ c) :
    Calls Tryz.prog 7 #[.slice A n c] w fun e w' => DrewLn w e w' := by
  go_enter Tryz.func7, Tryz.ntmps7
  go_wp2_with fail
  refine (from_any _ A n c l hr hl hc hn).mono ?_
  rintro e w1 ⟨rfl, hb, hsz, hs1⟩
  have hD : Hid (DS w w1 w.heap.size 0) := hide ⟨hb, Nat.le_refl _, hs1⟩
  have hg1 : Hid (w.heap.size < w1.heap.size) := hide hs1.lt
  have hww : Hid (w.heap.size ≤ w1.heap.size) := hide hb.size
  obtain ⟨g, hg⟩ : ∃ g, g = w.heap.size := ⟨_, rfl⟩
  rw [← hg] at hD hg1 ⊢
  have hO := hide (Own.none_made (cells := strc) (e := 9) (s := 1) w1 (Nat.le_refl _))
  replace hD := hide (hD.out.alloc (.cells #[] 9))
  clear hb hs1 hg hsz
  go_wp2_with fail
  refine (pick_any _ g _ _ hD.out.2.2 (by omega)).mono ?_
  rintro e w2 ⟨N, rfl, x0, _, x2, hg, hs⟩
  replace hO := hide (hO.out.src hg1.out hg)
  replace hD := hide (hD.out.step hg hs)
  have hw2 : Hid (w1.heap.size ≤ w2.heap.size) := hide (by have := hg.size; rw [World.size_alloc] at this; omega)
  clear hg hs
  have x3 := x2 (by omega)
  clear x2
  go_wp2
  go_loopw [4, 5] (fun v i wr => ∃ (j : Nat) (a : List ByteArray), (j : Int) ≤ N ∧ i = .int .i64 (N - j) ∧ DS w wr g (2 + 40 * j) ∧ Own strc 9 1 wr w1.heap.size v j a ∧ (∀ y ∈ a, lineCB y = true) ∧ w1.heap.size ≤ wr.heap.size) (fun _ i _ => (intOf i).toNat)
  case atStart => exact ⟨0, [], by omega, by simp, ⟨hD.out.1, hD.out.2.1, hD.out.2.2.more (by omega)⟩, hO.out, (fun y hy => by cases hy), hw2.out⟩
  case round =>
    obtain ⟨j, a, hj, rfl, hd, ho, hI, hsw⟩ := hrel
    replace hO := hide ho
    replace hD := hide hd
    have hF := hide hI
    clear hd ho hI
    by_cases hlt : 0 < N - j
    · have hlt' : (j : Int) < N := by omega
      have hwj : IntKind.i64.wrap (N - (j : Int) - 1) = N - (j : Int) - 1 := IntWalk.i64_in _ (by omega)
      go_wp2_with fail
      refine (line28_any _ g _ hD.out.2.2 (by omega)).mono ?_
      rintro e w3 ⟨y, rfl, hy, hg, hs⟩
      replace hO := hide (hO.out.src hg1.out hg)
      replace hD := hide (hD.out.step hg hs)
      have hbs : Hid (w1.heap.size ≤ w3.heap.size) := hide (Nat.le_trans hsw hg.size)
      clear hg hs
      go_wp2_with (at_builtin; refine wpl_app1H w3.heap.size rfl rfl (.tmp 15) (.tmp 18) rfl Tryz.underlying24 info_strcn rfl (by omega) (by omega) strc_len strc_one rfl hO.out y _ rfl rfl (by omega) hbs.out ?_; intro v5 w5 ho5 hg5 _; have hD5 := hide (hD.out.row hO.out hg1.out hg5); have hbs5 : Hid (w1.heap.size ≤ w5.heap.size) := hide (by have h := hg5.size; have h2 := hbs.out; omega); have hO5 := hide ho5; clear ho5 hg5)
      go_roundw
      case rel => exact ⟨j + 1, a ++ [y], by omega, by go_num, ⟨hD5.out.1, hD5.out.2.1, hD5.out.2.2.more (by omega)⟩, hO5.out, (fun z hz => by
        rcases List.mem_append.1 hz with h | h
        · exact hF.out z h
        · rw [List.mem_singleton.1 h]; exact hy), hbs5.out⟩
      case measure => simp [intOf]; omega
    · obtain ⟨C0, d0, hv0, hcap⟩ := hO.out.slice
      have hR0 := hO.out
      rw [hv0] at hR0
      have hV0 := hide hv0
      have hR1 := hide hR0
      clear hv0 hR0
      go_wp2
      go_ret
      exact ⟨C0, j, d0, a, by rw [← hV0.out]; rfl, hR1.out.arr strc_len, hF.out, by omega, hcap, hD.out.1⟩
end Go.Proofs.YtfpaejlipaainaaGreatDoor
namespace Go.Proofs.YtfpaejlipaainaaGreatDoor
open Go.ChangeShapes Go.WideShapes Go.ChangeAt Go.RowKit Go.Deep
set_option maxRecDepth 100000
theorem DeskV.fits.go {x : DeskV} {w w' : World} (h : x.fits w) (hb : Below w.heap.size w w') : x.fits w' := ⟨h.kinds.go hb, h.heaps.go hb, h.nk, h.nh, h.kfit, h.fit, h.s0, h.s4⟩
end Go.Proofs.YtfpaejlipaainaaGreatDoor
