/- Texts that belong together, joined: contracts and plain laws. No statement is proved here. -/
import Derived.Test.YtfpaejlipaainaaGreatDoorM19
namespace Go.Proofs.YtfpaejlipaainaaGreatDoor
open Go.ChangeShapes Go.WideShapes Go.ChangeAt Go.RowKit Go.Deep
set_option maxRecDepth 100000
def noM : DeskM := ⟨⟨#[]⟩, 0, [], [], ⟨#[]⟩⟩
def dcRes (d : DeskM) (s : ByteArray) : DeskM × List ByteArray × Int := if d.ok then (match mLine d s with
  | none => (noM, [], 7)
  | some q => (q.1, q.2, 0)) else (noM, [], 1)
def DcPost (w : World) (r : DeskM × List ByteArray × Int) (e : Ending) (w' : World) : Prop :=
  ∃ (x' : DeskV) (v : Value), e = .returned (.tuple #[.agg #[.string x'.fStroke, .int .i64 x'.fStakes, .slice x'.A x'.n x'.c, .slice x'.A' x'.n' x'.c', .string x'.fLog], v, .int .i64 r.2.2]) ∧ x'.pure = r.1 ∧ DV w' w.heap.size x' ∧ Res strc 9 1 w' w.heap.size v r.2.1.length r.2.1 ∧ Below w.heap.size w w'
theorem DV.none (w : World) (base : Nat) : DV w base ⟨⟨#[]⟩, 0, none, 0, 0, [], none, 0, 0, [], ⟨#[]⟩⟩ := ⟨Res.empty (Nat.zero_le _), Res.empty (Nat.zero_le _), Nat.zero_le _, Nat.zero_le _, fun h hh => (by cases hh)⟩
def set5 (w : World) (g : Nat) (a0 a1 a2 a3 a4 : Value) : World := ((((w.setCell ⟨g, 0, .none⟩ a0).setCell ⟨g, 1, .none⟩ a1).setCell ⟨g, 2, .none⟩ a2).setCell ⟨g, 3, .none⟩ a3).setCell ⟨g, 4, .none⟩ a4
section
variable {w : World} {base g : Nat} {a0 a1 a2 a3 a4 b0 b1 b2 b3 b4 : Value} {x : DeskV}
theorem DV.setG (h : DV w base x) {cs : Array Value} (hK : w.heap[g]? = some (.cells cs 29 (0, 0))) (i : Nat) (u : Value) : DV (w.setCell ⟨g, i, .none⟩ u) base x := ⟨h.k.set hK (by decide), h.h.set hK (by decide), h.nk, h.nh, h.fit⟩
theorem set5_row (h : w.heap[g]? = some (.cells #[b0, b1, b2, b3, b4] 29 (0, 0))) : (set5 w g a0 a1 a2 a3 a4).heap[g]? = some (.cells #[a0, a1, a2, a3, a4] 29 (0, 0)) := box_set (box_set (box_set (box_set (box_set h 0 a0) 1 a1) 2 a2) 3 a3) 4 a4
theorem set5_dv (h : w.heap[g]? = some (.cells #[b0, b1, b2, b3, b4] 29 (0, 0))) (hd : DV w base x) : DV (set5 w g a0 a1 a2 a3 a4) base x :=
  ((((hd.setG h 0 a0).setG (box_set h 0 a0) 1 a1).setG (box_set (box_set h 0 a0) 1 a1) 2 a2).setG (box_set (box_set (box_set h 0 a0) 1 a1) 2 a2) 3 a3).setG (box_set (box_set (box_set (box_set h 0 a0) 1 a1) 2 a2) 3 a3) 4 a4
theorem set5_res {v : Value} {n : Nat} {l : List ByteArray} (h : w.heap[g]? = some (.cells #[b0, b1, b2, b3, b4] 29 (0, 0))) (hd : Res strc 9 1 w base v n l) : Res strc 9 1 (set5 w g a0 a1 a2 a3 a4) base v n l :=
  ((((hd.set h (i := 0) (u := a0) (by decide)).set (box_set h 0 a0) (i := 1) (u := a1) (by decide)).set (box_set (box_set h 0 a0) 1 a1) (i := 2) (u := a2) (by decide)).set (box_set (box_set (box_set h 0 a0) 1 a1) 2 a2) (i := 3) (u := a3) (by decide)).set (box_set (box_set (box_set (box_set h 0 a0) 1 a1) 2 a2) 3 a3) (i := 4) (u := a4) (by decide)
theorem set5_below {B : Nat} {w0 : World} (h : Below B w0 w) (hg : B ≤ g) : Below B w0 (set5 w g a0 a1 a2 a3 a4) :=
  ((((h.setCell (p := ⟨g, 0, .none⟩) hg a0).setCell (p := ⟨g, 1, .none⟩) hg a1).setCell (p := ⟨g, 2, .none⟩) hg a2).setCell (p := ⟨g, 3, .none⟩) hg a3).setCell (p := ⟨g, 4, .none⟩) hg a4
end
theorem mLine_nofit {d : DeskM} {s y0 : ByteArray} {T : List ByteArray} (hT : words 32 s = y0 :: T) (hf : hasCnt y0 (words 32 s).length = false) : mLine d s = none := by
  unfold hasCnt at hf
  unfold mLine
  have h1 : (words 32 s).headD ⟨#[]⟩ = y0 := by rw [hT]; rfl
  rw [h1]
  split
  · rfl
  · rename_i c hc
    rw [hc] at hf
    simp only at hf
    rw [if_neg (by rw [hf]; decide)]
theorem mLine_fit {d : DeskM} {s y0 : ByteArray} {T : List ByteArray} {c : Cmd} (hT : words 32 s = y0 :: T) (hc : cmdOf y0 = some c) (hf : c.fits (words 32 s).length = true) : mLine d s = if (mDo d c (words 32 s)).2.2 = 0 then some ((mDo d c (words 32 s)).1, (mDo d c (words 32 s)).2.1) else some (d, [errB (mDo d c (words 32 s)).2.2]) := by
  unfold mLine
  have h1 : (words 32 s).headD ⟨#[]⟩ = y0 := by rw [hT]; rfl
  rw [h1, hc]
  simp only
  rw [if_pos hf]
theorem codeB_size (n : Int) : (⟨#[101, 114, 114, 111, 114, 32]⟩ : ByteArray).size + (codeB n).size ≤ 9223372036854775807 := by
  unfold codeB
  repeat' split
  all_goals decide
theorem spl_join (c : UInt8) : ∀ (l cur : List UInt8), Lib.join (spl c cur l) [c] = cur ++ l
  | [], cur => by rw [spl, Lib.join_one, List.append_nil]
  | b :: r, cur => by
    unfold spl
    split
    · rename_i h
      subst h
      obtain ⟨y, t, hy⟩ := List.exists_cons_of_ne_nil (spl_ne b [] r)
      have ih := spl_join b r []
      rw [hy, Lib.join_cons] at ih
      rw [hy, Lib.join_cons]
      rw [List.nil_append] at ih
      rw [show Lib.joinTail [b] (y :: t) = b :: (y ++ Lib.joinTail [b] t) by simp [Lib.joinTail], ih]
    · rw [spl_join c r (cur ++ [b])]
      simp
theorem tail_size {s y0 : ByteArray} {T : List ByteArray} (h : words 32 s = y0 :: T) : (Lib.join (T.map (·.data.toList)) [32]).length ≤ s.size ∧ (joinSp T).size ≤ s.size := by
  have h1 := spl_join 32 s.data.toList []
  have h2 : (words 32 s).map (·.data.toList) = spl 32 [] s.data.toList := by
    unfold words
    rw [List.map_map]
    conv => rhs; rw [← List.map_id (spl 32 [] s.data.toList)]
    exact List.map_congr_left fun x _ => by simp
  rw [← h2, h, List.map_cons, Lib.join_cons, List.nil_append] at h1
  have h3 := congrArg List.length h1
  rw [List.length_append] at h3
  have h4 : s.data.toList.length = s.size := (Lib.size_eq s).symm
  have h5 : (Lib.join (T.map (·.data.toList)) [32]).length ≤ (Lib.joinTail [32] (T.map (·.data.toList))).length := by
    cases T with
    | nil => exact Nat.le_refl _
    | cons y t =>
      rw [List.map_cons, Lib.join_cons]
      simp [Lib.joinTail]
  refine ⟨by omega, ?_⟩
  have : (joinSp T).size = (Lib.join (T.map (·.data.toList)) [32]).length := by rw [Lib.size_eq]; rfl
  omega
theorem str_yes {a : ByteArray} {l : List UInt8} (h : a = ⟨l.toArray⟩) : (a.toList == l) = true := by
  subst h
  simp
theorem DV.less {w : World} {base B : Nat} {x : DeskV} (h : DV w base x) (hB : B ≤ base) : DV w B x := ⟨h.k.less hB, h.h.less hB, h.nk, h.nh, h.fit⟩
theorem word0 {W : World} {base b o n c : Nat} {l T : List ByteArray} {z : ByteArray} (h : Res strc 9 1 W base (.slice (some ⟨b, o, .none⟩) n c) n l) (hn : 0 < n) (hT : l = z :: T) : W.cell? ⟨b, o, .none⟩ = some (.string z) := by
  obtain ⟨b', o', z', hA, _, hz, hc⟩ := (h.arr strc_len).str hn
  injection hA with hA; injection hA with e1 e2; subst e1 e2
  rw [hT] at hz
  have : z' = z := (Option.some.inj hz).symm
  subst this
  exact hc
theorem Res.other {α : Type} {cells : α → List Value} {e n base g : Nat} {s : Nat} {v : Value} {l : List α} {cs : Array Value} {w w' : World} (h : Res cells e s w base v n l) (hK : w.heap[g]? = some (.cells cs 29 (0, 0))) (he : e ≠ 29) (hg : w.grownBy w' (some g)) : Res cells e s w' base v n l :=
  ⟨h.1, h.2.1, fun hn => (h.2.2 hn).kept hg (.inr (own_ty (h.2.2 hn) hK he))⟩
theorem hasCnt_some {y0 : ByteArray} {n : Nat} (h : hasCnt y0 n = true) : ∃ c : Cmd, y0 = c.word ∧ c.fits n = true := by
  unfold hasCnt at h
  split at h
  · rename_i c hc
    exact ⟨c, cmdOf_some hc, h⟩
  · cases h
theorem dc_plain {d : DeskM} {s y0 : ByteArray} {T : List ByteArray} {c : Cmd} (hok : d.ok = true) (hT : words 32 s = y0 :: T) (hc : y0 = c.word) (hf : hasCnt y0 (words 32 s).length = true) : dcRes d s = (if (mDo d c (words 32 s)).2.2 = 0 then ((mDo d c (words 32 s)).1, (mDo d c (words 32 s)).2.1, 0) else (d, [errB (mDo d c (words 32 s)).2.2], 0)) := by
  have h2 : c.fits (words 32 s).length = true := by rw [hc, hasCnt_word] at hf; exact hf
  unfold dcRes
  rw [if_pos hok, mLine_fit hT (by rw [hc]; exact cmdOf_word c) h2]
  by_cases hz : (mDo d c (words 32 s)).2.2 = 0
  · rw [if_pos hz, if_pos hz]
  · rw [if_neg hz, if_neg hz]
set_option maxHeartbeats 4000000 in
theorem iDc_bad (x : DeskV) (s : ByteArray) (w : World) (hG : Gl w) (hx : x.good w w.heap.size) (hs0 : x.fStroke.size ≤ maxLen) (_ : s.size ≤ 1048576) (hok : x.pure.ok = false) :
    Calls Tryz.prog 9 #[.agg #[.string x.fStroke, .int .i64 x.fStakes, .slice x.A x.n x.c, .slice x.A' x.n' x.c', .string x.fLog], .string s] w fun e w' => DcPost w (dcRes x.pure s) e w' := by
  have hM : Hid (dcRes x.pure s = (noM, [], 1)) := hide (by unfold dcRes; rw [hok]; rfl)
  have hxh := hide hx
  have hGh := hide hG
  clear hx hG
  go_enter Tryz.func9, Tryz.ntmps9
  go_upto_region 1 with fail
  obtain ⟨W0, hW0⟩ : ∃ W0, W0 = ((w.alloc (Obj.cells #[Value.string x.fStroke, Value.int IntKind.i64 x.fStakes, Value.slice x.A x.n x.c, Value.slice x.A' x.n' x.c', Value.string x.fLog] 29)).alloc (Obj.cells #[Value.string ⟨#[]⟩, Value.int IntKind.i64 0, Value.slice none 0 0, Value.slice none 0 0, Value.string ⟨#[]⟩] 29)) := ⟨_, rfl⟩
  have hB0 := hide (show Below w.heap.size w W0 by rw [hW0]; go_grown)
  have k0 := hide (show W0.heap[w.heap.size]? = some (.cells #[Value.string x.fStroke, Value.int IntKind.i64 x.fStakes, Value.slice x.A x.n x.c, Value.slice x.A' x.n' x.c', Value.string x.fLog] 29 (0, 0)) by rw [hW0]; exact alloc_old (heap_alloc_new w _))
  have k1 := hide (show W0.heap[w.heap.size + 1]? = some (.cells #[Value.string ⟨#[]⟩, Value.int IntKind.i64 0, Value.slice none 0 0, Value.slice none 0 0, Value.string ⟨#[]⟩] 29 (0, 0)) by rw [hW0]; exact alloc_at (by simp))
  rw [← hW0]
  clear hW0
  obtain ⟨c0, c1, c2, c3, c4, cf⟩ := row5 k0.out
  go_wp2_with fail
  refine (iValid_any x _ (hGh.out.below hB0.out) (hxh.out.go hB0.out) hs0).mono ?_
  rw [deskOk_pure, hok]
  rintro e w1 ⟨rfl, hb⟩
  have hB1 := hide (hB0.out.trans (hb.mono hB0.out.size))
  have k0b := hide (keepr k0.out hb)
  have k1b := hide (keepr k1.out hb)
  clear hb c0 c1 c2 c3 c4 cf k0 k1
  obtain ⟨r0, r1, r2, r3, r4, rf⟩ := row5 k1b.out
  have rf0 := rf 0; have rf1 := rf 1; have rf2 := rf 2; have rf3 := rf 3; have rf4 := rf 4
  clear rf
  go_wp2_with fail
  have hrow := set5_row (a0 := .string ⟨#[]⟩) (a1 := .int .i64 0) (a2 := .slice none 0 0) (a3 := .slice none 0 0) (a4 := .string ⟨#[]⟩) k1b.out
  obtain ⟨q0, q1, q2, q3, q4, _⟩ := row5 hrow
  unfold set5 at q0 q1 q2 q3 q4
  refine bodyPost_ret (v := .tuple #[.agg #[Value.string ⟨#[]⟩, Value.int IntKind.i64 0, Value.slice none 0 0, Value.slice none 0 0, Value.string ⟨#[]⟩], .slice none 0 0, .int .i64 1]) (by simp [results, Tryz.results9, go_sem, q0, q1, q2, q3, q4]) rfl ?_
  exact ⟨_, _, by rw [hM.out], by rw [hM.out]; rfl, DV.none _ _, by rw [hM.out]; exact Res.empty (Nat.zero_le _), set5_below hB1.out (by omega)⟩
set_option maxHeartbeats 4000000 in
theorem iDc_nofit (x : DeskV) (s : ByteArray) (w : World) (hG : Gl w) (hx : x.good w w.heap.size) (hs0 : x.fStroke.size ≤ maxLen) (hls : s.size ≤ 1048576) (hok : x.pure.ok = true) (y0 : ByteArray) (T : List ByteArray) (hT : Hid (words 32 s = y0 :: T)) (hf : hasCnt y0 (words 32 s).length = false) :
    Calls Tryz.prog 9 #[.agg #[.string x.fStroke, .int .i64 x.fStakes, .slice x.A x.n x.c, .slice x.A' x.n' x.c', .string x.fLog], .string s] w fun e w' => DcPost w (dcRes x.pure s) e w' := by
  have hM : Hid (dcRes x.pure s = (noM, [], 7)) := hide (by unfold dcRes; rw [hok, mLine_nofit hT.out hf]; rfl)
  have hxh := hide hx
  have hGh := hide hG
  clear hx hG
  go_enter Tryz.func9, Tryz.ntmps9
  go_upto_region 1 with fail
  obtain ⟨W0, hW0⟩ : ∃ W0, W0 = ((w.alloc (Obj.cells #[Value.string x.fStroke, Value.int IntKind.i64 x.fStakes, Value.slice x.A x.n x.c, Value.slice x.A' x.n' x.c', Value.string x.fLog] 29)).alloc (Obj.cells #[Value.string ⟨#[]⟩, Value.int IntKind.i64 0, Value.slice none 0 0, Value.slice none 0 0, Value.string ⟨#[]⟩] 29)) := ⟨_, rfl⟩
  have hB0 := hide (show Below w.heap.size w W0 by rw [hW0]; go_grown)
  have k0 := hide (show W0.heap[w.heap.size]? = some (.cells #[Value.string x.fStroke, Value.int IntKind.i64 x.fStakes, Value.slice x.A x.n x.c, Value.slice x.A' x.n' x.c', Value.string x.fLog] 29 (0, 0)) by rw [hW0]; exact alloc_old (heap_alloc_new w _))
  have k1 := hide (show W0.heap[w.heap.size + 1]? = some (.cells #[Value.string ⟨#[]⟩, Value.int IntKind.i64 0, Value.slice none 0 0, Value.slice none 0 0, Value.string ⟨#[]⟩] 29 (0, 0)) by rw [hW0]; exact alloc_at (by simp))
  rw [← hW0]
  clear hW0
  obtain ⟨c0, c1, c2, c3, c4, cf⟩ := row5 k0.out
  go_wp2_with fail
  refine (iValid_any x _ (hGh.out.below hB0.out) (hxh.out.go hB0.out) hs0).mono ?_
  rw [deskOk_pure, hok]
  rintro e w1 ⟨rfl, hb⟩
  have hB1 := hide (hB0.out.trans (hb.mono hB0.out.size))
  have k0b := hide (keepr k0.out hb)
  have k1b := hide (keepr k1.out hb)
  clear hb c0 c1 c2 c3 c4 cf k0 k1
  obtain ⟨nw, hnw⟩ : ∃ nw, nw = (words 32 s).length := ⟨_, rfl⟩
  have hnwb : nw ≤ 1048577 := by have := words_le 32 s; omega
  have hnwh := hide hnw
  rw [← hnw] at hf
  go_wp2_with fail
  refine (iSplit_any 32 s _ hls (hGh.out.below hB1.out)).mono ?_
  rw [← hnw]
  rintro e w2 ⟨v2, rfl, ho2, hb⟩
  have hB2 := hide (hB1.out.trans (hb.mono hB1.out.size))
  have k0c := hide (keepr k0b.out hb)
  have k1c := hide (keepr k1b.out hb)
  obtain ⟨A2, cw2, hv2, hc2⟩ := ho2.slice
  subst hv2
  have hW2 := hide (ho2.less hB1.out.size)
  have hn0 : 0 < nw := by rw [← ho2.len, hT.out]; simp
  have hn0i : (0 : Int) < (nw : Int) := by omega
  obtain ⟨bw, ow, z0, hAw, hbw, hz0, cw0⟩ := (ho2.arr strc_len).str hn0
  rw [hT.out] at hz0
  have hz00 : z0 = y0 := (Option.some.inj hz0).symm
  subst hz00
  subst hAw
  simp only [Nat.add_zero] at cw0
  clear hb ho2 hz0 hnw hB1 k0b k1b
  obtain ⟨r0, r1, r2, r3, r4, rf⟩ := row5 k1c.out
  have rf0 := rf 0; have rf1 := rf 1; have rf2 := rf 2; have rf3 := rf 3; have rf4 := rf 4
  clear rf
  go_wp2_with (go_at_call 28; refine (iCount_any z0 nw _).mono ?_; rw [hf]; rintro e w3 ⟨rfl, rfl⟩)
  have hrow := set5_row (a0 := .string ⟨#[]⟩) (a1 := .int .i64 0) (a2 := .slice none 0 0) (a3 := .slice none 0 0) (a4 := .string ⟨#[]⟩) k1c.out
  obtain ⟨q0, q1, q2, q3, q4, _⟩ := row5 hrow
  unfold set5 at q0 q1 q2 q3 q4
  refine bodyPost_ret (v := .tuple #[.agg #[Value.string ⟨#[]⟩, Value.int IntKind.i64 0, Value.slice none 0 0, Value.slice none 0 0, Value.string ⟨#[]⟩], .slice none 0 0, .int .i64 7]) (by simp [results, Tryz.results9, go_sem, q0, q1, q2, q3, q4]) rfl ?_
  exact ⟨_, _, by rw [hM.out], by rw [hM.out]; rfl, DV.none _ _, by rw [hM.out]; exact Res.empty (Nat.zero_le _), set5_below hB2.out (by omega)⟩
set_option maxHeartbeats 4000000 in
theorem iDc_stroke0 (x : DeskV) (s : ByteArray) (w : World) (hG : Gl w) (hx : x.good w w.heap.size) (hs0 : x.fStroke.size ≤ maxLen) (hls : s.size ≤ 1048576) (hok : x.pure.ok = true) (T : List ByteArray) (hT : Hid (words 32 s = (⟨#[115, 116, 114, 111, 107, 101]⟩ : ByteArray) :: T)) (hf : hasCnt (⟨#[115, 116, 114, 111, 107, 101]⟩ : ByteArray) (words 32 s).length = true) (hz : (mText x.pure .cStroke (joinSp T)).2.2 = 0) :
    Calls Tryz.prog 9 #[.agg #[.string x.fStroke, .int .i64 x.fStakes, .slice x.A x.n x.c, .slice x.A' x.n' x.c', .string x.fLog], .string s] w fun e w' => DcPost w (dcRes x.pure s) e w' := by
  obtain ⟨R, hR⟩ : ∃ R, R = mText x.pure .cStroke (joinSp T) := ⟨_, rfl⟩
  rw [← hR] at hz
  have hRh := hide hR
  have hDo : mDo x.pure .cStroke (words 32 s) = R := by unfold mDo; rw [if_pos (show Cmd.plain .cStroke = true from rfl), hT.out, hR]; rfl
  have hM : Hid (dcRes x.pure s = (R.1, R.2.1, 0)) := hide (by rw [dc_plain (c := .cStroke) hok hT.out rfl hf, hDo, if_pos hz])
  obtain ⟨R1, R2, R3⟩ := R
  obtain rfl : R3 = 0 := hz
  clear hDo hR
  have hxh := hide hx
  have hGh := hide hG
  clear hx hG
  go_enter Tryz.func9, Tryz.ntmps9
  go_upto_region 1 with fail
  obtain ⟨W0, hW0⟩ : ∃ W0, W0 = ((w.alloc (Obj.cells #[Value.string x.fStroke, Value.int IntKind.i64 x.fStakes, Value.slice x.A x.n x.c, Value.slice x.A' x.n' x.c', Value.string x.fLog] 29)).alloc (Obj.cells #[Value.string ⟨#[]⟩, Value.int IntKind.i64 0, Value.slice none 0 0, Value.slice none 0 0, Value.string ⟨#[]⟩] 29)) := ⟨_, rfl⟩
  have hB0 := hide (show Below w.heap.size w W0 by rw [hW0]; go_grown)
  have k0 := hide (show W0.heap[w.heap.size]? = some (.cells #[Value.string x.fStroke, Value.int IntKind.i64 x.fStakes, Value.slice x.A x.n x.c, Value.slice x.A' x.n' x.c', Value.string x.fLog] 29 (0, 0)) by rw [hW0]; exact alloc_old (heap_alloc_new w _))
  have k1 := hide (show W0.heap[w.heap.size + 1]? = some (.cells #[Value.string ⟨#[]⟩, Value.int IntKind.i64 0, Value.slice none 0 0, Value.slice none 0 0, Value.string ⟨#[]⟩] 29 (0, 0)) by rw [hW0]; exact alloc_at (by simp))
  rw [← hW0]
  clear hW0
  obtain ⟨c0, c1, c2, c3, c4, cf⟩ := row5 k0.out
  go_wp2_with fail
  refine (iValid_any x _ (hGh.out.below hB0.out) (hxh.out.go hB0.out) hs0).mono ?_
  rw [deskOk_pure, hok]
  rintro e w1 ⟨rfl, hb⟩
  have hB1 := hide (hB0.out.trans (hb.mono hB0.out.size))
  have k0b := hide (keepr k0.out hb)
  have k1b := hide (keepr k1.out hb)
  clear hb c0 c1 c2 c3 c4 cf k0 k1
  obtain ⟨nw, hnw⟩ : ∃ nw, nw = (words 32 s).length := ⟨_, rfl⟩
  have hnwb : nw ≤ 1048577 := by have := words_le 32 s; omega
  have hnwh := hide hnw
  rw [← hnw] at hf
  go_wp2_with fail
  refine (iSplit_any 32 s _ hls (hGh.out.below hB1.out)).mono ?_
  rw [← hnw]
  rintro e w2 ⟨v2, rfl, ho2, hb⟩
  have hB2 := hide (hB1.out.trans (hb.mono hB1.out.size))
  have k0c := hide (keepr k0b.out hb)
  have k1c := hide (keepr k1b.out hb)
  obtain ⟨A2, cw2, hv2, hc2⟩ := ho2.slice
  subst hv2
  have hW2 := hide (ho2.less hB1.out.size)
  have hn0 : 0 < nw := by rw [← ho2.len, hT.out]; simp
  have hn0i : (0 : Int) < (nw : Int) := by omega
  obtain ⟨bw, ow, z0, hAw, hbw, hz0, cw0⟩ := (ho2.arr strc_len).str hn0
  rw [hT.out] at hz0
  have hz00 : z0 = (⟨#[115, 116, 114, 111, 107, 101]⟩ : ByteArray) := (Option.some.inj hz0).symm
  subst hz00
  subst hAw
  simp only [Nat.add_zero] at cw0
  clear hb ho2 hz0 hnw hB1 k0b k1b
  go_wp2_with fail
  refine (iCount_any (⟨#[115, 116, 114, 111, 107, 101]⟩ : ByteArray) nw _).mono ?_
  rw [hf]
  rintro e w3 ⟨rfl, rfl⟩
  obtain ⟨c0, c1, c2, c3, c4, _⟩ := row5 k0c.out
  go_wp2_with fail
  refine (iCopy_any x _ (hxh.out.go hB2.out)).mono ?_
  rintro e w3 ⟨x1, rfl, hp1, hd1, hb⟩
  have hB3 := hide (hB2.out.trans (hb.mono hB2.out.size))
  have k0d := hide (keepr k0c.out hb)
  have k1d := hide (keepr k1c.out hb)
  have hW3 := hide (hW2.out.below hb)
  have hD3 := hide hd1
  have hP1 := hide hp1
  clear hb hd1 hp1 c0 c1 c2 c3 c4 cw0
  go_upto_region 7 with fail
  obtain ⟨g8, hg8⟩ : ∃ g8, g8 = w3.heap.size + 1 := ⟨_, rfl⟩
  have hge := hB3.out.size
  have n0 := (show Below w.heap.size w ((w3.alloc (Obj.cells #[] 9)).alloc (Obj.cells #[Value.string x1.fStroke, Value.int IntKind.i64 x1.fStakes, Value.slice x1.A x1.n x1.c, Value.slice x1.A' x1.n' x1.c', Value.string x1.fLog] 29)) from (hB3.out.alloc hge _).alloc (by simp; omega) _)
  have n1 := (show ((w3.alloc (Obj.cells #[] 9)).alloc (Obj.cells #[Value.string x1.fStroke, Value.int IntKind.i64 x1.fStakes, Value.slice x1.A x1.n x1.c, Value.slice x1.A' x1.n' x1.c', Value.string x1.fLog] 29)).heap[w.heap.size]? = some (.cells #[Value.string x.fStroke, Value.int IntKind.i64 x.fStakes, Value.slice x.A x.n x.c, Value.slice x.A' x.n' x.c', Value.string x.fLog] 29 (0, 0)) from alloc_old (alloc_old k0d.out))
  have n2 := (show ((w3.alloc (Obj.cells #[] 9)).alloc (Obj.cells #[Value.string x1.fStroke, Value.int IntKind.i64 x1.fStakes, Value.slice x1.A x1.n x1.c, Value.slice x1.A' x1.n' x1.c', Value.string x1.fLog] 29)).heap[w.heap.size + 1]? = some (.cells #[Value.string ⟨#[]⟩, Value.int IntKind.i64 0, Value.slice none 0 0, Value.slice none 0 0, Value.string ⟨#[]⟩] 29 (0, 0)) from alloc_old (alloc_old k1d.out))
  have hup : Below w3.heap.size w3 ((w3.alloc (Obj.cells #[] 9)).alloc (Obj.cells #[Value.string x1.fStroke, Value.int IntKind.i64 x1.fStakes, Value.slice x1.A x1.n x1.c, Value.slice x1.A' x1.n' x1.c', Value.string x1.fLog] 29)) := ((Below.refl _ _).alloc (Nat.le_refl _) _).alloc (by simp) _
  have n3 := (hD3.out.less hB2.out.size).below hup
  have n3 := n3.dg (g := w3.heap.size + 1) (alloc_at (by simp)) (by omega)
  have n4 := hW3.out.res.below hup
  rw [← hg8] at n3 ⊢
  refine nameW' (φ := fun W => Below w.heap.size w W ∧ W.heap[w.heap.size]? = some (.cells #[Value.string x.fStroke, Value.int IntKind.i64 x.fStakes, Value.slice x.A x.n x.c, Value.slice x.A' x.n' x.c', Value.string x.fLog] 29 (0, 0)) ∧ W.heap[w.heap.size + 1]? = some (.cells #[Value.string ⟨#[]⟩, Value.int IntKind.i64 0, Value.slice none 0 0, Value.slice none 0 0, Value.string ⟨#[]⟩] 29 (0, 0)) ∧ DG W w.heap.size g8 x1 ∧ Res strc 9 1 W w.heap.size (.slice (some ⟨bw, ow, .none⟩) nw cw2) nw (words 32 s) ∧ w.heap.size + 1 < g8) ⟨n0, n1, n2, n3, n4, (by have := (Array.getElem?_eq_some_iff.1 k1d.out).1; omega)⟩ ?_
  clear n0 n1 n2 n3 n4 hup hg8 hge hB2 hB3 k0c k1c k0d k1d hW2 hW3 hD3
  obtain ⟨q8, hq8⟩ : ∃ q8, q8 = w3.heap.size := ⟨_, rfl⟩
  rw [← hq8]
  clear hq8 hbw
  rintro W ⟨n0, n1, n2, n3, n4, hg8⟩
  have hB4 := hide n0
  have k0 := hide n1
  have k1 := hide n2
  have hD4 := hide n3
  have hW4 := hide n4
  clear n0 n1 n2 n3 n4
  have hcell := hide (fun W' (h : Res strc 9 1 W' w.heap.size (.slice (some ⟨bw, ow, .none⟩) nw cw2) nw (words 32 s)) => word0 h hn0 hT.out)
  have cw0 := hcell.out _ hW4.out
  go_wp2_with fail
  have hts := hide (tail_size hT.out)
  have hcut0 : ∀ W, (Instr.slice 24 (.slice (some ⟨bw, ow, .none⟩) nw cw2) (some (.int .i64 1)) .none .none).run Tryz.prog W = .ok (.slice (cutA (some ⟨bw, ow, .none⟩) cw2 1 1) (nw - 1) (cw2 - 1)) W := fun W => run_cut (P := Tryz.prog) Tryz.underlying24 info_strj2 (some ⟨bw, ow, .none⟩) nw cw2 1 (by omega) W
  have hAc := hide ((hW4.out.arr strc_len).cut (k := 1) (by omega) hc2)
  rw [hT.out] at hAc
  obtain ⟨A1, hA1⟩ : ∃ A1, A1 = cutA (some ⟨bw, ow, .none⟩) cw2 1 1 := ⟨_, rfl⟩
  obtain ⟨m1, hm1⟩ : ∃ m1, m1 = nw - 1 := ⟨_, rfl⟩
  obtain ⟨cm, hcm⟩ : ∃ cm, cm = cw2 - 1 := ⟨_, rfl⟩
  have hm1b : m1 ≤ cm ∧ m1 ≤ 1048577 := by omega
  rw [← hA1, ← hm1] at hAc
  have hcut : ∀ W, (Instr.slice 24 (.slice (some ⟨bw, ow, .none⟩) nw cw2) (some (.int .i64 1)) .none .none).run Tryz.prog W = .ok (.slice A1 m1 cm) W := by rw [hA1, hm1, hcm]; exact hcut0
  replace hAc : Hid (Arr strc 1 W W.heap.size A1 m1 T) := hAc
  clear hA1 hm1 hcm hcut0 hc2
  have hDR := hide (show Below W.heap.size W W.drew from below_drewN (Below.refl _ _) 1)
  have hRd : Hid (∀ W', W.grownBy W' (some g8) → Res strc 9 1 W' w.heap.size (.slice (some ⟨bw, ow, .none⟩) nw cw2) nw (words 32 s)) := hide (fun W' hg => hW4.out.other hD4.out.hK (by decide) hg)
  have hTx := hide (fun W (hB : Below w.heap.size w W) (hD' : DG W w.heap.size g8 x1) => hide (iText_stroke (joinSp T) g8 x1 w W (by have := hts.2; unfold maxLen; omega) hGh.out hB hD'))
  go_region_held3 (fun w' => w'.cell? ⟨bw, ow, .none⟩ = some (.string (⟨#[115, 116, 114, 111, 107, 101]⟩ : ByteArray))) (first | exact hcell.out _ (hRd.out _ hG6.out) | exact hcell.out _ (hRd.out _ hG5.out) | exact hcell.out _ (hRd.out _ (grown_of_below hDR.out)) | go_keep) (first | (go_at_call 31; refine (iJoin_any A1 m1 cm T _ (by omega) hm1b.1 (by have := hts.out.1; omega) (hAc.out.go hDR.out)).mono ?_; rintro e w4 ⟨rfl, hb4⟩; have hB5 := hide (hDR.out.trans (hb4.mono hDR.out.size)); have hG5 := hide (grown_of_below (row := some g8) hB5.out); clear hb4) | (go_at_call 30; have hx := (hTx.out _ (hB4.out.trans (hB5.out.mono hB4.out.size)) (hD4.out.below hB5.out)).out; rw [hP1.out, ← hRh.out] at hx; refine hx.mono ?_; rintro e w6 ⟨v5, x5, rfl, hd5, hp5, hl5, hg5, hb5⟩; have hG6 := hide (grown_two (grown_of_below (row := some g8) hB5.out) hg5); have hD5 := hide hd5; have hp5 := hide hp5; have hL5 := hide hl5; have hB6 := hide hb5; obtain ⟨A5, cv5, hv5, _⟩ := hl5.slice; subst hv5; clear hd5 hl5 hg5 hb5) | fail)
  have k0e := hide (box_kept k0.out hG6.out (by omega))
  have k1e := hide (box_kept k1.out hG6.out (by omega))
  clear cw0
  obtain ⟨c0, c1, c2, c3, c4, _⟩ := row5 hD5.out.hK
  obtain ⟨r0, r1, r2, r3, r4, rf⟩ := row5 k1e.out
  have rf0 := rf 0; have rf1 := rf 1; have rf2 := rf 2; have rf3 := rf 3; have rf4 := rf 4
  clear rf
  go_wp2_with fail
  have hrow := set5_row (a0 := .string x5.fStroke) (a1 := .int .i64 x5.fStakes) (a2 := .slice x5.A x5.n x5.c) (a3 := .slice x5.A' x5.n' x5.c') (a4 := .string x5.fLog) k1e.out
  obtain ⟨q0, q1, q2, q3, q4, _⟩ := row5 hrow
  unfold set5 at q0 q1 q2 q3 q4
  refine bodyPost_ret (v := .tuple #[.agg #[.string x5.fStroke, .int .i64 x5.fStakes, .slice x5.A x5.n x5.c, .slice x5.A' x5.n' x5.c', .string x5.fLog], .slice A5 R2.length cv5, .int .i64 0]) (by simp [results, Tryz.results9, go_sem, q0, q1, q2, q3, q4]) rfl ?_
  exact ⟨x5, .slice A5 R2.length cv5, by rw [hM.out], by rw [hM.out]; exact hp5.out, set5_dv k1e.out hD5.out.dv, by rw [hM.out]; exact set5_res k1e.out hL5.out, set5_below hB6.out (by omega)⟩
set_option maxHeartbeats 4000000 in
theorem iDc_stroke1 (x : DeskV) (s : ByteArray) (w : World) (hG : Gl w) (hx : x.good w w.heap.size) (hs0 : x.fStroke.size ≤ maxLen) (hls : s.size ≤ 1048576) (hok : x.pure.ok = true) (T : List ByteArray) (hT : Hid (words 32 s = (⟨#[115, 116, 114, 111, 107, 101]⟩ : ByteArray) :: T)) (hf : hasCnt (⟨#[115, 116, 114, 111, 107, 101]⟩ : ByteArray) (words 32 s).length = true) (hz : (mText x.pure .cStroke (joinSp T)).2.2 ≠ 0) :
    Calls Tryz.prog 9 #[.agg #[.string x.fStroke, .int .i64 x.fStakes, .slice x.A x.n x.c, .slice x.A' x.n' x.c', .string x.fLog], .string s] w fun e w' => DcPost w (dcRes x.pure s) e w' := by
  obtain ⟨R, hR⟩ : ∃ R, R = mText x.pure .cStroke (joinSp T) := ⟨_, rfl⟩
  rw [← hR] at hz
  have hRh := hide hR
  have hDo : mDo x.pure .cStroke (words 32 s) = R := by unfold mDo; rw [if_pos (show Cmd.plain .cStroke = true from rfl), hT.out, hR]; rfl
  have hM : Hid (dcRes x.pure s = (x.pure, [errB R.2.2], 0)) := hide (by rw [dc_plain (c := .cStroke) hok hT.out rfl hf, hDo, if_neg hz])
  have hrg : 0 ≤ R.2.2 ∧ R.2.2 ≤ 10 := by have := mDo_range (c := .cStroke) (ws := words 32 s) hok; rw [hDo] at this; exact this
  obtain ⟨R1, R2, R3⟩ := R
  have hz3 : ¬ R3 = 0 := hz
  have hz4 : (R3 == 0) = false := by simpa using hz3
  have hrg0 : 0 ≤ R3 := hrg.1
  have hrg1 : R3 ≤ 10 := hrg.2
  clear hDo hR hz hrg
  have hxh := hide hx
  have hGh := hide hG
  clear hx hG
  go_enter Tryz.func9, Tryz.ntmps9
  go_upto_region 1 with fail
  obtain ⟨W0, hW0⟩ : ∃ W0, W0 = ((w.alloc (Obj.cells #[Value.string x.fStroke, Value.int IntKind.i64 x.fStakes, Value.slice x.A x.n x.c, Value.slice x.A' x.n' x.c', Value.string x.fLog] 29)).alloc (Obj.cells #[Value.string ⟨#[]⟩, Value.int IntKind.i64 0, Value.slice none 0 0, Value.slice none 0 0, Value.string ⟨#[]⟩] 29)) := ⟨_, rfl⟩
  have hB0 := hide (show Below w.heap.size w W0 by rw [hW0]; go_grown)
  have k0 := hide (show W0.heap[w.heap.size]? = some (.cells #[Value.string x.fStroke, Value.int IntKind.i64 x.fStakes, Value.slice x.A x.n x.c, Value.slice x.A' x.n' x.c', Value.string x.fLog] 29 (0, 0)) by rw [hW0]; exact alloc_old (heap_alloc_new w _))
  have k1 := hide (show W0.heap[w.heap.size + 1]? = some (.cells #[Value.string ⟨#[]⟩, Value.int IntKind.i64 0, Value.slice none 0 0, Value.slice none 0 0, Value.string ⟨#[]⟩] 29 (0, 0)) by rw [hW0]; exact alloc_at (by simp))
  rw [← hW0]
  clear hW0
  obtain ⟨c0, c1, c2, c3, c4, cf⟩ := row5 k0.out
  go_wp2_with fail
  refine (iValid_any x _ (hGh.out.below hB0.out) (hxh.out.go hB0.out) hs0).mono ?_
  rw [deskOk_pure, hok]
  rintro e w1 ⟨rfl, hb⟩
  have hB1 := hide (hB0.out.trans (hb.mono hB0.out.size))
  have k0b := hide (keepr k0.out hb)
  have k1b := hide (keepr k1.out hb)
  clear hb c0 c1 c2 c3 c4 cf k0 k1
  obtain ⟨nw, hnw⟩ : ∃ nw, nw = (words 32 s).length := ⟨_, rfl⟩
  have hnwb : nw ≤ 1048577 := by have := words_le 32 s; omega
  have hnwh := hide hnw
  rw [← hnw] at hf
  go_wp2_with fail
  refine (iSplit_any 32 s _ hls (hGh.out.below hB1.out)).mono ?_
  rw [← hnw]
  rintro e w2 ⟨v2, rfl, ho2, hb⟩
  have hB2 := hide (hB1.out.trans (hb.mono hB1.out.size))
  have k0c := hide (keepr k0b.out hb)
  have k1c := hide (keepr k1b.out hb)
  obtain ⟨A2, cw2, hv2, hc2⟩ := ho2.slice
  subst hv2
  have hW2 := hide (ho2.less hB1.out.size)
  have hn0 : 0 < nw := by rw [← ho2.len, hT.out]; simp
  have hn0i : (0 : Int) < (nw : Int) := by omega
  obtain ⟨bw, ow, z0, hAw, hbw, hz0, cw0⟩ := (ho2.arr strc_len).str hn0
  rw [hT.out] at hz0
  have hz00 : z0 = (⟨#[115, 116, 114, 111, 107, 101]⟩ : ByteArray) := (Option.some.inj hz0).symm
  subst hz00
  subst hAw
  simp only [Nat.add_zero] at cw0
  clear hb ho2 hz0 hnw hB1 k0b k1b
  go_wp2_with fail
  refine (iCount_any (⟨#[115, 116, 114, 111, 107, 101]⟩ : ByteArray) nw _).mono ?_
  rw [hf]
  rintro e w3 ⟨rfl, rfl⟩
  obtain ⟨c0, c1, c2, c3, c4, _⟩ := row5 k0c.out
  go_wp2_with fail
  refine (iCopy_any x _ (hxh.out.go hB2.out)).mono ?_
  rintro e w3 ⟨x1, rfl, hp1, hd1, hb⟩
  have hB3 := hide (hB2.out.trans (hb.mono hB2.out.size))
  have k0d := hide (keepr k0c.out hb)
  have k1d := hide (keepr k1c.out hb)
  have hW3 := hide (hW2.out.below hb)
  have hD3 := hide hd1
  have hP1 := hide hp1
  clear hb hd1 hp1 c0 c1 c2 c3 c4 cw0
  go_upto_region 7 with fail
  obtain ⟨g8, hg8⟩ : ∃ g8, g8 = w3.heap.size + 1 := ⟨_, rfl⟩
  have hge := hB3.out.size
  have n0 := (show Below w.heap.size w ((w3.alloc (Obj.cells #[] 9)).alloc (Obj.cells #[Value.string x1.fStroke, Value.int IntKind.i64 x1.fStakes, Value.slice x1.A x1.n x1.c, Value.slice x1.A' x1.n' x1.c', Value.string x1.fLog] 29)) from (hB3.out.alloc hge _).alloc (by simp; omega) _)
  have n1 := (show ((w3.alloc (Obj.cells #[] 9)).alloc (Obj.cells #[Value.string x1.fStroke, Value.int IntKind.i64 x1.fStakes, Value.slice x1.A x1.n x1.c, Value.slice x1.A' x1.n' x1.c', Value.string x1.fLog] 29)).heap[w.heap.size]? = some (.cells #[Value.string x.fStroke, Value.int IntKind.i64 x.fStakes, Value.slice x.A x.n x.c, Value.slice x.A' x.n' x.c', Value.string x.fLog] 29 (0, 0)) from alloc_old (alloc_old k0d.out))
  have n2 := (show ((w3.alloc (Obj.cells #[] 9)).alloc (Obj.cells #[Value.string x1.fStroke, Value.int IntKind.i64 x1.fStakes, Value.slice x1.A x1.n x1.c, Value.slice x1.A' x1.n' x1.c', Value.string x1.fLog] 29)).heap[w.heap.size + 1]? = some (.cells #[Value.string ⟨#[]⟩, Value.int IntKind.i64 0, Value.slice none 0 0, Value.slice none 0 0, Value.string ⟨#[]⟩] 29 (0, 0)) from alloc_old (alloc_old k1d.out))
  have hup : Below w3.heap.size w3 ((w3.alloc (Obj.cells #[] 9)).alloc (Obj.cells #[Value.string x1.fStroke, Value.int IntKind.i64 x1.fStakes, Value.slice x1.A x1.n x1.c, Value.slice x1.A' x1.n' x1.c', Value.string x1.fLog] 29)) := ((Below.refl _ _).alloc (Nat.le_refl _) _).alloc (by simp) _
  have n3 := (hD3.out.less hB2.out.size).below hup
  have n3 := n3.dg (g := w3.heap.size + 1) (alloc_at (by simp)) (by omega)
  have n4 := hW3.out.res.below hup
  rw [← hg8] at n3 ⊢
  refine nameW' (φ := fun W => Below w.heap.size w W ∧ W.heap[w.heap.size]? = some (.cells #[Value.string x.fStroke, Value.int IntKind.i64 x.fStakes, Value.slice x.A x.n x.c, Value.slice x.A' x.n' x.c', Value.string x.fLog] 29 (0, 0)) ∧ W.heap[w.heap.size + 1]? = some (.cells #[Value.string ⟨#[]⟩, Value.int IntKind.i64 0, Value.slice none 0 0, Value.slice none 0 0, Value.string ⟨#[]⟩] 29 (0, 0)) ∧ DG W w.heap.size g8 x1 ∧ Res strc 9 1 W w.heap.size (.slice (some ⟨bw, ow, .none⟩) nw cw2) nw (words 32 s) ∧ w.heap.size + 1 < g8) ⟨n0, n1, n2, n3, n4, (by have := (Array.getElem?_eq_some_iff.1 k1d.out).1; omega)⟩ ?_
  clear n0 n1 n2 n3 n4 hup hg8 hge hB2 hB3 k0c k1c k0d k1d hW2 hW3 hD3
  obtain ⟨q8, hq8⟩ : ∃ q8, q8 = w3.heap.size := ⟨_, rfl⟩
  rw [← hq8]
  clear hq8 hbw
  rintro W ⟨n0, n1, n2, n3, n4, hg8⟩
  have hB4 := hide n0
  have k0 := hide n1
  have k1 := hide n2
  have hD4 := hide n3
  have hW4 := hide n4
  clear n0 n1 n2 n3 n4
  have hcell := hide (fun W' (h : Res strc 9 1 W' w.heap.size (.slice (some ⟨bw, ow, .none⟩) nw cw2) nw (words 32 s)) => word0 h hn0 hT.out)
  have cw0 := hcell.out _ hW4.out
  go_wp2_with fail
  have hts := hide (tail_size hT.out)
  have hcut0 : ∀ W, (Instr.slice 24 (.slice (some ⟨bw, ow, .none⟩) nw cw2) (some (.int .i64 1)) .none .none).run Tryz.prog W = .ok (.slice (cutA (some ⟨bw, ow, .none⟩) cw2 1 1) (nw - 1) (cw2 - 1)) W := fun W => run_cut (P := Tryz.prog) Tryz.underlying24 info_strj2 (some ⟨bw, ow, .none⟩) nw cw2 1 (by omega) W
  have hAc := hide ((hW4.out.arr strc_len).cut (k := 1) (by omega) hc2)
  rw [hT.out] at hAc
  obtain ⟨A1, hA1⟩ : ∃ A1, A1 = cutA (some ⟨bw, ow, .none⟩) cw2 1 1 := ⟨_, rfl⟩
  obtain ⟨m1, hm1⟩ : ∃ m1, m1 = nw - 1 := ⟨_, rfl⟩
  obtain ⟨cm, hcm⟩ : ∃ cm, cm = cw2 - 1 := ⟨_, rfl⟩
  have hm1b : m1 ≤ cm ∧ m1 ≤ 1048577 := by omega
  rw [← hA1, ← hm1] at hAc
  have hcut : ∀ W, (Instr.slice 24 (.slice (some ⟨bw, ow, .none⟩) nw cw2) (some (.int .i64 1)) .none .none).run Tryz.prog W = .ok (.slice A1 m1 cm) W := by rw [hA1, hm1, hcm]; exact hcut0
  replace hAc : Hid (Arr strc 1 W W.heap.size A1 m1 T) := hAc
  clear hA1 hm1 hcm hcut0 hc2
  have hDR := hide (show Below W.heap.size W W.drew from below_drewN (Below.refl _ _) 1)
  have hRd : Hid (∀ W', W.grownBy W' (some g8) → Res strc 9 1 W' w.heap.size (.slice (some ⟨bw, ow, .none⟩) nw cw2) nw (words 32 s)) := hide (fun W' hg => hW4.out.other hD4.out.hK (by decide) hg)
  have hTx := hide (fun W (hB : Below w.heap.size w W) (hD' : DG W w.heap.size g8 x1) => hide (iText_stroke (joinSp T) g8 x1 w W (by have := hts.2; unfold maxLen; omega) hGh.out hB hD'))
  go_region_held3 (fun w' => w'.cell? ⟨bw, ow, .none⟩ = some (.string (⟨#[115, 116, 114, 111, 107, 101]⟩ : ByteArray))) (first | exact hcell.out _ (hRd.out _ hG6.out) | exact hcell.out _ (hRd.out _ hG5.out) | exact hcell.out _ (hRd.out _ (grown_of_below hDR.out)) | go_keep) (first | (go_at_call 31; refine (iJoin_any A1 m1 cm T _ (by omega) hm1b.1 (by have := hts.out.1; omega) (hAc.out.go hDR.out)).mono ?_; rintro e w4 ⟨rfl, hb4⟩; have hB5 := hide (hDR.out.trans (hb4.mono hDR.out.size)); have hG5 := hide (grown_of_below (row := some g8) hB5.out); clear hb4) | (go_at_call 30; have hx := (hTx.out _ (hB4.out.trans (hB5.out.mono hB4.out.size)) (hD4.out.below hB5.out)).out; rw [hP1.out, ← hRh.out] at hx; refine hx.mono ?_; rintro e w6 ⟨v5, x5, rfl, hd5, hp5, hl5, hg5, hb5⟩; have hG6 := hide (grown_two (grown_of_below (row := some g8) hB5.out) hg5); have hD5 := hide hd5; have hp5 := hide hp5; have hL5 := hide hl5; have hB6 := hide hb5; obtain ⟨A5, cv5, hv5, _⟩ := hl5.slice; subst hv5; clear hd5 hl5 hg5 hb5) | fail)
  have k0e := hide (box_kept k0.out hG6.out (by omega))
  have k1e := hide (box_kept k1.out hG6.out (by omega))
  clear cw0
  have hcat := cat_run ⟨#[101, 114, 114, 111, 114, 32]⟩ (codeB R3) (codeB_size R3)
  obtain ⟨c0, c1, c2, c3, c4, _⟩ := row5 k0e.out
  go_wp2_with fail
  refine (iCopy_any x _ (hxh.out.go hB6.out)).mono ?_
  rintro e w7 ⟨x7, rfl, hp7, hd7, hb⟩
  have hB7 := hide (hB6.out.trans (hb.mono hB6.out.size))
  have k1f := hide (keepr k1e.out hb)
  have hD7 := hide (hd7.less hB6.out.size)
  have hP7 := hide hp7
  clear hb hd7 hp7 c0 c1 c2 c3 c4
  go_wp2_with fail
  refine (iCodeN_any R3 _ hrg0 hrg1).mono ?_
  rintro e w8 ⟨rfl, hb⟩
  have hB8 := hide (hB7.out.trans (hb.mono hB7.out.size))
  have k1g := hide (keepr k1f.out hb)
  have hD8 := hide (hD7.out.below hb)
  clear hb
  have a0 := fun O => (row5 (alloc_old (O := O) k1g.out)).1
  have a1 := fun O => (row5 (alloc_old (O := O) k1g.out)).2.1
  have a2 := fun O => (row5 (alloc_old (O := O) k1g.out)).2.2.1
  have a3 := fun O => (row5 (alloc_old (O := O) k1g.out)).2.2.2.1
  have a4 := fun O => (row5 (alloc_old (O := O) k1g.out)).2.2.2.2.1
  have b0 := fun O => (row5 (alloc_old (O := O) k1g.out)).2.2.2.2.2 0
  have b1 := fun O => (row5 (alloc_old (O := O) k1g.out)).2.2.2.2.2 1
  have b2 := fun O => (row5 (alloc_old (O := O) k1g.out)).2.2.2.2.2 2
  have b3 := fun O => (row5 (alloc_old (O := O) k1g.out)).2.2.2.2.2 3
  have b4 := fun O => (row5 (alloc_old (O := O) k1g.out)).2.2.2.2.2 4
  go_wp2_with fail
  have e0 := alloc_old (O := .cells #[Value.string ((⟨#[101, 114, 114, 111, 114, 32]⟩ : ByteArray) ++ codeB R3)] 9) k1g.out
  have hrow := set5_row (a0 := .string x7.fStroke) (a1 := .int .i64 x7.fStakes) (a2 := .slice x7.A x7.n x7.c) (a3 := .slice x7.A' x7.n' x7.c') (a4 := .string x7.fLog) e0
  obtain ⟨q0, q1, q2, q3, q4, _⟩ := row5 hrow
  unfold set5 at q0 q1 q2 q3 q4
  refine bodyPost_ret (v := .tuple #[.agg #[.string x7.fStroke, .int .i64 x7.fStakes, .slice x7.A x7.n x7.c, .slice x7.A' x7.n' x7.c', .string x7.fLog], .slice (some ⟨w8.heap.size, 0, .none⟩) 1 1, .int .i64 0]) (by simp [results, Tryz.results9, go_sem, q0, q1, q2, q3, q4]) rfl ?_
  have hup := (Below.refl w8.heap.size w8).alloc (Nat.le_refl _) (.cells #[Value.string ((⟨#[101, 114, 114, 111, 114, 32]⟩ : ByteArray) ++ codeB R3)] 9)
  exact ⟨x7, .slice (some ⟨w8.heap.size, 0, .none⟩) 1 1, by rw [hM.out], by rw [hM.out]; exact hP7.out, set5_dv e0 (hD8.out.below hup), by rw [hM.out]; exact set5_res e0 (str_own w8 ((⟨#[101, 114, 114, 111, 114, 32]⟩ : ByteArray) ++ codeB R3) hB8.out.size).res, set5_below (hB8.out.trans (hup.mono hB8.out.size)) (by omega)⟩
set_option maxHeartbeats 4000000 in
theorem iDc_heap0 (x : DeskV) (s : ByteArray) (w : World) (hG : Gl w) (hx : x.good w w.heap.size) (hs0 : x.fStroke.size ≤ maxLen) (hls : s.size ≤ 1048576) (hok : x.pure.ok = true) (T : List ByteArray) (hT : Hid (words 32 s = (⟨#[104, 101, 97, 112]⟩ : ByteArray) :: T)) (hf : hasCnt (⟨#[104, 101, 97, 112]⟩ : ByteArray) (words 32 s).length = true) (hz : (mText x.pure .cHeap (joinSp T)).2.2 = 0) :
    Calls Tryz.prog 9 #[.agg #[.string x.fStroke, .int .i64 x.fStakes, .slice x.A x.n x.c, .slice x.A' x.n' x.c', .string x.fLog], .string s] w fun e w' => DcPost w (dcRes x.pure s) e w' := by
  obtain ⟨R, hR⟩ : ∃ R, R = mText x.pure .cHeap (joinSp T) := ⟨_, rfl⟩
  rw [← hR] at hz
  have hRh := hide hR
  have hDo : mDo x.pure .cHeap (words 32 s) = R := by unfold mDo; rw [if_pos (show Cmd.plain .cHeap = true from rfl), hT.out, hR]; rfl
  have hM : Hid (dcRes x.pure s = (R.1, R.2.1, 0)) := hide (by rw [dc_plain (c := .cHeap) hok hT.out rfl hf, hDo, if_pos hz])
  obtain ⟨R1, R2, R3⟩ := R
  obtain rfl : R3 = 0 := hz
  clear hDo hR
  have hxh := hide hx
  have hGh := hide hG
  clear hx hG
  go_enter Tryz.func9, Tryz.ntmps9
  go_upto_region 1 with fail
  obtain ⟨W0, hW0⟩ : ∃ W0, W0 = ((w.alloc (Obj.cells #[Value.string x.fStroke, Value.int IntKind.i64 x.fStakes, Value.slice x.A x.n x.c, Value.slice x.A' x.n' x.c', Value.string x.fLog] 29)).alloc (Obj.cells #[Value.string ⟨#[]⟩, Value.int IntKind.i64 0, Value.slice none 0 0, Value.slice none 0 0, Value.string ⟨#[]⟩] 29)) := ⟨_, rfl⟩
  have hB0 := hide (show Below w.heap.size w W0 by rw [hW0]; go_grown)
  have k0 := hide (show W0.heap[w.heap.size]? = some (.cells #[Value.string x.fStroke, Value.int IntKind.i64 x.fStakes, Value.slice x.A x.n x.c, Value.slice x.A' x.n' x.c', Value.string x.fLog] 29 (0, 0)) by rw [hW0]; exact alloc_old (heap_alloc_new w _))
  have k1 := hide (show W0.heap[w.heap.size + 1]? = some (.cells #[Value.string ⟨#[]⟩, Value.int IntKind.i64 0, Value.slice none 0 0, Value.slice none 0 0, Value.string ⟨#[]⟩] 29 (0, 0)) by rw [hW0]; exact alloc_at (by simp))
  rw [← hW0]
  clear hW0
  obtain ⟨c0, c1, c2, c3, c4, cf⟩ := row5 k0.out
  go_wp2_with fail
  refine (iValid_any x _ (hGh.out.below hB0.out) (hxh.out.go hB0.out) hs0).mono ?_
  rw [deskOk_pure, hok]
  rintro e w1 ⟨rfl, hb⟩
  have hB1 := hide (hB0.out.trans (hb.mono hB0.out.size))
  have k0b := hide (keepr k0.out hb)
  have k1b := hide (keepr k1.out hb)
  clear hb c0 c1 c2 c3 c4 cf k0 k1
  obtain ⟨nw, hnw⟩ : ∃ nw, nw = (words 32 s).length := ⟨_, rfl⟩
  have hnwb : nw ≤ 1048577 := by have := words_le 32 s; omega
  have hnwh := hide hnw
  rw [← hnw] at hf
  go_wp2_with fail
  refine (iSplit_any 32 s _ hls (hGh.out.below hB1.out)).mono ?_
  rw [← hnw]
  rintro e w2 ⟨v2, rfl, ho2, hb⟩
  have hB2 := hide (hB1.out.trans (hb.mono hB1.out.size))
  have k0c := hide (keepr k0b.out hb)
  have k1c := hide (keepr k1b.out hb)
  obtain ⟨A2, cw2, hv2, hc2⟩ := ho2.slice
  subst hv2
  have hW2 := hide (ho2.less hB1.out.size)
  have hn0 : 0 < nw := by rw [← ho2.len, hT.out]; simp
  have hn0i : (0 : Int) < (nw : Int) := by omega
  obtain ⟨bw, ow, z0, hAw, hbw, hz0, cw0⟩ := (ho2.arr strc_len).str hn0
  rw [hT.out] at hz0
  have hz00 : z0 = (⟨#[104, 101, 97, 112]⟩ : ByteArray) := (Option.some.inj hz0).symm
  subst hz00
  subst hAw
  simp only [Nat.add_zero] at cw0
  clear hb ho2 hz0 hnw hB1 k0b k1b
  go_wp2_with fail
  refine (iCount_any (⟨#[104, 101, 97, 112]⟩ : ByteArray) nw _).mono ?_
  rw [hf]
  rintro e w3 ⟨rfl, rfl⟩
  obtain ⟨c0, c1, c2, c3, c4, _⟩ := row5 k0c.out
  go_wp2_with fail
  refine (iCopy_any x _ (hxh.out.go hB2.out)).mono ?_
  rintro e w3 ⟨x1, rfl, hp1, hd1, hb⟩
  have hB3 := hide (hB2.out.trans (hb.mono hB2.out.size))
  have k0d := hide (keepr k0c.out hb)
  have k1d := hide (keepr k1c.out hb)
  have hW3 := hide (hW2.out.below hb)
  have hD3 := hide hd1
  have hP1 := hide hp1
  clear hb hd1 hp1 c0 c1 c2 c3 c4 cw0
  go_upto_region 7 with fail
  obtain ⟨g8, hg8⟩ : ∃ g8, g8 = w3.heap.size + 1 := ⟨_, rfl⟩
  have hge := hB3.out.size
  have n0 := (show Below w.heap.size w ((w3.alloc (Obj.cells #[] 9)).alloc (Obj.cells #[Value.string x1.fStroke, Value.int IntKind.i64 x1.fStakes, Value.slice x1.A x1.n x1.c, Value.slice x1.A' x1.n' x1.c', Value.string x1.fLog] 29)) from (hB3.out.alloc hge _).alloc (by simp; omega) _)
  have n1 := (show ((w3.alloc (Obj.cells #[] 9)).alloc (Obj.cells #[Value.string x1.fStroke, Value.int IntKind.i64 x1.fStakes, Value.slice x1.A x1.n x1.c, Value.slice x1.A' x1.n' x1.c', Value.string x1.fLog] 29)).heap[w.heap.size]? = some (.cells #[Value.string x.fStroke, Value.int IntKind.i64 x.fStakes, Value.slice x.A x.n x.c, Value.slice x.A' x.n' x.c', Value.string x.fLog] 29 (0, 0)) from alloc_old (alloc_old k0d.out))
  have n2 := (show ((w3.alloc (Obj.cells #[] 9)).alloc (Obj.cells #[Value.string x1.fStroke, Value.int IntKind.i64 x1.fStakes, Value.slice x1.A x1.n x1.c, Value.slice x1.A' x1.n' x1.c', Value.string x1.fLog] 29)).heap[w.heap.size + 1]? = some (.cells #[Value.string ⟨#[]⟩, Value.int IntKind.i64 0, Value.slice none 0 0, Value.slice none 0 0, Value.string ⟨#[]⟩] 29 (0, 0)) from alloc_old (alloc_old k1d.out))
  have hup : Below w3.heap.size w3 ((w3.alloc (Obj.cells #[] 9)).alloc (Obj.cells #[Value.string x1.fStroke, Value.int IntKind.i64 x1.fStakes, Value.slice x1.A x1.n x1.c, Value.slice x1.A' x1.n' x1.c', Value.string x1.fLog] 29)) := ((Below.refl _ _).alloc (Nat.le_refl _) _).alloc (by simp) _
  have n3 := (hD3.out.less hB2.out.size).below hup
  have n3 := n3.dg (g := w3.heap.size + 1) (alloc_at (by simp)) (by omega)
  have n4 := hW3.out.res.below hup
  rw [← hg8] at n3 ⊢
  refine nameW' (φ := fun W => Below w.heap.size w W ∧ W.heap[w.heap.size]? = some (.cells #[Value.string x.fStroke, Value.int IntKind.i64 x.fStakes, Value.slice x.A x.n x.c, Value.slice x.A' x.n' x.c', Value.string x.fLog] 29 (0, 0)) ∧ W.heap[w.heap.size + 1]? = some (.cells #[Value.string ⟨#[]⟩, Value.int IntKind.i64 0, Value.slice none 0 0, Value.slice none 0 0, Value.string ⟨#[]⟩] 29 (0, 0)) ∧ DG W w.heap.size g8 x1 ∧ Res strc 9 1 W w.heap.size (.slice (some ⟨bw, ow, .none⟩) nw cw2) nw (words 32 s) ∧ w.heap.size + 1 < g8) ⟨n0, n1, n2, n3, n4, (by have := (Array.getElem?_eq_some_iff.1 k1d.out).1; omega)⟩ ?_
  clear n0 n1 n2 n3 n4 hup hg8 hge hB2 hB3 k0c k1c k0d k1d hW2 hW3 hD3
  obtain ⟨q8, hq8⟩ : ∃ q8, q8 = w3.heap.size := ⟨_, rfl⟩
  rw [← hq8]
  clear hq8 hbw
  rintro W ⟨n0, n1, n2, n3, n4, hg8⟩
  have hB4 := hide n0
  have k0 := hide n1
  have k1 := hide n2
  have hD4 := hide n3
  have hW4 := hide n4
  clear n0 n1 n2 n3 n4
  have hcell := hide (fun W' (h : Res strc 9 1 W' w.heap.size (.slice (some ⟨bw, ow, .none⟩) nw cw2) nw (words 32 s)) => word0 h hn0 hT.out)
  have cw0 := hcell.out _ hW4.out
  go_wp2_with fail
  have hst : x1.fStroke.size ≤ maxLen := by have := congrArg DeskM.st hP1.out; have e : x1.fStroke = x.fStroke := this; rw [e]; exact hs0
  have hts := hide (tail_size hT.out)
  have hcut0 : ∀ W, (Instr.slice 24 (.slice (some ⟨bw, ow, .none⟩) nw cw2) (some (.int .i64 1)) .none .none).run Tryz.prog W = .ok (.slice (cutA (some ⟨bw, ow, .none⟩) cw2 1 1) (nw - 1) (cw2 - 1)) W := fun W => run_cut (P := Tryz.prog) Tryz.underlying24 info_strj2 (some ⟨bw, ow, .none⟩) nw cw2 1 (by omega) W
  have hAc := hide ((hW4.out.arr strc_len).cut (k := 1) (by omega) hc2)
  rw [hT.out] at hAc
  obtain ⟨A1, hA1⟩ : ∃ A1, A1 = cutA (some ⟨bw, ow, .none⟩) cw2 1 1 := ⟨_, rfl⟩
  obtain ⟨m1, hm1⟩ : ∃ m1, m1 = nw - 1 := ⟨_, rfl⟩
  obtain ⟨cm, hcm⟩ : ∃ cm, cm = cw2 - 1 := ⟨_, rfl⟩
  have hm1b : m1 ≤ cm ∧ m1 ≤ 1048577 := by omega
  rw [← hA1, ← hm1] at hAc
  have hcut : ∀ W, (Instr.slice 24 (.slice (some ⟨bw, ow, .none⟩) nw cw2) (some (.int .i64 1)) .none .none).run Tryz.prog W = .ok (.slice A1 m1 cm) W := by rw [hA1, hm1, hcm]; exact hcut0
  replace hAc : Hid (Arr strc 1 W W.heap.size A1 m1 T) := hAc
  clear hA1 hm1 hcm hcut0 hc2
  have hDR := hide (show Below W.heap.size W W.drew from below_drewN (Below.refl _ _) 1)
  have hRd : Hid (∀ W', W.grownBy W' (some g8) → Res strc 9 1 W' w.heap.size (.slice (some ⟨bw, ow, .none⟩) nw cw2) nw (words 32 s)) := hide (fun W' hg => hW4.out.other hD4.out.hK (by decide) hg)
  have hTx := hide (fun W (hB : Below w.heap.size w W) (hD' : DG W w.heap.size g8 x1) => hide (iText_heap (joinSp T) g8 x1 w W (by have := hts.2; omega) hst hGh.out hB hD'))
  go_region_held3 (fun w' => w'.cell? ⟨bw, ow, .none⟩ = some (.string (⟨#[104, 101, 97, 112]⟩ : ByteArray))) (first | exact hcell.out _ (hRd.out _ hG6.out) | exact hcell.out _ (hRd.out _ hG5.out) | exact hcell.out _ (hRd.out _ (grown_of_below hDR.out)) | go_keep) (first | (go_at_call 31; refine (iJoin_any A1 m1 cm T _ (by omega) hm1b.1 (by have := hts.out.1; omega) (hAc.out.go hDR.out)).mono ?_; rintro e w4 ⟨rfl, hb4⟩; have hB5 := hide (hDR.out.trans (hb4.mono hDR.out.size)); have hG5 := hide (grown_of_below (row := some g8) hB5.out); clear hb4) | (go_at_call 30; have hx := (hTx.out _ (hB4.out.trans (hB5.out.mono hB4.out.size)) (hD4.out.below hB5.out)).out; rw [hP1.out, ← hRh.out] at hx; refine hx.mono ?_; rintro e w6 ⟨v5, x5, rfl, hd5, hp5, hl5, hg5, hb5⟩; have hG6 := hide (grown_two (grown_of_below (row := some g8) hB5.out) hg5); have hD5 := hide hd5; have hp5 := hide hp5; have hL5 := hide hl5; have hB6 := hide hb5; obtain ⟨A5, cv5, hv5, _⟩ := hl5.slice; subst hv5; clear hd5 hl5 hg5 hb5) | fail)
  have k0e := hide (box_kept k0.out hG6.out (by omega))
  have k1e := hide (box_kept k1.out hG6.out (by omega))
  clear cw0
  obtain ⟨c0, c1, c2, c3, c4, _⟩ := row5 hD5.out.hK
  obtain ⟨r0, r1, r2, r3, r4, rf⟩ := row5 k1e.out
  have rf0 := rf 0; have rf1 := rf 1; have rf2 := rf 2; have rf3 := rf 3; have rf4 := rf 4
  clear rf
  go_wp2_with fail
  have hrow := set5_row (a0 := .string x5.fStroke) (a1 := .int .i64 x5.fStakes) (a2 := .slice x5.A x5.n x5.c) (a3 := .slice x5.A' x5.n' x5.c') (a4 := .string x5.fLog) k1e.out
  obtain ⟨q0, q1, q2, q3, q4, _⟩ := row5 hrow
  unfold set5 at q0 q1 q2 q3 q4
  refine bodyPost_ret (v := .tuple #[.agg #[.string x5.fStroke, .int .i64 x5.fStakes, .slice x5.A x5.n x5.c, .slice x5.A' x5.n' x5.c', .string x5.fLog], .slice A5 R2.length cv5, .int .i64 0]) (by simp [results, Tryz.results9, go_sem, q0, q1, q2, q3, q4]) rfl ?_
  exact ⟨x5, .slice A5 R2.length cv5, by rw [hM.out], by rw [hM.out]; exact hp5.out, set5_dv k1e.out hD5.out.dv, by rw [hM.out]; exact set5_res k1e.out hL5.out, set5_below hB6.out (by omega)⟩
set_option maxHeartbeats 4000000 in
theorem iDc_heap1 (x : DeskV) (s : ByteArray) (w : World) (hG : Gl w) (hx : x.good w w.heap.size) (hs0 : x.fStroke.size ≤ maxLen) (hls : s.size ≤ 1048576) (hok : x.pure.ok = true) (T : List ByteArray) (hT : Hid (words 32 s = (⟨#[104, 101, 97, 112]⟩ : ByteArray) :: T)) (hf : hasCnt (⟨#[104, 101, 97, 112]⟩ : ByteArray) (words 32 s).length = true) (hz : (mText x.pure .cHeap (joinSp T)).2.2 ≠ 0) :
    Calls Tryz.prog 9 #[.agg #[.string x.fStroke, .int .i64 x.fStakes, .slice x.A x.n x.c, .slice x.A' x.n' x.c', .string x.fLog], .string s] w fun e w' => DcPost w (dcRes x.pure s) e w' := by
  obtain ⟨R, hR⟩ : ∃ R, R = mText x.pure .cHeap (joinSp T) := ⟨_, rfl⟩
  rw [← hR] at hz
  have hRh := hide hR
  have hDo : mDo x.pure .cHeap (words 32 s) = R := by unfold mDo; rw [if_pos (show Cmd.plain .cHeap = true from rfl), hT.out, hR]; rfl
  have hM : Hid (dcRes x.pure s = (x.pure, [errB R.2.2], 0)) := hide (by rw [dc_plain (c := .cHeap) hok hT.out rfl hf, hDo, if_neg hz])
  have hrg : 0 ≤ R.2.2 ∧ R.2.2 ≤ 10 := by have := mDo_range (c := .cHeap) (ws := words 32 s) hok; rw [hDo] at this; exact this
  obtain ⟨R1, R2, R3⟩ := R
  have hz3 : ¬ R3 = 0 := hz
  have hz4 : (R3 == 0) = false := by simpa using hz3
  have hrg0 : 0 ≤ R3 := hrg.1
  have hrg1 : R3 ≤ 10 := hrg.2
  clear hDo hR hz hrg
  have hxh := hide hx
  have hGh := hide hG
  clear hx hG
  go_enter Tryz.func9, Tryz.ntmps9
  go_upto_region 1 with fail
  obtain ⟨W0, hW0⟩ : ∃ W0, W0 = ((w.alloc (Obj.cells #[Value.string x.fStroke, Value.int IntKind.i64 x.fStakes, Value.slice x.A x.n x.c, Value.slice x.A' x.n' x.c', Value.string x.fLog] 29)).alloc (Obj.cells #[Value.string ⟨#[]⟩, Value.int IntKind.i64 0, Value.slice none 0 0, Value.slice none 0 0, Value.string ⟨#[]⟩] 29)) := ⟨_, rfl⟩
  have hB0 := hide (show Below w.heap.size w W0 by rw [hW0]; go_grown)
  have k0 := hide (show W0.heap[w.heap.size]? = some (.cells #[Value.string x.fStroke, Value.int IntKind.i64 x.fStakes, Value.slice x.A x.n x.c, Value.slice x.A' x.n' x.c', Value.string x.fLog] 29 (0, 0)) by rw [hW0]; exact alloc_old (heap_alloc_new w _))
  have k1 := hide (show W0.heap[w.heap.size + 1]? = some (.cells #[Value.string ⟨#[]⟩, Value.int IntKind.i64 0, Value.slice none 0 0, Value.slice none 0 0, Value.string ⟨#[]⟩] 29 (0, 0)) by rw [hW0]; exact alloc_at (by simp))
  rw [← hW0]
  clear hW0
  obtain ⟨c0, c1, c2, c3, c4, cf⟩ := row5 k0.out
  go_wp2_with fail
  refine (iValid_any x _ (hGh.out.below hB0.out) (hxh.out.go hB0.out) hs0).mono ?_
  rw [deskOk_pure, hok]
  rintro e w1 ⟨rfl, hb⟩
  have hB1 := hide (hB0.out.trans (hb.mono hB0.out.size))
  have k0b := hide (keepr k0.out hb)
  have k1b := hide (keepr k1.out hb)
  clear hb c0 c1 c2 c3 c4 cf k0 k1
  obtain ⟨nw, hnw⟩ : ∃ nw, nw = (words 32 s).length := ⟨_, rfl⟩
  have hnwb : nw ≤ 1048577 := by have := words_le 32 s; omega
  have hnwh := hide hnw
  rw [← hnw] at hf
  go_wp2_with fail
  refine (iSplit_any 32 s _ hls (hGh.out.below hB1.out)).mono ?_
  rw [← hnw]
  rintro e w2 ⟨v2, rfl, ho2, hb⟩
  have hB2 := hide (hB1.out.trans (hb.mono hB1.out.size))
  have k0c := hide (keepr k0b.out hb)
  have k1c := hide (keepr k1b.out hb)
  obtain ⟨A2, cw2, hv2, hc2⟩ := ho2.slice
  subst hv2
  have hW2 := hide (ho2.less hB1.out.size)
  have hn0 : 0 < nw := by rw [← ho2.len, hT.out]; simp
  have hn0i : (0 : Int) < (nw : Int) := by omega
  obtain ⟨bw, ow, z0, hAw, hbw, hz0, cw0⟩ := (ho2.arr strc_len).str hn0
  rw [hT.out] at hz0
  have hz00 : z0 = (⟨#[104, 101, 97, 112]⟩ : ByteArray) := (Option.some.inj hz0).symm
  subst hz00
  subst hAw
  simp only [Nat.add_zero] at cw0
  clear hb ho2 hz0 hnw hB1 k0b k1b
  go_wp2_with fail
  refine (iCount_any (⟨#[104, 101, 97, 112]⟩ : ByteArray) nw _).mono ?_
  rw [hf]
  rintro e w3 ⟨rfl, rfl⟩
  obtain ⟨c0, c1, c2, c3, c4, _⟩ := row5 k0c.out
  go_wp2_with fail
  refine (iCopy_any x _ (hxh.out.go hB2.out)).mono ?_
  rintro e w3 ⟨x1, rfl, hp1, hd1, hb⟩
  have hB3 := hide (hB2.out.trans (hb.mono hB2.out.size))
  have k0d := hide (keepr k0c.out hb)
  have k1d := hide (keepr k1c.out hb)
  have hW3 := hide (hW2.out.below hb)
  have hD3 := hide hd1
  have hP1 := hide hp1
  clear hb hd1 hp1 c0 c1 c2 c3 c4 cw0
  go_upto_region 7 with fail
  obtain ⟨g8, hg8⟩ : ∃ g8, g8 = w3.heap.size + 1 := ⟨_, rfl⟩
  have hge := hB3.out.size
  have n0 := (show Below w.heap.size w ((w3.alloc (Obj.cells #[] 9)).alloc (Obj.cells #[Value.string x1.fStroke, Value.int IntKind.i64 x1.fStakes, Value.slice x1.A x1.n x1.c, Value.slice x1.A' x1.n' x1.c', Value.string x1.fLog] 29)) from (hB3.out.alloc hge _).alloc (by simp; omega) _)
  have n1 := (show ((w3.alloc (Obj.cells #[] 9)).alloc (Obj.cells #[Value.string x1.fStroke, Value.int IntKind.i64 x1.fStakes, Value.slice x1.A x1.n x1.c, Value.slice x1.A' x1.n' x1.c', Value.string x1.fLog] 29)).heap[w.heap.size]? = some (.cells #[Value.string x.fStroke, Value.int IntKind.i64 x.fStakes, Value.slice x.A x.n x.c, Value.slice x.A' x.n' x.c', Value.string x.fLog] 29 (0, 0)) from alloc_old (alloc_old k0d.out))
  have n2 := (show ((w3.alloc (Obj.cells #[] 9)).alloc (Obj.cells #[Value.string x1.fStroke, Value.int IntKind.i64 x1.fStakes, Value.slice x1.A x1.n x1.c, Value.slice x1.A' x1.n' x1.c', Value.string x1.fLog] 29)).heap[w.heap.size + 1]? = some (.cells #[Value.string ⟨#[]⟩, Value.int IntKind.i64 0, Value.slice none 0 0, Value.slice none 0 0, Value.string ⟨#[]⟩] 29 (0, 0)) from alloc_old (alloc_old k1d.out))
  have hup : Below w3.heap.size w3 ((w3.alloc (Obj.cells #[] 9)).alloc (Obj.cells #[Value.string x1.fStroke, Value.int IntKind.i64 x1.fStakes, Value.slice x1.A x1.n x1.c, Value.slice x1.A' x1.n' x1.c', Value.string x1.fLog] 29)) := ((Below.refl _ _).alloc (Nat.le_refl _) _).alloc (by simp) _
  have n3 := (hD3.out.less hB2.out.size).below hup
  have n3 := n3.dg (g := w3.heap.size + 1) (alloc_at (by simp)) (by omega)
  have n4 := hW3.out.res.below hup
  rw [← hg8] at n3 ⊢
  refine nameW' (φ := fun W => Below w.heap.size w W ∧ W.heap[w.heap.size]? = some (.cells #[Value.string x.fStroke, Value.int IntKind.i64 x.fStakes, Value.slice x.A x.n x.c, Value.slice x.A' x.n' x.c', Value.string x.fLog] 29 (0, 0)) ∧ W.heap[w.heap.size + 1]? = some (.cells #[Value.string ⟨#[]⟩, Value.int IntKind.i64 0, Value.slice none 0 0, Value.slice none 0 0, Value.string ⟨#[]⟩] 29 (0, 0)) ∧ DG W w.heap.size g8 x1 ∧ Res strc 9 1 W w.heap.size (.slice (some ⟨bw, ow, .none⟩) nw cw2) nw (words 32 s) ∧ w.heap.size + 1 < g8) ⟨n0, n1, n2, n3, n4, (by have := (Array.getElem?_eq_some_iff.1 k1d.out).1; omega)⟩ ?_
  clear n0 n1 n2 n3 n4 hup hg8 hge hB2 hB3 k0c k1c k0d k1d hW2 hW3 hD3
  obtain ⟨q8, hq8⟩ : ∃ q8, q8 = w3.heap.size := ⟨_, rfl⟩
  rw [← hq8]
  clear hq8 hbw
  rintro W ⟨n0, n1, n2, n3, n4, hg8⟩
  have hB4 := hide n0
  have k0 := hide n1
  have k1 := hide n2
  have hD4 := hide n3
  have hW4 := hide n4
  clear n0 n1 n2 n3 n4
  have hcell := hide (fun W' (h : Res strc 9 1 W' w.heap.size (.slice (some ⟨bw, ow, .none⟩) nw cw2) nw (words 32 s)) => word0 h hn0 hT.out)
  have cw0 := hcell.out _ hW4.out
  go_wp2_with fail
  have hst : x1.fStroke.size ≤ maxLen := by have := congrArg DeskM.st hP1.out; have e : x1.fStroke = x.fStroke := this; rw [e]; exact hs0
  have hts := hide (tail_size hT.out)
  have hcut0 : ∀ W, (Instr.slice 24 (.slice (some ⟨bw, ow, .none⟩) nw cw2) (some (.int .i64 1)) .none .none).run Tryz.prog W = .ok (.slice (cutA (some ⟨bw, ow, .none⟩) cw2 1 1) (nw - 1) (cw2 - 1)) W := fun W => run_cut (P := Tryz.prog) Tryz.underlying24 info_strj2 (some ⟨bw, ow, .none⟩) nw cw2 1 (by omega) W
  have hAc := hide ((hW4.out.arr strc_len).cut (k := 1) (by omega) hc2)
  rw [hT.out] at hAc
  obtain ⟨A1, hA1⟩ : ∃ A1, A1 = cutA (some ⟨bw, ow, .none⟩) cw2 1 1 := ⟨_, rfl⟩
  obtain ⟨m1, hm1⟩ : ∃ m1, m1 = nw - 1 := ⟨_, rfl⟩
  obtain ⟨cm, hcm⟩ : ∃ cm, cm = cw2 - 1 := ⟨_, rfl⟩
  have hm1b : m1 ≤ cm ∧ m1 ≤ 1048577 := by omega
  rw [← hA1, ← hm1] at hAc
  have hcut : ∀ W, (Instr.slice 24 (.slice (some ⟨bw, ow, .none⟩) nw cw2) (some (.int .i64 1)) .none .none).run Tryz.prog W = .ok (.slice A1 m1 cm) W := by rw [hA1, hm1, hcm]; exact hcut0
  replace hAc : Hid (Arr strc 1 W W.heap.size A1 m1 T) := hAc
  clear hA1 hm1 hcm hcut0 hc2
  have hDR := hide (show Below W.heap.size W W.drew from below_drewN (Below.refl _ _) 1)
  have hRd : Hid (∀ W', W.grownBy W' (some g8) → Res strc 9 1 W' w.heap.size (.slice (some ⟨bw, ow, .none⟩) nw cw2) nw (words 32 s)) := hide (fun W' hg => hW4.out.other hD4.out.hK (by decide) hg)
  have hTx := hide (fun W (hB : Below w.heap.size w W) (hD' : DG W w.heap.size g8 x1) => hide (iText_heap (joinSp T) g8 x1 w W (by have := hts.2; omega) hst hGh.out hB hD'))
  go_region_held3 (fun w' => w'.cell? ⟨bw, ow, .none⟩ = some (.string (⟨#[104, 101, 97, 112]⟩ : ByteArray))) (first | exact hcell.out _ (hRd.out _ hG6.out) | exact hcell.out _ (hRd.out _ hG5.out) | exact hcell.out _ (hRd.out _ (grown_of_below hDR.out)) | go_keep) (first | (go_at_call 31; refine (iJoin_any A1 m1 cm T _ (by omega) hm1b.1 (by have := hts.out.1; omega) (hAc.out.go hDR.out)).mono ?_; rintro e w4 ⟨rfl, hb4⟩; have hB5 := hide (hDR.out.trans (hb4.mono hDR.out.size)); have hG5 := hide (grown_of_below (row := some g8) hB5.out); clear hb4) | (go_at_call 30; have hx := (hTx.out _ (hB4.out.trans (hB5.out.mono hB4.out.size)) (hD4.out.below hB5.out)).out; rw [hP1.out, ← hRh.out] at hx; refine hx.mono ?_; rintro e w6 ⟨v5, x5, rfl, hd5, hp5, hl5, hg5, hb5⟩; have hG6 := hide (grown_two (grown_of_below (row := some g8) hB5.out) hg5); have hD5 := hide hd5; have hp5 := hide hp5; have hL5 := hide hl5; have hB6 := hide hb5; obtain ⟨A5, cv5, hv5, _⟩ := hl5.slice; subst hv5; clear hd5 hl5 hg5 hb5) | fail)
  have k0e := hide (box_kept k0.out hG6.out (by omega))
  have k1e := hide (box_kept k1.out hG6.out (by omega))
  clear cw0
  have hcat := cat_run ⟨#[101, 114, 114, 111, 114, 32]⟩ (codeB R3) (codeB_size R3)
  obtain ⟨c0, c1, c2, c3, c4, _⟩ := row5 k0e.out
  go_wp2_with fail
  refine (iCopy_any x _ (hxh.out.go hB6.out)).mono ?_
  rintro e w7 ⟨x7, rfl, hp7, hd7, hb⟩
  have hB7 := hide (hB6.out.trans (hb.mono hB6.out.size))
  have k1f := hide (keepr k1e.out hb)
  have hD7 := hide (hd7.less hB6.out.size)
  have hP7 := hide hp7
  clear hb hd7 hp7 c0 c1 c2 c3 c4
  go_wp2_with fail
  refine (iCodeN_any R3 _ hrg0 hrg1).mono ?_
  rintro e w8 ⟨rfl, hb⟩
  have hB8 := hide (hB7.out.trans (hb.mono hB7.out.size))
  have k1g := hide (keepr k1f.out hb)
  have hD8 := hide (hD7.out.below hb)
  clear hb
  have a0 := fun O => (row5 (alloc_old (O := O) k1g.out)).1
  have a1 := fun O => (row5 (alloc_old (O := O) k1g.out)).2.1
  have a2 := fun O => (row5 (alloc_old (O := O) k1g.out)).2.2.1
  have a3 := fun O => (row5 (alloc_old (O := O) k1g.out)).2.2.2.1
  have a4 := fun O => (row5 (alloc_old (O := O) k1g.out)).2.2.2.2.1
  have b0 := fun O => (row5 (alloc_old (O := O) k1g.out)).2.2.2.2.2 0
  have b1 := fun O => (row5 (alloc_old (O := O) k1g.out)).2.2.2.2.2 1
  have b2 := fun O => (row5 (alloc_old (O := O) k1g.out)).2.2.2.2.2 2
  have b3 := fun O => (row5 (alloc_old (O := O) k1g.out)).2.2.2.2.2 3
  have b4 := fun O => (row5 (alloc_old (O := O) k1g.out)).2.2.2.2.2 4
  go_wp2_with fail
  have e0 := alloc_old (O := .cells #[Value.string ((⟨#[101, 114, 114, 111, 114, 32]⟩ : ByteArray) ++ codeB R3)] 9) k1g.out
  have hrow := set5_row (a0 := .string x7.fStroke) (a1 := .int .i64 x7.fStakes) (a2 := .slice x7.A x7.n x7.c) (a3 := .slice x7.A' x7.n' x7.c') (a4 := .string x7.fLog) e0
  obtain ⟨q0, q1, q2, q3, q4, _⟩ := row5 hrow
  unfold set5 at q0 q1 q2 q3 q4
  refine bodyPost_ret (v := .tuple #[.agg #[.string x7.fStroke, .int .i64 x7.fStakes, .slice x7.A x7.n x7.c, .slice x7.A' x7.n' x7.c', .string x7.fLog], .slice (some ⟨w8.heap.size, 0, .none⟩) 1 1, .int .i64 0]) (by simp [results, Tryz.results9, go_sem, q0, q1, q2, q3, q4]) rfl ?_
  have hup := (Below.refl w8.heap.size w8).alloc (Nat.le_refl _) (.cells #[Value.string ((⟨#[101, 114, 114, 111, 114, 32]⟩ : ByteArray) ++ codeB R3)] 9)
  exact ⟨x7, .slice (some ⟨w8.heap.size, 0, .none⟩) 1 1, by rw [hM.out], by rw [hM.out]; exact hP7.out, set5_dv e0 (hD8.out.below hup), by rw [hM.out]; exact set5_res e0 (str_own w8 ((⟨#[101, 114, 114, 111, 114, 32]⟩ : ByteArray) ++ codeB R3) hB8.out.size).res, set5_below (hB8.out.trans (hup.mono hB8.out.size)) (by omega)⟩
set_option maxHeartbeats 4000000 in
theorem iDc_heaps0 (x : DeskV) (s : ByteArray) (w : World) (hG : Gl w) (hx : x.good w w.heap.size) (hs0 : x.fStroke.size ≤ maxLen) (hls : s.size ≤ 1048576) (hok : x.pure.ok = true) (T : List ByteArray) (hT : Hid (words 32 s = (⟨#[104, 101, 97, 112, 115]⟩ : ByteArray) :: T)) (hf : hasCnt (⟨#[104, 101, 97, 112, 115]⟩ : ByteArray) (words 32 s).length = true) (hz : (mText x.pure .cHeaps (joinSp T)).2.2 = 0) :
    Calls Tryz.prog 9 #[.agg #[.string x.fStroke, .int .i64 x.fStakes, .slice x.A x.n x.c, .slice x.A' x.n' x.c', .string x.fLog], .string s] w fun e w' => DcPost w (dcRes x.pure s) e w' := by
  obtain ⟨R, hR⟩ : ∃ R, R = mText x.pure .cHeaps (joinSp T) := ⟨_, rfl⟩
  rw [← hR] at hz
  have hRh := hide hR
  have hDo : mDo x.pure .cHeaps (words 32 s) = R := by unfold mDo; rw [if_pos (show Cmd.plain .cHeaps = true from rfl), hT.out, hR]; rfl
  have hM : Hid (dcRes x.pure s = (R.1, R.2.1, 0)) := hide (by rw [dc_plain (c := .cHeaps) hok hT.out rfl hf, hDo, if_pos hz])
  obtain ⟨R1, R2, R3⟩ := R
  obtain rfl : R3 = 0 := hz
  clear hDo hR
  have hxh := hide hx
  have hGh := hide hG
  clear hx hG
  go_enter Tryz.func9, Tryz.ntmps9
  go_upto_region 1 with fail
  obtain ⟨W0, hW0⟩ : ∃ W0, W0 = ((w.alloc (Obj.cells #[Value.string x.fStroke, Value.int IntKind.i64 x.fStakes, Value.slice x.A x.n x.c, Value.slice x.A' x.n' x.c', Value.string x.fLog] 29)).alloc (Obj.cells #[Value.string ⟨#[]⟩, Value.int IntKind.i64 0, Value.slice none 0 0, Value.slice none 0 0, Value.string ⟨#[]⟩] 29)) := ⟨_, rfl⟩
  have hB0 := hide (show Below w.heap.size w W0 by rw [hW0]; go_grown)
  have k0 := hide (show W0.heap[w.heap.size]? = some (.cells #[Value.string x.fStroke, Value.int IntKind.i64 x.fStakes, Value.slice x.A x.n x.c, Value.slice x.A' x.n' x.c', Value.string x.fLog] 29 (0, 0)) by rw [hW0]; exact alloc_old (heap_alloc_new w _))
  have k1 := hide (show W0.heap[w.heap.size + 1]? = some (.cells #[Value.string ⟨#[]⟩, Value.int IntKind.i64 0, Value.slice none 0 0, Value.slice none 0 0, Value.string ⟨#[]⟩] 29 (0, 0)) by rw [hW0]; exact alloc_at (by simp))
  rw [← hW0]
  clear hW0
  obtain ⟨c0, c1, c2, c3, c4, cf⟩ := row5 k0.out
  go_wp2_with fail
  refine (iValid_any x _ (hGh.out.below hB0.out) (hxh.out.go hB0.out) hs0).mono ?_
  rw [deskOk_pure, hok]
  rintro e w1 ⟨rfl, hb⟩
  have hB1 := hide (hB0.out.trans (hb.mono hB0.out.size))
  have k0b := hide (keepr k0.out hb)
  have k1b := hide (keepr k1.out hb)
  clear hb c0 c1 c2 c3 c4 cf k0 k1
  obtain ⟨nw, hnw⟩ : ∃ nw, nw = (words 32 s).length := ⟨_, rfl⟩
  have hnwb : nw ≤ 1048577 := by have := words_le 32 s; omega
  have hnwh := hide hnw
  rw [← hnw] at hf
  go_wp2_with fail
  refine (iSplit_any 32 s _ hls (hGh.out.below hB1.out)).mono ?_
  rw [← hnw]
  rintro e w2 ⟨v2, rfl, ho2, hb⟩
  have hB2 := hide (hB1.out.trans (hb.mono hB1.out.size))
  have k0c := hide (keepr k0b.out hb)
  have k1c := hide (keepr k1b.out hb)
  obtain ⟨A2, cw2, hv2, hc2⟩ := ho2.slice
  subst hv2
  have hW2 := hide (ho2.less hB1.out.size)
  have hn0 : 0 < nw := by rw [← ho2.len, hT.out]; simp
  have hn0i : (0 : Int) < (nw : Int) := by omega
  obtain ⟨bw, ow, z0, hAw, hbw, hz0, cw0⟩ := (ho2.arr strc_len).str hn0
  rw [hT.out] at hz0
  have hz00 : z0 = (⟨#[104, 101, 97, 112, 115]⟩ : ByteArray) := (Option.some.inj hz0).symm
  subst hz00
  subst hAw
  simp only [Nat.add_zero] at cw0
  clear hb ho2 hz0 hnw hB1 k0b k1b
  go_wp2_with fail
  refine (iCount_any (⟨#[104, 101, 97, 112, 115]⟩ : ByteArray) nw _).mono ?_
  rw [hf]
  rintro e w3 ⟨rfl, rfl⟩
  obtain ⟨c0, c1, c2, c3, c4, _⟩ := row5 k0c.out
  go_wp2_with fail
  refine (iCopy_any x _ (hxh.out.go hB2.out)).mono ?_
  rintro e w3 ⟨x1, rfl, hp1, hd1, hb⟩
  have hB3 := hide (hB2.out.trans (hb.mono hB2.out.size))
  have k0d := hide (keepr k0c.out hb)
  have k1d := hide (keepr k1c.out hb)
  have hW3 := hide (hW2.out.below hb)
  have hD3 := hide hd1
  have hP1 := hide hp1
  clear hb hd1 hp1 c0 c1 c2 c3 c4 cw0
  go_upto_region 7 with fail
  obtain ⟨g8, hg8⟩ : ∃ g8, g8 = w3.heap.size + 1 := ⟨_, rfl⟩
  have hge := hB3.out.size
  have n0 := (show Below w.heap.size w ((w3.alloc (Obj.cells #[] 9)).alloc (Obj.cells #[Value.string x1.fStroke, Value.int IntKind.i64 x1.fStakes, Value.slice x1.A x1.n x1.c, Value.slice x1.A' x1.n' x1.c', Value.string x1.fLog] 29)) from (hB3.out.alloc hge _).alloc (by simp; omega) _)
  have n1 := (show ((w3.alloc (Obj.cells #[] 9)).alloc (Obj.cells #[Value.string x1.fStroke, Value.int IntKind.i64 x1.fStakes, Value.slice x1.A x1.n x1.c, Value.slice x1.A' x1.n' x1.c', Value.string x1.fLog] 29)).heap[w.heap.size]? = some (.cells #[Value.string x.fStroke, Value.int IntKind.i64 x.fStakes, Value.slice x.A x.n x.c, Value.slice x.A' x.n' x.c', Value.string x.fLog] 29 (0, 0)) from alloc_old (alloc_old k0d.out))
  have n2 := (show ((w3.alloc (Obj.cells #[] 9)).alloc (Obj.cells #[Value.string x1.fStroke, Value.int IntKind.i64 x1.fStakes, Value.slice x1.A x1.n x1.c, Value.slice x1.A' x1.n' x1.c', Value.string x1.fLog] 29)).heap[w.heap.size + 1]? = some (.cells #[Value.string ⟨#[]⟩, Value.int IntKind.i64 0, Value.slice none 0 0, Value.slice none 0 0, Value.string ⟨#[]⟩] 29 (0, 0)) from alloc_old (alloc_old k1d.out))
  have hup : Below w3.heap.size w3 ((w3.alloc (Obj.cells #[] 9)).alloc (Obj.cells #[Value.string x1.fStroke, Value.int IntKind.i64 x1.fStakes, Value.slice x1.A x1.n x1.c, Value.slice x1.A' x1.n' x1.c', Value.string x1.fLog] 29)) := ((Below.refl _ _).alloc (Nat.le_refl _) _).alloc (by simp) _
  have n3 := (hD3.out.less hB2.out.size).below hup
  have n3 := n3.dg (g := w3.heap.size + 1) (alloc_at (by simp)) (by omega)
  have n4 := hW3.out.res.below hup
  rw [← hg8] at n3 ⊢
  refine nameW' (φ := fun W => Below w.heap.size w W ∧ W.heap[w.heap.size]? = some (.cells #[Value.string x.fStroke, Value.int IntKind.i64 x.fStakes, Value.slice x.A x.n x.c, Value.slice x.A' x.n' x.c', Value.string x.fLog] 29 (0, 0)) ∧ W.heap[w.heap.size + 1]? = some (.cells #[Value.string ⟨#[]⟩, Value.int IntKind.i64 0, Value.slice none 0 0, Value.slice none 0 0, Value.string ⟨#[]⟩] 29 (0, 0)) ∧ DG W w.heap.size g8 x1 ∧ Res strc 9 1 W w.heap.size (.slice (some ⟨bw, ow, .none⟩) nw cw2) nw (words 32 s) ∧ w.heap.size + 1 < g8) ⟨n0, n1, n2, n3, n4, (by have := (Array.getElem?_eq_some_iff.1 k1d.out).1; omega)⟩ ?_
  clear n0 n1 n2 n3 n4 hup hg8 hge hB2 hB3 k0c k1c k0d k1d hW2 hW3 hD3
  obtain ⟨q8, hq8⟩ : ∃ q8, q8 = w3.heap.size := ⟨_, rfl⟩
  rw [← hq8]
  clear hq8 hbw
  rintro W ⟨n0, n1, n2, n3, n4, hg8⟩
  have hB4 := hide n0
  have k0 := hide n1
  have k1 := hide n2
  have hD4 := hide n3
  have hW4 := hide n4
  clear n0 n1 n2 n3 n4
  have hcell := hide (fun W' (h : Res strc 9 1 W' w.heap.size (.slice (some ⟨bw, ow, .none⟩) nw cw2) nw (words 32 s)) => word0 h hn0 hT.out)
  have cw0 := hcell.out _ hW4.out
  go_wp2_with fail
  have hts := hide (tail_size hT.out)
  have hcut0 : ∀ W, (Instr.slice 24 (.slice (some ⟨bw, ow, .none⟩) nw cw2) (some (.int .i64 1)) .none .none).run Tryz.prog W = .ok (.slice (cutA (some ⟨bw, ow, .none⟩) cw2 1 1) (nw - 1) (cw2 - 1)) W := fun W => run_cut (P := Tryz.prog) Tryz.underlying24 info_strj2 (some ⟨bw, ow, .none⟩) nw cw2 1 (by omega) W
  have hAc := hide ((hW4.out.arr strc_len).cut (k := 1) (by omega) hc2)
  rw [hT.out] at hAc
  obtain ⟨A1, hA1⟩ : ∃ A1, A1 = cutA (some ⟨bw, ow, .none⟩) cw2 1 1 := ⟨_, rfl⟩
  obtain ⟨m1, hm1⟩ : ∃ m1, m1 = nw - 1 := ⟨_, rfl⟩
  obtain ⟨cm, hcm⟩ : ∃ cm, cm = cw2 - 1 := ⟨_, rfl⟩
  have hm1b : m1 ≤ cm ∧ m1 ≤ 1048577 := by omega
  rw [← hA1, ← hm1] at hAc
  have hcut : ∀ W, (Instr.slice 24 (.slice (some ⟨bw, ow, .none⟩) nw cw2) (some (.int .i64 1)) .none .none).run Tryz.prog W = .ok (.slice A1 m1 cm) W := by rw [hA1, hm1, hcm]; exact hcut0
  replace hAc : Hid (Arr strc 1 W W.heap.size A1 m1 T) := hAc
  clear hA1 hm1 hcm hcut0 hc2
  have hDR := hide (show Below W.heap.size W W.drew from below_drewN (Below.refl _ _) 1)
  have hRd : Hid (∀ W', W.grownBy W' (some g8) → Res strc 9 1 W' w.heap.size (.slice (some ⟨bw, ow, .none⟩) nw cw2) nw (words 32 s)) := hide (fun W' hg => hW4.out.other hD4.out.hK (by decide) hg)
  have hTx := hide (fun W (hB : Below w.heap.size w W) (hD' : DG W w.heap.size g8 x1) => hide (iText_heaps (joinSp T) g8 x1 w W hGh.out hB hD'))
  go_region_held3 (fun w' => w'.cell? ⟨bw, ow, .none⟩ = some (.string (⟨#[104, 101, 97, 112, 115]⟩ : ByteArray))) (first | exact hcell.out _ (hRd.out _ hG6.out) | exact hcell.out _ (hRd.out _ hG5.out) | exact hcell.out _ (hRd.out _ (grown_of_below hDR.out)) | go_keep) (first | (go_at_call 31; refine (iJoin_any A1 m1 cm T _ (by omega) hm1b.1 (by have := hts.out.1; omega) (hAc.out.go hDR.out)).mono ?_; rintro e w4 ⟨rfl, hb4⟩; have hB5 := hide (hDR.out.trans (hb4.mono hDR.out.size)); have hG5 := hide (grown_of_below (row := some g8) hB5.out); clear hb4) | (go_at_call 30; have hx := (hTx.out _ (hB4.out.trans (hB5.out.mono hB4.out.size)) (hD4.out.below hB5.out)).out; rw [hP1.out, ← hRh.out] at hx; refine hx.mono ?_; rintro e w6 ⟨v5, x5, rfl, hd5, hp5, hl5, hg5, hb5⟩; have hG6 := hide (grown_two (grown_of_below (row := some g8) hB5.out) hg5); have hD5 := hide hd5; have hp5 := hide hp5; have hL5 := hide hl5; have hB6 := hide hb5; obtain ⟨A5, cv5, hv5, _⟩ := hl5.slice; subst hv5; clear hd5 hl5 hg5 hb5) | fail)
  have k0e := hide (box_kept k0.out hG6.out (by omega))
  have k1e := hide (box_kept k1.out hG6.out (by omega))
  clear cw0
  obtain ⟨c0, c1, c2, c3, c4, _⟩ := row5 hD5.out.hK
  obtain ⟨r0, r1, r2, r3, r4, rf⟩ := row5 k1e.out
  have rf0 := rf 0; have rf1 := rf 1; have rf2 := rf 2; have rf3 := rf 3; have rf4 := rf 4
  clear rf
  go_wp2_with fail
  have hrow := set5_row (a0 := .string x5.fStroke) (a1 := .int .i64 x5.fStakes) (a2 := .slice x5.A x5.n x5.c) (a3 := .slice x5.A' x5.n' x5.c') (a4 := .string x5.fLog) k1e.out
  obtain ⟨q0, q1, q2, q3, q4, _⟩ := row5 hrow
  unfold set5 at q0 q1 q2 q3 q4
  refine bodyPost_ret (v := .tuple #[.agg #[.string x5.fStroke, .int .i64 x5.fStakes, .slice x5.A x5.n x5.c, .slice x5.A' x5.n' x5.c', .string x5.fLog], .slice A5 R2.length cv5, .int .i64 0]) (by simp [results, Tryz.results9, go_sem, q0, q1, q2, q3, q4]) rfl ?_
  exact ⟨x5, .slice A5 R2.length cv5, by rw [hM.out], by rw [hM.out]; exact hp5.out, set5_dv k1e.out hD5.out.dv, by rw [hM.out]; exact set5_res k1e.out hL5.out, set5_below hB6.out (by omega)⟩
set_option maxHeartbeats 4000000 in
theorem iDc_log0 (x : DeskV) (s : ByteArray) (w : World) (hG : Gl w) (hx : x.good w w.heap.size) (hs0 : x.fStroke.size ≤ maxLen) (hls : s.size ≤ 1048576) (hok : x.pure.ok = true) (T : List ByteArray) (hT : Hid (words 32 s = (⟨#[108, 111, 103]⟩ : ByteArray) :: T)) (hf : hasCnt (⟨#[108, 111, 103]⟩ : ByteArray) (words 32 s).length = true) (hz : (mText x.pure .cLog (joinSp T)).2.2 = 0) :
    Calls Tryz.prog 9 #[.agg #[.string x.fStroke, .int .i64 x.fStakes, .slice x.A x.n x.c, .slice x.A' x.n' x.c', .string x.fLog], .string s] w fun e w' => DcPost w (dcRes x.pure s) e w' := by
  obtain ⟨R, hR⟩ : ∃ R, R = mText x.pure .cLog (joinSp T) := ⟨_, rfl⟩
  rw [← hR] at hz
  have hRh := hide hR
  have hDo : mDo x.pure .cLog (words 32 s) = R := by unfold mDo; rw [if_pos (show Cmd.plain .cLog = true from rfl), hT.out, hR]; rfl
  have hM : Hid (dcRes x.pure s = (R.1, R.2.1, 0)) := hide (by rw [dc_plain (c := .cLog) hok hT.out rfl hf, hDo, if_pos hz])
  obtain ⟨R1, R2, R3⟩ := R
  obtain rfl : R3 = 0 := hz
  clear hDo hR
  have hxh := hide hx
  have hGh := hide hG
  clear hx hG
  go_enter Tryz.func9, Tryz.ntmps9
  go_upto_region 1 with fail
  obtain ⟨W0, hW0⟩ : ∃ W0, W0 = ((w.alloc (Obj.cells #[Value.string x.fStroke, Value.int IntKind.i64 x.fStakes, Value.slice x.A x.n x.c, Value.slice x.A' x.n' x.c', Value.string x.fLog] 29)).alloc (Obj.cells #[Value.string ⟨#[]⟩, Value.int IntKind.i64 0, Value.slice none 0 0, Value.slice none 0 0, Value.string ⟨#[]⟩] 29)) := ⟨_, rfl⟩
  have hB0 := hide (show Below w.heap.size w W0 by rw [hW0]; go_grown)
  have k0 := hide (show W0.heap[w.heap.size]? = some (.cells #[Value.string x.fStroke, Value.int IntKind.i64 x.fStakes, Value.slice x.A x.n x.c, Value.slice x.A' x.n' x.c', Value.string x.fLog] 29 (0, 0)) by rw [hW0]; exact alloc_old (heap_alloc_new w _))
  have k1 := hide (show W0.heap[w.heap.size + 1]? = some (.cells #[Value.string ⟨#[]⟩, Value.int IntKind.i64 0, Value.slice none 0 0, Value.slice none 0 0, Value.string ⟨#[]⟩] 29 (0, 0)) by rw [hW0]; exact alloc_at (by simp))
  rw [← hW0]
  clear hW0
  obtain ⟨c0, c1, c2, c3, c4, cf⟩ := row5 k0.out
  go_wp2_with fail
  refine (iValid_any x _ (hGh.out.below hB0.out) (hxh.out.go hB0.out) hs0).mono ?_
  rw [deskOk_pure, hok]
  rintro e w1 ⟨rfl, hb⟩
  have hB1 := hide (hB0.out.trans (hb.mono hB0.out.size))
  have k0b := hide (keepr k0.out hb)
  have k1b := hide (keepr k1.out hb)
  clear hb c0 c1 c2 c3 c4 cf k0 k1
  obtain ⟨nw, hnw⟩ : ∃ nw, nw = (words 32 s).length := ⟨_, rfl⟩
  have hnwb : nw ≤ 1048577 := by have := words_le 32 s; omega
  have hnwh := hide hnw
  rw [← hnw] at hf
  go_wp2_with fail
  refine (iSplit_any 32 s _ hls (hGh.out.below hB1.out)).mono ?_
  rw [← hnw]
  rintro e w2 ⟨v2, rfl, ho2, hb⟩
  have hB2 := hide (hB1.out.trans (hb.mono hB1.out.size))
  have k0c := hide (keepr k0b.out hb)
  have k1c := hide (keepr k1b.out hb)
  obtain ⟨A2, cw2, hv2, hc2⟩ := ho2.slice
  subst hv2
  have hW2 := hide (ho2.less hB1.out.size)
  have hn0 : 0 < nw := by rw [← ho2.len, hT.out]; simp
  have hn0i : (0 : Int) < (nw : Int) := by omega
  obtain ⟨bw, ow, z0, hAw, hbw, hz0, cw0⟩ := (ho2.arr strc_len).str hn0
  rw [hT.out] at hz0
  have hz00 : z0 = (⟨#[108, 111, 103]⟩ : ByteArray) := (Option.some.inj hz0).symm
  subst hz00
  subst hAw
  simp only [Nat.add_zero] at cw0
  clear hb ho2 hz0 hnw hB1 k0b k1b
  go_wp2_with fail
  refine (iCount_any (⟨#[108, 111, 103]⟩ : ByteArray) nw _).mono ?_
  rw [hf]
  rintro e w3 ⟨rfl, rfl⟩
  obtain ⟨c0, c1, c2, c3, c4, _⟩ := row5 k0c.out
  go_wp2_with fail
  refine (iCopy_any x _ (hxh.out.go hB2.out)).mono ?_
  rintro e w3 ⟨x1, rfl, hp1, hd1, hb⟩
  have hB3 := hide (hB2.out.trans (hb.mono hB2.out.size))
  have k0d := hide (keepr k0c.out hb)
  have k1d := hide (keepr k1c.out hb)
  have hW3 := hide (hW2.out.below hb)
  have hD3 := hide hd1
  have hP1 := hide hp1
  clear hb hd1 hp1 c0 c1 c2 c3 c4 cw0
  go_upto_region 7 with fail
  obtain ⟨g8, hg8⟩ : ∃ g8, g8 = w3.heap.size + 1 := ⟨_, rfl⟩
  have hge := hB3.out.size
  have n0 := (show Below w.heap.size w ((w3.alloc (Obj.cells #[] 9)).alloc (Obj.cells #[Value.string x1.fStroke, Value.int IntKind.i64 x1.fStakes, Value.slice x1.A x1.n x1.c, Value.slice x1.A' x1.n' x1.c', Value.string x1.fLog] 29)) from (hB3.out.alloc hge _).alloc (by simp; omega) _)
  have n1 := (show ((w3.alloc (Obj.cells #[] 9)).alloc (Obj.cells #[Value.string x1.fStroke, Value.int IntKind.i64 x1.fStakes, Value.slice x1.A x1.n x1.c, Value.slice x1.A' x1.n' x1.c', Value.string x1.fLog] 29)).heap[w.heap.size]? = some (.cells #[Value.string x.fStroke, Value.int IntKind.i64 x.fStakes, Value.slice x.A x.n x.c, Value.slice x.A' x.n' x.c', Value.string x.fLog] 29 (0, 0)) from alloc_old (alloc_old k0d.out))
  have n2 := (show ((w3.alloc (Obj.cells #[] 9)).alloc (Obj.cells #[Value.string x1.fStroke, Value.int IntKind.i64 x1.fStakes, Value.slice x1.A x1.n x1.c, Value.slice x1.A' x1.n' x1.c', Value.string x1.fLog] 29)).heap[w.heap.size + 1]? = some (.cells #[Value.string ⟨#[]⟩, Value.int IntKind.i64 0, Value.slice none 0 0, Value.slice none 0 0, Value.string ⟨#[]⟩] 29 (0, 0)) from alloc_old (alloc_old k1d.out))
  have hup : Below w3.heap.size w3 ((w3.alloc (Obj.cells #[] 9)).alloc (Obj.cells #[Value.string x1.fStroke, Value.int IntKind.i64 x1.fStakes, Value.slice x1.A x1.n x1.c, Value.slice x1.A' x1.n' x1.c', Value.string x1.fLog] 29)) := ((Below.refl _ _).alloc (Nat.le_refl _) _).alloc (by simp) _
  have n3 := (hD3.out.less hB2.out.size).below hup
  have n3 := n3.dg (g := w3.heap.size + 1) (alloc_at (by simp)) (by omega)
  have n4 := hW3.out.res.below hup
  rw [← hg8] at n3 ⊢
  refine nameW' (φ := fun W => Below w.heap.size w W ∧ W.heap[w.heap.size]? = some (.cells #[Value.string x.fStroke, Value.int IntKind.i64 x.fStakes, Value.slice x.A x.n x.c, Value.slice x.A' x.n' x.c', Value.string x.fLog] 29 (0, 0)) ∧ W.heap[w.heap.size + 1]? = some (.cells #[Value.string ⟨#[]⟩, Value.int IntKind.i64 0, Value.slice none 0 0, Value.slice none 0 0, Value.string ⟨#[]⟩] 29 (0, 0)) ∧ DG W w.heap.size g8 x1 ∧ Res strc 9 1 W w.heap.size (.slice (some ⟨bw, ow, .none⟩) nw cw2) nw (words 32 s) ∧ w.heap.size + 1 < g8) ⟨n0, n1, n2, n3, n4, (by have := (Array.getElem?_eq_some_iff.1 k1d.out).1; omega)⟩ ?_
  clear n0 n1 n2 n3 n4 hup hg8 hge hB2 hB3 k0c k1c k0d k1d hW2 hW3 hD3
  obtain ⟨q8, hq8⟩ : ∃ q8, q8 = w3.heap.size := ⟨_, rfl⟩
  rw [← hq8]
  clear hq8 hbw
  rintro W ⟨n0, n1, n2, n3, n4, hg8⟩
  have hB4 := hide n0
  have k0 := hide n1
  have k1 := hide n2
  have hD4 := hide n3
  have hW4 := hide n4
  clear n0 n1 n2 n3 n4
  have hcell := hide (fun W' (h : Res strc 9 1 W' w.heap.size (.slice (some ⟨bw, ow, .none⟩) nw cw2) nw (words 32 s)) => word0 h hn0 hT.out)
  have cw0 := hcell.out _ hW4.out
  go_wp2_with fail
  have hts := hide (tail_size hT.out)
  have hcut0 : ∀ W, (Instr.slice 24 (.slice (some ⟨bw, ow, .none⟩) nw cw2) (some (.int .i64 1)) .none .none).run Tryz.prog W = .ok (.slice (cutA (some ⟨bw, ow, .none⟩) cw2 1 1) (nw - 1) (cw2 - 1)) W := fun W => run_cut (P := Tryz.prog) Tryz.underlying24 info_strj2 (some ⟨bw, ow, .none⟩) nw cw2 1 (by omega) W
  have hAc := hide ((hW4.out.arr strc_len).cut (k := 1) (by omega) hc2)
  rw [hT.out] at hAc
  obtain ⟨A1, hA1⟩ : ∃ A1, A1 = cutA (some ⟨bw, ow, .none⟩) cw2 1 1 := ⟨_, rfl⟩
  obtain ⟨m1, hm1⟩ : ∃ m1, m1 = nw - 1 := ⟨_, rfl⟩
  obtain ⟨cm, hcm⟩ : ∃ cm, cm = cw2 - 1 := ⟨_, rfl⟩
  have hm1b : m1 ≤ cm ∧ m1 ≤ 1048577 := by omega
  rw [← hA1, ← hm1] at hAc
  have hcut : ∀ W, (Instr.slice 24 (.slice (some ⟨bw, ow, .none⟩) nw cw2) (some (.int .i64 1)) .none .none).run Tryz.prog W = .ok (.slice A1 m1 cm) W := by rw [hA1, hm1, hcm]; exact hcut0
  replace hAc : Hid (Arr strc 1 W W.heap.size A1 m1 T) := hAc
  clear hA1 hm1 hcm hcut0 hc2
  have hDR := hide (show Below W.heap.size W W.drew from below_drewN (Below.refl _ _) 1)
  have hRd : Hid (∀ W', W.grownBy W' (some g8) → Res strc 9 1 W' w.heap.size (.slice (some ⟨bw, ow, .none⟩) nw cw2) nw (words 32 s)) := hide (fun W' hg => hW4.out.other hD4.out.hK (by decide) hg)
  have hTx := hide (fun W (hB : Below w.heap.size w W) (hD' : DG W w.heap.size g8 x1) => hide (iText_log (joinSp T) g8 x1 w W hGh.out hB hD'))
  go_region_held3 (fun w' => w'.cell? ⟨bw, ow, .none⟩ = some (.string (⟨#[108, 111, 103]⟩ : ByteArray))) (first | exact hcell.out _ (hRd.out _ hG6.out) | exact hcell.out _ (hRd.out _ hG5.out) | exact hcell.out _ (hRd.out _ (grown_of_below hDR.out)) | go_keep) (first | (go_at_call 31; refine (iJoin_any A1 m1 cm T _ (by omega) hm1b.1 (by have := hts.out.1; omega) (hAc.out.go hDR.out)).mono ?_; rintro e w4 ⟨rfl, hb4⟩; have hB5 := hide (hDR.out.trans (hb4.mono hDR.out.size)); have hG5 := hide (grown_of_below (row := some g8) hB5.out); clear hb4) | (go_at_call 30; have hx := (hTx.out _ (hB4.out.trans (hB5.out.mono hB4.out.size)) (hD4.out.below hB5.out)).out; rw [hP1.out, ← hRh.out] at hx; refine hx.mono ?_; rintro e w6 ⟨v5, x5, rfl, hd5, hp5, hl5, hg5, hb5⟩; have hG6 := hide (grown_two (grown_of_below (row := some g8) hB5.out) hg5); have hD5 := hide hd5; have hp5 := hide hp5; have hL5 := hide hl5; have hB6 := hide hb5; obtain ⟨A5, cv5, hv5, _⟩ := hl5.slice; subst hv5; clear hd5 hl5 hg5 hb5) | fail)
  have k0e := hide (box_kept k0.out hG6.out (by omega))
  have k1e := hide (box_kept k1.out hG6.out (by omega))
  clear cw0
  obtain ⟨c0, c1, c2, c3, c4, _⟩ := row5 hD5.out.hK
  obtain ⟨r0, r1, r2, r3, r4, rf⟩ := row5 k1e.out
  have rf0 := rf 0; have rf1 := rf 1; have rf2 := rf 2; have rf3 := rf 3; have rf4 := rf 4
  clear rf
  go_wp2_with fail
  have hrow := set5_row (a0 := .string x5.fStroke) (a1 := .int .i64 x5.fStakes) (a2 := .slice x5.A x5.n x5.c) (a3 := .slice x5.A' x5.n' x5.c') (a4 := .string x5.fLog) k1e.out
  obtain ⟨q0, q1, q2, q3, q4, _⟩ := row5 hrow
  unfold set5 at q0 q1 q2 q3 q4
  refine bodyPost_ret (v := .tuple #[.agg #[.string x5.fStroke, .int .i64 x5.fStakes, .slice x5.A x5.n x5.c, .slice x5.A' x5.n' x5.c', .string x5.fLog], .slice A5 R2.length cv5, .int .i64 0]) (by simp [results, Tryz.results9, go_sem, q0, q1, q2, q3, q4]) rfl ?_
  exact ⟨x5, .slice A5 R2.length cv5, by rw [hM.out], by rw [hM.out]; exact hp5.out, set5_dv k1e.out hD5.out.dv, by rw [hM.out]; exact set5_res k1e.out hL5.out, set5_below hB6.out (by omega)⟩
end Go.Proofs.YtfpaejlipaainaaGreatDoor
