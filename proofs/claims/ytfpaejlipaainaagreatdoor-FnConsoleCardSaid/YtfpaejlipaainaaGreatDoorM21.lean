/- Texts that belong together, joined: contracts and plain laws. No statement is proved here. -/
import Derived.Test.YtfpaejlipaainaaGreatDoorM19
import Derived.Test.YtfpaejlipaainaaGreatDoorM20
namespace Go.Proofs.YtfpaejlipaainaaGreatDoor
open Go.ChangeShapes Go.WideShapes Go.ChangeAt Go.RowKit Go.Deep
set_option maxRecDepth 100000
theorem rdNum_bound (l : List UInt8) : -1000000000000000000 ≤ rdNum l ∧ rdNum l ≤ 1000000000000000000 := by
  unfold rdNum
  split
  · rename_i h
    unfold rdOk at h
    simp only [Bool.and_eq_true, decide_eq_true_eq] at h
    obtain ⟨⟨⟨h1, h2⟩, h3⟩, _⟩ := h
    have h4 := valOf_lt (bare l) h3
    have h5 : 10 ^ (bare l).length ≤ 10 ^ 18 := Nat.pow_le_pow_right (by omega) h2
    have h6 : (10 : Nat) ^ 18 = 1000000000000000000 := by decide
    unfold rdSigned
    split <;> omega
  · omega
theorem nums_bound (sk : Option Nat) (T : List ByteArray) : ∀ z ∈ numsL sk T, -1000000000000000000 ≤ z ∧ z ≤ 1000000000000000000 := by
  intro z hz
  unfold numsL at hz
  split at hz
  · obtain ⟨x, _, rfl⟩ := List.mem_map.1 hz
    exact rdNum_bound _
  · cases hz
theorem nums_len (sk : Option Nat) (T : List ByteArray) : (numsL sk T).length ≤ T.length := by
  unfold numsL
  split
  · rw [List.length_map]; exact restTo_len _ _ _
  · exact Nat.zero_le _
theorem rest_len_none (T : List ByteArray) (k : Nat) : (restTo none T k).length = k := by
  unfold restTo; rw [List.length_map, List.filter_eq_self.2 (by intro a _; simp), List.length_range]
theorem least_nums {c : Cmd} {n : Nat} {T : List ByteArray} (hc : c.fits n = true) (hp : c.plain = false) (hn : T.length + 1 = n) (hb : numsB c.skip T = true) : c.least ≤ (numsL c.skip T).length ∧ c.leastW ≤ n := by
  unfold numsL
  rw [if_pos hb, List.length_map]
  cases c <;> simp only [Cmd.fits, decide_eq_true_eq] at hc <;> simp only [Cmd.skip, Cmd.least, Cmd.leastW]
  case cWord =>
    obtain ⟨a, b, rfl⟩ : ∃ a b, T = [a, b] := by
      match T, hn with
      | [a, b], _ => exact ⟨a, b, rfl⟩
      | [], h => simp at h; omega
      | [a], h => simp at h; omega
      | a :: b :: d :: r, h => simp at h; omega
    refine ⟨?_, by omega⟩
    show 1 ≤ (restTo (some 0) [a, b] 2).length
    unfold restTo
    rw [List.length_map]
    decide
  case cEnter =>
    obtain ⟨a, b, d, rfl⟩ : ∃ a b d, T = [a, b, d] := by
      match T, hn with
      | [a, b, d], _ => exact ⟨a, b, d, rfl⟩
      | [], h => simp at h; omega
      | [a], h => simp at h; omega
      | [a, b], h => simp at h; omega
      | a :: b :: d :: e :: r, h => simp at h; omega
    refine ⟨?_, by omega⟩
    show 2 ≤ (restTo (some 1) [a, b, d] 3).length
    unfold restTo
    rw [List.length_map]
    decide
  all_goals first | (cases hp; done) | (rw [rest_len_none]; omega)
def skB1 : Cmd → Bool
  | .cWord => true
  | _ => false
def skB2 : Cmd → Bool
  | .cEnter => true
  | _ => false
theorem sk_cl (c : Cmd) : (skB1 c = false ∧ skB2 c = false ∧ c.skip = none) ∨ (skB1 c = true ∧ skB2 c = false ∧ c.skip = some 0) ∨ (skB1 c = false ∧ skB2 c = true ∧ c.skip = some 1) := by
  cases c <;> first | exact .inl ⟨rfl, rfl, rfl⟩ | exact .inr (.inl ⟨rfl, rfl, rfl⟩) | exact .inr (.inr ⟨rfl, rfl, rfl⟩)
theorem sk_e1 {z : ByteArray} {c : Cmd} (h : z = c.word) : (z.toList == [119, 111, 114, 100]) = skB1 c := by
  subst h
  cases c <;> first | exact str_yes rfl | exact str_no (by decide)
theorem sk_e2 {z : ByteArray} {c : Cmd} (h : z = c.word) : (z.toList == [101, 110, 116, 101, 114]) = skB2 c := by
  subst h
  cases c <;> first | exact str_yes rfl | exact str_no (by decide)
theorem notplain {z : ByteArray} {c : Cmd} (h : z = c.word) (hp : c.plain = false) : (z.toList == [115, 116, 114, 111, 107, 101]) = false ∧ (z.toList == [104, 101, 97, 112]) = false ∧ (z.toList == [104, 101, 97, 112, 115]) = false ∧ (z.toList == [108, 111, 103]) = false := by
  subst h
  refine ⟨?_, ?_, ?_, ?_⟩ <;> (cases c <;> first | (cases hp; done) | exact str_no (by decide))
theorem mDo_nums {d : DeskM} {c : Cmd} {y0 : ByteArray} {T : List ByteArray} {s : ByteArray} (hT : words 32 s = y0 :: T) (hp : c.plain = false) (hb : numsB c.skip T = true) : mDo d c (words 32 s) = ((mWork d c (words 32 s) (numsL c.skip T)).1, [(mWork d c (words 32 s) (numsL c.skip T)).2.1], (mWork d c (words 32 s) (numsL c.skip T)).2.2) := by
  have h1 : c.nums (words 32 s) = restTo c.skip T T.length := by unfold Cmd.nums; rw [hT]; rfl
  unfold mDo
  rw [if_neg (by rw [hp]; decide), h1, if_pos (show (restTo c.skip T T.length).all rdB = true from hb)]
  unfold numsL
  rw [if_pos hb]
theorem mDo_bad {d : DeskM} {c : Cmd} {y0 : ByteArray} {T : List ByteArray} {s : ByteArray} (hT : words 32 s = y0 :: T) (hp : c.plain = false) (hb : numsB c.skip T = false) : mDo d c (words 32 s) = (d, [⟨#[]⟩], 7) := by
  have h1 : c.nums (words 32 s) = restTo c.skip T T.length := by unfold Cmd.nums; rw [hT]; rfl
  unfold mDo
  rw [if_neg (by rw [hp]; decide), h1, if_neg (show ¬ (restTo c.skip T T.length).all rdB = true by have : (restTo c.skip T T.length).all rdB = false := hb; rw [this]; decide)]
set_option maxHeartbeats 4000000 in
theorem iDc_num0 (x : DeskV) (s : ByteArray) (w : World) (hG : Gl w) (hx : x.good w w.heap.size) (hs0 : x.fStroke.size ≤ maxLen) (hls : s.size ≤ 1048576) (hok : x.pure.ok = true) (y0 : ByteArray) (T : List ByteArray) (hT : Hid (words 32 s = y0 :: T)) (c : Cmd) (hc : Hid (y0 = c.word)) (hp : c.plain = false) (hf : hasCnt y0 (words 32 s).length = true) (hb0 : numsB c.skip T = true) (hz : (mWork x.pure c (words 32 s) (numsL c.skip T)).2.2 = 0) :
    Calls Tryz.prog 9 #[.agg #[.string x.fStroke, .int .i64 x.fStakes, .slice x.A x.n x.c, .slice x.A' x.n' x.c', .string x.fLog], .string s] w fun e w' => DcPost w (dcRes x.pure s) e w' := by
  obtain ⟨R, hR⟩ : ∃ R, R = mWork x.pure c (words 32 s) (numsL c.skip T) := ⟨_, rfl⟩
  rw [← hR] at hz
  have hRh := hide hR
  have hDo : mDo x.pure c (words 32 s) = (R.1, [R.2.1], R.2.2) := by rw [mDo_nums hT.out hp hb0, hR]
  have hM : Hid (dcRes x.pure s = (R.1, [R.2.1], 0)) := hide (by rw [dc_plain hok hT.out hc.out hf, hDo, if_pos hz])
  obtain ⟨R1, R2, R3⟩ := R
  obtain rfl : R3 = 0 := hz
  clear hDo hR
  have hln := hide (least_nums (by rw [hc.out, hasCnt_word] at hf; exact hf) hp (by rw [hT.out]; rfl) hb0)
  obtain ⟨s1, s2, s3, s4⟩ := notplain hc.out hp
  have hph := hide hp
  have hsk := hide (sk_cl c)
  have hE1 := hide (sk_e1 hc.out)
  have hE2 := hide (sk_e2 hc.out)
  have hNB := hide hb0
  have hokh := hide hok
  clear hp hb0
  have hxh := hide hx
  have hGh := hide hG
  clear hx hG
  go_enter Tryz.func9, Tryz.ntmps9
  go_upto_region 1 with fail
  obtain ⟨W0, hW0⟩ : ∃ W0, W0 = ((w.alloc (Obj.cells #[Value.string x.fStroke, Value.int IntKind.i64 x.fStakes, Value.slice x.A x.n x.c, Value.slice x.A' x.n' x.c', Value.string x.fLog] 29)).alloc (Obj.cells #[Value.string ⟨#[]⟩, Value.int IntKind.i64 0, Value.slice none 0 0, Value.slice none 0 0, Value.string ⟨#[]⟩] 29)) := ⟨_, rfl⟩
  have hB0 := hide (show Below w.heap.size w W0 by rw [hW0]; go_grown)
  have k0 := hide (show W0.heap[w.heap.size]? = some (.cells #[Value.string x.fStroke, Value.int IntKind.i64 x.fStakes, Value.slice x.A x.n x.c, Value.slice x.A' x.n' x.c', Value.string x.fLog] 29 (0, 0)) by rw [hW0]; exact alloc_old (heap_alloc_new w _))
  have k1 := hide (show W0.heap[w.heap.size + 1]? = some (.cells #[Value.string ⟨#[]⟩, Value.int IntKind.i64 0, Value.slice none 0 0, Value.slice none 0 0, Value.string ⟨#[]⟩] 29 (0, 0)) by rw [hW0]; exact alloc_at (by simp))
  rw [← hW0]
  clear hW0
  obtain ⟨c0, c1, c2, c3, c4, cf⟩ := row5 k0.out
  go_wp2_with fail
  refine (iValid_any x _ (hGh.out.below hB0.out) (hxh.out.go hB0.out) hs0).mono ?_
  rw [deskOk_pure, hok]
  rintro e w1 ⟨rfl, hb⟩
  have hB1 := hide (hB0.out.trans (hb.mono hB0.out.size))
  have k0b := hide (keepr k0.out hb)
  have k1b := hide (keepr k1.out hb)
  clear hb c0 c1 c2 c3 c4 cf k0 k1
  obtain ⟨nw, hnw⟩ : ∃ nw, nw = (words 32 s).length := ⟨_, rfl⟩
  have hnwb : nw ≤ 1048577 := by have := words_le 32 s; omega
  have hnwh := hide hnw
  rw [← hnw] at hf
  go_wp2_with fail
  refine (iSplit_any 32 s _ hls (hGh.out.below hB1.out)).mono ?_
  rw [← hnw]
  rintro e w2 ⟨v2, rfl, ho2, hb⟩
  have hB2 := hide (hB1.out.trans (hb.mono hB1.out.size))
  have k0c := hide (keepr k0b.out hb)
  have k1c := hide (keepr k1b.out hb)
  obtain ⟨A2, cw2, hv2, hc2⟩ := ho2.slice
  subst hv2
  have hW2 := hide (ho2.less hB1.out.size)
  have hn0 : 0 < nw := by rw [← ho2.len, hT.out]; simp
  have hn0i : (0 : Int) < (nw : Int) := by omega
  obtain ⟨bw, ow, z0, hAw, hbw, hz0, cw0⟩ := (ho2.arr strc_len).str hn0
  rw [hT.out] at hz0
  have hz00 : z0 = y0 := (Option.some.inj hz0).symm
  subst hz00
  subst hAw
  simp only [Nat.add_zero] at cw0
  clear hb ho2 hz0 hnw hB1 k0b k1b
  go_wp2_with fail
  refine (iCount_any z0 nw _).mono ?_
  rw [hf]
  rintro e w3 ⟨rfl, rfl⟩
  obtain ⟨c0, c1, c2, c3, c4, _⟩ := row5 k0c.out
  go_wp2_with fail
  refine (iCopy_any x _ (hxh.out.go hB2.out)).mono ?_
  rintro e w3 ⟨x1, rfl, hp1, hd1, hb⟩
  have hB3 := hide (hB2.out.trans (hb.mono hB2.out.size))
  have k0d := hide (keepr k0c.out hb)
  have k1d := hide (keepr k1c.out hb)
  have hW3 := hide (hW2.out.below hb)
  have hD3 := hide hd1
  have hP1 := hide hp1
  clear hb hd1 hp1 c0 c1 c2 c3 c4 cw0
  go_upto_region 7 with fail
  obtain ⟨g8, hg8⟩ : ∃ g8, g8 = w3.heap.size + 1 := ⟨_, rfl⟩
  have hge := hB3.out.size
  have n0 := (show Below w.heap.size w ((w3.alloc (Obj.cells #[] 9)).alloc (Obj.cells #[Value.string x1.fStroke, Value.int IntKind.i64 x1.fStakes, Value.slice x1.A x1.n x1.c, Value.slice x1.A' x1.n' x1.c', Value.string x1.fLog] 29)) from (hB3.out.alloc hge _).alloc (by simp; omega) _)
  have n1 := (show ((w3.alloc (Obj.cells #[] 9)).alloc (Obj.cells #[Value.string x1.fStroke, Value.int IntKind.i64 x1.fStakes, Value.slice x1.A x1.n x1.c, Value.slice x1.A' x1.n' x1.c', Value.string x1.fLog] 29)).heap[w.heap.size]? = some (.cells #[Value.string x.fStroke, Value.int IntKind.i64 x.fStakes, Value.slice x.A x.n x.c, Value.slice x.A' x.n' x.c', Value.string x.fLog] 29 (0, 0)) from alloc_old (alloc_old k0d.out))
  have n2 := (show ((w3.alloc (Obj.cells #[] 9)).alloc (Obj.cells #[Value.string x1.fStroke, Value.int IntKind.i64 x1.fStakes, Value.slice x1.A x1.n x1.c, Value.slice x1.A' x1.n' x1.c', Value.string x1.fLog] 29)).heap[w.heap.size + 1]? = some (.cells #[Value.string ⟨#[]⟩, Value.int IntKind.i64 0, Value.slice none 0 0, Value.slice none 0 0, Value.string ⟨#[]⟩] 29 (0, 0)) from alloc_old (alloc_old k1d.out))
  have hup : Below w3.heap.size w3 ((w3.alloc (Obj.cells #[] 9)).alloc (Obj.cells #[Value.string x1.fStroke, Value.int IntKind.i64 x1.fStakes, Value.slice x1.A x1.n x1.c, Value.slice x1.A' x1.n' x1.c', Value.string x1.fLog] 29)) := ((Below.refl _ _).alloc (Nat.le_refl _) _).alloc (by simp) _
  have n3 := (hD3.out.less hB2.out.size).below hup
  have n3 := n3.dg (g := w3.heap.size + 1) (alloc_at (by simp)) (by omega)
  have n4 := hW3.out.res.below hup
  rw [← hg8] at n3 ⊢
  refine nameW' (φ := fun W => Below w.heap.size w W ∧ W.heap[w.heap.size]? = some (.cells #[Value.string x.fStroke, Value.int IntKind.i64 x.fStakes, Value.slice x.A x.n x.c, Value.slice x.A' x.n' x.c', Value.string x.fLog] 29 (0, 0)) ∧ W.heap[w.heap.size + 1]? = some (.cells #[Value.string ⟨#[]⟩, Value.int IntKind.i64 0, Value.slice none 0 0, Value.slice none 0 0, Value.string ⟨#[]⟩] 29 (0, 0)) ∧ DG W w.heap.size g8 x1 ∧ Res strc 9 1 W w.heap.size (.slice (some ⟨bw, ow, .none⟩) nw cw2) nw (words 32 s) ∧ w.heap.size + 1 < g8) ⟨n0, n1, n2, n3, n4, (by have := (Array.getElem?_eq_some_iff.1 k1d.out).1; omega)⟩ ?_
  clear n0 n1 n2 n3 n4 hup hg8 hge hB2 hB3 k0c k1c k0d k1d hW2 hW3 hD3
  obtain ⟨q8, hq8⟩ : ∃ q8, q8 = w3.heap.size := ⟨_, rfl⟩
  rw [← hq8]
  clear hq8 hbw
  rintro W ⟨n0, n1, n2, n3, n4, hg8⟩
  have hB4 := hide n0
  have k0 := hide n1
  have k1 := hide n2
  have hD4 := hide n3
  have hW4 := hide n4
  clear n0 n1 n2 n3 n4
  have hcell := hide (fun W' (h : Res strc 9 1 W' w.heap.size (.slice (some ⟨bw, ow, .none⟩) nw cw2) nw (words 32 s)) => word0 h hn0 hT.out)
  have cw0 := hcell.out _ hW4.out
  have hNu := hide (fun W (h : Arr strc 1 W W.heap.size (some ⟨bw, ow, .none⟩) nw (words 32 s)) (hg : Gl W) => iNums_any z0 (skB1 c) (skB2 c) c.skip hsk.out hE1.out hE2.out (some ⟨bw, ow, .none⟩) nw cw2 T W hnwb hc2 hg (by rw [← hT.out]; exact h))
  have hwsz : Hid (∀ y ∈ words 32 s, y.size ≤ maxLen) := hide (fun y hy => by have := words_size 32 s hy; unfold maxLen; omega)
  have hTl : Hid (T.length + 1 = nw) := hide (by rw [hnwh.out, hT.out]; rfl)
  clear hsk hE1 hE2
  go_wp2_with fail
  refine (hNu.out _ (hW4.out.arr strc_len) (hGh.out.below hB4.out)).mono ?_
  rw [hNB.out]
  rintro e w4 ⟨vn, rfl, hrn, hb⟩
  have hB5 := hide (hB4.out.trans (hb.mono hB4.out.size))
  have k0p := hide (keepr k0.out hb)
  have k1p := hide (keepr k1.out hb)
  have hD5' := hide (hD4.out.below hb)
  have hW5 := hide (hW4.out.below hb)
  have hN5 := hide (hrn.less hB4.out.size)
  obtain ⟨An, cn, hvn, hcn⟩ := hrn.slice
  subst hvn
  clear hb hrn hNu hB4 k0 k1 hD4 hW4 cw0
  have hnl : (numsL c.skip T).length ≤ 1048576 := by have := nums_len c.skip T; have := hTl.out; omega
  have hx := iWork_any (w0 := w) (g := g8) (x := x1) ⟨hGh.out, hB5.out, hD5'.out, by rw [hP1.out]; exact hokh.out, hW5.out, hN5.out, hnwb, hnl, hwsz.out, nums_bound _ _⟩ c (by rw [hT.out, hc.out]; rfl) hph.out (by have := hln.out.2; have := hnwh.out; omega) hln.out.1
  rw [hP1.out, ← hRh.out] at hx
  have hxh2 := hide hx
  clear hx hnl
  go_wp2_with fail
  refine hxh2.out.mono ?_
  rintro e w5 ⟨x5, rfl, hd5, hp5, hg5, hb5⟩
  have hp5 := hide hp5
  have hD6 := hide hd5
  have hG5 := hide hg5
  have hB5b := hide hb5
  have k0q := hide (box_kept k0p.out hg5 (by omega))
  have k1q := hide (box_kept k1p.out hg5 (by omega))
  clear hd5 hg5 hb5 hxh2
  go_upto_region 19 with fail
  obtain ⟨q9, hq9⟩ : ∃ q9, q9 = w5.heap.size := ⟨_, rfl⟩
  have hupq := (Below.refl w5.heap.size w5).alloc (Nat.le_refl _) (.cells #[Value.string R2] 9)
  have hown := str_own (base := w.heap.size) w5 R2 (Nat.le_trans hB5.out.size hG5.out.size)
  rw [← hq9] at hown ⊢
  refine nameW' (φ := fun W => Below w.heap.size w W ∧ W.heap[w.heap.size]? = some (.cells #[Value.string x.fStroke, Value.int IntKind.i64 x.fStakes, Value.slice x.A x.n x.c, Value.slice x.A' x.n' x.c', Value.string x.fLog] 29 (0, 0)) ∧ W.heap[w.heap.size + 1]? = some (.cells #[Value.string ⟨#[]⟩, Value.int IntKind.i64 0, Value.slice none 0 0, Value.slice none 0 0, Value.string ⟨#[]⟩] 29 (0, 0)) ∧ DG W w.heap.size g8 x5 ∧ Res strc 9 1 W w.heap.size (.slice (some ⟨q9, 0, .none⟩) 1 1) 1 [R2]) ⟨hB5b.out.trans (hupq.mono hB5b.out.size), keepr k0q.out hupq, keepr k1q.out hupq, (hD6.out).below hupq, hown.res⟩ ?_
  rintro w6 ⟨n0, n1, n2, n3, n4⟩
  have hB6 := hide n0
  have k0e := hide n1
  have k1e := hide n2
  have hD5 := hide n3
  have hL5 := hide n4
  clear n0 n1 n2 n3 n4 hupq hown hq9
  obtain ⟨c0, c1, c2, c3, c4, _⟩ := row5 hD5.out.hK
  obtain ⟨r0, r1, r2, r3, r4, rf⟩ := row5 k1e.out
  have rf0 := rf 0; have rf1 := rf 1; have rf2 := rf 2; have rf3 := rf 3; have rf4 := rf 4
  clear rf
  go_wp2_with fail
  have hrow := set5_row (a0 := .string x5.fStroke) (a1 := .int .i64 x5.fStakes) (a2 := .slice x5.A x5.n x5.c) (a3 := .slice x5.A' x5.n' x5.c') (a4 := .string x5.fLog) k1e.out
  obtain ⟨q0, q1, q2, q3, q4, _⟩ := row5 hrow
  unfold set5 at q0 q1 q2 q3 q4
  refine bodyPost_ret (v := .tuple #[.agg #[.string x5.fStroke, .int .i64 x5.fStakes, .slice x5.A x5.n x5.c, .slice x5.A' x5.n' x5.c', .string x5.fLog], .slice (some ⟨q9, 0, .none⟩) 1 1, .int .i64 0]) (by simp [results, Tryz.results9, go_sem, q0, q1, q2, q3, q4]) rfl ?_
  exact ⟨x5, .slice (some ⟨q9, 0, .none⟩) 1 1, by rw [hM.out], by rw [hM.out]; exact hp5.out, set5_dv k1e.out hD5.out.dv, by rw [hM.out]; exact set5_res k1e.out hL5.out, set5_below hB6.out (by omega)⟩
set_option maxHeartbeats 4000000 in
theorem iDc_num1 (x : DeskV) (s : ByteArray) (w : World) (hG : Gl w) (hx : x.good w w.heap.size) (hs0 : x.fStroke.size ≤ maxLen) (hls : s.size ≤ 1048576) (hok : x.pure.ok = true) (y0 : ByteArray) (T : List ByteArray) (hT : Hid (words 32 s = y0 :: T)) (c : Cmd) (hc : Hid (y0 = c.word)) (hp : c.plain = false) (hf : hasCnt y0 (words 32 s).length = true) (hb0 : numsB c.skip T = true) (hz : (mWork x.pure c (words 32 s) (numsL c.skip T)).2.2 ≠ 0) :
    Calls Tryz.prog 9 #[.agg #[.string x.fStroke, .int .i64 x.fStakes, .slice x.A x.n x.c, .slice x.A' x.n' x.c', .string x.fLog], .string s] w fun e w' => DcPost w (dcRes x.pure s) e w' := by
  obtain ⟨R, hR⟩ : ∃ R, R = mWork x.pure c (words 32 s) (numsL c.skip T) := ⟨_, rfl⟩
  rw [← hR] at hz
  have hRh := hide hR
  have hDo : mDo x.pure c (words 32 s) = (R.1, [R.2.1], R.2.2) := by rw [mDo_nums hT.out hp hb0, hR]
  have hM : Hid (dcRes x.pure s = (x.pure, [errB R.2.2], 0)) := hide (by rw [dc_plain hok hT.out hc.out hf, hDo, if_neg hz])
  have hrg : 0 ≤ R.2.2 ∧ R.2.2 ≤ 10 := by have := mDo_range (c := c) (ws := words 32 s) hok; rw [hDo] at this; exact this
  obtain ⟨R1, R2, R3⟩ := R
  have hz3 : ¬ R3 = 0 := hz
  have hz4 : (R3 == 0) = false := by simpa using hz3
  have hrg0 : 0 ≤ R3 := hrg.1
  have hrg1 : R3 ≤ 10 := hrg.2
  clear hDo hR hz hrg
  have hln := hide (least_nums (by rw [hc.out, hasCnt_word] at hf; exact hf) hp (by rw [hT.out]; rfl) hb0)
  obtain ⟨s1, s2, s3, s4⟩ := notplain hc.out hp
  have hph := hide hp
  have hsk := hide (sk_cl c)
  have hE1 := hide (sk_e1 hc.out)
  have hE2 := hide (sk_e2 hc.out)
  have hNB := hide hb0
  have hokh := hide hok
  clear hp hb0
  have hxh := hide hx
  have hGh := hide hG
  clear hx hG
  go_enter Tryz.func9, Tryz.ntmps9
  go_upto_region 1 with fail
  obtain ⟨W0, hW0⟩ : ∃ W0, W0 = ((w.alloc (Obj.cells #[Value.string x.fStroke, Value.int IntKind.i64 x.fStakes, Value.slice x.A x.n x.c, Value.slice x.A' x.n' x.c', Value.string x.fLog] 29)).alloc (Obj.cells #[Value.string ⟨#[]⟩, Value.int IntKind.i64 0, Value.slice none 0 0, Value.slice none 0 0, Value.string ⟨#[]⟩] 29)) := ⟨_, rfl⟩
  have hB0 := hide (show Below w.heap.size w W0 by rw [hW0]; go_grown)
  have k0 := hide (show W0.heap[w.heap.size]? = some (.cells #[Value.string x.fStroke, Value.int IntKind.i64 x.fStakes, Value.slice x.A x.n x.c, Value.slice x.A' x.n' x.c', Value.string x.fLog] 29 (0, 0)) by rw [hW0]; exact alloc_old (heap_alloc_new w _))
  have k1 := hide (show W0.heap[w.heap.size + 1]? = some (.cells #[Value.string ⟨#[]⟩, Value.int IntKind.i64 0, Value.slice none 0 0, Value.slice none 0 0, Value.string ⟨#[]⟩] 29 (0, 0)) by rw [hW0]; exact alloc_at (by simp))
  rw [← hW0]
  clear hW0
  obtain ⟨c0, c1, c2, c3, c4, cf⟩ := row5 k0.out
  go_wp2_with fail
  refine (iValid_any x _ (hGh.out.below hB0.out) (hxh.out.go hB0.out) hs0).mono ?_
  rw [deskOk_pure, hok]
  rintro e w1 ⟨rfl, hb⟩
  have hB1 := hide (hB0.out.trans (hb.mono hB0.out.size))
  have k0b := hide (keepr k0.out hb)
  have k1b := hide (keepr k1.out hb)
  clear hb c0 c1 c2 c3 c4 cf k0 k1
  obtain ⟨nw, hnw⟩ : ∃ nw, nw = (words 32 s).length := ⟨_, rfl⟩
  have hnwb : nw ≤ 1048577 := by have := words_le 32 s; omega
  have hnwh := hide hnw
  rw [← hnw] at hf
  go_wp2_with fail
  refine (iSplit_any 32 s _ hls (hGh.out.below hB1.out)).mono ?_
  rw [← hnw]
  rintro e w2 ⟨v2, rfl, ho2, hb⟩
  have hB2 := hide (hB1.out.trans (hb.mono hB1.out.size))
  have k0c := hide (keepr k0b.out hb)
  have k1c := hide (keepr k1b.out hb)
  obtain ⟨A2, cw2, hv2, hc2⟩ := ho2.slice
  subst hv2
  have hW2 := hide (ho2.less hB1.out.size)
  have hn0 : 0 < nw := by rw [← ho2.len, hT.out]; simp
  have hn0i : (0 : Int) < (nw : Int) := by omega
  obtain ⟨bw, ow, z0, hAw, hbw, hz0, cw0⟩ := (ho2.arr strc_len).str hn0
  rw [hT.out] at hz0
  have hz00 : z0 = y0 := (Option.some.inj hz0).symm
  subst hz00
  subst hAw
  simp only [Nat.add_zero] at cw0
  clear hb ho2 hz0 hnw hB1 k0b k1b
  go_wp2_with fail
  refine (iCount_any z0 nw _).mono ?_
  rw [hf]
  rintro e w3 ⟨rfl, rfl⟩
  obtain ⟨c0, c1, c2, c3, c4, _⟩ := row5 k0c.out
  go_wp2_with fail
  refine (iCopy_any x _ (hxh.out.go hB2.out)).mono ?_
  rintro e w3 ⟨x1, rfl, hp1, hd1, hb⟩
  have hB3 := hide (hB2.out.trans (hb.mono hB2.out.size))
  have k0d := hide (keepr k0c.out hb)
  have k1d := hide (keepr k1c.out hb)
  have hW3 := hide (hW2.out.below hb)
  have hD3 := hide hd1
  have hP1 := hide hp1
  clear hb hd1 hp1 c0 c1 c2 c3 c4 cw0
  go_upto_region 7 with fail
  obtain ⟨g8, hg8⟩ : ∃ g8, g8 = w3.heap.size + 1 := ⟨_, rfl⟩
  have hge := hB3.out.size
  have n0 := (show Below w.heap.size w ((w3.alloc (Obj.cells #[] 9)).alloc (Obj.cells #[Value.string x1.fStroke, Value.int IntKind.i64 x1.fStakes, Value.slice x1.A x1.n x1.c, Value.slice x1.A' x1.n' x1.c', Value.string x1.fLog] 29)) from (hB3.out.alloc hge _).alloc (by simp; omega) _)
  have n1 := (show ((w3.alloc (Obj.cells #[] 9)).alloc (Obj.cells #[Value.string x1.fStroke, Value.int IntKind.i64 x1.fStakes, Value.slice x1.A x1.n x1.c, Value.slice x1.A' x1.n' x1.c', Value.string x1.fLog] 29)).heap[w.heap.size]? = some (.cells #[Value.string x.fStroke, Value.int IntKind.i64 x.fStakes, Value.slice x.A x.n x.c, Value.slice x.A' x.n' x.c', Value.string x.fLog] 29 (0, 0)) from alloc_old (alloc_old k0d.out))
  have n2 := (show ((w3.alloc (Obj.cells #[] 9)).alloc (Obj.cells #[Value.string x1.fStroke, Value.int IntKind.i64 x1.fStakes, Value.slice x1.A x1.n x1.c, Value.slice x1.A' x1.n' x1.c', Value.string x1.fLog] 29)).heap[w.heap.size + 1]? = some (.cells #[Value.string ⟨#[]⟩, Value.int IntKind.i64 0, Value.slice none 0 0, Value.slice none 0 0, Value.string ⟨#[]⟩] 29 (0, 0)) from alloc_old (alloc_old k1d.out))
  have hup : Below w3.heap.size w3 ((w3.alloc (Obj.cells #[] 9)).alloc (Obj.cells #[Value.string x1.fStroke, Value.int IntKind.i64 x1.fStakes, Value.slice x1.A x1.n x1.c, Value.slice x1.A' x1.n' x1.c', Value.string x1.fLog] 29)) := ((Below.refl _ _).alloc (Nat.le_refl _) _).alloc (by simp) _
  have n3 := (hD3.out.less hB2.out.size).below hup
  have n3 := n3.dg (g := w3.heap.size + 1) (alloc_at (by simp)) (by omega)
  have n4 := hW3.out.res.below hup
  rw [← hg8] at n3 ⊢
  refine nameW' (φ := fun W => Below w.heap.size w W ∧ W.heap[w.heap.size]? = some (.cells #[Value.string x.fStroke, Value.int IntKind.i64 x.fStakes, Value.slice x.A x.n x.c, Value.slice x.A' x.n' x.c', Value.string x.fLog] 29 (0, 0)) ∧ W.heap[w.heap.size + 1]? = some (.cells #[Value.string ⟨#[]⟩, Value.int IntKind.i64 0, Value.slice none 0 0, Value.slice none 0 0, Value.string ⟨#[]⟩] 29 (0, 0)) ∧ DG W w.heap.size g8 x1 ∧ Res strc 9 1 W w.heap.size (.slice (some ⟨bw, ow, .none⟩) nw cw2) nw (words 32 s) ∧ w.heap.size + 1 < g8) ⟨n0, n1, n2, n3, n4, (by have := (Array.getElem?_eq_some_iff.1 k1d.out).1; omega)⟩ ?_
  clear n0 n1 n2 n3 n4 hup hg8 hge hB2 hB3 k0c k1c k0d k1d hW2 hW3 hD3
  obtain ⟨q8, hq8⟩ : ∃ q8, q8 = w3.heap.size := ⟨_, rfl⟩
  rw [← hq8]
  clear hq8 hbw
  rintro W ⟨n0, n1, n2, n3, n4, hg8⟩
  have hB4 := hide n0
  have k0 := hide n1
  have k1 := hide n2
  have hD4 := hide n3
  have hW4 := hide n4
  clear n0 n1 n2 n3 n4
  have hcell := hide (fun W' (h : Res strc 9 1 W' w.heap.size (.slice (some ⟨bw, ow, .none⟩) nw cw2) nw (words 32 s)) => word0 h hn0 hT.out)
  have cw0 := hcell.out _ hW4.out
  have hNu := hide (fun W (h : Arr strc 1 W W.heap.size (some ⟨bw, ow, .none⟩) nw (words 32 s)) (hg : Gl W) => iNums_any z0 (skB1 c) (skB2 c) c.skip hsk.out hE1.out hE2.out (some ⟨bw, ow, .none⟩) nw cw2 T W hnwb hc2 hg (by rw [← hT.out]; exact h))
  have hwsz : Hid (∀ y ∈ words 32 s, y.size ≤ maxLen) := hide (fun y hy => by have := words_size 32 s hy; unfold maxLen; omega)
  have hTl : Hid (T.length + 1 = nw) := hide (by rw [hnwh.out, hT.out]; rfl)
  clear hsk hE1 hE2
  go_wp2_with fail
  refine (hNu.out _ (hW4.out.arr strc_len) (hGh.out.below hB4.out)).mono ?_
  rw [hNB.out]
  rintro e w4 ⟨vn, rfl, hrn, hb⟩
  have hB5 := hide (hB4.out.trans (hb.mono hB4.out.size))
  have k0p := hide (keepr k0.out hb)
  have k1p := hide (keepr k1.out hb)
  have hD5' := hide (hD4.out.below hb)
  have hW5 := hide (hW4.out.below hb)
  have hN5 := hide (hrn.less hB4.out.size)
  obtain ⟨An, cn, hvn, hcn⟩ := hrn.slice
  subst hvn
  clear hb hrn hNu hB4 k0 k1 hD4 hW4 cw0
  have hnl : (numsL c.skip T).length ≤ 1048576 := by have := nums_len c.skip T; have := hTl.out; omega
  have hx := iWork_any (w0 := w) (g := g8) (x := x1) ⟨hGh.out, hB5.out, hD5'.out, by rw [hP1.out]; exact hokh.out, hW5.out, hN5.out, hnwb, hnl, hwsz.out, nums_bound _ _⟩ c (by rw [hT.out, hc.out]; rfl) hph.out (by have := hln.out.2; have := hnwh.out; omega) hln.out.1
  rw [hP1.out, ← hRh.out] at hx
  have hxh2 := hide hx
  clear hx hnl
  go_wp2_with fail
  refine hxh2.out.mono ?_
  rintro e w5 ⟨x5, rfl, hd5, hp5, hg5, hb5⟩
  have hp5 := hide hp5
  have hD6 := hide hd5
  have hG5 := hide hg5
  have hB5b := hide hb5
  have k0q := hide (box_kept k0p.out hg5 (by omega))
  have k1q := hide (box_kept k1p.out hg5 (by omega))
  clear hd5 hg5 hb5 hxh2
  go_upto_region 19 with fail
  obtain ⟨q9, hq9⟩ : ∃ q9, q9 = w5.heap.size := ⟨_, rfl⟩
  have hupq := (Below.refl w5.heap.size w5).alloc (Nat.le_refl _) (.cells #[Value.string R2] 9)
  have hown := str_own (base := w.heap.size) w5 R2 (Nat.le_trans hB5.out.size hG5.out.size)
  rw [← hq9] at hown ⊢
  refine nameW' (φ := fun W => Below w.heap.size w W ∧ W.heap[w.heap.size]? = some (.cells #[Value.string x.fStroke, Value.int IntKind.i64 x.fStakes, Value.slice x.A x.n x.c, Value.slice x.A' x.n' x.c', Value.string x.fLog] 29 (0, 0)) ∧ W.heap[w.heap.size + 1]? = some (.cells #[Value.string ⟨#[]⟩, Value.int IntKind.i64 0, Value.slice none 0 0, Value.slice none 0 0, Value.string ⟨#[]⟩] 29 (0, 0)) ∧ DG W w.heap.size g8 x5 ∧ Res strc 9 1 W w.heap.size (.slice (some ⟨q9, 0, .none⟩) 1 1) 1 [R2]) ⟨hB5b.out.trans (hupq.mono hB5b.out.size), keepr k0q.out hupq, keepr k1q.out hupq, (hD6.out).below hupq, hown.res⟩ ?_
  rintro w6 ⟨n0, n1, n2, n3, n4⟩
  have hB6 := hide n0
  have k0e := hide n1
  have k1e := hide n2
  have hD5 := hide n3
  have hL5 := hide n4
  clear n0 n1 n2 n3 n4 hupq hown hq9
  have hcat := cat_run ⟨#[101, 114, 114, 111, 114, 32]⟩ (codeB R3) (codeB_size R3)
  obtain ⟨c0, c1, c2, c3, c4, _⟩ := row5 k0e.out
  go_wp2_with fail
  refine (iCopy_any x _ (hxh.out.go hB6.out)).mono ?_
  rintro e w7 ⟨x7, rfl, hp7, hd7, hb⟩
  have hB7 := hide (hB6.out.trans (hb.mono hB6.out.size))
  have k1f := hide (keepr k1e.out hb)
  have hD7 := hide (hd7.less hB6.out.size)
  have hP7 := hide hp7
  clear hb hd7 hp7 c0 c1 c2 c3 c4
  go_wp2_with fail
  refine (iCodeN_any R3 _ hrg0 hrg1).mono ?_
  rintro e w8 ⟨rfl, hb⟩
  have hB8 := hide (hB7.out.trans (hb.mono hB7.out.size))
  have k1g := hide (keepr k1f.out hb)
  have hD8 := hide (hD7.out.below hb)
  clear hb
  have a0 := fun O => (row5 (alloc_old (O := O) k1g.out)).1
  have a1 := fun O => (row5 (alloc_old (O := O) k1g.out)).2.1
  have a2 := fun O => (row5 (alloc_old (O := O) k1g.out)).2.2.1
  have a3 := fun O => (row5 (alloc_old (O := O) k1g.out)).2.2.2.1
  have a4 := fun O => (row5 (alloc_old (O := O) k1g.out)).2.2.2.2.1
  have b0 := fun O => (row5 (alloc_old (O := O) k1g.out)).2.2.2.2.2 0
  have b1 := fun O => (row5 (alloc_old (O := O) k1g.out)).2.2.2.2.2 1
  have b2 := fun O => (row5 (alloc_old (O := O) k1g.out)).2.2.2.2.2 2
  have b3 := fun O => (row5 (alloc_old (O := O) k1g.out)).2.2.2.2.2 3
  have b4 := fun O => (row5 (alloc_old (O := O) k1g.out)).2.2.2.2.2 4
  go_wp2_with fail
  have e0 := alloc_old (O := .cells #[Value.string ((⟨#[101, 114, 114, 111, 114, 32]⟩ : ByteArray) ++ codeB R3)] 9) k1g.out
  have hrow := set5_row (a0 := .string x7.fStroke) (a1 := .int .i64 x7.fStakes) (a2 := .slice x7.A x7.n x7.c) (a3 := .slice x7.A' x7.n' x7.c') (a4 := .string x7.fLog) e0
  obtain ⟨q0, q1, q2, q3, q4, _⟩ := row5 hrow
  unfold set5 at q0 q1 q2 q3 q4
  refine bodyPost_ret (v := .tuple #[.agg #[.string x7.fStroke, .int .i64 x7.fStakes, .slice x7.A x7.n x7.c, .slice x7.A' x7.n' x7.c', .string x7.fLog], .slice (some ⟨w8.heap.size, 0, .none⟩) 1 1, .int .i64 0]) (by simp [results, Tryz.results9, go_sem, q0, q1, q2, q3, q4]) rfl ?_
  have hup := (Below.refl w8.heap.size w8).alloc (Nat.le_refl _) (.cells #[Value.string ((⟨#[101, 114, 114, 111, 114, 32]⟩ : ByteArray) ++ codeB R3)] 9)
  exact ⟨x7, .slice (some ⟨w8.heap.size, 0, .none⟩) 1 1, by rw [hM.out], by rw [hM.out]; exact hP7.out, set5_dv e0 (hD8.out.below hup), by rw [hM.out]; exact set5_res e0 (str_own w8 ((⟨#[101, 114, 114, 111, 114, 32]⟩ : ByteArray) ++ codeB R3) hB8.out.size).res, set5_below (hB8.out.trans (hup.mono hB8.out.size)) (by omega)⟩
set_option maxHeartbeats 4000000 in
theorem iDc_numbad (x : DeskV) (s : ByteArray) (w : World) (hG : Gl w) (hx : x.good w w.heap.size) (hs0 : x.fStroke.size ≤ maxLen) (hls : s.size ≤ 1048576) (hok : x.pure.ok = true) (y0 : ByteArray) (T : List ByteArray) (hT : Hid (words 32 s = y0 :: T)) (c : Cmd) (hc : Hid (y0 = c.word)) (hp : c.plain = false) (hf : hasCnt y0 (words 32 s).length = true) (hb0 : numsB c.skip T = false) :
    Calls Tryz.prog 9 #[.agg #[.string x.fStroke, .int .i64 x.fStakes, .slice x.A x.n x.c, .slice x.A' x.n' x.c', .string x.fLog], .string s] w fun e w' => DcPost w (dcRes x.pure s) e w' := by
  obtain ⟨R3, hR3⟩ : ∃ R3 : Int, R3 = 7 := ⟨_, rfl⟩
  have hM : Hid (dcRes x.pure s = (x.pure, [errB R3], 0)) := hide (by rw [dc_plain hok hT.out hc.out hf, mDo_bad hT.out hp hb0, hR3]; rfl)
  subst hR3
  have hrg0 : (0 : Int) ≤ 7 := by omega
  have hrg1 : (7 : Int) ≤ 10 := by omega
  obtain ⟨s1, s2, s3, s4⟩ := notplain hc.out hp
  have hph := hide hp
  have hsk := hide (sk_cl c)
  have hE1 := hide (sk_e1 hc.out)
  have hE2 := hide (sk_e2 hc.out)
  have hNB := hide hb0
  have hokh := hide hok
  clear hp hb0
  have hxh := hide hx
  have hGh := hide hG
  clear hx hG
  go_enter Tryz.func9, Tryz.ntmps9
  go_upto_region 1 with fail
  obtain ⟨W0, hW0⟩ : ∃ W0, W0 = ((w.alloc (Obj.cells #[Value.string x.fStroke, Value.int IntKind.i64 x.fStakes, Value.slice x.A x.n x.c, Value.slice x.A' x.n' x.c', Value.string x.fLog] 29)).alloc (Obj.cells #[Value.string ⟨#[]⟩, Value.int IntKind.i64 0, Value.slice none 0 0, Value.slice none 0 0, Value.string ⟨#[]⟩] 29)) := ⟨_, rfl⟩
  have hB0 := hide (show Below w.heap.size w W0 by rw [hW0]; go_grown)
  have k0 := hide (show W0.heap[w.heap.size]? = some (.cells #[Value.string x.fStroke, Value.int IntKind.i64 x.fStakes, Value.slice x.A x.n x.c, Value.slice x.A' x.n' x.c', Value.string x.fLog] 29 (0, 0)) by rw [hW0]; exact alloc_old (heap_alloc_new w _))
  have k1 := hide (show W0.heap[w.heap.size + 1]? = some (.cells #[Value.string ⟨#[]⟩, Value.int IntKind.i64 0, Value.slice none 0 0, Value.slice none 0 0, Value.string ⟨#[]⟩] 29 (0, 0)) by rw [hW0]; exact alloc_at (by simp))
  rw [← hW0]
  clear hW0
  obtain ⟨c0, c1, c2, c3, c4, cf⟩ := row5 k0.out
  go_wp2_with fail
  refine (iValid_any x _ (hGh.out.below hB0.out) (hxh.out.go hB0.out) hs0).mono ?_
  rw [deskOk_pure, hok]
  rintro e w1 ⟨rfl, hb⟩
  have hB1 := hide (hB0.out.trans (hb.mono hB0.out.size))
  have k0b := hide (keepr k0.out hb)
  have k1b := hide (keepr k1.out hb)
  clear hb c0 c1 c2 c3 c4 cf k0 k1
  obtain ⟨nw, hnw⟩ : ∃ nw, nw = (words 32 s).length := ⟨_, rfl⟩
  have hnwb : nw ≤ 1048577 := by have := words_le 32 s; omega
  have hnwh := hide hnw
  rw [← hnw] at hf
  go_wp2_with fail
  refine (iSplit_any 32 s _ hls (hGh.out.below hB1.out)).mono ?_
  rw [← hnw]
  rintro e w2 ⟨v2, rfl, ho2, hb⟩
  have hB2 := hide (hB1.out.trans (hb.mono hB1.out.size))
  have k0c := hide (keepr k0b.out hb)
  have k1c := hide (keepr k1b.out hb)
  obtain ⟨A2, cw2, hv2, hc2⟩ := ho2.slice
  subst hv2
  have hW2 := hide (ho2.less hB1.out.size)
  have hn0 : 0 < nw := by rw [← ho2.len, hT.out]; simp
  have hn0i : (0 : Int) < (nw : Int) := by omega
  obtain ⟨bw, ow, z0, hAw, hbw, hz0, cw0⟩ := (ho2.arr strc_len).str hn0
  rw [hT.out] at hz0
  have hz00 : z0 = y0 := (Option.some.inj hz0).symm
  subst hz00
  subst hAw
  simp only [Nat.add_zero] at cw0
  clear hb ho2 hz0 hnw hB1 k0b k1b
  go_wp2_with fail
  refine (iCount_any z0 nw _).mono ?_
  rw [hf]
  rintro e w3 ⟨rfl, rfl⟩
  obtain ⟨c0, c1, c2, c3, c4, _⟩ := row5 k0c.out
  go_wp2_with fail
  refine (iCopy_any x _ (hxh.out.go hB2.out)).mono ?_
  rintro e w3 ⟨x1, rfl, hp1, hd1, hb⟩
  have hB3 := hide (hB2.out.trans (hb.mono hB2.out.size))
  have k0d := hide (keepr k0c.out hb)
  have k1d := hide (keepr k1c.out hb)
  have hW3 := hide (hW2.out.below hb)
  have hD3 := hide hd1
  have hP1 := hide hp1
  clear hb hd1 hp1 c0 c1 c2 c3 c4 cw0
  go_upto_region 7 with fail
  obtain ⟨g8, hg8⟩ : ∃ g8, g8 = w3.heap.size + 1 := ⟨_, rfl⟩
  have hge := hB3.out.size
  have n0 := (show Below w.heap.size w ((w3.alloc (Obj.cells #[] 9)).alloc (Obj.cells #[Value.string x1.fStroke, Value.int IntKind.i64 x1.fStakes, Value.slice x1.A x1.n x1.c, Value.slice x1.A' x1.n' x1.c', Value.string x1.fLog] 29)) from (hB3.out.alloc hge _).alloc (by simp; omega) _)
  have n1 := (show ((w3.alloc (Obj.cells #[] 9)).alloc (Obj.cells #[Value.string x1.fStroke, Value.int IntKind.i64 x1.fStakes, Value.slice x1.A x1.n x1.c, Value.slice x1.A' x1.n' x1.c', Value.string x1.fLog] 29)).heap[w.heap.size]? = some (.cells #[Value.string x.fStroke, Value.int IntKind.i64 x.fStakes, Value.slice x.A x.n x.c, Value.slice x.A' x.n' x.c', Value.string x.fLog] 29 (0, 0)) from alloc_old (alloc_old k0d.out))
  have n2 := (show ((w3.alloc (Obj.cells #[] 9)).alloc (Obj.cells #[Value.string x1.fStroke, Value.int IntKind.i64 x1.fStakes, Value.slice x1.A x1.n x1.c, Value.slice x1.A' x1.n' x1.c', Value.string x1.fLog] 29)).heap[w.heap.size + 1]? = some (.cells #[Value.string ⟨#[]⟩, Value.int IntKind.i64 0, Value.slice none 0 0, Value.slice none 0 0, Value.string ⟨#[]⟩] 29 (0, 0)) from alloc_old (alloc_old k1d.out))
  have hup : Below w3.heap.size w3 ((w3.alloc (Obj.cells #[] 9)).alloc (Obj.cells #[Value.string x1.fStroke, Value.int IntKind.i64 x1.fStakes, Value.slice x1.A x1.n x1.c, Value.slice x1.A' x1.n' x1.c', Value.string x1.fLog] 29)) := ((Below.refl _ _).alloc (Nat.le_refl _) _).alloc (by simp) _
  have n3 := (hD3.out.less hB2.out.size).below hup
  have n3 := n3.dg (g := w3.heap.size + 1) (alloc_at (by simp)) (by omega)
  have n4 := hW3.out.res.below hup
  rw [← hg8] at n3 ⊢
  refine nameW' (φ := fun W => Below w.heap.size w W ∧ W.heap[w.heap.size]? = some (.cells #[Value.string x.fStroke, Value.int IntKind.i64 x.fStakes, Value.slice x.A x.n x.c, Value.slice x.A' x.n' x.c', Value.string x.fLog] 29 (0, 0)) ∧ W.heap[w.heap.size + 1]? = some (.cells #[Value.string ⟨#[]⟩, Value.int IntKind.i64 0, Value.slice none 0 0, Value.slice none 0 0, Value.string ⟨#[]⟩] 29 (0, 0)) ∧ DG W w.heap.size g8 x1 ∧ Res strc 9 1 W w.heap.size (.slice (some ⟨bw, ow, .none⟩) nw cw2) nw (words 32 s) ∧ w.heap.size + 1 < g8) ⟨n0, n1, n2, n3, n4, (by have := (Array.getElem?_eq_some_iff.1 k1d.out).1; omega)⟩ ?_
  clear n0 n1 n2 n3 n4 hup hg8 hge hB2 hB3 k0c k1c k0d k1d hW2 hW3 hD3
  obtain ⟨q8, hq8⟩ : ∃ q8, q8 = w3.heap.size := ⟨_, rfl⟩
  rw [← hq8]
  clear hq8 hbw
  rintro W ⟨n0, n1, n2, n3, n4, hg8⟩
  have hB4 := hide n0
  have k0 := hide n1
  have k1 := hide n2
  have hD4 := hide n3
  have hW4 := hide n4
  clear n0 n1 n2 n3 n4
  have hcell := hide (fun W' (h : Res strc 9 1 W' w.heap.size (.slice (some ⟨bw, ow, .none⟩) nw cw2) nw (words 32 s)) => word0 h hn0 hT.out)
  have cw0 := hcell.out _ hW4.out
  have hNu := hide (fun W (h : Arr strc 1 W W.heap.size (some ⟨bw, ow, .none⟩) nw (words 32 s)) (hg : Gl W) => iNums_any z0 (skB1 c) (skB2 c) c.skip hsk.out hE1.out hE2.out (some ⟨bw, ow, .none⟩) nw cw2 T W hnwb hc2 hg (by rw [← hT.out]; exact h))
  have hwsz : Hid (∀ y ∈ words 32 s, y.size ≤ maxLen) := hide (fun y hy => by have := words_size 32 s hy; unfold maxLen; omega)
  have hTl : Hid (T.length + 1 = nw) := hide (by rw [hnwh.out, hT.out]; rfl)
  clear hsk hE1 hE2
  go_wp2_with fail
  refine (hNu.out _ (hW4.out.arr strc_len) (hGh.out.below hB4.out)).mono ?_
  rw [hNB.out]
  rintro e w4 ⟨vn, rfl, hrn, hb⟩
  have hB5 := hide (hB4.out.trans (hb.mono hB4.out.size))
  have k0p := hide (keepr k0.out hb)
  have k1p := hide (keepr k1.out hb)
  have hD5' := hide (hD4.out.below hb)
  have hW5 := hide (hW4.out.below hb)
  have hN5 := hide (hrn.less hB4.out.size)
  obtain ⟨An, cn, hvn, hcn⟩ := hrn.slice
  subst hvn
  clear hb hrn hNu hB4 k0 k1 hD4 hW4 cw0
  go_upto_region 19 with fail
  obtain ⟨q9, hq9⟩ : ∃ q9, q9 = w4.heap.size := ⟨_, rfl⟩
  have hupq := (Below.refl w4.heap.size w4).alloc (Nat.le_refl _) (.cells #[Value.string ⟨#[]⟩] 9)
  have hown := str_own (base := w.heap.size) w4 ⟨#[]⟩ (Nat.le_trans hB5.out.size (Nat.le_refl _))
  rw [← hq9] at hown ⊢
  refine nameW' (φ := fun W => Below w.heap.size w W ∧ W.heap[w.heap.size]? = some (.cells #[Value.string x.fStroke, Value.int IntKind.i64 x.fStakes, Value.slice x.A x.n x.c, Value.slice x.A' x.n' x.c', Value.string x.fLog] 29 (0, 0)) ∧ W.heap[w.heap.size + 1]? = some (.cells #[Value.string ⟨#[]⟩, Value.int IntKind.i64 0, Value.slice none 0 0, Value.slice none 0 0, Value.string ⟨#[]⟩] 29 (0, 0)) ∧ DG W w.heap.size g8 x1 ∧ Res strc 9 1 W w.heap.size (.slice (some ⟨q9, 0, .none⟩) 1 1) 1 [⟨#[]⟩]) ⟨hB5.out.trans (hupq.mono hB5.out.size), keepr k0p.out hupq, keepr k1p.out hupq, (hD5'.out).below hupq, hown.res⟩ ?_
  rintro w6 ⟨n0, n1, n2, n3, n4⟩
  have hB6 := hide n0
  have k0e := hide n1
  have k1e := hide n2
  have hD5 := hide n3
  have hL5 := hide n4
  clear n0 n1 n2 n3 n4 hupq hown hq9
  have hcat := cat_run ⟨#[101, 114, 114, 111, 114, 32]⟩ (codeB 7) (codeB_size 7)
  obtain ⟨c0, c1, c2, c3, c4, _⟩ := row5 k0e.out
  go_wp2_with fail
  refine (iCopy_any x _ (hxh.out.go hB6.out)).mono ?_
  rintro e w7 ⟨x7, rfl, hp7, hd7, hb⟩
  have hB7 := hide (hB6.out.trans (hb.mono hB6.out.size))
  have k1f := hide (keepr k1e.out hb)
  have hD7 := hide (hd7.less hB6.out.size)
  have hP7 := hide hp7
  clear hb hd7 hp7 c0 c1 c2 c3 c4
  go_wp2_with fail
  refine (iCodeN_any 7 _ hrg0 hrg1).mono ?_
  rintro e w8 ⟨rfl, hb⟩
  have hB8 := hide (hB7.out.trans (hb.mono hB7.out.size))
  have k1g := hide (keepr k1f.out hb)
  have hD8 := hide (hD7.out.below hb)
  clear hb
  have a0 := fun O => (row5 (alloc_old (O := O) k1g.out)).1
  have a1 := fun O => (row5 (alloc_old (O := O) k1g.out)).2.1
  have a2 := fun O => (row5 (alloc_old (O := O) k1g.out)).2.2.1
  have a3 := fun O => (row5 (alloc_old (O := O) k1g.out)).2.2.2.1
  have a4 := fun O => (row5 (alloc_old (O := O) k1g.out)).2.2.2.2.1
  have b0 := fun O => (row5 (alloc_old (O := O) k1g.out)).2.2.2.2.2 0
  have b1 := fun O => (row5 (alloc_old (O := O) k1g.out)).2.2.2.2.2 1
  have b2 := fun O => (row5 (alloc_old (O := O) k1g.out)).2.2.2.2.2 2
  have b3 := fun O => (row5 (alloc_old (O := O) k1g.out)).2.2.2.2.2 3
  have b4 := fun O => (row5 (alloc_old (O := O) k1g.out)).2.2.2.2.2 4
  go_wp2_with fail
  have e0 := alloc_old (O := .cells #[Value.string ((⟨#[101, 114, 114, 111, 114, 32]⟩ : ByteArray) ++ codeB 7)] 9) k1g.out
  have hrow := set5_row (a0 := .string x7.fStroke) (a1 := .int .i64 x7.fStakes) (a2 := .slice x7.A x7.n x7.c) (a3 := .slice x7.A' x7.n' x7.c') (a4 := .string x7.fLog) e0
  obtain ⟨q0, q1, q2, q3, q4, _⟩ := row5 hrow
  unfold set5 at q0 q1 q2 q3 q4
  refine bodyPost_ret (v := .tuple #[.agg #[.string x7.fStroke, .int .i64 x7.fStakes, .slice x7.A x7.n x7.c, .slice x7.A' x7.n' x7.c', .string x7.fLog], .slice (some ⟨w8.heap.size, 0, .none⟩) 1 1, .int .i64 0]) (by simp [results, Tryz.results9, go_sem, q0, q1, q2, q3, q4]) rfl ?_
  have hup := (Below.refl w8.heap.size w8).alloc (Nat.le_refl _) (.cells #[Value.string ((⟨#[101, 114, 114, 111, 114, 32]⟩ : ByteArray) ++ codeB 7)] 9)
  exact ⟨x7, .slice (some ⟨w8.heap.size, 0, .none⟩) 1 1, by rw [hM.out], by rw [hM.out]; exact hP7.out, set5_dv e0 (hD8.out.below hup), by rw [hM.out]; exact set5_res e0 (str_own w8 ((⟨#[101, 114, 114, 111, 114, 32]⟩ : ByteArray) ++ codeB 7) hB8.out.size).res, set5_below (hB8.out.trans (hup.mono hB8.out.size)) (by omega)⟩
theorem iDc_any (x : DeskV) (s : ByteArray) (w : World) (hG : Gl w) (hx : x.good w w.heap.size) (hs0 : x.fStroke.size ≤ maxLen) (hls : s.size ≤ 1048576) :
    Calls Tryz.prog 9 #[.agg #[.string x.fStroke, .int .i64 x.fStakes, .slice x.A x.n x.c, .slice x.A' x.n' x.c', .string x.fLog], .string s] w fun e w' => DcPost w (dcRes x.pure s) e w' := by
  cases hok : x.pure.ok
  · exact iDc_bad x s w hG hx hs0 hls hok
  obtain ⟨y0, T, hT⟩ : ∃ y0 T, words 32 s = y0 :: T := by
    obtain ⟨y, t, h⟩ := List.exists_cons_of_ne_nil (spl_ne 32 [] s.data.toList)
    exact ⟨_, _, by unfold words; rw [h]; rfl⟩
  have hT := hide hT
  cases hf : hasCnt y0 (words 32 s).length
  · exact iDc_nofit x s w hG hx hs0 hls hok y0 T hT hf
  obtain ⟨c, hc, hfit⟩ := hasCnt_some hf
  cases hp : c.plain
  · cases hb : numsB c.skip T
    · exact iDc_numbad x s w hG hx hs0 hls hok y0 T hT c (hide hc) hp hf hb
    · by_cases hz : (mWork x.pure c (words 32 s) (numsL c.skip T)).2.2 = 0
      · exact iDc_num0 x s w hG hx hs0 hls hok y0 T hT c (hide hc) hp hf hb hz
      · exact iDc_num1 x s w hG hx hs0 hls hok y0 T hT c (hide hc) hp hf hb hz
  · cases c
    case cStroke =>
      obtain rfl : y0 = (⟨#[115, 116, 114, 111, 107, 101]⟩ : ByteArray) := hc
      by_cases hz : (mText x.pure .cStroke (joinSp T)).2.2 = 0
      · exact iDc_stroke0 x s w hG hx hs0 hls hok T hT hf hz
      · exact iDc_stroke1 x s w hG hx hs0 hls hok T hT hf hz
    case cHeap =>
      obtain rfl : y0 = (⟨#[104, 101, 97, 112]⟩ : ByteArray) := hc
      by_cases hz : (mText x.pure .cHeap (joinSp T)).2.2 = 0
      · exact iDc_heap0 x s w hG hx hs0 hls hok T hT hf hz
      · exact iDc_heap1 x s w hG hx hs0 hls hok T hT hf hz
    case cHeaps =>
      obtain rfl : y0 = (⟨#[104, 101, 97, 112, 115]⟩ : ByteArray) := hc
      exact iDc_heaps0 x s w hG hx hs0 hls hok T hT hf rfl
    case cLog =>
      obtain rfl : y0 = (⟨#[108, 111, 103]⟩ : ByteArray) := hc
      exact iDc_log0 x s w hG hx hs0 hls hok T hT hf rfl
    all_goals cases hp
end Go.Proofs.YtfpaejlipaainaaGreatDoor
namespace Go.Proofs.YtfpaejlipaainaaGreatDoor
open Go.ChangeShapes Go.WideShapes Go.ChangeAt Go.RowKit Go.Deep
set_option maxRecDepth 100000
def Few (L : List ByteArray) : Prop := L.length ≤ 5000 ∧ ∀ l ∈ L, l.size ≤ 33554432
theorem few_one {s : ByteArray} (h : s.size ≤ 33554432) : Few [s] := ⟨by simp, fun l hl => by rw [List.mem_singleton.1 hl]; exact h⟩
theorem ba_add (a b : ByteArray) : (a ++ b).size = a.size + b.size := by simp
theorem numLine_size {l : List Int} (h : I64 l) (hn : l.length ≤ 1048576) : (numLine l).size ≤ 33554432 := by
  unfold numLine
  split
  · decide
  · show (Lib.join (l.map fun n => (decB n).data.toList) [32]).toArray.size ≤ _
    rw [List.size_toArray]
    have h1 := join_len (M := 21) 32 (l.map fun n => (decB n).data.toList) (fun x hx => by
      obtain ⟨n, hn, rfl⟩ := List.mem_map.1 hx
      have := decB_size n (h n hn).1 (h n hn).2
      rw [Lib.size_eq] at this
      exact this)
    rw [List.length_map] at h1
    omega
theorem text_size (d : DeskM) (hk : d.ks.length ≤ 1048576) (hh : d.hs.length ≤ 1048576) : d.text.size ≤ 33554432 := by
  unfold DeskM.text
  split
  · rename_i h
    obtain ⟨h1, h2, h3, h4, h5⟩ := DeskM.ok_parts.1 h
    have hst : d.st.size ≤ 12 := by
      unfold strokeOk at h1
      simp only [Bool.and_eq_true, decide_eq_true_eq] at h1
      exact h1.1.2
    have hsk := inB_true.1 h2
    have e1 := decB_size d.sk (by omega) (by omega)
    have e2 := decB_size (d.ks.length : Int) (by omega) (by omega)
    have e3 := decB_size (d.hs.length : Int) (by omega) (by omega)
    unfold DeskM.txt
    simp only [ba_add]
    have q1 : (⟨#[115, 116, 114, 111, 107, 101, 32]⟩ : ByteArray).size = 7 := rfl
    have q2 : (⟨#[44, 32]⟩ : ByteArray).size = 2 := rfl
    have q3 : (⟨#[32, 115, 116, 97, 107, 101, 115, 44, 32]⟩ : ByteArray).size = 9 := rfl
    have q4 : (⟨#[32, 107, 105, 110, 100, 115, 44, 32]⟩ : ByteArray).size = 8 := rfl
    have q5 : (⟨#[32, 104, 101, 97, 112, 115]⟩ : ByteArray).size = 6 := rfl
    omega
  · decide
theorem heapT_size (x : Heap) : (mHeapT x).size ≤ 33554432 := by
  unfold mHeapT
  split
  · rename_i h
    have hn := heap_ok_name h
    have hs : x.fSort.size ≤ 12 := by
      unfold isName at hn
      simp only [Bool.and_eq_true, decide_eq_true_eq] at hn
      omega
    unfold Heap.ok at h
    simp only [Bool.and_eq_true, inB_true] at h
    have e1 := decB_size x.fYear (by omega) (by omega)
    have e2 := decB_size x.fBundles (by omega) (by omega)
    unfold heapB
    simp only [ba_add]
    have q1 : (⟨#[32]⟩ : ByteArray).size = 1 := rfl
    omega
  · decide
theorem okB_size (n : Nat) (h : n ≤ 1048576) : (okB n).size ≤ 33554432 := by
  have := ok_size (n := n) (by omega)
  have e := decB_size (n : Int) (by omega) (by omega)
  unfold okB
  rw [ba_add]
  have h2 : (⟨#[111, 107, 32]⟩ : ByteArray).size = 3 := rfl
  omega
theorem mAsk_few (d : DeskM) (c : Cmd) (ws : List ByteArray) (n : List Int) (h : d.ok = true) : (mAsk d c ws n).1.size ≤ 33554432 := by
  obtain ⟨h1, h2, h3, h4, h5⟩ := DeskM.ok_parts.1 h
  have hsk := inB_true.1 h2
  cases c <;> simp only [mAsk]
  case cRound =>
    unfold mRoundT
    split
    · rw [alongB_size]; omega
    · decide
  case cWord =>
    unfold mRowT
    split
    · split
      · rw [alongB_size]; omega
      · decide
    · decide
  case cSound => split <;> decide
  case cAdd => exact numLine_size (stk_I64 _ _ _) (by simp)
  case cJoins => exact numLine_size (ord_I64 _ _ _) (ord_len _ _ _)
  case cBroken => exact numLine_size (new_I64 _ hsk) (new_len _ hsk)
  case cFew => exact numLine_size (few_I64 _ h3) (few_len _ h3)
  all_goals decide
theorem kinds_len {l : List Kind} (h : kindsOk l = true) : l.length ≤ 4 := (kinds_KB h).2
theorem mDo_few {d : DeskM} {c : Cmd} {ws : List ByteArray} (h : d.ok = true) (hw : ws.length ≤ 1048577) : Few (mDo d c ws).2.1 := by
  obtain ⟨h1, h2, h3, h4, h5⟩ := DeskM.ok_parts.1 h
  have hks := kinds_len h3
  have hhs := heapsOk_len h4
  unfold mDo
  split
  · unfold mText
    cases c <;> simp only
    case cStroke =>
      split
      · exact few_one (text_size _ (by show d.ks.length ≤ _; omega) (by show d.hs.length ≤ _; omega))
      · exact ⟨Nat.zero_le _, fun l hl => by cases hl⟩
    case cHeap =>
      split
      · exact few_one (text_size _ (by show d.ks.length ≤ _; omega) put_len)
      · exact ⟨Nat.zero_le _, fun l hl => by cases hl⟩
    case cHeaps =>
      refine ⟨by simp; omega, fun l hl => ?_⟩
      rcases List.mem_append.1 hl with hl | hl
      · obtain ⟨x, _, rfl⟩ := List.mem_map.1 hl
        exact heapT_size x
      · rw [List.mem_singleton.1 hl]
        exact okB_size _ (by omega)
    case cLog =>
      have hle : (mEnts d.lg).length ≤ 4000 := by unfold mEnts; rw [if_pos h5]; exact ents_len h5
      refine ⟨by simp; omega, fun l hl => ?_⟩
      rcases List.mem_append.1 hl with hl | hl
      · obtain ⟨x, hx, rfl⟩ := List.mem_map.1 hl
        have := entB_size (mEnts_ok d.lg x hx)
        omega
      · rw [List.mem_singleton.1 hl]
        exact okB_size _ (by omega)
    all_goals exact ⟨Nat.zero_le _, fun l hl => by cases hl⟩
  · split
    · refine few_one ?_
      have hnl : ((c.nums ws).map rdI).length ≤ 1048576 := by
        rw [List.length_map]
        have := restTo_len c.skip ws.tail ws.tail.length
        unfold Cmd.nums
        rw [List.length_tail] at this ⊢
        omega
      generalize (c.nums ws).map rdI = N at hnl
      unfold mWork
      cases c <;> simp only
      case cStakes =>
        split
        · exact text_size _ (by show d.ks.length ≤ _; omega) (by show d.hs.length ≤ _; omega)
        · show (⟨#[]⟩ : ByteArray).size ≤ _; decide
      case cKinds =>
        refine text_size _ ?_ (by show d.hs.length ≤ _; omega)
        show (kindsL N).length ≤ _
        unfold kindsL
        split
        · unfold kindsN pairsTo
          rw [List.length_map, List.length_range]
          omega
        · exact Nat.zero_le _
      case cEnter => exact numLine_size (vals_I64 _ _) (by simp)
      all_goals exact mAsk_few _ _ _ _ h
    · exact few_one (by decide)
theorem errB_size (n : Int) : (errB n).size ≤ 33554432 := by
  unfold errB
  rw [ba_add]
  have h2 : (⟨#[101, 114, 114, 111, 114, 32]⟩ : ByteArray).size = 6 := rfl
  have h3 : (codeB n).size ≤ 9 := by
    unfold codeB
    repeat' split
    all_goals decide
  omega
theorem mLine_few {d d' : DeskM} {s : ByteArray} {out : List ByteArray} (h : d.ok = true) (hs : s.size ≤ 1048576) (hl : mLine d s = some (d', out)) : Few out := by
  have hw : (words 32 s).length ≤ 1048577 := by have := words_le 32 s; omega
  unfold mLine at hl
  split at hl
  · cases hl
  · split at hl
    · split at hl
      · have e2 := congrArg Prod.snd (Option.some.inj hl)
        simp only at e2
        rw [← e2]
        exact mDo_few h hw
      · have e2 := congrArg Prod.snd (Option.some.inj hl)
        simp only at e2
        rw [← e2]
        exact few_one (errB_size _)
    · cases hl
theorem linesB_size {L : List ByteArray} : ∀ {M : Nat}, (∀ l ∈ L, l.size ≤ M) → (linesB L).size ≤ (M + 1) * L.length := by
  induction L with
  | nil => intro M _; exact Nat.zero_le _
  | cons x L ih =>
    intro M h
    have h1 := h x List.mem_cons_self
    have h2 := ih (M := M) (fun l hl => h l (List.mem_cons_of_mem _ hl))
    have h3 : (⟨#[10]⟩ : ByteArray).size = 1 := rfl
    rw [linesB, ba_add, ba_add, List.length_cons, Nat.mul_add]
    omega
theorem mFold_size (L : List ByteArray) (hs : ∀ s ∈ L, s.size ≤ 1048576) : (linesB (mFold L).2).size ≤ 167772170000 * L.length := by
  unfold mFold
  have key : ∀ (L : List ByteArray) (p : DeskM × List ByteArray), (∀ s ∈ L, s.size ≤ 1048576) → p.1.ok = true → (linesB (L.foldl mStep p).2).size ≤ (linesB p.2).size + 167772170000 * L.length := by
    intro L
    induction L with
    | nil => intro p _ _; simp
    | cons x L ih =>
      intro p hL hp
      rw [List.foldl_cons]
      have hx := hL x List.mem_cons_self
      have hL' := fun s hs => hL s (List.mem_cons_of_mem _ hs)
      have hst : (mStep p x).1.ok = true ∧ (linesB (mStep p x).2).size ≤ (linesB p.2).size + 167772170000 := by
        unfold mStep
        cases hm : mLine p.1 x with
        | none =>
          refine ⟨hp, ?_⟩
          show (linesB (p.2 ++ [⟨#[63]⟩])).size ≤ _
          have h3 : (linesB [(⟨#[63]⟩ : ByteArray)]).size = 2 := rfl
          rw [linesB_app, ba_add, h3]; omega
        | some q =>
          obtain ⟨d', out⟩ := q
          refine ⟨(mLine_ok hp hm).1, ?_⟩
          have hf := mLine_few hp hx hm
          have h3 := linesB_size hf.2
          have h4 := hf.1
          show (linesB (p.2 ++ out)).size ≤ _
          rw [linesB_app, ba_add]
          omega
      have := ih _ hL' hst.1
      rw [List.length_cons, Nat.mul_add]
      omega
  have := key L (newM, []) hs newM_ok
  have h0 : (linesB (newM, ([] : List ByteArray)).2).size = 0 := rfl
  rw [h0] at this
  omega
end Go.Proofs.YtfpaejlipaainaaGreatDoor
