/- Texts that belong together, joined: contracts and plain laws. No statement is proved here. -/
import Derived.Test.YtfpaejlipaainaaGreatDoorM05
import Derived.Test.YtfpaejlipaainaaGreatDoorM22
import Derived.Test.YtfpaejlipaainaaGreatDoorCards
import Derived.Test.YtfpaejlipaainaaGreatDoorTie
import Derived.Deep.DeepHandedRow
import Derived.Lay
namespace Go.Proofs.YtfpaejlipaainaaGreatDoor
open Go.ChangeShapes Go.WideShapes Go.ChangeAt Go.RowKit Go.Deep
set_option maxRecDepth 100000
theorem longC_any (A : Option Addr) (n c : Nat) (w : World) :
    Calls Tryz.prog 6 #[.slice A n c, .slice none 0 0] w fun e w' => e = .returned (.bool (decide (3000 < (n : Int)))) ∧ w = w' := by
  by_cases h : 3000 < (n : Int)
  · have h1 : decide (3000 < (n : Int)) = true := decide_eq_true h
    rw [h1]
    go_enter Tryz.func6, Tryz.ntmps6
    go_wp2
    go_ret
    exact ⟨rfl, rfl⟩
  · have h1 : decide (3000 < (n : Int)) = false := decide_eq_false h
    rw [h1]
    go_enter Tryz.func6, Tryz.ntmps6
    go_wp2
    go_ret
    exact ⟨rfl, rfl⟩
theorem bytesC_ok {l : List Int} (h : ∀ x ∈ l, (Lit.int .u8 x).wf = true) : byteL l := fun x hx => by
  have h1 := h x hx
  unfold Lit.wf at h1
  rw [Bool.and_eq_true, decide_eq_true_eq, decide_eq_true_eq] at h1
  have e1 : IntKind.u8.min = 0 := by decide
  have e2 : IntKind.u8.max = 255 := by decide
  rw [e1, e2] at h1
  exact h1
structure QS (w wr : World) (g : Nat) (A1 : Option Addr) (N : Nat) (L : List ByteArray) (x : DeskV) (M : DeskM) : Prop where
  box : wr.heap[g]? = some (.cells #[.string x.fStroke, .int .i64 x.fStakes, .slice x.A x.n x.c, .slice x.A' x.n' x.c', .string x.fLog] 29 (0, 0))
  dv : DV wr w.heap.size x
  p : x.pure = M
  arr : Arr strc 1 wr g A1 N L
  low : Below w.heap.size w wr
  hg : w.heap.size ≤ g
section
variable {w wr w' : World} {g N : Nat} {A1 : Option Addr} {L : List ByteArray} {x : DeskV} {M : DeskM}
theorem QS.lt (h : QS w wr g A1 N L x M) : g < wr.heap.size := (Array.getElem?_eq_some_iff.1 h.box).1
theorem QS.below (h : QS w wr g A1 N L x M) (hb : Below wr.heap.size wr w') : QS w w' g A1 N L x M :=
  ⟨keepr h.box hb, h.dv.below hb, h.p, h.arr.below (hb.mono (Nat.le_of_lt h.lt)), h.low.trans (hb.mono h.low.size), h.hg⟩
theorem QS.alloc (h : QS w wr g A1 N L x M) (o : Obj) : QS w (wr.alloc o) g A1 N L x M := h.below ((Below.refl _ _).alloc (Nat.le_refl _) o)
theorem QS.next (h : QS w wr g A1 N L x M) {x' : DeskV} (hd : DV wr w.heap.size x') : QS w (set5 wr g (.string x'.fStroke) (.int .i64 x'.fStakes) (.slice x'.A x'.n x'.c) (.slice x'.A' x'.n' x'.c') (.string x'.fLog)) g A1 N L x' x'.pure :=
  ⟨set5_row h.box, set5_dv h.box hd, rfl, h.arr.below (set5_below (Below.refl g wr) (Nat.le_refl g)), set5_below h.low h.hg, h.hg⟩
theorem QS.str (h : QS w wr g A1 N L x M) {k : Nat} (hk : k < N) : ∃ b o y, A1 = some ⟨b, o, none⟩ ∧ b < g ∧ L[k]? = some y ∧ wr.cell? ⟨b, o + k, none⟩ = some (.string y) := h.arr.str hk
end
structure NX (w wx : World) (h g : Nat) (A1 : Option Addr) (N : Nat) (L : List ByteArray) (x : DeskV) (M : DeskM) (x4 : DeskV) (v4 : Value) (r : DeskM × List ByteArray × Int) : Prop where
  q : QS w wx g A1 N L x M
  box : wx.heap[h]? = some (.cells #[.string x4.fStroke, .int .i64 x4.fStakes, .slice x4.A x4.n x4.c, .slice x4.A' x4.n' x4.c', .string x4.fLog] 29 (0, 0))
  p : x4.pure = r.1
  dv : DV wx w.heap.size x4
  out : Res strc 9 1 wx w.heap.size v4 r.2.1.length r.2.1
  ne : g ≠ h
def zeroD : Obj := .cells #[.string ⟨#[]⟩, .int .i64 0, .slice none 0 0, .slice none 0 0, .string ⟨#[]⟩] 29 (0, 0)
section
variable {w wx w' : World} {h g N : Nat} {A1 : Option Addr} {L : List ByteArray} {x x4 : DeskV} {M : DeskM} {v4 : Value} {r : DeskM × List ByteArray × Int}
theorem NX.below (hn : NX w wx h g A1 N L x M x4 v4 r) (hb : Below wx.heap.size wx w') : NX w w' h g A1 N L x M x4 v4 r :=
  ⟨hn.q.below hb, keepr hn.box hb, hn.p, hn.dv.below hb, hn.out.below hb, hn.ne⟩
end
theorem zeroD_below (wr : World) : Below wr.heap.size wr (wr.alloc zeroD).drew := by
  have h1 := (Below.refl wr.heap.size wr).alloc (Nat.le_refl _) zeroD
  have h2 : Below (wr.alloc zeroD).heap.size (wr.alloc zeroD) (wr.alloc zeroD).drew := below_drewN (Below.refl _ _) 1
  exact h1.trans (h2.mono (by rw [World.size_alloc]; omega))
section
variable {w wr w4 : World} {h g N : Nat} {A1 : Option Addr} {L : List ByteArray} {x x4 : DeskV} {M : DeskM} {v4 : Value} {r : DeskM × List ByteArray × Int}
theorem nxA (hq : QS w wr g A1 N L x M) (hp : x4.pure = r.1) (hd : DV w4 wr.heap.size x4) (hl : Res strc 9 1 w4 wr.heap.size v4 r.2.1.length r.2.1) (hb : Below wr.heap.size wr w4) :
    NX w (w4.alloc (.cells #[.string x4.fStroke, .int .i64 x4.fStakes, .slice x4.A x4.n x4.c, .slice x4.A' x4.n' x4.c', .string x4.fLog] 29 (0, 0))) w4.heap.size g A1 N L x M x4 v4 r := by
  have hq4 := hq.below hb
  have hbw := hq.low.size
  have ha : Below w4.heap.size w4 (w4.alloc (.cells #[.string x4.fStroke, .int .i64 x4.fStakes, .slice x4.A x4.n x4.c, .slice x4.A' x4.n' x4.c', .string x4.fLog] 29 (0, 0))) := (Below.refl _ _).alloc (Nat.le_refl _) _
  exact ⟨hq4.below ha, heap_alloc_new w4 _, hp, (hd.less hbw).below ha, (hl.less hbw).below ha, by have := hq4.lt; omega⟩
theorem nxB (hq : QS w wr g A1 N L x M) (hp : x4.pure = r.1) (hd : DV w4 (wr.alloc zeroD).drew.heap.size x4) (hl : Res strc 9 1 w4 (wr.alloc zeroD).drew.heap.size v4 r.2.1.length r.2.1) (hb : Below (wr.alloc zeroD).drew.heap.size (wr.alloc zeroD).drew w4) :
    NX w (set5 w4 wr.heap.size (.string x4.fStroke) (.int .i64 x4.fStakes) (.slice x4.A x4.n x4.c) (.slice x4.A' x4.n' x4.c') (.string x4.fLog)) wr.heap.size g A1 N L x M x4 v4 r := by
  have hsz : (wr.alloc zeroD).drew.heap.size = wr.heap.size + 1 := World.size_alloc wr zeroD
  have hda : Below (wr.alloc zeroD).heap.size (wr.alloc zeroD) (wr.alloc zeroD).drew := below_drewN (Below.refl _ _) 1
  have hz : w4.heap[wr.heap.size]? = some zeroD := keepr (keepr (heap_alloc_new wr _) hda) hb
  have h0 : Below wr.heap.size wr w4 := ((Below.refl _ _).alloc (Nat.le_refl _) _).trans ((hda.mono (by simp)).trans (hb.mono (by omega)))
  have hq4 := hq.below h0
  have hbw := hq.low.size
  have hne : g ≠ wr.heap.size := by have := hq.lt; omega
  refine ⟨⟨?_, set5_dv hz hq4.dv, hq4.p, hq4.arr.below (set5_below (Below.refl g w4) (by have := hq.lt; omega)), set5_below hq4.low hbw, hq4.hg⟩, set5_row hz, hp, set5_dv hz (hd.less (by omega)), set5_res hz (hl.less (by omega)), hne⟩
  exact box_kept (box_kept (box_kept (box_kept (box_kept hq4.box (grown_set _ _ _ _) hne) (grown_set _ _ _ _) hne) (grown_set _ _ _ _) hne) (grown_set _ _ _ _) hne) (grown_set _ _ _ _) hne
end
theorem text_ne {d : DeskM} (h : d.ok = true) : d.text.toList ≠ [] := by
  unfold DeskM.text
  rw [if_pos h]
  unfold DeskM.txt
  intro e
  have e2 : ∀ a b : ByteArray, (a ++ b).toList = a.toList ++ b.toList := fun a b => by
    rw [ByteArray.toList_eq, ByteArray.toList_eq, ByteArray.toList_eq]; simp
  simp only [e2, List.append_eq_nil_iff] at e
  have := e.1.1.1.1.1.1.1
  rw [ByteArray.toList_eq] at this
  simp at this
set_option maxHeartbeats 8000000 in
theorem walkConsole (w : World) (hG : Gl w) (A : Option Addr) (n c : Nat) (l : List Int) (hc : n ≤ c) (hm : c ≤ maxLen) (hq : ∀ x ∈ l, (Lit.int .u8 x).wf = true) (hr : Arr u8c 1 w w.heap.size A n l) :
    Calls Tryz.prog 3 #[.slice A n c] w fun e w' => e = .returned (.bool true) ∧ Below w.heap.size w w' := by
  have hl := bytesC_ok hq
  have hGh := hide hG
  clear hq hG
  have hB := hide (Below.refl w.heap.size w)
  go_enter Tryz.func3, Tryz.ntmps3
  go_wp2_with fail
  refine (longC_any A n c _).mono ?_
  rintro e w1 ⟨rfl, rfl⟩
  cases hbig : decide (3000 < (n : Int))
  case true =>
    go_wp2
    go_ret
    exact ⟨rfl, hB.out⟩
  clear hbig
  go_wp2_with fail
  refine (a2Lines_any _ A n c l (hr.go hB.out) hl hm hc).mono ?_
  rintro e w1 ⟨A1, N, d1, L, rfl, hp, hI, hn8, hnc, hb⟩
  have hQ := hide hp
  have hLk := hide hI
  replace hB := hide (Below.up hB.out hb)
  have hlen := hide hp.len
  clear hb hp hr hl hc hm hI
  go_wp2_with fail
  refine (iNewM_any _).mono ?_
  rintro e w2 ⟨rfl, hb⟩
  have hQ2 := hide ((hQ.out.below hb).more hb.size)
  have hB2 := hide (Below.up hB.out hb)
  clear hb hQ hB
  go_upto_region 5 with fail
  obtain ⟨g, hg⟩ : ∃ g, g = w2.heap.size := ⟨_, rfl⟩
  rw [← hg] at hQ2 ⊢
  refine nameW' (φ := fun W => QS w W g A1 N L ⟨⟨#[70, 66]⟩, 5, none, 0, 0, [], none, 0, 0, [], ⟨#[]⟩⟩ newM) ⟨by rw [hg]; exact heap_alloc_new w2 _, ⟨Res.empty (Nat.zero_le _), Res.empty (Nat.zero_le _), Nat.zero_le _, Nat.zero_le _, fun h hh => (by cases hh)⟩, rfl, hQ2.out.below ((Below.refl _ _).alloc (by rw [hg]; exact Nat.le_refl _) _), hB2.out.alloc hB2.out.size _, by rw [hg]; exact hB2.out.size⟩ ?_
  rintro W1 hq1
  have hR1 := hide hq1
  clear hq1 hQ2 hB2 hg
  go_wp2
  go_loopw [5, 6, 7] (fun t s i wr => ∃ (k : Nat) (x : DeskV), k ≤ N ∧ t = .string (linesB (L.take k)) ∧ s = .string (linesB (mFold (L.take k)).2) ∧ i = .int .i64 (k : Int) ∧ QS w wr g A1 N L x (mFold (L.take k)).1) (fun _ _ i _ => N - (intOf i).toNat)
  case atStart => exact ⟨0, _, Nat.zero_le _, rfl, rfl, rfl, hR1.out⟩
  case round =>
    clear hR1
    obtain ⟨k, x, hk, rfl, rfl, rfl, hq⟩ := hrel
    have hR := hide hq
    obtain ⟨T, hT⟩ : ∃ T, T = linesB (L.take k) := ⟨_, rfl⟩
    obtain ⟨S, hS⟩ : ∃ S, S = linesB (mFold (L.take k)).2 := ⟨_, rfl⟩
    have hTh := hide hT
    have hSh := hide hS
    have hTs : T.size ≤ 101 * 8 := by
      have h1 := linesB_size (L := L.take k) (M := 100) (fun y hy => lineC_size (hLk.out y (List.mem_of_mem_take hy)))
      have h2 : (L.take k).length ≤ 8 := by rw [List.length_take]; omega
      rw [hT]
      have h3 : (100 + 1) * (L.take k).length ≤ 101 * 8 := Nat.mul_le_mul_left _ h2
      omega
    have hSs : S.size ≤ 1342177360000 := by
      have h1 := mFold_size (L.take k) (fun y hy => by have := lineC_size (hLk.out y (List.mem_of_mem_take hy)); omega)
      have h2 : (L.take k).length ≤ 8 := by rw [List.length_take]; omega
      rw [hS]; omega
    rw [← hT, ← hS]
    clear hT hS
    by_cases hlt : k < N
    · have hlti : (k : Int) < (N : Int) := by omega
      obtain ⟨b3, o3, y, hA3, hb3, hy, cy⟩ := hq.str hlt
      subst hA3
      have hyl := hLk.out y (List.mem_of_getElem? hy)
      have hys := lineC_size hyl
      have hyh := hide hy
      have hcat1 := cat_run y ⟨#[10]⟩ (by show y.size + 1 ≤ _; omega)
      have hcat2 := cat_run T (y ++ ⟨#[10]⟩) (by rw [ByteArray.size_append]; show T.size + (y.size + 1) ≤ _; omega)
      have hTn : Hid (linesB (L.take (k + 1)) = T ++ (y ++ ⟨#[10]⟩)) := hide (by rw [take_snoc hyh.out, linesB_snoc, ← hTh.out])
      have hok : x.pure.ok = true := by rw [hq.p]; exact mFold_ok _
      have hfold := hide (mFold_take hyh.out)
      have hpx := hide hq.p
      have hcy := hide (fun W (hb : Below wr.heap.size wr W) => (hb.cell (p := ⟨b3, o3 + k, none⟩) (Nat.lt_trans hb3 hq.lt)).trans cy)
      have hDc := hide (fun W (hb : Below wr.heap.size wr W) => iDc_any x y W (hGh.out.below (hq.below hb).low) (hq.below hb).dv.good (stroke_le hok) (by omega))
      have hdr : Below wr.heap.size wr wr.drew := below_drewN (Below.refl _ _) 1
      have hDR := hide hdr
      have hcel : Hid (∀ W, Below wr.heap.size wr W → W.cell? ⟨g, 0, none⟩ = some (.string x.fStroke) ∧ W.cell? ⟨g, 1, none⟩ = some (.int .i64 x.fStakes) ∧ W.cell? ⟨g, 2, none⟩ = some (.slice x.A x.n x.c) ∧ W.cell? ⟨g, 3, none⟩ = some (.slice x.A' x.n' x.c') ∧ W.cell? ⟨g, 4, none⟩ = some (.string x.fLog) ∧ W.cell? ⟨b3, o3 + k, none⟩ = some (.string y)) := hide (fun W hb => by
        obtain ⟨q0, q1, q2, q3, q4, _⟩ := row5 (hq.below hb).box
        exact ⟨q0, q1, q2, q3, q4, hcy.out W hb⟩)
      obtain ⟨c0, c1, c2, c3, c4, c5⟩ := hcel.out _ hdr
      clear hq hdr hb3 hy
      go_upto_region 11 with fail
      obtain ⟨r, hrr⟩ : ∃ r, r = dcRes x.pure y := ⟨_, rfl⟩
      have hrh := hide hrr
      rw [← hrr] at hDc
      have hDA : Hid (Below wr.heap.size wr (wr.alloc zeroD).drew) := hide (zeroD_below wr)
      have hZ : Hid (Below (wr.alloc zeroD).drew.heap.size (wr.alloc zeroD) (wr.alloc zeroD).drew) := hide (below_drewN (Below.refl _ _) 1)
      clear hrr
      go_cut [8, 9, 10] (fun a8 a9 a10 wx => ∃ (h : Nat) (x4 : DeskV), a8 = .pointer (some ⟨h, 0, none⟩) ∧ a10 = .int .i64 r.2.2 ∧ NX w wx h g (some ⟨b3, o3, none⟩) N L x (mFold (L.take k)).1 x4 a9 r)
      case first =>
        go_region_held3 (fun w' => w'.cell? ⟨g, 0, none⟩ = some (.string x.fStroke) ∧ w'.cell? ⟨g, 1, none⟩ = some (.int .i64 x.fStakes) ∧ w'.cell? ⟨g, 2, none⟩ = some (.slice x.A x.n x.c) ∧ w'.cell? ⟨g, 3, none⟩ = some (.slice x.A' x.n' x.c') ∧ w'.cell? ⟨g, 4, none⟩ = some (.string x.fLog) ∧ w'.cell? ⟨b3, o3 + k, none⟩ = some (.string y)) (first | exact hcel.out _ (hB4.out.alloc hB4.out.size _) | exact hcel.out _ (set5_below hB4.out (Nat.le_refl _)) | exact hcel.out _ hB4.out | exact hcel.out _ hDR.out | exact hcel.out _ hDA.out | go_keep)
          (first | (go_at_call 9; (with_reducible refine (hDc.out _ hDR.out).mono ?_); rintro e w4 ⟨x4, v4, rfl, hp4, hd4, hl4, hb4⟩; have hB4 := hide (hDR.out.trans (hb4.mono hDR.out.size)); have hNX := hide (nxA hR.out hp4 hd4 hl4 hB4.out); clear hp4 hd4 hl4 hb4) | (go_at_call 9; (refine (hDc.out _ hDA.out).mono ?_); rintro e w4 ⟨x4, v4, rfl, hp4, hd4, hl4, hb4⟩; have hB4 := hide (hDA.out.trans (hb4.mono hDA.out.size)); have hNX := hide (nxB hR.out hp4 hd4 hl4 hb4); obtain ⟨e0, e1, e2, e3, e4, ef⟩ := row5 (keepr (keepr (heap_alloc_new wr zeroD) hZ.out) hb4); clear hp4 hd4 hl4 hb4) | fail)
        all_goals go_wp2_with fail
        all_goals go_meet
        all_goals exact ⟨_, x4, rfl, rfl, hNX.out⟩
      case rest =>
        obtain ⟨h, x4, rfl, rfl, hnx4⟩ := hcut
        have hN := hide hnx4
        obtain ⟨A4, c4', hv4, hc4⟩ := hnx4.out.slice
        subst hv4
        clear hnx4 c0 c1 c2 c3 c4 c5 hDc hcel hcy hDA hZ hDR hR cy
        cases hm : mLine x.pure y with
        | none =>
          have hr2 : r = (noM, [], 7) := by rw [hrh.out]; unfold dcRes; rw [if_pos hok, hm]
          subst hr2
          have hnx : Hid (mFold (L.take (k + 1)) = ((mFold (L.take k)).1, (mFold (L.take k)).2 ++ [⟨#[63]⟩])) := hide (by rw [hfold.out]; exact mStep_none (by rw [← hpx.out]; exact hm))
          have hcat := cat_run S ⟨#[63, 10]⟩ (by show S.size + 2 ≤ _; omega)
          have hSn : Hid (linesB (mFold (L.take (k + 1))).2 = S ++ ⟨#[63, 10]⟩) := hide (by rw [hnx.out, linesB_snoc, ← hSh.out]; rfl)
          have hQn : Hid (QS w wc g (some ⟨b3, o3, none⟩) N L x (mFold (L.take (k + 1))).1) := hide (by rw [hnx.out]; exact hN.out.q)
          clear hm hok hrh
          go_wp2
          go_roundw
          case rel => exact ⟨k + 1, x, by omega, by rw [hTn.out], by rw [hSn.out], by go_num, hQn.out⟩
          case measure => simp [intOf]; omega
        | some q =>
          obtain ⟨d', out⟩ := q
          have hr2 : r = (d', out, 0) := by rw [hrh.out]; unfold dcRes; rw [if_pos hok, hm]
          subst hr2
          have hnx : Hid (mFold (L.take (k + 1)) = (d', (mFold (L.take k)).2 ++ out)) := hide (by rw [hfold.out]; exact mStep_some (by rw [← hpx.out]; exact hm))
          have hfew := hide (mLine_few hok (by omega) hm)
          obtain ⟨hd'ok, hout1⟩ := mLine_ok hok hm
          have hx4 : x4.pure = d' := hN.out.p
          have hx4ok : x4.pure.ok = true := by rw [hx4]; exact hd'ok
          have hpx4 := hide hx4
          obtain ⟨m, hmm⟩ : ∃ m, m = out.length := ⟨_, rfl⟩
          have hmh := hide hmm
          simp only [← hmm] at hN hout1 ⊢
          have hm1 : ¬ (m : Int) < 1 := by omega
          have hm5 : m ≤ 5000 := by rw [hmh.out]; exact hfew.out.1
          have hSn : Hid (linesB (mFold (L.take (k + 1))).2 = S ++ linesB out) := hide (by rw [hnx.out, linesB_app, ← hSh.out])
          have hMn : Hid ((mFold (L.take (k + 1))).1 = d') := hide (by rw [hnx.out])
          have hv1 := hide (fun W (hb : Below wc.heap.size wc W) => sValid_any x4 W (hN.out.below hb).dv.good (stroke_le hx4ok))
          have hdk : deskOk x4 = true := by rw [deskOk_pure]; exact hx4ok
          rw [hdk] at hv1
          have hv2 := hide (fun W (hb : Below wc.heap.size wc W) => iDeskT_any x4 W (hGh.out.below (hN.out.below hb).q.low) (hN.out.below hb).dv.good (stroke_le hx4ok))
          obtain ⟨X, hX⟩ : ∃ X, X = x4.pure.text := ⟨_, rfl⟩
          have hXl : (X.toList == []) = false := by rw [hX]; simpa using text_ne hx4ok
          have hmt : mDeskT x4 = X := by rw [deskT_pure hN.out.dv.good, hX]
          rw [hmt] at hv2
          obtain ⟨e0, e1, e2, e3, e4, _⟩ := row5 hN.out.box
          clear hm hok hrh hx4 hd'ok hmm hX hmt hdk hx4ok
          go_wp2_with fail
          refine (hv1.out _ (Below.refl _ _)).mono ?_
          rintro e w5 ⟨rfl, hb5⟩
          have hB5 := hide hb5
          have hN5 := hide (hN.out.below hb5)
          clear hb5 e0 e1 e2 e3 e4
          obtain ⟨e0, e1, e2, e3, e4, _⟩ := row5 hN5.out.box
          go_wp2_with fail
          refine (hv2.out _ hB5.out).mono ?_
          rintro e w6 ⟨rfl, hb6⟩
          have hN6 := hide (hN5.out.below hb6)
          have hL6 : Hid (Res strc 9 1 w6 w.heap.size (.slice A4 m c4') m out) := hide (by
            have h6 := hN6.out.out
            simp only [← hmh.out] at h6
            exact h6)
          clear hb6 e0 e1 e2 e3 e4 hN5 hB5 hN hv1 hv2
          go_wp2
          go_loopw [6, 11] (fun s i wy => ∃ j : Nat, j ≤ m ∧ i = .int .i64 (j : Int) ∧ s = .string (S ++ linesB (out.take j)) ∧ w6 = wy) (fun _ i _ => m - (intOf i).toNat)
          case atStart => exact ⟨0, Nat.zero_le _, rfl, by rw [List.take_zero, show linesB [] = (⟨#[]⟩ : ByteArray) from rfl, app_empty], rfl⟩
          case round =>
            obtain ⟨j, hj, rfl, rfl, rfl⟩ := hrel
            by_cases hjl : j < m
            · obtain ⟨b7, o7, z, hA7, _, hz, cz⟩ := (hL6.out.arr strc_len).str hjl
              subst hA7
              have hzs := hfew.out.2 z (List.mem_of_getElem? hz)
              have hnz := hide (take_snoc hz)
              have hjm : (j : Int) < (m : Int) := by omega
              obtain ⟨P, hP⟩ : ∃ P, P = linesB (out.take j) := ⟨_, rfl⟩
              have hPh := hide hP
              have hPs : P.size ≤ 167772165000 := by
                have h1 := linesB_size (L := out.take j) (M := 33554432) (fun l hl => hfew.out.2 l (List.mem_of_mem_take hl))
                have h2 : (out.take j).length ≤ 5000 := by rw [List.length_take]; have := hfew.out.1; omega
                rw [hP]; omega
              have hnz2 : Hid (S ++ P ++ (z ++ ⟨#[10]⟩) = S ++ linesB (out.take (j + 1))) := hide (by rw [hnz.out, linesB_snoc, ← hPh.out, ByteArray.append_assoc])
              rw [← hP]
              have l1 : (⟨#[10]⟩ : ByteArray).size = 1 := rfl
              have hc1 := cat_run z ⟨#[10]⟩ (by rw [l1]; omega)
              have hc2 := cat_run (S ++ P) (z ++ ⟨#[10]⟩) (by rw [ba_add, ba_add, l1]; omega)
              clear hz hP l1
              go_wp2
              go_roundw
              case rel => exact ⟨j + 1, by omega, by go_num, by rw [hnz2.out], by trivial⟩
              case measure => simp [intOf]; omega
            · obtain rfl : j = m := by omega
              have hjm : ¬ (j : Int) < (j : Int) := by omega
              rw [show out.take j = out by rw [hmh.out, List.take_length], ← hSn.out]
              obtain ⟨e0, e1, e2, e3, e4, _⟩ := row5 hN6.out.box
              obtain ⟨a0, a1, a2, a3, a4, af⟩ := row5 hN6.out.q.box
              have hQn := hide (hN6.out.q.next hN6.out.dv)
              rw [hpx4.out, ← hMn.out] at hQn
              go_wp2
              go_roundw
              case rel => exact ⟨k + 1, x4, by omega, by rw [hTn.out], rfl, by go_num, hQn.out⟩
              case measure => simp [intOf]; omega
    · obtain rfl : k = N := by omega
      have hlti : ¬ (k : Int) < (k : Int) := by omega
      have hall : L.take k = L := List.take_of_length_le (by rw [hlen.out]; exact Nat.le_refl _)
      rw [hall] at hTh hSh
      have hrun := hide (run_lines (L := L) (fun y hy => lineC_none (hLk.out y hy)) (by rw [hlen.out]; omega))
      rw [← hTh.out, ← hSh.out] at hrun
      clear hall
      go_wp2_with fail
      refine (iRun_any T _ (hGh.out.below hR.out.low) (by omega)).mono ?_
      rw [hrun.out]
      rintro e w5 ⟨rfl, hb5⟩
      have hB5 := hide (hR.out.low.trans (hb5.mono hR.out.low.size))
      clear hb5
      go_wp2
      go_ret
      exact ⟨retB (by simp), hB5.out⟩
end Go.Proofs.YtfpaejlipaainaaGreatDoor
namespace Go.Proofs.YtfpaejlipaainaaGreatDoor
open Go.ChangeShapes Go.WideShapes Go.ChangeAt Go.RowKit Go.Deep
theorem witness_rowZ {H : Type} {enc : TypeId × Value → H} {C : Checked} {os : Os} {f : FuncId} {fn : Func} {s : OpenSpec} {conds : List PathCond} {apart : Bool} {laid : List (String × DataW Unit)} (w0 : World) (args : Array Value) (hos : w0.os = os)
    (hv : (w0.forCall (fun _ _ => 0) ⟨#[], args, []⟩).variablesZipB C.prog = true)
    (hr : ((w0.forCall (fun _ _ => 0) ⟨#[], args, []⟩).heap.toList.drop C.prog.globals.size).take ((begin C.prog (fun _ _ => 0) default).world.heap.size - C.prog.globals.size) =
      (begin C.prog (fun _ _ => 0) default).world.heap.toList.drop C.prog.globals.size)
    (hok : Input.okWideB C.prog (w0.forCall (fun _ _ => 0) ⟨#[], args, []⟩) f ⟨#[], args, []⟩ = true)
    (hrow : s.preRow enc C.prog fn conds apart laid (w0.forCall (fun _ _ => 0) ⟨#[], args, []⟩).memory args) :
    ∃ (w : World) (tape : Tape) (i : Input), w.os = os ∧ (w.forCall tape i).Shaped C.prog ∧ i.vars = [] ∧ Input.okWide C.prog (w.forCall tape i) .any w.heap.size f i ∧
      s.preRow enc C.prog fn conds apart laid (w.forCall tape i).memory i.args ∧ ({} : Assume).holds C.prog (lone (Frame.enter C.prog f i.args .normal) [] (w.forCall tape i)) :=
  ⟨w0, fun _ _ => 0, ⟨#[], args, []⟩, hos, World.shaped_of_ZipB hv hr, (Input.okWide_of_okWideB (base := 0) hok).1, (Input.okWide_of_okWideB hok).2, hrow, by simp [Assume.holds]⟩
end Go.Proofs.YtfpaejlipaainaaGreatDoor
