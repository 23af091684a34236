/- Contracts of the drawn heaps: valid ones. No statement is proved here. -/
import Derived.Test.YtpnbnhhifgcklaaDoorSrt
import Derived.Test.YtpnbnhhifgcklaaDoorBox
import Derived.Test.YtpnbnhhifgcklaaDoorPutG
namespace Go.Proofs.YtpnbnhhifgcklaaDoor
open Go.ChangeShapes Go.WideShapes Go.ChangeAt Go.RowKit Go.Deep
set_option maxRecDepth 100000
theorem box_far {w : World} {r k i : Nat} {u : Value} {o : Obj} (h : w.heap[r]? = some o) (hne : r ≠ k) : (w.setCell ⟨k, i, none⟩ u).heap[r]? = some o := box_kept h (grown_set w k i u) hne
/-- A heap as it is drawn. -/
def Heap.drawn (x : Heap) : Prop := (x.fSort = ⟨#[98, 114, 111, 119, 110]⟩ ∨ x.fSort = ⟨#[98, 117, 102, 102]⟩ ∨ x.fSort = ⟨#[103, 114, 101, 101, 110, 45, 50]⟩ ∨ x.fSort = ⟨#[119, 104, 105, 116, 101]⟩) ∧ (1898 ≤ x.fYear ∧ x.fYear ≤ 1903) ∧ 1 ≤ x.fBundles ∧ x.fBundles ≤ 20
theorem Heap.drawn_fits {x : Heap} (h : x.drawn) : x.fits := by
  show x.fSort.size ≤ maxLen
  rcases h.1 with h | h | h | h <;> rw [h] <;> unfold maxLen <;> decide
theorem Heap.drawn_ok {x : Heap} (h : x.drawn) : x.ok = true := by
  rw [Heap.ok_iff]
  refine ⟨?_, by have := h.2.1; omega, by have := h.2.2; omega⟩
  rcases h.1 with h | h | h | h <;> rw [h] <;> decide
def DrewH1 (w : World) (g m : Nat) (e : Ending) (w' : World) : Prop := ∃ x : Heap, e = .returned (.agg #[.string x.fSort, .int .i64 x.fYear, .int .i64 x.fBundles]) ∧ x.drawn ∧ w.grownBy w' (some g) ∧ Src w' g m
set_option maxHeartbeats 1000000 in
theorem new23_any (w : World) (g m : Nat) (hs : Src w g m) (hm : m ≤ 900000000) :
    Calls Tryd.prog 18 #[.pointer (some ⟨g, 0, none⟩)] w fun e w' => DrewH1 w g (m + 20) e w' := by
  have hgw : Hid (g < w.heap.size) := hide hs.lt
  go_enter Tryd.func18, Tryd.ntmps18
  go_upto_region 1 with fail
  refine nameW (φ := fun W => W.heap[w.heap.size]? = some (.cells #[.string ⟨#[]⟩, .int .i64 0, .int .i64 0] 27 (0, 0)) ∧ PS w W g m) ⟨heap_alloc_new w _, (PS.first hs).alloc _⟩ ?_
  rintro W1 ⟨hr0, hd0⟩
  have hR := hide hr0
  have hD := hide hd0
  obtain ⟨r, hr⟩ : ∃ r, r = w.heap.size := ⟨_, rfl⟩
  rw [← hr] at hR ⊢
  have hrg : Hid (r ≠ g) := hide (by have := hgw.out; omega)
  have hrw : Hid (w.heap.size ≤ r) := hide (Nat.le_of_eq hr.symm)
  clear hr0 hd0 hr hs
  go_wp2_with fail
  refine (text_any _ g _ _ 4 _ [⟨#[98, 114, 111, 119, 110]⟩, ⟨#[98, 117, 102, 102]⟩, ⟨#[103, 114, 101, 101, 110, 45, 50]⟩, ⟨#[119, 104, 105, 116, 101]⟩] (hD.out.2.2.alloc _) (by omega) (by omega) (by omega) (Nat.ne_of_gt hD.out.2.2.lt) (lit_strs _ _ _ _ _ rfl rfl)).mono ?_
  rintro e w2 ⟨s, rfl, hs, hg0, hs⟩
  have hg := grown_two (World.grownBy_alloc _ _ _) hg0
  clear hg0
  replace hR := hide (box_kept hR.out hg hrg.out)
  replace hD := hide (hD.out.step hg hs)
  clear hg hs
  have hso : Hid (s = ⟨#[98, 114, 111, 119, 110]⟩ ∨ s = ⟨#[98, 117, 102, 102]⟩ ∨ s = ⟨#[103, 114, 101, 101, 110, 45, 50]⟩ ∨ s = ⟨#[119, 104, 105, 116, 101]⟩) := hide (by simpa using hs)
  clear hs
  go_wp2_with fail
  refine (pick_any _ g _ _ (hD.out.2.2.alloc _) (by omega)).mono ?_
  rintro e w3 ⟨yr, rfl, y0, _, y2, hg0, hs⟩
  have y3 := y2 (by omega)
  clear y2
  obtain ⟨k, hk⟩ : ∃ k, k = w2.heap.size := ⟨_, rfl⟩
  have hK := hide (box_new hg0 hD.out.2.2.lt)
  have hg := grown_two (World.grownBy_alloc _ _ _) hg0
  have hkg : Hid (k ≠ g) := hide (by have := hD.out.2.2.lt; omega)
  have hkr : Hid (r ≠ k) := hide (by have := (Array.getElem?_eq_some_iff.1 hR.out).1; omega)
  have hkw : Hid (w.heap.size ≤ k) := hide (by rw [hk]; exact hD.out.1.size)
  replace hR := hide (box_kept hR.out hg hrg.out)
  replace hD := hide (hD.out.step hg hs)
  rw [← hk] at hK ⊢
  clear hg0 hg hs hk
  have wy : IntKind.i64.wrap (1898 + yr) = 1898 + yr := IntWalk.i64_in _ (by omega)
  obtain ⟨c0, c1, c2, cf⟩ := row3 hK.out
  go_upto_region 3 with fail
  refine nameW (φ := fun W => W.heap[k]? = some (.cells #[.string s, .int .i64 (1898 + yr), .int .i64 0] 27 (0, 0)) ∧ W.heap[r]? = some (.cells #[.string ⟨#[]⟩, .int .i64 0, .int .i64 0] 27 (0, 0)) ∧ PS w W g (m + 2 + 2)) ⟨box_set hK.out 1 (.int .i64 (1898 + yr)), box_far hR.out hkr.out, hD.out.cell (i := 1) (u := .int .i64 (1898 + yr)) hkw.out⟩ ?_
  rintro W3 ⟨hk3, hr3, hd3⟩
  clear c0 c1 c2 cf
  replace hK := hide hk3
  replace hR := hide hr3
  replace hD := hide hd3
  clear hk3 hr3 hd3
  go_wp2_with fail
  refine (pick_any _ g _ _ hD.out.2.2 (by omega)).mono ?_
  rintro e w2 ⟨bn, rfl, b0, _, b2, hg, hs⟩
  replace hR := hide (box_kept hR.out hg hrg.out)
  replace hK := hide (box_kept hK.out hg hkg.out)
  replace hD := hide (hD.out.step hg hs)
  clear hg hs
  have b3 := b2 (by omega)
  clear b2
  have wb : IntKind.i64.wrap (1 + bn) = 1 + bn := IntWalk.i64_in _ (by omega)
  obtain ⟨c0, c1, c2, cf⟩ := row3 hK.out
  go_upto_region 4 with fail
  refine nameW (φ := fun W => W.heap[k]? = some (.cells #[.string s, .int .i64 (1898 + yr), .int .i64 (1 + bn)] 27 (0, 0)) ∧ W.heap[r]? = some (.cells #[.string ⟨#[]⟩, .int .i64 0, .int .i64 0] 27 (0, 0)) ∧ PS w W g (m + 2 + 2 + 2)) ⟨box_set hK.out 2 (.int .i64 (1 + bn)), box_far hR.out hkr.out, hD.out.cell (i := 2) (u := .int .i64 (1 + bn)) hkw.out⟩ ?_
  rintro W3 ⟨hk3, hr3, hd3⟩
  clear c0 c1 c2 cf
  replace hK := hide hk3
  replace hR := hide hr3
  replace hD := hide hd3
  clear hk3 hr3 hd3
  have hK1 := hK.out
  have hR1 := hR.out
  obtain ⟨c0, c1, c2, cf⟩ := row3 hK1
  obtain ⟨d0, d1, d2, df⟩ := row3 hR1
  have hD1 := hD
  replace hD1 := hide (hD1.out.cell (k := r) (i := 0) (u := .string s) hrw.out)
  replace hD1 := hide (hD1.out.cell (k := r) (i := 1) (u := .int .i64 (1898 + yr)) hrw.out)
  replace hD1 := hide (hD1.out.cell (k := r) (i := 2) (u := .int .i64 (1 + bn)) hrw.out)
  have hR5 := box_set (box_set (box_set hR1 0 (.string s)) 1 (.int .i64 (1898 + yr))) 2 (.int .i64 (1 + bn))
  clear hK1
  go_wp2_with fail
  obtain ⟨e0, e1, e2, _⟩ := row3 (u0 := .string s) (u1 := .int .i64 (1898 + yr)) (u2 := .int .i64 (1 + bn)) hR5
  exact bodyPost_ret (v := .agg #[.string s, .int .i64 (1898 + yr), .int .i64 (1 + bn)]) (by simp [results, Tryd.results18, go_sem, e0, e1, e2]) rfl ⟨⟨s, 1898 + yr, 1 + bn⟩, rfl, ⟨hso.out, ⟨by show 1898 ≤ 1898 + yr; omega, by show 1898 + yr ≤ 1903; omega⟩, by show 1 ≤ 1 + bn; omega, by show 1 + bn ≤ 20; omega⟩, hD1.out.1, hD1.out.2.2.more (by omega)⟩
theorem ok_of_srt {l : List Heap} (h : Srt l) (ho : ∀ z ∈ l, z.ok = true) (hn : l.length ≤ 20) : heapsOk l = true := by
  unfold heapsOk
  rw [Bool.and_eq_true, List.all_eq_true]
  refine ⟨fun k hk => ?_, decide_eq_true hn⟩
  have hkl := List.mem_range.1 hk
  have hx : l[k]? = some l[k] := List.getElem?_eq_getElem hkl
  cases k with
  | zero => rw [heapPair_zero hx]; exact ho _ (List.mem_of_getElem? hx)
  | succ k =>
    have hy : l[k]? = some l[k] := List.getElem?_eq_getElem (by omega)
    rw [heapPair_pos (y := l[k]) hx (by omega) hy, Bool.and_eq_true]
    exact ⟨ho _ (List.mem_of_getElem? hx), (List.pairwise_iff_getElem.1 h) k (k + 1) (by omega) hkl (by omega)⟩
structure DInv (l : List Heap) (j : Nat) : Prop where
  srt : Srt l
  sort : ∀ z ∈ l, z.fSort = ⟨#[98, 114, 111, 119, 110]⟩ ∨ z.fSort = ⟨#[98, 117, 102, 102]⟩ ∨ z.fSort = ⟨#[103, 114, 101, 101, 110, 45, 50]⟩ ∨ z.fSort = ⟨#[119, 104, 105, 116, 101]⟩
  year : ∀ z ∈ l, 1898 ≤ z.fYear ∧ z.fYear ≤ 1903
  bun : ∀ z ∈ l, 1 ≤ z.fBundles ∧ z.fBundles ≤ 20 * (j : Int)
  len : l.length ≤ j
theorem put_low {l : List Heap} {x : Heap} {M : Int} (h : ∀ z ∈ l, 1 ≤ z.fBundles ∧ z.fBundles ≤ M) (hx : 1 ≤ x.fBundles ∧ x.fBundles ≤ 20) (hM : 0 ≤ M) : ∀ z ∈ hPut l x, 1 ≤ z.fBundles ∧ z.fBundles ≤ M + 20 := by
  intro z hz
  unfold hPut at hz
  have old : z ∈ l → 1 ≤ z.fBundles ∧ z.fBundles ≤ M + 20 := fun hm => by have := h z hm; omega
  split at hz
  · rename_i hf
    obtain ⟨y, hy, _, _, _, hat⟩ := found_at hf
    have hyb := h y (List.mem_of_getElem? hy)
    rcases List.mem_append.1 hz with hz | hz
    · exact old (List.mem_of_mem_take hz)
    · rcases List.mem_cons.1 hz with rfl | hz
      · rw [hat]; show 1 ≤ x.fBundles + y.fBundles ∧ x.fBundles + y.fBundles ≤ M + 20; omega
      · exact old (List.mem_of_mem_drop hz)
  · rcases List.mem_append.1 hz with hz | hz
    · exact old (List.mem_of_mem_take hz)
    · rcases List.mem_cons.1 hz with rfl | hz
      · omega
      · exact old (List.mem_of_mem_drop hz)
theorem DInv.zero : DInv [] 0 := ⟨List.Pairwise.nil, by simp, by simp, by simp, by simp⟩
theorem DInv.step {l : List Heap} {j : Nat} {x : Heap} (h : DInv l j) (hx : x.drawn) : DInv (hPut l x) (j + 1) := by
  refine ⟨srt_put h.srt, fun z hz => ?_, fun z hz => ?_, fun z hz => ?_, ?_⟩
  · rcases put_mem hz with h1 | ⟨h1, _⟩
    · exact h.sort z h1
    · rw [h1]; exact hx.1
  · rcases put_mem hz with h1 | ⟨_, h1⟩
    · exact h.year z h1
    · rw [h1]; exact hx.2.1
  · have := put_low h.bun hx.2.2 (by omega) z hz
    have e : 20 * ((j + 1 : Nat) : Int) = 20 * (j : Int) + 20 := by omega
    rw [e]; exact this
  · have := hPut_len l x; have := h.len; omega
theorem DInv.fits {l : List Heap} {j : Nat} (h : DInv l j) : ∀ z ∈ l, z.fits := by
  intro z hz
  show z.fSort.size ≤ maxLen
  rcases h.sort z hz with h | h | h | h <;> rw [h] <;> unfold maxLen <;> decide
theorem DInv.ok {l : List Heap} {j : Nat} (h : DInv l j) (hj : j ≤ 7) : heapsOk l = true := by
  refine ok_of_srt h.srt (fun z hz => ?_) (by have := h.len; omega)
  rw [Heap.ok_iff]
  refine ⟨?_, by have := h.year z hz; omega, by have := h.bun z hz; omega⟩
  rcases h.sort z hz with h | h | h | h <;> rw [h] <;> decide
def Drew23 (w : World) (g m : Nat) (e : Ending) (w' : World) : Prop := ∃ (g6 c : Nat) (l : List Heap), e = .returned (.slice (some ⟨g6, 0, none⟩) l.length c) ∧ Own Heap.cells 27 3 w' w.heap.size (.slice (some ⟨g6, 0, none⟩) l.length c) l.length l ∧ DInv l 7 ∧ l.length ≤ c ∧ w.grownBy w' (some g) ∧ Src w' g m
theorem DInv.more {l : List Heap} {j k : Nat} (h : DInv l j) (hk : j ≤ k) : DInv l k := ⟨h.srt, h.sort, h.year, fun z hz => by have := h.bun z hz; omega, by have := h.len; omega⟩
set_option maxHeartbeats 1000000 in
theorem draw23_any (w : World) (g m : Nat) (hs : Src w g m) (hm : m ≤ 800000000) :
    Calls Tryd.prog 16 #[.pointer (some ⟨g, 0, none⟩)] w fun e w' => Drew23 w g (m + 1000) e w' := by
  have hD : Hid (PS w w g m) := hide (PS.first hs)
  have hgw : Hid (g < w.heap.size) := hide hs.lt
  clear hs
  have hO := hide (Own.none_made (cells := Heap.cells) (e := 27) (s := 3) w (Nat.le_refl _))
  replace hD := hide (hD.out.alloc (.cells #[] 27))
  go_enter Tryd.func16, Tryd.ntmps16
  go_wp2_with fail
  refine (pick_any _ g _ _ hD.out.2.2 (by omega)).mono ?_
  rintro e w2 ⟨N, rfl, x0, _, x2, hg, hs⟩
  replace hO := hide (hO.out.src hgw.out hg)
  replace hD := hide (hD.out.step hg hs)
  clear hg hs
  have x3 := x2 (by omega)
  clear x2
  go_wp2
  go_loopw [3, 4] (fun v i wr => ∃ (j : Nat) (a : List Heap), (j : Int) ≤ N ∧ i = .int .i64 (N - j) ∧ PS w wr g (m + 100 + 20 * j) ∧ Own Heap.cells 27 3 wr w.heap.size v a.length a ∧ DInv a j ∧ v.ownBlock.isSome = true) (fun _ i _ => (intOf i).toNat)
  case atStart => exact ⟨0, [], by omega, by simp, ⟨hD.out.1, hD.out.2.1, hD.out.2.2.more (by omega)⟩, hO.out, DInv.zero, rfl⟩
  case round =>
    obtain ⟨j, a, hj, rfl, hd, ho, hI, hsm⟩ := hrel
    replace hO := hide ho
    replace hD := hide hd
    clear hd ho
    have hlen := hI.len
    by_cases hlt : 0 < N - j
    · have hlt' : (j : Int) < N := by omega
      have hwj : IntKind.i64.wrap (N - (j : Int) - 1) = N - (j : Int) - 1 := IntWalk.i64_in _ (by omega)
      go_wp2_with fail
      refine (new23_any _ g _ hD.out.2.2 (by omega)).mono ?_
      rintro e w2 ⟨q, rfl, hq, hg, hs⟩
      replace hO := hide (hO.out.src hgw.out hg)
      replace hD := hide (hD.out.step hg hs)
      clear hg hs
      obtain ⟨g6, c6, hv6, _, _, hnc6, _⟩ := hO.out.formS hsm
      subst hv6
      go_wp2_with fail
      refine (sPut_any g6 0 _ c6 a q _ (by omega) hnc6 (hO.out.arr Heap.len) (fun z hz => by have := hI.bun z hz; omega) (by have := hq.2.2; omega)).mono ?_
      rintro e w3 ⟨V, rfl, hoV, hb, hsV⟩
      have hO3 := hide (hoV.less hD.out.1.size)
      have hD3 := hide (hD.out.below hb)
      clear hb hoV
      go_wp2
      go_roundw
      case rel => exact ⟨j + 1, hPut a q, by omega, by go_num, ⟨hD3.out.1, hD3.out.2.1, hD3.out.2.2.more (by omega)⟩, hO3.out, hI.step hq, hsV⟩
      case measure => simp [intOf]; omega
    · obtain ⟨g6, c6, hv6, _, _, hnc6, _⟩ := hO.out.formS hsm
      subst hv6
      go_wp2
      go_ret
      exact ⟨g6, c6, a, rfl, hO.out, hI.more (by omega), hnc6, hD.out.1, hD.out.2.2.more (by omega)⟩
def DrewHs (w : World) (e : Ending) (w' : World) : Prop := ∃ (g6 c : Nat) (l : List Heap), e = .returned (.slice (some ⟨g6, 0, none⟩) l.length c) ∧ Arr Heap.cells 3 w' w'.heap.size (some ⟨g6, 0, none⟩) l.length l ∧ DInv l 7 ∧ l.length ≤ c ∧ Below w.heap.size w w'
theorem a2Heaps_any (w : World) (A : Option Addr) (n c : Nat) (l : List Int) (hr : Arr u8c 1 w w.heap.size A n l) (hl : byteL l) (hc : c ≤ maxLen) (hn : n ≤ c) :
    Calls Tryd.prog 5 #[.slice A n c] w fun e w' => DrewHs w e w' := by
  go_enter Tryd.func5, Tryd.ntmps5
  go_wp2_with fail
  refine (from_any _ A n c l hr hl hc hn).mono ?_
  rintro e w1 ⟨rfl, hb, hsz, hs1⟩
  have hD : Hid (DS w w1 w.heap.size 0) := hide ⟨hb, Nat.le_refl _, hs1⟩
  obtain ⟨g, hg⟩ : ∃ g, g = w.heap.size := ⟨_, rfl⟩
  rw [← hg] at hD ⊢
  have hgw : Hid (w.heap.size ≤ g) := hide (Nat.le_of_eq hg.symm)
  clear hb hs1 hg hsz
  go_wp2_with fail
  refine (draw23_any _ g _ hD.out.2.2 (by omega)).mono ?_
  rintro e w2 ⟨g6, k, q, rfl, ho, hI, hk, hg, hs⟩
  have hR := hide (ho.arr Heap.len)
  replace hD := hide (hD.out.step hg hs)
  clear ho hg hs
  go_wp2
  go_ret
  exact ⟨g6, k, q, rfl, hR.out, hI, hk, hD.out.1⟩
end Go.Proofs.YtpnbnhhifgcklaaDoor
