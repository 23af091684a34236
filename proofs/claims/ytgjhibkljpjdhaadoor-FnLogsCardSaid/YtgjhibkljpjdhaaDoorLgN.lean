/- Contracts of the drawn entries. No statement is proved here. -/
import Derived.Test.YtgjhibkljpjdhaaDoorSrt
import Derived.Test.YtgjhibkljpjdhaaDoorBox
import Derived.Test.YtgjhibkljpjdhaaDoorTrio
import Derived.Test.YtgjhibkljpjdhaaDoorLgR
namespace Go.Proofs.YtgjhibkljpjdhaaDoor
open Go.ChangeShapes Go.WideShapes Go.ChangeAt Go.RowKit Go.Deep
set_option maxRecDepth 100000
theorem box_far {w : World} {r k i : Nat} {u : Value} {o : Obj} (h : w.heap[r]? = some o) (hne : r ≠ k) : (w.setCell ⟨k, i, none⟩ u).heap[r]? = some o := box_kept h (grown_set w k i u) hne
theorem box_old {w : World} {r : Nat} {o o' : Obj} (h : w.heap[r]? = some o) : (w.alloc o').heap[r]? = some o := blk_below h ((Below.refl _ _).alloc (Nat.le_refl _) o')
def DrewE1 (w : World) (g m : Nat) (e : Ending) (w' : World) : Prop := ∃ x : Entry, e = .returned (.agg #[.int .i64 x.fDay, .string x.fWhat, .int .i64 x.fValue]) ∧ x.fWhat.size ≤ 100 ∧ w.grownBy w' (some g) ∧ Src w' g m
set_option maxHeartbeats 4000000 in
theorem drawE_any (w : World) (g m : Nat) (day : Int) (hs : Src w g m) (hm : m ≤ 900000000) (h0 : 0 ≤ day) (h1 : day ≤ 100000) :
    Calls Tryd.prog 35 #[.pointer (some ⟨g, 0, none⟩), .int .i64 day] w fun e w' => DrewE1 w g (m + 20) e w' := by
  have hgw : Hid (g < w.heap.size) := hide hs.lt
  go_enter Tryd.func35, Tryd.ntmps35
  go_upto_region 1 with fail
  refine nameW (φ := fun W => W.heap[w.heap.size]? = some (.cells #[.int .i64 0, .string ⟨#[]⟩, .int .i64 0] 38 (0, 0)) ∧ PS w W g m) ⟨heap_alloc_new w _, (PS.first hs).alloc _⟩ ?_
  rintro W1 ⟨hr0, hd0⟩
  have hR := hide hr0
  have hD := hide hd0
  obtain ⟨r, hr⟩ : ∃ r, r = w.heap.size := ⟨_, rfl⟩
  rw [← hr] at hR ⊢
  have hrg : Hid (r ≠ g) := hide (by have := hgw.out; omega)
  have hrw : Hid (w.heap.size ≤ r) := hide (Nat.le_of_eq hr.symm)
  clear hr0 hd0 hr hs
  go_wp2_with fail
  refine (pick_any _ g _ _ hD.out.2.2 (by omega)).mono ?_
  rintro e w2 ⟨dd, rfl, y0, _, y2, hg, hs⟩
  replace hR := hide (box_kept hR.out hg hrg.out)
  replace hD := hide (hD.out.step hg hs)
  clear hg hs
  have y3 := y2 (by omega)
  clear y2
  have wd : IntKind.i64.wrap (day + dd) = day + dd := IntWalk.i64_in _ (by omega)
  go_upto_region 2 with fail
  obtain ⟨k, hk⟩ : ∃ k, k = w2.heap.size := ⟨_, rfl⟩
  have hkg : Hid (k ≠ g) := hide (by have := hD.out.2.2.lt; omega)
  have hkr : Hid (r ≠ k) := hide (by have := (Array.getElem?_eq_some_iff.1 hR.out).1; omega)
  have hkw : Hid (w.heap.size ≤ k) := hide (by rw [hk]; exact hD.out.1.size)
  rw [← hk]
  refine nameW (φ := fun W => W.heap[k]? = some (.cells #[.int .i64 (day + dd), .string ⟨#[]⟩, .int .i64 0] 38 (0, 0)) ∧ W.heap[r]? = some (.cells #[.int .i64 0, .string ⟨#[]⟩, .int .i64 0] 38 (0, 0)) ∧ PS w W g (m + 2)) ⟨by rw [hk]; exact heap_alloc_new w2 _, box_old hR.out, hD.out.alloc _⟩ ?_
  rintro W3 ⟨hk3, hr3, hd3⟩
  have hK := hide hk3
  replace hR := hide hr3
  replace hD := hide hd3
  clear hk3 hr3 hd3 hk wd
  go_wp2_with fail
  refine (text_any _ g _ _ 4 _ [⟨#[115, 101, 101, 110]⟩, ⟨#[115, 97, 108, 101, 115]⟩, ⟨#[115, 116, 97, 114, 45, 51]⟩, ⟨#[99, 117, 116, 115]⟩] (hD.out.2.2.alloc _) (by omega) (by omega) (by omega) (Nat.ne_of_gt hD.out.2.2.lt) (lit_strs _ _ _ _ _ rfl rfl)).mono ?_
  rintro e w2 ⟨s, rfl, hs, hg0, hs⟩
  have hg := grown_two (World.grownBy_alloc _ _ _) hg0
  clear hg0
  replace hR := hide (box_kept hR.out hg hrg.out)
  replace hK := hide (box_kept hK.out hg hkg.out)
  replace hD := hide (hD.out.step hg hs)
  clear hg hs
  have hso : Hid (s.size ≤ 100) := hide (by simp at hs; rcases hs with h | h | h | h <;> rw [h] <;> decide)
  clear hs
  obtain ⟨c0, c1, c2, cf⟩ := brow3 hK.out
  go_upto_region 3 with fail
  refine nameW (φ := fun W => W.heap[k]? = some (.cells #[.int .i64 (day + dd), .string s, .int .i64 0] 38 (0, 0)) ∧ W.heap[r]? = some (.cells #[.int .i64 0, .string ⟨#[]⟩, .int .i64 0] 38 (0, 0)) ∧ PS w W g (m + 2 + 2)) ⟨box_set hK.out 1 (.string s), box_far hR.out hkr.out, hD.out.cell (i := 1) (u := .string s) hkw.out⟩ ?_
  rintro W3 ⟨hk3, hr3, hd3⟩
  clear c0 c1 c2 cf
  replace hK := hide hk3
  replace hR := hide hr3
  replace hD := hide hd3
  clear hk3 hr3 hd3
  go_wp2_with fail
  refine (pick_any _ g _ _ hD.out.2.2 (by omega)).mono ?_
  rintro e w2 ⟨vn, rfl, v0, _, v2, hg, hs⟩
  replace hR := hide (box_kept hR.out hg hrg.out)
  replace hK := hide (box_kept hK.out hg hkg.out)
  replace hD := hide (hD.out.step hg hs)
  clear hg hs
  have v3 := v2 (by omega)
  clear v2
  have wv : IntKind.i64.wrap (vn - 200) = vn - 200 := IntWalk.i64_in _ (by omega)
  obtain ⟨c0, c1, c2, cf⟩ := brow3 hK.out
  go_upto_region 4 with fail
  refine nameW (φ := fun W => W.heap[k]? = some (.cells #[.int .i64 (day + dd), .string s, .int .i64 (vn - 200)] 38 (0, 0)) ∧ W.heap[r]? = some (.cells #[.int .i64 0, .string ⟨#[]⟩, .int .i64 0] 38 (0, 0)) ∧ PS w W g (m + 2 + 2 + 2)) ⟨box_set hK.out 2 (.int .i64 (vn - 200)), box_far hR.out hkr.out, hD.out.cell (i := 2) (u := .int .i64 (vn - 200)) hkw.out⟩ ?_
  rintro W3 ⟨hk3, hr3, hd3⟩
  clear c0 c1 c2 cf
  replace hK := hide hk3
  replace hR := hide hr3
  replace hD := hide hd3
  clear hk3 hr3 hd3
  clear wv
  go_wp2_with fail
  refine (pick_any _ g _ _ hD.out.2.2 (by omega)).mono ?_
  rintro e w2 ⟨y, rfl, u0, _, u2, hg, hs⟩
  replace hR := hide (box_kept hR.out hg hrg.out)
  replace hK := hide (box_kept hK.out hg hkg.out)
  replace hD := hide (hD.out.step hg hs)
  clear hg hs
  have u3 := u2 (by omega)
  clear u2
  by_cases hy0 : y = 0
  · subst hy0
    go_wp2_with fail
    refine (among_any _ g _ _ 4 _ [-1, 0, 100000, 100001] (hD.out.2.2.alloc _) (by omega) (by omega) (by omega) (Nat.ne_of_gt hD.out.2.2.lt) (lit_ints _ _ _ _ _ rfl rfl)).mono ?_
    rintro e w2 ⟨z, rfl, _, hg0, hs⟩
    have hg := grown_two (World.grownBy_alloc _ _ _) hg0
    clear hg0
    replace hR := hide (box_kept hR.out hg hrg.out)
    replace hK := hide (box_kept hK.out hg hkg.out)
    replace hD := hide (hD.out.step hg hs)
    clear hg hs
    obtain ⟨c0, c1, c2, cf⟩ := brow3 hK.out
    go_upto_region 11 with fail
    refine nameW (φ := fun W => W.heap[k]? = some (.cells #[.int .i64 z, .string s, .int .i64 (vn - 200)] 38 (0, 0)) ∧ W.heap[r]? = some (.cells #[.int .i64 0, .string ⟨#[]⟩, .int .i64 0] 38 (0, 0)) ∧ PS w W g (m + 2 + 2 + 2 + 2 + 2)) ⟨box_set hK.out 0 (.int .i64 z), box_far hR.out hkr.out, hD.out.cell (i := 0) (u := .int .i64 z) hkw.out⟩ ?_
    rintro W3 ⟨hk3, hr3, hd3⟩
    clear c0 c1 c2 cf
    replace hK := hide hk3
    replace hR := hide hr3
    replace hD := hide hd3
    clear hk3 hr3 hd3
    have hK1 := hK.out
    have hR1 := hR.out
    obtain ⟨c0, c1, c2, cf⟩ := brow3 hK1
    obtain ⟨d0, d1, d2, df⟩ := brow3 hR1
    have hD1 := hD
    replace hD1 := hide (hD1.out.cell (k := r) (i := 0) (u := .int .i64 z) hrw.out)
    replace hD1 := hide (hD1.out.cell (k := r) (i := 1) (u := .string s) hrw.out)
    replace hD1 := hide (hD1.out.cell (k := r) (i := 2) (u := .int .i64 (vn - 200)) hrw.out)
    have hR5 := box_set (box_set (box_set hR1 0 (.int .i64 z)) 1 (.string s)) 2 (.int .i64 (vn - 200))
    clear hK1
    go_wp2_with fail
    obtain ⟨e0, e1, e2, _⟩ := brow3 (u0 := .int .i64 z) (u1 := .string s) (u2 := .int .i64 (vn - 200)) hR5
    exact bodyPost_ret (v := .agg #[.int .i64 z, .string s, .int .i64 (vn - 200)]) (by simp [results, Tryd.results35, go_sem, e0, e1, e2]) rfl ⟨⟨z, s, vn - 200⟩, rfl, hso.out, hD1.out.1, hD1.out.2.2.more (by omega)⟩
  by_cases hy1 : y = 1
  · subst hy1
    go_wp2_with fail
    refine (text_any _ g _ _ 3 _ [⟨#[]⟩, ⟨#[83, 101, 101, 110]⟩, ⟨#[97, 32, 98]⟩] (hD.out.2.2.alloc _) (by omega) (by omega) (by omega) (Nat.ne_of_gt hD.out.2.2.lt) (lit_strs _ _ _ _ _ rfl rfl)).mono ?_
    rintro e w2 ⟨z, rfl, hz, hg0, hs⟩
    have hg := grown_two (World.grownBy_alloc _ _ _) hg0
    clear hg0
    replace hR := hide (box_kept hR.out hg hrg.out)
    replace hK := hide (box_kept hK.out hg hkg.out)
    replace hD := hide (hD.out.step hg hs)
    clear hg hs
    have hzo : Hid (z.size ≤ 100) := hide (by simp at hz; rcases hz with h | h | h <;> rw [h] <;> decide)
    clear hz
    obtain ⟨c0, c1, c2, cf⟩ := brow3 hK.out
    go_upto_region 11 with fail
    refine nameW (φ := fun W => W.heap[k]? = some (.cells #[.int .i64 (day + dd), .string z, .int .i64 (vn - 200)] 38 (0, 0)) ∧ W.heap[r]? = some (.cells #[.int .i64 0, .string ⟨#[]⟩, .int .i64 0] 38 (0, 0)) ∧ PS w W g (m + 2 + 2 + 2 + 2 + 2)) ⟨box_set hK.out 1 (.string z), box_far hR.out hkr.out, hD.out.cell (i := 1) (u := .string z) hkw.out⟩ ?_
    rintro W3 ⟨hk3, hr3, hd3⟩
    clear c0 c1 c2 cf
    replace hK := hide hk3
    replace hR := hide hr3
    replace hD := hide hd3
    clear hk3 hr3 hd3
    have hK1 := hK.out
    have hR1 := hR.out
    obtain ⟨c0, c1, c2, cf⟩ := brow3 hK1
    obtain ⟨d0, d1, d2, df⟩ := brow3 hR1
    have hD1 := hD
    replace hD1 := hide (hD1.out.cell (k := r) (i := 0) (u := .int .i64 (day + dd)) hrw.out)
    replace hD1 := hide (hD1.out.cell (k := r) (i := 1) (u := .string z) hrw.out)
    replace hD1 := hide (hD1.out.cell (k := r) (i := 2) (u := .int .i64 (vn - 200)) hrw.out)
    have hR5 := box_set (box_set (box_set hR1 0 (.int .i64 (day + dd))) 1 (.string z)) 2 (.int .i64 (vn - 200))
    clear hK1
    go_wp2_with fail
    obtain ⟨e0, e1, e2, _⟩ := brow3 (u0 := .int .i64 (day + dd)) (u1 := .string z) (u2 := .int .i64 (vn - 200)) hR5
    exact bodyPost_ret (v := .agg #[.int .i64 (day + dd), .string z, .int .i64 (vn - 200)]) (by simp [results, Tryd.results35, go_sem, e0, e1, e2]) rfl ⟨⟨day + dd, z, vn - 200⟩, rfl, hzo.out, hD1.out.1, hD1.out.2.2.more (by omega)⟩
  by_cases hy2 : y = 2
  · subst hy2
    go_wp2_with fail
    refine (among_any _ g _ _ 5 _ [-1000001, -1000000, 1000000, 1000001, -9223372036854775808] (hD.out.2.2.alloc _) (by omega) (by omega) (by omega) (Nat.ne_of_gt hD.out.2.2.lt) (lit_ints _ _ _ _ _ rfl rfl)).mono ?_
    rintro e w2 ⟨z, rfl, _, hg0, hs⟩
    have hg := grown_two (World.grownBy_alloc _ _ _) hg0
    clear hg0
    replace hR := hide (box_kept hR.out hg hrg.out)
    replace hK := hide (box_kept hK.out hg hkg.out)
    replace hD := hide (hD.out.step hg hs)
    clear hg hs
    obtain ⟨c0, c1, c2, cf⟩ := brow3 hK.out
    go_upto_region 11 with fail
    refine nameW (φ := fun W => W.heap[k]? = some (.cells #[.int .i64 (day + dd), .string s, .int .i64 z] 38 (0, 0)) ∧ W.heap[r]? = some (.cells #[.int .i64 0, .string ⟨#[]⟩, .int .i64 0] 38 (0, 0)) ∧ PS w W g (m + 2 + 2 + 2 + 2 + 2)) ⟨box_set hK.out 2 (.int .i64 z), box_far hR.out hkr.out, hD.out.cell (i := 2) (u := .int .i64 z) hkw.out⟩ ?_
    rintro W3 ⟨hk3, hr3, hd3⟩
    clear c0 c1 c2 cf
    replace hK := hide hk3
    replace hR := hide hr3
    replace hD := hide hd3
    clear hk3 hr3 hd3
    have hK1 := hK.out
    have hR1 := hR.out
    obtain ⟨c0, c1, c2, cf⟩ := brow3 hK1
    obtain ⟨d0, d1, d2, df⟩ := brow3 hR1
    have hD1 := hD
    replace hD1 := hide (hD1.out.cell (k := r) (i := 0) (u := .int .i64 (day + dd)) hrw.out)
    replace hD1 := hide (hD1.out.cell (k := r) (i := 1) (u := .string s) hrw.out)
    replace hD1 := hide (hD1.out.cell (k := r) (i := 2) (u := .int .i64 z) hrw.out)
    have hR5 := box_set (box_set (box_set hR1 0 (.int .i64 (day + dd))) 1 (.string s)) 2 (.int .i64 z)
    clear hK1
    go_wp2_with fail
    obtain ⟨e0, e1, e2, _⟩ := brow3 (u0 := .int .i64 (day + dd)) (u1 := .string s) (u2 := .int .i64 z) hR5
    exact bodyPost_ret (v := .agg #[.int .i64 (day + dd), .string s, .int .i64 z]) (by simp [results, Tryd.results35, go_sem, e0, e1, e2]) rfl ⟨⟨day + dd, s, z⟩, rfl, hso.out, hD1.out.1, hD1.out.2.2.more (by omega)⟩
  have e0' : (y == 0) = false := by simp; exact hy0
  have e1' : (y == 1) = false := by simp; exact hy1
  have e2' : (y == 2) = false := by simp; exact hy2
  clear hy0 hy1 hy2
  have hK1 := hK.out
  have hR1 := hR.out
  obtain ⟨c0, c1, c2, cf⟩ := brow3 hK1
  obtain ⟨d0, d1, d2, df⟩ := brow3 hR1
  have hD1 := hD
  replace hD1 := hide (hD1.out.cell (k := r) (i := 0) (u := .int .i64 (day + dd)) hrw.out)
  replace hD1 := hide (hD1.out.cell (k := r) (i := 1) (u := .string s) hrw.out)
  replace hD1 := hide (hD1.out.cell (k := r) (i := 2) (u := .int .i64 (vn - 200)) hrw.out)
  have hR5 := box_set (box_set (box_set hR1 0 (.int .i64 (day + dd))) 1 (.string s)) 2 (.int .i64 (vn - 200))
  clear hK1
  go_wp2_with fail
  obtain ⟨e0, e1, e2, _⟩ := brow3 (u0 := .int .i64 (day + dd)) (u1 := .string s) (u2 := .int .i64 (vn - 200)) hR5
  exact bodyPost_ret (v := .agg #[.int .i64 (day + dd), .string s, .int .i64 (vn - 200)]) (by simp [results, Tryd.results35, go_sem, e0, e1, e2]) rfl ⟨⟨day + dd, s, vn - 200⟩, rfl, hso.out, hD1.out.1, hD1.out.2.2.more (by omega)⟩
theorem lastDay_range {l : List Entry} (h : DE l) : 0 ≤ lastDay l ∧ lastDay l ≤ 100000 := by
  unfold lastDay
  cases hq : l.getLast? with
  | none => exact ⟨Int.le_refl _, by decide⟩
  | some q => exact (Entry.ok_iff.1 (h.ok q (List.mem_of_getLast? hq))).1
theorem Entry.one1 : ∀ x, ∀ u ∈ Entry.cells x, u.oneCell' = true := by intro x u hu; simp [Entry.cells] at hu; rcases hu with rfl | rfl | rfl <;> rfl
theorem info_Ent : (Tryd.prog.info? 38).map (fun i => (i.zero, i.size, i.bytes)) = some (some (.agg #[.int .i64 0, .string ByteArray.empty, .int .i64 0]), 3, 32) := by kernel_rfl
def DrewEs (w : World) (g m : Nat) (e : Ending) (w' : World) : Prop := ∃ (A : Option Addr) (n c : Nat) (l : List Entry), e = .returned (.slice A n c) ∧ Own Entry.cells 38 3 w' w.heap.size (.slice A n c) n l ∧ DE l ∧ n ≤ 7 ∧ n ≤ c ∧ w.grownBy w' (some g) ∧ Src w' g m
theorem fits100 {x : Entry} (h : x.fWhat.size ≤ 100) : x.fits := by show x.fWhat.size ≤ maxLen; unfold maxLen; omega
set_option maxHeartbeats 4000000 in
theorem ents27_any (w : World) (g m : Nat) (hs : Src w g m) (hm : m ≤ 800000000) :
    Calls Tryd.prog 19 #[.pointer (some ⟨g, 0, none⟩), .int .i64 7] w fun e w' => DrewEs w g (m + 1000) e w' := by
  have hD : Hid (PS w w g m) := hide (PS.first hs)
  have hgw : Hid (g < w.heap.size) := hide hs.lt
  clear hs
  have hO := hide (Own.none_made (cells := Entry.cells) (e := 38) (s := 3) w (Nat.le_refl _))
  replace hD := hide (hD.out.alloc (.cells #[] 38))
  go_enter Tryd.func19, Tryd.ntmps19
  go_wp2_with fail
  refine (pick_any _ g _ _ hD.out.2.2 (by omega)).mono ?_
  rintro e w2 ⟨N, rfl, x0, _, x2, hg, hs⟩
  replace hO := hide (hO.out.src hgw.out hg)
  replace hD := hide (hD.out.step hg hs)
  clear hg hs
  have x3 := x2 (by omega)
  clear x2
  go_wp2
  go_loopw [5, 6, 7] (fun v d i wr => ∃ (j p : Nat) (a : List Entry), (j : Int) ≤ N ∧ p ≤ j ∧ d = .int .i64 (lastDay a) ∧ i = .int .i64 (N - j) ∧ PS w wr g (m + 100 + 40 * j) ∧ Own Entry.cells 38 3 wr w.heap.size v p a ∧ DE a) (fun _ _ i _ => (intOf i).toNat)
  case atStart => exact ⟨0, 0, [], by omega, Nat.le_refl _, rfl, by simp, ⟨hD.out.1, hD.out.2.1, hD.out.2.2.more (by omega)⟩, hO.out, DE.nil⟩
  case round =>
    obtain ⟨j, p, a, hj, hpj, rfl, rfl, hd, ho, hI⟩ := hrel
    replace hO := hide ho
    replace hD := hide hd
    have hF := hide hI
    obtain ⟨l0, l1⟩ := lastDay_range hI
    obtain ⟨L, hL⟩ : ∃ L, L = lastDay a := ⟨_, rfl⟩
    rw [← hL] at l0 l1 ⊢
    have hLL := hide hL
    clear hd ho hI hL
    by_cases hlt : 0 < N - j
    · have hlt' : (j : Int) < N := by omega
      have hwj : IntKind.i64.wrap (N - (j : Int) - 1) = N - (j : Int) - 1 := IntWalk.i64_in _ (by omega)
      go_wp2_with fail
      refine (drawE_any _ g _ L hD.out.2.2 (by omega) l0 l1).mono ?_
      rintro e w2 ⟨x, rfl, hxs, hg, hs⟩
      replace hO := hide (hO.out.src hgw.out hg)
      replace hD := hide (hD.out.step hg hs)
      clear hg hs
      have hxf := fits100 hxs
      go_upto_region 7 with fail
      obtain ⟨k, hk⟩ : ∃ k, k = w2.heap.size := ⟨_, rfl⟩
      have hkg : Hid (k ≠ g) := hide (by have := hD.out.2.2.lt; omega)
      have hkw : Hid (w.heap.size ≤ k) := hide (by rw [hk]; exact hD.out.1.size)
      have hko : Hid (u5.ownBlock ≠ some k) := hide (hO.out.notNew (Nat.le_of_eq hk.symm))
      rw [← hk]
      refine nameW (φ := fun W => W.heap[k]? = some (.cells #[.int .i64 x.fDay, .string x.fWhat, .int .i64 x.fValue] 38 (0, 0)) ∧ PS w W g (m + 100 + 40 * j + 20) ∧ Own Entry.cells 38 3 W w.heap.size u5 p a) ⟨by rw [hk]; exact heap_alloc_new w2 _, hD.out.alloc _, ⟨hO.out.1, hO.out.2.alloc _⟩⟩ ?_
      rintro W3 ⟨hk3, hd3, ho3⟩
      have hK := hide hk3
      replace hD := hide hd3
      replace hO := hide ho3
      clear hk3 hd3 ho3 hk
      obtain ⟨c0, c1, c2, cf⟩ := brow3 hK.out
      have hV := hide (sEntry_any k 0 x W3 hxf c0 c1 c2)
      cases hok : x.ok
      · rw [hok] at hV
        go_wp2_with (first | (go_at_call 21; refine hV.out.mono ?_; rintro e w' ⟨rfl, rfl⟩) | fail)
        go_roundw
        case rel => exact ⟨j + 1, p, a, by omega, by omega, by rw [hLL.out], by go_num, ⟨hD.out.1, hD.out.2.1, hD.out.2.2.more (by omega)⟩, hO.out, hF.out⟩
        case measure => simp [intOf]; omega
      · rw [hok] at hV
        by_cases hday : L ≤ x.fDay
        · have hnx : Hid (DE (a ++ [x])) := hide (hF.out.snoc hok (by rw [← hLL.out]; exact hday))
          have hld : Hid (lastDay (a ++ [x]) = x.fDay) := hide (lastDay_snoc a x)
          go_wp2_with (first | (go_at_call 21; refine hV.out.mono ?_; rintro e w' ⟨rfl, rfl⟩) | (at_builtin; refine wpl_app2 rfl (.tmp 28) (.tmp 30) _ rfl Tryd.underlying24 info_Ent rfl (by omega) (by omega) rfl hO.out x _ rfl rfl rfl (Entry.one1 _) (by omega) hD.out.1.size ?_; intro v2 w3 ho hg hat; have hk4 := hide ((hg.block k (Array.getElem?_eq_some_iff.1 hK.out).1 (fun he => hko.out he.symm)).trans hK.out); clear c0 c1 c2 cf; obtain ⟨c0, c1, c2, cf⟩ := brow3 hk4.out) | fail)
          replace hD := hide (hD.out.row hO.out (Nat.le_refl _) hg)
          replace hO := hide ho
          clear ho hg hat
          go_roundw
          case rel => exact ⟨j + 1, p + 1, a ++ [x], by omega, by omega, by rw [hld.out], by go_num, ⟨hD.out.1, hD.out.2.1, hD.out.2.2.more (by omega)⟩, hO.out, hnx.out⟩
          case measure => simp [intOf]; omega
        · have hday' : x.fDay < L := by omega
          clear hday
          go_wp2_with (first | (go_at_call 21; refine hV.out.mono ?_; rintro e w' ⟨rfl, rfl⟩) | fail)
          go_roundw
          case rel => exact ⟨j + 1, p, a, by omega, by omega, by rw [hLL.out], by go_num, ⟨hD.out.1, hD.out.2.1, hD.out.2.2.more (by omega)⟩, hO.out, hF.out⟩
          case measure => simp [intOf]; omega
    · have hjN : (j : Int) = N := by omega
      obtain ⟨C0, d0, hv0, hcap⟩ := hO.out.slice
      have hR0 := hO.out
      rw [hv0] at hR0
      have hV0 := hide hv0
      have hR1 := hide hR0
      clear hv0 hR0
      go_wp2
      go_ret
      exact ⟨C0, p, d0, a, by rw [← hV0.out]; rfl, hR1.out, hF.out, by omega, hcap, hD.out.1, hD.out.2.2.more (by omega)⟩
def DrewLs (w : World) (e : Ending) (w' : World) : Prop := ∃ (A : Option Addr) (n c : Nat) (l : List Entry), e = .returned (.slice A n c) ∧ Arr Entry.cells 3 w' w'.heap.size A n l ∧ DE l ∧ n ≤ 7 ∧ n ≤ c ∧ Below w.heap.size w w'
theorem a2Entries_any (w : World) (A : Option Addr) (n c : Nat) (l : List Int) (hr : Arr u8c 1 w w.heap.size A n l) (hl : byteL l) (hc : c ≤ maxLen) (hn : n ≤ c) :
    Calls Tryd.prog 6 #[.slice A n c] w fun e w' => DrewLs w e w' := by
  go_enter Tryd.func6, Tryd.ntmps6
  go_wp2_with fail
  refine (from_any _ A n c l hr hl hc hn).mono ?_
  rintro e w1 ⟨rfl, hb, hsz, hs1⟩
  have hD : Hid (DS w w1 w.heap.size 0) := hide ⟨hb, Nat.le_refl _, hs1⟩
  obtain ⟨g, hg⟩ : ∃ g, g = w.heap.size := ⟨_, rfl⟩
  rw [← hg] at hD ⊢
  have hgw : Hid (w.heap.size ≤ g) := hide (Nat.le_of_eq hg.symm)
  clear hb hs1 hg hsz
  go_wp2_with fail
  refine (ents27_any _ g _ hD.out.2.2 (by omega)).mono ?_
  rintro e w2 ⟨A6, p, k, q, rfl, ho, hI, hp, hk, hg, hs⟩
  have hR := hide (ho.arr Entry.len)
  replace hD := hide (hD.out.step hg hs)
  clear ho hg hs
  go_wp2
  go_ret
  exact ⟨A6, p, k, q, rfl, hR.out, hI, hp, hk, hD.out.1⟩
end Go.Proofs.YtgjhibkljpjdhaaDoor
