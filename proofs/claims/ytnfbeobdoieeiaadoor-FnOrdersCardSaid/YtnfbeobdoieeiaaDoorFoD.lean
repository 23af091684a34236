/- Contracts of the draws of FnOrders. No statement is proved here. -/
import Derived.Test.YtnfbeobdoieeiaaDoorOrZ
import Derived.Test.YtnfbeobdoieeiaaDoorApp
import Derived.Deep.RegionLaw
namespace Go.Proofs.YtnfbeobdoieeiaaDoor
open Go.ChangeShapes Go.WideShapes Go.ChangeAt Go.RowKit Go.Deep
set_option maxRecDepth 100000
theorem big_any (A : Option Addr) (n c : Nat) (w : World) : Calls Tryd.prog 4 #[.slice A n c] w fun e w' => e = .returned (.bool (decide (4096 < (n : Int)))) ∧ w = w' := by
  go_enter Tryd.func4, Tryd.ntmps4
  go_wp2
  go_ret
  exact ⟨rfl, rfl⟩
theorem fits100 {x : Order} (h : x.fWho.size ≤ 100) : x.fits := Nat.le_trans h (by unfold maxLen; omega)
def DrewOs (w : World) (e : Ending) (w' : World) : Prop := ∃ (A : Option Addr) (n c : Nat) (l : List Order), e = .returned (.slice A n c) ∧ n ≤ 100 ∧ Arr Order.cells 5 w' w'.heap.size A n l ∧ (∀ x ∈ l, x.fits) ∧ Below w.heap.size w w'
theorem drawCan_any (w : World) (A : Option Addr) (n c : Nat) (l : List Int) (hr : Arr u8c 1 w w.heap.size A n l) (hl : byteL l) (hc : c ≤ maxLen) (hn : n ≤ c) :
    Calls Tryd.prog 5 #[.slice A n c] w fun e w' => DrewOs w e w' := by
  go_enter Tryd.func5, Tryd.ntmps5
  go_wp2_with fail
  refine (from_any _ A n c l hr hl hc hn).mono ?_
  rintro e w1 ⟨rfl, hb, hsz, hs1⟩
  have hD : Hid (DS w w1 w.heap.size 0) := hide ⟨hb, Nat.le_refl _, hs1⟩
  obtain ⟨g, hg⟩ : ∃ g, g = w.heap.size := ⟨_, rfl⟩
  rw [← hg] at hD ⊢
  have hgw : Hid (w.heap.size ≤ g) := hide (Nat.le_of_eq hg.symm)
  clear hb hs1 hg hsz
  go_wp2_with fail
  refine (draw24_any _ g _ hD.out.2.2 (by omega)).mono ?_
  rintro e w2 ⟨B, k, d, q, rfl, hk, ho, hf, hg, hs⟩
  have hR := hide (ho.arr Order.len)
  replace hD := hide (hD.out.step hg hs)
  clear ho hg hs
  go_wp2
  go_ret
  exact ⟨B, k, d, q, rfl, hk, hR.out, fun x hx => fits100 (hf x hx), hD.out.1⟩
theorem box_oldO {w : World} {r : Nat} {o o' : Obj} (h : w.heap[r]? = some o) : (w.alloc o').heap[r]? = some o := keepr' h ((Below.refl _ _).alloc (Nat.le_refl _) o')
theorem own_lit (w : World) (x : Order) : Own Order.cells 35 5 (w.alloc (.cells #[.string x.fWho, .int .i64 x.fMany, .int .i64 x.fEach, .int .i64 x.fFrom, .int .i64 x.fDue] 35)) w.heap.size (.slice (some ⟨w.heap.size, 0, none⟩) 1 1) 1 [x] :=
  ⟨rfl, by simp [Order.cells], .inr ⟨w.heap.size, 1, _, rfl, Nat.le_refl _, heap_alloc_new w _, Nat.le_refl _, by unfold maxLen; omega, rfl, rfl⟩⟩
/-- Five cells written into an older block. -/
theorem five_in {w W : World} (h : Below w.heap.size w W) (r : Nat) (hr : w.heap.size ≤ r) (a b c d e : Value) : Below w.heap.size w (((((W.setCell ⟨r, 0, none⟩ a).setCell ⟨r, 1, none⟩ b).setCell ⟨r, 2, none⟩ c).setCell ⟨r, 3, none⟩ d).setCell ⟨r, 4, none⟩ e) :=
  ((((h.setCell (p := ⟨r, 0, none⟩) hr a).setCell (p := ⟨r, 1, none⟩) hr b).setCell (p := ⟨r, 2, none⟩) hr c).setCell (p := ⟨r, 3, none⟩) hr d).setCell (p := ⟨r, 4, none⟩) hr e
theorem grown_five (W : World) (r : Nat) (a b c d e : Value) : W.grownBy (((((W.setCell ⟨r, 0, none⟩ a).setCell ⟨r, 1, none⟩ b).setCell ⟨r, 2, none⟩ c).setCell ⟨r, 3, none⟩ d).setCell ⟨r, 4, none⟩ e) (some r) :=
  grown_two (grown_two (grown_two (grown_two (grown_set W r 0 a) (grown_set _ r 1 b)) (grown_set _ r 2 c)) (grown_set _ r 3 d)) (grown_set _ r 4 e)

def DrewOT (w : World) (e : Ending) (w' : World) : Prop := ∃ x : Order, e = .returned (.agg #[.string x.fWho, .int .i64 x.fMany, .int .i64 x.fEach, .int .i64 x.fFrom, .int .i64 x.fDue]) ∧ x.fits ∧ Below w.heap.size w w'
set_option maxHeartbeats 4000000 in
theorem drawText_any (w : World) (A : Option Addr) (n c : Nat) (l : List Int) (hr : Arr u8c 1 w w.heap.size A n l) (hl : byteL l) (hc : c ≤ maxLen) (hn : n ≤ c) :
    Calls Tryd.prog 16 #[.slice A n c] w fun e w' => DrewOT w e w' := by
  go_enter Tryd.func16, Tryd.ntmps16
  go_upto_region 1 with fail
  refine nameW (φ := fun W => W.heap[w.heap.size]? = some (.cells #[.string ⟨#[]⟩, .int .i64 0, .int .i64 0, .int .i64 0, .int .i64 0] 35 (0, 0)) ∧ Below w.heap.size w W ∧ w.heap.size < W.heap.size) ⟨heap_alloc_new w _, (Below.refl _ _).alloc (Nat.le_refl _) _, by simp⟩ ?_
  rintro W0 ⟨hr0, hb0, hlt0⟩
  have hR := hide hr0
  have hB0 := hide hb0
  have hrW := hr.go hb0
  obtain ⟨r, hrr⟩ : ∃ r, r = w.heap.size := ⟨_, rfl⟩
  rw [← hrr] at hR hlt0 ⊢
  have hwr : Hid (w.heap.size ≤ r) := hide (Nat.le_of_eq hrr.symm)
  have hRR := hide hrr
  clear hr0 hb0
  go_wp2_with fail
  refine (from_any _ A n c l hrW hl hc hn).mono ?_
  rintro e w1 ⟨rfl, hb, hsz, hs1⟩
  have hD : Hid (DS W0 w1 W0.heap.size 0) := hide ⟨hb, Nat.le_refl _, hs1⟩
  replace hR := hide (keepr' hR.out hb)
  obtain ⟨g, hg⟩ : ∃ g, g = W0.heap.size := ⟨_, rfl⟩
  rw [← hg] at hD ⊢
  have hrg : Hid (r ≠ g) := hide (by omega)
  have hrl : Hid (r < g) := hide (by omega)
  clear hb hs1 hg hsz hr hrr
  go_wp2_with fail
  refine (new24_any _ g _ hD.out.2.2 (by omega)).mono ?_
  rintro e w2 ⟨x, rfl, hxs, hg, hs⟩
  replace hR := hide (box_kept hR.out hg hrg.out)
  replace hD := hide (hD.out.step hg hs)
  clear hg hs
  go_upto_region 3 with fail
  obtain ⟨k, hk⟩ : ∃ k, k = w2.heap.size := ⟨_, rfl⟩
  have hkr : Hid (r ≠ k) := hide (by have := (Array.getElem?_eq_some_iff.1 hR.out).1; omega)
  have hgk : Hid (g < k) := hide (by rw [hk]; exact hD.out.2.2.lt)
  have hkw : Hid (w2.heap.size ≤ k) := hide (Nat.le_of_eq hk.symm)
  rw [← hk]
  refine nameW (φ := fun W => Own Order.cells 35 5 W k (.slice (some ⟨k, 0, none⟩) 1 1) 1 [x] ∧ PS w2 W g (0 + 20)) ⟨by rw [hk]; exact own_lit w2 x, (PS.first (hD.out.2.2.more (by omega))).alloc _⟩ ?_
  rintro W3 ⟨ho3, hp3⟩
  have hO := hide ho3
  have hP := hide hp3
  clear ho3 hp3 hk
  go_wp2_with fail
  refine (one_any _ g _ _ hP.out.2.2 (by omega)).mono ?_
  rintro e w4 ⟨b, rfl, hg, hs⟩
  replace hO := hide (hO.out.src hgk.out hg)
  replace hP := hide (hP.out.step hg hs)
  clear hg hs
  cases b
  · skip
    replace hR := hide (box_kept hR.out hP.out.1 hrg.out)
    replace hD := hide (hD.out.step hP.out.1 hP.out.2.2)
    obtain ⟨y, hy, c0, c1, c2, c3, c4, cf⟩ := own_first hO.out (by omega)
    replace hy := Option.some.inj hy
    obtain ⟨d0, d1, d2, d3, d4, df⟩ := row5' hR.out
    have hR1 := hR.out
    have hR5 := box_set (box_set (box_set (box_set (box_set hR1 0 (.string y.fWho)) 1 (.int .i64 y.fMany)) 2 (.int .i64 y.fEach)) 3 (.int .i64 y.fFrom)) 4 (.int .i64 y.fDue)
    have hBf := hide (Below.up hB0.out hD.out.1)
    have hys : y.fWho.size ≤ 100 := by rw [← hy]; exact hxs
    clear hy
    go_wp2_with fail
    obtain ⟨e0, e1, e2, e3, e4, _⟩ := row5' (u0 := .string y.fWho) (u1 := .int .i64 y.fMany) (u2 := .int .i64 y.fEach) (u3 := .int .i64 y.fFrom) (u4 := .int .i64 y.fDue) hR5
    exact bodyPost_ret (v := .agg #[.string y.fWho, .int .i64 y.fMany, .int .i64 y.fEach, .int .i64 y.fFrom, .int .i64 y.fDue]) (by simp [results, Tryd.results16, go_sem, e0, e1, e2, e3, e4]) rfl ⟨y, rfl, fits100 hys, five_in hBf.out r hwr.out _ _ _ _ _⟩
  · skip
    go_wp2_with fail
    refine (spoil24_any w2 _ g _ k k 1 1 [x] hP.out (by omega) hkw.out hO.out (by omega) (fun z hz => by rw [List.mem_singleton.1 hz]; exact hxs)).mono ?_
    rintro e w5 ⟨rfl, hp, x9, hx9, ho⟩
    replace hP := hide hp
    replace hO := hide ho
    clear hp ho
    replace hR := hide (box_kept hR.out hP.out.1 hrg.out)
    replace hD := hide (hD.out.step hP.out.1 hP.out.2.2)
    obtain ⟨y, hy, c0, c1, c2, c3, c4, cf⟩ := own_first hO.out (by omega)
    replace hy := Option.some.inj hy
    obtain ⟨d0, d1, d2, d3, d4, df⟩ := row5' hR.out
    have hR1 := hR.out
    have hR5 := box_set (box_set (box_set (box_set (box_set hR1 0 (.string y.fWho)) 1 (.int .i64 y.fMany)) 2 (.int .i64 y.fEach)) 3 (.int .i64 y.fFrom)) 4 (.int .i64 y.fDue)
    have hBf := hide (Below.up hB0.out hD.out.1)
    have hys : y.fWho.size ≤ 100 := by rw [← hy]; exact hx9
    clear hy
    go_wp2_with fail
    obtain ⟨e0, e1, e2, e3, e4, _⟩ := row5' (u0 := .string y.fWho) (u1 := .int .i64 y.fMany) (u2 := .int .i64 y.fEach) (u3 := .int .i64 y.fFrom) (u4 := .int .i64 y.fDue) hR5
    exact bodyPost_ret (v := .agg #[.string y.fWho, .int .i64 y.fMany, .int .i64 y.fEach, .int .i64 y.fFrom, .int .i64 y.fDue]) (by simp [results, Tryd.results16, go_sem, e0, e1, e2, e3, e4]) rfl ⟨y, rfl, fits100 hys, five_in hBf.out r hwr.out _ _ _ _ _⟩
def DrewTO (w : World) (e : Ending) (w' : World) : Prop := ∃ (A : Option Addr) (n c : Nat) (l : List Order) (x : Order), e = .returned (.tuple #[.slice A n c, .agg #[.string x.fWho, .int .i64 x.fMany, .int .i64 x.fEach, .int .i64 x.fFrom, .int .i64 x.fDue]]) ∧ n ≤ 100 ∧ Arr Order.cells 5 w' w'.heap.size A n l ∧ (∀ x ∈ l, x.fits) ∧ x.fits ∧ Below w.heap.size w w'
set_option maxHeartbeats 4000000 in
theorem drawTake_any (w : World) (A : Option Addr) (n c : Nat) (l : List Int) (hr : Arr u8c 1 w w.heap.size A n l) (hl : byteL l) (hc : c ≤ maxLen) (hn : n ≤ c) :
    Calls Tryd.prog 12 #[.slice A n c] w fun e w' => DrewTO w e w' := by
  go_enter Tryd.func12, Tryd.ntmps12
  go_upto_region 1 with fail
  refine nameW (φ := fun W => W.heap[w.heap.size]? = some (.cells #[.string ⟨#[]⟩, .int .i64 0, .int .i64 0, .int .i64 0, .int .i64 0] 35 (0, 0)) ∧ Below w.heap.size w W ∧ w.heap.size < W.heap.size) ⟨heap_alloc_new w _, (Below.refl _ _).alloc (Nat.le_refl _) _, by simp⟩ ?_
  rintro W0 ⟨hr0, hb0, hlt0⟩
  have hR := hide hr0
  have hB0 := hide hb0
  have hrW := hr.go hb0
  obtain ⟨r, hrr⟩ : ∃ r, r = w.heap.size := ⟨_, rfl⟩
  rw [← hrr] at hR hlt0 ⊢
  have hwr : Hid (w.heap.size ≤ r) := hide (Nat.le_of_eq hrr.symm)
  have hRR := hide hrr
  clear hr0 hb0
  go_wp2_with fail
  refine (from_any _ A n c l hrW hl hc hn).mono ?_
  rintro e w1 ⟨rfl, hb, hsz, hs1⟩
  have hD : Hid (DS W0 w1 W0.heap.size 0) := hide ⟨hb, Nat.le_refl _, hs1⟩
  replace hR := hide (keepr' hR.out hb)
  obtain ⟨g, hg⟩ : ∃ g, g = W0.heap.size := ⟨_, rfl⟩
  rw [← hg] at hD ⊢
  have hrg : Hid (r ≠ g) := hide (by omega)
  have hrl : Hid (r < g) := hide (by omega)
  clear hb hs1 hg hsz hr hrr
  go_wp2_with fail
  have hgl : Hid (g < w1.heap.size) := hide hD.out.2.2.lt
  refine (draw24_any _ g _ hD.out.2.2 (by omega)).mono ?_
  rintro e w9 ⟨B, k9, d9, q, rfl, hk9, hoq, hf, hg, hs⟩
  replace hR := hide (box_kept hR.out hg hrg.out)
  replace hD := hide (hD.out.step hg hs)
  have hQ := hide hoq
  have hF := hide hf
  clear hg hs hoq hf
  go_wp2_with fail
  refine (new24_any _ g _ hD.out.2.2 (by omega)).mono ?_
  rintro e w2 ⟨x, rfl, hxs, hg, hs⟩
  replace hR := hide (box_kept hR.out hg hrg.out)
  replace hQ := hide (hQ.out.src hgl.out hg)
  replace hD := hide (hD.out.step hg hs)
  clear hg hs
  go_upto_region 4 with fail
  obtain ⟨k, hk⟩ : ∃ k, k = w2.heap.size := ⟨_, rfl⟩
  have hkr : Hid (r ≠ k) := hide (by have := (Array.getElem?_eq_some_iff.1 hR.out).1; omega)
  have hgk : Hid (g < k) := hide (by rw [hk]; exact hD.out.2.2.lt)
  have hkw : Hid (w2.heap.size ≤ k) := hide (Nat.le_of_eq hk.symm)
  rw [← hk]
  refine nameW (φ := fun W => Own Order.cells 35 5 W k (.slice (some ⟨k, 0, none⟩) 1 1) 1 [x] ∧ PS w2 W g (0 + 2000 + 20) ∧ Own Order.cells 35 5 W w1.heap.size (.slice B k9 d9) k9 q) ⟨by rw [hk]; exact own_lit w2 x, (PS.first (hD.out.2.2.more (by omega))).alloc _, ⟨hQ.out.1, hQ.out.2.alloc _⟩⟩ ?_
  rintro W3 ⟨ho3, hp3, hq3⟩
  have hO := hide ho3
  have hP := hide hp3
  skip
  clear ho3 hp3 hq3 hk
  go_wp2_with fail
  refine (one_any _ g _ _ hP.out.2.2 (by omega)).mono ?_
  rintro e w4 ⟨b, rfl, hg, hs⟩
  replace hO := hide (hO.out.src hgk.out hg)
  replace hP := hide (hP.out.step hg hs)
  clear hg hs
  cases b
  · skip
    replace hQ := hide (hQ.out.src hgl.out hP.out.1)
    replace hR := hide (box_kept hR.out hP.out.1 hrg.out)
    replace hD := hide (hD.out.step hP.out.1 hP.out.2.2)
    go_upto_region 6 with fail
    obtain ⟨y, hy, c0, c1, c2, c3, c4, cf⟩ := own_first hO.out (by omega)
    replace hy := Option.some.inj hy
    obtain ⟨d0, d1, d2, d3, d4, df⟩ := row5' hR.out
    have hR1 := hR.out
    have hR5 := box_set (box_set (box_set (box_set (box_set hR1 0 (.string y.fWho)) 1 (.int .i64 y.fMany)) 2 (.int .i64 y.fEach)) 3 (.int .i64 y.fFrom)) 4 (.int .i64 y.fDue)
    have hBf := hide (Below.up hB0.out hD.out.1)
    have hne : (.slice B k9 d9 : Value).ownBlock ≠ some r := fun he => by have := (hQ.out.2.lt r he).1; have := hrl.out; have := hgl.out; omega
    have hQ5 := hide ((hQ.out.kept (grown_five _ r (.string y.fWho) (.int .i64 y.fMany) (.int .i64 y.fEach) (.int .i64 y.fFrom) (.int .i64 y.fDue)) (.inr hne)))
    have hys : y.fWho.size ≤ 100 := by rw [← hy]; exact hxs
    clear hy hne
    go_region
    go_wp2_with fail
    obtain ⟨e0, e1, e2, e3, e4, _⟩ := row5' (u0 := .string y.fWho) (u1 := .int .i64 y.fMany) (u2 := .int .i64 y.fEach) (u3 := .int .i64 y.fFrom) (u4 := .int .i64 y.fDue) hR5
    exact bodyPost_ret (v := .tuple #[.slice B k9 d9, .agg #[.string y.fWho, .int .i64 y.fMany, .int .i64 y.fEach, .int .i64 y.fFrom, .int .i64 y.fDue]]) (by simp [results, Tryd.results12, go_sem, e0, e1, e2, e3, e4]) rfl ⟨B, k9, d9, q, y, rfl, hk9, (hQ5.out.arr Order.len).go (below_drewN (Below.refl _ _) _), fun z hz => fits100 (hF.out z hz), fits100 hys, below_drewN (five_in hBf.out r hwr.out _ _ _ _ _) _⟩
  · skip
    go_wp2_with fail
    refine (spoil24_any w2 _ g _ k k 1 1 [x] hP.out (by omega) hkw.out hO.out (by omega) (fun z hz => by rw [List.mem_singleton.1 hz]; exact hxs)).mono ?_
    rintro e w5 ⟨rfl, hp, x9, hx9, ho⟩
    replace hP := hide hp
    replace hO := hide ho
    clear hp ho
    replace hQ := hide (hQ.out.src hgl.out hP.out.1)
    replace hR := hide (box_kept hR.out hP.out.1 hrg.out)
    replace hD := hide (hD.out.step hP.out.1 hP.out.2.2)
    go_upto_region 6 with fail
    obtain ⟨y, hy, c0, c1, c2, c3, c4, cf⟩ := own_first hO.out (by omega)
    replace hy := Option.some.inj hy
    obtain ⟨d0, d1, d2, d3, d4, df⟩ := row5' hR.out
    have hR1 := hR.out
    have hR5 := box_set (box_set (box_set (box_set (box_set hR1 0 (.string y.fWho)) 1 (.int .i64 y.fMany)) 2 (.int .i64 y.fEach)) 3 (.int .i64 y.fFrom)) 4 (.int .i64 y.fDue)
    have hBf := hide (Below.up hB0.out hD.out.1)
    have hne : (.slice B k9 d9 : Value).ownBlock ≠ some r := fun he => by have := (hQ.out.2.lt r he).1; have := hrl.out; have := hgl.out; omega
    have hQ5 := hide ((hQ.out.kept (grown_five _ r (.string y.fWho) (.int .i64 y.fMany) (.int .i64 y.fEach) (.int .i64 y.fFrom) (.int .i64 y.fDue)) (.inr hne)))
    have hys : y.fWho.size ≤ 100 := by rw [← hy]; exact hx9
    clear hy hne
    go_region
    go_wp2_with fail
    obtain ⟨e0, e1, e2, e3, e4, _⟩ := row5' (u0 := .string y.fWho) (u1 := .int .i64 y.fMany) (u2 := .int .i64 y.fEach) (u3 := .int .i64 y.fFrom) (u4 := .int .i64 y.fDue) hR5
    exact bodyPost_ret (v := .tuple #[.slice B k9 d9, .agg #[.string y.fWho, .int .i64 y.fMany, .int .i64 y.fEach, .int .i64 y.fFrom, .int .i64 y.fDue]]) (by simp [results, Tryd.results12, go_sem, e0, e1, e2, e3, e4]) rfl ⟨B, k9, d9, q, y, rfl, hk9, (hQ5.out.arr Order.len).go (below_drewN (Below.refl _ _) _), fun z hz => fits100 (hF.out z hz), fits100 hys, below_drewN (five_in hBf.out r hwr.out _ _ _ _ _) _⟩
theorem set_due {w : World} {base g3 n c : Nat} {l : List Order} {x : Order} {z : Int} (h : Own Order.cells 35 5 w base (.slice (some ⟨g3, 0, none⟩) n c) n l) (hx : l[0]? = some x) :
    Own Order.cells 35 5 (w.setCell ⟨g3, 4, none⟩ (.int .i64 z)) base (.slice (some ⟨g3, 0, none⟩) n c) n (l.set 0 ⟨x.fWho, x.fMany, x.fEach, x.fFrom, z⟩) := by
  have h2 := h.cell (k := 0) (j := 4) (x' := ⟨x.fWho, x.fMany, x.fEach, x.fFrom, z⟩) (u := .int .i64 z) Order.len hx (by omega) rfl
  rw [Nat.zero_mul, Nat.zero_add] at h2
  exact h2
theorem q_fits {q : List Order} (h : ∀ z ∈ q, z.fWho.size ≤ 100) : ∀ z ∈ q, z.fits := fun z hz => fits100 (h z hz)
theorem set_fits {q : List Order} {x : Order} {a b c d : Int} (h : ∀ z ∈ q, z.fWho.size ≤ 100) (hx : x.fWho.size ≤ 100) : ∀ y ∈ q.set 0 ⟨x.fWho, a, b, c, d⟩, y.fits := by
  intro y hy
  rcases List.mem_or_eq_of_mem_set hy with h1 | h1
  · exact fits100 (h y h1)
  · rw [h1]; exact fits100 hx
/-- The number in a cell. -/
def zv (W : World) (p : Addr) : Int := match W.cell? p with
  | some (.int _ z) => z
  | _ => 0
theorem zv_at {W : World} {base g3 n c : Nat} {l : List Order} (h : Own Order.cells 35 5 W base (.slice (some ⟨g3, 0, none⟩) n c) n l) (hn : 0 < n) : W.cell? ⟨g3, 4, none⟩ = some (.int .i64 (zv W ⟨g3, 4, none⟩)) := by
  obtain ⟨x', _, _, _, _, _, a4, _⟩ := own_first h hn
  unfold zv
  rw [a4]

def DrewSO (w : World) (e : Ending) (w' : World) : Prop := ∃ (A : Option Addr) (n c : Nat) (l : List Order) (A' : Option Addr) (n' c' : Nat) (l' : List Order), e = .returned (.tuple #[.slice A n c, .slice A' n' c']) ∧ n ≤ 100 ∧ n' ≤ 101 ∧ Arr Order.cells 5 w' w'.heap.size A n l ∧ Arr Order.cells 5 w' w'.heap.size A' n' l' ∧ (∀ x ∈ l, x.fits) ∧ (∀ x ∈ l', x.fits) ∧ Below w.heap.size w w'
set_option maxHeartbeats 4000000 in
theorem drawSame_any (w : World) (A : Option Addr) (n c : Nat) (l : List Int) (hr : Arr u8c 1 w w.heap.size A n l) (hl : byteL l) (hc : c ≤ maxLen) (hn : n ≤ c) :
    Calls Tryd.prog 15 #[.slice A n c] w fun e w' => DrewSO w e w' := by
  go_enter Tryd.func15, Tryd.ntmps15
  go_wp2_with fail
  refine (from_any _ A n c l hr hl hc hn).mono ?_
  rintro e w1 ⟨rfl, hb, hsz, hs1⟩
  have hD : Hid (DS w w1 w.heap.size 0) := hide ⟨hb, Nat.le_refl _, hs1⟩
  obtain ⟨g, hg⟩ : ∃ g, g = w.heap.size := ⟨_, rfl⟩
  rw [← hg] at hD ⊢
  have hgw : Hid (w.heap.size ≤ g) := hide (Nat.le_of_eq hg.symm)
  clear hb hs1 hg hsz
  go_wp2_with fail
  have hgl : Hid (g < w1.heap.size) := hide hD.out.2.2.lt
  refine (draw24_any _ g _ hD.out.2.2 (by omega)).mono ?_
  rintro e w9 ⟨B, n9, d9, q, rfl, hk9, hoq, hf, hg, hs⟩
  replace hD := hide (hD.out.step hg hs)
  have hQ := hide hoq
  have hF := hide hf
  have hgv : Hid (g < w9.heap.size) := hide hD.out.2.2.lt
  have hQb : Hid (∀ j, (Value.slice B n9 d9).ownBlock = some j → j < w9.heap.size) := hide (fun j hj => (hoq.2.lt j hj).2)
  clear hg hs hoq hf
  go_upto_region 4 with (at_builtin; refine wpl_appN (v := .slice (some ⟨w9.heap.size, 0, none⟩) 0 0) rfl (.tmp 11) (.tmp 12) rfl Tryd.underlying24 info_Ord rfl (by omega) (by omega) Order.len Order.one1 rfl (Own.none_made (cells := Order.cells) (e := 35) (s := 5) w9 (Nat.le_refl _)) rfl ((hQ.out.arr Order.len).below ((Below.refl _ _).alloc (Nat.le_refl _) _)) (by omega) (by simp) ?_; intro v3 w3 ho3 hg3 hat3)
  have hg93 : Below w9.heap.size w9 w3 := ((Below.refl _ _).alloc (Nat.le_refl _) _).grown hg3 (by simp) (fun j hj => by have e : (Value.slice (some ⟨w9.heap.size, 0, none⟩) 0 0).ownBlock = some w9.heap.size := rfl; rw [e] at hj; cases hj; exact Nat.le_refl _)
  replace hD := hide (hD.out.below hg93)
  replace hQ := hide (hQ.out.below hg93)
  rw [Nat.zero_add, List.nil_append] at ho3
  have hV := hide ho3
  have hsm := some_of_at hat3 rfl
  obtain ⟨g3, c3, hv3, hg3b, _, hnc3, _⟩ := hV.out.formS hsm
  subst hv3
  skip
  skip
  clear ho3 hg3 hat3 hg93 hsm
  by_cases hn0 : 0 < n9
  · have hn1 : decide ((0 : Int) < (n9 : Int)) = true := decide_eq_true (by omega)
    go_wp2_with fail
    refine (one_any _ g _ _ hD.out.2.2 (by omega)).mono ?_
    rintro e w4 ⟨b4, rfl, hg, hs⟩
    replace hQ := hide (hQ.out.src hgl.out hg)
    replace hV := hide (hV.out.src hgv.out hg)
    replace hD := hide (hD.out.step hg hs)
    clear hg hs
    cases b4
    · skip
      go_wp2_with fail
      refine (one_any _ g _ _ hD.out.2.2 (by omega)).mono ?_
      rintro e w6 ⟨b6, rfl, hg, hs⟩
      replace hQ := hide (hQ.out.src hgl.out hg)
      replace hV := hide (hV.out.src hgv.out hg)
      replace hD := hide (hD.out.step hg hs)
      clear hg hs
      cases b6
      · skip
        go_wp2
        go_ret2
        exact ⟨B, n9, d9, q, some ⟨g3, 0, none⟩, n9, c3, q, rfl, hk9, by omega, hQ.out.arr Order.len, hV.out.arr Order.len, fun z hz => fits100 (hF.out z hz), q_fits hF.out, hD.out.1⟩
      · have hVb : Hid (w9.heap.size ≤ w6.heap.size) := hide (by have h1 := (hV.out.2.lt g3 rfl).2; have h2 := (hV.out.2.lt g3 rfl).1; omega)
        go_wp2_with (at_builtin; refine wpl_app2 (v := .slice (some ⟨g3, 0, none⟩) n9 c3) rfl (.tmp 32) (.tmp 34) _ rfl Tryd.underlying24 info_Ord rfl (by omega) (by omega) rfl hV.out (⟨⟨#[]⟩, 0, 0, 0, 0⟩ : Order) _ rfl rfl rfl (Order.one1 _) (by omega) hVb.out ?_; intro v7 w7 ho7 hg7 hat7)
        replace hD := hide (hD.out.row hV.out hgv.out hg7)
        replace hQ := hide (hQ.out.kept hg7 (.inr (fun he => by have h1 := hQb.out g3 he; have h2 := (hV.out.2.lt g3 rfl).1; omega)))
        obtain ⟨A7, c7, hv7, _⟩ := ho7.slice
        subst hv7
        have hV7 := hide ho7
        clear ho7 hg7 hat7
        go_wp2
        go_ret2
        exact ⟨B, n9, d9, q, A7, n9 + 1, c7, _, rfl, hk9, by omega, hQ.out.arr Order.len, hV7.out.arr Order.len, fun z hz => fits100 (hF.out z hz), fun z hz => by rcases List.mem_append.1 hz with h | h; exact (q_fits hF.out) z h; rw [List.mem_singleton.1 h]; exact fits100 (Nat.zero_le _), hD.out.1⟩
    · go_upto_region 5 with fail
      have hdr : Below w4.heap.size w4 w4.drew := below_drewN (Below.refl _ _) 1
      replace hQ := hide (hQ.out.below hdr)
      replace hV := hide (hV.out.below hdr)
      replace hD := hide (hD.out.below hdr)
      clear hdr
      obtain ⟨x0, hx0, a0, a1, a2, a3, c4, cf⟩ := own_first hV.out hn0
      have hX := hide hx0
      have hxs : Hid (x0.fWho.size ≤ 100) := hide (hF.out x0 (List.mem_of_getElem? hx0))
      clear hx0 a0 a1 a2 a3 c4
      have c4 := zv_at hV.out hn0
      have hfz : ∀ {W : World}, Own Order.cells 35 5 W w9.heap.size (.slice (some ⟨g3, 0, none⟩) n9 c3) n9 q → ∀ j : Nat, W.frozen? ⟨g3, j, none⟩ = false := fun h j => h.2.frozenAt _
      go_region_with ((first | (refine (pick_any _ g _ _ hD.out.2.2 (by omega)).mono ?_; rintro e w5 ⟨y, rfl, y0, _, y2, hg, hs⟩; have y3 := y2 (by omega); clear y2 c4 cf; replace hQ := hide (hQ.out.src hgl.out hg); replace hV := hide (hV.out.src hgv.out hg); replace hD := hide (hD.out.step hg hs); clear hg hs; have c4 := zv_at hV.out hn0; have cf := hfz hV.out) | fail))
      all_goals have hg3g : Hid (g < g3) := hide (by have := hgv.out; omega)
      all_goals
        go_wp2_with fail
        refine (one_any _ g _ _ (hD.out.cell (k := g3) (i := 4) (u := .int .i64 _) hg3g.out).2.2 (by omega)).mono ?_
        rintro e w6 ⟨b6, rfl, hg, hs⟩
        replace hQ := hide ((hQ.out.kept (grown_set w5 g3 4 _) (.inr (fun he => by have h1 := hQb.out g3 he; have h2 := (hV.out.2.lt g3 rfl).1; omega))).src hgl.out hg)
        replace hV := hide ((set_due hV.out hX.out).src hgv.out hg)
        replace hD := hide ((hD.out.cell (k := g3) (i := 4) hg3g.out).step hg hs)
        clear hg hs c4 cf
        cases b6
        · skip
          go_wp2
          go_ret2
          exact ⟨B, n9, d9, q, some ⟨g3, 0, none⟩, n9, c3, _, rfl, hk9, by omega, hQ.out.arr Order.len, hV.out.arr Order.len, fun z hz => fits100 (hF.out z hz), set_fits hF.out hxs.out, hD.out.1⟩
        · have hVb : Hid (w9.heap.size ≤ w6.heap.size) := hide (by have h1 := (hV.out.2.lt g3 rfl).2; have h2 := (hV.out.2.lt g3 rfl).1; omega)
          go_wp2_with (at_builtin; refine wpl_app2 (v := .slice (some ⟨g3, 0, none⟩) n9 c3) rfl (.tmp 32) (.tmp 34) _ rfl Tryd.underlying24 info_Ord rfl (by omega) (by omega) rfl hV.out (⟨⟨#[]⟩, 0, 0, 0, 0⟩ : Order) _ rfl rfl rfl (Order.one1 _) (by omega) hVb.out ?_; intro v7 w7 ho7 hg7 hat7)
          replace hD := hide (hD.out.row hV.out hgv.out hg7)
          replace hQ := hide (hQ.out.kept hg7 (.inr (fun he => by have h1 := hQb.out g3 he; have h2 := (hV.out.2.lt g3 rfl).1; omega)))
          obtain ⟨A7, c7, hv7, _⟩ := ho7.slice
          subst hv7
          have hV7 := hide ho7
          clear ho7 hg7 hat7
          go_wp2
          go_ret2
          exact ⟨B, n9, d9, q, A7, n9 + 1, c7, _, rfl, hk9, by omega, hQ.out.arr Order.len, hV7.out.arr Order.len, fun z hz => fits100 (hF.out z hz), fun z hz => by rcases List.mem_append.1 hz with h | h; exact (set_fits hF.out hxs.out) z h; rw [List.mem_singleton.1 h]; exact fits100 (Nat.zero_le _), hD.out.1⟩
  · have hn1 : decide ((0 : Int) < (n9 : Int)) = false := decide_eq_false (by omega)
    go_wp2_with fail
    refine (one_any _ g _ _ hD.out.2.2 (by omega)).mono ?_
    rintro e w6 ⟨b6, rfl, hg, hs⟩
    replace hQ := hide (hQ.out.src hgl.out hg)
    replace hV := hide (hV.out.src hgv.out hg)
    replace hD := hide (hD.out.step hg hs)
    clear hg hs
    cases b6
    · skip
      go_wp2
      go_ret2
      exact ⟨B, n9, d9, q, some ⟨g3, 0, none⟩, n9, c3, q, rfl, hk9, by omega, hQ.out.arr Order.len, hV.out.arr Order.len, fun z hz => fits100 (hF.out z hz), q_fits hF.out, hD.out.1⟩
    · have hVb : Hid (w9.heap.size ≤ w6.heap.size) := hide (by have h1 := (hV.out.2.lt g3 rfl).2; have h2 := (hV.out.2.lt g3 rfl).1; omega)
      go_wp2_with (at_builtin; refine wpl_app2 (v := .slice (some ⟨g3, 0, none⟩) n9 c3) rfl (.tmp 32) (.tmp 34) _ rfl Tryd.underlying24 info_Ord rfl (by omega) (by omega) rfl hV.out (⟨⟨#[]⟩, 0, 0, 0, 0⟩ : Order) _ rfl rfl rfl (Order.one1 _) (by omega) hVb.out ?_; intro v7 w7 ho7 hg7 hat7)
      replace hD := hide (hD.out.row hV.out hgv.out hg7)
      replace hQ := hide (hQ.out.kept hg7 (.inr (fun he => by have h1 := hQb.out g3 he; have h2 := (hV.out.2.lt g3 rfl).1; omega)))
      obtain ⟨A7, c7, hv7, _⟩ := ho7.slice
      subst hv7
      have hV7 := hide ho7
      clear ho7 hg7 hat7
      go_wp2
      go_ret2
      exact ⟨B, n9, d9, q, A7, n9 + 1, c7, _, rfl, hk9, by omega, hQ.out.arr Order.len, hV7.out.arr Order.len, fun z hz => fits100 (hF.out z hz), fun z hz => by rcases List.mem_append.1 hz with h | h; exact (q_fits hF.out) z h; rw [List.mem_singleton.1 h]; exact fits100 (Nat.zero_le _), hD.out.1⟩
end Go.Proofs.YtnfbeobdoieeiaaDoor
