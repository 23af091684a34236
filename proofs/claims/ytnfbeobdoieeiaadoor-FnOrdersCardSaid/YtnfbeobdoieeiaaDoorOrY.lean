/- Contracts of the drawn orders. No statement is proved here. -/
import Derived.Test.YtnfbeobdoieeiaaDoorSrt
import Derived.Test.YtnfbeobdoieeiaaDoorBox
import Derived.Test.YtnfbeobdoieeiaaDoorSOrder
namespace Go.Proofs.YtnfbeobdoieeiaaDoor
open Go.ChangeShapes Go.WideShapes Go.ChangeAt Go.RowKit Go.Deep
set_option maxRecDepth 100000
theorem box_far {w : World} {r k i : Nat} {u : Value} {o : Obj} (h : w.heap[r]? = some o) (hne : r ≠ k) : (w.setCell ⟨k, i, none⟩ u).heap[r]? = some o := box_kept h (grown_set w k i u) hne
theorem set_cell_row {w : World} {k i j : Nat} {t : TypeId} {cs : Array Value} {u v : Value} (hK : w.heap[k]? = some (.cells cs t (0, 0))) (h : (cs.setIfInBounds i u)[j]? = some v) : (w.setCell ⟨k, i, none⟩ u).cell? ⟨k, j, none⟩ = some v := by
  rw [cell_of_row _ _ _ _ _ _ (box_set hK i u)]; exact h
theorem keepr' {w w' : World} {g : Nat} {o : Obj} (h : w.heap[g]? = some o) (hb : Below w.heap.size w w') : w'.heap[g]? = some o := (hb.block g (Array.getElem?_eq_some_iff.1 h).1).trans h
theorem row5' {w : World} {u0 u1 u2 u3 u4 : Value} {t : TypeId} {g : Nat} (h : w.heap[g]? = some (.cells #[u0, u1, u2, u3, u4] t (0, 0))) :
    w.cell? ⟨g, 0, none⟩ = some u0 ∧ w.cell? ⟨g, 1, none⟩ = some u1 ∧ w.cell? ⟨g, 2, none⟩ = some u2 ∧ w.cell? ⟨g, 3, none⟩ = some u3 ∧ w.cell? ⟨g, 4, none⟩ = some u4 ∧ ∀ j : Nat, w.frozen? ⟨g, j, none⟩ = false :=
  ⟨by rw [cell_of_row _ _ _ _ _ _ h]; rfl, by rw [cell_of_row _ _ _ _ _ _ h]; rfl, by rw [cell_of_row _ _ _ _ _ _ h]; rfl, by rw [cell_of_row _ _ _ _ _ _ h]; rfl, by rw [cell_of_row _ _ _ _ _ _ h]; rfl, fun j => frozen_of_row _ _ _ _ _ h⟩
def DrewO1 (w : World) (g m : Nat) (e : Ending) (w' : World) : Prop := ∃ x : Order, e = .returned (.agg #[.string x.fWho, .int .i64 x.fMany, .int .i64 x.fEach, .int .i64 x.fFrom, .int .i64 x.fDue]) ∧ x.fWho.size ≤ 100 ∧ w.grownBy w' (some g) ∧ Src w' g m
set_option maxHeartbeats 1000000 in
theorem new24_any (w : World) (g m : Nat) (hs : Src w g m) (hm : m ≤ 900000000) :
    Calls Tryd.prog 33 #[.pointer (some ⟨g, 0, none⟩)] w fun e w' => DrewO1 w g (m + 20) e w' := by
  have hgw : Hid (g < w.heap.size) := hide hs.lt
  go_enter Tryd.func33, Tryd.ntmps33
  go_upto_region 1 with fail
  refine nameW (φ := fun W => W.heap[w.heap.size]? = some (.cells #[.string ⟨#[]⟩, .int .i64 0, .int .i64 0, .int .i64 0, .int .i64 0] 35 (0, 0)) ∧ PS w W g m) ⟨heap_alloc_new w _, (PS.first hs).alloc _⟩ ?_
  rintro W1 ⟨hr0, hd0⟩
  have hR := hide hr0
  have hD := hide hd0
  obtain ⟨r, hr⟩ : ∃ r, r = w.heap.size := ⟨_, rfl⟩
  rw [← hr] at hR ⊢
  have hrg : Hid (r ≠ g) := hide (by have := hgw.out; omega)
  have hrw : Hid (w.heap.size ≤ r) := hide (Nat.le_of_eq hr.symm)
  clear hr0 hd0 hr hs
  go_wp2_with fail
  refine (text_any _ g _ _ 4 _ [⟨#[98, 97, 107, 101, 114]⟩, ⟨#[102, 105, 115, 104, 101, 114]⟩, ⟨#[105, 110, 110, 45, 50]⟩, ⟨#[109, 105, 108, 108]⟩] (hD.out.2.2.alloc _) (by omega) (by omega) (by omega) (Nat.ne_of_gt hD.out.2.2.lt) (lit_strs _ _ _ _ _ rfl rfl)).mono ?_
  rintro e w2 ⟨who, rfl, hwho, hg0, hs⟩
  have hg := grown_two (World.grownBy_alloc _ _ _) hg0
  clear hg0
  replace hR := hide (box_kept hR.out hg hrg.out)
  replace hD := hide (hD.out.step hg hs)
  clear hg hs
  have hwho : Hid (who.size ≤ 100) := hide (by simp at hwho; rcases hwho with rfl | rfl | rfl | rfl <;> decide)
  go_wp2_with fail
  refine (pick_any _ g _ _ hD.out.2.2 (by omega)).mono ?_
  rintro e w2 ⟨many, rfl, m0, _, m2, hg, hs⟩
  replace hR := hide (box_kept hR.out hg hrg.out)
  replace hD := hide (hD.out.step hg hs)
  clear hg hs
  have m3 := m2 (by omega)
  clear m2
  have wm : IntKind.i64.wrap (1 + many) = 1 + many := IntWalk.i64_in _ (by omega)
  go_wp2_with fail
  refine (pick_any _ g _ _ (hD.out.2.2.alloc _) (by omega)).mono ?_
  rintro e w3 ⟨each, rfl, e0, _, e2, hg0, hs⟩
  have e3 := e2 (by omega)
  clear e2
  obtain ⟨k, hk⟩ : ∃ k, k = w2.heap.size := ⟨_, rfl⟩
  have hK := hide (box_new hg0 hD.out.2.2.lt)
  have hg := grown_two (World.grownBy_alloc _ _ _) hg0
  have hkg : Hid (k ≠ g) := hide (by have := hD.out.2.2.lt; omega)
  have hkr : Hid (r ≠ k) := hide (by have := (Array.getElem?_eq_some_iff.1 hR.out).1; omega)
  have hkw : Hid (w.heap.size ≤ k) := hide (by rw [hk]; exact hD.out.1.size)
  replace hR := hide (box_kept hR.out hg hrg.out)
  replace hD := hide (hD.out.step hg hs)
  rw [← hk] at hK ⊢
  clear hg0 hg hs hk
  have we : IntKind.i64.wrap (1 + each) = 1 + each := IntWalk.i64_in _ (by omega)
  obtain ⟨c0, c1, c2, c3, c4, cf⟩ := row5' hK.out
  go_upto_region 3 with fail
  refine nameW (φ := fun W => W.heap[k]? = some (.cells #[.string who, .int .i64 (1 + many), .int .i64 (1 + each), .int .i64 0, .int .i64 0] 35 (0, 0)) ∧ W.heap[r]? = some (.cells #[.string ⟨#[]⟩, .int .i64 0, .int .i64 0, .int .i64 0, .int .i64 0] 35 (0, 0)) ∧ PS w W g (m + 2 + 2 + 2)) ⟨box_set hK.out 2 (.int .i64 (1 + each)), box_far hR.out hkr.out, hD.out.cell (i := 2) (u := .int .i64 (1 + each)) hkw.out⟩ ?_
  rintro W3 ⟨hk3, hr3, hd3⟩
  clear c0 c1 c2 c3 c4 cf
  replace hK := hide hk3
  replace hR := hide hr3
  replace hD := hide hd3
  clear hk3 hr3 hd3
  go_wp2_with fail
  refine (pick_any _ g _ _ hD.out.2.2 (by omega)).mono ?_
  rintro e w2 ⟨fr, rfl, f0, _, f2, hg, hs⟩
  replace hR := hide (box_kept hR.out hg hrg.out)
  replace hK := hide (box_kept hK.out hg hkg.out)
  replace hD := hide (hD.out.step hg hs)
  clear hg hs
  have f3 := f2 (by omega)
  clear f2
  obtain ⟨c0, c1, c2, c3, c4, cf⟩ := row5' hK.out
  go_upto_region 4 with fail
  refine nameW (φ := fun W => W.heap[k]? = some (.cells #[.string who, .int .i64 (1 + many), .int .i64 (1 + each), .int .i64 fr, .int .i64 0] 35 (0, 0)) ∧ W.heap[r]? = some (.cells #[.string ⟨#[]⟩, .int .i64 0, .int .i64 0, .int .i64 0, .int .i64 0] 35 (0, 0)) ∧ PS w W g (m + 2 + 2 + 2 + 2)) ⟨box_set hK.out 3 (.int .i64 fr), box_far hR.out hkr.out, hD.out.cell (i := 3) (u := .int .i64 fr) hkw.out⟩ ?_
  rintro W3 ⟨hk3, hr3, hd3⟩
  clear c0 c1 c2 c3 c4 cf
  replace hK := hide hk3
  replace hR := hide hr3
  replace hD := hide hd3
  clear hk3 hr3 hd3
  have wf : IntKind.i64.wrap (fr + 1) = fr + 1 := IntWalk.i64_in _ (by omega)
  have hdr : Below W3.heap.size W3 W3.drew := below_drewN (Below.refl _ _) 1
  replace hK := hide (keepr' hK.out hdr)
  replace hR := hide (keepr' hR.out hdr)
  replace hD := hide (hD.out.below hdr)
  clear hdr
  obtain ⟨c0, c1, c2, c3, c4, cf⟩ := row5' hK.out
  go_region_held3 (fun w' => w'.cell? ⟨k, 3, none⟩ = some (.int .i64 fr)) (first | go_keep | exact (row5' hK.out).2.2.2.1 | exact set_cell_row hK.out rfl) (first | (go_at_call 39; refine (pick_any _ g _ _ hD.out.2.2 (by omega)).mono ?_; rintro e w2 ⟨due, rfl, d0, _, d2, hg, hs⟩; have d3 := d2 (by omega); clear d2; have wd : IntKind.i64.wrap (fr + 1 + due) = fr + 1 + due := IntWalk.i64_in _ (by omega); clear c0 c1 c2 c3 c4 cf; replace hR := hide (box_kept hR.out hg hrg.out); replace hK := hide (box_kept hK.out hg hkg.out); replace hD := hide (hD.out.step hg hs); clear hg hs; obtain ⟨c0, c1, c2, c3, c4, cf⟩ := row5' hK.out) | fail)
  clear c0 c1 c2 c3 c4 cf
  have hK1 : (w2.setCell ⟨k, 4, none⟩ (.int .i64 (fr + 1 + due))).heap[k]? = some (.cells #[.string who, .int .i64 (1 + many), .int .i64 (1 + each), .int .i64 fr, .int .i64 (fr + 1 + due)] 35 (0, 0)) := box_set hK.out 4 _
  have hR1 := box_far (i := 4) (u := .int .i64 (fr + 1 + due)) hR.out hkr.out
  have hD1 := hide (hD.out.cell (i := 4) (u := .int .i64 (fr + 1 + due)) hkw.out)
  obtain ⟨W4, hW4⟩ : ∃ W4, W4 = w2.setCell ⟨k, 4, none⟩ (.int .i64 (fr + 1 + due)) := ⟨_, rfl⟩
  rw [← hW4] at hK1 hR1 hD1 ⊢
  clear hW4
  obtain ⟨c0, c1, c2, c3, c4, cf⟩ := row5' hK1
  obtain ⟨d0, d1, d2, d3, d4, df⟩ := row5' hR1
  replace hD1 := hide (hD1.out.cell (k := r) (i := 0) (u := .string who) hrw.out)
  replace hD1 := hide (hD1.out.cell (k := r) (i := 1) (u := .int .i64 (1 + many)) hrw.out)
  replace hD1 := hide (hD1.out.cell (k := r) (i := 2) (u := .int .i64 (1 + each)) hrw.out)
  replace hD1 := hide (hD1.out.cell (k := r) (i := 3) (u := .int .i64 fr) hrw.out)
  replace hD1 := hide (hD1.out.cell (k := r) (i := 4) (u := .int .i64 (fr + 1 + due)) hrw.out)
  have hR5 := box_set (box_set (box_set (box_set (box_set hR1 0 (.string who)) 1 (.int .i64 (1 + many))) 2 (.int .i64 (1 + each))) 3 (.int .i64 fr)) 4 (.int .i64 (fr + 1 + due))
  go_wp2_with fail
  obtain ⟨e0, e1, e2, e3, e4, _⟩ := row5' (u0 := .string who) (u1 := .int .i64 (1 + many)) (u2 := .int .i64 (1 + each)) (u3 := .int .i64 fr) (u4 := .int .i64 (fr + 1 + due)) hR5
  exact bodyPost_ret (v := .agg #[.string who, .int .i64 (1 + many), .int .i64 (1 + each), .int .i64 fr, .int .i64 (fr + 1 + due)]) (by simp [results, Tryd.results33, go_sem, e0, e1, e2, e3, e4]) rfl ⟨⟨who, 1 + many, 1 + each, fr, fr + 1 + due⟩, rfl, hwho.out, hD1.out.1, hD1.out.2.2.more (by omega)⟩
end Go.Proofs.YtnfbeobdoieeiaaDoor
