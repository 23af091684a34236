/- A desk copied by the laws. -/
import Derived.Test.YtceajnoppdfeaaaGreatDoorDeskZ
namespace Go.Proofs.YtceajnoppdfeaaaGreatDoor
open Go.ChangeShapes Go.WideShapes Go.ChangeAt Go.RowKit Go.Deep
set_option maxRecDepth 100000
theorem grown_cell (w : World) (g i : Nat) (u : Value) : w.grownBy (w.setCell ⟨g, i, none⟩ u) (some g) := only_setCell (only_of_below (Below.refl _ _) _) rfl u
theorem three_rows (w : World) (a b c : Array Value) (s t u : TypeId) :
    (((w.alloc (.cells a s)).alloc (.cells b t)).alloc (.cells c u)).heap[w.heap.size]? = some (.cells a s (0, 0)) ∧
    (((w.alloc (.cells a s)).alloc (.cells b t)).alloc (.cells c u)).heap[w.heap.size + 1]? = some (.cells b t (0, 0)) ∧
    (((w.alloc (.cells a s)).alloc (.cells b t)).alloc (.cells c u)).heap[w.heap.size + 1 + 1]? = some (.cells c u (0, 0)) ∧
    Below w.heap.size w (((w.alloc (.cells a s)).alloc (.cells b t)).alloc (.cells c u)) := by
  refine ⟨?_, ?_, ?_, (((Below.refl _ _).alloc (Nat.le_refl _) _).alloc (by simp) _).alloc (by simp; omega) _⟩
  · exact (Below.heap_alloc _ _ _ (by simp; omega)).trans ((Below.heap_alloc _ _ _ (by simp)).trans (heap_alloc_new w _))
  · have h := heap_alloc_new (w.alloc (.cells a s)) (.cells b t)
    simp only [World.size_alloc] at h
    exact (Below.heap_alloc _ _ _ (by simp)).trans h
  · have h := heap_alloc_new ((w.alloc (.cells a s)).alloc (.cells b t)) (.cells c u)
    simp only [World.size_alloc] at h
    exact h
theorem keepr {w w' : World} {g : Nat} {o : Obj} (h : w.heap[g]? = some o) (hb : Below w.heap.size w w') : w'.heap[g]? = some o := (hb.block g (Array.getElem?_eq_some_iff.1 h).1).trans h
theorem row5 {w : World} {u0 u1 u2 u3 u4 : Value} {t : TypeId} {g : Nat} (h : w.heap[g]? = some (.cells #[u0, u1, u2, u3, u4] t (0, 0))) :
    w.cell? ⟨g, 0, none⟩ = some u0 ∧ w.cell? ⟨g, 1, none⟩ = some u1 ∧ w.cell? ⟨g, 2, none⟩ = some u2 ∧ w.cell? ⟨g, 3, none⟩ = some u3 ∧ w.cell? ⟨g, 4, none⟩ = some u4 ∧ ∀ j : Nat, w.frozen? ⟨g, j, none⟩ = false :=
  ⟨by rw [cell_of_row _ _ _ _ _ _ h]; rfl, by rw [cell_of_row _ _ _ _ _ _ h]; rfl, by rw [cell_of_row _ _ _ _ _ _ h]; rfl, by rw [cell_of_row _ _ _ _ _ _ h]; rfl, by rw [cell_of_row _ _ _ _ _ _ h]; rfl, fun j => frozen_of_row _ _ _ _ _ h⟩
theorem Own.far {α : Type} {cells : α → List Value} {e : TypeId} {s : Nat} {w : World} {base g n c m : Nat} {l : List α} {k i : Nat} {u : Value} (hne : g ≠ k) (h : Own cells e s w base (.slice (some ⟨g, 0, none⟩) n c) m l) : Own cells e s (w.setCell ⟨k, i, none⟩ u) base (.slice (some ⟨g, 0, none⟩) n c) m l :=
  h.kept (grown_cell w k i u) (.inr (by simpa [Value.ownBlock] using hne))
theorem Below.far {B : Nat} {a w : World} {k i : Nat} {u : Value} (hk : B ≤ k) (h : Below B a w) : Below B a (w.setCell ⟨k, i, none⟩ u) := h.setCell (p := ⟨k, i, none⟩) hk u
set_option maxHeartbeats 1000000 in
theorem toDesk_any (x : DeskV) (w : World) (hx : x.good w w.heap.size) :
    Calls Tryz.prog 7 #[.agg #[.string x.fStroke, .int .i64 x.fStakes, .slice x.A x.n x.c, .slice x.A' x.n' x.c', .string x.fLog]] w fun e w' => ∃ g g', e = .returned (.agg #[.string x.fStroke, .int .i64 x.fStakes, .slice (some ⟨g, 0, none⟩) x.n x.n, .slice (some ⟨g', 0, none⟩) x.n' x.n', .string x.fLog]) ∧ DeskV.good ⟨x.fStroke, x.fStakes, some ⟨g, 0, none⟩, x.n, x.n, x.kinds, some ⟨g', 0, none⟩, x.n', x.n', x.heaps, x.fLog⟩ w' w'.heap.size ∧ Below w.heap.size w w' := by
  have hX := hide hx
  clear hx
  go_enter Tryz.func7, Tryz.ntmps7
  go_wp2_with fail
  have h3 := three_rows w #[.string x.fStroke, .int .i64 x.fStakes, .slice x.A x.n x.c, .slice x.A' x.n' x.c', .string x.fLog] #[.string ⟨#[]⟩, .int .i64 0, .slice none 0 0, .slice none 0 0, .string ⟨#[]⟩] #[.string x.fStroke, .int .i64 x.fStakes, .slice none 0 0, .slice none 0 0, .string ⟨#[]⟩] 25 31 31
  obtain ⟨W1, hW1⟩ : ∃ W1, W1 = (((w.alloc (.cells #[.string x.fStroke, .int .i64 x.fStakes, .slice x.A x.n x.c, .slice x.A' x.n' x.c', .string x.fLog] 25)).alloc (.cells #[.string ⟨#[]⟩, .int .i64 0, .slice none 0 0, .slice none 0 0, .string ⟨#[]⟩] 31)).alloc (.cells #[.string x.fStroke, .int .i64 x.fStakes, .slice none 0 0, .slice none 0 0, .string ⟨#[]⟩] 31)) := ⟨_, rfl⟩
  rw [← hW1] at h3 ⊢
  clear hW1
  obtain ⟨a0, b0, c0, hB0⟩ := h3
  have N0 := hide a0
  have N1 := hide b0
  have N2 := hide c0
  have hB := hide hB0
  clear a0 b0 c0 hB0
  refine (toKindS_any _ _ _ _ _ hX.out.nk (hX.out.kinds.go hB.out)).mono ?_
  obtain ⟨g, hg⟩ : ∃ g, g = W1.heap.size := ⟨_, rfl⟩
  have hgt : w.heap.size + 1 + 1 < W1.heap.size := (Array.getElem?_eq_some_iff.1 N2.out).1
  rintro e w2 ⟨rfl, ho, hb⟩
  replace N0 := hide (keepr N0.out hb)
  replace N1 := hide (keepr N1.out hb)
  replace N2 := hide (keepr N2.out hb)
  replace hB := hide (Below.up hB.out hb)
  have hz1 := hb.size
  rw [← hg] at ho hgt hz1 ⊢
  clear hb hg
  have hO := hide (ho.kept (grown_cell w2 (w.heap.size + 1 + 1) 2 (.slice (some ⟨g, 0, none⟩) x.n x.n)) (.inr (by simp [Value.ownBlock]; omega)))
  clear ho
  obtain ⟨a0, a1, a2, a3, a4, af⟩ := row5 N0.out
  obtain ⟨c0, c1, c2, c3, c4, cf⟩ := row5 N2.out
  have N0' := hide ((heap_setCell_other w2 ⟨w.heap.size + 1 + 1, 2, none⟩ w.heap.size (.slice (some ⟨g, 0, none⟩) x.n x.n) (by show _ ≠ _ + 1 + 1; omega)).trans N0.out)
  have N1' := hide ((heap_setCell_other w2 ⟨w.heap.size + 1 + 1, 2, none⟩ (w.heap.size + 1) (.slice (some ⟨g, 0, none⟩) x.n x.n) (by show _ ≠ _ + 1; omega)).trans N1.out)
  have N2' := hide (heap_setCell_same w2 (w.heap.size + 1 + 1) 2 _ _ (.slice (some ⟨g, 0, none⟩) x.n x.n) N2.out)
  have hB' := hide (hB.out.setCell (p := ⟨w.heap.size + 1 + 1, 2, none⟩) (by show _ ≤ _ + 1 + 1; omega) (.slice (some ⟨g, 0, none⟩) x.n x.n))
  have hz3 : w2.heap.size = (w2.setCell ⟨w.heap.size + 1 + 1, 2, none⟩ (.slice (some ⟨g, 0, none⟩) x.n x.n)).heap.size := by simp [World.setCell]
  clear N0 N1 N2 hB
  go_wp2_with fail
  clear a0 a1 a2 a3 a4 af c0 c1 c2 c3 c4 cf
  obtain ⟨W3, hW3⟩ : ∃ W3, W3 = w2.setCell ⟨w.heap.size + 1 + 1, 2, none⟩ (.slice (some ⟨g, 0, none⟩) x.n x.n) := ⟨_, rfl⟩
  rw [← hW3] at hO N0' N1' N2' hB' hz3 ⊢
  clear hW3
  refine (toHeapS_any _ _ _ _ _ hX.out.nh (hX.out.heaps.go hB'.out)).mono ?_
  obtain ⟨g', hg'⟩ : ∃ g', g' = W3.heap.size := ⟨_, rfl⟩
  rintro e w4 ⟨rfl, ho2, hb⟩
  have N0 := hide (keepr N0'.out hb)
  have N1 := hide (keepr N1'.out hb)
  have N2 : Hid (w4.heap[w.heap.size + 1 + 1]? = some (.cells #[.string x.fStroke, .int .i64 x.fStakes, .slice (some ⟨g, 0, none⟩) x.n x.n, .slice none 0 0, .string ⟨#[]⟩] 31 (0, 0))) := hide (keepr N2'.out hb)
  have hB := hide (Below.up hB'.out hb)
  replace hO := hide (hO.out.below hb)
  have hz4 := hb.size
  have hgt' : w.heap.size + 1 + 1 < g' := by omega
  rw [← hg'] at ho2 hz4 ⊢
  have hO2 := hide ho2
  clear hb hg' ho2 N0' N1' N2' hB' hz1 hz3
  obtain ⟨a0, a1, a2, a3, a4, af⟩ := row5 N0.out
  obtain ⟨b0, b1, b2, b3, b4, bf⟩ := row5 N1.out
  obtain ⟨c0, c1, c2, c3, c4, cf⟩ := row5 N2.out
  go_wp2
  refine bodyPost_ret (v := .agg #[.string x.fStroke, .int .i64 x.fStakes, .slice (some ⟨g, 0, none⟩) x.n x.n, .slice (some ⟨g', 0, none⟩) x.n' x.n', .string x.fLog]) (by simp [results, Tryz.results7, go_sem, b0, b1, b2, b3, b4]) rfl ⟨g, g', rfl, ⟨?_, ?_, hX.out.nk, hX.out.nh, hX.out.fit⟩, ?_⟩
  · exact Own.arr Kind.len (Own.far (by omega) (Own.far (by omega) (Own.far (by omega) (Own.far (by omega) (Own.far (by omega) (Own.far (by omega) (Own.far (by omega) (hO.out))))))))
  · exact Own.arr Heap.len (Own.far (by omega) (Own.far (by omega) (Own.far (by omega) (Own.far (by omega) (Own.far (by omega) (Own.far (by omega) (Own.far (by omega) (hO2.out))))))))
  · exact Below.far (by omega) (Below.far (by omega) (Below.far (by omega) (Below.far (by omega) (Below.far (by omega) (Below.far (by omega) (Below.far (by omega) (hB.out)))))))
end Go.Proofs.YtceajnoppdfeaaaGreatDoor
