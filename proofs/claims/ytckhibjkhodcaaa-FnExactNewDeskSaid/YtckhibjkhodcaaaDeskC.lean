/- The walk of the exact law of NewDesk. -/
import Derived.Test.YtckhibjkhodcaaaDeskB
namespace Go.Proofs.Ytckhibjkhodcaaa
open Go.ChangeShapes Go.WideShapes Go.ChangeAt Go.RowKit Go.Deep
set_option maxRecDepth 100000
def nd : DeskV := ⟨⟨#[70, 66]⟩, 5, none, 0, 0, [], none, 0, 0, [], ⟨#[]⟩⟩
theorem nd_good (w : World) (B : Nat) : nd.good w B := ⟨Arr.nil_ _, Arr.nil_ _, Nat.zero_le _, Nat.zero_le _, by intro h hh; cases hh⟩
theorem nd_same : nd.same nd = true := by simp [DeskV.same]
theorem eqNd_any (w : World) : Calls Try.prog 14 #[.agg #[.string ⟨#[70, 66]⟩, .int .i64 5, .slice none 0 0, .slice none 0 0, .string ⟨#[]⟩], .agg #[.string ⟨#[70, 66]⟩, .int .i64 5, .slice none 0 0, .slice none 0 0, .string ⟨#[]⟩]] w fun e w' => e = .returned (.bool true) ∧ Below w.heap.size w w' :=
  (eqDesk_any nd nd w (nd_good _ _) (nd_good _ _) (by intro h hh; cases hh) (by intro h hh; cases hh)).mono fun e w' ⟨he, hb⟩ => ⟨by rw [he, nd_same], hb⟩
theorem blk_below {w w' : World} {g : Nat} {o : Obj} (h : w.heap[g]? = some o) (hb : Below w.heap.size w w') : w'.heap[g]? = some o := (hb.block g (Array.getElem?_eq_some_iff.1 h).1).trans h
theorem iNew_any (w : World) : Calls Try.prog 13 #[] w fun e w' => e = .returned (.agg #[.string ⟨#[70, 66]⟩, .int .i64 5, .slice none 0 0, .slice none 0 0, .string ⟨#[]⟩]) ∧ Below w.heap.size w w' := by
  go_enter Try.func13, Try.ntmps13
  go_wp2
  exact bodyPost_ret (v := .agg #[.string ⟨#[70, 66]⟩, .int .i64 5, .slice none 0 0, .slice none 0 0, .string ⟨#[]⟩]) (by simp [results, Try.results13, go_sem]) rfl ⟨rfl, by go_grown⟩
theorem sl28New_any (w : World) : Calls Try.prog 27 #[] w fun e w' => e = .returned (.agg #[.string ⟨#[70, 66]⟩, .int .i64 5, .slice none 0 0, .slice none 0 0, .string ⟨#[]⟩]) ∧ Below w.heap.size w w' := by
  go_enter Try.func27, Try.ntmps27
  go_wp2
  exact bodyPost_ret (v := .agg #[.string ⟨#[70, 66]⟩, .int .i64 5, .slice none 0 0, .slice none 0 0, .string ⟨#[]⟩]) (by simp [results, Try.results27, go_sem]) rfl ⟨rfl, by go_grown⟩
theorem bcell {W w1 : World} (hb : Below W.heap.size W w1) : (∀ b o, b < W.heap.size → w1.cell? ⟨b, o, none⟩ = W.cell? ⟨b, o, none⟩) ∧ (∀ b o, b < W.heap.size → w1.frozen? ⟨b, o, none⟩ = W.frozen? ⟨b, o, none⟩) :=
  ⟨fun b o h => hb.cell (p := ⟨b, o, none⟩) h, fun b o h => hb.frozen (p := ⟨b, o, none⟩) h⟩
theorem sNew_any (w : World) : Calls Try.prog 12 #[] w fun e w' => e = .returned (.agg #[.string ⟨#[70, 66]⟩, .int .i64 5, .slice none 0 0, .slice none 0 0, .string ⟨#[]⟩]) ∧ Below w.heap.size w w' := by
  go_enter Try.func12, Try.ntmps12
  go_wp2_with fail
  refine (sl28New_any _).mono ?_
  rintro e w1 ⟨rfl, hb⟩
  obtain ⟨hc, hf⟩ := bcell hb
  have hz : w.heap.size < w1.heap.size := by have := hb.size; simp at this; omega
  have hB := hide (below_alloc2 hb)
  go_wp2
  exact bodyPost_ret (v := .agg #[.string ⟨#[70, 66]⟩, .int .i64 5, .slice none 0 0, .slice none 0 0, .string ⟨#[]⟩]) (by simp [results, Try.results12, go_sem, hc]) rfl ⟨rfl, by go_grown; exact hB.out⟩
theorem markNd_any (k : Int) (w : World) (h0 : 0 ≤ k) (h1 : k ≤ 100000000000) : Calls Try.prog 15 #[.agg #[.string ⟨#[70, 66]⟩, .int .i64 5, .slice none 0 0, .slice none 0 0, .string ⟨#[]⟩], .int .i64 k] w fun e w' => e = .returned (.int .i64 k) ∧ Below w.heap.size w w' := by
  go_enter Try.func15, Try.ntmps15
  go_wp2_with fail
  refine (markKindS_any (.slice none 0 0) 0 0 [] k _ h0 h1 (by omega) (Res.empty (Nat.zero_le _))).mono ?_
  rintro e w1 ⟨rfl, hm, _⟩
  have hw := hm.1 rfl
  subst hw
  clear hm
  have e0 : k + 2 * ((0 : Nat) : Int) = k := by simp
  rw [e0]
  go_wp2_with fail
  refine (markHeapS_any (.slice none 0 0) 0 0 [] k _ h0 h1 (by omega) (Res.empty (Nat.zero_le _))).mono ?_
  rintro e w1 ⟨rfl, hm, _⟩
  have hw := hm.1 rfl
  subst hw
  clear hm
  go_wp2
  go_ret
  exact ⟨ret1 (by simp), by go_grown⟩
theorem heldNd_any (k : Int) (w : World) (h0 : 0 ≤ k) (h1 : k ≤ 100000000000) : Calls Try.prog 16 #[.agg #[.string ⟨#[70, 66]⟩, .int .i64 5, .slice none 0 0, .slice none 0 0, .string ⟨#[]⟩], .int .i64 k] w fun e w' => e = .returned (.int .i64 k) ∧ Below w.heap.size w w' := by
  have hk : ¬ k < 0 := by omega
  go_enter Try.func16, Try.ntmps16
  go_wp2_with fail
  refine (heldKindS_any none 0 0 k _ h0 h1 (by omega) (Arr.nil_ _)).mono ?_
  rintro e w1 ⟨rfl, hb⟩
  have e0 : k + 2 * ((0 : Nat) : Int) = k := by simp
  rw [e0]
  obtain ⟨hc, hf⟩ := bcell hb
  have hz : w.heap.size < w1.heap.size := by have := hb.size; simp at this; omega
  have hB := hide (below_alloc2 hb)
  go_wp2_with fail
  refine (heldHeapS_any none 0 0 k _ h0 h1 (by omega) (Arr.nil_ _)).mono ?_
  rintro e w2 ⟨rfl, hb2⟩
  go_wp2
  go_ret
  exact ⟨ret1 (by simp), Below.up hB.out hb2⟩
set_option maxHeartbeats 1000000 in
theorem walkNewDesk (w : World) : Calls Try.prog 4 #[] w fun e w' => e = .returned (.bool true) ∧ Below w.heap.size w w' := by
  have al : ∀ (a W : World) (o : Obj), Hid (Below a.heap.size a W → Below a.heap.size a (W.alloc o)) := fun a W o => hide (fun h => h.alloc h.size o)
  go_enter Try.func4, Try.ntmps4
  go_wp2_with fail
  refine (sNew_any _).mono ?_
  rintro e w1 ⟨rfl, hb⟩
  have hB := hide hb
  clear hb
  go_wp2_with fail
  have k1 := hide (heap_alloc_new w1 (.cells #[.string ⟨#[70, 66]⟩, .int .i64 5, .slice none 0 0, .slice none 0 0, .string ⟨#[]⟩] 30))
  replace hB := hide ((al _ _ (.cells #[.string ⟨#[70, 66]⟩, .int .i64 5, .slice none 0 0, .slice none 0 0, .string ⟨#[]⟩] 30)).out hB.out)
  obtain ⟨W1, hW1⟩ : ∃ W1, W1 = w1.alloc (.cells #[.string ⟨#[70, 66]⟩, .int .i64 5, .slice none 0 0, .slice none 0 0, .string ⟨#[]⟩] 30) := ⟨_, rfl⟩
  rw [← hW1] at k1 hB ⊢
  clear hW1
  refine (iNew_any _).mono ?_
  rintro e w2 ⟨rfl, hb⟩
  replace hB := hide (Below.up hB.out hb)
  replace k1 := hide (blk_below k1.out hb)
  clear hb
  have k2 := hide (heap_alloc_new w2 (.cells #[.string ⟨#[70, 66]⟩, .int .i64 5, .slice none 0 0, .slice none 0 0, .string ⟨#[]⟩] 30))
  have hB2 := hide ((al _ _ (.cells #[.string ⟨#[70, 66]⟩, .int .i64 5, .slice none 0 0, .slice none 0 0, .string ⟨#[]⟩] 30)).out (Below.refl w2.heap.size w2))
  have k1b := hide (blk_below k1.out hB2.out)
  obtain ⟨p0, p1, p2, p3, p4⟩ := kept5 k1b.out (Below.refl _ _)
  replace hB := hide (Below.up hB.out hB2.out)
  go_wp2_with fail
  obtain ⟨W2, hW2⟩ : ∃ W2, W2 = w2.alloc (.cells #[.string ⟨#[70, 66]⟩, .int .i64 5, .slice none 0 0, .slice none 0 0, .string ⟨#[]⟩] 30) := ⟨_, rfl⟩
  rw [← hW2] at k2 k1b hB ⊢
  clear hW2 p0 p1 p2 p3 p4 hB2 k1
  refine (eqNd_any _).mono ?_
  rintro e w3 ⟨rfl, hb⟩
  replace hB := hide (Below.up hB.out hb)
  replace k1b := hide (blk_below k1b.out hb)
  replace k2 := hide (blk_below k2.out hb)
  clear hb
  obtain ⟨p0, p1, p2, p3, p4⟩ := kept5 k1b.out (Below.refl _ _)
  obtain ⟨q0, q1, q2, q3, q4⟩ := kept5 k2.out (Below.refl _ _)
  go_wp2_with fail
  clear p0 p1 p2 p3 p4 q0 q1 q2 q3 q4
  refine (markNd_any 1 _ (by omega) (by omega)).mono ?_
  rintro e w3 ⟨rfl, hb⟩
  replace hB := hide (Below.up hB.out hb)
  replace k1b := hide (blk_below k1b.out hb)
  replace k2 := hide (blk_below k2.out hb)
  clear hb
  obtain ⟨p0, p1, p2, p3, p4⟩ := kept5 k1b.out (Below.refl _ _)
  obtain ⟨q0, q1, q2, q3, q4⟩ := kept5 k2.out (Below.refl _ _)
  go_wp2_with fail
  clear p0 p1 p2 p3 p4 q0 q1 q2 q3 q4
  refine (heldNd_any 1 _ (by omega) (by omega)).mono ?_
  rintro e w3 ⟨rfl, hb⟩
  replace hB := hide (Below.up hB.out hb)
  replace k1b := hide (blk_below k1b.out hb)
  replace k2 := hide (blk_below k2.out hb)
  clear hb
  obtain ⟨p0, p1, p2, p3, p4⟩ := kept5 k1b.out (Below.refl _ _)
  obtain ⟨q0, q1, q2, q3, q4⟩ := kept5 k2.out (Below.refl _ _)
  go_wp2_with fail
  clear p0 p1 p2 p3 p4 q0 q1 q2 q3 q4
  refine (iNew_any _).mono ?_
  rintro e w4 ⟨rfl, hb⟩
  replace hB := hide (Below.up hB.out hb)
  replace k1b := hide (blk_below k1b.out hb)
  replace k2 := hide (blk_below k2.out hb)
  clear hb
  have hB3 := hide ((al _ _ (.cells #[.string ⟨#[70, 66]⟩, .int .i64 5, .slice none 0 0, .slice none 0 0, .string ⟨#[]⟩] 30)).out (Below.refl w4.heap.size w4))
  replace k1b := hide (blk_below k1b.out hB3.out)
  replace k2 := hide (blk_below k2.out hB3.out)
  replace hB := hide (Below.up hB.out hB3.out)
  obtain ⟨p0, p1, p2, p3, p4⟩ := kept5 k1b.out (Below.refl _ _)
  go_wp2_with fail
  obtain ⟨W4, hW4⟩ : ∃ W4, W4 = w4.alloc (.cells #[.string ⟨#[70, 66]⟩, .int .i64 5, .slice none 0 0, .slice none 0 0, .string ⟨#[]⟩] 30) := ⟨_, rfl⟩
  rw [← hW4] at k2 k1b hB ⊢
  clear hW4 p0 p1 p2 p3 p4 hB3
  refine (eqNd_any _).mono ?_
  rintro e w3 ⟨rfl, hb⟩
  replace hB := hide (Below.up hB.out hb)
  replace k1b := hide (blk_below k1b.out hb)
  replace k2 := hide (blk_below k2.out hb)
  clear hb
  obtain ⟨p0, p1, p2, p3, p4⟩ := kept5 k1b.out (Below.refl _ _)
  obtain ⟨q0, q1, q2, q3, q4⟩ := kept5 k2.out (Below.refl _ _)
  go_wp2_with fail
  clear p0 p1 p2 p3 p4 q0 q1 q2 q3 q4
  refine (heldNd_any 1 _ (by omega) (by omega)).mono ?_
  rintro e w3 ⟨rfl, hb⟩
  replace hB := hide (Below.up hB.out hb)
  replace k1b := hide (blk_below k1b.out hb)
  replace k2 := hide (blk_below k2.out hb)
  clear hb
  obtain ⟨p0, p1, p2, p3, p4⟩ := kept5 k1b.out (Below.refl _ _)
  obtain ⟨q0, q1, q2, q3, q4⟩ := kept5 k2.out (Below.refl _ _)
  go_wp2
  go_ret
  exact ⟨rfl, hB.out⟩
end Go.Proofs.Ytckhibjkhodcaaa
