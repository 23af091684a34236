/- A valid desk, both sides' tests. No statement is proved here. -/
import Derived.Test.YtceajnoppdfeaaaGreatDoorVdA
import Derived.Test.YtceajnoppdfeaaaGreatDoorDeskY
import Derived.Test.YtceajnoppdfeaaaGreatDoorHeapB
import Derived.Test.YtceajnoppdfeaaaGreatDoorLogI
namespace Go.Proofs.YtceajnoppdfeaaaGreatDoor
open Go.ChangeShapes Go.WideShapes Go.ChangeAt Go.RowKit Go.Deep
set_option maxRecDepth 100000
def deskOk (x : DeskV) : Bool := strokeOk x.fStroke && inB x.fStakes 3 60 && kindsOk x.kinds && heapsOk x.heaps && decide (lcode x.fLog = 0)
theorem nameW' {P : Program} {co : Code} {K : Exit → Act → World → Prop} {a : Act} {W : World} {φ : World → Prop} (h : φ W) (k : ∀ W1, φ W1 → Code.wp P co K a W1) : Code.wp P co K a W := k W h
set_option maxHeartbeats 2000000 in
theorem iValid_any (x : DeskV) (w : World) (hG : Gl w) (hx : x.good w w.heap.size) (hs0 : x.fStroke.size ≤ maxLen) :
    Calls Tryz.prog 8 #[.agg #[.string x.fStroke, .int .i64 x.fStakes, .slice x.A x.n x.c, .slice x.A' x.n' x.c', .string x.fLog]] w fun e w' => e = .returned (.bool (deskOk x)) ∧ Below w.heap.size w w' := by
  have hGh := hide hG
  clear hG
  go_enter Tryz.func8, Tryz.ntmps8
  go_upto_region 1 with fail
  refine nameW' (φ := fun W => W.heap[w.heap.size]? = some (.cells #[.string x.fStroke, .int .i64 x.fStakes, .slice x.A x.n x.c, .slice x.A' x.n' x.c', .string x.fLog] 31 (0, 0)) ∧ x.good W W.heap.size ∧ Below w.heap.size w W) ⟨heap_alloc_new w _, hx.go ((Below.refl _ _).alloc (Nat.le_refl _) _), (Below.refl _ _).alloc (Nat.le_refl _) _⟩ ?_
  rintro W0 ⟨n0, n1, n2⟩
  have hK := hide n0
  have hX := hide n1
  have hB := hide n2
  clear n0 n1 n2 hx
  obtain ⟨k, hk⟩ : ∃ k, k = w.heap.size := ⟨_, rfl⟩
  rw [← hk] at hK ⊢
  have hkk := hide hk
  clear hk
  obtain ⟨c0, c1, c2, c3, c4, cf⟩ := row5 hK.out
  cases k0 : strokeOk x.fStroke
  · skip
    have ck : Hid (deskOk x = false) := hide (by simp [deskOk, k0])
    go_wp2_with (first | (go_at_call 17; refine (iStroke_any _ _ hs0).mono ?_; rintro e w1 ⟨rfl, hb⟩; replace hB := hide (Below.up hB.out hb); replace hK := hide (keepr hK.out hb); replace hX := hide (hX.out.go hb); clear hb c0 c1 c2 c3 c4 cf; obtain ⟨c0, c1, c2, c3, c4, cf⟩ := row5 hK.out) | (go_at_call 18; refine (iStakes_any _ _).mono ?_; rintro e w' ⟨rfl, rfl⟩) | (go_at_call 19; refine (iKinds_any _ _ _ _ _ hX.out.nk hX.out.kinds).mono ?_; rintro e w1 ⟨rfl, hb⟩; replace hB := hide (Below.up hB.out hb); replace hK := hide (keepr hK.out hb); replace hX := hide (hX.out.go hb); clear hb c0 c1 c2 c3 c4 cf; obtain ⟨c0, c1, c2, c3, c4, cf⟩ := row5 hK.out) | (go_at_call 20; refine (iHeaps_any _ _ _ _ _ hX.out.nh hX.out.fit hX.out.heaps).mono ?_; rintro e w1 ⟨rfl, hb⟩; replace hB := hide (Below.up hB.out hb); replace hK := hide (keepr hK.out hb); replace hX := hide (hX.out.go hb); clear hb c0 c1 c2 c3 c4 cf; obtain ⟨c0, c1, c2, c3, c4, cf⟩ := row5 hK.out) | (go_at_call 21; refine (iCode_any _ _ (hGh.out.below hB.out)).mono ?_; rintro e w1 ⟨rfl, hb⟩; replace hB := hide (Below.up hB.out hb); replace hK := hide (keepr hK.out hb); replace hX := hide (hX.out.go hb); clear hb c0 c1 c2 c3 c4 cf; obtain ⟨c0, c1, c2, c3, c4, cf⟩ := row5 hK.out) | fail)
    go_ret
    exact ⟨retB ck.out.symm, hB.out⟩
  · skip
    cases k1 : inB x.fStakes 3 60
    · skip
      have ck : Hid (deskOk x = false) := hide (by simp [deskOk, k1])
      go_wp2_with (first | (go_at_call 17; refine (iStroke_any _ _ hs0).mono ?_; rintro e w1 ⟨rfl, hb⟩; replace hB := hide (Below.up hB.out hb); replace hK := hide (keepr hK.out hb); replace hX := hide (hX.out.go hb); clear hb c0 c1 c2 c3 c4 cf; obtain ⟨c0, c1, c2, c3, c4, cf⟩ := row5 hK.out) | (go_at_call 18; refine (iStakes_any _ _).mono ?_; rintro e w' ⟨rfl, rfl⟩) | (go_at_call 19; refine (iKinds_any _ _ _ _ _ hX.out.nk hX.out.kinds).mono ?_; rintro e w1 ⟨rfl, hb⟩; replace hB := hide (Below.up hB.out hb); replace hK := hide (keepr hK.out hb); replace hX := hide (hX.out.go hb); clear hb c0 c1 c2 c3 c4 cf; obtain ⟨c0, c1, c2, c3, c4, cf⟩ := row5 hK.out) | (go_at_call 20; refine (iHeaps_any _ _ _ _ _ hX.out.nh hX.out.fit hX.out.heaps).mono ?_; rintro e w1 ⟨rfl, hb⟩; replace hB := hide (Below.up hB.out hb); replace hK := hide (keepr hK.out hb); replace hX := hide (hX.out.go hb); clear hb c0 c1 c2 c3 c4 cf; obtain ⟨c0, c1, c2, c3, c4, cf⟩ := row5 hK.out) | (go_at_call 21; refine (iCode_any _ _ (hGh.out.below hB.out)).mono ?_; rintro e w1 ⟨rfl, hb⟩; replace hB := hide (Below.up hB.out hb); replace hK := hide (keepr hK.out hb); replace hX := hide (hX.out.go hb); clear hb c0 c1 c2 c3 c4 cf; obtain ⟨c0, c1, c2, c3, c4, cf⟩ := row5 hK.out) | fail)
      go_ret
      exact ⟨retB ck.out.symm, hB.out⟩
    · skip
      cases k2 : kindsOk x.kinds
      · skip
        have ck : Hid (deskOk x = false) := hide (by simp [deskOk, k2])
        go_wp2_with (first | (go_at_call 17; refine (iStroke_any _ _ hs0).mono ?_; rintro e w1 ⟨rfl, hb⟩; replace hB := hide (Below.up hB.out hb); replace hK := hide (keepr hK.out hb); replace hX := hide (hX.out.go hb); clear hb c0 c1 c2 c3 c4 cf; obtain ⟨c0, c1, c2, c3, c4, cf⟩ := row5 hK.out) | (go_at_call 18; refine (iStakes_any _ _).mono ?_; rintro e w' ⟨rfl, rfl⟩) | (go_at_call 19; refine (iKinds_any _ _ _ _ _ hX.out.nk hX.out.kinds).mono ?_; rintro e w1 ⟨rfl, hb⟩; replace hB := hide (Below.up hB.out hb); replace hK := hide (keepr hK.out hb); replace hX := hide (hX.out.go hb); clear hb c0 c1 c2 c3 c4 cf; obtain ⟨c0, c1, c2, c3, c4, cf⟩ := row5 hK.out) | (go_at_call 20; refine (iHeaps_any _ _ _ _ _ hX.out.nh hX.out.fit hX.out.heaps).mono ?_; rintro e w1 ⟨rfl, hb⟩; replace hB := hide (Below.up hB.out hb); replace hK := hide (keepr hK.out hb); replace hX := hide (hX.out.go hb); clear hb c0 c1 c2 c3 c4 cf; obtain ⟨c0, c1, c2, c3, c4, cf⟩ := row5 hK.out) | (go_at_call 21; refine (iCode_any _ _ (hGh.out.below hB.out)).mono ?_; rintro e w1 ⟨rfl, hb⟩; replace hB := hide (Below.up hB.out hb); replace hK := hide (keepr hK.out hb); replace hX := hide (hX.out.go hb); clear hb c0 c1 c2 c3 c4 cf; obtain ⟨c0, c1, c2, c3, c4, cf⟩ := row5 hK.out) | fail)
        go_ret
        exact ⟨retB ck.out.symm, hB.out⟩
      · skip
        cases k3 : heapsOk x.heaps
        · skip
          have ck : Hid (deskOk x = false) := hide (by simp [deskOk, k3])
          go_wp2_with (first | (go_at_call 17; refine (iStroke_any _ _ hs0).mono ?_; rintro e w1 ⟨rfl, hb⟩; replace hB := hide (Below.up hB.out hb); replace hK := hide (keepr hK.out hb); replace hX := hide (hX.out.go hb); clear hb c0 c1 c2 c3 c4 cf; obtain ⟨c0, c1, c2, c3, c4, cf⟩ := row5 hK.out) | (go_at_call 18; refine (iStakes_any _ _).mono ?_; rintro e w' ⟨rfl, rfl⟩) | (go_at_call 19; refine (iKinds_any _ _ _ _ _ hX.out.nk hX.out.kinds).mono ?_; rintro e w1 ⟨rfl, hb⟩; replace hB := hide (Below.up hB.out hb); replace hK := hide (keepr hK.out hb); replace hX := hide (hX.out.go hb); clear hb c0 c1 c2 c3 c4 cf; obtain ⟨c0, c1, c2, c3, c4, cf⟩ := row5 hK.out) | (go_at_call 20; refine (iHeaps_any _ _ _ _ _ hX.out.nh hX.out.fit hX.out.heaps).mono ?_; rintro e w1 ⟨rfl, hb⟩; replace hB := hide (Below.up hB.out hb); replace hK := hide (keepr hK.out hb); replace hX := hide (hX.out.go hb); clear hb c0 c1 c2 c3 c4 cf; obtain ⟨c0, c1, c2, c3, c4, cf⟩ := row5 hK.out) | (go_at_call 21; refine (iCode_any _ _ (hGh.out.below hB.out)).mono ?_; rintro e w1 ⟨rfl, hb⟩; replace hB := hide (Below.up hB.out hb); replace hK := hide (keepr hK.out hb); replace hX := hide (hX.out.go hb); clear hb c0 c1 c2 c3 c4 cf; obtain ⟨c0, c1, c2, c3, c4, cf⟩ := row5 hK.out) | fail)
          go_ret
          exact ⟨retB ck.out.symm, hB.out⟩
        · skip
          by_cases hq : lcode x.fLog = 0
          · have ck0 : deskOk x = true := by simp [deskOk, k0, k1, k2, k3, hq]
            have e5 : (lcode x.fLog == 0) = true := by rw [hq]; rfl
            clear hq
            have ck : Hid (deskOk x = true) := hide (ck0)
            go_wp2_with (first | (go_at_call 17; refine (iStroke_any _ _ hs0).mono ?_; rintro e w1 ⟨rfl, hb⟩; replace hB := hide (Below.up hB.out hb); replace hK := hide (keepr hK.out hb); replace hX := hide (hX.out.go hb); clear hb c0 c1 c2 c3 c4 cf; obtain ⟨c0, c1, c2, c3, c4, cf⟩ := row5 hK.out) | (go_at_call 18; refine (iStakes_any _ _).mono ?_; rintro e w' ⟨rfl, rfl⟩) | (go_at_call 19; refine (iKinds_any _ _ _ _ _ hX.out.nk hX.out.kinds).mono ?_; rintro e w1 ⟨rfl, hb⟩; replace hB := hide (Below.up hB.out hb); replace hK := hide (keepr hK.out hb); replace hX := hide (hX.out.go hb); clear hb c0 c1 c2 c3 c4 cf; obtain ⟨c0, c1, c2, c3, c4, cf⟩ := row5 hK.out) | (go_at_call 20; refine (iHeaps_any _ _ _ _ _ hX.out.nh hX.out.fit hX.out.heaps).mono ?_; rintro e w1 ⟨rfl, hb⟩; replace hB := hide (Below.up hB.out hb); replace hK := hide (keepr hK.out hb); replace hX := hide (hX.out.go hb); clear hb c0 c1 c2 c3 c4 cf; obtain ⟨c0, c1, c2, c3, c4, cf⟩ := row5 hK.out) | (go_at_call 21; refine (iCode_any _ _ (hGh.out.below hB.out)).mono ?_; rintro e w1 ⟨rfl, hb⟩; replace hB := hide (Below.up hB.out hb); replace hK := hide (keepr hK.out hb); replace hX := hide (hX.out.go hb); clear hb c0 c1 c2 c3 c4 cf; obtain ⟨c0, c1, c2, c3, c4, cf⟩ := row5 hK.out) | fail)
            go_ret
            exact ⟨retB ck.out.symm, hB.out⟩
          · have ck0 : deskOk x = false := by simp [deskOk, hq]
            have e5 : (lcode x.fLog == 0) = false := by simp [hq]
            clear hq
            have ck : Hid (deskOk x = false) := hide (ck0)
            go_wp2_with (first | (go_at_call 17; refine (iStroke_any _ _ hs0).mono ?_; rintro e w1 ⟨rfl, hb⟩; replace hB := hide (Below.up hB.out hb); replace hK := hide (keepr hK.out hb); replace hX := hide (hX.out.go hb); clear hb c0 c1 c2 c3 c4 cf; obtain ⟨c0, c1, c2, c3, c4, cf⟩ := row5 hK.out) | (go_at_call 18; refine (iStakes_any _ _).mono ?_; rintro e w' ⟨rfl, rfl⟩) | (go_at_call 19; refine (iKinds_any _ _ _ _ _ hX.out.nk hX.out.kinds).mono ?_; rintro e w1 ⟨rfl, hb⟩; replace hB := hide (Below.up hB.out hb); replace hK := hide (keepr hK.out hb); replace hX := hide (hX.out.go hb); clear hb c0 c1 c2 c3 c4 cf; obtain ⟨c0, c1, c2, c3, c4, cf⟩ := row5 hK.out) | (go_at_call 20; refine (iHeaps_any _ _ _ _ _ hX.out.nh hX.out.fit hX.out.heaps).mono ?_; rintro e w1 ⟨rfl, hb⟩; replace hB := hide (Below.up hB.out hb); replace hK := hide (keepr hK.out hb); replace hX := hide (hX.out.go hb); clear hb c0 c1 c2 c3 c4 cf; obtain ⟨c0, c1, c2, c3, c4, cf⟩ := row5 hK.out) | (go_at_call 21; refine (iCode_any _ _ (hGh.out.below hB.out)).mono ?_; rintro e w1 ⟨rfl, hb⟩; replace hB := hide (Below.up hB.out hb); replace hK := hide (keepr hK.out hb); replace hX := hide (hX.out.go hb); clear hb c0 c1 c2 c3 c4 cf; obtain ⟨c0, c1, c2, c3, c4, cf⟩ := row5 hK.out) | fail)
            go_ret
            exact ⟨retB ck.out.symm, hB.out⟩
set_option maxHeartbeats 2000000 in
theorem sOk_any (k : Nat) (x : DeskV) (w : World) (hk : w.heap[k]? = some (.cells #[.string x.fStroke, .int .i64 x.fStakes, .slice x.A x.n x.c, .slice x.A' x.n' x.c', .string x.fLog] 31 (0, 0))) (hx : x.good w w.heap.size) (hs0 : x.fStroke.size ≤ maxLen) :
    Calls Tryz.prog 14 #[.pointer (some ⟨k, 0, none⟩)] w fun e w' => e = .returned (.bool (deskOk x)) ∧ Below w.heap.size w w' := by
  have hK := hide hk
  have hX := hide hx
  have hB := hide (Below.refl w.heap.size w)
  clear hk hx
  obtain ⟨c0, c1, c2, c3, c4, cf⟩ := row5 hK.out
  go_enter Tryz.func14, Tryz.ntmps14
  go_wp2_with fail
  refine (sCode_any x.fLog _).mono ?_
  rintro e w1 ⟨g, rfl, _, _, hb⟩
  replace hB := hide (Below.up hB.out hb)
  replace hK := hide (keepr hK.out hb)
  replace hX := hide (hX.out.go hb)
  clear hb c0 c1 c2 c3 c4 cf
  obtain ⟨c0, c1, c2, c3, c4, cf⟩ := row5 hK.out
  cases k0 : strokeOk x.fStroke
  · skip
    have ck : Hid (deskOk x = false) := hide (by simp [deskOk, k0])
    go_wp2_with (first | (go_at_call 28; refine (sStroke_any _ _ hs0).mono ?_; rintro e w' ⟨rfl, rfl⟩) | (go_at_call 29; refine (sStakes_any _ _).mono ?_; rintro e w' ⟨rfl, rfl⟩) | (go_at_call 30; refine (sKinds_any _ _ _ _ _ hX.out.nk hX.out.kinds).mono ?_; rintro e w1 ⟨rfl, hb⟩; replace hB := hide (Below.up hB.out hb); replace hK := hide (keepr hK.out hb); replace hX := hide (hX.out.go hb); clear hb c0 c1 c2 c3 c4 cf; obtain ⟨c0, c1, c2, c3, c4, cf⟩ := row5 hK.out) | (go_at_call 31; refine (sHeaps_any _ _ _ _ _ hX.out.nh hX.out.fit hX.out.heaps).mono ?_; rintro e w1 ⟨rfl, hb⟩; replace hB := hide (Below.up hB.out hb); replace hK := hide (keepr hK.out hb); replace hX := hide (hX.out.go hb); clear hb c0 c1 c2 c3 c4 cf; obtain ⟨c0, c1, c2, c3, c4, cf⟩ := row5 hK.out) | fail)
    go_ret
    exact ⟨retB ck.out.symm, hB.out⟩
  · skip
    cases k1 : inB x.fStakes 3 60
    · skip
      have ck : Hid (deskOk x = false) := hide (by simp [deskOk, k1])
      go_wp2_with (first | (go_at_call 28; refine (sStroke_any _ _ hs0).mono ?_; rintro e w' ⟨rfl, rfl⟩) | (go_at_call 29; refine (sStakes_any _ _).mono ?_; rintro e w' ⟨rfl, rfl⟩) | (go_at_call 30; refine (sKinds_any _ _ _ _ _ hX.out.nk hX.out.kinds).mono ?_; rintro e w1 ⟨rfl, hb⟩; replace hB := hide (Below.up hB.out hb); replace hK := hide (keepr hK.out hb); replace hX := hide (hX.out.go hb); clear hb c0 c1 c2 c3 c4 cf; obtain ⟨c0, c1, c2, c3, c4, cf⟩ := row5 hK.out) | (go_at_call 31; refine (sHeaps_any _ _ _ _ _ hX.out.nh hX.out.fit hX.out.heaps).mono ?_; rintro e w1 ⟨rfl, hb⟩; replace hB := hide (Below.up hB.out hb); replace hK := hide (keepr hK.out hb); replace hX := hide (hX.out.go hb); clear hb c0 c1 c2 c3 c4 cf; obtain ⟨c0, c1, c2, c3, c4, cf⟩ := row5 hK.out) | fail)
      go_ret
      exact ⟨retB ck.out.symm, hB.out⟩
    · skip
      cases k2 : kindsOk x.kinds
      · skip
        have ck : Hid (deskOk x = false) := hide (by simp [deskOk, k2])
        go_wp2_with (first | (go_at_call 28; refine (sStroke_any _ _ hs0).mono ?_; rintro e w' ⟨rfl, rfl⟩) | (go_at_call 29; refine (sStakes_any _ _).mono ?_; rintro e w' ⟨rfl, rfl⟩) | (go_at_call 30; refine (sKinds_any _ _ _ _ _ hX.out.nk hX.out.kinds).mono ?_; rintro e w1 ⟨rfl, hb⟩; replace hB := hide (Below.up hB.out hb); replace hK := hide (keepr hK.out hb); replace hX := hide (hX.out.go hb); clear hb c0 c1 c2 c3 c4 cf; obtain ⟨c0, c1, c2, c3, c4, cf⟩ := row5 hK.out) | (go_at_call 31; refine (sHeaps_any _ _ _ _ _ hX.out.nh hX.out.fit hX.out.heaps).mono ?_; rintro e w1 ⟨rfl, hb⟩; replace hB := hide (Below.up hB.out hb); replace hK := hide (keepr hK.out hb); replace hX := hide (hX.out.go hb); clear hb c0 c1 c2 c3 c4 cf; obtain ⟨c0, c1, c2, c3, c4, cf⟩ := row5 hK.out) | fail)
        go_ret
        exact ⟨retB ck.out.symm, hB.out⟩
      · skip
        cases k3 : heapsOk x.heaps
        · skip
          have ck : Hid (deskOk x = false) := hide (by simp [deskOk, k3])
          go_wp2_with (first | (go_at_call 28; refine (sStroke_any _ _ hs0).mono ?_; rintro e w' ⟨rfl, rfl⟩) | (go_at_call 29; refine (sStakes_any _ _).mono ?_; rintro e w' ⟨rfl, rfl⟩) | (go_at_call 30; refine (sKinds_any _ _ _ _ _ hX.out.nk hX.out.kinds).mono ?_; rintro e w1 ⟨rfl, hb⟩; replace hB := hide (Below.up hB.out hb); replace hK := hide (keepr hK.out hb); replace hX := hide (hX.out.go hb); clear hb c0 c1 c2 c3 c4 cf; obtain ⟨c0, c1, c2, c3, c4, cf⟩ := row5 hK.out) | (go_at_call 31; refine (sHeaps_any _ _ _ _ _ hX.out.nh hX.out.fit hX.out.heaps).mono ?_; rintro e w1 ⟨rfl, hb⟩; replace hB := hide (Below.up hB.out hb); replace hK := hide (keepr hK.out hb); replace hX := hide (hX.out.go hb); clear hb c0 c1 c2 c3 c4 cf; obtain ⟨c0, c1, c2, c3, c4, cf⟩ := row5 hK.out) | fail)
          go_ret
          exact ⟨retB ck.out.symm, hB.out⟩
        · skip
          by_cases hq : lcode x.fLog = 0
          · have ck0 : deskOk x = true := by simp [deskOk, k0, k1, k2, k3, hq]
            have e5 : (lcode x.fLog == 0) = true := by rw [hq]; rfl
            clear hq
            have ck : Hid (deskOk x = true) := hide (ck0)
            go_wp2_with (first | (go_at_call 28; refine (sStroke_any _ _ hs0).mono ?_; rintro e w' ⟨rfl, rfl⟩) | (go_at_call 29; refine (sStakes_any _ _).mono ?_; rintro e w' ⟨rfl, rfl⟩) | (go_at_call 30; refine (sKinds_any _ _ _ _ _ hX.out.nk hX.out.kinds).mono ?_; rintro e w1 ⟨rfl, hb⟩; replace hB := hide (Below.up hB.out hb); replace hK := hide (keepr hK.out hb); replace hX := hide (hX.out.go hb); clear hb c0 c1 c2 c3 c4 cf; obtain ⟨c0, c1, c2, c3, c4, cf⟩ := row5 hK.out) | (go_at_call 31; refine (sHeaps_any _ _ _ _ _ hX.out.nh hX.out.fit hX.out.heaps).mono ?_; rintro e w1 ⟨rfl, hb⟩; replace hB := hide (Below.up hB.out hb); replace hK := hide (keepr hK.out hb); replace hX := hide (hX.out.go hb); clear hb c0 c1 c2 c3 c4 cf; obtain ⟨c0, c1, c2, c3, c4, cf⟩ := row5 hK.out) | fail)
            go_ret
            exact ⟨retB ck.out.symm, hB.out⟩
          · have ck0 : deskOk x = false := by simp [deskOk, hq]
            have e5 : (lcode x.fLog == 0) = false := by simp [hq]
            clear hq
            have ck : Hid (deskOk x = false) := hide (ck0)
            go_wp2_with (first | (go_at_call 28; refine (sStroke_any _ _ hs0).mono ?_; rintro e w' ⟨rfl, rfl⟩) | (go_at_call 29; refine (sStakes_any _ _).mono ?_; rintro e w' ⟨rfl, rfl⟩) | (go_at_call 30; refine (sKinds_any _ _ _ _ _ hX.out.nk hX.out.kinds).mono ?_; rintro e w1 ⟨rfl, hb⟩; replace hB := hide (Below.up hB.out hb); replace hK := hide (keepr hK.out hb); replace hX := hide (hX.out.go hb); clear hb c0 c1 c2 c3 c4 cf; obtain ⟨c0, c1, c2, c3, c4, cf⟩ := row5 hK.out) | (go_at_call 31; refine (sHeaps_any _ _ _ _ _ hX.out.nh hX.out.fit hX.out.heaps).mono ?_; rintro e w1 ⟨rfl, hb⟩; replace hB := hide (Below.up hB.out hb); replace hK := hide (keepr hK.out hb); replace hX := hide (hX.out.go hb); clear hb c0 c1 c2 c3 c4 cf; obtain ⟨c0, c1, c2, c3, c4, cf⟩ := row5 hK.out) | fail)
            go_ret
            exact ⟨retB ck.out.symm, hB.out⟩
theorem sValid_any (x : DeskV) (w : World) (hx : x.good w w.heap.size) (hs0 : x.fStroke.size ≤ maxLen) :
    Calls Tryz.prog 6 #[.agg #[.string x.fStroke, .int .i64 x.fStakes, .slice x.A x.n x.c, .slice x.A' x.n' x.c', .string x.fLog]] w fun e w' => e = .returned (.bool (deskOk x)) ∧ Below w.heap.size w w' := by
  go_enter Tryz.func6, Tryz.ntmps6
  go_upto_region 1 with fail
  refine nameW' (φ := fun W => W.heap[w.heap.size]? = some (.cells #[.string x.fStroke, .int .i64 x.fStakes, .slice x.A x.n x.c, .slice x.A' x.n' x.c', .string x.fLog] 31 (0, 0)) ∧ x.good W W.heap.size ∧ Below w.heap.size w W) ⟨heap_alloc_new w _, hx.go ((Below.refl _ _).alloc (Nat.le_refl _) _), (Below.refl _ _).alloc (Nat.le_refl _) _⟩ ?_
  rintro W0 ⟨n0, n1, n2⟩
  have hK := hide n0
  have hX := hide n1
  have hB := hide n2
  clear n0 n1 n2 hx
  obtain ⟨k, hk⟩ : ∃ k, k = w.heap.size := ⟨_, rfl⟩
  rw [← hk] at hK ⊢
  have hkk := hide hk
  clear hk
  go_wp2_with fail
  refine (sOk_any k x _ hK.out hX.out hs0).mono ?_
  rintro e w1 ⟨rfl, hb⟩
  replace hB := hide (Below.up hB.out hb)
  clear hb
  go_wp2
  go_ret
  exact ⟨rfl, hB.out⟩
end Go.Proofs.YtceajnoppdfeaaaGreatDoor
