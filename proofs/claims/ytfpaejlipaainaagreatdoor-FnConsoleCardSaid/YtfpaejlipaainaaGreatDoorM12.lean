/- Texts that belong together, joined: contracts and plain laws. No statement is proved here. -/
import Derived.Test.YtfpaejlipaainaaGreatDoorM02
import Derived.Test.YtfpaejlipaainaaGreatDoorM03
import Derived.Test.YtfpaejlipaainaaGreatDoorM04
import Derived.Test.YtfpaejlipaainaaGreatDoorM05
import Derived.Test.YtfpaejlipaainaaGreatDoorM08
import Derived.Test.YtfpaejlipaainaaGreatDoorM09
import Derived.Test.YtfpaejlipaainaaGreatDoorM10
import Derived.Test.YtfpaejlipaainaaGreatDoorM11
import Derived.Deep.RegionHeld3
import Derived.Lib.Join
namespace Go.Proofs.YtfpaejlipaainaaGreatDoor
open Go.ChangeShapes Go.WideShapes Go.ChangeAt Go.RowKit Go.Deep
set_option maxRecDepth 100000
def deskOk (x : DeskV) : Bool := strokeOk x.fStroke && inB x.fStakes 3 60 && kindsOk x.kinds && heapsOk x.heaps && decide (lcode x.fLog = 0)
theorem nameW' {P : Program} {co : Code} {K : Exit → Act → World → Prop} {a : Act} {W : World} {φ : World → Prop} (h : φ W) (k : ∀ W1, φ W1 → Code.wp P co K a W1) : Code.wp P co K a W := k W h
set_option maxHeartbeats 2000000 in
theorem iValid_any (x : DeskV) (w : World) (hG : Gl w) (hx : x.good w w.heap.size) (hs0 : x.fStroke.size ≤ maxLen) :
    Calls Tryz.prog 26 #[.agg #[.string x.fStroke, .int .i64 x.fStakes, .slice x.A x.n x.c, .slice x.A' x.n' x.c', .string x.fLog]] w fun e w' => e = .returned (.bool (deskOk x)) ∧ Below w.heap.size w w' := by
  have hGh := hide hG
  clear hG
  go_enter Tryz.func26, Tryz.ntmps26
  go_upto_region 1 with fail
  refine nameW' (φ := fun W => W.heap[w.heap.size]? = some (.cells #[.string x.fStroke, .int .i64 x.fStakes, .slice x.A x.n x.c, .slice x.A' x.n' x.c', .string x.fLog] 29 (0, 0)) ∧ x.good W W.heap.size ∧ Below w.heap.size w W) ⟨heap_alloc_new w _, hx.go ((Below.refl _ _).alloc (Nat.le_refl _) _), (Below.refl _ _).alloc (Nat.le_refl _) _⟩ ?_
  rintro W0 ⟨n0, n1, n2⟩
  have hK := hide n0
  have hX := hide n1
  have hB := hide n2
  clear n0 n1 n2 hx
  obtain ⟨k, hk⟩ : ∃ k, k = w.heap.size := ⟨_, rfl⟩
  rw [← hk] at hK ⊢
  have hkk := hide hk
  clear hk
  obtain ⟨c0, c1, c2, c3, c4, cf⟩ := row5 hK.out
  cases k0 : strokeOk x.fStroke
  · skip
    have ck : Hid (deskOk x = false) := hide (by simp [deskOk, k0])
    go_wp2_with (first | (go_at_call 60; refine (iStroke_any _ _ hs0).mono ?_; rintro e w1 ⟨rfl, hb⟩; replace hB := hide (Below.up hB.out hb); replace hK := hide (keepr hK.out hb); replace hX := hide (hX.out.go hb); clear hb c0 c1 c2 c3 c4 cf; obtain ⟨c0, c1, c2, c3, c4, cf⟩ := row5 hK.out) | (go_at_call 61; refine (iStakes_any _ _).mono ?_; rintro e w' ⟨rfl, rfl⟩) | (go_at_call 62; refine (iKinds_any _ _ _ _ _ hX.out.nk hX.out.kinds).mono ?_; rintro e w1 ⟨rfl, hb⟩; replace hB := hide (Below.up hB.out hb); replace hK := hide (keepr hK.out hb); replace hX := hide (hX.out.go hb); clear hb c0 c1 c2 c3 c4 cf; obtain ⟨c0, c1, c2, c3, c4, cf⟩ := row5 hK.out) | (go_at_call 63; refine (iHeaps_any _ _ _ _ _ hX.out.nh hX.out.fit hX.out.heaps).mono ?_; rintro e w1 ⟨rfl, hb⟩; replace hB := hide (Below.up hB.out hb); replace hK := hide (keepr hK.out hb); replace hX := hide (hX.out.go hb); clear hb c0 c1 c2 c3 c4 cf; obtain ⟨c0, c1, c2, c3, c4, cf⟩ := row5 hK.out) | (go_at_call 64; refine (iCode_any _ _ (hGh.out.below hB.out)).mono ?_; rintro e w1 ⟨rfl, hb⟩; replace hB := hide (Below.up hB.out hb); replace hK := hide (keepr hK.out hb); replace hX := hide (hX.out.go hb); clear hb c0 c1 c2 c3 c4 cf; obtain ⟨c0, c1, c2, c3, c4, cf⟩ := row5 hK.out) | fail)
    go_ret
    exact ⟨retB ck.out.symm, hB.out⟩
  · skip
    cases k1 : inB x.fStakes 3 60
    · skip
      have ck : Hid (deskOk x = false) := hide (by simp [deskOk, k1])
      go_wp2_with (first | (go_at_call 60; refine (iStroke_any _ _ hs0).mono ?_; rintro e w1 ⟨rfl, hb⟩; replace hB := hide (Below.up hB.out hb); replace hK := hide (keepr hK.out hb); replace hX := hide (hX.out.go hb); clear hb c0 c1 c2 c3 c4 cf; obtain ⟨c0, c1, c2, c3, c4, cf⟩ := row5 hK.out) | (go_at_call 61; refine (iStakes_any _ _).mono ?_; rintro e w' ⟨rfl, rfl⟩) | (go_at_call 62; refine (iKinds_any _ _ _ _ _ hX.out.nk hX.out.kinds).mono ?_; rintro e w1 ⟨rfl, hb⟩; replace hB := hide (Below.up hB.out hb); replace hK := hide (keepr hK.out hb); replace hX := hide (hX.out.go hb); clear hb c0 c1 c2 c3 c4 cf; obtain ⟨c0, c1, c2, c3, c4, cf⟩ := row5 hK.out) | (go_at_call 63; refine (iHeaps_any _ _ _ _ _ hX.out.nh hX.out.fit hX.out.heaps).mono ?_; rintro e w1 ⟨rfl, hb⟩; replace hB := hide (Below.up hB.out hb); replace hK := hide (keepr hK.out hb); replace hX := hide (hX.out.go hb); clear hb c0 c1 c2 c3 c4 cf; obtain ⟨c0, c1, c2, c3, c4, cf⟩ := row5 hK.out) | (go_at_call 64; refine (iCode_any _ _ (hGh.out.below hB.out)).mono ?_; rintro e w1 ⟨rfl, hb⟩; replace hB := hide (Below.up hB.out hb); replace hK := hide (keepr hK.out hb); replace hX := hide (hX.out.go hb); clear hb c0 c1 c2 c3 c4 cf; obtain ⟨c0, c1, c2, c3, c4, cf⟩ := row5 hK.out) | fail)
      go_ret
      exact ⟨retB ck.out.symm, hB.out⟩
    · skip
      cases k2 : kindsOk x.kinds
      · skip
        have ck : Hid (deskOk x = false) := hide (by simp [deskOk, k2])
        go_wp2_with (first | (go_at_call 60; refine (iStroke_any _ _ hs0).mono ?_; rintro e w1 ⟨rfl, hb⟩; replace hB := hide (Below.up hB.out hb); replace hK := hide (keepr hK.out hb); replace hX := hide (hX.out.go hb); clear hb c0 c1 c2 c3 c4 cf; obtain ⟨c0, c1, c2, c3, c4, cf⟩ := row5 hK.out) | (go_at_call 61; refine (iStakes_any _ _).mono ?_; rintro e w' ⟨rfl, rfl⟩) | (go_at_call 62; refine (iKinds_any _ _ _ _ _ hX.out.nk hX.out.kinds).mono ?_; rintro e w1 ⟨rfl, hb⟩; replace hB := hide (Below.up hB.out hb); replace hK := hide (keepr hK.out hb); replace hX := hide (hX.out.go hb); clear hb c0 c1 c2 c3 c4 cf; obtain ⟨c0, c1, c2, c3, c4, cf⟩ := row5 hK.out) | (go_at_call 63; refine (iHeaps_any _ _ _ _ _ hX.out.nh hX.out.fit hX.out.heaps).mono ?_; rintro e w1 ⟨rfl, hb⟩; replace hB := hide (Below.up hB.out hb); replace hK := hide (keepr hK.out hb); replace hX := hide (hX.out.go hb); clear hb c0 c1 c2 c3 c4 cf; obtain ⟨c0, c1, c2, c3, c4, cf⟩ := row5 hK.out) | (go_at_call 64; refine (iCode_any _ _ (hGh.out.below hB.out)).mono ?_; rintro e w1 ⟨rfl, hb⟩; replace hB := hide (Below.up hB.out hb); replace hK := hide (keepr hK.out hb); replace hX := hide (hX.out.go hb); clear hb c0 c1 c2 c3 c4 cf; obtain ⟨c0, c1, c2, c3, c4, cf⟩ := row5 hK.out) | fail)
        go_ret
        exact ⟨retB ck.out.symm, hB.out⟩
      · skip
        cases k3 : heapsOk x.heaps
        · skip
          have ck : Hid (deskOk x = false) := hide (by simp [deskOk, k3])
          go_wp2_with (first | (go_at_call 60; refine (iStroke_any _ _ hs0).mono ?_; rintro e w1 ⟨rfl, hb⟩; replace hB := hide (Below.up hB.out hb); replace hK := hide (keepr hK.out hb); replace hX := hide (hX.out.go hb); clear hb c0 c1 c2 c3 c4 cf; obtain ⟨c0, c1, c2, c3, c4, cf⟩ := row5 hK.out) | (go_at_call 61; refine (iStakes_any _ _).mono ?_; rintro e w' ⟨rfl, rfl⟩) | (go_at_call 62; refine (iKinds_any _ _ _ _ _ hX.out.nk hX.out.kinds).mono ?_; rintro e w1 ⟨rfl, hb⟩; replace hB := hide (Below.up hB.out hb); replace hK := hide (keepr hK.out hb); replace hX := hide (hX.out.go hb); clear hb c0 c1 c2 c3 c4 cf; obtain ⟨c0, c1, c2, c3, c4, cf⟩ := row5 hK.out) | (go_at_call 63; refine (iHeaps_any _ _ _ _ _ hX.out.nh hX.out.fit hX.out.heaps).mono ?_; rintro e w1 ⟨rfl, hb⟩; replace hB := hide (Below.up hB.out hb); replace hK := hide (keepr hK.out hb); replace hX := hide (hX.out.go hb); clear hb c0 c1 c2 c3 c4 cf; obtain ⟨c0, c1, c2, c3, c4, cf⟩ := row5 hK.out) | (go_at_call 64; refine (iCode_any _ _ (hGh.out.below hB.out)).mono ?_; rintro e w1 ⟨rfl, hb⟩; replace hB := hide (Below.up hB.out hb); replace hK := hide (keepr hK.out hb); replace hX := hide (hX.out.go hb); clear hb c0 c1 c2 c3 c4 cf; obtain ⟨c0, c1, c2, c3, c4, cf⟩ := row5 hK.out) | fail)
          go_ret
          exact ⟨retB ck.out.symm, hB.out⟩
        · skip
          by_cases hq : lcode x.fLog = 0
          · have ck0 : deskOk x = true := by simp [deskOk, k0, k1, k2, k3, hq]
            have e5 : (lcode x.fLog == 0) = true := by rw [hq]; rfl
            clear hq
            have ck : Hid (deskOk x = true) := hide (ck0)
            go_wp2_with (first | (go_at_call 60; refine (iStroke_any _ _ hs0).mono ?_; rintro e w1 ⟨rfl, hb⟩; replace hB := hide (Below.up hB.out hb); replace hK := hide (keepr hK.out hb); replace hX := hide (hX.out.go hb); clear hb c0 c1 c2 c3 c4 cf; obtain ⟨c0, c1, c2, c3, c4, cf⟩ := row5 hK.out) | (go_at_call 61; refine (iStakes_any _ _).mono ?_; rintro e w' ⟨rfl, rfl⟩) | (go_at_call 62; refine (iKinds_any _ _ _ _ _ hX.out.nk hX.out.kinds).mono ?_; rintro e w1 ⟨rfl, hb⟩; replace hB := hide (Below.up hB.out hb); replace hK := hide (keepr hK.out hb); replace hX := hide (hX.out.go hb); clear hb c0 c1 c2 c3 c4 cf; obtain ⟨c0, c1, c2, c3, c4, cf⟩ := row5 hK.out) | (go_at_call 63; refine (iHeaps_any _ _ _ _ _ hX.out.nh hX.out.fit hX.out.heaps).mono ?_; rintro e w1 ⟨rfl, hb⟩; replace hB := hide (Below.up hB.out hb); replace hK := hide (keepr hK.out hb); replace hX := hide (hX.out.go hb); clear hb c0 c1 c2 c3 c4 cf; obtain ⟨c0, c1, c2, c3, c4, cf⟩ := row5 hK.out) | (go_at_call 64; refine (iCode_any _ _ (hGh.out.below hB.out)).mono ?_; rintro e w1 ⟨rfl, hb⟩; replace hB := hide (Below.up hB.out hb); replace hK := hide (keepr hK.out hb); replace hX := hide (hX.out.go hb); clear hb c0 c1 c2 c3 c4 cf; obtain ⟨c0, c1, c2, c3, c4, cf⟩ := row5 hK.out) | fail)
            go_ret
            exact ⟨retB ck.out.symm, hB.out⟩
          · have ck0 : deskOk x = false := by simp [deskOk, hq]
            have e5 : (lcode x.fLog == 0) = false := by simp [hq]
            clear hq
            have ck : Hid (deskOk x = false) := hide (ck0)
            go_wp2_with (first | (go_at_call 60; refine (iStroke_any _ _ hs0).mono ?_; rintro e w1 ⟨rfl, hb⟩; replace hB := hide (Below.up hB.out hb); replace hK := hide (keepr hK.out hb); replace hX := hide (hX.out.go hb); clear hb c0 c1 c2 c3 c4 cf; obtain ⟨c0, c1, c2, c3, c4, cf⟩ := row5 hK.out) | (go_at_call 61; refine (iStakes_any _ _).mono ?_; rintro e w' ⟨rfl, rfl⟩) | (go_at_call 62; refine (iKinds_any _ _ _ _ _ hX.out.nk hX.out.kinds).mono ?_; rintro e w1 ⟨rfl, hb⟩; replace hB := hide (Below.up hB.out hb); replace hK := hide (keepr hK.out hb); replace hX := hide (hX.out.go hb); clear hb c0 c1 c2 c3 c4 cf; obtain ⟨c0, c1, c2, c3, c4, cf⟩ := row5 hK.out) | (go_at_call 63; refine (iHeaps_any _ _ _ _ _ hX.out.nh hX.out.fit hX.out.heaps).mono ?_; rintro e w1 ⟨rfl, hb⟩; replace hB := hide (Below.up hB.out hb); replace hK := hide (keepr hK.out hb); replace hX := hide (hX.out.go hb); clear hb c0 c1 c2 c3 c4 cf; obtain ⟨c0, c1, c2, c3, c4, cf⟩ := row5 hK.out) | (go_at_call 64; refine (iCode_any _ _ (hGh.out.below hB.out)).mono ?_; rintro e w1 ⟨rfl, hb⟩; replace hB := hide (Below.up hB.out hb); replace hK := hide (keepr hK.out hb); replace hX := hide (hX.out.go hb); clear hb c0 c1 c2 c3 c4 cf; obtain ⟨c0, c1, c2, c3, c4, cf⟩ := row5 hK.out) | fail)
            go_ret
            exact ⟨retB ck.out.symm, hB.out⟩
set_option maxHeartbeats 2000000 in
theorem sOk_any (k : Nat) (x : DeskV) (w : World) (hk : w.heap[k]? = some (.cells #[.string x.fStroke, .int .i64 x.fStakes, .slice x.A x.n x.c, .slice x.A' x.n' x.c', .string x.fLog] 29 (0, 0))) (hx : x.good w w.heap.size) (hs0 : x.fStroke.size ≤ maxLen) :
    Calls Tryz.prog 35 #[.pointer (some ⟨k, 0, none⟩)] w fun e w' => e = .returned (.bool (deskOk x)) ∧ Below w.heap.size w w' := by
  have hK := hide hk
  have hX := hide hx
  have hB := hide (Below.refl w.heap.size w)
  clear hk hx
  obtain ⟨c0, c1, c2, c3, c4, cf⟩ := row5 hK.out
  go_enter Tryz.func35, Tryz.ntmps35
  go_wp2_with fail
  refine (sCode_any x.fLog _).mono ?_
  rintro e w1 ⟨g, rfl, _, _, hb⟩
  replace hB := hide (Below.up hB.out hb)
  replace hK := hide (keepr hK.out hb)
  replace hX := hide (hX.out.go hb)
  clear hb c0 c1 c2 c3 c4 cf
  obtain ⟨c0, c1, c2, c3, c4, cf⟩ := row5 hK.out
  cases k0 : strokeOk x.fStroke
  · skip
    have ck : Hid (deskOk x = false) := hide (by simp [deskOk, k0])
    go_wp2_with (first | (go_at_call 82; refine (sStroke_any _ _ hs0).mono ?_; rintro e w' ⟨rfl, rfl⟩) | (go_at_call 83; refine (sStakes_any _ _).mono ?_; rintro e w' ⟨rfl, rfl⟩) | (go_at_call 84; refine (sKinds_any _ _ _ _ _ hX.out.nk hX.out.kinds).mono ?_; rintro e w1 ⟨rfl, hb⟩; replace hB := hide (Below.up hB.out hb); replace hK := hide (keepr hK.out hb); replace hX := hide (hX.out.go hb); clear hb c0 c1 c2 c3 c4 cf; obtain ⟨c0, c1, c2, c3, c4, cf⟩ := row5 hK.out) | (go_at_call 85; refine (sHeaps_any _ _ _ _ _ hX.out.nh hX.out.fit hX.out.heaps).mono ?_; rintro e w1 ⟨rfl, hb⟩; replace hB := hide (Below.up hB.out hb); replace hK := hide (keepr hK.out hb); replace hX := hide (hX.out.go hb); clear hb c0 c1 c2 c3 c4 cf; obtain ⟨c0, c1, c2, c3, c4, cf⟩ := row5 hK.out) | fail)
    go_ret
    exact ⟨retB ck.out.symm, hB.out⟩
  · skip
    cases k1 : inB x.fStakes 3 60
    · skip
      have ck : Hid (deskOk x = false) := hide (by simp [deskOk, k1])
      go_wp2_with (first | (go_at_call 82; refine (sStroke_any _ _ hs0).mono ?_; rintro e w' ⟨rfl, rfl⟩) | (go_at_call 83; refine (sStakes_any _ _).mono ?_; rintro e w' ⟨rfl, rfl⟩) | (go_at_call 84; refine (sKinds_any _ _ _ _ _ hX.out.nk hX.out.kinds).mono ?_; rintro e w1 ⟨rfl, hb⟩; replace hB := hide (Below.up hB.out hb); replace hK := hide (keepr hK.out hb); replace hX := hide (hX.out.go hb); clear hb c0 c1 c2 c3 c4 cf; obtain ⟨c0, c1, c2, c3, c4, cf⟩ := row5 hK.out) | (go_at_call 85; refine (sHeaps_any _ _ _ _ _ hX.out.nh hX.out.fit hX.out.heaps).mono ?_; rintro e w1 ⟨rfl, hb⟩; replace hB := hide (Below.up hB.out hb); replace hK := hide (keepr hK.out hb); replace hX := hide (hX.out.go hb); clear hb c0 c1 c2 c3 c4 cf; obtain ⟨c0, c1, c2, c3, c4, cf⟩ := row5 hK.out) | fail)
      go_ret
      exact ⟨retB ck.out.symm, hB.out⟩
    · skip
      cases k2 : kindsOk x.kinds
      · skip
        have ck : Hid (deskOk x = false) := hide (by simp [deskOk, k2])
        go_wp2_with (first | (go_at_call 82; refine (sStroke_any _ _ hs0).mono ?_; rintro e w' ⟨rfl, rfl⟩) | (go_at_call 83; refine (sStakes_any _ _).mono ?_; rintro e w' ⟨rfl, rfl⟩) | (go_at_call 84; refine (sKinds_any _ _ _ _ _ hX.out.nk hX.out.kinds).mono ?_; rintro e w1 ⟨rfl, hb⟩; replace hB := hide (Below.up hB.out hb); replace hK := hide (keepr hK.out hb); replace hX := hide (hX.out.go hb); clear hb c0 c1 c2 c3 c4 cf; obtain ⟨c0, c1, c2, c3, c4, cf⟩ := row5 hK.out) | (go_at_call 85; refine (sHeaps_any _ _ _ _ _ hX.out.nh hX.out.fit hX.out.heaps).mono ?_; rintro e w1 ⟨rfl, hb⟩; replace hB := hide (Below.up hB.out hb); replace hK := hide (keepr hK.out hb); replace hX := hide (hX.out.go hb); clear hb c0 c1 c2 c3 c4 cf; obtain ⟨c0, c1, c2, c3, c4, cf⟩ := row5 hK.out) | fail)
        go_ret
        exact ⟨retB ck.out.symm, hB.out⟩
      · skip
        cases k3 : heapsOk x.heaps
        · skip
          have ck : Hid (deskOk x = false) := hide (by simp [deskOk, k3])
          go_wp2_with (first | (go_at_call 82; refine (sStroke_any _ _ hs0).mono ?_; rintro e w' ⟨rfl, rfl⟩) | (go_at_call 83; refine (sStakes_any _ _).mono ?_; rintro e w' ⟨rfl, rfl⟩) | (go_at_call 84; refine (sKinds_any _ _ _ _ _ hX.out.nk hX.out.kinds).mono ?_; rintro e w1 ⟨rfl, hb⟩; replace hB := hide (Below.up hB.out hb); replace hK := hide (keepr hK.out hb); replace hX := hide (hX.out.go hb); clear hb c0 c1 c2 c3 c4 cf; obtain ⟨c0, c1, c2, c3, c4, cf⟩ := row5 hK.out) | (go_at_call 85; refine (sHeaps_any _ _ _ _ _ hX.out.nh hX.out.fit hX.out.heaps).mono ?_; rintro e w1 ⟨rfl, hb⟩; replace hB := hide (Below.up hB.out hb); replace hK := hide (keepr hK.out hb); replace hX := hide (hX.out.go hb); clear hb c0 c1 c2 c3 c4 cf; obtain ⟨c0, c1, c2, c3, c4, cf⟩ := row5 hK.out) | fail)
          go_ret
          exact ⟨retB ck.out.symm, hB.out⟩
        · skip
          by_cases hq : lcode x.fLog = 0
          · have ck0 : deskOk x = true := by simp [deskOk, k0, k1, k2, k3, hq]
            have e5 : (lcode x.fLog == 0) = true := by rw [hq]; rfl
            clear hq
            have ck : Hid (deskOk x = true) := hide (ck0)
            go_wp2_with (first | (go_at_call 82; refine (sStroke_any _ _ hs0).mono ?_; rintro e w' ⟨rfl, rfl⟩) | (go_at_call 83; refine (sStakes_any _ _).mono ?_; rintro e w' ⟨rfl, rfl⟩) | (go_at_call 84; refine (sKinds_any _ _ _ _ _ hX.out.nk hX.out.kinds).mono ?_; rintro e w1 ⟨rfl, hb⟩; replace hB := hide (Below.up hB.out hb); replace hK := hide (keepr hK.out hb); replace hX := hide (hX.out.go hb); clear hb c0 c1 c2 c3 c4 cf; obtain ⟨c0, c1, c2, c3, c4, cf⟩ := row5 hK.out) | (go_at_call 85; refine (sHeaps_any _ _ _ _ _ hX.out.nh hX.out.fit hX.out.heaps).mono ?_; rintro e w1 ⟨rfl, hb⟩; replace hB := hide (Below.up hB.out hb); replace hK := hide (keepr hK.out hb); replace hX := hide (hX.out.go hb); clear hb c0 c1 c2 c3 c4 cf; obtain ⟨c0, c1, c2, c3, c4, cf⟩ := row5 hK.out) | fail)
            go_ret
            exact ⟨retB ck.out.symm, hB.out⟩
          · have ck0 : deskOk x = false := by simp [deskOk, hq]
            have e5 : (lcode x.fLog == 0) = false := by simp [hq]
            clear hq
            have ck : Hid (deskOk x = false) := hide (ck0)
            go_wp2_with (first | (go_at_call 82; refine (sStroke_any _ _ hs0).mono ?_; rintro e w' ⟨rfl, rfl⟩) | (go_at_call 83; refine (sStakes_any _ _).mono ?_; rintro e w' ⟨rfl, rfl⟩) | (go_at_call 84; refine (sKinds_any _ _ _ _ _ hX.out.nk hX.out.kinds).mono ?_; rintro e w1 ⟨rfl, hb⟩; replace hB := hide (Below.up hB.out hb); replace hK := hide (keepr hK.out hb); replace hX := hide (hX.out.go hb); clear hb c0 c1 c2 c3 c4 cf; obtain ⟨c0, c1, c2, c3, c4, cf⟩ := row5 hK.out) | (go_at_call 85; refine (sHeaps_any _ _ _ _ _ hX.out.nh hX.out.fit hX.out.heaps).mono ?_; rintro e w1 ⟨rfl, hb⟩; replace hB := hide (Below.up hB.out hb); replace hK := hide (keepr hK.out hb); replace hX := hide (hX.out.go hb); clear hb c0 c1 c2 c3 c4 cf; obtain ⟨c0, c1, c2, c3, c4, cf⟩ := row5 hK.out) | fail)
            go_ret
            exact ⟨retB ck.out.symm, hB.out⟩
theorem sValid_any (x : DeskV) (w : World) (hx : x.good w w.heap.size) (hs0 : x.fStroke.size ≤ maxLen) :
    Calls Tryz.prog 10 #[.agg #[.string x.fStroke, .int .i64 x.fStakes, .slice x.A x.n x.c, .slice x.A' x.n' x.c', .string x.fLog]] w fun e w' => e = .returned (.bool (deskOk x)) ∧ Below w.heap.size w w' := by
  go_enter Tryz.func10, Tryz.ntmps10
  go_upto_region 1 with fail
  refine nameW' (φ := fun W => W.heap[w.heap.size]? = some (.cells #[.string x.fStroke, .int .i64 x.fStakes, .slice x.A x.n x.c, .slice x.A' x.n' x.c', .string x.fLog] 29 (0, 0)) ∧ x.good W W.heap.size ∧ Below w.heap.size w W) ⟨heap_alloc_new w _, hx.go ((Below.refl _ _).alloc (Nat.le_refl _) _), (Below.refl _ _).alloc (Nat.le_refl _) _⟩ ?_
  rintro W0 ⟨n0, n1, n2⟩
  have hK := hide n0
  have hX := hide n1
  have hB := hide n2
  clear n0 n1 n2 hx
  obtain ⟨k, hk⟩ : ∃ k, k = w.heap.size := ⟨_, rfl⟩
  rw [← hk] at hK ⊢
  have hkk := hide hk
  clear hk
  go_wp2_with fail
  refine (sOk_any k x _ hK.out hX.out hs0).mono ?_
  rintro e w1 ⟨rfl, hb⟩
  replace hB := hide (Below.up hB.out hb)
  clear hb
  go_wp2
  go_ret
  exact ⟨rfl, hB.out⟩
end Go.Proofs.YtfpaejlipaainaaGreatDoor
namespace Go.Proofs.YtfpaejlipaainaaGreatDoor
open Go.ChangeShapes Go.WideShapes Go.ChangeAt Go.RowKit Go.Deep
set_option maxRecDepth 100000
def deskB (x : DeskV) : ByteArray := (⟨#[115, 116, 114, 111, 107, 101, 32]⟩ : ByteArray) ++ x.fStroke ++ ⟨#[44, 32]⟩ ++ decB x.fStakes ++ ⟨#[32, 115, 116, 97, 107, 101, 115, 44, 32]⟩ ++ decB (x.n : Int) ++ ⟨#[32, 107, 105, 110, 100, 115, 44, 32]⟩ ++ decB (x.n' : Int) ++ ⟨#[32, 104, 101, 97, 112, 115]⟩
def mDeskT (x : DeskV) : ByteArray := if deskOk x = true then deskB x else ⟨#[]⟩
theorem stroke_size {s : ByteArray} (h : strokeOk s = true) : s.size ≤ 12 := by simp [strokeOk] at h; exact h.1.2
theorem desk_parts {x : DeskV} {w : World} {B : Nat} (hx : x.good w B) (h : deskOk x = true) : x.fStroke.size ≤ 12 ∧ (3 ≤ x.fStakes ∧ x.fStakes ≤ 60) ∧ x.n ≤ 4 ∧ x.n' ≤ 20 := by
  have hk := hx.kinds.len
  have hh := hx.heaps.len
  simp only [deskOk, Bool.and_eq_true] at h
  obtain ⟨⟨⟨⟨h1, h2⟩, h3⟩, h4⟩, _⟩ := h
  have h3' : x.kinds.length ≤ 4 := by unfold kindsOk at h3; simp at h3; exact h3.2
  have h4' : x.heaps.length ≤ 20 := by unfold heapsOk at h4; simp at h4; exact h4.2
  exact ⟨stroke_size h1, inB_true.1 h2, by omega, by omega⟩
set_option maxHeartbeats 4000000 in
theorem iDeskT_any (x : DeskV) (w : World) (hG : Gl w) (hx : x.good w w.heap.size) (hs0 : x.fStroke.size ≤ maxLen) :
    Calls Tryz.prog 11 #[.agg #[.string x.fStroke, .int .i64 x.fStakes, .slice x.A x.n x.c, .slice x.A' x.n' x.c', .string x.fLog]] w fun e w' => e = .returned (.string (mDeskT x)) ∧ Below w.heap.size w w' := by
  have hGh := hide hG
  clear hG
  have hpar := hide (fun h => desk_parts hx h)
  go_enter Tryz.func11, Tryz.ntmps11
  go_upto_region 1 with fail
  refine nameW' (φ := fun W => W.heap[w.heap.size]? = some (.cells #[.string x.fStroke, .int .i64 x.fStakes, .slice x.A x.n x.c, .slice x.A' x.n' x.c', .string x.fLog] 29 (0, 0)) ∧ x.good W W.heap.size ∧ Below w.heap.size w W) ⟨heap_alloc_new w _, hx.go ((Below.refl _ _).alloc (Nat.le_refl _) _), (Below.refl _ _).alloc (Nat.le_refl _) _⟩ ?_
  rintro W0 ⟨n0, n1, n2⟩
  have hK := hide n0
  have hX := hide n1
  have hB := hide n2
  clear n0 n1 n2 hx
  obtain ⟨k, hk⟩ : ∃ k, k = w.heap.size := ⟨_, rfl⟩
  rw [← hk] at hK ⊢
  have hkk := hide hk
  clear hk
  obtain ⟨c0, c1, c2, c3, c4, cf⟩ := row5 hK.out
  go_wp2_with fail
  refine (iValid_any x _ (hGh.out.below hB.out) hX.out hs0).mono ?_
  rintro e w1 ⟨rfl, hb⟩
  replace hB := hide (Below.up hB.out hb)
  replace hK := hide (keepr hK.out hb)
  clear hb c0 c1 c2 c3 c4 cf
  cases hok : deskOk x
  · have hm : Hid (mDeskT x = ⟨#[]⟩) := hide (by unfold mDeskT; rw [hok]; rfl)
    go_wp2
    go_ret
    exact ⟨by rw [hm.out]; rfl, hB.out⟩
  · have hm : Hid (mDeskT x = deskB x) := hide (by unfold mDeskT; rw [if_pos hok])
    obtain ⟨hs1, ⟨q0, q1⟩, q2, q3⟩ := hpar.out hok
    go_upto_region 3 with fail
    obtain ⟨W1, hW1⟩ : ∃ W1 : World, W1 = w1 := ⟨_, rfl⟩
    rw [← hW1] at hB hK ⊢
    clear hW1
    have s1 := decB_size x.fStakes (by omega) (by omega)
    have s2 := decB_size (x.n : Int) (by omega) (by omega)
    have s3 := decB_size (x.n' : Int) (by omega) (by omega)
    obtain ⟨S, hS⟩ : ∃ S, S = x.fStroke := ⟨_, rfl⟩
    obtain ⟨d1, hd1⟩ : ∃ d, d = decB x.fStakes := ⟨_, rfl⟩
    obtain ⟨d2, hd2⟩ : ∃ d, d = decB (x.n : Int) := ⟨_, rfl⟩
    obtain ⟨d3, hd3⟩ : ∃ d, d = decB (x.n' : Int) := ⟨_, rfl⟩
    have hD1 := hide hd1.symm
    have hD2 := hide hd2.symm
    have hD3 := hide hd3.symm
    rw [← hS] at hs1 hK
    rw [← hd1] at s1
    rw [← hd2] at s2
    rw [← hd3] at s3
    have hSS := hide hS
    clear hS hd1 hd2 hd3
    have l0 : (⟨#[115, 116, 114, 111, 107, 101, 32]⟩ : ByteArray).size = 7 := rfl
    have l1 : (⟨#[44, 32]⟩ : ByteArray).size = 2 := rfl
    have l2 : (⟨#[32, 115, 116, 97, 107, 101, 115, 44, 32]⟩ : ByteArray).size = 9 := rfl
    have l3 : (⟨#[32, 107, 105, 110, 100, 115, 44, 32]⟩ : ByteArray).size = 8 := rfl
    have l4 : (⟨#[32, 104, 101, 97, 112, 115]⟩ : ByteArray).size = 6 := rfl
    have z0 : (⟨#[115, 116, 114, 111, 107, 101, 32]⟩ : ByteArray).size ≤ 7 := by omega
    have j1 := cat_run ((⟨#[115, 116, 114, 111, 107, 101, 32]⟩ : ByteArray)) S (by omega)
    have z1 : ((⟨#[115, 116, 114, 111, 107, 101, 32]⟩ : ByteArray) ++ S).size ≤ 19 := by rw [ByteArray.size_append]; omega
    have j2 := cat_run ((⟨#[115, 116, 114, 111, 107, 101, 32]⟩ : ByteArray) ++ S) ⟨#[44, 32]⟩ (by omega)
    have z2 : ((⟨#[115, 116, 114, 111, 107, 101, 32]⟩ : ByteArray) ++ S ++ ⟨#[44, 32]⟩).size ≤ 21 := by rw [ByteArray.size_append]; omega
    have j3 := cat_run ((⟨#[115, 116, 114, 111, 107, 101, 32]⟩ : ByteArray) ++ S ++ ⟨#[44, 32]⟩) d1 (by omega)
    have z3 : ((⟨#[115, 116, 114, 111, 107, 101, 32]⟩ : ByteArray) ++ S ++ ⟨#[44, 32]⟩ ++ d1).size ≤ 42 := by rw [ByteArray.size_append]; omega
    have j4 := cat_run ((⟨#[115, 116, 114, 111, 107, 101, 32]⟩ : ByteArray) ++ S ++ ⟨#[44, 32]⟩ ++ d1) ⟨#[32, 115, 116, 97, 107, 101, 115, 44, 32]⟩ (by omega)
    have z4 : ((⟨#[115, 116, 114, 111, 107, 101, 32]⟩ : ByteArray) ++ S ++ ⟨#[44, 32]⟩ ++ d1 ++ ⟨#[32, 115, 116, 97, 107, 101, 115, 44, 32]⟩).size ≤ 51 := by rw [ByteArray.size_append]; omega
    have j5 := cat_run ((⟨#[115, 116, 114, 111, 107, 101, 32]⟩ : ByteArray) ++ S ++ ⟨#[44, 32]⟩ ++ d1 ++ ⟨#[32, 115, 116, 97, 107, 101, 115, 44, 32]⟩) d2 (by omega)
    have z5 : ((⟨#[115, 116, 114, 111, 107, 101, 32]⟩ : ByteArray) ++ S ++ ⟨#[44, 32]⟩ ++ d1 ++ ⟨#[32, 115, 116, 97, 107, 101, 115, 44, 32]⟩ ++ d2).size ≤ 72 := by rw [ByteArray.size_append]; omega
    have j6 := cat_run ((⟨#[115, 116, 114, 111, 107, 101, 32]⟩ : ByteArray) ++ S ++ ⟨#[44, 32]⟩ ++ d1 ++ ⟨#[32, 115, 116, 97, 107, 101, 115, 44, 32]⟩ ++ d2) ⟨#[32, 107, 105, 110, 100, 115, 44, 32]⟩ (by omega)
    have z6 : ((⟨#[115, 116, 114, 111, 107, 101, 32]⟩ : ByteArray) ++ S ++ ⟨#[44, 32]⟩ ++ d1 ++ ⟨#[32, 115, 116, 97, 107, 101, 115, 44, 32]⟩ ++ d2 ++ ⟨#[32, 107, 105, 110, 100, 115, 44, 32]⟩).size ≤ 80 := by rw [ByteArray.size_append]; omega
    have j7 := cat_run ((⟨#[115, 116, 114, 111, 107, 101, 32]⟩ : ByteArray) ++ S ++ ⟨#[44, 32]⟩ ++ d1 ++ ⟨#[32, 115, 116, 97, 107, 101, 115, 44, 32]⟩ ++ d2 ++ ⟨#[32, 107, 105, 110, 100, 115, 44, 32]⟩) d3 (by omega)
    have z7 : ((⟨#[115, 116, 114, 111, 107, 101, 32]⟩ : ByteArray) ++ S ++ ⟨#[44, 32]⟩ ++ d1 ++ ⟨#[32, 115, 116, 97, 107, 101, 115, 44, 32]⟩ ++ d2 ++ ⟨#[32, 107, 105, 110, 100, 115, 44, 32]⟩ ++ d3).size ≤ 101 := by rw [ByteArray.size_append]; omega
    have j8 := cat_run ((⟨#[115, 116, 114, 111, 107, 101, 32]⟩ : ByteArray) ++ S ++ ⟨#[44, 32]⟩ ++ d1 ++ ⟨#[32, 115, 116, 97, 107, 101, 115, 44, 32]⟩ ++ d2 ++ ⟨#[32, 107, 105, 110, 100, 115, 44, 32]⟩ ++ d3) ⟨#[32, 104, 101, 97, 112, 115]⟩ (by omega)
    have z8 : ((⟨#[115, 116, 114, 111, 107, 101, 32]⟩ : ByteArray) ++ S ++ ⟨#[44, 32]⟩ ++ d1 ++ ⟨#[32, 115, 116, 97, 107, 101, 115, 44, 32]⟩ ++ d2 ++ ⟨#[32, 107, 105, 110, 100, 115, 44, 32]⟩ ++ d3 ++ ⟨#[32, 104, 101, 97, 112, 115]⟩).size ≤ 107 := by rw [ByteArray.size_append]; omega
    clear z0 z1 z2 z3 z4 z5 z6 z7 z8
    clear l0 l1 l2 l3 l4
    have hdr : Below W1.heap.size W1 W1.drew := below_drewN (Below.refl _ _) 1
    replace hB := hide (Below.up hB.out hdr)
    replace hK := hide (keepr hK.out hdr)
    clear hdr
    obtain ⟨c0, c1, c2, c3, _, _⟩ := row5 hK.out
    go_region_held3 (fun w' => w'.cell? ⟨k, 0, none⟩ = some (.string S) ∧ w'.cell? ⟨k, 1, none⟩ = some (.int .i64 x.fStakes) ∧ w'.cell? ⟨k, 2, none⟩ = some (.slice x.A x.n x.c) ∧ w'.cell? ⟨k, 3, none⟩ = some (.slice x.A' x.n' x.c')) (first | go_keep | exact ⟨(row5 hK.out).1, (row5 hK.out).2.1, (row5 hK.out).2.2.1, (row5 hK.out).2.2.2.1⟩) (first | (go_at_call 36; (with_reducible refine (iDec_any x.fStakes _ (by omega) (by omega) (hGh.out.below hB.out)).mono ?_); rw [hD1.out]; rintro e w2 ⟨rfl, hb⟩; replace hB := hide (Below.up hB.out hb); replace hK := hide (keepr hK.out hb); clear hb c0 c1 c2 c3; obtain ⟨c0, c1, c2, c3, _, _⟩ := row5 hK.out) | (go_at_call 36; (with_reducible refine (iDec_any (x.n : Int) _ (by omega) (by omega) (hGh.out.below hB.out)).mono ?_); rw [hD2.out]; rintro e w2 ⟨rfl, hb⟩; replace hB := hide (Below.up hB.out hb); replace hK := hide (keepr hK.out hb); clear hb c0 c1 c2 c3; obtain ⟨c0, c1, c2, c3, _, _⟩ := row5 hK.out) | (go_at_call 36; (with_reducible refine (iDec_any (x.n' : Int) _ (by omega) (by omega) (hGh.out.below hB.out)).mono ?_); rw [hD3.out]; rintro e w2 ⟨rfl, hb⟩; replace hB := hide (Below.up hB.out hb); replace hK := hide (keepr hK.out hb); clear hb c0 c1 c2 c3; obtain ⟨c0, c1, c2, c3, _, _⟩ := row5 hK.out) | fail)
    all_goals go_wp2
    all_goals go_ret
    all_goals exact ⟨by rw [hm.out]; unfold deskB; rw [← hSS.out, hD1.out, hD2.out, hD3.out]; rfl, hB.out⟩
end Go.Proofs.YtfpaejlipaainaaGreatDoor
namespace Go.Proofs.YtfpaejlipaainaaGreatDoor
open Go.ChangeShapes Go.WideShapes Go.ChangeAt Go.RowKit Go.Deep
set_option maxRecDepth 100000
structure DeskM where
  st : ByteArray
  sk : Int
  ks : List Kind
  hs : List Heap
  lg : ByteArray
def DeskM.ok (d : DeskM) : Bool := strokeOk d.st && inB d.sk 3 60 && kindsOk d.ks && heapsOk d.hs && decide (lcode d.lg = 0)
def DeskM.txt (d : DeskM) : ByteArray := (⟨#[115, 116, 114, 111, 107, 101, 32]⟩ : ByteArray) ++ d.st ++ ⟨#[44, 32]⟩ ++ decB d.sk ++ ⟨#[32, 115, 116, 97, 107, 101, 115, 44, 32]⟩ ++ decB (d.ks.length : Int) ++ ⟨#[32, 107, 105, 110, 100, 115, 44, 32]⟩ ++ decB (d.hs.length : Int) ++ ⟨#[32, 104, 101, 97, 112, 115]⟩
def DeskM.text (d : DeskM) : ByteArray := if d.ok = true then d.txt else ⟨#[]⟩
def DeskV.pure (x : DeskV) : DeskM := ⟨x.fStroke, x.fStakes, x.kinds, x.heaps, x.fLog⟩
theorem deskOk_pure (x : DeskV) : deskOk x = x.pure.ok := rfl
theorem deskT_pure {x : DeskV} {w : World} {B : Nat} (hx : x.good w B) : mDeskT x = x.pure.text := by
  unfold mDeskT DeskM.text deskB DeskM.txt DeskV.pure
  rw [← hx.kinds.len, ← hx.heaps.len]; rfl
inductive Cmd where
  | cAdd
  | cBroken
  | cEnter
  | cFew
  | cHeap
  | cHeaps
  | cJoins
  | cKinds
  | cLog
  | cRound
  | cSound
  | cStakes
  | cStroke
  | cWord
  deriving DecidableEq
def Cmd.word : Cmd → ByteArray
  | .cAdd => ⟨#[97, 100, 100]⟩
  | .cBroken => ⟨#[98, 114, 111, 107, 101, 110]⟩
  | .cEnter => ⟨#[101, 110, 116, 101, 114]⟩
  | .cFew => ⟨#[102, 101, 119]⟩
  | .cHeap => ⟨#[104, 101, 97, 112]⟩
  | .cHeaps => ⟨#[104, 101, 97, 112, 115]⟩
  | .cJoins => ⟨#[106, 111, 105, 110, 115]⟩
  | .cKinds => ⟨#[107, 105, 110, 100, 115]⟩
  | .cLog => ⟨#[108, 111, 103]⟩
  | .cRound => ⟨#[114, 111, 117, 110, 100]⟩
  | .cSound => ⟨#[115, 111, 117, 110, 100]⟩
  | .cStakes => ⟨#[115, 116, 97, 107, 101, 115]⟩
  | .cStroke => ⟨#[115, 116, 114, 111, 107, 101]⟩
  | .cWord => ⟨#[119, 111, 114, 100]⟩
def allCmds : List Cmd := [.cAdd, .cBroken, .cEnter, .cFew, .cHeap, .cHeaps, .cJoins, .cKinds, .cLog, .cRound, .cSound, .cStakes, .cStroke, .cWord]
theorem all_cmds (c : Cmd) : c ∈ allCmds := by cases c <;> simp [allCmds]
def cmdOf (w : ByteArray) : Option Cmd := allCmds.find? fun c => decide (w = c.word)
theorem cmdOf_some {w : ByteArray} {c : Cmd} (h : cmdOf w = some c) : w = c.word := by
  have := List.find?_some h
  exact of_decide_eq_true this
theorem cmdOf_none {w : ByteArray} (h : cmdOf w = none) (c : Cmd) : ¬ w = c.word := by
  have := List.find?_eq_none.1 h c (all_cmds c)
  simpa using this
theorem cmdOf_word (c : Cmd) : cmdOf c.word = some c := by cases c <;> rfl
def Cmd.fits : Cmd → Nat → Bool
  | .cHeaps, n | .cLog, n => decide (n = 1)
  | .cStroke, n | .cStakes, n | .cRound, n | .cSound, n | .cAdd, n | .cFew, n => decide (n = 2)
  | .cWord, n => decide (n = 3)
  | .cEnter, n => decide (n = 4)
  | .cBroken, n | .cKinds, n | .cHeap, n => decide (2 ≤ n)
  | .cJoins, n => decide (3 ≤ n)
def hasCnt (w : ByteArray) (n : Nat) : Bool := match cmdOf w with
  | some c => c.fits n
  | none => false
def Cmd.skip : Cmd → Option Nat
  | .cWord => some 0
  | .cEnter => some 1
  | _ => none
def restTo (sk : Option Nat) (l : List ByteArray) (k : Nat) : List ByteArray := ((List.range k).filter fun i => decide (¬ sk = some i)).map fun i => l.getD i ⟨#[]⟩
theorem restTo_yes {sk : Option Nat} {l : List ByteArray} {k : Nat} {x : ByteArray} (h : ¬ sk = some k) (hx : l[k]? = some x) : restTo sk l (k + 1) = restTo sk l k ++ [x] := by
  unfold restTo; rw [List.range_succ, List.filter_append, List.map_append]; simp [h, List.getD_eq_getElem?_getD, hx]
theorem restTo_no {sk : Option Nat} {l : List ByteArray} {k : Nat} (h : sk = some k) : restTo sk l (k + 1) = restTo sk l k := by
  unfold restTo; rw [List.range_succ, List.filter_append, List.map_append]; simp [h]
theorem restTo_len (sk : Option Nat) (l : List ByteArray) (k : Nat) : (restTo sk l k).length ≤ k := by
  unfold restTo
  rw [List.length_map]
  have h := List.length_filter_le (fun i => decide (¬ sk = some i)) (List.range k)
  rwa [List.length_range] at h
def rdB (x : ByteArray) : Bool := rdOk x.data.toList
def rdI (x : ByteArray) : Int := rdNum x.data.toList
def numLine (l : List Int) : ByteArray := if l = [] then ⟨#[45]⟩ else ⟨(Lib.join (l.map fun n => (decB n).data.toList) [32]).toArray⟩
def joinSp (l : List ByteArray) : ByteArray := ⟨(Lib.join (l.map (·.data.toList)) [32]).toArray⟩
def okB (n : Nat) : ByteArray := (⟨#[111, 107, 32]⟩ : ByteArray) ++ decB (n : Int)
def pairsTo (n : List Int) (k : Nat) : List Kind := (List.range k).map fun i => ⟨n.getD (2 * i) 0, n.getD (2 * i + 1) 0⟩
def kindsN (n : List Int) : List Kind := pairsTo n (n.length / 2)
def kindsCd (n : List Int) : Int := if n.length % 2 = 0 then (if kindsOk (kindsN n) then 0 else 1) else 7
def kindsL (n : List Int) : List Kind := if kindsCd n = 0 then kindsN n else []
def mText (d : DeskM) (c : Cmd) (r : ByteArray) : DeskM × List ByteArray × Int := match c with
  | .cStroke => if strokeOk r then ({ d with st := r }, [({ d with st := r } : DeskM).text], 0) else (d, [], 1)
  | .cHeap => if rhOk r then ({ d with hs := mPutL d.hs (rhHeap r) }, [({ d with hs := mPutL d.hs (rhHeap r) } : DeskM).text], mPutC d.hs (rhHeap r)) else (d, [], 7)
  | .cHeaps => (d, d.hs.map mHeapT ++ [okB d.hs.length], 0)
  | .cLog => (d, (mEnts d.lg).map entB ++ [okB (mEnts d.lg).length], 0)
  | _ => (d, [], 0)
def mAsk (d : DeskM) (c : Cmd) (ws : List ByteArray) (n : List Int) : ByteArray × Int := match c with
  | .cRound => (mRoundT d.st d.sk.toNat (n.getD 0 0), mRoundC (n.getD 0 0))
  | .cWord => (mRowT (ws.getD 1 ⟨#[]⟩) d.sk.toNat (n.getD 0 0), mRowC (ws.getD 1 ⟨#[]⟩) (n.getD 0 0))
  | .cSound => (if mSound d.st d.sk.toNat (n.getD 0 0) then ⟨#[121, 101, 115]⟩ else ⟨#[110, 111]⟩, mSoundC (n.getD 0 0))
  | .cAdd => (numLine [mStk d.st d.sk.toNat (n.getD 0 0)], mStkC d.st d.sk.toNat (n.getD 0 0))
  | .cJoins => (numLine (ordL d.sk (n.getD 0 0) (n.drop 1)), ordC d.sk (n.getD 0 0) (n.drop 1))
  | .cBroken => (numLine (newL d.sk n), newC d.sk n)
  | .cFew => (numLine (fewL d.ks (n.getD 0 0)), fewC d.ks (n.getD 0 0))
  | _ => (⟨#[45]⟩, 0)
def mWork (d : DeskM) (c : Cmd) (ws : List ByteArray) (n : List Int) : DeskM × ByteArray × Int := match c with
  | .cStakes => if inB (n.getD 0 0) 3 60 then ({ d with sk := n.getD 0 0 }, ({ d with sk := n.getD 0 0 } : DeskM).text, 0) else (d, ⟨#[]⟩, 1)
  | .cKinds => ({ d with ks := kindsL n }, ({ d with ks := kindsL n } : DeskM).text, kindsCd n)
  | .cEnter => ({ d with lg := (mAdd d.lg ⟨n.getD 0 0, ws.getD 2 ⟨#[]⟩, n.getD 1 0⟩).1 }, numLine [sumOf id (mVals (mAdd d.lg ⟨n.getD 0 0, ws.getD 2 ⟨#[]⟩, n.getD 1 0⟩).1 (ws.getD 2 ⟨#[]⟩))], (mAdd d.lg ⟨n.getD 0 0, ws.getD 2 ⟨#[]⟩, n.getD 1 0⟩).2)
  | _ => (d, (mAsk d c ws n).1, (mAsk d c ws n).2)
def Cmd.plain : Cmd → Bool
  | .cStroke | .cHeap | .cHeaps | .cLog => true
  | _ => false
def Cmd.nums (c : Cmd) (ws : List ByteArray) : List ByteArray := restTo c.skip ws.tail ws.tail.length
def mDo (d : DeskM) (c : Cmd) (ws : List ByteArray) : DeskM × List ByteArray × Int :=
  if c.plain then mText d c (joinSp ws.tail)
  else if (c.nums ws).all rdB then ((mWork d c ws ((c.nums ws).map rdI)).1, [(mWork d c ws ((c.nums ws).map rdI)).2.1], (mWork d c ws ((c.nums ws).map rdI)).2.2)
  else (d, [⟨#[]⟩], 7)
def codeB (n : Int) : ByteArray := if n = 0 then ⟨#[111, 107]⟩ else if n = 1 then ⟨#[105, 110, 118, 97, 108, 105, 100]⟩ else if n = 2 then ⟨#[114, 97, 110, 103, 101]⟩ else if n = 3 then ⟨#[110, 111, 116, 45, 102, 111, 117, 110, 100]⟩ else if n = 4 then ⟨#[101, 120, 105, 115, 116, 115]⟩ else if n = 5 then ⟨#[102, 117, 108, 108]⟩ else if n = 6 then ⟨#[115, 116, 97, 116, 101]⟩ else if n = 7 then ⟨#[115, 121, 110, 116, 97, 120]⟩ else if n = 8 then ⟨#[102, 111, 114, 109, 97, 116]⟩ else if n = 9 then ⟨#[99, 108, 97, 115, 104]⟩ else if n = 10 then ⟨#[108, 111, 111, 115, 101]⟩ else ⟨#[]⟩
def errB (n : Int) : ByteArray := (⟨#[101, 114, 114, 111, 114, 32]⟩ : ByteArray) ++ codeB n
def mLine (d : DeskM) (s : ByteArray) : Option (DeskM × List ByteArray) := match cmdOf ((words 32 s).headD ⟨#[]⟩) with
  | none => none
  | some c => if c.fits (words 32 s).length then (if (mDo d c (words 32 s)).2.2 = 0 then some ((mDo d c (words 32 s)).1, (mDo d c (words 32 s)).2.1) else some (d, [errB (mDo d c (words 32 s)).2.2])) else none
def mStep (p : DeskM × List ByteArray) (s : ByteArray) : DeskM × List ByteArray := match mLine p.1 s with
  | none => (p.1, p.2 ++ [⟨#[63]⟩])
  | some q => (q.1, p.2 ++ q.2)
def newM : DeskM := ⟨⟨#[70, 66]⟩, 5, [], [], ⟨#[]⟩⟩
def mFold (L : List ByteArray) : DeskM × List ByteArray := L.foldl mStep (newM, [])
theorem mFold_snoc (L : List ByteArray) (x : ByteArray) : mFold (L ++ [x]) = mStep (mFold L) x := by unfold mFold; rw [List.foldl_append]; rfl
def mLines (s : ByteArray) : List ByteArray := words 10 ⟨(Lib.trimSuffix s.data.toList [10]).toArray⟩
def mRun (s : ByteArray) : ByteArray := if s = ⟨#[]⟩ then ⟨#[]⟩ else
  if (mLines s).length ≤ 60 then linesB (mFold (mLines s)).2 else linesB ((mFold ((mLines s).take 60)).2 ++ [⟨#[101, 114, 114, 111, 114, 32, 102, 117, 108, 108]⟩])
end Go.Proofs.YtfpaejlipaainaaGreatDoor
namespace Go.Proofs.YtfpaejlipaainaaGreatDoor
open Go.ChangeShapes Go.WideShapes Go.ChangeAt Go.RowKit Go.Deep
set_option maxRecDepth 100000
theorem str_no {a : ByteArray} {l : List UInt8} (h : ¬ a = ⟨l.toArray⟩) : (a.toList == l) = false := by
  have h1 := str_ne h
  rw [ByteArray.toList_eq ⟨l.toArray⟩] at h1
  exact h1
theorem hasCnt_word (c : Cmd) (n : Nat) : hasCnt c.word n = c.fits n := by unfold hasCnt; rw [cmdOf_word]
theorem beq_lit (n : Nat) (z : Int) (k : Nat) (h : z = (k : Int)) : ((n : Int) == z) = decide (n = k) := by
  subst h; rw [Bool.eq_iff_iff, beq_iff_eq, decide_eq_true_eq]; omega
theorem le_lit (n : Nat) (z : Int) (k : Nat) (h : z = (k : Int)) : decide (z ≤ (n : Int)) = decide (k ≤ n) := by
  subst h; rw [Bool.eq_iff_iff, decide_eq_true_eq, decide_eq_true_eq]; omega
set_option maxHeartbeats 4000000 in
theorem iCount_any (s : ByteArray) (n : Nat) (w : World) : Calls Tryz.prog 28 #[.string s, .int .i64 (n : Int)] w fun e w' => e = .returned (.bool (hasCnt s n)) ∧ w = w' := by
  cases hc : cmdOf s with
  | some c =>
    have hs := cmdOf_some hc
    subst hs
    have hM := hide (hasCnt_word c n)
    clear hc
    cases c <;> (
      simp only [Cmd.word]
      go_enter Tryz.func28, Tryz.ntmps28
      go_wp2
      go_ret
      exact ⟨retB (Eq.trans (by first | exact beq_lit n 1 1 rfl | exact beq_lit n 2 2 rfl | exact beq_lit n 3 3 rfl | exact beq_lit n 4 4 rfl | exact le_lit n 2 2 rfl | exact le_lit n 3 3 rfl) hM.out.symm), rfl⟩)
  | none =>
    have hM : Hid (hasCnt s n = false) := hide (by unfold hasCnt; rw [hc])
    have e0 := str_no (l := [97, 100, 100]) (cmdOf_none hc .cAdd)
    have e1 := str_no (l := [98, 114, 111, 107, 101, 110]) (cmdOf_none hc .cBroken)
    have e2 := str_no (l := [101, 110, 116, 101, 114]) (cmdOf_none hc .cEnter)
    have e3 := str_no (l := [102, 101, 119]) (cmdOf_none hc .cFew)
    have e4 := str_no (l := [104, 101, 97, 112]) (cmdOf_none hc .cHeap)
    have e5 := str_no (l := [104, 101, 97, 112, 115]) (cmdOf_none hc .cHeaps)
    have e6 := str_no (l := [106, 111, 105, 110, 115]) (cmdOf_none hc .cJoins)
    have e7 := str_no (l := [107, 105, 110, 100, 115]) (cmdOf_none hc .cKinds)
    have e8 := str_no (l := [108, 111, 103]) (cmdOf_none hc .cLog)
    have e9 := str_no (l := [114, 111, 117, 110, 100]) (cmdOf_none hc .cRound)
    have e10 := str_no (l := [115, 111, 117, 110, 100]) (cmdOf_none hc .cSound)
    have e11 := str_no (l := [115, 116, 97, 107, 101, 115]) (cmdOf_none hc .cStakes)
    have e12 := str_no (l := [115, 116, 114, 111, 107, 101]) (cmdOf_none hc .cStroke)
    have e13 := str_no (l := [119, 111, 114, 100]) (cmdOf_none hc .cWord)
    clear hc
    go_enter Tryz.func28, Tryz.ntmps28
    go_wp2
    go_ret
    exact ⟨retB hM.out.symm, rfl⟩
end Go.Proofs.YtfpaejlipaainaaGreatDoor
namespace Go.Proofs.YtfpaejlipaainaaGreatDoor
open Go.ChangeShapes Go.WideShapes Go.ChangeAt Go.RowKit Go.Deep
set_option maxRecDepth 100000
def numsB (sk : Option Nat) (T : List ByteArray) : Bool := (restTo sk T T.length).all rdB
def numsL (sk : Option Nat) (T : List ByteArray) : List Int := if numsB sk T = true then (restTo sk T T.length).map rdI else []
theorem all_bad {sk : Option Nat} {T : List ByteArray} {k : Nat} {x : ByteArray} (h : restTo sk T (k + 1) = restTo sk T k ++ [x]) (hk : k + 1 ≤ T.length) (hb : rdOk x.data.toList = false) : (restTo sk T T.length).all rdB = false := by
  have pre : ∀ d, ∃ e, restTo sk T (k + 1 + d) = restTo sk T (k + 1) ++ e := by
    intro d
    induction d with
    | zero => exact ⟨[], by simp⟩
    | succ d ih =>
      obtain ⟨e, he⟩ := ih
      unfold restTo at he ⊢
      rw [show k + 1 + (d + 1) = (k + 1 + d) + 1 by omega, List.range_succ, List.filter_append, List.map_append, he, List.append_assoc]
      exact ⟨_, rfl⟩
  obtain ⟨e, he⟩ := pre (T.length - (k + 1))
  rw [show k + 1 + (T.length - (k + 1)) = T.length by omega, h] at he
  rw [he, List.all_append, List.all_append]
  simp [rdB, hb]
theorem info_strj : (Tryz.prog.info? 9).map (fun i => (i.zero, i.size, i.bytes)) = some (some (.string ⟨#[]⟩), 1, 16) := by kernel_rfl
set_option maxHeartbeats 4000000 in
theorem iNums_any (w0 : ByteArray) (b1 b2 : Bool) (sk : Option Nat) (hcl : (b1 = false ∧ b2 = false ∧ sk = none) ∨ (b1 = true ∧ b2 = false ∧ sk = some 0) ∨ (b1 = false ∧ b2 = true ∧ sk = some 1)) (e1 : (w0.toList == [119, 111, 114, 100]) = b1) (e2 : (w0.toList == [101, 110, 116, 101, 114]) = b2)
    (A : Option Addr) (n c : Nat) (T : List ByteArray) (w : World) (hn : n ≤ 1048577) (hnc : n ≤ c) (hG : Gl w) (hr : Arr strc 1 w w.heap.size A n (w0 :: T)) :
    Calls Tryz.prog 32 #[.slice A n c] w fun e w' => ∃ v, e = .returned (.tuple #[v, .bool (numsB sk T)]) ∧ Res i64c 2 1 w' w.heap.size v (numsL sk T).length (numsL sk T) ∧ Below w.heap.size w w' := by
  have hlen := hr.len
  rw [List.length_cons] at hlen
  have hT : T.length = n - 1 := by omega
  have hn0 : 0 < n := by omega
  have hGh := hide hG
  obtain ⟨b0, o0, x0, hA0, hbl0, hx0, cc0⟩ := hr.str hn0
  subst hA0
  have hx00 : x0 = w0 := by simpa using hx0.symm
  subst hx00
  have hcut : ∀ W, (Instr.slice 24 (.slice (some ⟨b0, o0, none⟩) n c) (some (.int .i64 1)) none none).run Tryz.prog W = .ok (.slice (cutA (some ⟨b0, o0, none⟩) c 1 1) (n - 1) (c - 1)) W := fun W => run_cut (P := Tryz.prog) Tryz.underlying24 info_strj (some ⟨b0, o0, none⟩) n c 1 (by omega) W
  have hrc := hide (hr.cut (k := 1) (by omega) hnc)
  rw [List.drop_one, List.tail_cons] at hrc
  obtain ⟨A1, hA1⟩ : ∃ A1, A1 = cutA (some ⟨b0, o0, none⟩) c 1 1 := ⟨_, rfl⟩
  rw [← hA1] at hcut hrc
  obtain ⟨n1, hn1⟩ : ∃ n1, n1 = n - 1 := ⟨_, rfl⟩
  rw [← hn1] at hcut hrc hT
  obtain ⟨c1, hc1⟩ : ∃ c1, c1 = c - 1 := ⟨_, rfl⟩
  rw [← hc1] at hcut
  have hTh := hide hT
  have hTl : T.length ≤ 1048576 := by omega
  clear hA1 hn1 hc1 hlen hr hx0 hG hT
  go_enter Tryz.func32, Tryz.ntmps32
  go_wp2
  clear hcut
  go_loopw [4, 13] (fun v i wr => ∃ k : Nat, k ≤ n1 ∧ i = .int .i64 (k : Int) ∧ Own i64c 2 1 wr w.heap.size v ((restTo sk T k).map rdI).length ((restTo sk T k).map rdI) ∧ Below w.heap.size w wr ∧ Hid ((restTo sk T k).all rdB = true)) (fun _ i _ => n1 - (intOf i).toNat)
  case atStart => exact ⟨0, Nat.zero_le _, rfl, by simpa [restTo] using Own.none_made (cells := i64c) (e := 2) (s := 1) (base := w.heap.size) w (Nat.le_refl _), (Below.refl w.heap.size w).alloc (Nat.le_refl _) _, hide rfl⟩
  case round =>
    obtain ⟨k, hk, rfl, ho, hb, hall⟩ := hrel
    have hO := hide ho
    by_cases hlt : k < n1
    · obtain ⟨b, o, x, hA, hbl, hx, cx⟩ := hrc.out.str hlt
      subst hA
      have d0 : wr.cell? ⟨b, o + k, none⟩ = some (.string x) := (hb.cell (p := ⟨b, o + k, none⟩) hbl).trans cx
      have d1 : wr.cell? ⟨b0, o0, none⟩ = some (.string x0) := (hb.cell (p := ⟨b0, o0, none⟩) hbl0).trans (by simpa using cc0)
      have hX := hide hx
      have hB := hide hb
      have hkT : k < T.length := by rw [hTh.out]; exact hlt
      clear hx hb ho cx cc0
      rcases hcl with ⟨h1, h2, hsk⟩ | ⟨h1, h2, hsk⟩ | ⟨h1, h2, hsk⟩
      · subst h1 h2
        have hyes : Hid (restTo sk T (k + 1) = restTo sk T k ++ [x]) := hide (restTo_yes (by rw [hsk]; intro h; cases h) hX.out)
        clear hsk
        cases hok : rdOk x.data.toList
        · have hbad : Hid (numsB sk T = false) := hide (all_bad hyes.out (by have := lt_of_get hX.out; omega) hok)
          have hbad2 : Hid (numsL sk T = []) := hide (by unfold numsL; rw [hbad.out]; rfl)
          go_wp2_with fail
          refine (iRead_any x _ (hGh.out.below hB.out)).mono ?_
          rw [hok]
          rintro e w1 ⟨rfl, hb⟩
          replace hB := hide (Below.up hB.out hb)
          clear hb
          go_wp2
          go_ret2
          exact ⟨_, by rw [hbad.out]; rfl, by rw [hbad2.out]; exact Res.empty (Nat.zero_le _), hB.out⟩
        · have hnx : Hid ((restTo sk T (k + 1)).all rdB = true) := hide (by rw [hyes.out, List.all_append, hall.out]; simp [rdB, hok])
          have hrl := restTo_len sk T k
          have hll : ((restTo sk T k).map rdI).length ≤ 1048576 := by rw [List.length_map]; omega
          go_wp2_with fail
          refine (iRead_any x _ (hGh.out.below hB.out)).mono ?_
          rw [hok]
          rintro e w1 ⟨rfl, hb⟩
          have hO1 := hide (hO.out.below hb)
          replace hB := hide (Below.up hB.out hb)
          clear hb hrl
          go_wp2_with (at_builtin; refine wpl_app1H w1.heap.size rfl rfl (.tmp 43) (.tmp 45) rfl Tryz.underlying60 info_i64j rfl (by omega) (by omega) i64c_len i64c_one rfl hO1.out (rdNum x.data.toList) _ rfl rfl hll hB.out.size ?_; intro v5 w5 ho5 hg5 _; have hB5 := hide (grown_below hB.out hO1.out hg5 hB.out.size); have hO5 := hide ho5; clear ho5 hg5)
          go_roundw
          case rel => exact ⟨k + 1, by omega, by go_num, by rw [hyes.out, List.map_append, List.length_append]; exact hO5.out, hB5.out, hnx⟩
          case measure => simp [intOf]; omega
      · subst h1 h2
        by_cases hkj : k = 0
        · have hkb : ((k : Int) == 0) = true := by rw [hkj]; rfl
          have hyes : Hid (restTo sk T (k + 1) = restTo sk T k) := hide (restTo_no (by rw [hsk, hkj]))
          clear hsk hkj
          have hnx : Hid ((restTo sk T (k + 1)).all rdB = true) := hide (by rw [hyes.out]; exact hall.out)
          go_wp2
          go_roundw
          case rel => exact ⟨k + 1, by omega, by go_num, by rw [hyes.out]; exact hO.out, hB.out, hnx⟩
          case measure => simp [intOf]; omega
        · have hkb : ((k : Int) == 0) = false := by rw [beq_eq_false_iff_ne]; omega
          have hyes : Hid (restTo sk T (k + 1) = restTo sk T k ++ [x]) := hide (restTo_yes (by rw [hsk]; intro h; injection h with h; omega) hX.out)
          clear hsk hkj
          cases hok : rdOk x.data.toList
          · have hbad : Hid (numsB sk T = false) := hide (all_bad hyes.out (by have := lt_of_get hX.out; omega) hok)
            have hbad2 : Hid (numsL sk T = []) := hide (by unfold numsL; rw [hbad.out]; rfl)
            go_wp2_with fail
            refine (iRead_any x _ (hGh.out.below hB.out)).mono ?_
            rw [hok]
            rintro e w1 ⟨rfl, hb⟩
            replace hB := hide (Below.up hB.out hb)
            clear hb
            go_wp2
            go_ret2
            exact ⟨_, by rw [hbad.out]; rfl, by rw [hbad2.out]; exact Res.empty (Nat.zero_le _), hB.out⟩
          · have hnx : Hid ((restTo sk T (k + 1)).all rdB = true) := hide (by rw [hyes.out, List.all_append, hall.out]; simp [rdB, hok])
            have hrl := restTo_len sk T k
            have hll : ((restTo sk T k).map rdI).length ≤ 1048576 := by rw [List.length_map]; omega
            go_wp2_with fail
            refine (iRead_any x _ (hGh.out.below hB.out)).mono ?_
            rw [hok]
            rintro e w1 ⟨rfl, hb⟩
            have hO1 := hide (hO.out.below hb)
            replace hB := hide (Below.up hB.out hb)
            clear hb hrl
            go_wp2_with (at_builtin; refine wpl_app1H w1.heap.size rfl rfl (.tmp 43) (.tmp 45) rfl Tryz.underlying60 info_i64j rfl (by omega) (by omega) i64c_len i64c_one rfl hO1.out (rdNum x.data.toList) _ rfl rfl hll hB.out.size ?_; intro v5 w5 ho5 hg5 _; have hB5 := hide (grown_below hB.out hO1.out hg5 hB.out.size); have hO5 := hide ho5; clear ho5 hg5)
            go_roundw
            case rel => exact ⟨k + 1, by omega, by go_num, by rw [hyes.out, List.map_append, List.length_append]; exact hO5.out, hB5.out, hnx⟩
            case measure => simp [intOf]; omega
      · subst h1 h2
        by_cases hkj : k = 1
        · have hkb : ((k : Int) == 1) = true := by rw [hkj]; rfl
          have hyes : Hid (restTo sk T (k + 1) = restTo sk T k) := hide (restTo_no (by rw [hsk, hkj]))
          clear hsk hkj
          have hnx : Hid ((restTo sk T (k + 1)).all rdB = true) := hide (by rw [hyes.out]; exact hall.out)
          go_wp2
          go_roundw
          case rel => exact ⟨k + 1, by omega, by go_num, by rw [hyes.out]; exact hO.out, hB.out, hnx⟩
          case measure => simp [intOf]; omega
        · have hkb : ((k : Int) == 1) = false := by rw [beq_eq_false_iff_ne]; omega
          have hyes : Hid (restTo sk T (k + 1) = restTo sk T k ++ [x]) := hide (restTo_yes (by rw [hsk]; intro h; injection h with h; omega) hX.out)
          clear hsk hkj
          cases hok : rdOk x.data.toList
          · have hbad : Hid (numsB sk T = false) := hide (all_bad hyes.out (by have := lt_of_get hX.out; omega) hok)
            have hbad2 : Hid (numsL sk T = []) := hide (by unfold numsL; rw [hbad.out]; rfl)
            go_wp2_with fail
            refine (iRead_any x _ (hGh.out.below hB.out)).mono ?_
            rw [hok]
            rintro e w1 ⟨rfl, hb⟩
            replace hB := hide (Below.up hB.out hb)
            clear hb
            go_wp2
            go_ret2
            exact ⟨_, by rw [hbad.out]; rfl, by rw [hbad2.out]; exact Res.empty (Nat.zero_le _), hB.out⟩
          · have hnx : Hid ((restTo sk T (k + 1)).all rdB = true) := hide (by rw [hyes.out, List.all_append, hall.out]; simp [rdB, hok])
            have hrl := restTo_len sk T k
            have hll : ((restTo sk T k).map rdI).length ≤ 1048576 := by rw [List.length_map]; omega
            go_wp2_with fail
            refine (iRead_any x _ (hGh.out.below hB.out)).mono ?_
            rw [hok]
            rintro e w1 ⟨rfl, hb⟩
            have hO1 := hide (hO.out.below hb)
            replace hB := hide (Below.up hB.out hb)
            clear hb hrl
            go_wp2_with (at_builtin; refine wpl_app1H w1.heap.size rfl rfl (.tmp 43) (.tmp 45) rfl Tryz.underlying60 info_i64j rfl (by omega) (by omega) i64c_len i64c_one rfl hO1.out (rdNum x.data.toList) _ rfl rfl hll hB.out.size ?_; intro v5 w5 ho5 hg5 _; have hB5 := hide (grown_below hB.out hO1.out hg5 hB.out.size); have hO5 := hide ho5; clear ho5 hg5)
            go_roundw
            case rel => exact ⟨k + 1, by omega, by go_num, by rw [hyes.out, List.map_append, List.length_append]; exact hO5.out, hB5.out, hnx⟩
            case measure => simp [intOf]; omega
    · have hkn : k = n1 := by omega
      have hB := hide hb
      have hfin : Hid (numsB sk T = true) := hide (by unfold numsB; rw [hTh.out, ← hkn]; exact hall.out)
      have hf2 : Hid (numsL sk T = (restTo sk T k).map rdI) := hide (by unfold numsL; rw [hfin.out, hTh.out, hkn]; rfl)
      subst hkn
      clear hb ho
      go_wp2
      go_ret2
      exact ⟨_, by rw [hfin.out]; rfl, by rw [hf2.out]; exact hO.out.res, hB.out⟩
end Go.Proofs.YtfpaejlipaainaaGreatDoor
namespace Go.Proofs.YtfpaejlipaainaaGreatDoor
open Go.ChangeShapes Go.WideShapes Go.ChangeAt Go.RowKit Go.Deep
set_option maxRecDepth 100000
theorem join_len {M : Nat} (s : UInt8) : ∀ xs : List (List UInt8), (∀ x ∈ xs, x.length ≤ M) → (Lib.join xs [s]).length ≤ (M + 1) * xs.length := by
  intro xs
  cases xs with
  | nil => intro _; simp [Lib.join_nil]
  | cons x r =>
    intro h
    rw [Lib.join_cons, List.length_append]
    have h1 := h x List.mem_cons_self
    have h2 : ∀ r : List (List UInt8), (∀ y ∈ r, y.length ≤ M) → (Lib.joinTail [s] r).length ≤ (M + 1) * r.length := by
      intro r
      induction r with
      | nil => intro _; simp [Lib.joinTail]
      | cons y r ih =>
        intro hr
        have e : Lib.joinTail [s] (y :: r) = ([s] ++ y) ++ Lib.joinTail [s] r := by simp [Lib.joinTail]
        rw [e, List.length_append, List.length_append, List.length_singleton, List.length_cons, Nat.mul_add]
        have := hr y List.mem_cons_self
        have := ih fun z hz => hr z (List.mem_cons_of_mem _ hz)
        omega
    have := h2 r fun z hz => h z (List.mem_cons_of_mem _ hz)
    rw [List.length_cons, Nat.mul_add]
    omega
theorem iJoin_any (A : Option Addr) (n c : Nat) (l : List ByteArray) (w : World) (hn : n ≤ 140737488355328) (hnc : n ≤ c) (hlen : (Lib.join (l.map (·.data.toList)) [32]).length ≤ 140737488355328) (hr : Arr strc 1 w w.heap.size A n l) :
    Calls Tryz.prog 31 #[.slice A n c, .string ⟨#[32]⟩] w fun e w' => e = .returned (.string (joinSp l)) ∧ Below w.heap.size w w' := by
  have hl := hr.len
  rcases Nat.eq_zero_or_pos n with h0 | h0
  · subst h0
    have : l = [] := List.eq_nil_of_length_eq_zero hl
    subst this
    exact (Tryz.strings_Join_none A c _ w).mono fun e w' ⟨he, hw⟩ => ⟨by rw [he]; rfl, by rw [hw]; exact Below.refl _ _⟩
  · obtain ⟨b, o, rfl, hb, hc⟩ := hr.2 h0
    have h := Tryz.strings_Join b o c l ⟨#[32]⟩ w (fun j x hx => by have := hc j x hx 0 _ rfl; simpa using this) hb (by omega) (by omega) hlen
    rw [hl] at h
    exact h.mono fun e w' ⟨he, hw⟩ => ⟨by rw [he]; rfl, hw⟩
def I64 (l : List Int) : Prop := ∀ x ∈ l, -9223372036854775808 ≤ x ∧ x ≤ 9223372036854775807
theorem info_strj2 : (Tryz.prog.info? 9).map (fun i => (i.zero, i.size, i.bytes)) = some (some (.string ⟨#[]⟩), 1, 16) := by kernel_rfl
theorem iNumLine_any (A : Option Addr) (n c : Nat) (l : List Int) (w : World) (hn : n ≤ 1048576) (hl : I64 l) (hG : Gl w) (hr : Arr i64c 1 w w.heap.size A n l) :
    Calls Tryz.prog 78 #[.slice A n c] w fun e w' => e = .returned (.string (numLine l)) ∧ Below w.heap.size w w' := by
  have hlen := hide hr.len
  have hGh := hide hG
  have hlh := hide hl
  clear hG hl
  by_cases h0 : n = 0
  · have hM : Hid (numLine l = ⟨#[45]⟩) := hide (by unfold numLine; rw [if_pos (List.eq_nil_of_length_eq_zero (by rw [hlen.out]; exact h0))])
    have hb : ((n : Int) == 0) = true := by rw [h0]; rfl
    clear h0
    go_enter Tryz.func78, Tryz.ntmps78
    go_wp2
    go_ret
    exact ⟨by rw [hM.out]; rfl, Below.refl _ _⟩
  · have hM : Hid (numLine l = joinSp (l.map decB)) := hide (by
      unfold numLine joinSp
      rw [if_neg (fun h => h0 (by rw [← hlen.out, h]; rfl)), List.map_map]; rfl)
    have hb : ((n : Int) == 0) = false := by rw [beq_eq_false_iff_ne]; omega
    clear h0
    go_enter Tryz.func78, Tryz.ntmps78
    go_wp2
    go_loopw [3, 12] (fun v i wr => ∃ k : Nat, k ≤ n ∧ i = .int .i64 (k : Int) ∧ Own strc 9 1 wr w.heap.size v k ((l.take k).map decB) ∧ Below w.heap.size w wr) (fun _ i _ => n - (intOf i).toNat)
    case atStart => exact ⟨0, Nat.zero_le _, rfl, by simpa using Own.none_made (cells := strc) (e := 9) (s := 1) (base := w.heap.size) w (Nat.le_refl _), (Below.refl w.heap.size w).alloc (Nat.le_refl _) _⟩
    case round =>
      obtain ⟨k, hk, rfl, ho, hb2⟩ := hrel
      have hO := hide ho
      by_cases hlt : k < n
      · obtain ⟨b, o, x, rfl, hbl, hx, c0⟩ := hr.int hlt
        have d0 : wr.cell? ⟨b, o + k, none⟩ = some (.int .i64 x) := (hb2.cell (p := ⟨b, o + k, none⟩) hbl).trans c0
        have hX := hide hx
        clear hx c0
        have hB := hide hb2
        have hxb := hlh.out x (List.mem_of_getElem? hX.out)
        have hnx : Hid ((l.take (k + 1)).map decB = (l.take k).map decB ++ [decB x]) := hide (by rw [take_snoc hX.out, List.map_append]; rfl)
        clear hr hb2 ho
        go_wp2_with fail
        refine (iDec_any x _ hxb.1 hxb.2 (hGh.out.below hB.out)).mono ?_
        rintro e w1 ⟨rfl, hb⟩
        have hO1 := hide (hO.out.below hb)
        replace hB := hide (Below.up hB.out hb)
        clear hb
        go_wp2_with (at_builtin; refine wpl_app1H w1.heap.size rfl rfl (.tmp 16) (.tmp 19) rfl Tryz.underlying24 info_strj2 rfl (by omega) (by omega) strc_len strc_one rfl hO1.out (decB x) _ rfl rfl (by omega) hB.out.size ?_; intro v5 w5 ho5 hg5 _; have hB5 := hide (grown_below hB.out hO1.out hg5 hB.out.size); have hO5 := hide ho5; clear ho5 hg5)
        go_roundw
        case rel => exact ⟨k + 1, by omega, by go_num, by rw [hnx.out]; exact hO5.out, hB5.out⟩
        case measure => simp [intOf]; omega
      · have hkn : k = n := by omega
        have hB := hide hb2
        rw [List.take_of_length_le (by rw [hlen.out]; omega)] at ho
        obtain ⟨A1, c1, rfl, hc1⟩ := ho.slice
        have hA := hide (ho.arr strc_len)
        have hjl : Hid ((Lib.join ((l.map decB).map (·.data.toList)) [32]).length ≤ 140737488355328) := hide (by
          have h1 := join_len (M := 21) 32 ((l.map decB).map (·.data.toList)) (by
            intro y hy
            rw [List.map_map] at hy
            obtain ⟨x, hx, rfl⟩ := List.mem_map.1 hy
            have h2 := hlh.out x hx
            have h3 := decB_size x h2.1 h2.2
            exact h3)
          rw [List.length_map, List.length_map, hlen.out] at h1
          omega)
        subst hkn
        clear hO ho hb2
        go_wp2_with fail
        refine (iJoin_any A1 k c1 (l.map decB) _ (by omega) hc1 hjl.out hA.out).mono ?_
        rintro e w2 ⟨rfl, hb⟩
        replace hB := hide (Below.up hB.out hb)
        clear hb
        go_wp2
        go_ret
        exact ⟨by rw [hM.out]; rfl, hB.out⟩
end Go.Proofs.YtfpaejlipaainaaGreatDoor
