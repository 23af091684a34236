/- Contract of the drawn rows of prices. No statement is proved here. -/
import Derived.Test.YtldnnlgekhjebaaSalA
namespace Go.Proofs.Ytldnnlgekhjebaa
open Go.ChangeShapes Go.WideShapes Go.ChangeAt Go.RowKit Go.Deep
set_option maxRecDepth 100000
theorem Trio.src {e : TypeId} {w w' : World} {base g : Nat} {v0 v1 v2 : Value} {a b c : List Int} (h : Trio e w base v0 v1 v2 a b c) (hb : g < base) (hg : w.grownBy w' (some g)) : Trio e w' base v0 v1 v2 a b c :=
  ⟨h.o0.src hb hg, h.o1.src hb hg, h.o2.src hb hg, h.f01, h.f02, h.f12⟩
theorem trio_two (w : World) {base : Nat} (hb : base ≤ w.heap.size) (e : TypeId) : Trio e ((w.alloc (.cells #[] e)).alloc (.cells #[] e)) base (.slice (some ⟨w.heap.size, 0, none⟩) 0 0) (.slice (some ⟨w.heap.size + 1, 0, none⟩) 0 0) (.slice none 0 0) [] [] [] := by
  have h1 := Own.none_made (cells := i64c) (e := e) (s := 1) w hb
  have h2 := Own.none_made (cells := i64c) (e := e) (s := 1) (base := base) (w.alloc (.cells #[] e)) (by simp; omega)
  simp only [World.size_alloc] at h2
  refine ⟨h1.below ((Below.refl _ _).alloc (Nat.le_refl _) _), h2, Own.nil_ _ _, ?_, ?_, ?_⟩
  · intro g h h'; simp [Value.ownBlock] at h h'; omega
  · intro g h h'; simp [Value.ownBlock] at h'
  · intro g h h'; simp [Value.ownBlock] at h'
theorem info_i64 : (Try.prog.info? 2).map (fun i => (i.zero, i.size, i.bytes)) = some (some (.int .i64 0), 1, 8) := by kernel_rfl
set_option maxHeartbeats 1000000 in
theorem drawBest_any (w : World) (A : Option Addr) (n c : Nat) (l : List Int) (hr : Arr u8c 1 w w.heap.size A n l) (hl : byteL l) (hc : c ≤ maxLen) (hn : n ≤ c) :
    Calls Try.prog 12 #[.slice A n c] w fun e w' => ∃ (B : Option Addr) (k d : Nat) (p : List Int) (B' : Option Addr) (k' d' : Nat) (p' : List Int) (x : Int),
      e = .returned (.tuple #[.slice B k d, .slice B' k' d', .int .i64 x]) ∧ k ≤ 100 ∧ k' ≤ 100 ∧ Arr i64c 1 w' w'.heap.size B k p ∧ Arr i64c 1 w' w'.heap.size B' k' p' ∧ Below w.heap.size w w' := by
  go_enter Try.func12, Try.ntmps12
  go_wp2_with fail
  refine (from_any _ A n c l hr hl hc hn).mono ?_
  rintro e w1 ⟨rfl, hb, hsz, hs1⟩
  have hD : Hid (DS w w1 w.heap.size 0) := hide ⟨hb, Nat.le_refl _, hs1⟩
  obtain ⟨g, hg⟩ : ∃ g, g = w.heap.size := ⟨_, rfl⟩
  rw [← hg] at hD ⊢
  have hgw : Hid (w.heap.size ≤ g) := hide (Nat.le_of_eq hg.symm)
  clear hb hs1 hg hsz
  have hz : Hid (w.heap.size < w1.heap.size) := hide (Nat.lt_of_le_of_lt hgw.out hD.out.2.2.lt)
  have hT0 := hide (trio_two w1 (base := g + 1) hD.out.2.2.lt 2)
  replace hD := hide ((hD.out.alloc (.cells #[] 2)).alloc (.cells #[] 2))
  go_wp2_with fail
  refine (pick_any _ g _ _ hD.out.2.2 (by omega)).mono ?_
  rintro e w2 ⟨x, rfl, x0, _, x2, hg, hs⟩
  replace hT0 := hide (hT0.out.src (Nat.lt_succ_self _) hg)
  replace hD := hide (hD.out.step hg hs)
  clear hg hs
  have x3 := x2 (by omega)
  clear x2
  go_wp2_with fail
  refine (one_any _ g _ _ hD.out.2.2 (by omega)).mono ?_
  rintro e w2 ⟨b, rfl, hg, hs⟩
  replace hT0 := hide (hT0.out.src (Nat.lt_succ_self _) hg)
  replace hD := hide (hD.out.step hg hs)
  clear hg hs
  obtain ⟨r0, hr0⟩ : ∃ r0, r0 = w1.heap.size := ⟨_, rfl⟩
  rw [← hr0] at hT0 ⊢
  clear hr0
  cases b
  · skip
    obtain ⟨N, hN⟩ : ∃ N, N = x := ⟨_, rfl⟩
    have hN0 : 0 ≤ N := by omega
    have hN1 : N ≤ 13 := by omega
    rw [← hN]
    clear hN
    go_wp2
    go_loopw [6, 7, 9] (fun v0 v1 i wr => ∃ (j : Nat) (a b : List Int), (j : Int) ≤ N ∧ a.length = j ∧ b.length = j ∧ i = .int .i64 (N - j) ∧ DS w wr g (100 + 4 * j) ∧ Trio 2 wr (g + 1) v0 v1 (.slice none 0 0) a b []) (fun _ _ i _ => (intOf i).toNat)
    case atStart => exact ⟨0, [], [], by omega, rfl, rfl, by simp, ⟨hD.out.1, hD.out.2.1, hD.out.2.2.more (by omega)⟩, hT0.out⟩
    case round =>
      obtain ⟨j, a, b, hj, ha, hb, rfl, hd, ht⟩ := hrel
      have hT := hide ht
      replace hD := hide hd
      clear hd ht
      by_cases hlt : 0 < N - j
      · have hlt' : (j : Int) < N := by omega
        go_wp2_with fail
        refine (pick_any _ g _ _ hD.out.2.2 (by omega)).mono ?_
        rintro e w2 ⟨p, rfl, p0, _, p2, hg, hs⟩
        replace hT := hide (hT.out.src (Nat.lt_succ_self _) hg)
        replace hD := hide (hD.out.step hg hs)
        clear hg hs
        clear p2
        go_wp2_with (at_builtin; refine wpl_app2 rfl (.tmp 26) (.tmp 29) _ rfl Try.underlying30 info_i64 rfl (by omega) (by omega) rfl hT.out.o0 p _ rfl rfl rfl (by simp [i64c, Value.oneCell']) (by omega) hD.out.2.2.lt ?_; intro v2 w3 ho hg hat)
        replace hD := hide (hD.out.row hT.out.o0 (Nat.lt_succ_self _) hg)
        replace hT := hide (hT.out.app0 ho hg hat (by simp))
        clear ho hg hat
        refine (pick_any _ g _ _ hD.out.2.2 (by omega)).mono ?_
        rintro e w2 ⟨q, rfl, q0, _, q2, hg, hs⟩
        replace hT := hide (hT.out.src (Nat.lt_succ_self _) hg)
        replace hD := hide (hD.out.step hg hs)
        clear hg hs
        clear q2
        have hwj : IntKind.i64.wrap (N - (j : Int) - 1) = N - (j : Int) - 1 := IntWalk.i64_in _ (by omega)
        go_wp2_with (at_builtin; refine wpl_app2 rfl (.tmp 31) (.tmp 34) _ rfl Try.underlying30 info_i64 rfl (by omega) (by omega) rfl hT.out.o1 q _ rfl rfl rfl (by simp [i64c, Value.oneCell']) (by omega) hD.out.2.2.lt ?_; intro v4 w3 ho hg hat)
        replace hD := hide (hD.out.row hT.out.o1 (Nat.lt_succ_self _) hg)
        replace hT := hide (hT.out.app1 ho hg hat (by simp))
        clear ho hg hat
        go_roundw
        case rel => exact ⟨j + 1, a ++ [p], b ++ [q], by omega, by simp [ha], by simp [hb], by go_num, ⟨hD.out.1, hD.out.2.1, hD.out.2.2.more (by omega)⟩, hT.out⟩
        case measure => simp [intOf]; omega
      · have hjN : (j : Int) = N := by omega
        go_wp2_with fail
        refine (pick_any _ g _ _ hD.out.2.2 (by omega)).mono ?_
        rintro e w2 ⟨y, rfl, y0, _, y2, hg, hs⟩
        replace hT := hide (hT.out.src (Nat.lt_succ_self _) hg)
        replace hD := hide (hD.out.step hg hs)
        clear hg hs
        have y3 := y2 (by omega)
        clear y2
        rcases (by omega : y = 0 ∨ y = 1 ∨ y = 2 ∨ 3 ≤ y) with rfl | rfl | rfl | h3
        · skip
          go_wp2_with (at_builtin; refine wpl_app2 rfl (.tmp 40) (.tmp 41) _ rfl Try.underlying30 info_i64 rfl (by omega) (by omega) rfl hT.out.o1 5 _ rfl rfl rfl (by simp [i64c, Value.oneCell']) (by omega) hD.out.2.2.lt ?_; intro v4 w3 ho hg hat)
          replace hD := hide (hD.out.row hT.out.o1 (Nat.lt_succ_self _) hg)
          replace hT := hide (hT.out.app1 ho hg hat (by simp))
          clear ho hg hat
          refine (pick_any _ g _ _ hD.out.2.2 (by omega)).mono ?_
          rintro e w2 ⟨z, rfl, z0, _, z2, hg, hs⟩
          replace hT := hide (hT.out.src (Nat.lt_succ_self _) hg)
          replace hD := hide (hD.out.step hg hs)
          clear hg hs
          clear z2
          obtain ⟨C0, d0, hv0, _⟩ := hT.out.o0.slice
          obtain ⟨C1, d1, hv1, _⟩ := hT.out.o1.slice
          have hR0 := hT.out.o0
          have hR1 := hT.out.o1
          rw [hv0] at hR0
          rw [hv1] at hR1
          have hV0 := hide hv0
          have hV1 := hide hv1
          clear hv0 hv1
          go_wp2
          have hK0 : a.length ≤ 100 := by first | omega | (simp; omega)
          have hK1 : (b ++ [5]).length ≤ 100 := by first | omega | (simp; omega)
          exact bodyPost_ret (v := .tuple #[u6, v4, .int .i64 z]) (by simp [results, Try.results12, go_sem]) rfl ⟨C0, _, d0, _, C1, _, d1, _, z, by first | (rw [hV0.out, hV1.out]; done) | (rw [← hV0.out, ← hV1.out, ha]; done) | (rw [← hV0.out, ← hV1.out, hb]; done) | (rw [← hV0.out, ← hV1.out]; done), hK0, hK1, hR0.arr i64c_len, hR1.arr i64c_len, hD.out.1⟩
        · by_cases hN2 : 0 < N
          · skip
            go_wp2_with fail
            refine (cents_any _ g _  hD.out.2.2 (by omega)).mono ?_
            rintro e w2 ⟨p, rfl, hg, hs⟩
            replace hT := hide (hT.out.src (Nat.lt_succ_self _) hg)
            replace hD := hide (hD.out.step hg hs)
            clear hg hs
            obtain ⟨g6, k6, x6, rfl, b6, l6, _, c6, f6⟩ := hT.out.o0.at' (k := 0) (by omega)
            have hgS := fun W : World => fun y : Value => only_setCell (World.grownBy.refl W (some g6)) (p := ⟨g6, 0, none⟩) rfl y
            have ht1 := hide (hT.out.set0 rfl (k := 0) (by omega) p)
            have hd1 := hide (hD.out.row hT.out.o0 (Nat.lt_succ_self _) (hgS _ (.int .i64 p)))
            clear hgS
            go_wp2_with fail
            replace hT := ht1
            replace hD := hd1
            clear ht1 hd1 c6 f6
            refine (pick_any _ g _ _ hD.out.2.2 (by omega)).mono ?_
            rintro e w2 ⟨z, rfl, z0, _, z2, hg, hs⟩
            replace hT := hide (hT.out.src (Nat.lt_succ_self _) hg)
            replace hD := hide (hD.out.step hg hs)
            clear hg hs
            clear z2
            obtain ⟨C0, d0, hv0, _⟩ := hT.out.o0.slice
            obtain ⟨C1, d1, hv1, _⟩ := hT.out.o1.slice
            have hR0 := hT.out.o0
            have hR1 := hT.out.o1
            rw [hv0] at hR0
            rw [hv1] at hR1
            have hV0 := hide hv0
            have hV1 := hide hv1
            clear hv0 hv1
            go_wp2
            have hK0 : (a.set 0 p).length ≤ 100 := by first | omega | (simp; omega)
            have hK1 : b.length ≤ 100 := by first | omega | (simp; omega)
            exact bodyPost_ret (v := .tuple #[.slice (some ⟨g6, 0, none⟩) j k6, u7, .int .i64 z]) (by simp [results, Try.results12, go_sem]) rfl ⟨C0, _, d0, _, C1, _, d1, _, z, by first | (rw [hV0.out, hV1.out]; done) | (rw [← hV0.out, ← hV1.out, ha]; done) | (rw [← hV0.out, ← hV1.out, hb]; done) | (rw [← hV0.out, ← hV1.out]; done), hK0, hK1, hR0.arr i64c_len, hR1.arr i64c_len, hD.out.1⟩
          · skip
            go_wp2_with fail
            refine (pick_any _ g _ _ hD.out.2.2 (by omega)).mono ?_
            rintro e w2 ⟨z, rfl, z0, _, z2, hg, hs⟩
            replace hT := hide (hT.out.src (Nat.lt_succ_self _) hg)
            replace hD := hide (hD.out.step hg hs)
            clear hg hs
            clear z2
            obtain ⟨C0, d0, hv0, _⟩ := hT.out.o0.slice
            obtain ⟨C1, d1, hv1, _⟩ := hT.out.o1.slice
            have hR0 := hT.out.o0
            have hR1 := hT.out.o1
            rw [hv0] at hR0
            rw [hv1] at hR1
            have hV0 := hide hv0
            have hV1 := hide hv1
            clear hv0 hv1
            go_wp2
            have hK0 : a.length ≤ 100 := by first | omega | (simp; omega)
            have hK1 : b.length ≤ 100 := by first | omega | (simp; omega)
            exact bodyPost_ret (v := .tuple #[u6, u7, .int .i64 z]) (by simp [results, Try.results12, go_sem]) rfl ⟨C0, _, d0, _, C1, _, d1, _, z, by first | (rw [hV0.out, hV1.out]; done) | (rw [← hV0.out, ← hV1.out, ha]; done) | (rw [← hV0.out, ← hV1.out, hb]; done) | (rw [← hV0.out, ← hV1.out]; done), hK0, hK1, hR0.arr i64c_len, hR1.arr i64c_len, hD.out.1⟩
        · by_cases hN2 : 0 < N
          · skip
            go_wp2_with fail
            refine (among_any _ g _ _ 4 _ [-1, 0, 10000, 10001] (hD.out.2.2.alloc _) (by omega) (by omega) (by omega) (Nat.ne_of_gt hD.out.2.2.lt) (lit_ints _ _ _ _ _ rfl rfl)).mono ?_
            rintro e w2 ⟨p, rfl, _, hg0, hs⟩
            have hg := grown_two (World.grownBy_alloc _ _ _) hg0
            replace hT := hide (hT.out.src (Nat.lt_succ_self _) hg)
            clear hg0
            replace hD := hide (hD.out.step hg hs)
            clear hg hs
            obtain ⟨g6, k6, x6, rfl, b6, l6, _, c6, f6⟩ := hT.out.o1.at' (k := 0) (by omega)
            have hgS := fun W : World => fun y : Value => only_setCell (World.grownBy.refl W (some g6)) (p := ⟨g6, 0, none⟩) rfl y
            have ht1 := hide (hT.out.set1 rfl (k := 0) (by omega) p)
            have hd1 := hide (hD.out.row hT.out.o1 (Nat.lt_succ_self _) (hgS _ (.int .i64 p)))
            clear hgS
            go_wp2_with fail
            replace hT := ht1
            replace hD := hd1
            clear ht1 hd1 c6 f6
            refine (pick_any _ g _ _ hD.out.2.2 (by omega)).mono ?_
            rintro e w2 ⟨z, rfl, z0, _, z2, hg, hs⟩
            replace hT := hide (hT.out.src (Nat.lt_succ_self _) hg)
            replace hD := hide (hD.out.step hg hs)
            clear hg hs
            clear z2
            obtain ⟨C0, d0, hv0, _⟩ := hT.out.o0.slice
            obtain ⟨C1, d1, hv1, _⟩ := hT.out.o1.slice
            have hR0 := hT.out.o0
            have hR1 := hT.out.o1
            rw [hv0] at hR0
            rw [hv1] at hR1
            have hV0 := hide hv0
            have hV1 := hide hv1
            clear hv0 hv1
            go_wp2
            have hK0 : a.length ≤ 100 := by first | omega | (simp; omega)
            have hK1 : (b.set 0 p).length ≤ 100 := by first | omega | (simp; omega)
            exact bodyPost_ret (v := .tuple #[u6, .slice (some ⟨g6, 0, none⟩) j k6, .int .i64 z]) (by simp [results, Try.results12, go_sem]) rfl ⟨C0, _, d0, _, C1, _, d1, _, z, by first | (rw [hV0.out, hV1.out]; done) | (rw [← hV0.out, ← hV1.out, ha]; done) | (rw [← hV0.out, ← hV1.out, hb]; done) | (rw [← hV0.out, ← hV1.out]; done), hK0, hK1, hR0.arr i64c_len, hR1.arr i64c_len, hD.out.1⟩
          · skip
            go_wp2_with fail
            refine (pick_any _ g _ _ hD.out.2.2 (by omega)).mono ?_
            rintro e w2 ⟨z, rfl, z0, _, z2, hg, hs⟩
            replace hT := hide (hT.out.src (Nat.lt_succ_self _) hg)
            replace hD := hide (hD.out.step hg hs)
            clear hg hs
            clear z2
            obtain ⟨C0, d0, hv0, _⟩ := hT.out.o0.slice
            obtain ⟨C1, d1, hv1, _⟩ := hT.out.o1.slice
            have hR0 := hT.out.o0
            have hR1 := hT.out.o1
            rw [hv0] at hR0
            rw [hv1] at hR1
            have hV0 := hide hv0
            have hV1 := hide hv1
            clear hv0 hv1
            go_wp2
            have hK0 : a.length ≤ 100 := by first | omega | (simp; omega)
            have hK1 : b.length ≤ 100 := by first | omega | (simp; omega)
            exact bodyPost_ret (v := .tuple #[u6, u7, .int .i64 z]) (by simp [results, Try.results12, go_sem]) rfl ⟨C0, _, d0, _, C1, _, d1, _, z, by first | (rw [hV0.out, hV1.out]; done) | (rw [← hV0.out, ← hV1.out, ha]; done) | (rw [← hV0.out, ← hV1.out, hb]; done) | (rw [← hV0.out, ← hV1.out]; done), hK0, hK1, hR0.arr i64c_len, hR1.arr i64c_len, hD.out.1⟩
        · have e0 : (y == 0) = false := by simp; omega
          have e1 : (y == 1) = false := by simp; omega
          have e2 : (y == 2) = false := by simp; omega
          go_wp2_with fail
          refine (pick_any _ g _ _ hD.out.2.2 (by omega)).mono ?_
          rintro e w2 ⟨z, rfl, z0, _, z2, hg, hs⟩
          replace hT := hide (hT.out.src (Nat.lt_succ_self _) hg)
          replace hD := hide (hD.out.step hg hs)
          clear hg hs
          clear z2
          obtain ⟨C0, d0, hv0, _⟩ := hT.out.o0.slice
          obtain ⟨C1, d1, hv1, _⟩ := hT.out.o1.slice
          have hR0 := hT.out.o0
          have hR1 := hT.out.o1
          rw [hv0] at hR0
          rw [hv1] at hR1
          have hV0 := hide hv0
          have hV1 := hide hv1
          clear hv0 hv1
          go_wp2
          have hK0 : a.length ≤ 100 := by first | omega | (simp; omega)
          have hK1 : b.length ≤ 100 := by first | omega | (simp; omega)
          exact bodyPost_ret (v := .tuple #[u6, u7, .int .i64 z]) (by simp [results, Try.results12, go_sem]) rfl ⟨C0, _, d0, _, C1, _, d1, _, z, by first | (rw [hV0.out, hV1.out]; done) | (rw [← hV0.out, ← hV1.out, ha]; done) | (rw [← hV0.out, ← hV1.out, hb]; done) | (rw [← hV0.out, ← hV1.out]; done), hK0, hK1, hR0.arr i64c_len, hR1.arr i64c_len, hD.out.1⟩
  · skip
    go_wp2_with fail
    refine (pick_any _ g _ _ hD.out.2.2 (by omega)).mono ?_
    rintro e w2 ⟨x', rfl, x0', _, x2', hg, hs⟩
    replace hT0 := hide (hT0.out.src (Nat.lt_succ_self _) hg)
    replace hD := hide (hD.out.step hg hs)
    clear hg hs
    have x3' := x2' (by omega)
    clear x2'
    obtain ⟨N, hN⟩ : ∃ N, N = 12 + x' := ⟨_, rfl⟩
    have hN0 : 0 ≤ N := by omega
    have hN1 : N ≤ 13 := by omega
    have hw : IntKind.i64.wrap (12 + x') = N := by rw [hN]; exact IntWalk.i64_in _ (by omega)
    clear hN
    go_wp2
    go_loopw [6, 7, 9] (fun v0 v1 i wr => ∃ (j : Nat) (a b : List Int), (j : Int) ≤ N ∧ a.length = j ∧ b.length = j ∧ i = .int .i64 (N - j) ∧ DS w wr g (100 + 4 * j) ∧ Trio 2 wr (g + 1) v0 v1 (.slice none 0 0) a b []) (fun _ _ i _ => (intOf i).toNat)
    case atStart => exact ⟨0, [], [], by omega, rfl, rfl, by simp, ⟨hD.out.1, hD.out.2.1, hD.out.2.2.more (by omega)⟩, hT0.out⟩
    case round =>
      obtain ⟨j, a, b, hj, ha, hb, rfl, hd, ht⟩ := hrel
      have hT := hide ht
      replace hD := hide hd
      clear hd ht
      by_cases hlt : 0 < N - j
      · have hlt' : (j : Int) < N := by omega
        go_wp2_with fail
        refine (pick_any _ g _ _ hD.out.2.2 (by omega)).mono ?_
        rintro e w2 ⟨p, rfl, p0, _, p2, hg, hs⟩
        replace hT := hide (hT.out.src (Nat.lt_succ_self _) hg)
        replace hD := hide (hD.out.step hg hs)
        clear hg hs
        clear p2
        go_wp2_with (at_builtin; refine wpl_app2 rfl (.tmp 26) (.tmp 29) _ rfl Try.underlying30 info_i64 rfl (by omega) (by omega) rfl hT.out.o0 p _ rfl rfl rfl (by simp [i64c, Value.oneCell']) (by omega) hD.out.2.2.lt ?_; intro v2 w3 ho hg hat)
        replace hD := hide (hD.out.row hT.out.o0 (Nat.lt_succ_self _) hg)
        replace hT := hide (hT.out.app0 ho hg hat (by simp))
        clear ho hg hat
        refine (pick_any _ g _ _ hD.out.2.2 (by omega)).mono ?_
        rintro e w2 ⟨q, rfl, q0, _, q2, hg, hs⟩
        replace hT := hide (hT.out.src (Nat.lt_succ_self _) hg)
        replace hD := hide (hD.out.step hg hs)
        clear hg hs
        clear q2
        have hwj : IntKind.i64.wrap (N - (j : Int) - 1) = N - (j : Int) - 1 := IntWalk.i64_in _ (by omega)
        go_wp2_with (at_builtin; refine wpl_app2 rfl (.tmp 31) (.tmp 34) _ rfl Try.underlying30 info_i64 rfl (by omega) (by omega) rfl hT.out.o1 q _ rfl rfl rfl (by simp [i64c, Value.oneCell']) (by omega) hD.out.2.2.lt ?_; intro v4 w3 ho hg hat)
        replace hD := hide (hD.out.row hT.out.o1 (Nat.lt_succ_self _) hg)
        replace hT := hide (hT.out.app1 ho hg hat (by simp))
        clear ho hg hat
        go_roundw
        case rel => exact ⟨j + 1, a ++ [p], b ++ [q], by omega, by simp [ha], by simp [hb], by go_num, ⟨hD.out.1, hD.out.2.1, hD.out.2.2.more (by omega)⟩, hT.out⟩
        case measure => simp [intOf]; omega
      · have hjN : (j : Int) = N := by omega
        go_wp2_with fail
        refine (pick_any _ g _ _ hD.out.2.2 (by omega)).mono ?_
        rintro e w2 ⟨y, rfl, y0, _, y2, hg, hs⟩
        replace hT := hide (hT.out.src (Nat.lt_succ_self _) hg)
        replace hD := hide (hD.out.step hg hs)
        clear hg hs
        have y3 := y2 (by omega)
        clear y2
        rcases (by omega : y = 0 ∨ y = 1 ∨ y = 2 ∨ 3 ≤ y) with rfl | rfl | rfl | h3
        · skip
          go_wp2_with (at_builtin; refine wpl_app2 rfl (.tmp 40) (.tmp 41) _ rfl Try.underlying30 info_i64 rfl (by omega) (by omega) rfl hT.out.o1 5 _ rfl rfl rfl (by simp [i64c, Value.oneCell']) (by omega) hD.out.2.2.lt ?_; intro v4 w3 ho hg hat)
          replace hD := hide (hD.out.row hT.out.o1 (Nat.lt_succ_self _) hg)
          replace hT := hide (hT.out.app1 ho hg hat (by simp))
          clear ho hg hat
          refine (pick_any _ g _ _ hD.out.2.2 (by omega)).mono ?_
          rintro e w2 ⟨z, rfl, z0, _, z2, hg, hs⟩
          replace hT := hide (hT.out.src (Nat.lt_succ_self _) hg)
          replace hD := hide (hD.out.step hg hs)
          clear hg hs
          clear z2
          obtain ⟨C0, d0, hv0, _⟩ := hT.out.o0.slice
          obtain ⟨C1, d1, hv1, _⟩ := hT.out.o1.slice
          have hR0 := hT.out.o0
          have hR1 := hT.out.o1
          rw [hv0] at hR0
          rw [hv1] at hR1
          have hV0 := hide hv0
          have hV1 := hide hv1
          clear hv0 hv1
          go_wp2
          have hK0 : a.length ≤ 100 := by first | omega | (simp; omega)
          have hK1 : (b ++ [5]).length ≤ 100 := by first | omega | (simp; omega)
          exact bodyPost_ret (v := .tuple #[u6, v4, .int .i64 z]) (by simp [results, Try.results12, go_sem]) rfl ⟨C0, _, d0, _, C1, _, d1, _, z, by first | (rw [hV0.out, hV1.out]; done) | (rw [← hV0.out, ← hV1.out, ha]; done) | (rw [← hV0.out, ← hV1.out, hb]; done) | (rw [← hV0.out, ← hV1.out]; done), hK0, hK1, hR0.arr i64c_len, hR1.arr i64c_len, hD.out.1⟩
        · by_cases hN2 : 0 < N
          · skip
            go_wp2_with fail
            refine (cents_any _ g _  hD.out.2.2 (by omega)).mono ?_
            rintro e w2 ⟨p, rfl, hg, hs⟩
            replace hT := hide (hT.out.src (Nat.lt_succ_self _) hg)
            replace hD := hide (hD.out.step hg hs)
            clear hg hs
            obtain ⟨g6, k6, x6, rfl, b6, l6, _, c6, f6⟩ := hT.out.o0.at' (k := 0) (by omega)
            have hgS := fun W : World => fun y : Value => only_setCell (World.grownBy.refl W (some g6)) (p := ⟨g6, 0, none⟩) rfl y
            have ht1 := hide (hT.out.set0 rfl (k := 0) (by omega) p)
            have hd1 := hide (hD.out.row hT.out.o0 (Nat.lt_succ_self _) (hgS _ (.int .i64 p)))
            clear hgS
            go_wp2_with fail
            replace hT := ht1
            replace hD := hd1
            clear ht1 hd1 c6 f6
            refine (pick_any _ g _ _ hD.out.2.2 (by omega)).mono ?_
            rintro e w2 ⟨z, rfl, z0, _, z2, hg, hs⟩
            replace hT := hide (hT.out.src (Nat.lt_succ_self _) hg)
            replace hD := hide (hD.out.step hg hs)
            clear hg hs
            clear z2
            obtain ⟨C0, d0, hv0, _⟩ := hT.out.o0.slice
            obtain ⟨C1, d1, hv1, _⟩ := hT.out.o1.slice
            have hR0 := hT.out.o0
            have hR1 := hT.out.o1
            rw [hv0] at hR0
            rw [hv1] at hR1
            have hV0 := hide hv0
            have hV1 := hide hv1
            clear hv0 hv1
            go_wp2
            have hK0 : (a.set 0 p).length ≤ 100 := by first | omega | (simp; omega)
            have hK1 : b.length ≤ 100 := by first | omega | (simp; omega)
            exact bodyPost_ret (v := .tuple #[.slice (some ⟨g6, 0, none⟩) j k6, u7, .int .i64 z]) (by simp [results, Try.results12, go_sem]) rfl ⟨C0, _, d0, _, C1, _, d1, _, z, by first | (rw [hV0.out, hV1.out]; done) | (rw [← hV0.out, ← hV1.out, ha]; done) | (rw [← hV0.out, ← hV1.out, hb]; done) | (rw [← hV0.out, ← hV1.out]; done), hK0, hK1, hR0.arr i64c_len, hR1.arr i64c_len, hD.out.1⟩
          · skip
            go_wp2_with fail
            refine (pick_any _ g _ _ hD.out.2.2 (by omega)).mono ?_
            rintro e w2 ⟨z, rfl, z0, _, z2, hg, hs⟩
            replace hT := hide (hT.out.src (Nat.lt_succ_self _) hg)
            replace hD := hide (hD.out.step hg hs)
            clear hg hs
            clear z2
            obtain ⟨C0, d0, hv0, _⟩ := hT.out.o0.slice
            obtain ⟨C1, d1, hv1, _⟩ := hT.out.o1.slice
            have hR0 := hT.out.o0
            have hR1 := hT.out.o1
            rw [hv0] at hR0
            rw [hv1] at hR1
            have hV0 := hide hv0
            have hV1 := hide hv1
            clear hv0 hv1
            go_wp2
            have hK0 : a.length ≤ 100 := by first | omega | (simp; omega)
            have hK1 : b.length ≤ 100 := by first | omega | (simp; omega)
            exact bodyPost_ret (v := .tuple #[u6, u7, .int .i64 z]) (by simp [results, Try.results12, go_sem]) rfl ⟨C0, _, d0, _, C1, _, d1, _, z, by first | (rw [hV0.out, hV1.out]; done) | (rw [← hV0.out, ← hV1.out, ha]; done) | (rw [← hV0.out, ← hV1.out, hb]; done) | (rw [← hV0.out, ← hV1.out]; done), hK0, hK1, hR0.arr i64c_len, hR1.arr i64c_len, hD.out.1⟩
        · by_cases hN2 : 0 < N
          · skip
            go_wp2_with fail
            refine (among_any _ g _ _ 4 _ [-1, 0, 10000, 10001] (hD.out.2.2.alloc _) (by omega) (by omega) (by omega) (Nat.ne_of_gt hD.out.2.2.lt) (lit_ints _ _ _ _ _ rfl rfl)).mono ?_
            rintro e w2 ⟨p, rfl, _, hg0, hs⟩
            have hg := grown_two (World.grownBy_alloc _ _ _) hg0
            replace hT := hide (hT.out.src (Nat.lt_succ_self _) hg)
            clear hg0
            replace hD := hide (hD.out.step hg hs)
            clear hg hs
            obtain ⟨g6, k6, x6, rfl, b6, l6, _, c6, f6⟩ := hT.out.o1.at' (k := 0) (by omega)
            have hgS := fun W : World => fun y : Value => only_setCell (World.grownBy.refl W (some g6)) (p := ⟨g6, 0, none⟩) rfl y
            have ht1 := hide (hT.out.set1 rfl (k := 0) (by omega) p)
            have hd1 := hide (hD.out.row hT.out.o1 (Nat.lt_succ_self _) (hgS _ (.int .i64 p)))
            clear hgS
            go_wp2_with fail
            replace hT := ht1
            replace hD := hd1
            clear ht1 hd1 c6 f6
            refine (pick_any _ g _ _ hD.out.2.2 (by omega)).mono ?_
            rintro e w2 ⟨z, rfl, z0, _, z2, hg, hs⟩
            replace hT := hide (hT.out.src (Nat.lt_succ_self _) hg)
            replace hD := hide (hD.out.step hg hs)
            clear hg hs
            clear z2
            obtain ⟨C0, d0, hv0, _⟩ := hT.out.o0.slice
            obtain ⟨C1, d1, hv1, _⟩ := hT.out.o1.slice
            have hR0 := hT.out.o0
            have hR1 := hT.out.o1
            rw [hv0] at hR0
            rw [hv1] at hR1
            have hV0 := hide hv0
            have hV1 := hide hv1
            clear hv0 hv1
            go_wp2
            have hK0 : a.length ≤ 100 := by first | omega | (simp; omega)
            have hK1 : (b.set 0 p).length ≤ 100 := by first | omega | (simp; omega)
            exact bodyPost_ret (v := .tuple #[u6, .slice (some ⟨g6, 0, none⟩) j k6, .int .i64 z]) (by simp [results, Try.results12, go_sem]) rfl ⟨C0, _, d0, _, C1, _, d1, _, z, by first | (rw [hV0.out, hV1.out]; done) | (rw [← hV0.out, ← hV1.out, ha]; done) | (rw [← hV0.out, ← hV1.out, hb]; done) | (rw [← hV0.out, ← hV1.out]; done), hK0, hK1, hR0.arr i64c_len, hR1.arr i64c_len, hD.out.1⟩
          · skip
            go_wp2_with fail
            refine (pick_any _ g _ _ hD.out.2.2 (by omega)).mono ?_
            rintro e w2 ⟨z, rfl, z0, _, z2, hg, hs⟩
            replace hT := hide (hT.out.src (Nat.lt_succ_self _) hg)
            replace hD := hide (hD.out.step hg hs)
            clear hg hs
            clear z2
            obtain ⟨C0, d0, hv0, _⟩ := hT.out.o0.slice
            obtain ⟨C1, d1, hv1, _⟩ := hT.out.o1.slice
            have hR0 := hT.out.o0
            have hR1 := hT.out.o1
            rw [hv0] at hR0
            rw [hv1] at hR1
            have hV0 := hide hv0
            have hV1 := hide hv1
            clear hv0 hv1
            go_wp2
            have hK0 : a.length ≤ 100 := by first | omega | (simp; omega)
            have hK1 : b.length ≤ 100 := by first | omega | (simp; omega)
            exact bodyPost_ret (v := .tuple #[u6, u7, .int .i64 z]) (by simp [results, Try.results12, go_sem]) rfl ⟨C0, _, d0, _, C1, _, d1, _, z, by first | (rw [hV0.out, hV1.out]; done) | (rw [← hV0.out, ← hV1.out, ha]; done) | (rw [← hV0.out, ← hV1.out, hb]; done) | (rw [← hV0.out, ← hV1.out]; done), hK0, hK1, hR0.arr i64c_len, hR1.arr i64c_len, hD.out.1⟩
        · have e0 : (y == 0) = false := by simp; omega
          have e1 : (y == 1) = false := by simp; omega
          have e2 : (y == 2) = false := by simp; omega
          go_wp2_with fail
          refine (pick_any _ g _ _ hD.out.2.2 (by omega)).mono ?_
          rintro e w2 ⟨z, rfl, z0, _, z2, hg, hs⟩
          replace hT := hide (hT.out.src (Nat.lt_succ_self _) hg)
          replace hD := hide (hD.out.step hg hs)
          clear hg hs
          clear z2
          obtain ⟨C0, d0, hv0, _⟩ := hT.out.o0.slice
          obtain ⟨C1, d1, hv1, _⟩ := hT.out.o1.slice
          have hR0 := hT.out.o0
          have hR1 := hT.out.o1
          rw [hv0] at hR0
          rw [hv1] at hR1
          have hV0 := hide hv0
          have hV1 := hide hv1
          clear hv0 hv1
          go_wp2
          have hK0 : a.length ≤ 100 := by first | omega | (simp; omega)
          have hK1 : b.length ≤ 100 := by first | omega | (simp; omega)
          exact bodyPost_ret (v := .tuple #[u6, u7, .int .i64 z]) (by simp [results, Try.results12, go_sem]) rfl ⟨C0, _, d0, _, C1, _, d1, _, z, by first | (rw [hV0.out, hV1.out]; done) | (rw [← hV0.out, ← hV1.out, ha]; done) | (rw [← hV0.out, ← hV1.out, hb]; done) | (rw [← hV0.out, ← hV1.out]; done), hK0, hK1, hR0.arr i64c_len, hR1.arr i64c_len, hD.out.1⟩
end Go.Proofs.Ytldnnlgekhjebaa
