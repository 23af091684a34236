/- Contracts of the drawn costs: any costs. No statement is proved here. -/
import Derived.Test.YtldnnlgekhjebaaSalA
import Derived.Test.YtldnnlgekhjebaaBox
import Derived.Test.YtldnnlgekhjebaaSCost
namespace Go.Proofs.Ytldnnlgekhjebaa
open Go.ChangeShapes Go.WideShapes Go.ChangeAt Go.RowKit Go.Deep
set_option maxRecDepth 100000
theorem info_Cost' : (Try.prog.info? 45).map (fun i => (i.zero, i.size, i.bytes)) = some (some (.agg #[.int .i64 0, .int .i64 0]), 2, 16) := by kernel_rfl
def Drew26 (w : World) (g m : Nat) (e : Ending) (w' : World) : Prop := ∃ (A : Option Addr) (n c : Nat) (l : List Cost), e = .returned (.slice A n c) ∧ n ≤ 100 ∧ Own Cost.cells 45 2 w' w.heap.size (.slice A n c) n l ∧ w.grownBy w' (some g) ∧ Src w' g m
theorem Cost.one : ∀ x, ∀ u ∈ Cost.cells x, u.oneCell' = true := by intro x u hu; simp [Cost.cells] at hu; rcases hu with rfl | rfl <;> rfl
theorem own_cost2 {e : TypeId} {w : World} {base g n c : Nat} {l : List Cost} (h : Own Cost.cells e 2 w base (.slice (some ⟨g, 0, none⟩) n c) n l) {k : Nat} (hk : k < l.length) :
    l[k]? = some l[k] ∧ w.cell? ⟨g, k * 2, none⟩ = some (.int .i64 l[k].fUnits) ∧ w.cell? ⟨g, k * 2 + 1, none⟩ = some (.int .i64 l[k].fHundred) ∧ w.frozen? ⟨g, k * 2, none⟩ = false ∧ w.frozen? ⟨g, k * 2 + 1, none⟩ = false := by
  have hn := h.len
  have hx : l[k]? = some l[k] := List.getElem?_eq_getElem hk
  refine ⟨hx, ?_, ?_, h.2.frozenAt _, h.2.frozenAt _⟩
  · have := h.2.cells (g := g) rfl (k * 2 + 0) (.int .i64 l[k].fUnits) (by rw [flat_get Cost.len l k 0 (by omega), hx]; rfl)
    simpa [Addr.add_lit] using this
  · have := h.2.cells (g := g) rfl (k * 2 + 1) (.int .i64 l[k].fHundred) (by rw [flat_get Cost.len l k 1 (by omega), hx]; rfl)
    simpa [Addr.add_lit] using this
set_option maxHeartbeats 1000000 in
theorem draw26_any (w : World) (g m : Nat) (hs : Src w g m) (hm : m ≤ 900000000) :
    Calls Try.prog 41 #[.pointer (some ⟨g, 0, none⟩)] w fun e w' => Drew26 w g (m + 200) e w' := by
  have hD : Hid (PS w w g m) := hide (PS.first hs)
  have hgw : Hid (g < w.heap.size) := hide hs.lt
  clear hs
  have hO := hide (Own.none_made (cells := Cost.cells) (e := 45) (s := 2) w (Nat.le_refl _))
  replace hD := hide (hD.out.alloc (.cells #[] 45))
  go_enter Try.func41, Try.ntmps41
  go_wp2_with fail
  refine (pick_any _ g _ _ hD.out.2.2 (by omega)).mono ?_
  rintro e w2 ⟨x, rfl, x0, _, x2, hg, hs⟩
  replace hO := hide (hO.out.src hgw.out hg)
  replace hD := hide (hD.out.step hg hs)
  clear hg hs
  have x3 := x2 (by omega)
  clear x2
  go_wp2_with fail
  refine (one_any _ g _ _ hD.out.2.2 (by omega)).mono ?_
  rintro e w2 ⟨b, rfl, hg, hs⟩
  replace hO := hide (hO.out.src hgw.out hg)
  replace hD := hide (hD.out.step hg hs)
  clear hg hs
  obtain ⟨r0, hr0⟩ : ∃ r0, r0 = w.heap.size := ⟨_, rfl⟩
  have hr1 := hide hr0
  cases b
  · skip
    obtain ⟨N, hN⟩ : ∃ N, N = x := ⟨_, rfl⟩
    have hN0 : 0 ≤ N := by omega
    have hN1 : N ≤ 13 := by omega
    rw [← hN]
    clear hN
    go_wp2
    go_loopw [3, 5] (fun v i wr => ∃ (j : Nat) (a : List Cost), (j : Int) ≤ N ∧ i = .int .i64 (N - j) ∧ PS w wr g (m + 100 + 4 * j) ∧ Own Cost.cells 45 2 wr w.heap.size v j a) (fun _ i _ => (intOf i).toNat)
    case atStart => exact ⟨0, [], by omega, by simp, ⟨hD.out.1, hD.out.2.1, hD.out.2.2.more (by omega)⟩, hO.out⟩
    case round =>
      obtain ⟨j, a, hj, rfl, hd, ho⟩ := hrel
      replace hO := hide ho
      replace hD := hide hd
      clear hd ho
      by_cases hlt : 0 < N - j
      · have hlt' : (j : Int) < N := by omega
        have hwj : IntKind.i64.wrap (N - (j : Int) - 1) = N - (j : Int) - 1 := IntWalk.i64_in _ (by omega)
        go_wp2_with fail
        refine (pick_any _ g _ _ hD.out.2.2 (by omega)).mono ?_
        rintro e w2 ⟨p, rfl, p0, _, p2, hg, hs⟩
        replace hO := hide (hO.out.src hgw.out hg)
        replace hD := hide (hD.out.step hg hs)
        clear hg hs
        clear p2
        go_wp2_with fail
        refine (pick_any _ g _ _ (hD.out.2.2.alloc _) (by omega)).mono ?_
        rintro e w3 ⟨q, rfl, q0, _, q2, hg0, hs⟩
        clear q2
        obtain ⟨k, hk⟩ : ∃ k, k = w2.heap.size := ⟨_, rfl⟩
        have hK := hide (box_new hg0 hD.out.2.2.lt)
        have hg := grown_two (World.grownBy_alloc _ _ _) hg0
        have hne := hide (hO.out.ne_new (Nat.le_of_eq hk.symm))
        have hkw : Hid (w.heap.size ≤ k) := hide (by rw [hk]; exact hD.out.1.size)
        replace hO := hide (hO.out.src hgw.out hg)
        replace hD := hide (hD.out.step hg hs)
        rw [← hk] at hK ⊢
        clear hg0 hg hs hk
        obtain ⟨c0, c1, cf⟩ := row2 hK.out
        go_upto_region 10 with fail
        refine nameW (φ := fun W => W.heap[k]? = some (.cells #[.int .i64 p, .int .i64 q] 45 (0, 0)) ∧ Own Cost.cells 45 2 W w.heap.size u3 j a ∧ PS w W g (m + 100 + 4 * j + 2 + 2)) ⟨box_set hK.out 1 (.int .i64 q), hO.out.box (i := 1) (u := .int .i64 q) hne.out, hD.out.cell (i := 1) (u := .int .i64 q) hkw.out⟩ ?_
        rintro W3 ⟨hK3, ho3, hd3⟩
        clear c0 c1 cf hK
        obtain ⟨c0, c1, cf⟩ := row2 hK3
        replace hO := hide ho3
        replace hD := hide hd3
        clear hK3 ho3 hd3
        go_wp2_with (at_builtin; refine wpl_app2 rfl (.tmp 27) (.tmp 29) _ rfl Try.underlying34 info_Cost' rfl (by omega) (by omega) rfl hO.out (⟨p, q⟩ : Cost) _ rfl rfl rfl (Cost.one _) (by omega) hD.out.1.size ?_; intro v2 w3 ho hg hat)
        replace hD := hide (hD.out.row hO.out (Nat.le_refl _) hg)
        replace hO := hide ho
        clear ho hg hat c0 c1 cf
        go_roundw
        case rel => exact ⟨j + 1, a ++ [⟨p, q⟩], by omega, by go_num, ⟨hD.out.1, hD.out.2.1, hD.out.2.2.more (by omega)⟩, hO.out⟩
        case measure => simp [intOf]; omega
      · have hjN : (j : Int) = N := by omega
        by_cases hN2 : 0 < N
        · skip
          go_wp2_with fail
          refine (pick_any _ g _ _ hD.out.2.2 (by omega)).mono ?_
          rintro e w2 ⟨p, rfl, p0, p1, p2, hg, hs⟩
          replace hO := hide (hO.out.src hgw.out hg)
          replace hD := hide (hD.out.step hg hs)
          clear hg hs
          have pl : p < N := by rcases Int.lt_or_le 1 N with h | h; exact p2 h; have := p1 h; omega
          clear p1 p2
          obtain ⟨p, rfl⟩ := Int.eq_ofNat_of_zero_le p0
          rcases hO.out.form with ⟨_, h0, _⟩ | ⟨g6, cap, rfl, b6, l6, h6, h7⟩
          · exfalso; omega
          have hpj : (p : Int) < (j : Int) := by omega
          have hpa : p < a.length := by have := hO.out.len; omega
          go_wp2_with fail
          refine (pick_any _ g _ _ hD.out.2.2 (by omega)).mono ?_
          rintro e w2 ⟨y, rfl, y0, _, y2, hg, hs⟩
          replace hO := hide (hO.out.src hgw.out hg)
          replace hD := hide (hD.out.step hg hs)
          clear hg hs
          have y3 := y2 (by omega)
          clear y2
          rcases (by omega : y = 0 ∨ y = 1 ∨ 2 ≤ y) with rfl | rfl | h3
          · skip
            go_wp2_with fail
            refine (among_any _ g _ _ 5 _ [-1, 0, 100000, 100001, -9223372036854775808] (hD.out.2.2.alloc _) (by omega) (by omega) (by omega) (Nat.ne_of_gt hD.out.2.2.lt) (lit_ints _ _ _ _ _ rfl rfl)).mono ?_
            rintro e w2 ⟨z, rfl, _, hg0, hs⟩
            have hg := grown_two (World.grownBy_alloc _ _ _) hg0
            replace hO := hide (hO.out.src hgw.out hg)
            clear hg0
            replace hD := hide (hD.out.step hg hs)
            clear hg hs
            have hf := hide (hO.out.2.frozenAt (p * 2 + 0))
            obtain ⟨hx, cc0, cc1, cf0, cf1⟩ := own_cost2 hO.out hpa
            have hO2 := hide (hO.out.cell (k := p) (j := 0) (x := a[p]) (x' := (⟨z, a[p].fHundred⟩ : Cost)) (u := .int .i64 z) Cost.len hx (by omega) rfl)
            have hD2 := hide (hD.out.row (w' := _) hO.out (Nat.le_refl _) (grown_set _ g6 (p * 2 + 0) (.int .i64 z)))
            go_wp2_with fail
            go_ret
            exact ⟨_, j, cap, _, rfl, by omega, hO2.out, hD2.out.1, hD2.out.2.2.more (by omega)⟩
          · skip
            go_wp2_with fail
            refine (among_any _ g _ _ 4 _ [-1, 0, 100000, 100001] (hD.out.2.2.alloc _) (by omega) (by omega) (by omega) (Nat.ne_of_gt hD.out.2.2.lt) (lit_ints _ _ _ _ _ rfl rfl)).mono ?_
            rintro e w2 ⟨z, rfl, _, hg0, hs⟩
            have hg := grown_two (World.grownBy_alloc _ _ _) hg0
            replace hO := hide (hO.out.src hgw.out hg)
            clear hg0
            replace hD := hide (hD.out.step hg hs)
            clear hg hs
            have hf := hide (hO.out.2.frozenAt (p * 2 + 1))
            obtain ⟨hx, cc0, cc1, cf0, cf1⟩ := own_cost2 hO.out hpa
            have hO2 := hide (hO.out.cell (k := p) (j := 1) (x := a[p]) (x' := (⟨a[p].fUnits, z⟩ : Cost)) (u := .int .i64 z) Cost.len hx (by omega) rfl)
            have hD2 := hide (hD.out.row (w' := _) hO.out (Nat.le_refl _) (grown_set _ g6 (p * 2 + 1) (.int .i64 z)))
            go_wp2_with fail
            go_ret
            exact ⟨_, j, cap, _, rfl, by omega, hO2.out, hD2.out.1, hD2.out.2.2.more (by omega)⟩
          · have e0 : (y == 0) = false := by simp; omega
            have e1 : (y == 1) = false := by simp; omega
            obtain ⟨C0, d0, hv0, _⟩ := hO.out.slice
            have hR0 := hO.out
            rw [hv0] at hR0
            have hV0 := hide hv0
            clear hv0
            go_wp2
            go_ret
            exact ⟨C0, _, d0, _, by rw [← hV0.out]; rfl, by omega, hR0, hD.out.1, hD.out.2.2.more (by omega)⟩
        · skip
          obtain ⟨C0, d0, hv0, _⟩ := hO.out.slice
          have hR0 := hO.out
          rw [hv0] at hR0
          have hV0 := hide hv0
          clear hv0
          go_wp2
          go_ret
          exact ⟨C0, _, d0, _, by rw [← hV0.out]; rfl, by omega, hR0, hD.out.1, hD.out.2.2.more (by omega)⟩
  · skip
    go_wp2_with fail
    refine (pick_any _ g _ _ hD.out.2.2 (by omega)).mono ?_
    rintro e w2 ⟨x', rfl, x0', _, x2', hg, hs⟩
    replace hO := hide (hO.out.src hgw.out hg)
    replace hD := hide (hD.out.step hg hs)
    clear hg hs
    have x3' := x2' (by omega)
    clear x2'
    obtain ⟨N, hN⟩ : ∃ N, N = 12 + x' := ⟨_, rfl⟩
    have hN0 : 0 ≤ N := by omega
    have hN1 : N ≤ 13 := by omega
    have hw : IntKind.i64.wrap (12 + x') = N := by rw [hN]; exact IntWalk.i64_in _ (by omega)
    clear hN
    go_wp2
    go_loopw [3, 5] (fun v i wr => ∃ (j : Nat) (a : List Cost), (j : Int) ≤ N ∧ i = .int .i64 (N - j) ∧ PS w wr g (m + 100 + 4 * j) ∧ Own Cost.cells 45 2 wr w.heap.size v j a) (fun _ i _ => (intOf i).toNat)
    case atStart => exact ⟨0, [], by omega, by simp, ⟨hD.out.1, hD.out.2.1, hD.out.2.2.more (by omega)⟩, hO.out⟩
    case round =>
      obtain ⟨j, a, hj, rfl, hd, ho⟩ := hrel
      replace hO := hide ho
      replace hD := hide hd
      clear hd ho
      by_cases hlt : 0 < N - j
      · have hlt' : (j : Int) < N := by omega
        have hwj : IntKind.i64.wrap (N - (j : Int) - 1) = N - (j : Int) - 1 := IntWalk.i64_in _ (by omega)
        go_wp2_with fail
        refine (pick_any _ g _ _ hD.out.2.2 (by omega)).mono ?_
        rintro e w2 ⟨p, rfl, p0, _, p2, hg, hs⟩
        replace hO := hide (hO.out.src hgw.out hg)
        replace hD := hide (hD.out.step hg hs)
        clear hg hs
        clear p2
        go_wp2_with fail
        refine (pick_any _ g _ _ (hD.out.2.2.alloc _) (by omega)).mono ?_
        rintro e w3 ⟨q, rfl, q0, _, q2, hg0, hs⟩
        clear q2
        obtain ⟨k, hk⟩ : ∃ k, k = w2.heap.size := ⟨_, rfl⟩
        have hK := hide (box_new hg0 hD.out.2.2.lt)
        have hg := grown_two (World.grownBy_alloc _ _ _) hg0
        have hne := hide (hO.out.ne_new (Nat.le_of_eq hk.symm))
        have hkw : Hid (w.heap.size ≤ k) := hide (by rw [hk]; exact hD.out.1.size)
        replace hO := hide (hO.out.src hgw.out hg)
        replace hD := hide (hD.out.step hg hs)
        rw [← hk] at hK ⊢
        clear hg0 hg hs hk
        obtain ⟨c0, c1, cf⟩ := row2 hK.out
        go_upto_region 10 with fail
        refine nameW (φ := fun W => W.heap[k]? = some (.cells #[.int .i64 p, .int .i64 q] 45 (0, 0)) ∧ Own Cost.cells 45 2 W w.heap.size u3 j a ∧ PS w W g (m + 100 + 4 * j + 2 + 2)) ⟨box_set hK.out 1 (.int .i64 q), hO.out.box (i := 1) (u := .int .i64 q) hne.out, hD.out.cell (i := 1) (u := .int .i64 q) hkw.out⟩ ?_
        rintro W3 ⟨hK3, ho3, hd3⟩
        clear c0 c1 cf hK
        obtain ⟨c0, c1, cf⟩ := row2 hK3
        replace hO := hide ho3
        replace hD := hide hd3
        clear hK3 ho3 hd3
        go_wp2_with (at_builtin; refine wpl_app2 rfl (.tmp 27) (.tmp 29) _ rfl Try.underlying34 info_Cost' rfl (by omega) (by omega) rfl hO.out (⟨p, q⟩ : Cost) _ rfl rfl rfl (Cost.one _) (by omega) hD.out.1.size ?_; intro v2 w3 ho hg hat)
        replace hD := hide (hD.out.row hO.out (Nat.le_refl _) hg)
        replace hO := hide ho
        clear ho hg hat c0 c1 cf
        go_roundw
        case rel => exact ⟨j + 1, a ++ [⟨p, q⟩], by omega, by go_num, ⟨hD.out.1, hD.out.2.1, hD.out.2.2.more (by omega)⟩, hO.out⟩
        case measure => simp [intOf]; omega
      · have hjN : (j : Int) = N := by omega
        by_cases hN2 : 0 < N
        · skip
          go_wp2_with fail
          refine (pick_any _ g _ _ hD.out.2.2 (by omega)).mono ?_
          rintro e w2 ⟨p, rfl, p0, p1, p2, hg, hs⟩
          replace hO := hide (hO.out.src hgw.out hg)
          replace hD := hide (hD.out.step hg hs)
          clear hg hs
          have pl : p < N := by rcases Int.lt_or_le 1 N with h | h; exact p2 h; have := p1 h; omega
          clear p1 p2
          obtain ⟨p, rfl⟩ := Int.eq_ofNat_of_zero_le p0
          rcases hO.out.form with ⟨_, h0, _⟩ | ⟨g6, cap, rfl, b6, l6, h6, h7⟩
          · exfalso; omega
          have hpj : (p : Int) < (j : Int) := by omega
          have hpa : p < a.length := by have := hO.out.len; omega
          go_wp2_with fail
          refine (pick_any _ g _ _ hD.out.2.2 (by omega)).mono ?_
          rintro e w2 ⟨y, rfl, y0, _, y2, hg, hs⟩
          replace hO := hide (hO.out.src hgw.out hg)
          replace hD := hide (hD.out.step hg hs)
          clear hg hs
          have y3 := y2 (by omega)
          clear y2
          rcases (by omega : y = 0 ∨ y = 1 ∨ 2 ≤ y) with rfl | rfl | h3
          · skip
            go_wp2_with fail
            refine (among_any _ g _ _ 5 _ [-1, 0, 100000, 100001, -9223372036854775808] (hD.out.2.2.alloc _) (by omega) (by omega) (by omega) (Nat.ne_of_gt hD.out.2.2.lt) (lit_ints _ _ _ _ _ rfl rfl)).mono ?_
            rintro e w2 ⟨z, rfl, _, hg0, hs⟩
            have hg := grown_two (World.grownBy_alloc _ _ _) hg0
            replace hO := hide (hO.out.src hgw.out hg)
            clear hg0
            replace hD := hide (hD.out.step hg hs)
            clear hg hs
            have hf := hide (hO.out.2.frozenAt (p * 2 + 0))
            obtain ⟨hx, cc0, cc1, cf0, cf1⟩ := own_cost2 hO.out hpa
            have hO2 := hide (hO.out.cell (k := p) (j := 0) (x := a[p]) (x' := (⟨z, a[p].fHundred⟩ : Cost)) (u := .int .i64 z) Cost.len hx (by omega) rfl)
            have hD2 := hide (hD.out.row (w' := _) hO.out (Nat.le_refl _) (grown_set _ g6 (p * 2 + 0) (.int .i64 z)))
            go_wp2_with fail
            go_ret
            exact ⟨_, j, cap, _, rfl, by omega, hO2.out, hD2.out.1, hD2.out.2.2.more (by omega)⟩
          · skip
            go_wp2_with fail
            refine (among_any _ g _ _ 4 _ [-1, 0, 100000, 100001] (hD.out.2.2.alloc _) (by omega) (by omega) (by omega) (Nat.ne_of_gt hD.out.2.2.lt) (lit_ints _ _ _ _ _ rfl rfl)).mono ?_
            rintro e w2 ⟨z, rfl, _, hg0, hs⟩
            have hg := grown_two (World.grownBy_alloc _ _ _) hg0
            replace hO := hide (hO.out.src hgw.out hg)
            clear hg0
            replace hD := hide (hD.out.step hg hs)
            clear hg hs
            have hf := hide (hO.out.2.frozenAt (p * 2 + 1))
            obtain ⟨hx, cc0, cc1, cf0, cf1⟩ := own_cost2 hO.out hpa
            have hO2 := hide (hO.out.cell (k := p) (j := 1) (x := a[p]) (x' := (⟨a[p].fUnits, z⟩ : Cost)) (u := .int .i64 z) Cost.len hx (by omega) rfl)
            have hD2 := hide (hD.out.row (w' := _) hO.out (Nat.le_refl _) (grown_set _ g6 (p * 2 + 1) (.int .i64 z)))
            go_wp2_with fail
            go_ret
            exact ⟨_, j, cap, _, rfl, by omega, hO2.out, hD2.out.1, hD2.out.2.2.more (by omega)⟩
          · have e0 : (y == 0) = false := by simp; omega
            have e1 : (y == 1) = false := by simp; omega
            obtain ⟨C0, d0, hv0, _⟩ := hO.out.slice
            have hR0 := hO.out
            rw [hv0] at hR0
            have hV0 := hide hv0
            clear hv0
            go_wp2
            go_ret
            exact ⟨C0, _, d0, _, by rw [← hV0.out]; rfl, by omega, hR0, hD.out.1, hD.out.2.2.more (by omega)⟩
        · skip
          obtain ⟨C0, d0, hv0, _⟩ := hO.out.slice
          have hR0 := hO.out
          rw [hv0] at hR0
          have hV0 := hide hv0
          clear hv0
          go_wp2
          go_ret
          exact ⟨C0, _, d0, _, by rw [← hV0.out]; rfl, by omega, hR0, hD.out.1, hD.out.2.2.more (by omega)⟩
def DrewC (w : World) (e : Ending) (w' : World) : Prop := ∃ (A : Option Addr) (n c : Nat) (l : List Cost) (p : Int), e = .returned (.tuple #[.slice A n c, .int .i64 p]) ∧ n ≤ 100 ∧ Arr Cost.cells 2 w' w'.heap.size A n l ∧ Below w.heap.size w w'
theorem drawPrice_any (w : World) (A : Option Addr) (n c : Nat) (l : List Int) (hr : Arr u8c 1 w w.heap.size A n l) (hl : byteL l) (hc : c ≤ maxLen) (hn : n ≤ c) :
    Calls Try.prog 18 #[.slice A n c] w fun e w' => DrewC w e w' := by
  go_enter Try.func18, Try.ntmps18
  go_wp2_with fail
  refine (from_any _ A n c l hr hl hc hn).mono ?_
  rintro e w1 ⟨rfl, hb, hsz, hs1⟩
  have hD : Hid (DS w w1 w.heap.size 0) := hide ⟨hb, Nat.le_refl _, hs1⟩
  obtain ⟨g, hg⟩ : ∃ g, g = w.heap.size := ⟨_, rfl⟩
  rw [← hg] at hD ⊢
  have hgw : Hid (w.heap.size ≤ g) := hide (Nat.le_of_eq hg.symm)
  clear hb hs1 hg hsz
  go_wp2_with fail
  refine (draw26_any _ g _ hD.out.2.2 (by omega)).mono ?_
  rintro e w2 ⟨B, k, d, q, rfl, hk, ho, hg, hs⟩
  have hO := hide (ho.less hD.out.2.2.lt)
  replace hD := hide (hD.out.step hg hs)
  clear ho hg hs
  go_wp2_with fail
  refine (one_any _ g _ _ hD.out.2.2 (by omega)).mono ?_
  rintro e w2 ⟨b, rfl, hg, hs⟩
  replace hO := hide (hO.out.src (Nat.lt_succ_self _) hg)
  replace hD := hide (hD.out.step hg hs)
  clear hg hs
  cases b
  · skip
    go_wp2_with fail
    refine (pick_any _ g _ _ hD.out.2.2 (by omega)).mono ?_
    rintro e w2 ⟨y, rfl, y0, _, y2, hg, hs⟩
    replace hO := hide (hO.out.src (Nat.lt_succ_self _) hg)
    replace hD := hide (hD.out.step hg hs)
    clear hg hs
    clear y2
    go_wp2
    exact bodyPost_ret (v := .tuple #[.slice B k d, .int .i64 y]) (by simp [results, Try.results18, go_sem]) rfl ⟨B, k, d, q, y, rfl, hk, hO.out.arr Cost.len, hD.out.1⟩
  · skip
    go_wp2_with fail
    refine (among_any _ g _ _ 4 _ [-1, 0, 1000, 1001] (hD.out.2.2.alloc _) (by omega) (by omega) (by omega) (Nat.ne_of_gt hD.out.2.2.lt) (lit_ints _ _ _ _ _ rfl rfl)).mono ?_
    rintro e w2 ⟨y, rfl, _, hg0, hs⟩
    have hg := grown_two (World.grownBy_alloc _ _ _) hg0
    replace hO := hide (hO.out.src (Nat.lt_succ_self _) hg)
    clear hg0
    replace hD := hide (hD.out.step hg hs)
    clear hg hs
    go_wp2
    exact bodyPost_ret (v := .tuple #[.slice B k d, .int .i64 y]) (by simp [results, Try.results18, go_sem]) rfl ⟨B, k, d, q, y, rfl, hk, hO.out.arr Cost.len, hD.out.1⟩
theorem drawProfit_any (w : World) (A : Option Addr) (n c : Nat) (l : List Int) (hr : Arr u8c 1 w w.heap.size A n l) (hl : byteL l) (hc : c ≤ maxLen) (hn : n ≤ c) :
    Calls Try.prog 23 #[.slice A n c] w fun e w' => DrewC w e w' := by
  go_enter Try.func23, Try.ntmps23
  go_wp2_with fail
  refine (from_any _ A n c l hr hl hc hn).mono ?_
  rintro e w1 ⟨rfl, hb, hsz, hs1⟩
  have hD : Hid (DS w w1 w.heap.size 0) := hide ⟨hb, Nat.le_refl _, hs1⟩
  obtain ⟨g, hg⟩ : ∃ g, g = w.heap.size := ⟨_, rfl⟩
  rw [← hg] at hD ⊢
  have hgw : Hid (w.heap.size ≤ g) := hide (Nat.le_of_eq hg.symm)
  clear hb hs1 hg hsz
  go_wp2_with fail
  refine (draw26_any _ g _ hD.out.2.2 (by omega)).mono ?_
  rintro e w2 ⟨B, k, d, q, rfl, hk, ho, hg, hs⟩
  have hO := hide (ho.less hD.out.2.2.lt)
  replace hD := hide (hD.out.step hg hs)
  clear ho hg hs
  go_wp2_with fail
  refine (cents_any _ g _  hD.out.2.2 (by omega)).mono ?_
  rintro e w2 ⟨y, rfl, hg, hs⟩
  replace hO := hide (hO.out.src (Nat.lt_succ_self _) hg)
  replace hD := hide (hD.out.step hg hs)
  clear hg hs
  go_wp2
  exact bodyPost_ret (v := .tuple #[.slice B k d, .int .i64 y]) (by simp [results, Try.results23, go_sem]) rfl ⟨B, k, d, q, y, rfl, hk, hO.out.arr Cost.len, hD.out.1⟩
end Go.Proofs.Ytldnnlgekhjebaa
