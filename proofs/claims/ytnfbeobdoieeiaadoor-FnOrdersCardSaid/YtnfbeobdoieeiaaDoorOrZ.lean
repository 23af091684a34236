/- Contracts of the drawn orders, further. No statement is proved here. -/
import Derived.Test.YtnfbeobdoieeiaaDoorOrY
import Derived.Test.YtnfbeobdoieeiaaDoorTrio
namespace Go.Proofs.YtnfbeobdoieeiaaDoor
open Go.ChangeShapes Go.WideShapes Go.ChangeAt Go.RowKit Go.Deep
set_option maxRecDepth 100000
theorem own_first {e : TypeId} {w : World} {base g n c : Nat} {l : List Order} (h : Own Order.cells e 5 w base (.slice (some ⟨g, 0, none⟩) n c) n l) (hn : 0 < n) :
    ∃ x, l[0]? = some x ∧ w.cell? ⟨g, 0, none⟩ = some (.string x.fWho) ∧ w.cell? ⟨g, 1, none⟩ = some (.int .i64 x.fMany) ∧ w.cell? ⟨g, 2, none⟩ = some (.int .i64 x.fEach) ∧ w.cell? ⟨g, 3, none⟩ = some (.int .i64 x.fFrom) ∧ w.cell? ⟨g, 4, none⟩ = some (.int .i64 x.fDue) ∧ ∀ j : Nat, w.frozen? ⟨g, j, none⟩ = false := by
  obtain ⟨x, hx, c0, c1, c2, c3, c4, _⟩ := h.Order_at hn
  exact ⟨x, hx, by simpa using c0, by simpa using c1, by simpa using c2, by simpa using c3, by simpa using c4, fun j => h.2.frozenAt _⟩
/-- One order of a row was spoilt, in no place but its own. -/
def Spoilt (W w' : World) (g m base g6 n c : Nat) (l : List Order) (e : Ending) : Prop :=
  e = .returned (.tuple #[]) ∧ PS W w' g m ∧ ∃ x : Order, x.fWho.size ≤ 100 ∧ Own Order.cells 35 5 w' base (.slice (some ⟨g6, 0, none⟩) n c) n (l.set 0 x)
theorem set_own {P : Prop} {e : TypeId} {W w : World} {base g g6 n c m i : Nat} {l : List Order} {x x' : Order} {u : Value} (hD : PS W w g m) (hb : W.heap.size ≤ base) (h : Own Order.cells e 5 w base (.slice (some ⟨g6, 0, none⟩) n c) n l)
    (hx : l[0]? = some x) (hi : i < 5) (hu : Order.cells x' = (Order.cells x).set i u) (k : PS W (w.setCell ⟨g6, i, none⟩ u) g m → Own Order.cells e 5 (w.setCell ⟨g6, i, none⟩ u) base (.slice (some ⟨g6, 0, none⟩) n c) n (l.set 0 x') → P) : P := by
  have h2 := h.cell (k := 0) Order.len hx hi hu
  rw [Nat.zero_mul, Nat.zero_add] at h2
  exact k (hD.row h hb (grown_set w g6 i u)) h2
theorem set_other4 {w : World} {k : Nat} {u v : Value} (h : w.cell? ⟨k, 3, none⟩ = some v) : (w.setCell ⟨k, 4, none⟩ u).cell? ⟨k, 3, none⟩ = some v := by
  rw [World.cell?_setCell_other _ _ _ _ (by simp)]; exact h
set_option maxHeartbeats 1000000 in
theorem spoil24_any (W w : World) (g m base g6 n c : Nat) (l : List Order) (hd : PS W w g m) (hm : m ≤ 900000000) (hb : W.heap.size ≤ base) (ho : Own Order.cells 35 5 w base (.slice (some ⟨g6, 0, none⟩) n c) n l) (hn : 0 < n) (hl : ∀ x ∈ l, x.fWho.size ≤ 100) :
    Calls Tryd.prog 35 #[.pointer (some ⟨g, 0, none⟩), .pointer (some ⟨g6, 0, none⟩)] w fun e w' => Spoilt W w' g (m + 10) base g6 n c l e := by
  have hD := hide hd
  have hgb : Hid (g < base) := hide (by have := hd.2.1; omega)
  have hO := hide ho
  clear hd ho
  go_enter Tryd.func35, Tryd.ntmps35
  go_wp2_with fail
  refine (pick_any _ g _ _ hD.out.2.2 (by omega)).mono ?_
  rintro e w2 ⟨y, rfl, y0, _, y2, hg, hs⟩
  replace hO := hide (hO.out.src hgb.out hg)
  replace hD := hide (hD.out.step hg hs)
  clear hg hs
  have y3 := y2 (by omega)
  clear y2
  obtain ⟨x, hx0, a0, a1, a2, a3, a4, af⟩ := own_first hO.out hn
  have hX := hide hx0
  have hxs : Hid (x.fWho.size ≤ 100) := hide (hl x (List.mem_of_getElem? hx0))
  clear hx0 hl a0 a1 a2 a3 a4 af
  rcases (by omega : y = 0 ∨ y = 1 ∨ y = 2 ∨ y = 3 ∨ y = 4) with rfl | rfl | rfl | rfl | rfl
  · skip
    go_wp2_with fail
    refine (text_any _ g _ _ 3 _ [⟨#[]⟩, ⟨#[66, 97, 107, 101, 114]⟩, ⟨#[97, 32, 98]⟩] (hD.out.2.2.alloc _) (by omega) (by omega) (by omega) (Nat.ne_of_gt hD.out.2.2.lt) (lit_strs _ _ _ _ _ rfl rfl)).mono ?_
    rintro e w2 ⟨z, rfl, hz, hg0, hs⟩
    have hg := grown_two (World.grownBy_alloc _ _ _) hg0
    clear hg0
    replace hO := hide (hO.out.src hgb.out hg)
    replace hD := hide (hD.out.step hg hs)
    clear hg hs
    have hzs : z.size ≤ 100 := by simp at hz; rcases hz with rfl | rfl | rfl <;> decide
    clear hz
    obtain ⟨x', hx', a0, a1, a2, a3, a4, af⟩ := own_first hO.out hn
    have hS := set_own (i := 0) (u := .string z) (x' := (⟨z, x.fMany, x.fEach, x.fFrom, x.fDue⟩ : Order)) hD.out hb hO.out hX.out (by omega) rfl And.intro
    have hS' := hide hS
    clear hS hx'
    go_wp2
    exact bodyPost_end (v := .tuple #[]) (by simp [results, Tryd.results35, go_sem]) rfl ⟨rfl, ⟨hS'.out.1.1, hS'.out.1.2.1, hS'.out.1.2.2.more (by omega)⟩, ⟨z, x.fMany, x.fEach, x.fFrom, x.fDue⟩, hzs, hS'.out.2⟩
  · skip
    go_wp2_with fail
    refine (among_any _ g _ _ 5 _ [-1, 0, 1, 100, 101] (hD.out.2.2.alloc _) (by omega) (by omega) (by omega) (Nat.ne_of_gt hD.out.2.2.lt) (lit_ints _ _ _ _ _ rfl rfl)).mono ?_
    rintro e w2 ⟨z, rfl, _, hg0, hs⟩
    have hg := grown_two (World.grownBy_alloc _ _ _) hg0
    clear hg0
    replace hO := hide (hO.out.src hgb.out hg)
    replace hD := hide (hD.out.step hg hs)
    clear hg hs
    obtain ⟨x', hx', a0, a1, a2, a3, a4, af⟩ := own_first hO.out hn
    have hS := set_own (i := 1) (u := .int .i64 z) (x' := (⟨x.fWho, z, x.fEach, x.fFrom, x.fDue⟩ : Order)) hD.out hb hO.out hX.out (by omega) rfl And.intro
    have hS' := hide hS
    clear hS hx'
    go_wp2
    exact bodyPost_end (v := .tuple #[]) (by simp [results, Tryd.results35, go_sem]) rfl ⟨rfl, ⟨hS'.out.1.1, hS'.out.1.2.1, hS'.out.1.2.2.more (by omega)⟩, ⟨x.fWho, z, x.fEach, x.fFrom, x.fDue⟩, hxs.out, hS'.out.2⟩
  · skip
    go_wp2_with fail
    refine (among_any _ g _ _ 5 _ [-1, 0, 1, 20, 21] (hD.out.2.2.alloc _) (by omega) (by omega) (by omega) (Nat.ne_of_gt hD.out.2.2.lt) (lit_ints _ _ _ _ _ rfl rfl)).mono ?_
    rintro e w2 ⟨z, rfl, _, hg0, hs⟩
    have hg := grown_two (World.grownBy_alloc _ _ _) hg0
    clear hg0
    replace hO := hide (hO.out.src hgb.out hg)
    replace hD := hide (hD.out.step hg hs)
    clear hg hs
    obtain ⟨x', hx', a0, a1, a2, a3, a4, af⟩ := own_first hO.out hn
    have hS := set_own (i := 2) (u := .int .i64 z) (x' := (⟨x.fWho, x.fMany, z, x.fFrom, x.fDue⟩ : Order)) hD.out hb hO.out hX.out (by omega) rfl And.intro
    have hS' := hide hS
    clear hS hx'
    go_wp2
    exact bodyPost_end (v := .tuple #[]) (by simp [results, Tryd.results35, go_sem]) rfl ⟨rfl, ⟨hS'.out.1.1, hS'.out.1.2.1, hS'.out.1.2.2.more (by omega)⟩, ⟨x.fWho, x.fMany, z, x.fFrom, x.fDue⟩, hxs.out, hS'.out.2⟩
  · skip
    go_wp2_with fail
    refine (among_any _ g _ _ 5 _ [-1, 0, 5000, 5001, -9223372036854775808] (hD.out.2.2.alloc _) (by omega) (by omega) (by omega) (Nat.ne_of_gt hD.out.2.2.lt) (lit_ints _ _ _ _ _ rfl rfl)).mono ?_
    rintro e w2 ⟨z, rfl, _, hg0, hs⟩
    have hg := grown_two (World.grownBy_alloc _ _ _) hg0
    clear hg0
    replace hO := hide (hO.out.src hgb.out hg)
    replace hD := hide (hD.out.step hg hs)
    clear hg hs
    obtain ⟨x', hx', a0, a1, a2, a3, a4, af⟩ := own_first hO.out hn
    have hS := set_own (i := 3) (u := .int .i64 z) (x' := (⟨x.fWho, x.fMany, x.fEach, z, x.fDue⟩ : Order)) hD.out hb hO.out hX.out (by omega) rfl And.intro
    have hS' := hide hS
    clear hS hx'
    go_wp2
    exact bodyPost_end (v := .tuple #[]) (by simp [results, Tryd.results35, go_sem]) rfl ⟨rfl, ⟨hS'.out.1.1, hS'.out.1.2.1, hS'.out.1.2.2.more (by omega)⟩, ⟨x.fWho, x.fMany, x.fEach, z, x.fDue⟩, hxs.out, hS'.out.2⟩
  · skip
    go_upto_region 10 with fail
    have hdr : Below w2.heap.size w2 w2.drew := below_drewN (Below.refl _ _) 1
    have hO0 := hO
    have hD0 := hD
    replace hO := hide (hO.out.below hdr)
    clear hdr hD
    obtain ⟨f1, hf1⟩ : ∃ f1, IntKind.i64.wrap (x.fFrom + 1) = f1 := ⟨_, rfl⟩
    have first3 : ∀ {W : World}, Own Order.cells 35 5 W base (.slice (some ⟨g6, 0, none⟩) n c) n l → W.cell? ⟨g6, 3, none⟩ = some (.int .i64 x.fFrom) := fun h => by obtain ⟨x', hx', _, _, _, a3, _⟩ := own_first h hn; rw [hX.out] at hx'; cases hx'; exact a3
    have hk1 : ∀ o : Obj, (w2.alloc o).drew.cell? ⟨g6, 3, none⟩ = some (.int .i64 x.fFrom) := fun o => first3 (hO0.out.below (show Below w2.heap.size w2 (w2.alloc o).drew from below_drewN ((Below.refl _ _).alloc (Nat.le_refl _) o) 1))
    have first4 : ∀ {W : World}, Own Order.cells 35 5 W base (.slice (some ⟨g6, 0, none⟩) n c) n l → W.cell? ⟨g6, 4, none⟩ = some (.int .i64 x.fDue) := fun h => by obtain ⟨x', hx', _, _, _, _, a4, _⟩ := own_first h hn; rw [hX.out] at hx'; cases hx'; exact a4
    have c3 := first3 hO.out
    have hfz : ∀ {W : World}, Own Order.cells 35 5 W base (.slice (some ⟨g6, 0, none⟩) n c) n l → ∀ j : Nat, W.frozen? ⟨g6, j, none⟩ = false := fun h j => h.2.frozenAt _
    go_region_held3 (fun w' => w'.cell? ⟨g6, 3, none⟩ = some (.int .i64 x.fFrom)) (first | go_keep | exact first3 hO.out | exact hk1 _ | (refine set_other4 ?_; exact first3 hO.out)) (first | (go_at_call 49; refine (among_any _ g _ _ 5 _ [-1, x.fFrom, f1, 5000, 5001] ((hD0.out.2.2.alloc _).below (below_drewN (Below.refl _ _) 1)) (by omega) (by omega) (by omega) (Nat.ne_of_gt hD0.out.2.2.lt) ((lit_ints _ _ _ _ _ rfl rfl).go (below_drewN (Below.refl _ _) 1))).mono ?_; rintro e w3 ⟨z, rfl, _, hg0, hs⟩; have hg := grown_two (grown_two (World.grownBy_alloc _ _ _) (grown_drewN _ 1 _)) hg0; clear hg0 c3; replace hO := hide (hO0.out.src hgb.out hg); have hD := hide (hD0.out.step hg hs); clear hO0 hD0; clear hg hs; have c3 := first3 hO.out; have c4 := first4 hO.out; have cf := hfz hO.out) | fail)
    have hS := set_own (i := 4) (u := .int .i64 z) (x' := (⟨x.fWho, x.fMany, x.fEach, x.fFrom, z⟩ : Order)) hD.out hb hO.out hX.out (by omega) rfl And.intro
    have hS' := hide hS
    clear hS c3 c4 cf
    go_wp2
    exact bodyPost_end (v := .tuple #[]) (by simp [results, Tryd.results35, go_sem]) rfl ⟨rfl, ⟨hS'.out.1.1, hS'.out.1.2.1, hS'.out.1.2.2.more (by omega)⟩, ⟨x.fWho, x.fMany, x.fEach, x.fFrom, z⟩, hxs.out, hS'.out.2⟩
def Drew24 (w : World) (g m : Nat) (e : Ending) (w' : World) : Prop := ∃ (A : Option Addr) (n c : Nat) (l : List Order), e = .returned (.slice A n c) ∧ n ≤ 100 ∧ Own Order.cells 35 5 w' w.heap.size (.slice A n c) n l ∧ (∀ x ∈ l, x.fWho.size ≤ 100) ∧ w.grownBy w' (some g) ∧ Src w' g m
theorem info_Ord : (Tryd.prog.info? 35).map (fun i => (i.zero, i.size, i.bytes)) = some (some (.agg #[.string ByteArray.empty, .int .i64 0, .int .i64 0, .int .i64 0, .int .i64 0]), 5, 48) := by kernel_rfl
theorem Order.one1 : ∀ x, ∀ u ∈ Order.cells x, u.oneCell' = true := by intro x u hu; simp [Order.cells] at hu; rcases hu with rfl | rfl | rfl | rfl | rfl <;> rfl
set_option maxHeartbeats 1000000 in
theorem draw24_any (w : World) (g m : Nat) (hs : Src w g m) (hm : m ≤ 800000000) :
    Calls Tryd.prog 23 #[.pointer (some ⟨g, 0, none⟩)] w fun e w' => Drew24 w g (m + 2000) e w' := by
  have hD : Hid (PS w w g m) := hide (PS.first hs)
  have hgw : Hid (g < w.heap.size) := hide hs.lt
  clear hs
  have hO := hide (Own.none_made (cells := Order.cells) (e := 35) (s := 5) w (Nat.le_refl _))
  replace hD := hide (hD.out.alloc (.cells #[] 35))
  go_enter Tryd.func23, Tryd.ntmps23
  go_wp2_with fail
  refine (pick_any _ g _ _ hD.out.2.2 (by omega)).mono ?_
  rintro e w2 ⟨x, rfl, x0, _, x2, hg, hs⟩
  replace hO := hide (hO.out.src hgw.out hg)
  replace hD := hide (hD.out.step hg hs)
  clear hg hs
  have x3 := x2 (by omega)
  clear x2
  go_wp2_with fail
  refine (one_any _ g _ _ hD.out.2.2 (by omega)).mono ?_
  rintro e w2 ⟨b, rfl, hg, hs⟩
  replace hO := hide (hO.out.src hgw.out hg)
  replace hD := hide (hD.out.step hg hs)
  clear hg hs
  cases b
  · skip
    obtain ⟨N, hN⟩ : ∃ N, N = x := ⟨_, rfl⟩
    have hN0 : 0 ≤ N := by omega
    have hN1 : N ≤ 31 := by omega
    rw [← hN]
    clear hN
    go_wp2
    go_loopw [3, 5] (fun v i wr => ∃ (j : Nat) (a : List Order), (j : Int) ≤ N ∧ i = .int .i64 (N - j) ∧ PS w wr g (m + 100 + 20 * j) ∧ Own Order.cells 35 5 wr w.heap.size v j a ∧ ∀ x ∈ a, x.fWho.size ≤ 100) (fun _ i _ => (intOf i).toNat)
    case atStart => exact ⟨0, [], by omega, by simp, ⟨hD.out.1, hD.out.2.1, hD.out.2.2.more (by omega)⟩, hO.out, by simp⟩
    case round =>
      obtain ⟨j, a, hj, rfl, hd, ho, hf⟩ := hrel
      replace hO := hide ho
      replace hD := hide hd
      have hF := hide hf
      clear hd ho hf
      by_cases hlt : 0 < N - j
      · have hlt' : (j : Int) < N := by omega
        have hwj : IntKind.i64.wrap (N - (j : Int) - 1) = N - (j : Int) - 1 := IntWalk.i64_in _ (by omega)
        go_wp2_with fail
        refine (new24_any _ g _ hD.out.2.2 (by omega)).mono ?_
        rintro e w2 ⟨q, rfl, hq, hg, hs⟩
        replace hO := hide (hO.out.src hgw.out hg)
        replace hD := hide (hD.out.step hg hs)
        clear hg hs
        go_wp2_with (at_builtin; refine wpl_app2 rfl (.tmp 19) (.tmp 22) _ rfl Tryd.underlying24 info_Ord rfl (by omega) (by omega) rfl hO.out q _ rfl rfl rfl (Order.one1 _) (by omega) hD.out.1.size ?_; intro v2 w3 ho hg hat)
        replace hD := hide (hD.out.row hO.out (Nat.le_refl _) hg)
        replace hO := hide ho
        clear ho hg hat
        go_roundw
        case rel => exact ⟨j + 1, a ++ [q], by omega, by go_num, ⟨hD.out.1, hD.out.2.1, hD.out.2.2.more (by omega)⟩, hO.out, fun z hz => by rcases List.mem_append.1 hz with h | h; exact hF.out z h; simp at h; subst h; exact hq⟩
        case measure => simp [intOf]; omega
      · have hjN : (j : Int) = N := by omega
        by_cases hN2 : 0 < N
        · skip
          go_wp2_with fail
          refine (one_any _ g _ _ hD.out.2.2 (by omega)).mono ?_
          rintro e w2 ⟨b', rfl, hg, hs⟩
          replace hO := hide (hO.out.src hgw.out hg)
          replace hD := hide (hD.out.step hg hs)
          clear hg hs
          cases b'
          · skip
            obtain ⟨C0, d0, hv0, _⟩ := hO.out.slice
            have hR0 := hO.out
            rw [hv0] at hR0
            have hV0 := hide hv0
            clear hv0
            go_wp2
            go_ret
            exact ⟨C0, _, d0, _, by rw [← hV0.out]; rfl, by omega, hR0, hF.out, hD.out.1, hD.out.2.2.more (by omega)⟩
          · rcases hO.out.form with ⟨_, h0, _⟩ | ⟨g6, cap, rfl, b6, l6, h6, h7⟩
            · exfalso; omega
            have hj0 : (0 : Int) < (j : Int) := by omega
            go_wp2_with fail
            refine (spoil24_any w _ g _ w.heap.size g6 j cap a hD.out (by omega) (Nat.le_refl _) hO.out (by omega) hF.out).mono ?_
            rintro e w2 ⟨rfl, hd, x9, hx9, ho⟩
            replace hD := hide hd
            replace hO := hide ho
            replace hF : Hid (∀ x ∈ a.set 0 x9, x.fWho.size ≤ 100) := hide (fun z hz => by rcases List.mem_or_eq_of_mem_set hz with h | h; exact hF.out z h; subst h; exact hx9)
            clear hd ho
            go_wp2
            go_ret
            exact ⟨_, j, cap, _, rfl, by omega, hO.out, hF.out, hD.out.1, hD.out.2.2.more (by omega)⟩
        · skip
          obtain ⟨C0, d0, hv0, _⟩ := hO.out.slice
          have hR0 := hO.out
          rw [hv0] at hR0
          have hV0 := hide hv0
          clear hv0
          go_wp2
          go_ret
          exact ⟨C0, _, d0, _, by rw [← hV0.out]; rfl, by omega, hR0, hF.out, hD.out.1, hD.out.2.2.more (by omega)⟩
  · skip
    go_wp2_with fail
    refine (pick_any _ g _ _ hD.out.2.2 (by omega)).mono ?_
    rintro e w2 ⟨x', rfl, x0', _, x2', hg, hs⟩
    replace hO := hide (hO.out.src hgw.out hg)
    replace hD := hide (hD.out.step hg hs)
    clear hg hs
    have x3' := x2' (by omega)
    clear x2'
    obtain ⟨N, hN⟩ : ∃ N, N = 30 + x' := ⟨_, rfl⟩
    have hN0 : 0 ≤ N := by omega
    have hN1 : N ≤ 31 := by omega
    have hw : IntKind.i64.wrap (30 + x') = N := by rw [hN]; exact IntWalk.i64_in _ (by omega)
    clear hN
    go_wp2
    go_loopw [3, 5] (fun v i wr => ∃ (j : Nat) (a : List Order), (j : Int) ≤ N ∧ i = .int .i64 (N - j) ∧ PS w wr g (m + 100 + 20 * j) ∧ Own Order.cells 35 5 wr w.heap.size v j a ∧ ∀ x ∈ a, x.fWho.size ≤ 100) (fun _ i _ => (intOf i).toNat)
    case atStart => exact ⟨0, [], by omega, by simp, ⟨hD.out.1, hD.out.2.1, hD.out.2.2.more (by omega)⟩, hO.out, by simp⟩
    case round =>
      obtain ⟨j, a, hj, rfl, hd, ho, hf⟩ := hrel
      replace hO := hide ho
      replace hD := hide hd
      have hF := hide hf
      clear hd ho hf
      by_cases hlt : 0 < N - j
      · have hlt' : (j : Int) < N := by omega
        have hwj : IntKind.i64.wrap (N - (j : Int) - 1) = N - (j : Int) - 1 := IntWalk.i64_in _ (by omega)
        go_wp2_with fail
        refine (new24_any _ g _ hD.out.2.2 (by omega)).mono ?_
        rintro e w2 ⟨q, rfl, hq, hg, hs⟩
        replace hO := hide (hO.out.src hgw.out hg)
        replace hD := hide (hD.out.step hg hs)
        clear hg hs
        go_wp2_with (at_builtin; refine wpl_app2 rfl (.tmp 19) (.tmp 22) _ rfl Tryd.underlying24 info_Ord rfl (by omega) (by omega) rfl hO.out q _ rfl rfl rfl (Order.one1 _) (by omega) hD.out.1.size ?_; intro v2 w3 ho hg hat)
        replace hD := hide (hD.out.row hO.out (Nat.le_refl _) hg)
        replace hO := hide ho
        clear ho hg hat
        go_roundw
        case rel => exact ⟨j + 1, a ++ [q], by omega, by go_num, ⟨hD.out.1, hD.out.2.1, hD.out.2.2.more (by omega)⟩, hO.out, fun z hz => by rcases List.mem_append.1 hz with h | h; exact hF.out z h; simp at h; subst h; exact hq⟩
        case measure => simp [intOf]; omega
      · have hjN : (j : Int) = N := by omega
        by_cases hN2 : 0 < N
        · skip
          go_wp2_with fail
          refine (one_any _ g _ _ hD.out.2.2 (by omega)).mono ?_
          rintro e w2 ⟨b', rfl, hg, hs⟩
          replace hO := hide (hO.out.src hgw.out hg)
          replace hD := hide (hD.out.step hg hs)
          clear hg hs
          cases b'
          · skip
            obtain ⟨C0, d0, hv0, _⟩ := hO.out.slice
            have hR0 := hO.out
            rw [hv0] at hR0
            have hV0 := hide hv0
            clear hv0
            go_wp2
            go_ret
            exact ⟨C0, _, d0, _, by rw [← hV0.out]; rfl, by omega, hR0, hF.out, hD.out.1, hD.out.2.2.more (by omega)⟩
          · rcases hO.out.form with ⟨_, h0, _⟩ | ⟨g6, cap, rfl, b6, l6, h6, h7⟩
            · exfalso; omega
            have hj0 : (0 : Int) < (j : Int) := by omega
            go_wp2_with fail
            refine (spoil24_any w _ g _ w.heap.size g6 j cap a hD.out (by omega) (Nat.le_refl _) hO.out (by omega) hF.out).mono ?_
            rintro e w2 ⟨rfl, hd, x9, hx9, ho⟩
            replace hD := hide hd
            replace hO := hide ho
            replace hF : Hid (∀ x ∈ a.set 0 x9, x.fWho.size ≤ 100) := hide (fun z hz => by rcases List.mem_or_eq_of_mem_set hz with h | h; exact hF.out z h; subst h; exact hx9)
            clear hd ho
            go_wp2
            go_ret
            exact ⟨_, j, cap, _, rfl, by omega, hO.out, hF.out, hD.out.1, hD.out.2.2.more (by omega)⟩
        · skip
          obtain ⟨C0, d0, hv0, _⟩ := hO.out.slice
          have hR0 := hO.out
          rw [hv0] at hR0
          have hV0 := hide hv0
          clear hv0
          go_wp2
          go_ret
          exact ⟨C0, _, d0, _, by rw [← hV0.out]; rfl, by omega, hR0, hF.out, hD.out.1, hD.out.2.2.more (by omega)⟩
end Go.Proofs.YtnfbeobdoieeiaaDoor
