/- Contracts of the drawn prices: any numbers. No statement is proved here. -/
import Derived.Test.YtldnnlgekhjebaaSrc
import Derived.Test.YtldnnlgekhjebaaTrio
namespace Go.Proofs.Ytldnnlgekhjebaa
open Go.ChangeShapes Go.WideShapes Go.ChangeAt Go.RowKit Go.Deep
set_option maxRecDepth 100000
theorem cents_any (w : World) (g m : Nat) (hs : Src w g m) (hm : m ≤ 999999990) :
    Calls Try.prog 31 #[.pointer (some ⟨g, 0, none⟩)] w fun e w' => ∃ x : Int, e = .returned (.int .i64 x) ∧ w.grownBy w' (some g) ∧ Src w' g (m + 4) := by
  go_enter Try.func31, Try.ntmps31
  go_wp2_with fail
  refine (one_any w g m _ hs (by omega)).mono ?_
  rintro e w1 ⟨b, rfl, hg1, hs1⟩
  have hG1 := hide hg1
  have hg := hs1.lt
  clear hg1
  cases b
  · go_wp2_with fail
    refine (pick_any w1 g (m + 2) _ hs1 (by omega)).mono ?_
    rintro e w2 ⟨x, rfl, _, _, _, hg2, hs2⟩
    have hG2 := hide hg2
    clear hg2
    go_wp2
    go_ret
    exact ⟨_, rfl, grown_two hG1.out hG2.out, hs2.more (by omega)⟩
  · go_wp2_with fail
    refine (among_any _ g (m + 2) w1.heap.size 6 _ [-1, 0, 1, 10000000, 10000001, -9223372036854775808] (hs1.alloc _) (by omega) (by omega) (by omega) (by omega) (lit_ints _ _ _ _ _ rfl rfl)).mono ?_
    rintro e w2 ⟨x, rfl, _, hg2, hs2⟩
    have hG2 := hide (grown_two (World.grownBy_alloc w1 _ _) hg2)
    clear hg2
    go_wp2
    go_ret
    exact ⟨_, rfl, grown_two hG1.out hG2.out, hs2.more (by omega)⟩
theorem drawBreak_any (w : World) (A : Option Addr) (n c : Nat) (l : List Int) (hr : Arr u8c 1 w w.heap.size A n l) (hl : byteL l) (hc : c ≤ maxLen) (hn : n ≤ c) :
    Calls Try.prog 6 #[.slice A n c] w fun e w' => ∃ x y z : Int, e = .returned (.tuple #[.int .i64 x, .int .i64 y, .int .i64 z]) ∧ Below w.heap.size w w' := by
  go_enter Try.func6, Try.ntmps6
  go_wp2_with fail
  refine (from_any _ A n c l hr hl hc hn).mono ?_
  rintro e w1 ⟨rfl, hb, hsz, hs1⟩
  have hD : Hid (DS w w1 w.heap.size 0) := hide ⟨hb, Nat.le_refl _, hs1⟩
  obtain ⟨g, hg⟩ : ∃ g, g = w.heap.size := ⟨_, rfl⟩
  rw [← hg] at hD ⊢
  have hgw : Hid (w.heap.size ≤ g) := hide (Nat.le_of_eq hg.symm)
  clear hb hs1 hg hsz
  go_wp2_with fail
  refine (cents_any _ g _  hD.out.2.2 (by omega)).mono ?_
  rintro e w2 ⟨x, rfl, hg, hs⟩
  replace hD := hide (hD.out.step hg hs)
  clear hg hs
  go_wp2_with fail
  refine (cents_any _ g _  hD.out.2.2 (by omega)).mono ?_
  rintro e w2 ⟨y, rfl, hg, hs⟩
  replace hD := hide (hD.out.step hg hs)
  clear hg hs
  go_wp2_with fail
  refine (cents_any _ g _  hD.out.2.2 (by omega)).mono ?_
  rintro e w2 ⟨z, rfl, hg, hs⟩
  replace hD := hide (hD.out.step hg hs)
  clear hg hs
  go_wp2
  exact bodyPost_ret (v := .tuple #[.int .i64 x, .int .i64 y, .int .i64 z]) (by simp [results, Try.results6, go_sem]) rfl ⟨x, y, z, rfl, hD.out.1⟩
theorem drawRound_any (w : World) (A : Option Addr) (n c : Nat) (l : List Int) (hr : Arr u8c 1 w w.heap.size A n l) (hl : byteL l) (hc : c ≤ maxLen) (hn : n ≤ c) :
    Calls Try.prog 9 #[.slice A n c] w fun e w' => ∃ x y : Int, e = .returned (.tuple #[.int .i64 x, .int .i64 y]) ∧ Below w.heap.size w w' := by
  go_enter Try.func9, Try.ntmps9
  go_wp2_with fail
  refine (from_any _ A n c l hr hl hc hn).mono ?_
  rintro e w1 ⟨rfl, hb, hsz, hs1⟩
  have hD : Hid (DS w w1 w.heap.size 0) := hide ⟨hb, Nat.le_refl _, hs1⟩
  obtain ⟨g, hg⟩ : ∃ g, g = w.heap.size := ⟨_, rfl⟩
  rw [← hg] at hD ⊢
  have hgw : Hid (w.heap.size ≤ g) := hide (Nat.le_of_eq hg.symm)
  clear hb hs1 hg hsz
  go_wp2_with fail
  refine (cents_any _ g _  hD.out.2.2 (by omega)).mono ?_
  rintro e w2 ⟨x, rfl, hg, hs⟩
  replace hD := hide (hD.out.step hg hs)
  clear hg hs
  go_wp2_with fail
  refine (among_any _ g _ _ 7 _ [0, 5, 50, 95, 99, -1, 100] (hD.out.2.2.alloc _) (by omega) (by omega) (by omega) (Nat.ne_of_gt hD.out.2.2.lt) (lit_ints _ _ _ _ _ rfl rfl)).mono ?_
  rintro e w2 ⟨y, rfl, _, hg0, hs⟩
  have hg := grown_two (World.grownBy_alloc _ _ _) hg0
  clear hg0
  replace hD := hide (hD.out.step hg hs)
  clear hg hs
  go_wp2
  exact bodyPost_ret (v := .tuple #[.int .i64 x, .int .i64 y]) (by simp [results, Try.results9, go_sem]) rfl ⟨x, y, rfl, hD.out.1⟩
theorem drawDozen_any (w : World) (A : Option Addr) (n c : Nat) (l : List Int) (hr : Arr u8c 1 w w.heap.size A n l) (hl : byteL l) (hc : c ≤ maxLen) (hn : n ≤ c) :
    Calls Try.prog 15 #[.slice A n c] w fun e w' => ∃ x y : Int, e = .returned (.tuple #[.int .i64 x, .int .i64 y]) ∧ Below w.heap.size w w' := by
  go_enter Try.func15, Try.ntmps15
  go_wp2_with fail
  refine (from_any _ A n c l hr hl hc hn).mono ?_
  rintro e w1 ⟨rfl, hb, hsz, hs1⟩
  have hD : Hid (DS w w1 w.heap.size 0) := hide ⟨hb, Nat.le_refl _, hs1⟩
  obtain ⟨g, hg⟩ : ∃ g, g = w.heap.size := ⟨_, rfl⟩
  rw [← hg] at hD ⊢
  have hgw : Hid (w.heap.size ≤ g) := hide (Nat.le_of_eq hg.symm)
  clear hb hs1 hg hsz
  go_wp2_with fail
  refine (cents_any _ g _  hD.out.2.2 (by omega)).mono ?_
  rintro e w2 ⟨x, rfl, hg, hs⟩
  replace hD := hide (hD.out.step hg hs)
  clear hg hs
  go_wp2_with fail
  refine (pick_any _ g _ _ hD.out.2.2 (by omega)).mono ?_
  rintro e w2 ⟨y, rfl, y0, _, y2, hg, hs⟩
  replace hD := hide (hD.out.step hg hs)
  clear hg hs
  have y3 := y2 (by omega)
  clear y2
  have hw : IntKind.i64.wrap (y - 1) = y - 1 := IntWalk.i64_in _ (by omega)
  go_wp2
  exact bodyPost_ret (v := .tuple #[.int .i64 x, .int .i64 (y - 1)]) (by simp [results, Try.results15, go_sem]) rfl ⟨x, _, rfl, hD.out.1⟩
end Go.Proofs.Ytldnnlgekhjebaa
