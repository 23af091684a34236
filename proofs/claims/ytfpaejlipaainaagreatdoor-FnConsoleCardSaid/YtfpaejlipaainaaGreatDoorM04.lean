/- Texts that belong together, joined: contracts and plain laws. No statement is proved here. -/
import Derived.Test.YtfpaejlipaainaaGreatDoorM01
import Derived.Test.YtfpaejlipaainaaGreatDoorM03
import Derived.Deep.RegionWith
import Derived.Lib.ItoaNum
import Derived.Lib.ItoaLen
import Derived.Lib.SplitLaws
namespace Go.Proofs.YtfpaejlipaainaaGreatDoor
open Go.ChangeShapes Go.WideShapes Go.ChangeAt Go.RowKit Go.Deep
set_option maxRecDepth 100000
def byteL (l : List Int) : Prop := ∀ x ∈ l, 0 ≤ x ∧ x ≤ 255
def Src (w : World) (g m : Nat) : Prop :=
  ∃ A n c l at_ sd, w.heap[g]? = some (.cells #[.slice A n c, .int .i64 at_, .int .u64 sd] 95 (0, 0)) ∧ Arr u8c 1 w g A n l ∧ byteL l ∧ 0 ≤ at_ ∧ at_ ≤ (m : Int) ∧ c ≤ maxLen ∧ n ≤ c
theorem and255 (x : Int) : 0 ≤ wrap64 (bits .and .u64 x 255) ∧ wrap64 (bits .and .u64 x 255) ≤ 255 := by
  have h : bits .and .u64 x 255 = IntKind.u64.wrap ((BitVec.ofInt 64 x &&& BitVec.ofInt 64 255).toNat : Int) := rfl
  have h2 : (BitVec.ofInt 64 x &&& BitVec.ofInt 64 255).toNat ≤ 255 := by
    rw [BitVec.toNat_and]; exact Nat.and_le_right
  rw [h, IntKind.wrap_u64]
  unfold wrap64
  omega
theorem grown_drewN (w : World) (k : Nat) (row : Option Nat) : w.grownBy (w.drewN k) row := by
  have hb := below_drewN (Below.refl w.heap.size w) k
  exact ⟨hb.os, hb.tape, hb.output, hb.size, fun i hi _ => hb.block i hi⟩
theorem blk_setS {w : World} {g : Nat} {t : TypeId} {cs : Array Value} (h : w.heap[g]? = some (.cells cs t (0, 0))) (i : Nat) (u : Value) : (w.setCell ⟨g, i, none⟩ u).heap[g]? = some (.cells (cs.setIfInBounds i u) t (0, 0)) := by
  simp [World.setCell, Array.getElem?_modify, h]
theorem src_set {w W : World} {g : Nat} {a b c b' c' : Value} {t : TypeId} (k : Nat) (hb : w.heap[g]? = some (.cells #[a, b, c] t (0, 0)))
    (hW : W = ((w.drewN k).setCell ⟨g, 1, none⟩ b').setCell ⟨g, 2, none⟩ c') : W.heap[g]? = some (.cells #[a, b', c'] t (0, 0)) ∧ w.grownBy W (some g) := by
  subst hW
  refine ⟨?_, only_setCell (w := (w.drewN k).setCell ⟨g, 1, none⟩ b') (p := ⟨g, 2, none⟩) (only_setCell (w := w.drewN k) (p := ⟨g, 1, none⟩) (grown_drewN w k _) rfl _) rfl _⟩
  have h1 : (w.drewN k).heap[g]? = some (.cells #[a, b, c] t (0, 0)) := ((below_drewN (Below.refl w.heap.size w) k).block g (Array.getElem?_eq_some_iff.1 hb).1).trans hb
  rw [blk_setS (blk_setS h1 1 b') 2 c']; rfl
theorem src_cells {w : World} {g : Nat} {a b c : Value} {t : TypeId} (hb : w.heap[g]? = some (.cells #[a, b, c] t (0, 0))) :
    w.cell? ⟨g, 0, none⟩ = some a ∧ w.cell? ⟨g, 1, none⟩ = some b ∧ w.cell? ⟨g, 2, none⟩ = some c ∧ ∀ j : Nat, w.frozen? ⟨g, j, none⟩ = false :=
  ⟨by rw [cell_of_row _ _ _ _ _ _ hb]; rfl, by rw [cell_of_row _ _ _ _ _ _ hb]; rfl, by rw [cell_of_row _ _ _ _ _ _ hb]; rfl, fun j => frozen_of_row _ _ _ _ _ hb⟩
theorem grown_two {a b c : World} {row : Option Nat} (h : a.grownBy b row) (h' : b.grownBy c row) : a.grownBy c row :=
  ⟨h'.os.trans h.os, h'.tape.trans h.tape, h'.output.trans h.output, Nat.le_trans h.size h'.size, fun k hk hne => (h'.block k (Nat.lt_of_lt_of_le hk h.size) hne).trans (h.block k hk hne)⟩
theorem src_end {w W : World} {g m n c : Nat} {A : Option Addr} {l : List Int} {at_ sd : Int} (q : Nat) (hB : Hid (W.heap[g]? = some (.cells #[.slice A n c, .int .i64 at_, .int .u64 sd] 95 (0, 0)) ∧ w.grownBy W (some g)))
    (hg : g < w.heap.size) (hr : Arr u8c 1 w g A n l) (hl : byteL l) (h0 : 0 ≤ at_) (h1 : at_ ≤ (m : Int)) (hc : c ≤ maxLen) (hn : n ≤ c) : w.grownBy (W.drewN q) (some g) ∧ Src (W.drewN q) g m := by
  have hgr := grown_two hB.out.2 (grown_drewN W q (some g))
  refine ⟨hgr, A, n, c, l, at_, sd, ?_, hr.grown hgr (by omega) (fun k hk => by cases hk; exact Nat.le_refl _), hl, h0, h1, hc, hn⟩
  exact ((below_drewN (Below.refl W.heap.size W) q).block g (Array.getElem?_eq_some_iff.1 hB.out.1).1).trans hB.out.1
theorem nameW {P : Program} {co : Code} {K : Exit → Act → World → Prop} {a : Act} {W : World} {φ : World → Prop} (h : φ W) (k : ∀ W1, φ W1 → Code.wp P co K a W1) : Code.wp P co K a W := k W h
theorem next_any (w : World) (g m : Nat) (hs : Src w g m) (hm : m ≤ 1000000000) :
    Calls Tryz.prog 58 #[.pointer (some ⟨g, 0, none⟩)] w fun e w' => ∃ x : Int, e = .returned (.int .i64 x) ∧ 0 ≤ x ∧ x ≤ 255 ∧ w.grownBy w' (some g) ∧ Src w' g (m + 1) := by
  obtain ⟨A, n, c, l, at_, sd, hb, hr, hl, h0, h1, hc, hn⟩ := hs
  obtain ⟨c0, c1, c2, cf⟩ := src_cells hb
  have hgl : Hid (g < w.heap.size) := hide (Array.getElem?_eq_some_iff.1 hb).1
  have hB := hide hb
  have hR := hide hr
  have hw1 : IntKind.i64.wrap (at_ + 1) = at_ + 1 := IntWalk.i64_in _ (by omega)
  clear hb
  by_cases hlt : at_ < (n : Int)
  · obtain ⟨b, o, x, rfl, hbl, hx, d0⟩ := hr.u8 (k := at_.toNat) (by omega)
    have hX := hide hx
    have hx0 := hl x (List.mem_of_getElem? hx)
    obtain ⟨hx00, hx01⟩ := hx0
    have hx1 : IntKind.i64.wrap x = x := IntWalk.i64_in _ (by omega)
    have hle : at_ + 1 ≤ (n : Int) := by omega
    clear hx hr
    go_enter Tryz.func58, Tryz.ntmps58
    go_wp2
    go_quiet (fail)
    go_wp2
    go_quiet (fail)
    go_wp2
    refine nameW (φ := fun W1 => ∃ sd' : Int, W1.heap[g]? = some (.cells #[.slice (some ⟨b, o, none⟩) n c, .int .i64 (at_ + 1), .int .u64 sd'] 95 (0, 0)) ∧ w.grownBy W1 (some g)) ⟨_, src_set _ hB.out rfl⟩ ?_
    rintro W1 ⟨sd', hW1⟩
    obtain ⟨d0', d1', d2', df⟩ := src_cells hW1.1
    have hE := hide hW1
    clear hW1 c0 c1 c2 cf d0
    go_quiet (fail)
    go_wp2
    go_ret
    exact ⟨x, rfl, hx00, hx01, src_end _ hE hgl.out hR.out hl (by omega) (by omega) hc hn⟩
  · have hlt' : ¬ at_ + 1 ≤ (n : Int) := by omega
    go_enter Tryz.func58, Tryz.ntmps58
    go_wp2
    go_quiet (fail)
    go_wp2
    refine nameW (φ := fun W1 => ∃ sd' : Int, W1.heap[g]? = some (.cells #[.slice A n c, .int .i64 (at_ + 1), .int .u64 sd'] 95 (0, 0)) ∧ w.grownBy W1 (some g)) ⟨_, src_set _ hB.out rfl⟩ ?_
    rintro W1 ⟨sd', hW1⟩
    obtain ⟨d0', d1', d2', df⟩ := src_cells hW1.1
    have hE := hide hW1
    clear hW1 c0 c1 c2 cf
    go_quiet (fail)
    go_wp2
    go_ret
    exact ⟨_, rfl, (and255 _).1, (and255 _).2, src_end _ hE hgl.out hR.out hl (by omega) (by omega) hc hn⟩
theorem Src.more {w : World} {g m m' : Nat} (h : Src w g m) (hm : m ≤ m') : Src w g m' := by
  obtain ⟨A, n, c, l, at_, sd, hb, hr, hl, h0, h1, hc, hn⟩ := h
  exact ⟨A, n, c, l, at_, sd, hb, hr, hl, h0, by omega, hc, hn⟩
theorem pick_any (w : World) (g m : Nat) (n : Int) (hs : Src w g m) (hm : m ≤ 999999999) :
    Calls Tryz.prog 24 #[.pointer (some ⟨g, 0, none⟩), .int .i64 n] w fun e w' => ∃ x : Int, e = .returned (.int .i64 x) ∧ 0 ≤ x ∧ (n ≤ 1 → x = 0) ∧ (1 < n → x < n) ∧ w.grownBy w' (some g) ∧ Src w' g (m + 2) := by
  by_cases h1 : n ≤ 1
  · go_enter Tryz.func24, Tryz.ntmps24
    go_wp2
    go_ret
    exact ⟨0, rfl, by omega, fun _ => rfl, by omega, World.grownBy.refl _ _, hs.more (by omega)⟩
  · by_cases h2 : 200 < n
    · go_enter Tryz.func24, Tryz.ntmps24
      go_wp2_with fail
      refine (next_any w g m hs (by omega)).mono ?_
      rintro e w1 ⟨x, rfl, hx0, hx1, hg1, hs1⟩
      have hG1 := hide hg1
      clear hg1
      have hw1 : IntKind.i64.wrap (x * 256) = x * 256 := IntWalk.i64_in _ (by omega)
      go_wp2_with fail
      refine (next_any w1 g (m + 1) hs1 (by omega)).mono ?_
      rintro e w2 ⟨y, rfl, hy0, hy1, hg2, hs2⟩
      have hG2 := hide hg2
      clear hg2
      have hw2 : IntKind.i64.wrap (x * 256 + y) = x * 256 + y := IntWalk.i64_in _ (by omega)
      have hn0 : ¬ n = 0 := by omega
      go_wp2
      go_ret
      exact ⟨_, rfl, Int.emod_nonneg _ hn0, fun h => absurd h (by omega), fun _ => Int.emod_lt_of_pos _ (by omega), grown_two hG1.out hG2.out, hs2.more (by omega)⟩
    · go_enter Tryz.func24, Tryz.ntmps24
      go_wp2_with fail
      refine (next_any w g m hs (by omega)).mono ?_
      rintro e w1 ⟨x, rfl, hx0, hx1, hg1, hs1⟩
      have hG1 := hide hg1
      clear hg1
      have hn0 : ¬ n = 0 := by omega
      go_wp2
      go_ret
      exact ⟨_, rfl, Int.emod_nonneg _ hn0, fun h => absurd h (by omega), fun _ => Int.emod_lt_of_pos _ (by omega), hG1.out, hs1.more (by omega)⟩
theorem from_any (w : World) (A : Option Addr) (n c : Nat) (l : List Int) (hr : Arr u8c 1 w w.heap.size A n l) (hl : byteL l) (hc : c ≤ maxLen) (hn : n ≤ c) :
    Calls Tryz.prog 23 #[.slice A n c] w fun e w' => e = .returned (.pointer (some ⟨w.heap.size, 0, none⟩)) ∧ Below w.heap.size w w' ∧ w'.heap.size = w.heap.size + 1 ∧ Src w' w.heap.size 0 := by
  go_enter Tryz.func23, Tryz.ntmps23
  go_wp2
  go_ret
  refine ⟨rfl, by go_grown, by simp, A, n, c, l, 0, 0, heap_alloc_new _ _, hr.below (by go_grown), hl, by omega, by omega, hc, hn⟩
theorem Src.lt {w : World} {g m : Nat} (h : Src w g m) : g < w.heap.size := by
  obtain ⟨A, n, c, l, at_, sd, hb, _⟩ := h
  exact (Array.getElem?_eq_some_iff.1 hb).1
theorem Src.below {w w' : World} {g m : Nat} (h : Src w g m) (hb : Below w.heap.size w w') : Src w' g m := by
  have hg := h.lt
  obtain ⟨A, n, c, l, at_, sd, hk, hr, rest⟩ := h
  exact ⟨A, n, c, l, at_, sd, (hb.block g hg).trans hk, (hr.more (Nat.le_of_lt hg)).below hb |>.keep (fun _ _ => rfl) |> fun _ => hr.keep (fun p hp => hb.cell (by omega)), rest⟩
theorem Src.alloc {w : World} {g m : Nat} (h : Src w g m) (o : Obj) : Src (w.alloc o) g m := h.below ((Below.refl _ _).alloc (Nat.le_refl _) o)
def DS (W w : World) (g m : Nat) : Prop := Below W.heap.size W w ∧ W.heap.size ≤ g ∧ Src w g m
theorem DS.step {W w w' : World} {g m m' : Nat} (h : DS W w g m) (hg : w.grownBy w' (some g)) (hs : Src w' g m') : DS W w' g m' :=
  ⟨h.1.grown hg h.1.size (fun k hk => by cases hk; exact h.2.1), h.2.1, hs⟩
theorem DS.alloc {W w : World} {g m : Nat} (h : DS W w g m) (o : Obj) : DS W (w.alloc o) g m := ⟨h.1.alloc h.1.size o, h.2.1, h.2.2.alloc o⟩
theorem DS.below {W w w' : World} {g m : Nat} (h : DS W w g m) (hb : Below w.heap.size w w') : DS W w' g m := ⟨Below.up h.1 hb, h.2.1, h.2.2.below hb⟩
section
variable {α : Type} {cells : α → List Value} {e s : Nat} {W w w' : World} {base n g m : Nat} {v : Value} {l : List α}
theorem Src.kept (h : Src w g m) (hk : ∀ i, i ≤ g → w'.heap[i]? = w.heap[i]?) : Src w' g m := by
  obtain ⟨A, n, c, l, at_, sd, hb, hr, rest⟩ := h
  exact ⟨A, n, c, l, at_, sd, (hk g (Nat.le_refl _)).trans hb, hr.keep (fun p hp => World.cell?_of_block (hk _ (by omega))), rest⟩
theorem Own.notg (h : Own cells e s w base v n l) (hb : g < base) : v.ownBlock ≠ some g := fun he => by
  have := (h.2.lt g he).1; omega
theorem Src.row (hs : Src w g m) (h : Own cells e s w base v n l) (hb : g < base) (hg : w.grownBy w' v.ownBlock) : Src w' g m := by
  have hl := hs.lt
  exact hs.kept (fun i hi => hg.block i (by omega) (fun he => by have := (h.2.lt i he.symm).1; omega))
theorem DS.row (hd : DS W w g m) (h : Own cells e s w base v n l) (hb : g < base) (hg : w.grownBy w' v.ownBlock) : DS W w' g m :=
  ⟨hd.1.grown hg hd.1.size (fun k hk => by have := (h.2.lt k hk).1; have := hd.2.1; omega), hd.2.1, hd.2.2.row h hb hg⟩
def PS (W w : World) (g m : Nat) : Prop := W.grownBy w (some g) ∧ g < W.heap.size ∧ Src w g m
theorem PS.first (h : Src w g m) : PS w w g m := ⟨World.grownBy.refl _ _, h.lt, h⟩
theorem PS.step {m' : Nat} (h : PS W w g m) (hg : w.grownBy w' (some g)) (hs : Src w' g m') : PS W w' g m' := ⟨grown_two h.1 hg, h.2.1, hs⟩
theorem PS.alloc (h : PS W w g m) (o : Obj) : PS W (w.alloc o) g m := ⟨grown_two h.1 (World.grownBy_alloc w o _), h.2.1, h.2.2.alloc o⟩
theorem grown_of_below {row : Option Nat} (hb : Below w.heap.size w w') : w.grownBy w' row := ⟨hb.os, hb.tape, hb.output, hb.size, fun i hi _ => hb.block i hi⟩
theorem PS.below (h : PS W w g m) (hb : Below w.heap.size w w') : PS W w' g m := ⟨grown_two h.1 (grown_of_below hb), h.2.1, h.2.2.below hb⟩
theorem PS.row (hd : PS W w g m) (h : Own cells e s w base v n l) (hb : W.heap.size ≤ base) (hg : w.grownBy w' v.ownBlock) : PS W w' g m :=
  ⟨⟨hg.os.trans hd.1.os, hg.tape.trans hd.1.tape, hg.output.trans hd.1.output, Nat.le_trans hd.1.size hg.size, fun k hk hne =>
    (hg.block k (Nat.lt_of_lt_of_le hk hd.1.size) (fun he => by have := (h.2.lt k he.symm).1; omega)).trans (hd.1.block k hk hne)⟩, hd.2.1, hd.2.2.row h (by have := hd.2.1; omega) hg⟩
theorem Own.src (h : Own cells e s w base v n l) (hb : g < base) (hg : w.grownBy w' (some g)) : Own cells e s w' base v n l := h.kept hg (.inr (h.notg hb))
end
end Go.Proofs.YtfpaejlipaainaaGreatDoor
namespace Go.Proofs.YtfpaejlipaainaaGreatDoor
open Go.ChangeShapes Go.WideShapes Go.ChangeAt Go.RowKit Go.Deep
theorem grown_set (w : World) (k i : Nat) (u : Value) : w.grownBy (w.setCell ⟨k, i, none⟩ u) (some k) := only_setCell (World.grownBy.refl _ _) (p := ⟨k, i, none⟩) rfl u
section
variable {α : Type} {cells : α → List Value} {e s : Nat} {W w w' : World} {base n g m k i : Nat} {v u : Value} {l : List α} {o : Obj}
theorem Src.cell (hs : Src w g m) (hk : g < k) : Src (w.setCell ⟨k, i, none⟩ u) g m := by
  have hl := hs.lt
  exact hs.kept (fun j hj => (grown_set w k i u).block j (by omega) (fun he => by injection he; omega))
theorem PS.cell (hd : PS W w g m) (hk : W.heap.size ≤ k) : PS W (w.setCell ⟨k, i, none⟩ u) g m :=
  ⟨⟨(grown_set w k i u).os.trans hd.1.os, (grown_set w k i u).tape.trans hd.1.tape, (grown_set w k i u).output.trans hd.1.output, Nat.le_trans hd.1.size (grown_set w k i u).size, fun j hj hne =>
    ((grown_set w k i u).block j (Nat.lt_of_lt_of_le hj hd.1.size) (fun he => by injection he; omega)).trans (hd.1.block j hj hne)⟩, hd.2.1, hd.2.2.cell (by have := hd.2.1; omega)⟩
theorem DS.cell (hd : DS W w g m) (hk : g < k) : DS W (w.setCell ⟨k, i, none⟩ u) g m :=
  ⟨hd.1.setCell (p := ⟨k, i, none⟩) (by have := hd.2.1; show _ ≤ k; omega) u, hd.2.1, hd.2.2.cell hk⟩
theorem Own.box (h : Own cells e s w base v n l) (hk : v.ownBlock ≠ some k) : Own cells e s (w.setCell ⟨k, i, none⟩ u) base v n l := h.kept (grown_set w k i u) (.inr hk)
theorem box_kept (h : w.heap[k]? = some o) (hg : w.grownBy w' (some g)) (hne : k ≠ g) : w'.heap[k]? = some o :=
  (hg.block k (Array.getElem?_eq_some_iff.1 h).1 (fun e => hne (by injection e))).trans h
theorem box_set {cs : Array Value} {t : TypeId} (h : w.heap[k]? = some (.cells cs t (0, 0))) (i : Nat) (u : Value) : (w.setCell ⟨k, i, none⟩ u).heap[k]? = some (.cells (cs.setIfInBounds i u) t (0, 0)) := by
  simp [World.setCell, Array.getElem?_modify, h]
end
theorem brow1 {w : World} {u0 : Value} {t : TypeId} {g : Nat} (h : w.heap[g]? = some (.cells #[u0] t (0, 0))) :
    w.cell? ⟨g, 0, none⟩ = some u0 ∧ ∀ j : Nat, w.frozen? ⟨g, j, none⟩ = false :=
  ⟨by rw [cell_of_row _ _ _ _ _ _ h]; rfl, fun j => frozen_of_row _ _ _ _ _ h⟩
theorem brow2 {w : World} {u0 u1 : Value} {t : TypeId} {g : Nat} (h : w.heap[g]? = some (.cells #[u0, u1] t (0, 0))) :
    w.cell? ⟨g, 0, none⟩ = some u0 ∧ w.cell? ⟨g, 1, none⟩ = some u1 ∧ ∀ j : Nat, w.frozen? ⟨g, j, none⟩ = false :=
  ⟨by rw [cell_of_row _ _ _ _ _ _ h]; rfl, by rw [cell_of_row _ _ _ _ _ _ h]; rfl, fun j => frozen_of_row _ _ _ _ _ h⟩
theorem brow3 {w : World} {u0 u1 u2 : Value} {t : TypeId} {g : Nat} (h : w.heap[g]? = some (.cells #[u0, u1, u2] t (0, 0))) :
    w.cell? ⟨g, 0, none⟩ = some u0 ∧ w.cell? ⟨g, 1, none⟩ = some u1 ∧ w.cell? ⟨g, 2, none⟩ = some u2 ∧ ∀ j : Nat, w.frozen? ⟨g, j, none⟩ = false :=
  ⟨by rw [cell_of_row _ _ _ _ _ _ h]; rfl, by rw [cell_of_row _ _ _ _ _ _ h]; rfl, by rw [cell_of_row _ _ _ _ _ _ h]; rfl, fun j => frozen_of_row _ _ _ _ _ h⟩
end Go.Proofs.YtfpaejlipaainaaGreatDoor
namespace Go.Proofs.YtfpaejlipaainaaGreatDoor
open Go.ChangeShapes Go.WideShapes Go.ChangeAt Go.RowKit Go.Deep
set_option maxRecDepth 100000
def boolc (x : Bool) : List Value := [.bool x]
theorem boolc_len (x : Bool) : (boolc x).length = 1 := rfl
theorem Arr.bool {w : World} {B : Nat} {A : Option Addr} {n : Nat} {l : List Bool} (h : Arr boolc 1 w B A n l) {k : Nat} (hk : k < n) : ∃ b o x, A = some ⟨b, o, none⟩ ∧ b < B ∧ l[k]? = some x ∧ w.cell? ⟨b, o + k, none⟩ = some (.bool x) := by
  obtain ⟨b, o, x, rfl, hb, hx, hc⟩ := h.at_ hk
  exact ⟨b, o, x, rfl, hb, hx, by have := hc 0 _ rfl; simpa using this⟩
theorem Own.bool_at {e : TypeId} {w : World} {base g n c : Nat} {l : List Bool} (h : Own boolc e 1 w base (.slice (some ⟨g, 0, none⟩) n c) n l) {k : Nat} (hk : k < n) :
    ∃ x, l[k]? = some x ∧ w.cell? ⟨g, k, none⟩ = some (.bool x) ∧ w.frozen? ⟨g, k, none⟩ = false := by
  obtain ⟨b, o, x, hA, _, hx, c0⟩ := (h.arr boolc_len).bool hk
  injection hA with hA; injection hA with h1 h2; subst h1 h2
  simp only [Nat.zero_add] at c0
  exact ⟨x, hx, c0, h.2.frozenAt _⟩
theorem Own.bool_store {e : TypeId} {w : World} {base g n c : Nat} {l : List Bool} (h : Own boolc e 1 w base (.slice (some ⟨g, 0, none⟩) n c) n l) {k : Nat} (hk : k < n) (y : Bool) :
    Own boolc e 1 (w.setCell ⟨g, k, none⟩ (.bool y)) base (.slice (some ⟨g, 0, none⟩) n c) n (l.set k y) := by
  have hkl : k < l.length := by rw [h.len]; exact hk
  have := h.cell (x := l[k]) (x' := y) (k := k) (j := 0) (u := .bool y) boolc_len (List.getElem?_eq_getElem hkl) (by omega) rfl
  simpa using this
theorem own_ty {α : Type} {cells : α → List Value} {w : World} {e t s base n g : Nat} {v : Value} {l : List α} {cs : Array Value} (h : Own cells e s w base v n l) (hb : w.heap[g]? = some (.cells cs t (0, 0))) (hne : e ≠ t) : v.ownBlock ≠ some g := by
  rcases h.2.2 with ⟨rfl, _⟩ | ⟨g', cap, cur, rfl, _, hh, _⟩
  · simp [Value.ownBlock]
  · intro he
    have : g' = g := by simpa [Value.ownBlock] using he
    subst this
    rw [hh] at hb
    injection hb with hb
    injection hb with _ ht
    exact hne ht
theorem own_otherJ {α β : Type} {cells : α → List Value} {cells' : β → List Value} {w : World} {e e' s s' base base' n n' : Nat} {v v' : Value} {l : List α} {l' : List β} (h : Own cells e s w base v n l) (h' : Own cells' e' s' w base' v' n' l') (hne : e ≠ e') : v.ownBlock = none ∨ v.ownBlock ≠ v'.ownBlock := by
  rcases h'.2.2 with ⟨rfl, _⟩ | ⟨g', cap, cur, rfl, _, hh, _⟩
  · cases v.ownBlock with
    | none => exact .inl rfl
    | some g => exact .inr (by simp [Value.ownBlock])
  · exact .inr (own_ty h hh hne)
theorem Own.shorter {α : Type} {cells : α → List Value} {e s : Nat} {w : World} {base n c g k : Nat} {l : List α} (hs : ∀ x, (cells x).length = s) (h : Own cells e s w base (.slice (some ⟨g, 0, none⟩) n c) n l) (hk : k ≤ n) :
    Own cells e s w base (.slice (some ⟨g, 0, none⟩) k c) k (l.take k) := by
  have hl := h.1
  refine ⟨by rw [List.length_take]; omega, by rw [flat_len hs, List.length_take, Nat.min_eq_left (by omega)], .inr ?_⟩
  rcases h.2.2 with ⟨hn, _⟩ | ⟨g', cap, cur, hv, hb, hh, hnc, hm, hsz, ht⟩
  · cases hn
  · injection hv with h1 h2 h3
    injection h1 with h1
    injection h1 with h1
    subst h1 h3
    refine ⟨g, c, cur, rfl, hb, hh, by omega, hm, hsz, ?_⟩
    have hks : k * s ≤ n * s := Nat.mul_le_mul_right s hk
    have e1 : cur.toList.take (k * s) = (cur.toList.take (n * s)).take (k * s) := by rw [List.take_take, Nat.min_eq_left hks]
    rw [e1, ht]
    have e2 : l.flatMap cells = (l.take k).flatMap cells ++ (l.drop k).flatMap cells := by rw [← List.flatMap_append, List.take_append_drop]
    rw [e2, List.take_left' (by rw [flat_len hs, List.length_take, Nat.min_eq_left (by omega)])]
def usedL (n : Nat) (o : List Int) : List Bool := (List.range n).map fun k : Nat => decide ((k : Int) ∈ o)
theorem usedL_get {n : Nat} {o : List Int} {k : Nat} (h : k < n) : (usedL n o)[k]? = some (decide ((k : Int) ∈ o)) := by
  unfold usedL; rw [List.getElem?_map, List.getElem?_range h]; rfl
theorem usedL_push {n : Nat} {o : List Int} {k : Nat} (h : k < n) : (usedL n o).set k true = usedL n (o ++ [(k : Int)]) := by
  apply List.ext_getElem?
  intro i
  by_cases hi : i < n
  · by_cases hik : i = k
    · subst hik
      rw [List.getElem?_set_self (by simp [usedL]; exact hi), usedL_get hi]; simp
    · have hik2 : ¬ (i : Int) = (k : Int) := by omega
      rw [List.getElem?_set_ne (Ne.symm hik), usedL_get hi, usedL_get hi]
      simp [hik2]
  · rw [List.getElem?_eq_none (by simp [usedL]; omega), List.getElem?_eq_none (by simp [usedL]; omega)]
theorem usedL_pop {n : Nat} {o : List Int} {k : Nat} (h : k < n) (hno : ¬ (k : Int) ∈ o) : (usedL n (o ++ [(k : Int)])).set k false = usedL n o := by
  rw [← usedL_push h, List.set_set]
  apply List.ext_getElem?
  intro i
  by_cases hi : i < n
  · by_cases hik : i = k
    · subst hik
      rw [List.getElem?_set_self (by simp [usedL]; exact hi), usedL_get hi, decide_eq_false hno]
    · rw [List.getElem?_set_ne (Ne.symm hik)]
  · rw [List.getElem?_eq_none (by simp [usedL]; omega), List.getElem?_eq_none (by simp [usedL]; omega)]
structure JX (w : World) (base b0 b1 b2 b3 b4 b5 b6 b7 b8 : Nat) (S bd least : Int) (vl vo vr vb vu vf : Value) : Prop where
  h0 : w.heap[b0]? = some (.cells #[.int .i64 least] 2 (0, 0))
  h1 : w.heap[b1]? = some (.cells #[.int .i64 S] 2 (0, 0))
  h2 : w.heap[b2]? = some (.cells #[vl] 60 (0, 0))
  h3 : w.heap[b3]? = some (.cells #[.int .i64 bd] 2 (0, 0))
  h4 : w.heap[b4]? = some (.cells #[vo] 60 (0, 0))
  h5 : w.heap[b5]? = some (.cells #[vr] 60 (0, 0))
  h6 : w.heap[b6]? = some (.cells #[vb] 60 (0, 0))
  h7 : w.heap[b7]? = some (.cells #[vu] 240 (0, 0))
  h8 : w.heap[b8]? = some (.cells #[vf] 1 (0, 0))
  d : b0 ≠ b1 ∧ b0 ≠ b3 ∧ b2 ≠ b4 ∧ b2 ≠ b5 ∧ b2 ≠ b6 ∧ b4 ≠ b5 ∧ b4 ≠ b6 ∧ b5 ≠ b6
  lo : base ≤ b0 ∧ base ≤ b1 ∧ base ≤ b2 ∧ base ≤ b3 ∧ base ≤ b4 ∧ base ≤ b5 ∧ base ≤ b6 ∧ base ≤ b7 ∧ base ≤ b8
theorem heap_set_far {w : World} {g k : Nat} {u : Value} {o : Obj} (h : w.heap[g]? = some o) (hne : g ≠ k) : (w.setCell ⟨k, 0, none⟩ u).heap[g]? = some o :=
  ((grown_set w k 0 u).block g (Array.getElem?_eq_some_iff.1 h).1 (fun e => hne (by injection e))).trans h
theorem ty_far {w : World} {g k : Nat} {a c : Array Value} {t t' : TypeId} (h : w.heap[g]? = some (.cells a t (0, 0))) (h' : w.heap[k]? = some (.cells c t' (0, 0))) (hne : t ≠ t') : g ≠ k := by
  intro e; subst e; rw [h] at h'; injection h' with h'; injection h' with _ h2; exact hne h2
section
variable {w w' : World} {base b0 b1 b2 b3 b4 b5 b6 b7 b8 : Nat} {S bd least : Int} {vl vo vr vb vu vf : Value}
theorem JX.keep (h : JX w base b0 b1 b2 b3 b4 b5 b6 b7 b8 S bd least vl vo vr vb vu vf) {row : Option Nat} (hg : w.grownBy w' row) (hne : ∀ (g : Nat) (a : Array Value) (t : TypeId), w.heap[g]? = some (.cells a t (0, 0)) → (t = 2 → g = b0 ∨ g = b1 ∨ g = b3) → (t = 2 ∨ t = 60 ∨ t = 240 ∨ t = 1) → row ≠ some g) :
    JX w' base b0 b1 b2 b3 b4 b5 b6 b7 b8 S bd least vl vo vr vb vu vf := by
  have k : ∀ (g : Nat) (a : Array Value) (t : TypeId), w.heap[g]? = some (.cells a t (0, 0)) → (t = 2 → g = b0 ∨ g = b1 ∨ g = b3) → (t = 2 ∨ t = 60 ∨ t = 240 ∨ t = 1) → w'.heap[g]? = some (.cells a t (0, 0)) :=
    fun g a t hh h1 h2 => (hg.block g (Array.getElem?_eq_some_iff.1 hh).1 (fun e => hne g a t hh h1 h2 e.symm)).trans hh
  exact ⟨k _ _ _ h.h0 (fun _ => .inl rfl) (.inl rfl), k _ _ _ h.h1 (fun _ => .inr (.inl rfl)) (.inl rfl), k _ _ _ h.h2 (by simp) (.inr (.inl rfl)), k _ _ _ h.h3 (fun _ => .inr (.inr rfl)) (.inl rfl), k _ _ _ h.h4 (by simp) (.inr (.inl rfl)), k _ _ _ h.h5 (by simp) (.inr (.inl rfl)), k _ _ _ h.h6 (by simp) (.inr (.inl rfl)), k _ _ _ h.h7 (by simp) (.inr (.inr (.inl rfl))), k _ _ _ h.h8 (by simp) (.inr (.inr (.inr rfl))), h.d, h.lo⟩
theorem JX.below (h : JX w base b0 b1 b2 b3 b4 b5 b6 b7 b8 S bd least vl vo vr vb vu vf) (hb : Below w.heap.size w w') : JX w' base b0 b1 b2 b3 b4 b5 b6 b7 b8 S bd least vl vo vr vb vu vf :=
  h.keep (row := none) (grown_of_below hb) (fun _ _ _ _ _ _ => by simp)
def NB (b0 b1 b3 : Nat) (v : Value) : Prop := v.ownBlock ≠ some b0 ∧ v.ownBlock ≠ some b1 ∧ v.ownBlock ≠ some b3
theorem JX.row (h : JX w base b0 b1 b2 b3 b4 b5 b6 b7 b8 S bd least vl vo vr vb vu vf) {v : Value} {n : Nat} {l : List Int} (ho : Own i64c 2 1 w base v n l) (hn : NB b0 b1 b3 v) (hg : w.grownBy w' v.ownBlock) : JX w' base b0 b1 b2 b3 b4 b5 b6 b7 b8 S bd least vl vo vr vb vu vf := by
  refine h.keep hg fun g a t hh h1 h2 => ?_
  by_cases ht : t = 2
  · rcases h1 ht with e | e | e
    · subst e; exact hn.1
    · subst e; exact hn.2.1
    · subst e; exact hn.2.2
  · exact own_ty ho hh (Ne.symm ht)
theorem JX.bool (h : JX w base b0 b1 b2 b3 b4 b5 b6 b7 b8 S bd least vl vo vr vb vu vf) {v : Value} {n : Nat} {l : List Bool} (ho : Own boolc 4 1 w base v n l) (hg : w.grownBy w' v.ownBlock) : JX w' base b0 b1 b2 b3 b4 b5 b6 b7 b8 S bd least vl vo vr vb vu vf := by
  refine h.keep hg fun g a t hh h1 h2 => own_ty ho hh ?_
  rcases h2 with e | e | e | e <;> subst e <;> decide
theorem JX.set4 (h : JX w base b0 b1 b2 b3 b4 b5 b6 b7 b8 S bd least vl vo vr vb vu vf) (u : Value) : JX (w.setCell ⟨b4, 0, none⟩ u) base b0 b1 b2 b3 b4 b5 b6 b7 b8 S bd least vl u vr vb vu vf :=
  ⟨heap_set_far h.h0 (ty_far h.h0 h.h4 (by decide)), heap_set_far h.h1 (ty_far h.h1 h.h4 (by decide)), heap_set_far h.h2 h.d.2.2.1, heap_set_far h.h3 (ty_far h.h3 h.h4 (by decide)), box_set h.h4 0 u, heap_set_far h.h5 (Ne.symm h.d.2.2.2.2.2.1), heap_set_far h.h6 (Ne.symm h.d.2.2.2.2.2.2.1), heap_set_far h.h7 (ty_far h.h7 h.h4 (by decide)), heap_set_far h.h8 (ty_far h.h8 h.h4 (by decide)), h.d, h.lo⟩
theorem JX.set2 (h : JX w base b0 b1 b2 b3 b4 b5 b6 b7 b8 S bd least vl vo vr vb vu vf) (u : Value) : JX (w.setCell ⟨b2, 0, none⟩ u) base b0 b1 b2 b3 b4 b5 b6 b7 b8 S bd least u vo vr vb vu vf :=
  ⟨heap_set_far h.h0 (ty_far h.h0 h.h2 (by decide)), heap_set_far h.h1 (ty_far h.h1 h.h2 (by decide)), box_set h.h2 0 u, heap_set_far h.h3 (ty_far h.h3 h.h2 (by decide)), heap_set_far h.h4 (Ne.symm h.d.2.2.1), heap_set_far h.h5 (Ne.symm h.d.2.2.2.1), heap_set_far h.h6 (Ne.symm h.d.2.2.2.2.1), heap_set_far h.h7 (ty_far h.h7 h.h2 (by decide)), heap_set_far h.h8 (ty_far h.h8 h.h2 (by decide)), h.d, h.lo⟩
theorem JX.set6 (h : JX w base b0 b1 b2 b3 b4 b5 b6 b7 b8 S bd least vl vo vr vb vu vf) (u : Value) : JX (w.setCell ⟨b6, 0, none⟩ u) base b0 b1 b2 b3 b4 b5 b6 b7 b8 S bd least vl vo vr u vu vf :=
  ⟨heap_set_far h.h0 (ty_far h.h0 h.h6 (by decide)), heap_set_far h.h1 (ty_far h.h1 h.h6 (by decide)), heap_set_far h.h2 h.d.2.2.2.2.1, heap_set_far h.h3 (ty_far h.h3 h.h6 (by decide)), heap_set_far h.h4 h.d.2.2.2.2.2.2.1, heap_set_far h.h5 h.d.2.2.2.2.2.2.2, box_set h.h6 0 u, heap_set_far h.h7 (ty_far h.h7 h.h6 (by decide)), heap_set_far h.h8 (ty_far h.h8 h.h6 (by decide)), h.d, h.lo⟩
theorem JX.set0 (h : JX w base b0 b1 b2 b3 b4 b5 b6 b7 b8 S bd least vl vo vr vb vu vf) (u : Int) : JX (w.setCell ⟨b0, 0, none⟩ (.int .i64 u)) base b0 b1 b2 b3 b4 b5 b6 b7 b8 S bd u vl vo vr vb vu vf :=
  ⟨box_set h.h0 0 _, heap_set_far h.h1 (Ne.symm h.d.1), heap_set_far h.h2 (ty_far h.h2 h.h0 (by decide)), heap_set_far h.h3 (Ne.symm h.d.2.1), heap_set_far h.h4 (ty_far h.h4 h.h0 (by decide)), heap_set_far h.h5 (ty_far h.h5 h.h0 (by decide)), heap_set_far h.h6 (ty_far h.h6 h.h0 (by decide)), heap_set_far h.h7 (ty_far h.h7 h.h0 (by decide)), heap_set_far h.h8 (ty_far h.h8 h.h0 (by decide)), h.d, h.lo⟩
end
theorem Trio.box {e : TypeId} {w : World} {base k : Nat} {v0 v1 v2 u : Value} {a b c : List Int} (h : Trio e w base v0 v1 v2 a b c) (h0 : v0.ownBlock ≠ some k) (h1 : v1.ownBlock ≠ some k) (h2 : v2.ownBlock ≠ some k) : Trio e (w.setCell ⟨k, 0, none⟩ u) base v0 v1 v2 a b c :=
  ⟨h.o0.box h0, h.o1.box h1, h.o2.box h2, h.f01, h.f02, h.f12⟩
theorem Trio.far {e t : TypeId} {w w' : World} {base n : Nat} {v0 v1 v2 v : Value} {a b c : List Int} {l : List Bool} (h : Trio e w base v0 v1 v2 a b c) (ho : Own boolc t 1 w base v n l) (hne : e ≠ t) (hg : w.grownBy w' v.ownBlock) : Trio e w' base v0 v1 v2 a b c :=
  ⟨h.o0.kept hg (own_otherJ h.o0 ho hne), h.o1.kept hg (own_otherJ h.o1 ho hne), h.o2.kept hg (own_otherJ h.o2 ho hne), h.f01, h.f02, h.f12⟩
structure JS (w : World) (base b0 b1 b2 b3 b4 b5 b6 b7 b8 : Nat) (S bd : Int) (A : Option Addr) (n c : Nat) (rods : List Int) (vf vo vl vb : Value) (gu : Nat) (o : List Int) (st : List Int × Int) : Prop where
  x : JX w base b0 b1 b2 b3 b4 b5 b6 b7 b8 S bd st.2 vl vo (.slice A n c) vb (.slice (some ⟨gu, 0, none⟩) n n) vf
  t : Trio 2 w base vo vl vb o (laidOf rods o) st.1
  u : Own boolc 4 1 w base (.slice (some ⟨gu, 0, none⟩) n n) n (usedL n o)
  r : Arr i64c 1 w base A n rods
  n0 : NB b0 b1 b3 vo
  n1 : NB b0 b1 b3 vl
  n2 : NB b0 b1 b3 vb
  hb : base ≤ w.heap.size
theorem laid_RB {rods o : List Int} {n : Nat} (hR : RB7 rods) (hn : rods.length = n) (hl : o.length ≤ n) (hv : ∀ z ∈ o, 0 ≤ z ∧ z < (n : Int)) : RB7 (laidOf rods o) := by
  refine ⟨by unfold laidOf; rw [List.length_map]; have := hR.1; omega, fun x hx => ?_⟩
  unfold laidOf at hx
  obtain ⟨z, hz, rfl⟩ := List.mem_map.1 hx
  have h1 := hv z hz
  have h2 : z.toNat < rods.length := by omega
  rw [List.getD_eq_getElem?_getD, List.getElem?_eq_getElem h2]
  exact hR.2 _ (List.getElem_mem h2)
section
variable {w w' : World} {base b0 b1 b2 b3 b4 b5 b6 b7 b8 : Nat} {S bd : Int} {A : Option Addr} {n c : Nat} {rods : List Int} {vf vo vl vb : Value} {gu : Nat} {o : List Int} {st : List Int × Int}
theorem JS.below (h : JS w base b0 b1 b2 b3 b4 b5 b6 b7 b8 S bd A n c rods vf vo vl vb gu o st) (hb : Below w.heap.size w w') : JS w' base b0 b1 b2 b3 b4 b5 b6 b7 b8 S bd A n c rods vf vo vl vb gu o st :=
  ⟨h.x.below hb, h.t.below hb, h.u.below hb, h.r.keep (fun p hp => hb.cell (by have := h.hb; omega)), h.n0, h.n1, h.n2, Nat.le_trans h.hb hb.size⟩
theorem JS.cells (h : JS w base b0 b1 b2 b3 b4 b5 b6 b7 b8 S bd A n c rods vf vo vl vb gu o st) :
    (w.cell? ⟨b0, 0, none⟩ = some (.int .i64 st.2) ∧ w.cell? ⟨b1, 0, none⟩ = some (.int .i64 S) ∧ w.cell? ⟨b2, 0, none⟩ = some vl ∧ w.cell? ⟨b3, 0, none⟩ = some (.int .i64 bd) ∧ w.cell? ⟨b4, 0, none⟩ = some vo ∧ w.cell? ⟨b5, 0, none⟩ = some (.slice A n c) ∧ w.cell? ⟨b6, 0, none⟩ = some vb ∧ w.cell? ⟨b7, 0, none⟩ = some (.slice (some ⟨gu, 0, none⟩) n n) ∧ w.cell? ⟨b8, 0, none⟩ = some vf) ∧
    w.frozen? ⟨b0, 0, none⟩ = false ∧ w.frozen? ⟨b2, 0, none⟩ = false ∧ w.frozen? ⟨b4, 0, none⟩ = false ∧ w.frozen? ⟨b6, 0, none⟩ = false :=
  ⟨⟨(brow1 h.x.h0).1, (brow1 h.x.h1).1, (brow1 h.x.h2).1, (brow1 h.x.h3).1, (brow1 h.x.h4).1, (brow1 h.x.h5).1, (brow1 h.x.h6).1, (brow1 h.x.h7).1, (brow1 h.x.h8).1⟩, (brow1 h.x.h0).2 0, (brow1 h.x.h2).2 0, (brow1 h.x.h4).2 0, (brow1 h.x.h6).2 0⟩
theorem JS.best (h : JS w base b0 b1 b2 b3 b4 b5 b6 b7 b8 S bd A n c rods vf vo vl vb gu o st) {v5 : Value} (ho : Own i64c 2 1 w base v5 o.length o) (hN : NB b0 b1 b3 v5) (f0 : Far vo v5) (f1 : Far vl v5) (m : Int) :
    JS ((w.setCell ⟨b6, 0, none⟩ v5).setCell ⟨b0, 0, none⟩ (.int .i64 m)) base b0 b1 b2 b3 b4 b5 b6 b7 b8 S bd A n c rods vf vo vl v5 gu o (o, m) := by
  have h6 := h.x.h6
  have h0 := h.x.h0
  have hs1 : (w.setCell ⟨b6, 0, none⟩ v5).heap.size = w.heap.size := by simp
  refine ⟨(h.x.set6 v5).set0 m, ?_, ?_, ?_, h.n0, h.n1, hN, by simp; exact h.hb⟩
  · have t1 : Trio 2 w base vo vl v5 o (laidOf rods o) o := ⟨h.t.o0, h.t.o1, ho, h.t.f01, f0, f1⟩
    exact (t1.box (own_ty h.t.o0 h6 (by decide)) (own_ty h.t.o1 h6 (by decide)) (own_ty ho h6 (by decide))).box h.n0.1 h.n1.1 hN.1
  · exact (h.u.box (own_ty h.u h6 (by decide))).box (own_ty h.u h0 (by decide))
  · have g1 := grown_set w b6 0 v5
    have g2 := grown_set (w.setCell ⟨b6, 0, none⟩ v5) b0 0 (.int .i64 m)
    exact (h.r.grown g1 h.hb (fun q e => by cases e; exact h.x.lo.2.2.2.2.2.2.1)).grown g2 (by rw [hs1]; exact h.hb) (fun q e => by cases e; exact h.x.lo.1)
theorem NB.new {v : Value} {H : Nat} (h : JS w base b0 b1 b2 b3 b4 b5 b6 b7 b8 S bd A n c rods vf vo vl vb gu o st) (hH : w.heap.size ≤ H) (hv : v.ownBlock = some H) : NB b0 b1 b3 v := by
  have k : ∀ g, g < w.heap.size → v.ownBlock ≠ some g := fun g hg e => by rw [hv] at e; injection e with e; omega
  exact ⟨k _ (Array.getElem?_eq_some_iff.1 h.x.h0).1, k _ (Array.getElem?_eq_some_iff.1 h.x.h1).1, k _ (Array.getElem?_eq_some_iff.1 h.x.h3).1⟩
theorem JS.copied (h : JS w base b0 b1 b2 b3 b4 b5 b6 b7 b8 S bd A n c rods vf vo vl vb gu o st) {w5 : World} {v5 : Value} (_ho : Own i64c 2 1 w5 base v5 o.length o) (hg : (w.alloc (.cells #[] 2)).grownBy w5 (some w.heap.size)) (hat : v5.ownBlock = some w.heap.size ∨ v5.ownBlock = some (w.alloc (.cells #[] 2)).heap.size) :
    JS w5 base b0 b1 b2 b3 b4 b5 b6 b7 b8 S bd A n c rods vf vo vl vb gu o st ∧ NB b0 b1 b3 v5 ∧ Far vo v5 ∧ Far vl v5 ∧ Below w.heap.size w w5 := by
  have hB : Below w.heap.size w w5 := ((Below.refl _ _).alloc (Nat.le_refl _) _).grown hg (by simp) (fun k e => by cases e; exact Nat.le_refl _)
  obtain ⟨H, hH, hv⟩ : ∃ H, w.heap.size ≤ H ∧ v5.ownBlock = some H := by
    rcases hat with e | e
    · exact ⟨_, Nat.le_refl _, e⟩
    · exact ⟨_, by simp, e⟩
  exact ⟨h.below hB, NB.new h hH hv, (Far.new h.t.o0 hH hv).symm, (Far.new h.t.o1 hH hv).symm, hB⟩
structure JM (w : World) (base b0 b1 b2 b3 b4 b5 b6 b7 b8 : Nat) (S bd : Int) (A : Option Addr) (n c : Nat) (rods : List Int) (vf vo vl vb : Value) (gu : Nat) (o : List Int) (st : List Int × Int) (u0 u1 : Value) (o' l' : List Int) : Prop where
  x : JX w base b0 b1 b2 b3 b4 b5 b6 b7 b8 S bd st.2 vl vo (.slice A n c) vb (.slice (some ⟨gu, 0, none⟩) n n) vf
  t : Trio 2 w base u0 u1 vb o' l' st.1
  u : Own boolc 4 1 w base (.slice (some ⟨gu, 0, none⟩) n n) n (usedL n o)
  r : Arr i64c 1 w base A n rods
  n0 : NB b0 b1 b3 u0
  n1 : NB b0 b1 b3 u1
  n2 : NB b0 b1 b3 vb
  hb : base ≤ w.heap.size
theorem JS.mid (h : JS w base b0 b1 b2 b3 b4 b5 b6 b7 b8 S bd A n c rods vf vo vl vb gu o st) : JM w base b0 b1 b2 b3 b4 b5 b6 b7 b8 S bd A n c rods vf vo vl vb gu o st vo vl o (laidOf rods o) := ⟨h.x, h.t, h.u, h.r, h.n0, h.n1, h.n2, h.hb⟩
variable {u0 u1 : Value} {o' l' : List Int}
theorem JM.below (h : JM w base b0 b1 b2 b3 b4 b5 b6 b7 b8 S bd A n c rods vf vo vl vb gu o st u0 u1 o' l') (hb : Below w.heap.size w w') : JM w' base b0 b1 b2 b3 b4 b5 b6 b7 b8 S bd A n c rods vf vo vl vb gu o st u0 u1 o' l' :=
  ⟨h.x.below hb, h.t.below hb, h.u.below hb, h.r.keep (fun p hp => hb.cell (by have := h.hb; omega)), h.n0, h.n1, h.n2, Nat.le_trans h.hb hb.size⟩
theorem JM.lt (h : JM w base b0 b1 b2 b3 b4 b5 b6 b7 b8 S bd A n c rods vf vo vl vb gu o st u0 u1 o' l') : b0 < w.heap.size ∧ b1 < w.heap.size ∧ b3 < w.heap.size :=
  ⟨(Array.getElem?_eq_some_iff.1 h.x.h0).1, (Array.getElem?_eq_some_iff.1 h.x.h1).1, (Array.getElem?_eq_some_iff.1 h.x.h3).1⟩
theorem NB.moved {a v : Value} {H : Nat} (hn : NB b0 b1 b3 a) (hat : v.ownBlock = a.ownBlock ∨ v.ownBlock = some H) (hH : b0 < H ∧ b1 < H ∧ b3 < H) : NB b0 b1 b3 v := by
  rcases hat with e | e
  · unfold NB; rw [e]; exact hn
  · have k : ∀ g, g < H → v.ownBlock ≠ some g := fun g hg h => by rw [e] at h; injection h with h; omega
    exact ⟨k _ hH.1, k _ hH.2.1, k _ hH.2.2⟩
theorem JM.app0 (h : JM w base b0 b1 b2 b3 b4 b5 b6 b7 b8 S bd A n c rods vf vo vl vb gu o st u0 u1 o' l') {v : Value} {y : Int} {H : Nat} (ho : Own i64c 2 1 w' base v (o'.length + 1) (o' ++ [y])) (hg : w.grownBy w' u0.ownBlock) (hat : v.ownBlock = u0.ownBlock ∨ v.ownBlock = some H) (hH : w.heap.size ≤ H) :
    JM w' base b0 b1 b2 b3 b4 b5 b6 b7 b8 S bd A n c rods vf vo vl vb gu o st v u1 (o' ++ [y]) l' := by
  have hlt := h.lt
  refine ⟨h.x.row h.t.o0 h.n0 hg, h.t.app0 ho hg hat hH, h.u.kept hg ?_, h.r.grown hg h.hb (fun q e => (h.t.o0.2.lt q e).1), h.n0.moved hat (by omega), h.n1, h.n2, Nat.le_trans h.hb hg.size⟩
  exact own_otherJ h.u h.t.o0 (by decide)
theorem JM.app1 (h : JM w base b0 b1 b2 b3 b4 b5 b6 b7 b8 S bd A n c rods vf vo vl vb gu o st u0 u1 o' l') {v : Value} {y : Int} {H : Nat} (ho : Own i64c 2 1 w' base v (l'.length + 1) (l' ++ [y])) (hg : w.grownBy w' u1.ownBlock) (hat : v.ownBlock = u1.ownBlock ∨ v.ownBlock = some H) (hH : w.heap.size ≤ H) :
    JM w' base b0 b1 b2 b3 b4 b5 b6 b7 b8 S bd A n c rods vf vo vl vb gu o st u0 v o' (l' ++ [y]) := by
  have hlt := h.lt
  refine ⟨h.x.row h.t.o1 h.n1 hg, h.t.app1 ho hg hat hH, h.u.kept hg ?_, h.r.grown hg h.hb (fun q e => (h.t.o1.2.lt q e).1), h.n0, h.n1.moved hat (by omega), h.n2, Nat.le_trans h.hb hg.size⟩
  exact own_otherJ h.u h.t.o1 (by decide)
theorem JM.stored (h : JM w base b0 b1 b2 b3 b4 b5 b6 b7 b8 S bd A n c rods vf vo vl vb gu o st u0 u1 o' l') {k : Nat} (hk : k < n) (y : Bool) (hu : (usedL n o).set k y = usedL n o') (hl : l' = laidOf rods o') :
    JS (((w.setCell ⟨gu, k, none⟩ (.bool y)).setCell ⟨b4, 0, none⟩ u0).setCell ⟨b2, 0, none⟩ u1) base b0 b1 b2 b3 b4 b5 b6 b7 b8 S bd A n c rods vf u0 u1 vb gu o' st := by
  subst hl
  have gU : w.grownBy (w.setCell ⟨gu, k, none⟩ (.bool y)) (some gu) := grown_set w gu k _
  obtain ⟨w1, hw1⟩ : ∃ w1, w1 = w.setCell ⟨gu, k, none⟩ (.bool y) := ⟨_, rfl⟩
  have hu1 : Own boolc 4 1 w1 base (.slice (some ⟨gu, 0, none⟩) n n) n (usedL n o') := by rw [hw1, ← hu]; exact h.u.bool_store hk y
  rw [← hw1] at gU ⊢
  have x1 := h.x.bool h.u gU
  have t1 := h.t.far h.u (by decide) gU
  have hs1 : base ≤ w1.heap.size := Nat.le_trans h.hb gU.size
  have r1 : Arr i64c 1 w1 base A n rods := h.r.grown gU h.hb (fun q e => by cases e; exact (h.u.2.lt _ rfl).1)
  clear hw1
  have x2 := x1.set4 u0
  have t2 := t1.box (k := b4) (u := u0) (own_ty t1.o0 x1.h4 (by decide)) (own_ty t1.o1 x1.h4 (by decide)) (own_ty t1.o2 x1.h4 (by decide))
  have u2 := hu1.box (i := 0) (u := u0) (own_ty hu1 x1.h4 (by decide))
  have r2 := r1.grown (grown_set w1 b4 0 u0) hs1 (fun q e => by cases e; exact h.x.lo.2.2.2.2.1)
  obtain ⟨w2, hw2⟩ : ∃ w2, w2 = w1.setCell ⟨b4, 0, none⟩ u0 := ⟨_, rfl⟩
  rw [← hw2] at x2 t2 u2 r2 ⊢
  have hs2 : base ≤ w2.heap.size := by rw [hw2]; simpa using hs1
  clear hw2
  exact ⟨x2.set2 u1, t2.box (own_ty t2.o0 x2.h2 (by decide)) (own_ty t2.o1 x2.h2 (by decide)) (own_ty t2.o2 x2.h2 (by decide)), u2.box (own_ty u2 x2.h2 (by decide)), r2.grown (grown_set w2 b2 0 u1) hs2 (fun q e => by cases e; exact h.x.lo.2.2.1), h.n0, h.n1, h.n2, by simpa using hs2⟩
theorem JS.popped {k g3 k3 g4 k4 : Nat} {x : Int} (h : JS w base b0 b1 b2 b3 b4 b5 b6 b7 b8 S bd A n c rods vf (.slice (some ⟨g3, 0, none⟩) (o ++ [(k : Int)]).length k3) (.slice (some ⟨g4, 0, none⟩) (laidOf rods (o ++ [(k : Int)])).length k4) vb gu (o ++ [(k : Int)]) st) (hk : k < n) (hno : ¬ (k : Int) ∈ o) (hx : rods[k]? = some x) :
    JS (((w.setCell ⟨gu, k, none⟩ (.bool false)).setCell ⟨b4, 0, none⟩ (.slice (some ⟨g3, 0, none⟩) o.length k3)).setCell ⟨b2, 0, none⟩ (.slice (some ⟨g4, 0, none⟩) o.length k4)) base b0 b1 b2 b3 b4 b5 b6 b7 b8 S bd A n c rods vf (.slice (some ⟨g3, 0, none⟩) o.length k3) (.slice (some ⟨g4, 0, none⟩) o.length k4) vb gu o st := by
  have hll : (laidOf rods o).length = o.length := by unfold laidOf; rw [List.length_map]
  have e0 := h.t.o0.shorter (k := o.length) i64c_len (by rw [List.length_append]; omega)
  have e1 := h.t.o1.shorter (k := o.length) i64c_len (by rw [laidOf_snoc hx, List.length_append, hll]; omega)
  rw [List.take_left' rfl] at e0
  rw [laidOf_snoc hx, List.take_left' hll] at e1
  have t : Trio 2 w base (.slice (some ⟨g3, 0, none⟩) o.length k3) (.slice (some ⟨g4, 0, none⟩) o.length k4) vb o (laidOf rods o) st.1 :=
    ⟨e0, by rw [hll]; exact e1, h.t.o2, h.t.f01, h.t.f02, h.t.f12⟩
  have m : JM w base b0 b1 b2 b3 b4 b5 b6 b7 b8 S bd A n c rods vf (.slice (some ⟨g3, 0, none⟩) (o ++ [(k : Int)]).length k3) (.slice (some ⟨g4, 0, none⟩) (laidOf rods (o ++ [(k : Int)])).length k4) vb gu (o ++ [(k : Int)]) st (.slice (some ⟨g3, 0, none⟩) o.length k3) (.slice (some ⟨g4, 0, none⟩) o.length k4) o (laidOf rods o) :=
    ⟨h.x, t, h.u, h.r, h.n0, h.n1, h.n2, h.hb⟩
  exact m.stored hk false (usedL_pop hk hno) rfl
theorem arr_oneJ {W : World} {g : Nat} {y : Int} (h : W.heap[g]? = some (.cells #[.int .i64 y] 2 (0, 0))) : Arr i64c 1 W W.heap.size (some ⟨g, 0, none⟩) 1 [y] := by
  refine ⟨rfl, fun _ => ⟨g, 0, rfl, (Array.getElem?_eq_some_iff.1 h).1, fun i x hx j u hu => ?_⟩⟩
  have hi : i = 0 := by have := lt_of_get hx; simp at this; exact this
  subst hi
  have hxe : y = x := by simpa using hx
  subst hxe
  have hj : j = 0 := by have := lt_of_get hu; simp [i64c] at this; exact this
  subst hj
  have hue : Value.int .i64 y = u := by simpa [i64c] using hu
  rw [← hue]
  exact (brow1 h).1
theorem row_form {α : Type} {cells : α → List Value} {e s : Nat} {w : World} {base n : Nat} {v : Value} {l : List α} (h : Own cells e s w base v (n + 1) l) : ∃ g c, v = .slice (some ⟨g, 0, none⟩) (n + 1) c := by
  rcases h.form with ⟨_, h0, _⟩ | ⟨g, c, h1, _⟩
  · omega
  · exact ⟨g, c, h1⟩
theorem JM.facts (h : JM w base b0 b1 b2 b3 b4 b5 b6 b7 b8 S bd A n c rods vf vo vl vb gu o st u0 u1 o' l') {k : Nat} (hk : k < n) (y : Bool) :
    w.cell? ⟨b7, 0, none⟩ = some (.slice (some ⟨gu, 0, none⟩) n n) ∧ w.cell? ⟨b2, 0, none⟩ = some vl ∧ (∃ z, w.cell? ⟨gu, k, none⟩ = some (.bool z)) ∧ w.frozen? ⟨gu, k, none⟩ = false ∧
    (w.setCell ⟨gu, k, none⟩ (.bool y)).cell? ⟨b4, 0, none⟩ = some vo ∧ (w.setCell ⟨gu, k, none⟩ (.bool y)).frozen? ⟨b4, 0, none⟩ = false ∧
    ((w.setCell ⟨gu, k, none⟩ (.bool y)).setCell ⟨b4, 0, none⟩ u0).cell? ⟨b2, 0, none⟩ = some vl ∧ ((w.setCell ⟨gu, k, none⟩ (.bool y)).setCell ⟨b4, 0, none⟩ u0).frozen? ⟨b2, 0, none⟩ = false := by
  obtain ⟨z, _, e1, e2⟩ := h.u.bool_at hk
  have x1 := h.x.bool h.u (grown_set w gu k (.bool y))
  have z1 := brow1 x1.h4
  have z2 := brow1 (x1.set4 u0).h2
  exact ⟨(brow1 h.x.h7).1, (brow1 h.x.h2).1, ⟨z, e1⟩, e2, z1.1, z1.2 0, z2.1, z2.2 0⟩
end
end Go.Proofs.YtfpaejlipaainaaGreatDoor
namespace Go.Proofs.YtfpaejlipaainaaGreatDoor
open Go.ChangeShapes Go.WideShapes Go.ChangeAt Go.RowKit Go.Deep
set_option maxRecDepth 100000
def risesB (l : List Int) (lo hi : Int) : Bool := (List.range l.length).all fun i => inB (l.getD i 0) lo hi && (decide (i = 0) || decide (l.getD (i - 1) 0 < l.getD i 0))
set_option maxHeartbeats 1000000 in
theorem iRises_any (A : Option Addr) (n c : Nat) (l : List Int) (lo hi : Int) (w : World) (hn : n ≤ 1048576) (hr : Arr i64c 1 w w.heap.size A n l) :
    Calls Tryz.prog 242 #[.slice A n c, .int .i64 lo, .int .i64 hi] w fun e w' => e = .returned (.bool (risesB l lo hi)) ∧ Below w.heap.size w w' := by
  have hlen := hide hr.len
  go_enter Tryz.func242, Tryz.ntmps242
  go_wp2
  go_loopw [11] (fun i wr => ∃ k : Nat, k ≤ n ∧ i = .int .i64 k ∧ Below w.heap.size w wr ∧ Hid (∀ i, i < k → (inB (l.getD i 0) lo hi && (decide (i = 0) || decide (l.getD (i - 1) 0 < l.getD i 0))) = true)) (fun i _ => n - (intOf i).toNat)
  case atStart => exact ⟨0, Nat.zero_le _, rfl, Below.refl _ _, hide (by intro i hi; omega)⟩
  case round =>
    obtain ⟨k, hk, rfl, hb, hall⟩ := hrel
    by_cases hlt : k < n
    · obtain ⟨b, o, x, rfl, hbl, hx, c0⟩ := hr.int hlt
      have d0 : wr.cell? ⟨b, o + k, none⟩ = some (.int .i64 x) := (hb.cell (p := ⟨b, o + k, none⟩) hbl).trans c0
      have hX := hide hx
      clear hx c0
      have hx : Hid (l.getD k 0 = x) := hide (getD_of hX.out)
      have hB := hide hb
      have keyT : (inB x lo hi && (decide (k = 0) || decide (l.getD (k - 1) 0 < x))) = true → Hid (∀ i, i < k + 1 → (inB (l.getD i 0) lo hi && (decide (i = 0) || decide (l.getD (i - 1) 0 < l.getD i 0))) = true) := by
        refine fun hbb => hide fun i hi => ?_
        by_cases hik : i = k
        · subst hik; rw [hx.out]; exact hbb
        · exact hall.out i (by omega)
      have keyF : (inB x lo hi && (decide (k = 0) || decide (l.getD (k - 1) 0 < x))) = false → Hid (risesB l lo hi = false) := by
        refine fun hbb => hide ?_
        unfold risesB
        rw [List.all_eq_false]
        exact ⟨k, List.mem_range.2 (by rw [hlen.out]; exact hlt), by rw [hx.out, hbb]; simp⟩
      have hkT := hide keyT
      have hkF := hide keyF
      clear keyT keyF
      cases h1 : inB x lo hi
      · have hd := hkF.out (by rw [h1]; rfl)
        clear hr hb
        go_wp2_with (go_at_call 113; refine (within_any _ _ _ _).mono ?_; rintro e w' ⟨rfl, rfl⟩)
        go_ret
        exact ⟨retB hd.out.symm, hB.out⟩
      · by_cases h0 : k = 0
        · have hd := hkT.out (by rw [h1, decide_eq_true h0]; rfl)
          have hkp : decide (0 < k) = false := decide_eq_false (by omega)
          have hkz : ¬ 0 < k := by omega
          clear hr hb h0
          go_wp2_with (go_at_call 113; refine (within_any _ _ _ _).mono ?_; rintro e w' ⟨rfl, rfl⟩)
          go_roundw
          case rel => exact ⟨k + 1, by omega, by go_num, hB.out, hd⟩
          case measure => simp [intOf]; omega
        · obtain ⟨j, hj⟩ : ∃ j, k = j + 1 := ⟨k - 1, by omega⟩
          obtain ⟨b', o', y, hA', hbl', hy, cy⟩ := hr.int (show j < n by omega)
          cases hA'
          have e0 : wr.cell? ⟨b, o + j, none⟩ = some (.int .i64 y) := (hb.cell (p := ⟨b, o + j, none⟩) hbl').trans cy
          have hyy : Hid (l.getD (k - 1) 0 = y) := hide (by rw [hj, Nat.add_sub_cancel]; exact getD_of hy)
          have hwK : IntKind.i64.wrap ((k : Int) - 1) = (j : Int) := by rw [show (k : Int) - 1 = (j : Int) by omega]; exact IntWalk.i64_in _ (by omega)
          have hkp : decide (0 < k) = true := decide_eq_true (by omega)
          have hkz : 0 < k := by omega
          have hj0 : (0 : Int) ≤ (j : Int) := by omega
          have hjn : (j : Int) < (n : Int) := by omega
          have hdk : Hid (decide (k = 0) = false) := hide (decide_eq_false h0)
          clear hr hb hy cy hj h0
          by_cases hc : x ≤ y
          · have hd := hkF.out (by rw [h1, hdk.out, hyy.out, decide_eq_false (by omega)]; rfl)
            have hc2 : decide (x ≤ y) = true := decide_eq_true hc
            go_wp2_with (go_at_call 113; refine (within_any _ _ _ _).mono ?_; rintro e w' ⟨rfl, rfl⟩)
            go_ret
            exact ⟨retB hd.out.symm, hB.out⟩
          · have hd := hkT.out (by rw [h1, hdk.out, hyy.out, decide_eq_true (by omega)]; rfl)
            have hc2 : decide (x ≤ y) = false := decide_eq_false hc
            go_wp2_with (go_at_call 113; refine (within_any _ _ _ _).mono ?_; rintro e w' ⟨rfl, rfl⟩)
            go_roundw
            case rel => exact ⟨k + 1, by omega, by go_num, hB.out, hd⟩
            case measure => simp [intOf]; omega
    · have hkn : k = n := by omega
      have hB := hide hb
      have hfin : Hid (risesB l lo hi = true) := hide (by
        unfold risesB
        rw [List.all_eq_true]
        intro i hi
        exact hall.out i (by have := List.mem_range.1 hi; rw [hlen.out] at this; omega))
      subst hkn
      clear hb
      go_wp2
      go_ret
      exact ⟨retB hfin.out.symm, hB.out⟩
theorem iBroken_any (S : Int) (A : Option Addr) (n c : Nat) (l : List Int) (w : World) (hn : n ≤ 1048576) (hS : inB S 3 60 = true) (hr : Arr i64c 1 w w.heap.size A n l) :
    Calls Tryz.prog 190 #[.int .i64 S, .slice A n c] w fun e w' => e = .returned (.bool (risesB l 0 (S - 1))) ∧ Below w.heap.size w w' := by
  have hSb := inB_true.1 hS
  obtain ⟨d, hd⟩ : ∃ d, d = S - 1 := ⟨_, rfl⟩
  have hw1 : IntKind.i64.wrap (S - 1) = d := by rw [← hd]; exact IntWalk.i64_in _ (by omega)
  rw [← hd]
  clear hd
  go_enter Tryz.func190, Tryz.ntmps190
  go_wp2_with fail
  refine (iStakes_any S _).mono ?_
  rw [hS]
  rintro e w2 ⟨rfl, rfl⟩
  go_wp2_with fail
  refine (iRises_any A n c l 0 d _ hn hr).mono ?_
  rintro e w2 ⟨rfl, hb⟩
  have hB := hide hb
  clear hb
  go_wp2
  go_ret
  exact ⟨rfl, hB.out⟩
theorem rises_bound {l : List Int} {lo hi : Int} (h : risesB l lo hi = true) : ∀ x ∈ l, lo ≤ x ∧ x ≤ hi := by
  intro x hx
  obtain ⟨i, hi2⟩ := List.mem_iff_getElem?.1 hx
  unfold risesB at h
  have h1 := List.all_eq_true.1 h i (List.mem_range.2 (lt_of_get hi2))
  rw [Bool.and_eq_true] at h1
  rw [getD_of hi2] at h1
  exact inB_true.1 h1.1
theorem rises_len {l : List Int} {lo hi : Int} (h : risesB l lo hi = true) (hl : lo ≤ hi + 1) : (l.length : Int) ≤ hi - lo + 1 := by
  have key : ∀ k, k < l.length → lo + (k : Int) ≤ l.getD k 0 := by
    intro k
    induction k with
    | zero =>
      intro hk
      have h1 := rises_bound h (l.getD 0 0) (by rw [List.getD_eq_getElem?_getD, List.getElem?_eq_getElem hk]; exact List.getElem_mem hk)
      omega
    | succ k ih =>
      intro hk
      have h1 := ih (by omega)
      unfold risesB at h
      have h2 := List.all_eq_true.1 h (k + 1) (List.mem_range.2 hk)
      rw [Bool.and_eq_true, Bool.or_eq_true] at h2
      have h3 := h2.2.resolve_left (by simp)
      have h4 := of_decide_eq_true h3
      rw [Nat.add_sub_cancel] at h4
      omega
  rcases Nat.eq_zero_or_pos l.length with h0 | h0
  · omega
  · have h1 := key (l.length - 1) (by omega)
    have h2 := rises_bound h (l.getD (l.length - 1) 0) (by rw [List.getD_eq_getElem?_getD, List.getElem?_eq_getElem (by omega)]; exact List.getElem_mem _)
    omega
def newC (S : Int) (br : List Int) : Int := if risesB br 0 (S - 1) then 0 else 1
def newL (S : Int) (br : List Int) : List Int := if newC S br = 0 then mNew S.toNat br else []
end Go.Proofs.YtfpaejlipaainaaGreatDoor
namespace Go.Proofs.YtfpaejlipaainaaGreatDoor
open Go.ChangeShapes Go.WideShapes Go.ChangeAt Go.RowKit Go.Deep
def dgs : Nat → Nat → List UInt8 → List UInt8
  | 0, _, out => out
  | f + 1, k, out => if k = 0 then out else dgs f (k / 10) (UInt8.ofNat (48 + k % 10) :: out)
theorem dgs_zero (f : Nat) (out : List UInt8) : dgs f 0 out = out := by cases f <;> simp [dgs]
theorem dgs_step {f x : Nat} {out : List UInt8} (h : 0 < x) : dgs (f + 1) x out = dgs f (x / 10) (UInt8.ofNat (48 + x % 10) :: out) := by
  rw [dgs, if_neg (by omega)]
theorem dgs_dec : ∀ (f k : Nat) (out : List UInt8), k < 10 ^ f → 0 < k → dgs f k out = Lib.decDigits k ++ out
  | 0, k, out, h, h0 => by simp at h; omega
  | f + 1, k, out, h, h0 => by
    rw [dgs_step h0]
    by_cases h1 : k < 10
    · rw [show k / 10 = 0 by omega, dgs_zero, Lib.decDigits_one h1, show k % 10 = k by omega]; rfl
    · rw [Nat.pow_succ] at h
      rw [dgs_dec f (k / 10) _ (by omega) (by omega), Lib.decDigits.eq_1 k, dif_neg h1, List.append_assoc]; rfl
def decB (n : Int) : ByteArray := ⟨(Lib.itoa n).toArray⟩
theorem decB_size (n : Int) (h0 : -9223372036854775808 ≤ n) (h1 : n ≤ 9223372036854775807) : (decB n).size ≤ 21 := by
  have := Lib.itoa_length_le n h0 h1
  simpa [decB, ByteArray.size] using this
theorem decDigits_cons (u : Nat) : ∃ c r, Lib.decDigits u = c :: r ∧ 48 ≤ c.toNat ∧ c.toNat ≤ 57 := by
  induction u using Nat.strongRecOn with
  | _ u ih =>
    by_cases h : u < 10
    · refine ⟨UInt8.ofNat (48 + u), [], Lib.decDigits_one h, ?_, ?_⟩ <;> (rw [UInt8.toNat_ofNat']; omega)
    · obtain ⟨c, r, e, h1, h2⟩ := ih (u / 10) (by omega)
      exact ⟨c, r ++ [UInt8.ofNat (48 + u % 10)], by rw [Lib.decDigits, dif_neg h, e]; rfl, h1, h2⟩
def bare (l : List UInt8) : List UInt8 := match l with
  | 45 :: r => r
  | l => l
def isDig (c : UInt8) : Bool := decide (48 ≤ c.toNat) && decide (c.toNat ≤ 57)
def valOf (l : List UInt8) : Nat := l.foldl (fun n c => 10 * n + (c.toNat - 48)) 0
def rdSigned (l : List UInt8) : Int := if (bare l).length < l.length then -(valOf (bare l) : Int) else valOf (bare l)
def rdOk (l : List UInt8) : Bool := decide (1 ≤ (bare l).length) && decide ((bare l).length ≤ 18) && (bare l).all isDig && decide (Lib.itoa (rdSigned l) = l)
def rdNum (l : List UInt8) : Int := if rdOk l = true then rdSigned l else 0
theorem valOf_snoc (l : List UInt8) (c : UInt8) : valOf (l ++ [c]) = 10 * valOf l + (c.toNat - 48) := by simp [valOf, List.foldl_append]
theorem fold_lt : ∀ (l : List UInt8) (n : Nat), l.all isDig = true → l.foldl (fun n c => 10 * n + (c.toNat - 48)) n < (n + 1) * 10 ^ l.length
  | [], n, _ => by simp
  | c :: l, n, h => by
    rw [List.all_cons, Bool.and_eq_true] at h
    have h2 := h.1
    simp [isDig] at h2
    have := fold_lt l (10 * n + (c.toNat - 48)) h.2
    rw [List.foldl_cons]
    refine Nat.lt_of_lt_of_le this ?_
    rw [List.length_cons, Nat.pow_succ, Nat.mul_comm (10 ^ l.length) 10, ← Nat.mul_assoc]
    exact Nat.mul_le_mul_right _ (by omega)
theorem valOf_lt (l : List UInt8) (h : l.all isDig = true) : valOf l < 10 ^ l.length := by
  have := fold_lt l 0 h
  simpa [valOf] using this
theorem bare_le (l : List UInt8) : (bare l).length ≤ l.length ∧ l.length ≤ (bare l).length + 1 := by
  unfold bare; split <;> simp
theorem bare_minus (r : List UInt8) : bare (45 :: r) = r := rfl
theorem bare_other {l : List UInt8} (h : ∀ r, l ≠ 45 :: r) : bare l = l := by
  unfold bare; split
  · exact absurd rfl (h _)
  · rfl
theorem trimPrefix_minus (l : List UInt8) : Lib.trimPrefix l [45] = bare l := by
  unfold Lib.trimPrefix bare
  cases l with
  | nil => simp [Lib.hasPrefix]
  | cons c r =>
    by_cases h : c = 45
    · subst h; simp [Lib.hasPrefix]
    · have : Lib.hasPrefix (c :: r) [45] = false := by simp [Lib.hasPrefix, List.isPrefixOf, Ne.symm h]
      rw [this]
      simp only [Bool.false_eq_true, if_false]
      split
      · rename_i e; injection e with e _; exact absurd e h
      · rfl
def spl (c : UInt8) : List UInt8 → List UInt8 → List (List UInt8)
  | cur, [] => [cur]
  | cur, b :: r => if b = c then cur :: spl c [] r else spl c (cur ++ [b]) r
def words (c : UInt8) (s : ByteArray) : List ByteArray := (spl c [] s.data.toList).map fun l => ⟨l.toArray⟩
theorem spl_ne (c : UInt8) (cur l : List UInt8) : spl c cur l ≠ [] := by
  induction l generalizing cur with
  | nil => simp [spl]
  | cons b r ih => unfold spl; split <;> simp [ih]
theorem spl_cons (c b : UInt8) : ∀ (cur r : List UInt8), ∀ x t, spl c cur r = x :: t → spl c (b :: cur) r = (b :: x) :: t := by
  intro cur r
  induction r generalizing cur with
  | nil =>
    intro x t h
    rw [spl, List.cons.injEq] at h
    obtain ⟨rfl, rfl⟩ := h
    rfl
  | cons a r ih =>
    intro x t h
    unfold spl at h ⊢
    by_cases e : a = c
    · rw [if_pos e] at h ⊢
      injection h with h1 h2
      rw [h1, h2]
    · rw [if_neg e] at h ⊢
      have := ih (cur ++ [a]) x t h
      simpa using this
theorem splitK_spl (c : UInt8) : ∀ l : List UInt8, Lib.splitK [c] 0 (Lib.count l [c]) l = spl c [] l
  | [] => by rw [Lib.count_one]; simp [Lib.splitK, spl]
  | b :: l => by
    have ih := splitK_spl c l
    by_cases h : b = c
    · subst h
      rw [Lib.count_cons_eq, Nat.add_comm]
      have hix : Lib.index (b :: l) [b] = 0 := by rw [Lib.index]; simp [List.isPrefixOf]
      have : Lib.splitK [b] 0 (Lib.count l [b] + 1) (b :: l) = [] :: Lib.splitK [b] 0 (Lib.count l [b]) l := by
        rw [Lib.splitK, hix]; simp
      rw [this, ih, spl, if_pos rfl]
    · rw [Lib.count_cons_ne b c l h]
      have hp : ([c] : List UInt8).isPrefixOf (b :: l) = false := by simp [List.isPrefixOf, Ne.symm h]
      have hix : Lib.index (b :: l) [c] = if Lib.index l [c] == -1 then -1 else Lib.index l [c] + 1 := by rw [Lib.index, hp]; simp
      rw [spl, if_neg h]
      have key : ∃ x t, spl c [] l = x :: t ∧ Lib.splitK [c] 0 (Lib.count l [c]) (b :: l) = (b :: x) :: t := by
        rw [← ih]
        by_cases hm : Lib.index l [c] = -1
        · have h2 : Lib.index (b :: l) [c] = -1 := by rw [hix, if_pos (beq_iff_eq.2 hm)]
          cases hk : Lib.count l [c] with
          | zero => exact ⟨l, [], rfl, rfl⟩
          | succ k => exact ⟨l, [], by rw [Lib.splitK, if_pos (beq_iff_eq.2 hm)], by rw [Lib.splitK, if_pos (beq_iff_eq.2 h2)]⟩
        · have hge := Lib.index_ge l [c]
          obtain ⟨j, hj⟩ : ∃ j : Nat, Lib.index l [c] = j := ⟨(Lib.index l [c]).toNat, by omega⟩
          have h2 : Lib.index (b :: l) [c] = ((j + 1 : Nat) : Int) := by rw [hix, if_neg (fun e => hm (beq_iff_eq.1 e)), hj]; omega
          cases hk : Lib.count l [c] with
          | zero => rw [Lib.count_hit (by simp) hj] at hk; omega
          | succ k =>
            refine ⟨l.take j, Lib.splitK [c] 0 k (l.drop (j + 1)), ?_, ?_⟩
            · rw [Lib.splitK, if_neg (fun e => hm (beq_iff_eq.1 e)), hj]; simp
            · rw [Lib.splitK, if_neg (fun e => by have := beq_iff_eq.1 e; omega), h2]; simp
      obtain ⟨x, t, h1, h2⟩ := key
      rw [h2]
      exact (spl_cons c b [] l x t h1).symm
theorem mk_data (s : ByteArray) : (⟨s.data.toList.toArray⟩ : ByteArray) = s := by obtain ⟨⟨l⟩⟩ := s; rfl
theorem splitB_words (c : UInt8) (s : ByteArray) : Lib.splitB ⟨#[c]⟩ 0 (Lib.countB s ⟨#[c]⟩) s = words c s := by
  have h1 := Lib.splitB_data ⟨#[c]⟩ 0 (Lib.countB s ⟨#[c]⟩) s
  have h2 : Lib.countB s ⟨#[c]⟩ = Lib.count s.data.toList [c] := rfl
  rw [h2] at h1 ⊢
  have h3 : (⟨#[c]⟩ : ByteArray).data.toList = [c] := rfl
  rw [h3, splitK_spl] at h1
  unfold words
  rw [← h1, List.map_map]
  have : ((fun l : List UInt8 => (⟨l.toArray⟩ : ByteArray)) ∘ fun x : ByteArray => x.data.toList) = id := by funext x; exact mk_data x
  rw [this, List.map_id]
theorem words_len (c : UInt8) (s : ByteArray) : (words c s).length = Lib.countB s ⟨#[c]⟩ + 1 := by
  rw [← splitB_words]
  exact Lib.splitB_all ⟨#[c]⟩ (by simp [ByteArray.size]) 0 _ s rfl
theorem spl_bound (c : UInt8) : ∀ (cur l : List UInt8), ∀ x ∈ spl c cur l, x.length ≤ cur.length + l.length
  | cur, [], x, h => by simp [spl] at h; subst h; simp
  | cur, b :: r, x, h => by
    unfold spl at h
    split at h
    · rcases List.mem_cons.1 h with rfl | h
      · simp
      · have := spl_bound c [] r x h; simp at this ⊢; omega
    · have := spl_bound c (cur ++ [b]) r x h; simp at this ⊢; omega
theorem words_size (c : UInt8) (s : ByteArray) {x : ByteArray} (h : x ∈ words c s) : x.size ≤ s.size := by
  obtain ⟨l, hl, rfl⟩ := List.mem_map.1 h
  have := spl_bound c [] s.data.toList l hl
  have e : s.data.toList.length = s.size := by rw [Array.length_toList]; rfl
  show l.toArray.size ≤ s.size
  rw [List.size_toArray, ← e]
  simpa using this
end Go.Proofs.YtfpaejlipaainaaGreatDoor
