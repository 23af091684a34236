/- The source of choices (spec's l00Src): loose contracts, for every state of it. No statement is proved here. -/
import Derived.Test.YtpnbnhhifgcklaaDoorKit
import Derived.Deep.RegionWith
namespace Go.Proofs.YtpnbnhhifgcklaaDoor
open Go.ChangeShapes Go.WideShapes Go.ChangeAt Go.RowKit Go.Deep
set_option maxRecDepth 100000
def byteL (l : List Int) : Prop := ∀ x ∈ l, 0 ≤ x ∧ x ≤ 255
/-- The block g holds the bytes, the place (m at most) and the seed. -/
def Src (w : World) (g m : Nat) : Prop :=
  ∃ A n c l at_ sd, w.heap[g]? = some (.cells #[.slice A n c, .int .i64 at_, .int .u64 sd] 58 (0, 0)) ∧ Arr u8c 1 w g A n l ∧ byteL l ∧ 0 ≤ at_ ∧ at_ ≤ (m : Int) ∧ c ≤ maxLen ∧ n ≤ c
theorem and255 (x : Int) : 0 ≤ wrap64 (bits .and .u64 x 255) ∧ wrap64 (bits .and .u64 x 255) ≤ 255 := by
  have h : bits .and .u64 x 255 = IntKind.u64.wrap ((BitVec.ofInt 64 x &&& BitVec.ofInt 64 255).toNat : Int) := rfl
  have h2 : (BitVec.ofInt 64 x &&& BitVec.ofInt 64 255).toNat ≤ 255 := by
    rw [BitVec.toNat_and]; exact Nat.and_le_right
  rw [h, IntKind.wrap_u64]
  unfold wrap64
  omega
theorem grown_drewN (w : World) (k : Nat) (row : Option Nat) : w.grownBy (w.drewN k) row := by
  have hb := below_drewN (Below.refl w.heap.size w) k
  exact ⟨hb.os, hb.tape, hb.output, hb.size, fun i hi _ => hb.block i hi⟩
theorem blk_set {w : World} {g : Nat} {t : TypeId} {cs : Array Value} (h : w.heap[g]? = some (.cells cs t (0, 0))) (i : Nat) (u : Value) : (w.setCell ⟨g, i, none⟩ u).heap[g]? = some (.cells (cs.setIfInBounds i u) t (0, 0)) := by
  simp [World.setCell, Array.getElem?_modify, h]
theorem src_set {w W : World} {g : Nat} {a b c b' c' : Value} {t : TypeId} (k : Nat) (hb : w.heap[g]? = some (.cells #[a, b, c] t (0, 0)))
    (hW : W = ((w.drewN k).setCell ⟨g, 1, none⟩ b').setCell ⟨g, 2, none⟩ c') : W.heap[g]? = some (.cells #[a, b', c'] t (0, 0)) ∧ w.grownBy W (some g) := by
  subst hW
  refine ⟨?_, only_setCell (w := (w.drewN k).setCell ⟨g, 1, none⟩ b') (p := ⟨g, 2, none⟩) (only_setCell (w := w.drewN k) (p := ⟨g, 1, none⟩) (grown_drewN w k _) rfl _) rfl _⟩
  have h1 : (w.drewN k).heap[g]? = some (.cells #[a, b, c] t (0, 0)) := ((below_drewN (Below.refl w.heap.size w) k).block g (Array.getElem?_eq_some_iff.1 hb).1).trans hb
  rw [blk_set (blk_set h1 1 b') 2 c']; rfl
theorem src_cells {w : World} {g : Nat} {a b c : Value} {t : TypeId} (hb : w.heap[g]? = some (.cells #[a, b, c] t (0, 0))) :
    w.cell? ⟨g, 0, none⟩ = some a ∧ w.cell? ⟨g, 1, none⟩ = some b ∧ w.cell? ⟨g, 2, none⟩ = some c ∧ ∀ j : Nat, w.frozen? ⟨g, j, none⟩ = false :=
  ⟨by rw [cell_of_row _ _ _ _ _ _ hb]; rfl, by rw [cell_of_row _ _ _ _ _ _ hb]; rfl, by rw [cell_of_row _ _ _ _ _ _ hb]; rfl, fun j => frozen_of_row _ _ _ _ _ hb⟩
theorem grown_two {a b c : World} {row : Option Nat} (h : a.grownBy b row) (h' : b.grownBy c row) : a.grownBy c row :=
  ⟨h'.os.trans h.os, h'.tape.trans h.tape, h'.output.trans h.output, Nat.le_trans h.size h'.size, fun k hk hne => (h'.block k (Nat.lt_of_lt_of_le hk h.size) hne).trans (h.block k hk hne)⟩
theorem src_end {w W : World} {g m n c : Nat} {A : Option Addr} {l : List Int} {at_ sd : Int} (q : Nat) (hB : Hid (W.heap[g]? = some (.cells #[.slice A n c, .int .i64 at_, .int .u64 sd] 58 (0, 0)) ∧ w.grownBy W (some g)))
    (hg : g < w.heap.size) (hr : Arr u8c 1 w g A n l) (hl : byteL l) (h0 : 0 ≤ at_) (h1 : at_ ≤ (m : Int)) (hc : c ≤ maxLen) (hn : n ≤ c) : w.grownBy (W.drewN q) (some g) ∧ Src (W.drewN q) g m := by
  have hgr := grown_two hB.out.2 (grown_drewN W q (some g))
  refine ⟨hgr, A, n, c, l, at_, sd, ?_, hr.grown hgr (by omega) (fun k hk => by cases hk; exact Nat.le_refl _), hl, h0, h1, hc, hn⟩
  exact ((below_drewN (Below.refl W.heap.size W) q).block g (Array.getElem?_eq_some_iff.1 hB.out.1).1).trans hB.out.1
theorem nameW {P : Program} {co : Code} {K : Exit → Act → World → Prop} {a : Act} {W : World} {φ : World → Prop} (h : φ W) (k : ∀ W1, φ W1 → Code.wp P co K a W1) : Code.wp P co K a W := k W h
theorem next_any (w : World) (g m : Nat) (hs : Src w g m) (hm : m ≤ 1000000000) :
    Calls Tryd.prog 45 #[.pointer (some ⟨g, 0, none⟩)] w fun e w' => ∃ x : Int, e = .returned (.int .i64 x) ∧ 0 ≤ x ∧ x ≤ 255 ∧ w.grownBy w' (some g) ∧ Src w' g (m + 1) := by
  obtain ⟨A, n, c, l, at_, sd, hb, hr, hl, h0, h1, hc, hn⟩ := hs
  obtain ⟨c0, c1, c2, cf⟩ := src_cells hb
  have hgl : Hid (g < w.heap.size) := hide (Array.getElem?_eq_some_iff.1 hb).1
  have hB := hide hb
  have hR := hide hr
  have hw1 : IntKind.i64.wrap (at_ + 1) = at_ + 1 := IntWalk.i64_in _ (by omega)
  clear hb
  by_cases hlt : at_ < (n : Int)
  · obtain ⟨b, o, x, rfl, hbl, hx, d0⟩ := hr.u8 (k := at_.toNat) (by omega)
    have hX := hide hx
    have hx0 := hl x (List.mem_of_getElem? hx)
    obtain ⟨hx00, hx01⟩ := hx0
    have hx1 : IntKind.i64.wrap x = x := IntWalk.i64_in _ (by omega)
    have hle : at_ + 1 ≤ (n : Int) := by omega
    clear hx hr
    go_enter Tryd.func45, Tryd.ntmps45
    go_wp2
    go_quiet (fail)
    go_wp2
    go_quiet (fail)
    go_wp2
    refine nameW (φ := fun W1 => ∃ sd' : Int, W1.heap[g]? = some (.cells #[.slice (some ⟨b, o, none⟩) n c, .int .i64 (at_ + 1), .int .u64 sd'] 58 (0, 0)) ∧ w.grownBy W1 (some g)) ⟨_, src_set _ hB.out rfl⟩ ?_
    rintro W1 ⟨sd', hW1⟩
    obtain ⟨d0', d1', d2', df⟩ := src_cells hW1.1
    have hE := hide hW1
    clear hW1 c0 c1 c2 cf d0
    go_quiet (fail)
    go_wp2
    go_ret
    exact ⟨x, rfl, hx00, hx01, src_end _ hE hgl.out hR.out hl (by omega) (by omega) hc hn⟩
  · have hlt' : ¬ at_ + 1 ≤ (n : Int) := by omega
    go_enter Tryd.func45, Tryd.ntmps45
    go_wp2
    go_quiet (fail)
    go_wp2
    refine nameW (φ := fun W1 => ∃ sd' : Int, W1.heap[g]? = some (.cells #[.slice A n c, .int .i64 (at_ + 1), .int .u64 sd'] 58 (0, 0)) ∧ w.grownBy W1 (some g)) ⟨_, src_set _ hB.out rfl⟩ ?_
    rintro W1 ⟨sd', hW1⟩
    obtain ⟨d0', d1', d2', df⟩ := src_cells hW1.1
    have hE := hide hW1
    clear hW1 c0 c1 c2 cf
    go_quiet (fail)
    go_wp2
    go_ret
    exact ⟨_, rfl, (and255 _).1, (and255 _).2, src_end _ hE hgl.out hR.out hl (by omega) (by omega) hc hn⟩
/-- What a choice leaves behind. -/
def Picked (w w' : World) (g m : Nat) : Prop := w.grownBy w' (some g) ∧ Src w' g m
theorem Src.more {w : World} {g m m' : Nat} (h : Src w g m) (hm : m ≤ m') : Src w g m' := by
  obtain ⟨A, n, c, l, at_, sd, hb, hr, hl, h0, h1, hc, hn⟩ := h
  exact ⟨A, n, c, l, at_, sd, hb, hr, hl, h0, by omega, hc, hn⟩
theorem rem_bound {x n : Int} (h : 0 ≤ x) (hn : 1 < n) : 0 ≤ x.tmod n ∧ x.tmod n < n := by
  rw [Int.tmod_eq_emod_of_nonneg h]
  exact ⟨Int.emod_nonneg _ (by omega), Int.emod_lt_of_pos _ (by omega)⟩
theorem pick_any (w : World) (g m : Nat) (n : Int) (hs : Src w g m) (hm : m ≤ 999999999) :
    Calls Tryd.prog 31 #[.pointer (some ⟨g, 0, none⟩), .int .i64 n] w fun e w' => ∃ x : Int, e = .returned (.int .i64 x) ∧ 0 ≤ x ∧ (n ≤ 1 → x = 0) ∧ (1 < n → x < n) ∧ w.grownBy w' (some g) ∧ Src w' g (m + 2) := by
  by_cases h1 : n ≤ 1
  · go_enter Tryd.func31, Tryd.ntmps31
    go_wp2
    go_ret
    exact ⟨0, rfl, by omega, fun _ => rfl, by omega, World.grownBy.refl _ _, hs.more (by omega)⟩
  · by_cases h2 : 200 < n
    · go_enter Tryd.func31, Tryd.ntmps31
      go_wp2_with fail
      refine (next_any w g m hs (by omega)).mono ?_
      rintro e w1 ⟨x, rfl, hx0, hx1, hg1, hs1⟩
      have hG1 := hide hg1
      clear hg1
      have hw1 : IntKind.i64.wrap (x * 256) = x * 256 := IntWalk.i64_in _ (by omega)
      go_wp2_with fail
      refine (next_any w1 g (m + 1) hs1 (by omega)).mono ?_
      rintro e w2 ⟨y, rfl, hy0, hy1, hg2, hs2⟩
      have hG2 := hide hg2
      clear hg2
      have hw2 : IntKind.i64.wrap (x * 256 + y) = x * 256 + y := IntWalk.i64_in _ (by omega)
      have hn0 : ¬ n = 0 := by omega
      go_wp2
      go_ret
      exact ⟨_, rfl, Int.emod_nonneg _ hn0, fun h => absurd h (by omega), fun _ => Int.emod_lt_of_pos _ (by omega), grown_two hG1.out hG2.out, hs2.more (by omega)⟩
    · go_enter Tryd.func31, Tryd.ntmps31
      go_wp2_with fail
      refine (next_any w g m hs (by omega)).mono ?_
      rintro e w1 ⟨x, rfl, hx0, hx1, hg1, hs1⟩
      have hG1 := hide hg1
      clear hg1
      have hn0 : ¬ n = 0 := by omega
      go_wp2
      go_ret
      exact ⟨_, rfl, Int.emod_nonneg _ hn0, fun h => absurd h (by omega), fun _ => Int.emod_lt_of_pos _ (by omega), hG1.out, hs1.more (by omega)⟩
theorem from_any (w : World) (A : Option Addr) (n c : Nat) (l : List Int) (hr : Arr u8c 1 w w.heap.size A n l) (hl : byteL l) (hc : c ≤ maxLen) (hn : n ≤ c) :
    Calls Tryd.prog 17 #[.slice A n c] w fun e w' => e = .returned (.pointer (some ⟨w.heap.size, 0, none⟩)) ∧ Below w.heap.size w w' ∧ w'.heap.size = w.heap.size + 1 ∧ Src w' w.heap.size 0 := by
  go_enter Tryd.func17, Tryd.ntmps17
  go_wp2
  go_ret
  refine ⟨rfl, by go_grown, by simp, A, n, c, l, 0, 0, heap_alloc_new _ _, hr.below (by go_grown), hl, by omega, by omega, hc, hn⟩
theorem Src.lt {w : World} {g m : Nat} (h : Src w g m) : g < w.heap.size := by
  obtain ⟨A, n, c, l, at_, sd, hb, _⟩ := h
  exact (Array.getElem?_eq_some_iff.1 hb).1
theorem Src.below {w w' : World} {g m : Nat} (h : Src w g m) (hb : Below w.heap.size w w') : Src w' g m := by
  have hg := h.lt
  obtain ⟨A, n, c, l, at_, sd, hk, hr, rest⟩ := h
  exact ⟨A, n, c, l, at_, sd, (hb.block g hg).trans hk, (hr.more (Nat.le_of_lt hg)).below hb |>.keep (fun _ _ => rfl) |> fun _ => hr.keep (fun p hp => hb.cell (by omega)), rest⟩
theorem Src.alloc {w : World} {g m : Nat} (h : Src w g m) (o : Obj) : Src (w.alloc o) g m := h.below ((Below.refl _ _).alloc (Nat.le_refl _) o)
theorem lit_ints (w : World) (cs : Array Value) (T : TypeId) (l : List Int) (n : Nat) (h : cs.toList = l.map (Value.int .i64)) (hn : l.length = n) : Arr i64c 1 (w.alloc (.cells cs T)) (w.alloc (.cells cs T)).heap.size (some ⟨w.heap.size, 0, none⟩) n l := by
  refine ⟨hn, fun _ => ⟨_, _, rfl, by simp, fun i x hx j u hu => ?_⟩⟩
  have hj : j = 0 := by have := lt_of_get hu; simp [i64c] at this; exact this
  subst hj
  have hu' : u = .int .i64 x := by simpa [i64c] using hu.symm
  subst hu'
  rw [cell_of_row _ _ _ _ _ _ (heap_alloc_new w _)]
  rw [← Array.getElem?_toList, h, List.getElem?_map]
  simp [hx]
/-- The source g, made since W: all that was there in W stands. -/
def DS (W w : World) (g m : Nat) : Prop := Below W.heap.size W w ∧ W.heap.size ≤ g ∧ Src w g m
theorem DS.step {W w w' : World} {g m m' : Nat} (h : DS W w g m) (hg : w.grownBy w' (some g)) (hs : Src w' g m') : DS W w' g m' :=
  ⟨h.1.grown hg h.1.size (fun k hk => by cases hk; exact h.2.1), h.2.1, hs⟩
theorem DS.alloc {W w : World} {g m : Nat} (h : DS W w g m) (o : Obj) : DS W (w.alloc o) g m := ⟨h.1.alloc h.1.size o, h.2.1, h.2.2.alloc o⟩
theorem DS.below {W w w' : World} {g m : Nat} (h : DS W w g m) (hb : Below w.heap.size w w') : DS W w' g m := ⟨Below.up h.1 hb, h.2.1, h.2.2.below hb⟩
section
variable {α : Type} {cells : α → List Value} {e s : Nat} {W w w' : World} {base n g m : Nat} {v : Value} {l : List α}
theorem Src.kept (h : Src w g m) (hk : ∀ i, i ≤ g → w'.heap[i]? = w.heap[i]?) : Src w' g m := by
  obtain ⟨A, n, c, l, at_, sd, hb, hr, rest⟩ := h
  exact ⟨A, n, c, l, at_, sd, (hk g (Nat.le_refl _)).trans hb, hr.keep (fun p hp => World.cell?_of_block (hk _ (by omega))), rest⟩
/-- A row that was made behind the source does not lie in its block. -/
theorem Own.notg (h : Own cells e s w base v n l) (hb : g < base) : v.ownBlock ≠ some g := fun he => by
  have := (h.2.lt g he).1; omega
theorem Src.row (hs : Src w g m) (h : Own cells e s w base v n l) (hb : g < base) (hg : w.grownBy w' v.ownBlock) : Src w' g m := by
  have hl := hs.lt
  exact hs.kept (fun i hi => hg.block i (by omega) (fun he => by have := (h.2.lt i he.symm).1; omega))
theorem DS.row (hd : DS W w g m) (h : Own cells e s w base v n l) (hb : g < base) (hg : w.grownBy w' v.ownBlock) : DS W w' g m :=
  ⟨hd.1.grown hg hd.1.size (fun k hk => by have := (h.2.lt k hk).1; have := hd.2.1; omega), hd.2.1, hd.2.2.row h hb hg⟩
/-- The source g, that was there in W: but for its block all that was there in W stands. -/
def PS (W w : World) (g m : Nat) : Prop := W.grownBy w (some g) ∧ g < W.heap.size ∧ Src w g m
theorem PS.first (h : Src w g m) : PS w w g m := ⟨World.grownBy.refl _ _, h.lt, h⟩
theorem PS.step {m' : Nat} (h : PS W w g m) (hg : w.grownBy w' (some g)) (hs : Src w' g m') : PS W w' g m' := ⟨grown_two h.1 hg, h.2.1, hs⟩
theorem PS.alloc (h : PS W w g m) (o : Obj) : PS W (w.alloc o) g m := ⟨grown_two h.1 (World.grownBy_alloc w o _), h.2.1, h.2.2.alloc o⟩
theorem grown_of_below {row : Option Nat} (hb : Below w.heap.size w w') : w.grownBy w' row := ⟨hb.os, hb.tape, hb.output, hb.size, fun i hi _ => hb.block i hi⟩
theorem PS.below (h : PS W w g m) (hb : Below w.heap.size w w') : PS W w' g m := ⟨grown_two h.1 (grown_of_below hb), h.2.1, h.2.2.below hb⟩
theorem PS.row (hd : PS W w g m) (h : Own cells e s w base v n l) (hb : W.heap.size ≤ base) (hg : w.grownBy w' v.ownBlock) : PS W w' g m :=
  ⟨⟨hg.os.trans hd.1.os, hg.tape.trans hd.1.tape, hg.output.trans hd.1.output, Nat.le_trans hd.1.size hg.size, fun k hk hne =>
    (hg.block k (Nat.lt_of_lt_of_le hk hd.1.size) (fun he => by have := (h.2.lt k he.symm).1; omega)).trans (hd.1.block k hk hne)⟩, hd.2.1, hd.2.2.row h (by have := hd.2.1; omega) hg⟩
theorem Own.src (h : Own cells e s w base v n l) (hb : g < base) (hg : w.grownBy w' (some g)) : Own cells e s w' base v n l := h.kept hg (.inr (h.notg hb))
end
end Go.Proofs.YtpnbnhhifgcklaaDoor
