/- Contracts of the drawn pieces. No statement is proved here. -/
import Derived.Test.YtgjcmnnhcoaliaaSrt
import Derived.Test.YtgjcmnnhcoaliaaBox
import Derived.Test.YtgjcmnnhcoaliaaApp
import Derived.Test.YtgjcmnnhcoaliaaTrio
import Derived.Test.YtgjcmnnhcoaliaaMkN
namespace Go.Proofs.Ytgjcmnnhcoaliaa
open Go.ChangeShapes Go.WideShapes Go.ChangeAt Go.RowKit Go.Deep
set_option maxRecDepth 100000
theorem box_far {w : World} {r k i : Nat} {u : Value} {o : Obj} (h : w.heap[r]? = some o) (hne : r ≠ k) : (w.setCell ⟨k, i, none⟩ u).heap[r]? = some o := box_kept h (grown_set w k i u) hne
def Drew25 (w : World) (g m : Nat) (e : Ending) (w' : World) : Prop := ∃ (A : Option Addr) (c : Nat) (l : List PieceW), e = .returned (.slice A l.length c) ∧ Own PieceW.cells 30 4 w' w.heap.size (.slice A l.length c) l.length l ∧ DP l ∧ l.length ≤ c ∧ w.grownBy w' (some g) ∧ Src w' g m
theorem info_Piece : (Try.prog.info? 30).map (fun i => (i.zero, i.size, i.bytes)) = some (some (.agg #[.string ByteArray.empty, .string ByteArray.empty, .int .i64 0, .int .i64 0]), 4, 48) := by kernel_rfl
theorem PieceW.one1 : ∀ x, ∀ u ∈ PieceW.cells x, u.oneCell' = true := by intro x u hu; simp [PieceW.cells] at hu; rcases hu with rfl | rfl | rfl | rfl <;> rfl
set_option maxHeartbeats 2000000 in
theorem draw25_any (w : World) (g m : Nat) (hs : Src w g m) (hm : m ≤ 800000000) :
    Calls Try.prog 20 #[.pointer (some ⟨g, 0, none⟩)] w fun e w' => Drew25 w g (m + 1000) e w' := by
  have hD : Hid (PS w w g m) := hide (PS.first hs)
  have hgw : Hid (g < w.heap.size) := hide hs.lt
  clear hs
  have hO := hide (Own.none_made (cells := PieceW.cells) (e := 30) (s := 4) w (Nat.le_refl _))
  replace hD := hide (hD.out.alloc (.cells #[] 30))
  go_enter Try.func20, Try.ntmps20
  go_wp2_with fail
  refine (pick_any _ g _ _ hD.out.2.2 (by omega)).mono ?_
  rintro e w2 ⟨N, rfl, x0, _, x2, hg, hs⟩
  replace hO := hide (hO.out.src hgw.out hg)
  replace hD := hide (hD.out.step hg hs)
  clear hg hs
  have x3 := x2 (by omega)
  clear x2
  go_wp2
  go_loopw [3, 4] (fun v i wr => ∃ (j : Nat) (a : List PieceW), (j : Int) ≤ N ∧ a.length = j ∧ i = .int .i64 (N - j) ∧ PS w wr g (m + 100 + 20 * j) ∧ Own PieceW.cells 30 4 wr w.heap.size v j a ∧ ∀ z ∈ a, z.drawn) (fun _ i _ => (intOf i).toNat)
  case atStart => exact ⟨0, [], by omega, rfl, by simp, ⟨hD.out.1, hD.out.2.1, hD.out.2.2.more (by omega)⟩, hO.out, by simp⟩
  case round =>
    obtain ⟨j, a, hj, ha, rfl, hd, ho, hI⟩ := hrel
    replace hO := hide ho
    replace hD := hide hd
    have hF := hide hI
    have hA := hide ha
    clear hd ho hI ha
    by_cases hlt : 0 < N - j
    · have hlt' : (j : Int) < N := by omega
      have hwj : IntKind.i64.wrap (N - (j : Int) - 1) = N - (j : Int) - 1 := IntWalk.i64_in _ (by omega)
      go_wp2_with fail
      refine (text_any _ g _ _ 3 _ [⟨#[109, 101, 103]⟩, ⟨#[116, 111, 109]⟩, ⟨#[97, 100, 97, 45, 50]⟩] (hD.out.2.2.alloc _) (by omega) (by omega) (by omega) (Nat.ne_of_gt hD.out.2.2.lt) (lit_strs _ _ _ _ _ rfl rfl)).mono ?_
      rintro e w2 ⟨s1, rfl, hs1, hg0, hs⟩
      have hg := grown_two (World.grownBy_alloc _ _ _) hg0
      clear hg0
      replace hO := hide (hO.out.src hgw.out hg)
      replace hD := hide (hD.out.step hg hs)
      clear hg hs
      have hs1' : Hid (s1 ∈ NM) := hide (by simp at hs1; unfold NM; simp; rcases hs1 with h | h | h <;> simp [h])
      clear hs1
      go_upto_region 6 with fail
      obtain ⟨k, hk⟩ : ∃ k, k = w2.heap.size := ⟨_, rfl⟩
      have hkg : Hid (k ≠ g) := hide (by have := hD.out.2.2.lt; omega)
      have hkw : Hid (w.heap.size ≤ k) := hide (by rw [hk]; exact hD.out.1.size)
      have hko : Hid (u3.ownBlock ≠ some k) := hide (hO.out.notNew (Nat.le_of_eq hk.symm))
      rw [← hk]
      refine nameW (φ := fun W => W.heap[k]? = some (.cells #[.string s1, .string ⟨#[]⟩, .int .i64 0, .int .i64 0] 30 (0, 0)) ∧ PS w W g (m + 100 + 20 * j + 2) ∧ Own PieceW.cells 30 4 W w.heap.size u3 j a) ⟨by rw [hk]; exact heap_alloc_new w2 _, hD.out.alloc _, ⟨hO.out.1, hO.out.2.alloc _⟩⟩ ?_
      rintro W3 ⟨hk3, hd3, ho3⟩
      have hK := hide hk3
      replace hD := hide hd3
      replace hO := hide ho3
      clear hk3 hd3 ho3 hk
      obtain ⟨c0, c1, c2, c3, cf⟩ := brow4 hK.out
      go_wp2_with fail
      refine (text_any _ g _ _ 4 _ [⟨#[108, 111, 103, 45, 50]⟩, ⟨#[109, 97, 114, 107, 101, 116]⟩, ⟨#[114, 111, 117, 110, 100]⟩, ⟨#[112, 111, 116, 97, 116, 111]⟩] (hD.out.2.2.alloc _) (by omega) (by omega) (by omega) (Nat.ne_of_gt hD.out.2.2.lt) (lit_strs _ _ _ _ _ rfl rfl)).mono ?_
      rintro e w2 ⟨s2, rfl, hs2, hg0, hs⟩
      have hg := grown_two (World.grownBy_alloc _ _ _) hg0
      clear hg0
      replace hO := hide (hO.out.src hgw.out hg)
      replace hK := hide (box_kept hK.out hg hkg.out)
      replace hD := hide (hD.out.step hg hs)
      clear hg hs
      have hs2' : Hid (s2 ∈ SM) := hide (by simp at hs2; unfold SM; simp; rcases hs2 with h | h | h | h <;> simp [h])
      clear hs2 c0 c1 c2 c3 cf
      obtain ⟨c0, c1, c2, c3, cf⟩ := brow4 hK.out
      go_upto_region 7 with fail
      refine nameW (φ := fun W => W.heap[k]? = some (.cells #[.string s1, .string s2, .int .i64 0, .int .i64 0] 30 (0, 0)) ∧ PS w W g (m + 100 + 20 * j + 2 + 2) ∧ Own PieceW.cells 30 4 W w.heap.size u3 j a) ⟨box_set hK.out 1 (.string s2), hD.out.cell (i := 1) (u := .string s2) hkw.out, hO.out.box hko.out⟩ ?_
      rintro W3 ⟨hk3, hd3, ho3⟩
      clear c0 c1 c2 c3 cf
      replace hK := hide hk3
      replace hD := hide hd3
      replace hO := hide ho3
      clear hk3 hd3 ho3
      obtain ⟨c0, c1, c2, c3, cf⟩ := brow4 hK.out
      go_wp2_with fail
      refine (pick_any _ g _ _ hD.out.2.2 (by omega)).mono ?_
      rintro e w2 ⟨dy, rfl, d0, _, d2, hg, hs⟩
      replace hO := hide (hO.out.src hgw.out hg)
      replace hK := hide (box_kept hK.out hg hkg.out)
      replace hD := hide (hD.out.step hg hs)
      clear hg hs
      have d3 := d2 (by omega)
      clear d2 c0 c1 c2 c3 cf
      obtain ⟨c0, c1, c2, c3, cf⟩ := brow4 hK.out
      go_upto_region 8 with fail
      refine nameW (φ := fun W => W.heap[k]? = some (.cells #[.string s1, .string s2, .int .i64 dy, .int .i64 0] 30 (0, 0)) ∧ PS w W g (m + 100 + 20 * j + 2 + 2 + 2) ∧ Own PieceW.cells 30 4 W w.heap.size u3 j a) ⟨box_set hK.out 2 (.int .i64 dy), hD.out.cell (i := 2) (u := .int .i64 dy) hkw.out, hO.out.box hko.out⟩ ?_
      rintro W3 ⟨hk3, hd3, ho3⟩
      clear c0 c1 c2 c3 cf
      replace hK := hide hk3
      replace hD := hide hd3
      replace hO := hide ho3
      clear hk3 hd3 ho3
      obtain ⟨c0, c1, c2, c3, cf⟩ := brow4 hK.out
      go_wp2_with fail
      refine (pick_any _ g _ _ hD.out.2.2 (by omega)).mono ?_
      rintro e w2 ⟨mk, rfl, b0, _, b2, hg, hs⟩
      replace hO := hide (hO.out.src hgw.out hg)
      replace hK := hide (box_kept hK.out hg hkg.out)
      replace hD := hide (hD.out.step hg hs)
      clear hg hs
      have b3 := b2 (by omega)
      clear b2 c0 c1 c2 c3 cf
      have wb : IntKind.i64.wrap (1 + mk) = 1 + mk := IntWalk.i64_in _ (by omega)
      obtain ⟨c0, c1, c2, c3, cf⟩ := brow4 hK.out
      go_upto_region 9 with fail
      refine nameW (φ := fun W => W.heap[k]? = some (.cells #[.string s1, .string s2, .int .i64 dy, .int .i64 (1 + mk)] 30 (0, 0)) ∧ PS w W g (m + 100 + 20 * j + 2 + 2 + 2 + 2) ∧ Own PieceW.cells 30 4 W w.heap.size u3 j a) ⟨box_set hK.out 3 (.int .i64 (1 + mk)), hD.out.cell (i := 3) (u := .int .i64 (1 + mk)) hkw.out, hO.out.box hko.out⟩ ?_
      rintro W3 ⟨hk3, hd3, ho3⟩
      clear c0 c1 c2 c3 cf
      replace hK := hide hk3
      replace hD := hide hd3
      replace hO := hide ho3
      clear hk3 hd3 ho3
      obtain ⟨c0, c1, c2, c3, cf⟩ := brow4 hK.out
      have hA' := hA.out
      have hjl : j ≤ 7 := by omega
      clear hA'
      go_wp2_with (at_builtin; refine wpl_app2 rfl (.tmp 28) (.tmp 30) _ rfl Try.underlying24 info_Piece rfl (by omega) (by omega) rfl hO.out (⟨s1, s2, dy, 1 + mk⟩ : PieceW) _ rfl rfl rfl (PieceW.one1 _) (by omega) hD.out.1.size ?_; intro v2 w3 ho hg hat)
      replace hD := hide (hD.out.row hO.out (Nat.le_refl _) hg)
      replace hO := hide ho
      clear ho hg hat
      go_roundw
      case rel => exact ⟨j + 1, a ++ [⟨s1, s2, dy, 1 + mk⟩], by omega, by rw [List.length_append, hA.out]; rfl, by go_num, ⟨hD.out.1, hD.out.2.1, hD.out.2.2.more (by omega)⟩, hO.out, fun z hz => by rcases List.mem_append.1 hz with h | h; exact hF.out z h; simp at h; subst h; exact ⟨hs1'.out, hs2'.out, ⟨d0, by show dy ≤ 3; omega⟩, by show 1 ≤ 1 + mk; omega, by show 1 + mk ≤ 9; omega⟩⟩
      case measure => simp [intOf]; omega
    · have hjN : (j : Int) = N := by omega
      obtain ⟨C0, d0, hv0, hcap⟩ := hO.out.slice
      have hR0 := hO.out
      rw [hv0] at hR0
      have hV0 := hide hv0
      have hR1 := hide hR0
      clear hv0 hR0
      go_wp2
      go_ret
      have hA1 := hA.out
      subst hA1
      exact ⟨C0, d0, a, by rw [← hV0.out]; rfl, hR1.out, ⟨hF.out, by omega⟩, hcap, hD.out.1, hD.out.2.2.more (by omega)⟩
def DrewPs (w : World) (e : Ending) (w' : World) : Prop := ∃ (A : Option Addr) (c : Nat) (l : List PieceW), e = .returned (.slice A l.length c) ∧ Arr PieceW.cells 4 w' w'.heap.size A l.length l ∧ DP l ∧ l.length ≤ c ∧ Below w.heap.size w w'
theorem a2Pieces_any (w : World) (A : Option Addr) (n c : Nat) (l : List Int) (hr : Arr u8c 1 w w.heap.size A n l) (hl : byteL l) (hc : c ≤ maxLen) (hn : n ≤ c) :
    Calls Try.prog 6 #[.slice A n c] w fun e w' => DrewPs w e w' := by
  go_enter Try.func6, Try.ntmps6
  go_wp2_with fail
  refine (from_any _ A n c l hr hl hc hn).mono ?_
  rintro e w1 ⟨rfl, hb, hsz, hs1⟩
  have hD : Hid (DS w w1 w.heap.size 0) := hide ⟨hb, Nat.le_refl _, hs1⟩
  obtain ⟨g, hg⟩ : ∃ g, g = w.heap.size := ⟨_, rfl⟩
  rw [← hg] at hD ⊢
  have hgw : Hid (w.heap.size ≤ g) := hide (Nat.le_of_eq hg.symm)
  clear hb hs1 hg hsz
  go_wp2_with fail
  refine (draw25_any _ g _ hD.out.2.2 (by omega)).mono ?_
  rintro e w2 ⟨A6, k, q, rfl, ho, hI, hk, hg, hs⟩
  have hR := hide (ho.arr PieceW.len)
  replace hD := hide (hD.out.step hg hs)
  clear ho hg hs
  go_wp2
  go_ret
  exact ⟨A6, k, q, rfl, hR.out, hI, hk, hD.out.1⟩
end Go.Proofs.Ytgjcmnnhcoaliaa
