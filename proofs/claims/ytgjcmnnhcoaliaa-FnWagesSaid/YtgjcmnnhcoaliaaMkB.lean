/- Contracts of the drawn rates. No statement is proved here. -/
import Derived.Test.YtgjcmnnhcoaliaaSrt
import Derived.Test.YtgjcmnnhcoaliaaBox
import Derived.Test.YtgjcmnnhcoaliaaWageG
import Derived.Test.YtgjcmnnhcoaliaaMkP
namespace Go.Proofs.Ytgjcmnnhcoaliaa
open Go.ChangeShapes Go.WideShapes Go.ChangeAt Go.RowKit Go.Deep
set_option maxRecDepth 100000
theorem row_strs {w : World} {k : Nat} {cs : Array Value} {T : TypeId} {l : List ByteArray} {n : Nat} (hk : w.heap[k]? = some (.cells cs T (0, 0))) (h : cs.toList = l.map Value.string) (hn : l.length = n) : Arr strc 1 w w.heap.size (some ⟨k, 0, none⟩) n l := by
  refine ⟨hn, fun _ => ⟨_, _, rfl, (Array.getElem?_eq_some_iff.1 hk).1, fun i x hx j u hu => ?_⟩⟩
  have hj : j = 0 := by have := lt_of_get hu; simp [strc] at this; exact this
  subst hj
  have hu' : u = .string x := by simpa [strc] using hu.symm
  subst hu'
  rw [cell_of_row _ _ _ _ _ _ hk]
  rw [← Array.getElem?_toList, h, List.getElem?_map]
  simp [hx]
structure RInv (a : List Rate) (i : Nat) : Prop where
  sub : List.Sublist (a.map (·.fSort)) (RM.take i)
  cents : ∀ x ∈ a, 0 ≤ x.fCents ∧ x.fCents ≤ 380
theorem RInv.zero : RInv [] 0 := ⟨by simp, by simp⟩
theorem RInv.skip {a : List Rate} {i : Nat} {y : ByteArray} (h : RInv a i) (hy : RM[i]? = some y) : RInv a (i + 1) :=
  ⟨by rw [take_snoc hy]; exact h.sub.trans (List.sublist_append_left _ _), h.cents⟩
theorem RInv.more {a : List Rate} {i : Nat} {y : ByteArray} {q : Int} (h : RInv a i) (hy : RM[i]? = some y) (h0 : 0 ≤ q ∧ q ≤ 380) : RInv (a ++ [⟨y, q⟩]) (i + 1) := by
  refine ⟨?_, fun x hx => ?_⟩
  · rw [take_snoc hy, List.map_append]
    exact List.Sublist.append h.sub (List.Sublist.refl _)
  · rcases List.mem_append.1 hx with h1 | h1
    · exact h.cents x h1
    · simp at h1; subst h1; exact h0
theorem RInv.len {a : List Rate} {i : Nat} (h : RInv a i) : a.length ≤ i := by
  have := h.sub.length_le
  rw [List.length_map, List.length_take] at this
  omega
theorem RInv.dr {a : List Rate} {i : Nat} (h : RInv a i) : DR a := by
  have hs : List.Sublist (a.map (·.fSort)) RM := h.sub.trans (List.take_sublist _ _)
  refine ⟨List.Pairwise.sublist hs RM_asc, fun x hx => hs.subset (List.mem_map.2 ⟨x, hx, rfl⟩), h.cents, ?_⟩
  have := hs.length_le
  rw [List.length_map] at this
  exact this
def DrewRs (w : World) (e : Ending) (w' : World) : Prop := ∃ (A : Option Addr) (c : Nat) (l : List Rate), e = .returned (.slice A l.length c) ∧ Arr Rate.cells 2 w' w'.heap.size A l.length l ∧ DR l ∧ l.length ≤ c ∧ Below w.heap.size w w'
set_option maxHeartbeats 2000000 in
theorem a2Rates_any (w : World) (A : Option Addr) (n c : Nat) (l : List Int) (hr : Arr u8c 1 w w.heap.size A n l) (hl : byteL l) (hc : c ≤ maxLen) (hn : n ≤ c) :
    Calls Try.prog 11 #[.slice A n c] w fun e w' => DrewRs w e w' := by
  go_enter Try.func11, Try.ntmps11
  go_wp2_with fail
  refine (from_any _ A n c l hr hl hc hn).mono ?_
  rintro e w1 ⟨rfl, hb, hsz, hs1⟩
  have hD : Hid (DS w w1 w.heap.size 0) := hide ⟨hb, Nat.le_refl _, hs1⟩
  obtain ⟨g, hg⟩ : ∃ g, g = w.heap.size := ⟨_, rfl⟩
  rw [← hg] at hD ⊢
  have hgw : Hid (w.heap.size ≤ g) := hide (Nat.le_of_eq hg.symm)
  clear hb hs1 hg hsz
  clear hr
  go_upto_region 3 with fail
  obtain ⟨k, hk⟩ : ∃ k, k = w1.heap.size := ⟨_, rfl⟩
  have hkg : Hid (k ≠ g) := hide (by have := hD.out.2.2.lt; omega)
  have hgk : Hid (g < k) := hide (by have := hD.out.2.2.lt; omega)
  refine nameW (φ := fun W => W.heap[k]? = some (.cells #[.string ⟨#[99, 114, 97, 100, 108, 101]⟩, .string ⟨#[108, 111, 103, 45, 50]⟩, .string ⟨#[109, 97, 114, 107, 101, 116]⟩, .string ⟨#[112, 111, 116, 97, 116, 111]⟩, .string ⟨#[114, 111, 117, 110, 100]⟩] 9 (0, 0)) ∧ DS w W g 0 ∧ k < W.heap.size) ⟨by rw [hk]; exact heap_alloc_new w1 _, hD.out.alloc _, by rw [hk]; simp⟩ ?_
  rw [← hk]
  rintro W1 ⟨hk1, hd1, hlt1⟩
  have hK := hide hk1
  replace hD := hide hd1
  have hkW : Hid (k < W1.heap.size) := hide hlt1
  clear hk1 hd1 hk hlt1
  have hO := hide (Own.none_made (cells := Rate.cells) (e := 49) (s := 2) W1 (Nat.le_refl _))
  replace hK := hide ((show (W1.alloc (.cells #[] 49)).heap[k]? = _ from (World.grownBy_alloc W1 _ none).block k hkW.out (by simp)).trans hK.out)
  replace hD := hide (hD.out.alloc (.cells #[] 49))
  obtain ⟨B, hBe⟩ : ∃ B, B = W1.heap.size := ⟨_, rfl⟩
  rw [← hBe] at hO hkW
  have hgB : Hid (g < B) := hide (by have := hgk.out; have := hkW.out; omega)
  have hwB : Hid (w.heap.size ≤ B) := hide (by have := hgB.out; have := hgw.out; omega)
  go_wp2
  go_loopw [5, 6] (fun v i wr => ∃ (j i' : Nat) (a : List Rate), i' ≤ 5 ∧ j ≤ i' ∧ a.length = j ∧ i = .int .i64 (i' : Int) ∧ DS w wr g (10 * i') ∧ wr.heap[k]? = some (.cells #[.string ⟨#[99, 114, 97, 100, 108, 101]⟩, .string ⟨#[108, 111, 103, 45, 50]⟩, .string ⟨#[109, 97, 114, 107, 101, 116]⟩, .string ⟨#[112, 111, 116, 97, 116, 111]⟩, .string ⟨#[114, 111, 117, 110, 100]⟩] 9 (0, 0)) ∧ Own Rate.cells 49 2 wr B v j a ∧ RInv a i' ∧ B ≤ wr.heap.size) (fun _ i _ => 5 - (intOf i).toNat)
  case atStart => exact ⟨0, 0, [], by omega, by omega, rfl, rfl, hD.out, hK.out, by have h := hO.out; rw [hBe] at h ⊢; exact h, RInv.zero, by rw [hBe]; simp⟩
  case round =>
    obtain ⟨j, i', a, hi5, hji, ha, rfl, hd, hk, ho, hI, hbs⟩ := hrel
    have hBs := hide hbs
    replace hO := hide ho
    replace hD := hide hd
    replace hK := hide hk
    have hF := hide hI
    have hA := hide ha
    clear hd ho hI ha hk hbs
    by_cases hlt : i' < 5
    · have hlt' : (i' : Int) < 5 := by omega
      obtain ⟨y, hy⟩ : ∃ y, RM[i']? = some y := ⟨_, List.getElem?_eq_getElem hlt⟩
      have hY := hide hy
      clear hy
      have hi0 : (0 : Int) ≤ (i' : Int) := by omega
      go_wp2_with fail
      refine (one_any _ g _ _ hD.out.2.2 (by omega)).mono ?_
      rintro e w2 ⟨b, rfl, hg, hs⟩
      replace hO := hide (hO.out.src hgB.out hg); replace hBs := hide (Nat.le_trans hBs.out hg.size)
      replace hK := hide (box_kept hK.out hg hkg.out)
      replace hD := hide (hD.out.step hg hs)
      clear hg hs
      cases b
      · skip
        have hdr : Below w2.heap.size w2 w2.drew := below_drewN (Below.refl _ _) 1
        replace hO := hide (hO.out.below hdr)
        replace hD := hide (hD.out.below hdr)
        replace hK := hide ((hdr.block k (Array.getElem?_eq_some_iff.1 hK.out).1).trans hK.out)
        replace hBs := hide (Nat.le_trans hBs.out hdr.size)
        clear hdr
        have hrow : ∀ W : World, W.heap[k]? = some (.cells #[.string ⟨#[99, 114, 97, 100, 108, 101]⟩, .string ⟨#[108, 111, 103, 45, 50]⟩, .string ⟨#[109, 97, 114, 107, 101, 116]⟩, .string ⟨#[112, 111, 116, 97, 116, 111]⟩, .string ⟨#[114, 111, 117, 110, 100]⟩] 9 (0, 0)) → W.cell? ⟨k, i', none⟩ = some (.string y) := fun W hW => by rw [cell_of_row _ _ _ _ _ _ hW]; have h2 := congrArg (Option.map Value.string) hY.out; rw [← List.getElem?_map] at h2; rw [← Array.getElem?_toList]; exact h2
        have c0 := hrow _ hK.out
        go_wp2_with fail
        go_region_held3 (fun w' => w'.cell? ⟨k, i', none⟩ = some (.string y)) (first | go_keep | exact hrow _ hK.out) (first | (go_at_call 27; refine (pick_any _ g _ _ hD.out.2.2 (by omega)).mono ?_; rintro e w3 ⟨q, rfl, q0, _, q2, hg, hs⟩; have q3 := q2 (by omega); clear q2; have wq : IntKind.i64.wrap (20 * q) = 20 * q := IntWalk.i64_in _ (by omega); replace hO := hide (hO.out.src hgB.out hg); replace hBs := hide (Nat.le_trans hBs.out hg.size); replace hK := hide (box_kept hK.out hg hkg.out); replace hD := hide (hD.out.step hg hs); clear hg hs c0; have c0 := hrow _ hK.out) | (refine step_app1 rfl (.tmp 20) (.tmp 29) (by rfl) Try.underlying35 info_Rate' rfl (by omega) (by omega) Rate.len Rate.one (by rfl) hO.out (⟨y, 20 * q⟩ : Rate) _ (by rfl) (by rfl) (by omega) hBs.out ?_; intro v2 w4 ho2 hg2 hat2; replace hK := hide ((hg2.block k (Array.getElem?_eq_some_iff.1 hK.out).1 (hO.out.notg hkW.out).symm).trans hK.out); replace hD := hide (hD.out.row hO.out hgB.out hg2); replace hBs := hide (Nat.le_trans hBs.out hg2.size); replace hO := hide ho2; clear ho2 hg2 hat2) | fail)
        clear c0
        go_wp2
        go_roundw
        case rel => exact ⟨j + 1, i' + 1, a ++ [⟨y, 20 * q⟩], by omega, by omega, by rw [List.length_append, hA.out]; rfl, by go_num, ⟨hD.out.1, hD.out.2.1, hD.out.2.2.more (by omega)⟩, hK.out, hO.out, hF.out.more hY.out ⟨by omega, by omega⟩, hBs.out⟩
        case measure => simp [intOf]; omega
      · skip
        go_wp2
        go_roundw
        case rel => exact ⟨j, i' + 1, a, by omega, by omega, hA.out, by go_num, ⟨hD.out.1, hD.out.2.1, hD.out.2.2.more (by omega)⟩, hK.out, hO.out, hF.out.skip hY.out, hBs.out⟩
        case measure => simp [intOf]; omega
    · have hlt' : ¬ (i' : Int) < 5 := by omega
      obtain ⟨C0, d0, hv0, hcap⟩ := hO.out.slice
      have hR0 := hO.out
      rw [hv0] at hR0
      have hV0 := hide hv0
      have hR1 := hide hR0
      clear hv0 hR0
      go_wp2
      go_ret
      have hA1 := hA.out
      subst hA1
      exact ⟨C0, d0, a, by rw [← hV0.out]; rfl, hR1.out.arr Rate.len, hF.out.dr, hcap, hD.out.1⟩
end Go.Proofs.Ytgjcmnnhcoaliaa
