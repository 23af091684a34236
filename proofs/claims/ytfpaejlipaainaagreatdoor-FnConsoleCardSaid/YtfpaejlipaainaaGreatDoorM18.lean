/- Texts that belong together, joined: contracts and plain laws. No statement is proved here. -/
import Derived.Test.YtfpaejlipaainaaGreatDoorM05
import Derived.Test.YtfpaejlipaainaaGreatDoorM06
import Derived.Test.YtfpaejlipaainaaGreatDoorM08
import Derived.Test.YtfpaejlipaainaaGreatDoorM09
import Derived.Test.YtfpaejlipaainaaGreatDoorM12
import Derived.Test.YtfpaejlipaainaaGreatDoorM17
namespace Go.Proofs.YtfpaejlipaainaaGreatDoor
open Go.ChangeShapes Go.WideShapes Go.ChangeAt Go.RowKit Go.Deep
set_option maxRecDepth 100000
theorem ok_size {n : Nat} (h : n ≤ 1048577) : (⟨#[111, 107, 32]⟩ : ByteArray).size + (decB (n : Int)).size ≤ 9223372036854775807 := by
  have h1 := decB_size (n : Int) (by omega) (by omega)
  have h2 : (⟨#[111, 107, 32]⟩ : ByteArray).size = 3 := rfl
  omega
set_option maxHeartbeats 4000000 in
theorem iText_heaps (r : ByteArray) (g : Nat) (x : DeskV) (w0 w : World) (hG : Gl w0) (hB0 : Below w0.heap.size w0 w) (h : DG w w0.heap.size g x) :
    Calls Tryz.prog 30 #[.pointer (some ⟨g, 0, none⟩), .string ⟨#[104, 101, 97, 112, 115]⟩, .string r] w fun e w' => TxtPost w0 w w0.heap.size g (mText x.pure .cHeaps r) e w' := by
  have hH := hide h
  have hGh := hide hG
  have hB0h := hide hB0
  have hA := hide ((Below.refl w.heap.size w).alloc (Nat.le_refl _) (.cells #[] 9))
  have hE := hide (Own.none_made (cells := strc) (e := 9) (s := 1) (base := w.heap.size) w (Nat.le_refl _))
  obtain ⟨c0, c1, c2, c3, c4, cf⟩ := row5 (h.below hA.out).hK
  obtain ⟨L, hL⟩ : ∃ L, L = x.heaps := ⟨_, rfl⟩
  have hM : Hid (mText x.pure .cHeaps r = (x.pure, L.map mHeapT ++ [okB L.length], 0)) := hide (by rw [hL]; rfl)
  obtain ⟨AH, hAH⟩ : ∃ A, A = x.A' := ⟨_, rfl⟩
  obtain ⟨N, hN⟩ : ∃ N, N = x.n' := ⟨_, rfl⟩
  rw [← hAH, ← hN] at c3
  have hrN : Arr Heap.cells 3 w w.heap.size AH N L := by rw [hAH, hN, hL]; exact h.good.heaps
  have hNb : N ≤ 1048576 := by rw [hN]; exact h.nh
  have hNl := hide hrN.len
  have hLo : Hid (∀ y ∈ L, y.fits) := hide (by rw [hL]; exact h.fit)
  clear hL hAH hN h hG hB0
  go_enter Tryz.func30, Tryz.ntmps30
  go_wp2
  go_loopw [8, 70] (fun v i wr => ∃ k : Nat, k ≤ N ∧ i = .int .i64 (k : Int) ∧ Own strc 9 1 wr w.heap.size v k ((L.take k).map mHeapT) ∧ Below w.heap.size w wr) (fun _ i _ => N - (intOf i).toNat)
  case atStart => exact ⟨0, Nat.zero_le _, rfl, hE.out, hA.out⟩
  case round =>
    obtain ⟨k, hk, rfl, ho, hb⟩ := hrel
    have hO := hide ho
    clear ho
    by_cases hlt : k < N
    · obtain ⟨b, o, y, rfl, hbl, hx, c0, c1, c2⟩ := hrN.Heap hlt
      have d0 : wr.cell? ⟨b, o + k * 3, none⟩ = some (.string y.fSort) := (hb.cell (p := ⟨b, o + k * 3, none⟩) hbl).trans c0
      have d1 : wr.cell? ⟨b, o + k * 3 + 1, none⟩ = some (.int .i64 y.fYear) := (hb.cell (p := ⟨b, o + k * 3 + 1, none⟩) hbl).trans c1
      have d2 : wr.cell? ⟨b, o + k * 3 + 2, none⟩ = some (.int .i64 y.fBundles) := (hb.cell (p := ⟨b, o + k * 3 + 2, none⟩) hbl).trans c2
      have hX := hide hx
      clear hx c0 c1 c2
      have hB := hide hb
      have hym := List.mem_of_getElem? hX.out
      have hnx : Hid ((L.take (k + 1)).map mHeapT = (L.take k).map mHeapT ++ [mHeapT y]) := hide (by rw [take_snoc hX.out, List.map_append]; rfl)
      have hyo := hLo.out y hym
      clear hb hym
      go_wp2_with fail
      have hB2 := hide (hB.out.alloc hB.out.size (.cells #[.string y.fSort, .int .i64 y.fYear, .int .i64 y.fBundles] 106))
      refine (iHeapT_any y _ hyo (hGh.out.below (below_g hB0h.out hH.out.hb (grown_of_below hB2.out)))).mono ?_
      rintro e w1 ⟨rfl, hb⟩
      have hO1 := hide ((hO.out.below ((Below.refl _ _).alloc (Nat.le_refl _) (.cells #[.string y.fSort, .int .i64 y.fYear, .int .i64 y.fBundles] 106))).below hb)
      have hB3 := hide (Below.up hB2.out hb)
      clear hb
      go_wp2_with (at_builtin; refine wpl_app1H w1.heap.size rfl rfl (.tmp 74) (.tmp 77) rfl Tryz.underlying24 info_strj rfl (by omega) (by omega) strc_len strc_one rfl hO1.out (mHeapT y) _ rfl rfl (by omega) hB3.out.size ?_; intro v5 w5 ho5 hg5 _; have hC5 := hide (grown_below hB3.out hO1.out hg5 hB3.out.size); have hO5 := hide ho5; clear ho5 hg5)
      go_roundw
      case rel => exact ⟨k + 1, by omega, by go_num, by rw [hnx.out]; exact hO5.out, hC5.out⟩
      case measure => simp [intOf]; omega
    · have hkn : k = N := by omega
      rw [hkn, List.take_of_length_le (by rw [hNl.out]; exact Nat.le_refl _)] at hO
      have hB := hide hb
      obtain ⟨A5, c5, hv5, _⟩ := hO.out.slice
      subst hv5
      have hlt2 : ¬ (k : Int) < (N : Int) := by omega
      have hcat := cat_run ⟨#[111, 107, 32]⟩ (decB (N : Int)) (ok_size (by omega))
      clear hb hkn
      go_wp2_with fail
      refine (iDec_any (N : Int) _ (by omega) (by omega) (hGh.out.below (below_g hB0h.out hH.out.hb (grown_of_below hB.out)))).mono ?_
      rintro e w1 ⟨rfl, hb⟩
      have hO1 := hide (hO.out.below hb)
      have hB3 := hide (Below.up hB.out hb)
      clear hb
      go_wp2_with (at_builtin; refine wpl_app1H w1.heap.size rfl rfl (.tmp 102) (.tmp 107) rfl Tryz.underlying24 info_strj rfl (by omega) (by omega) strc_len strc_one rfl hO1.out ((⟨#[111, 107, 32]⟩ : ByteArray) ++ decB (N : Int)) _ rfl rfl (by omega) hB3.out.size ?_; intro v5 w5 ho5 hg5 _; have hB5 := hide (grown_below hB3.out hO1.out hg5 hB3.out.size); have hO5 := hide ho5; clear ho5 hg5)
      go_ret2
      have hfin : Hid (L.map mHeapT ++ [(⟨#[111, 107, 32]⟩ : ByteArray) ++ decB (N : Int)] = L.map mHeapT ++ [okB L.length]) := hide (by rw [← hNl.out]; rfl)
      refine ⟨_, x, by rw [hM.out]; rfl, hH.out.below hB5.out, by rw [hM.out], ?_, grown_of_below hB5.out, below_g hB0h.out hH.out.hb (grown_of_below hB5.out)⟩
      rw [hM.out]
      have h5 := hO5.out.less hB0h.out.size
      rw [hfin.out] at h5
      have hl5 : (L.map mHeapT ++ [okB L.length]).length = N + 1 := by simp [hNl.out]
      show Res _ _ _ _ _ _ (L.map mHeapT ++ [okB L.length]).length (L.map mHeapT ++ [okB L.length])
      rw [hl5]
      exact h5.res
theorem Res.far {α : Type} {cells : α → List Value} {e s : Nat} {w w' : World} {base n g : Nat} {v : Value} {l : List α} (h : Res cells e s w base v n l) (hb : g < base) (hg : w.grownBy w' (some g)) : Res cells e s w' base v n l :=
  ⟨h.1, h.2.1, fun hn => (h.2.2 hn).src hb hg⟩
theorem far_step {wE wr w' : World} {g : Nat} (h : wE.grownBy wr (some g)) (hb : Below wr.heap.size wr w') : wE.grownBy w' (some g) :=
  ⟨hb.os.trans h.os, hb.tape.trans h.tape, hb.output.trans h.output, Nat.le_trans h.size hb.size, fun k hk hne => (hb.block k (Nat.lt_of_lt_of_le hk h.size)).trans (h.block k hk hne)⟩
theorem far_app {wE wr w' : World} {g : Nat} {row : Option Nat} (h : wE.grownBy wr (some g)) (hg : wr.grownBy w' row) (hr : ∀ q, row = some q → q = g ∨ wE.heap.size ≤ q) : wE.grownBy w' (some g) :=
  ⟨hg.os.trans h.os, hg.tape.trans h.tape, hg.output.trans h.output, Nat.le_trans h.size hg.size, fun k hk hne => (hg.block k (Nat.lt_of_lt_of_le hk h.size) (fun e => by
    rcases hr k e.symm with h1 | h1
    · exact hne (by rw [h1])
    · omega)).trans (h.block k hk hne)⟩
theorem mEnts_ok (s : ByteArray) : ∀ y ∈ mEnts s, y.ok = true := by
  intro y hy
  unfold mEnts at hy
  split at hy
  · exact (log_props s).2.2.1 y hy
  · cases hy
set_option maxHeartbeats 4000000 in
theorem iText_log (r : ByteArray) (g : Nat) (x : DeskV) (w0 w : World) (hG : Gl w0) (hB0 : Below w0.heap.size w0 w) (h : DG w w0.heap.size g x) :
    Calls Tryz.prog 30 #[.pointer (some ⟨g, 0, none⟩), .string ⟨#[108, 111, 103]⟩, .string r] w fun e w' => TxtPost w0 w w0.heap.size g (mText x.pure .cLog r) e w' := by
  have hH := hide h
  have hGh := hide hG
  have hB0h := hide hB0
  have hA := hide ((Below.refl w.heap.size w).alloc (Nat.le_refl _) (.cells #[] 9))
  have hE := hide (Own.none_made (cells := strc) (e := 9) (s := 1) (base := w.heap.size) w (Nat.le_refl _))
  obtain ⟨c0, c1, c2, c3, c4, cf⟩ := row5 (h.below hA.out).hK
  obtain ⟨L, hL⟩ : ∃ L, L = (mEnts x.fLog) := ⟨_, rfl⟩
  have hM : Hid (mText x.pure .cLog r = (x.pure, L.map entB ++ [okB L.length], 0)) := hide (by rw [hL]; rfl)
  clear h hG hB0
  go_enter Tryz.func30, Tryz.ntmps30
  go_wp2_with fail
  refine (iEnts_any x.fLog _ (hGh.out.below (below_g hB0h.out hH.out.hb (grown_of_below hA.out)))).mono ?_
  rintro e wE ⟨vE, rfl, hr, hb⟩
  have hBE := hide (Below.up hA.out hb)
  have hE1 := hide (hE.out.below hb)
  obtain ⟨AH, cH, rfl, hcH⟩ := hr.slice
  rw [← hL] at hr
  have hlen : L.length ≤ 1048576 := by rw [hL]; exact mEnts_len _
  have hLo : Hid (∀ y ∈ L, y.ok = true) := hide (by rw [hL]; exact mEnts_ok _)
  obtain ⟨N, hN⟩ : ∃ N, N = L.length := ⟨_, rfl⟩
  rw [← hL]
  rw [← hN] at hr hlen ⊢
  have hNb : N ≤ 1048576 := hlen
  have hNl := hide hN.symm
  have hR := hide (hr.less (B := w.heap.size + 1) (by simp))
  clear hL hN hr hb hlen
  go_wp2
  go_loopw [8, 92] (fun v i wr => ∃ k : Nat, k ≤ N ∧ i = .int .i64 (k : Int) ∧ Own strc 9 1 wr w.heap.size v k ((L.take k).map entB) ∧ Below w.heap.size w wr ∧ wE.grownBy wr (some w.heap.size) ∧ ∀ q, v.ownBlock = some q → q = w.heap.size ∨ wE.heap.size ≤ q) (fun _ i _ => N - (intOf i).toNat)
  case atStart => exact ⟨0, Nat.zero_le _, rfl, hE1.out, hBE.out, World.grownBy.refl _ _, fun q e => .inl (by simpa [Value.ownBlock] using e.symm)⟩
  case round =>
    obtain ⟨k, hk, rfl, ho, hb, hf, hq⟩ := hrel
    have hF := hide hf
    have hQ := hide hq
    clear hf hq
    have hO := hide ho
    clear ho
    by_cases hlt : k < N
    · have hrr := (hR.out.far (Nat.lt_succ_self _) hF.out).arr (s := 3) (fun _ => rfl)
      have hrb := Below.refl wr.heap.size wr
      obtain ⟨b, o, y, rfl, hbl, hx, c0, c1, c2⟩ := hrr.Entry hlt
      have d0 : wr.cell? ⟨b, o + k * 3, none⟩ = some (.int .i64 y.fDay) := (hrb.cell (p := ⟨b, o + k * 3, none⟩) hbl).trans c0
      have d1 : wr.cell? ⟨b, o + k * 3 + 1, none⟩ = some (.string y.fWhat) := (hrb.cell (p := ⟨b, o + k * 3 + 1, none⟩) hbl).trans c1
      have d2 : wr.cell? ⟨b, o + k * 3 + 2, none⟩ = some (.int .i64 y.fValue) := (hrb.cell (p := ⟨b, o + k * 3 + 2, none⟩) hbl).trans c2
      have hX := hide hx
      clear hx c0 c1 c2
      clear hrb hrr
      have hB := hide hb
      have hym := List.mem_of_getElem? hX.out
      have hnx : Hid ((L.take (k + 1)).map entB = (L.take k).map entB ++ [entB y]) := hide (by rw [take_snoc hX.out, List.map_append]; rfl)
      have hyo := hLo.out y hym
      clear hb hym
      go_wp2_with fail
      have hB2 := hide (hB.out.alloc hB.out.size (.cells #[.int .i64 y.fDay, .string y.fWhat, .int .i64 y.fValue] 116))
      refine (iWords_any y _ hyo (hGh.out.below (below_g hB0h.out hH.out.hb (grown_of_below hB2.out)))).mono ?_
      rintro e w1 ⟨rfl, hb⟩
      have hO1 := hide ((hO.out.below ((Below.refl _ _).alloc (Nat.le_refl _) (.cells #[.int .i64 y.fDay, .string y.fWhat, .int .i64 y.fValue] 116))).below hb)
      have hB3 := hide (Below.up hB2.out hb)
      have hF3 := hide (far_step (far_step hF.out ((Below.refl _ _).alloc (Nat.le_refl _) (.cells #[.int .i64 y.fDay, .string y.fWhat, .int .i64 y.fValue] 116))) hb)
      clear hb
      go_wp2_with (at_builtin; refine wpl_app1H w1.heap.size rfl rfl (.tmp 96) (.tmp 99) rfl Tryz.underlying24 info_strj rfl (by omega) (by omega) strc_len strc_one rfl hO1.out (entB y) _ rfl rfl (by omega) hB3.out.size ?_; intro v5 w5 ho5 hg5 hw5; have hF5 := hide (far_app hF3.out hg5 hQ.out); have hQ5 : Hid (∀ q, v5.ownBlock = some q → q = w.heap.size ∨ wE.heap.size ≤ q) := hide (fun q e => by rcases hw5 with h1 | h1; exact hQ.out q (h1 ▸ e); (have e2 := h1.symm.trans e; cases e2; have := hF3.out.size; right; omega)); clear hw5; have hC5 := hide (grown_below hB3.out hO1.out hg5 hB3.out.size); have hO5 := hide ho5; clear ho5 hg5)
      go_roundw
      case rel => exact ⟨k + 1, by omega, by go_num, by rw [hnx.out]; exact hO5.out, hC5.out, hF5.out, hQ5.out⟩
      case measure => simp [intOf]; omega
    · have hkn : k = N := by omega
      rw [hkn, List.take_of_length_le (by rw [hNl.out]; exact Nat.le_refl _)] at hO
      have hB := hide hb
      obtain ⟨A5, c5, hv5, _⟩ := hO.out.slice
      subst hv5
      have hlt2 : ¬ (k : Int) < (N : Int) := by omega
      have hcat := cat_run ⟨#[111, 107, 32]⟩ (decB (N : Int)) (ok_size (by omega))
      clear hb hkn
      go_wp2_with fail
      refine (iDec_any (N : Int) _ (by omega) (by omega) (hGh.out.below (below_g hB0h.out hH.out.hb (grown_of_below hB.out)))).mono ?_
      rintro e w1 ⟨rfl, hb⟩
      have hO1 := hide (hO.out.below hb)
      have hB3 := hide (Below.up hB.out hb)
      clear hb
      go_wp2_with (at_builtin; refine wpl_app1H w1.heap.size rfl rfl (.tmp 102) (.tmp 107) rfl Tryz.underlying24 info_strj rfl (by omega) (by omega) strc_len strc_one rfl hO1.out ((⟨#[111, 107, 32]⟩ : ByteArray) ++ decB (N : Int)) _ rfl rfl (by omega) hB3.out.size ?_; intro v5 w5 ho5 hg5 _; have hB5 := hide (grown_below hB3.out hO1.out hg5 hB3.out.size); have hO5 := hide ho5; clear ho5 hg5)
      go_ret2
      have hfin : Hid (L.map entB ++ [(⟨#[111, 107, 32]⟩ : ByteArray) ++ decB (N : Int)] = L.map entB ++ [okB L.length]) := hide (by rw [← hNl.out]; rfl)
      refine ⟨_, x, by rw [hM.out]; rfl, hH.out.below hB5.out, by rw [hM.out], ?_, grown_of_below hB5.out, below_g hB0h.out hH.out.hb (grown_of_below hB5.out)⟩
      rw [hM.out]
      have h5 := hO5.out.less hB0h.out.size
      rw [hfin.out] at h5
      have hl5 : (L.map entB ++ [okB L.length]).length = N + 1 := by simp [hNl.out]
      show Res _ _ _ _ _ _ (L.map entB ++ [okB L.length]).length (L.map entB ++ [okB L.length])
      rw [hl5]
      exact h5.res
end Go.Proofs.YtfpaejlipaainaaGreatDoor
namespace Go.Proofs.YtfpaejlipaainaaGreatDoor
open Go.ChangeShapes Go.WideShapes Go.ChangeAt Go.RowKit Go.Deep
set_option maxRecDepth 100000
def lgF (a : Int × ByteArray) (e : Entry) : Int × ByteArray := (stampB a.1 (entB e), a.2 ++ lineB (stampB a.1 (entB e)) e)
def lgOf (l : List Entry) : Int × ByteArray := l.foldl lgF (0, ⟨#[]⟩)
theorem lgF_one (a : Int × ByteArray) (x : Entry) : (lgF a x).1 = stampB a.1 (entB x) ∧ (lgF a x).2 = a.2 ++ lineB (stampB a.1 (entB x)) x := ⟨rfl, rfl⟩
end Go.Proofs.YtfpaejlipaainaaGreatDoor
namespace Go.Proofs.YtfpaejlipaainaaGreatDoor
open Go.ChangeShapes Go.WideShapes Go.ChangeAt Go.RowKit Go.Deep
set_option maxRecDepth 100000
theorem name_chars {s : ByteArray} (h : isName s = true) : ∀ c ∈ s.data.toList, c ≠ 10 ∧ c ≠ 32 := by
  intro c hc
  obtain ⟨i, hi⟩ := List.mem_iff_getElem?.1 hc
  have hlt : i < s.size := by have := lt_of_get hi; rw [size_list] at this; exact this
  rw [get_list s i hlt] at hi
  have hc' : s[i] = c := Option.some.inj hi
  unfold isName at h
  rw [Bool.and_eq_true, List.all_eq_true] at h
  have h1 := h.2 i (List.mem_range.2 hlt)
  have h2 : chAt s i = (c.toNat : Int) := by unfold chAt; rw [dif_pos hlt, hc']
  have h3 : (97 ≤ (c.toNat : Int) ∧ (c.toNat : Int) ≤ 122) ∨ (48 ≤ (c.toNat : Int) ∧ (c.toNat : Int) ≤ 57) ∨ (c.toNat : Int) = 45 := by
    unfold chOk letB othB at h1
    rw [h2] at h1
    simp only [Bool.or_eq_true, Bool.and_eq_true, inB_true, beq_iff_eq] at h1
    rcases h1 with h1 | ⟨_, h1 | h1⟩
    · exact .inl h1
    · exact .inr (.inl h1)
    · exact .inr (.inr h1)
  constructor
  · intro e; subst e; revert h3; decide
  · intro e; subst e; revert h3; decide
def lnL (st : Int) (x : Entry) : List UInt8 := Lib.itoa x.fDay ++ 32 :: (x.fWhat.data.toList ++ 32 :: (Lib.itoa x.fValue ++ 32 :: Lib.itoa st))
theorem dec_list (n : Int) : (decB n).data.toList = Lib.itoa n := rfl
theorem line_list (st : Int) (x : Entry) : (lineB st x).data.toList = lnL st x ++ [10] := by
  unfold lineB entB lnL
  simp only [Joins.data_append, dec_list, List.append_assoc, List.cons_append, List.nil_append]
theorem ln_no {c : UInt8} (hc : c = 10) (st : Int) {x : Entry} (hk : x.ok = true) : ¬ c ∈ lnL st x := by
  subst hc
  unfold lnL
  intro h
  rcases List.mem_append.1 h with h | h
  · exact (itoa_chars _ _ h).1 rfl
  rcases List.mem_cons.1 h with h | h
  · cases h
  rcases List.mem_append.1 h with h | h
  · exact (name_chars (Entry.ok_iff.1 hk).2.1 _ h).1 rfl
  rcases List.mem_cons.1 h with h | h
  · cases h
  rcases List.mem_append.1 h with h | h
  · exact (itoa_chars _ _ h).1 rfl
  rcases List.mem_cons.1 h with h | h
  · cases h
  · exact (itoa_chars _ _ h).1 rfl
theorem ln_ent {st : Int} {x : Entry} (hk : x.ok = true) : entOf (lnL st x) = some x := by
  obtain ⟨⟨b1, b2⟩, hn, b3, b4⟩ := Entry.ok_iff.1 hk
  have hd := rd_itoa (n := x.fDay) (by omega) (by omega)
  have hv := rd_itoa (n := x.fValue) (by omega) (by omega)
  have hs : spl 32 [] (lnL st x) = [Lib.itoa x.fDay, x.fWhat.data.toList, Lib.itoa x.fValue, Lib.itoa st] := by
    unfold lnL
    rw [spl_to _ _ _ (fun h => (itoa_chars _ _ h).2 rfl), spl_to _ _ _ (fun h => (name_chars hn _ h).2 rfl), spl_to _ _ _ (fun h => (itoa_chars _ _ h).2 rfl), spl_no _ _ (fun h => (itoa_chars _ _ h).2 rfl)]
    rfl
  have he : wdEnt (Lib.itoa x.fDay) x.fWhat.data.toList (Lib.itoa x.fValue) = x := by
    unfold wdEnt
    rw [hd.2, hv.2, mk_data]
  unfold entOf
  rw [hs]
  show (if rdOk (Lib.itoa x.fDay) = true ∧ rdOk (Lib.itoa x.fValue) = true ∧ (wdEnt (Lib.itoa x.fDay) x.fWhat.data.toList (Lib.itoa x.fValue)).ok = true then some (wdEnt (Lib.itoa x.fDay) x.fWhat.data.toList (Lib.itoa x.fValue)) else none) = some x
  rw [he, if_pos ⟨hd.1, hv.1, hk⟩]
theorem takeWhile_to {c : UInt8} : ∀ (l r : List UInt8), ¬ c ∈ l → (l ++ c :: r).takeWhile (· ≠ c) = l
  | [], r, _ => by rw [List.nil_append]; exact List.takeWhile_cons_of_neg (by simp)
  | b :: l, r, h => by
    have hb : b ≠ c := fun e => h (by rw [e]; exact List.mem_cons_self)
    have e : (b :: (l ++ c :: r)).takeWhile (· ≠ c) = b :: (l ++ c :: r).takeWhile (· ≠ c) := List.takeWhile_cons_of_pos (decide_eq_true hb)
    rw [List.cons_append, e, takeWhile_to l r (fun e => h (List.mem_cons_of_mem _ e))]
theorem lineOf_to {l r : List UInt8} (h : ¬ (10 : UInt8) ∈ l) : lineOf (l ++ 10 :: r) = some l := by
  unfold lineOf
  rw [if_pos (by simp), takeWhile_to l r h]
theorem tw_split : ∀ rest : List UInt8, (10 : UInt8) ∈ rest → ¬ (10 : UInt8) ∈ rest.takeWhile (· ≠ 10) ∧ rest = rest.takeWhile (· ≠ 10) ++ 10 :: rest.drop ((rest.takeWhile (· ≠ 10)).length + 1)
  | [], hm => by cases hm
  | c :: r, hm => by
    by_cases hc : c = 10
    · subst hc
      have e : ((10 : UInt8) :: r).takeWhile (· ≠ 10) = [] := List.takeWhile_cons_of_neg (by simp)
      rw [e]
      exact ⟨by simp, by simp⟩
    · have hr : (10 : UInt8) ∈ r := by
        rcases List.mem_cons.1 hm with e | e
        · exact absurd e.symm hc
        · exact e
      obtain ⟨h1, h2⟩ := tw_split r hr
      have e : (c :: r).takeWhile (· ≠ 10) = c :: r.takeWhile (· ≠ 10) := List.takeWhile_cons_of_pos (decide_eq_true hc)
      rw [e]
      refine ⟨fun h => ?_, ?_⟩
      · rcases List.mem_cons.1 h with e | e
        · exact hc e.symm
        · exact h1 e
      · rw [List.cons_append, List.length_cons, List.drop_succ_cons, ← h2]
theorem lineOf_split {rest l : List UInt8} (h : lineOf rest = some l) : ¬ (10 : UInt8) ∈ l ∧ rest = l ++ 10 :: rest.drop (l.length + 1) := by
  unfold lineOf at h
  split at h
  · rename_i hm
    have h := Option.some.inj h
    rw [← h]
    exact tw_split rest hm
  · cases h
def mkL : Int → List Entry → List UInt8
  | _, [] => []
  | st, x :: l => lnL (stampB st (entB x)) x ++ 10 :: mkL (stampB st (entB x)) l
def stL : Int → List Entry → Int
  | st, [] => st
  | st, x :: l => stL (stampB st (entB x)) l
theorem lg_mkL : ∀ (l : List Entry) (a : Int × ByteArray), (l.foldl lgF a).2.data.toList = a.2.data.toList ++ mkL a.1 l ∧ (l.foldl lgF a).1 = stL a.1 l
  | [], a => ⟨by simp [mkL], rfl⟩
  | x :: l, a => by
    obtain ⟨h1, h2⟩ := lg_mkL l (lgF a x)
    rw [List.foldl_cons]
    refine ⟨?_, by rw [h2]; rfl⟩
    rw [h1, (lgF_one a x).1, (lgF_one a x).2, Joins.data_append, line_list, mkL]
    simp
def Dayed : Int → List Entry → Prop
  | _, [] => True
  | d, x :: l => d ≤ x.fDay ∧ Dayed x.fDay l
theorem step_made {st day : Int} {x : Entry} (r : List UInt8) (hk : x.ok = true) (hd : day ≤ x.fDay) : stepOf st day (lnL (stampB st (entB x)) x ++ 10 :: r) = some (x, lnL (stampB st (entB x)) x) := by
  refine step_good (lineOf_to (ln_no rfl _ hk)) (ln_ent hk) ?_
  unfold okLine
  rw [decide_eq_true hd, decide_eq_true (toList_inj ?_)]; rfl
  rw [ByteArray.toList_eq, ByteArray.toList_eq, line_list]
theorem read_made : ∀ (l : List Entry) (f : Nat) (st day : Int), (∀ x ∈ l, x.ok = true) → Dayed day l → (mkL st l).length < f → readK f (mkL st l) st day = (l, (mkL st l).length, stL st l)
  | [], 0, _, _, _, _, hf => by cases hf
  | [], f + 1, st, day, _, _, _ => by
    have : stepOf st day (mkL st []) = none := step_noline (by unfold lineOf; rfl)
    rw [readK]
    simp only [this]
    rfl
  | x :: l, 0, _, _, _, _, hf => by cases hf
  | x :: l, f + 1, st, day, hk, hd, hf => by
    have hs := step_made (st := st) (mkL (stampB st (entB x)) l) (hk x List.mem_cons_self) hd.1
    have hdr : (mkL st (x :: l)).drop ((lnL (stampB st (entB x)) x).length + 1) = mkL (stampB st (entB x)) l := by
      rw [mkL, show lnL (stampB st (entB x)) x ++ 10 :: mkL (stampB st (entB x)) l = (lnL (stampB st (entB x)) x ++ [10]) ++ mkL (stampB st (entB x)) l by simp]
      exact List.drop_left' (by simp)
    have hlen : (mkL st (x :: l)).length = (lnL (stampB st (entB x)) x).length + 1 + (mkL (stampB st (entB x)) l).length := by rw [mkL]; simp; omega
    have ih := read_made l f (stampB st (entB x)) x.fDay (fun y hy => hk y (List.mem_cons_of_mem _ hy)) hd.2 (by omega)
    rw [readK]
    rw [show mkL st (x :: l) = lnL (stampB st (entB x)) x ++ 10 :: mkL (stampB st (entB x)) l from rfl] at hdr hlen ⊢
    simp only [hs, hdr, ih]
    rw [hlen]; rfl
structure DE (l : List Entry) : Prop where
  ok : ∀ x ∈ l, x.ok = true
  dayed : Dayed 0 l
theorem lg_list (l : List Entry) : (lgOf l).2.data.toList = mkL 0 l := by
  have h := (lg_mkL l (0, ⟨#[]⟩)).1
  unfold lgOf
  rw [h]; rfl
theorem lg_stamp (l : List Entry) : (lgOf l).1 = stL 0 l := (lg_mkL l (0, ⟨#[]⟩)).2
theorem lg_len (l : List Entry) : (mkL 0 l).length = (lgOf l).2.size := by rw [← lg_list, size_list]
theorem rd_made {l : List Entry} (h : DE l) : rdLog (lgOf l).2 = (l, (lgOf l).2.size, (lgOf l).1) := by
  unfold rdLog
  rw [lg_list, read_made l _ 0 0 h.ok h.dayed (by rw [lg_len]; omega), lg_len, lg_stamp]
theorem Dayed.take : ∀ {l : List Entry} {d : Int} (k : Nat), Dayed d l → Dayed d (l.take k)
  | [], _, k, _ => by rw [List.take_nil]; trivial
  | x :: l, d, 0, _ => trivial
  | x :: l, d, k + 1, h => ⟨h.1, Dayed.take k h.2⟩
theorem DE.take {l : List Entry} (h : DE l) (k : Nat) : DE (l.take k) := ⟨fun x hx => h.ok x (List.mem_of_mem_take hx), h.dayed.take k⟩
theorem Dayed.at_ : ∀ {l : List Entry} {d : Int} {j : Nat} {x y : Entry}, Dayed d l → l[j + 1]? = some x → l[j]? = some y → y.fDay ≤ x.fDay
  | [], _, _, _, _, _, h, _ => by cases h
  | [_], _, j, _, _, _, h, _ => by simp at h
  | a :: b :: l, d, 0, x, y, h, hx, hy => by
    have h1 : b = x := by simpa using hx
    have h2 : a = y := by simpa using hy
    subst h1 h2
    exact h.2.1
  | a :: b :: l, d, j + 1, x, y, h, hx, hy => Dayed.at_ (l := b :: l) h.2 (by simpa using hx) (by simpa using hy)
theorem Dayed.first : ∀ {l : List Entry} {d : Int} {x : Entry}, Dayed d l → l[0]? = some x → d ≤ x.fDay
  | [], _, _, _, h => by cases h
  | a :: l, d, x, h, hx => by
    have h1 : a = x := by simpa using hx
    subst h1
    exact h.1
theorem DE.nil : DE [] := ⟨by simp, trivial⟩
theorem lineB_len {st : Int} {x : Entry} (h0 : 0 ≤ st) (h1 : st ≤ 65518) (hk : x.ok = true) : (lineB st x).size ≤ 80 := by
  obtain ⟨⟨b1, b2⟩, hn, b3, b4⟩ := Entry.ok_iff.1 hk
  have s1 := decB_size x.fDay (by omega) (by omega)
  have s2 := name_size hn
  have s3 := decB_size x.fValue (by omega) (by omega)
  have s4 := decB_size st (by omega) (by omega)
  unfold lineB entB
  simp only [ByteArray.size_append, one_size]; omega
theorem lg_len80 : ∀ (l : List Entry) (a : Int × ByteArray), (∀ x ∈ l, x.ok = true) → (l.foldl lgF a).2.size ≤ a.2.size + 80 * l.length
  | [], _, _ => by simp
  | x :: l, a, hx => by
    have h1 := lg_len80 l (lgF a x) (fun y hy => hx y (List.mem_cons_of_mem _ hy))
    obtain ⟨r1, r2⟩ := stampB_range a.1 (entB x)
    have h2 := lineB_len r1 r2 (hx x List.mem_cons_self)
    rw [(lgF_one a x).2, ByteArray.size_append] at h1
    rw [List.foldl_cons, List.length_cons]
    omega
theorem DE.short {l : List Entry} (h : DE l) (hn : l.length ≤ 7) : (lgOf l).2.size ≤ 560 := by
  have h1 := lg_len80 l (0, ⟨#[]⟩) h.ok
  have h2 : (⟨#[]⟩ : ByteArray).size = 0 := rfl
  unfold lgOf
  simp only [h2] at h1
  omega
theorem DE.lcode {l : List Entry} (h : DE l) (hn : l.length ≤ 7) : lcode (lgOf l).2 = 0 ∧ ents (lgOf l).2 = l ∧ upTo (lgOf l).2 = (lgOf l).2.size ∧ lastSt (lgOf l).2 = (lgOf l).1 := by
  have h1 := h.short hn
  have h2 : upTo (lgOf l).2 = (lgOf l).2.size := by unfold upTo; rw [rd_made h]
  exact ⟨by unfold Go.Proofs.YtfpaejlipaainaaGreatDoor.lcode; rw [if_neg (by omega), if_pos h2], by unfold ents; rw [rd_made h], h2, by unfold lastSt; rw [rd_made h]⟩
theorem step_rest {st day : Int} {rest l : List UInt8} {e : Entry} (h : stepOf st day rest = some (e, l)) : lineOf rest = some l ∧ ∀ r, stepOf st day (l ++ 10 :: r) = some (e, l) := by
  unfold stepOf at h
  split at h
  · cases h
  · rename_i x hx
    split at h
    · cases h
    · rename_i e' he
      split at h
      · rename_i hk
        injection h with h
        injection h with h3 h4
        subst h3 h4
        exact ⟨hx, fun r => step_good (lineOf_to (lineOf_split hx).1) he hk⟩
      · cases h
end Go.Proofs.YtfpaejlipaainaaGreatDoor
namespace Go.Proofs.YtfpaejlipaainaaGreatDoor
open Go.ChangeShapes Go.WideShapes Go.ChangeAt Go.RowKit Go.Deep
set_option maxRecDepth 100000
def dayOf (d : Int) (l : List Entry) : Int := match l.getLast? with
  | some x => x.fDay
  | none => d
theorem dayOf_cons (d : Int) (e : Entry) (l : List Entry) : dayOf d (e :: l) = dayOf e.fDay l := by
  unfold dayOf
  cases l with
  | nil => rfl
  | cons y l => rw [List.getLast?_cons_cons]; cases h : (y :: l).getLast? with
    | none => simp at h
    | some z => rfl
theorem read_app : ∀ (f : Nat) (rest : List UInt8) (st day : Int) (g : Nat) (more : List UInt8), rest.length < f → (readK f rest st day).2.1 = rest.length → (rest ++ more).length < g →
    ∃ h, more.length < h ∧ readK g (rest ++ more) st day = ((readK f rest st day).1 ++ (readK h more (readK f rest st day).2.2 (dayOf day (readK f rest st day).1)).1, rest.length + (readK h more (readK f rest st day).2.2 (dayOf day (readK f rest st day).1)).2.1, (readK h more (readK f rest st day).2.2 (dayOf day (readK f rest st day).1)).2.2)
  | 0, _, _, _, _, _, hf, _, _ => by cases hf
  | f + 1, rest, st, day, 0, _, _, _, hg => by cases hg
  | f + 1, rest, st, day, g + 1, more, hf, he, hg => by
    cases hs : stepOf st day rest with
    | none =>
      have h1 : readK (f + 1) rest st day = ([], 0, st) := by rw [readK]; simp only [hs]
      rw [h1] at he ⊢
      have hr : rest = [] := List.eq_nil_of_length_eq_zero he.symm
      subst hr
      refine ⟨g + 1, hg, ?_⟩
      show readK (g + 1) more st day = _
      show _ = ([] ++ (readK (g + 1) more st day).1, 0 + (readK (g + 1) more st day).2.1, (readK (g + 1) more st day).2.2)
      rw [List.nil_append, Nat.zero_add]
    | some x =>
      obtain ⟨e, l⟩ := x
      obtain ⟨h1, h2⟩ := step_rest hs
      obtain ⟨h3, h4⟩ := lineOf_split h1
      obtain ⟨R, hR⟩ : ∃ R, R = rest.drop (l.length + 1) := ⟨_, rfl⟩
      rw [← hR] at h4
      have hl : R.length + (l.length + 1) = rest.length := by rw [h4]; simp; omega
      obtain ⟨r, hr⟩ : ∃ r, r = readK f R (stampB st (entB e)) e.fDay := ⟨_, rfl⟩
      have hk : readK (f + 1) rest st day = (e :: r.1, l.length + 1 + r.2.1, r.2.2) := by rw [readK]; simp only [hs, ← hR, ← hr]
      rw [hk] at he ⊢
      simp only at he
      have ht : rest ++ more = l ++ 10 :: (R ++ more) := by rw [h4]; simp
      have hd : (l ++ 10 :: (R ++ more)).drop (l.length + 1) = R ++ more := by
        rw [show l ++ 10 :: (R ++ more) = (l ++ [10]) ++ (R ++ more) by simp]
        exact List.drop_left' (by simp)
      obtain ⟨h, hh, e2⟩ := read_app f R (stampB st (entB e)) e.fDay g more (by omega) (by rw [← hr]; omega) (by rw [ht] at hg; simp only [List.length_append, List.length_cons] at hg ⊢; omega)
      rw [← hr] at e2
      refine ⟨h, hh, ?_⟩
      rw [ht, readK]
      simp only [h2 (R ++ more), hd, e2]
      rw [dayOf_cons, List.cons_append, ← hl]
      congr 2
      omega
theorem dayOf_last (l : List Entry) : dayOf 0 l = lastDay l := rfl
theorem app_code {s : ByteArray} {x : Entry} (h : lcode s = 0) (hk : x.ok = true) (hd : ¬ x.fDay < lastDay (ents s)) (hf : ¬ 4000 < (addB s x).size) : lcode (addB s x) = 0 := by
  have hup : upTo s = s.size := by
    unfold lcode at h
    split at h
    · cases h
    · split at h
      · assumption
      · cases h
  unfold lcode
  rw [if_neg hf, if_pos]
  have hlist : (addB s x).data.toList = s.data.toList ++ (lnL (stampB (lastSt s) (entB x)) x ++ [10]) := by
    unfold addB; rw [Joins.data_append, line_list]
  obtain ⟨q, hq, e⟩ := read_app (s.size + 1) s.data.toList 0 0 ((addB s x).size + 1) (lnL (stampB (lastSt s) (entB x)) x ++ [10]) (by rw [size_list]; omega) (by rw [size_list]; exact hup) (by rw [← hlist, size_list]; omega)
  have hlast : (readK (s.size + 1) s.data.toList 0 0).2.2 = lastSt s := rfl
  have hents : (readK (s.size + 1) s.data.toList 0 0).1 = ents s := rfl
  rw [hlast, hents, dayOf_last] at e
  cases q with
  | zero => cases hq
  | succ q =>
    have hst := step_made (st := lastSt s) (day := lastDay (ents s)) [] hk (by omega)
    have h1 : (readK (q + 1) (lnL (stampB (lastSt s) (entB x)) x ++ [10]) (lastSt s) (lastDay (ents s))).2.1 = (lnL (stampB (lastSt s) (entB x)) x).length + 1 := by
      rw [readK]
      simp only [hst]
      rw [List.drop_of_length_le (by simp)]
      have : ∀ g st d, (readK g [] st d).2.1 = 0 := by
        intro g st d
        cases g with
        | zero => rfl
        | succ g => rw [readK, step_noline (by unfold lineOf; rfl)]
      rw [this]
    have hsz := size_list (addB s x)
    show (rdLog (addB s x)).2.1 = _
    unfold rdLog
    rw [hlist, e]
    simp only
    rw [h1, ← hsz, hlist]
    simp
theorem add_code0 {s : ByteArray} {x : Entry} (h : (mAdd s x).2 = 0) : lcode (mAdd s x).1 = 0 := by
  by_cases h0 : lcode s = 0
  case neg => rw [add_code h0] at h; exact absurd h h0
  cases hk : x.ok
  · rw [add_bad h0 hk] at h; cases h
  by_cases hd : x.fDay < lastDay (ents s)
  · rw [add_late h0 hk hd] at h; cases h
  by_cases hf : 4000 < (addB s x).size
  · rw [add_full h0 hk hd hf] at h; cases h
  · rw [add_good h0 hk hd hf]; exact app_code h0 hk hd hf
end Go.Proofs.YtfpaejlipaainaaGreatDoor
namespace Go.Proofs.YtfpaejlipaainaaGreatDoor
open Go.ChangeShapes Go.WideShapes Go.ChangeAt Go.RowKit Go.Deep
set_option maxRecDepth 100000
theorem DeskM.ok_parts {d : DeskM} : d.ok = true ↔ strokeOk d.st = true ∧ inB d.sk 3 60 = true ∧ kindsOk d.ks = true ∧ heapsOk d.hs = true ∧ lcode d.lg = 0 := by
  unfold DeskM.ok; simp only [Bool.and_eq_true, decide_eq_true_eq]
  exact ⟨fun ⟨⟨⟨⟨a, b⟩, c⟩, d⟩, e⟩ => ⟨a, b, c, d, e⟩, fun ⟨a, b, c, d, e⟩ => ⟨⟨⟨⟨a, b⟩, c⟩, d⟩, e⟩⟩
theorem mDo_ok {d : DeskM} {c : Cmd} {ws : List ByteArray} (h : d.ok = true) (hc : (mDo d c ws).2.2 = 0) : (mDo d c ws).1.ok = true ∧ 1 ≤ (mDo d c ws).2.1.length := by
  obtain ⟨h1, h2, h3, h4, h5⟩ := DeskM.ok_parts.1 h
  revert hc
  unfold mDo
  split
  · unfold mText
    cases c <;> simp only <;> intro hc
    case cHeap =>
      split at hc
      · rename_i hr
        rw [if_pos hr]
        have hp : mPutC d.hs (rhHeap (joinSp ws.tail)) = 0 := hc
        refine ⟨DeskM.ok_parts.2 ⟨h1, h2, h3, ?_, h5⟩, Nat.le_refl _⟩
        show heapsOk (mPutL d.hs (rhHeap (joinSp ws.tail))) = true
        unfold mPutL
        rw [if_pos hp]
        unfold mPutC at hp
        rw [if_pos h4] at hp
        split at hp
        · split at hp
          · assumption
          · cases hp
        · cases hp
      · cases hc
    case cStroke =>
      split at hc
      · rename_i hr
        rw [if_pos hr]
        exact ⟨DeskM.ok_parts.2 ⟨hr, h2, h3, h4, h5⟩, Nat.le_refl _⟩
      · cases hc
    case cHeaps => exact ⟨h, by simp⟩
    case cLog => exact ⟨h, by simp⟩
    all_goals (rename_i hp; cases hp)
  · split
    · unfold mWork
      cases c <;> simp only <;> intro hc
      case cStakes =>
        split at hc
        · rename_i hr
          rw [if_pos hr]
          exact ⟨DeskM.ok_parts.2 ⟨h1, hr, h3, h4, h5⟩, Nat.le_refl _⟩
        · cases hc
      case cKinds =>
        refine ⟨DeskM.ok_parts.2 ⟨h1, h2, ?_, h4, h5⟩, Nat.le_refl _⟩
        show kindsOk (kindsL _) = true
        unfold kindsL
        rw [if_pos hc]
        unfold kindsCd at hc
        split at hc
        · split at hc
          · assumption
          · cases hc
        · cases hc
      case cEnter => exact ⟨DeskM.ok_parts.2 ⟨h1, h2, h3, h4, add_code0 hc⟩, Nat.le_refl _⟩
      all_goals exact ⟨h, Nat.le_refl _⟩
    · intro hc; cases hc
theorem mLine_ok {d d' : DeskM} {s : ByteArray} {out : List ByteArray} (h : d.ok = true) (hl : mLine d s = some (d', out)) : d'.ok = true ∧ 1 ≤ out.length := by
  unfold mLine at hl
  split at hl
  · cases hl
  · split at hl
    · split at hl
      · rename_i hc
        have e := Option.some.inj hl
        have e1 := congrArg Prod.fst e
        have e2 := congrArg Prod.snd e
        simp only at e1 e2
        rw [← e1, ← e2]
        exact mDo_ok h hc
      · have e := Option.some.inj hl
        have e1 := congrArg Prod.fst e
        have e2 := congrArg Prod.snd e
        simp only at e1 e2
        rw [← e1, ← e2]
        exact ⟨h, Nat.le_refl _⟩
    · cases hl
theorem newM_ok : newM.ok = true := by
  refine DeskM.ok_parts.2 ⟨by decide, by decide, by decide, by decide, ?_⟩
  show lcode ⟨#[]⟩ = 0
  decide
theorem mFold_ok (L : List ByteArray) : (mFold L).1.ok = true := by
  unfold mFold
  have key : ∀ (L : List ByteArray) (p : DeskM × List ByteArray), p.1.ok = true → (L.foldl mStep p).1.ok = true := by
    intro L
    induction L with
    | nil => intro p h; exact h
    | cons x L ih =>
      intro p h
      rw [List.foldl_cons]
      refine ih _ ?_
      unfold mStep
      cases hm : mLine p.1 x with
      | none => exact h
      | some q => exact (mLine_ok h hm).1
  exact key L _ newM_ok
theorem run_lines {L : List ByteArray} (hn : ∀ x ∈ L, ¬ (10 : UInt8) ∈ x.data.toList) (h8 : L.length ≤ 60) : mRun (linesB L) = linesB (mFold L).2 := by
  unfold mRun
  by_cases h0 : L = []
  · subst h0
    rw [if_pos (show linesB [] = ⟨#[]⟩ from rfl)]; rfl
  · have hl : mLines (linesB L) = L := trim_lines h0 hn
    rw [if_neg (fun e => h0 (linesB_empty e)), hl, if_pos h8]
end Go.Proofs.YtfpaejlipaainaaGreatDoor
namespace Go.Proofs.YtfpaejlipaainaaGreatDoor
open Go.ChangeShapes Go.WideShapes Go.ChangeAt Go.RowKit Go.Deep
set_option maxRecDepth 100000
structure WorkIn (w0 w : World) (g : Nat) (x : DeskV) (Aw : Option Addr) (nw cw : Nat) (ws : List ByteArray) (An : Option Addr) (m cn : Nat) (N : List Int) : Prop where
  hG : Gl w0
  hB0 : Below w0.heap.size w0 w
  h : DG w w0.heap.size g x
  ok : x.pure.ok = true
  hw : Res strc 9 1 w w0.heap.size (.slice Aw nw cw) nw ws
  hn : Res i64c 2 1 w w0.heap.size (.slice An m cn) m N
  nw : nw ≤ 1048577
  mm : m ≤ 1048576
  wsz : ∀ s ∈ ws, s.size ≤ maxLen
  nb : ∀ z ∈ N, -1000000000000000000 ≤ z ∧ z ≤ 1000000000000000000
def WorkPost (w0 w : World) (g : Nat) (r : DeskM × ByteArray × Int) (e : Ending) (w' : World) : Prop :=
  ∃ x', e = .returned (.tuple #[.string r.2.1, .int .i64 r.2.2]) ∧ DG w' w0.heap.size g x' ∧ x'.pure = r.1 ∧ w.grownBy w' (some g) ∧ Below w0.heap.size w0 w'
section
variable {w0 w w' : World} {g : Nat} {x : DeskV} {Aw : Option Addr} {nw cw : Nat} {ws : List ByteArray} {An : Option Addr} {m cn : Nat} {N : List Int}
theorem WorkIn.gl (h : WorkIn w0 w g x Aw nw cw ws An m cn N) (hg : w.grownBy w' (some g)) : Gl w' := h.hG.below (below_g h.hB0 h.h.hb hg)
theorem WorkIn.cap (h : WorkIn w0 w g x Aw nw cw ws An m cn N) : m ≤ cn ∧ cn ≤ maxLen := by
  obtain ⟨A, c, hv, h1, h2⟩ := h.hn.2.1
  injection hv with _ _ hc
  subst hc
  exact ⟨h1, h2⟩
theorem WorkIn.ask (h : WorkIn w0 w g x Aw nw cw ws An m cn N) : AskIn w g x Aw nw cw ws An m cn N :=
  ⟨h.hG.below h.hB0, h.h.hK, h.h.good, h.ok, h.hw.arr strc_len, h.hn.arr i64c_len, h.nw, h.mm, h.cap.1, h.wsz, h.nb⟩
theorem WorkIn.parts (h : WorkIn w0 w g x Aw nw cw ws An m cn N) : strokeOk x.fStroke = true ∧ inB x.fStakes 3 60 = true ∧ kindsOk x.kinds = true ∧ heapsOk x.heaps = true ∧ lcode x.fLog = 0 := DeskM.ok_parts.1 h.ok
theorem WorkIn.stroke (h : WorkIn w0 w g x Aw nw cw ws An m cn N) : x.fStroke.size ≤ maxLen := by
  have h1 := h.parts.1
  unfold strokeOk at h1
  rw [Bool.and_eq_true, Bool.and_eq_true] at h1
  have := of_decide_eq_true h1.1.2
  unfold maxLen; omega
end
set_option maxHeartbeats 4000000 in
theorem iWork_stakes {w0 w : World} {g : Nat} {x : DeskV} {Aw : Option Addr} {nw cw : Nat} {ws : List ByteArray} {An : Option Addr} {m cn : Nat} {N : List Int} (h : WorkIn w0 w g x Aw nw cw ws An m cn N) (hw0 : ws[0]? = some Cmd.cStakes.word) (h0 : 0 < nw) (hm : 0 < m) :
    Calls Tryz.prog 33 #[.pointer (some ⟨g, 0, none⟩), .slice Aw nw cw, .slice An m cn] w fun e w' => WorkPost w0 w g (mWork x.pure .cStakes ws N) e w' := by
  have hIn := hide h
  obtain ⟨bw, ow, y0, hAw, hbw, hy0, cw0⟩ := h.ask.hw.str h0
  subst hAw
  rw [hw0] at hy0
  have hy00 : y0 = Cmd.cStakes.word := (Option.some.inj hy0).symm
  subst hy00
  simp only [Cmd.word, Nat.add_zero] at cw0
  obtain ⟨bn0, on0, z0, hA0, hb0, hz0, cn0⟩ := h.ask.hn.int (k := 0) hm
  subst hA0
  simp only [Nat.add_zero] at cn0
  have hZ0 : N.getD 0 0 = z0 := by rw [List.getD_eq_getElem?_getD, hz0]; rfl
  have hi0 : (0 : Int) < (m : Int) := by omega
  have hi1 : (0 : Int) < (nw : Int) := by omega
  have hdk := row5 h.h.hK
  cases hs : inB z0 3 60
  · have hM : Hid (mWork x.pure .cStakes ws N = (x.pure, ⟨#[]⟩, 1)) := hide (by unfold mWork; simp only; rw [hZ0, hs]; rfl)
    clear h hw0 hy0 hz0 hZ0 hdk
    go_enter Tryz.func33, Tryz.ntmps33
    go_wp2_with (go_at_call 61; refine (iStakes_any z0 _).mono ?_; rw [hs]; rintro e w1 ⟨rfl, rfl⟩)
    go_ret2
    exact ⟨x, by rw [hM.out]; rfl, hIn.out.h, by rw [hM.out], World.grownBy.refl _ _, hIn.out.hB0⟩
  · obtain ⟨x', hx'⟩ : ∃ x' : DeskV, x' = { x with fStakes := z0 } := ⟨_, rfl⟩
    have hM : Hid (mWork x.pure .cStakes ws N = (x'.pure, x'.pure.text, 0)) := hide (by unfold mWork; simp only; rw [hZ0, hs, hx']; rfl)
    have hxs : Hid (x'.fStroke.size ≤ maxLen) := hide (by rw [hx']; exact hIn.out.stroke)
    have hset : Hid (DG (w.setCell ⟨g, 1, none⟩ (.int .i64 z0)) w0.heap.size g x') := hide (by rw [hx']; exact hIn.out.h.set1 z0)
    clear h hw0 hy0 hz0 hZ0 hx'
    obtain ⟨c0, c1, c2, c3, c4, cf⟩ := hdk
    go_enter Tryz.func33, Tryz.ntmps33
    go_upto_region 6 with (go_at_call 61; refine (iStakes_any z0 _).mono ?_; rw [hs]; rintro e w1 ⟨rfl, rfl⟩)
    refine nameW' (φ := fun W => DG W w0.heap.size g x' ∧ w.grownBy W (some g)) ⟨hset.out, grown_set _ _ _ _⟩ ?_
    rintro W0 ⟨n0, n1⟩
    have hH2 := hide n0
    have hg2 := hide n1
    clear n0 n1 c0 c1 c2 c3 c4 cf cw0 cn0
    obtain ⟨c0, c1, c2, c3, c4, cf⟩ := row5 hH2.out.hK
    go_wp2_with fail
    refine (iDeskT_any x' _ (hIn.out.gl hg2.out) hH2.out.good hxs.out).mono ?_
    rw [deskT_pure hH2.out.good]
    rintro e w3 ⟨rfl, hb⟩
    have hH3 := hide (hH2.out.below hb)
    have hg3 := hide (grown_of hg2.out hb)
    clear hb
    go_wp2
    go_ret2
    exact ⟨x', by rw [hM.out]; rfl, hH3.out, by rw [hM.out], hg3.out, below_g hIn.out.hB0 hIn.out.h.hb hg3.out⟩
set_option maxHeartbeats 4000000 in
theorem iWork_kinds {w0 w : World} {g : Nat} {x : DeskV} {Aw : Option Addr} {nw cw : Nat} {ws : List ByteArray} {An : Option Addr} {m cn : Nat} {N : List Int} (h : WorkIn w0 w g x Aw nw cw ws An m cn N) (hw0 : ws[0]? = some Cmd.cKinds.word) (h0 : 0 < nw) :
    Calls Tryz.prog 33 #[.pointer (some ⟨g, 0, none⟩), .slice Aw nw cw, .slice An m cn] w fun e w' => WorkPost w0 w g (mWork x.pure .cKinds ws N) e w' := by
  have hIn := hide h
  obtain ⟨bw, ow, y0, hAw, hbw, hy0, cw0⟩ := h.ask.hw.str h0
  subst hAw
  rw [hw0] at hy0
  have hy00 : y0 = Cmd.cKinds.word := (Option.some.inj hy0).symm
  subst hy00
  simp only [Cmd.word, Nat.add_zero] at cw0
  have hi1 : (0 : Int) < (nw : Int) := by omega
  have hM : Hid (mWork x.pure .cKinds ws N = ({ x.pure with ks := kindsL N }, ({ x.pure with ks := kindsL N } : DeskM).text, kindsCd N)) := hide rfl
  have hkl : (kindsL N).length ≤ 1048576 := by
    unfold kindsL
    split
    · unfold kindsN pairsTo
      rw [List.length_map, List.length_range]
      have := h.hn.1; have := h.mm; omega
    · exact Nat.zero_le _
  clear h hw0 hy0
  go_enter Tryz.func33, Tryz.ntmps33
  go_wp2_with fail
  refine (iReadK_any An m cn N _ hIn.out.mm hIn.out.cap.1 (by have := hIn.out.cap.2; unfold maxLen at this; omega) hIn.out.ask.hn).mono ?_
  rintro e w1 ⟨v1, rfl, hr1, hb1⟩
  obtain ⟨A4, c4v, hv4, _⟩ := hr1.slice
  subst hv4
  have hB1 := hide hb1
  have hH1 := hide (hIn.out.h.below hb1)
  obtain ⟨x', hx'⟩ : ∃ x' : DeskV, x' = { x with A := A4, n := (kindsL N).length, c := c4v, kinds := kindsL N } := ⟨_, rfl⟩
  have hxp : Hid (x'.pure = { x.pure with ks := kindsL N }) := hide (by rw [hx']; rfl)
  have hxs : Hid (x'.fStroke.size ≤ maxLen) := hide (by rw [hx']; exact hIn.out.stroke)
  have hH5 := hide (hH1.out.set2 (hr1.less hIn.out.hB0.size) hkl)
  rw [← hx'] at hH5
  obtain ⟨d0, d1, d2, d3, d4, df⟩ := row5 hH1.out.hK
  clear hx' hr1 hb1 cw0
  go_upto_region 10 with fail
  refine nameW' (φ := fun W => DG W w0.heap.size g x' ∧ w.grownBy W (some g)) ⟨hH5.out, grown_two (grown_of_below hB1.out) (grown_set _ _ _ _)⟩ ?_
  rintro W2 ⟨n0, n1⟩
  have hH2 := hide n0
  have hg2 := hide n1
  clear n0 n1 d0 d1 d2 d3 d4 df
  obtain ⟨c0, c1, c2, c3, c4, cf⟩ := row5 hH2.out.hK
  go_wp2_with fail
  refine (iDeskT_any x' _ (hIn.out.gl hg2.out) hH2.out.good hxs.out).mono ?_
  rw [deskT_pure hH2.out.good]
  rintro e w3 ⟨rfl, hb⟩
  have hH3 := hide (hH2.out.below hb)
  have hg3 := hide (grown_of hg2.out hb)
  clear hb
  go_wp2
  go_ret2
  exact ⟨x', by rw [hM.out, hxp.out]; rfl, hH3.out, by rw [hM.out, hxp.out], hg3.out, below_g hIn.out.hB0 hIn.out.h.hb hg3.out⟩
theorem mVals_bound (s what : ByteArray) : ∀ z ∈ mVals s what, -1000000 ≤ z ∧ z ≤ 1000000 := by
  intro z hz
  unfold mVals valsOf at hz
  split at hz
  · obtain ⟨e, he, rfl⟩ := List.mem_map.1 hz
    exact (Entry.ok_iff.1 ((log_props s).2.2.1 e (List.mem_filter.1 he).1)).2.2
  · cases hz
theorem sum_signed {M : Int} (hM : 0 ≤ M) : ∀ (l : List Int), (∀ z ∈ l, -M ≤ z ∧ z ≤ M) → -(M * l.length) ≤ sumOf id l ∧ sumOf id l ≤ M * l.length
  | [], _ => by simp [sumOf]
  | z :: l, h => by
    have h1 := h z (by simp)
    have h2 := sum_signed hM l (fun y hy => h y (by simp [hy]))
    have e : M * ((l.length + 1 : Nat) : Int) = M * l.length + M := by rw [Int.natCast_add, Int.mul_add]; simp
    have e2 : sumOf id (z :: l) = z + sumOf id l := by unfold sumOf; simp
    rw [List.length_cons, e, e2]
    omega
theorem mVals_sum (s what : ByteArray) (k : Nat) : -1048576000000 ≤ sumOf id ((mVals s what).take k) ∧ sumOf id ((mVals s what).take k) ≤ 1048576000000 := by
  have h1 := sum_signed (M := 1000000) (by omega) ((mVals s what).take k) (fun z hz => mVals_bound s what z (List.mem_of_mem_take hz))
  have h2 := mVals_len s what
  have h3 : ((mVals s what).take k).length ≤ 1048576 := by rw [List.length_take]; omega
  omega
theorem vals_I64 (s what : ByteArray) : I64 [sumOf id (mVals s what)] := by
  intro z hz
  rw [List.mem_singleton.1 hz]
  have h := mVals_sum s what (mVals s what).length
  rw [List.take_of_length_le (Nat.le_refl _)] at h
  omega
set_option maxHeartbeats 4000000 in
theorem iWork_enter {w0 w : World} {g : Nat} {x : DeskV} {Aw : Option Addr} {nw cw : Nat} {ws : List ByteArray} {An : Option Addr} {m cn : Nat} {N : List Int} (h : WorkIn w0 w g x Aw nw cw ws An m cn N) (hw0 : ws[0]? = some Cmd.cEnter.word) (h0 : 0 < nw) (h2 : 2 < nw) (hm : 1 < m) :
    Calls Tryz.prog 33 #[.pointer (some ⟨g, 0, none⟩), .slice Aw nw cw, .slice An m cn] w fun e w' => WorkPost w0 w g (mWork x.pure .cEnter ws N) e w' := by
  have hIn := hide h
  obtain ⟨bw, ow, y0, hAw, hbw, hy0, cw0⟩ := h.ask.hw.str h0
  subst hAw
  rw [hw0] at hy0
  have hy00 : y0 = Cmd.cEnter.word := (Option.some.inj hy0).symm
  subst hy00
  simp only [Cmd.word, Nat.add_zero] at cw0
  have hi1 : (0 : Int) < (nw : Int) := by omega
  obtain ⟨bw2, ow2, y2, hA2, hbw2, hy2, cw2⟩ := h.ask.hw.str h2
  injection hA2 with hA2; injection hA2 with e1 e2; subst e1 e2
  obtain ⟨bn0, on0, z0, hA0, hb0, hz0, cn0⟩ := h.ask.hn.int (k := 0) (by omega)
  subst hA0
  simp only [Nat.add_zero] at cn0
  obtain ⟨bn1, on1, z1, hA1, hb1, hz1, cn1⟩ := h.ask.hn.int (k := 1) hm
  injection hA1 with hA1; injection hA1 with e1 e2; subst e1 e2
  have hm0 : (0 : Int) < (m : Int) := by omega
  have hmn : 0 < m := by omega
  have hnn : 0 < nw := by omega
  have hm1 : (1 : Int) < (m : Int) := by omega
  have hi2 : (2 : Int) < (nw : Int) := by omega
  obtain ⟨y, hy⟩ : ∃ y : Entry, y = ⟨z0, y2, z1⟩ := ⟨_, rfl⟩
  obtain ⟨T, hT⟩ : ∃ T, T = mAdd x.fLog y := ⟨_, rfl⟩
  have hTh := hide hT
  have hyf : y.fits := by rw [hy]; exact h.wsz y2 (List.mem_of_getElem? hy2)
  have hy2f : y2.size ≤ maxLen := h.wsz y2 (List.mem_of_getElem? hy2)
  have hM : Hid (mWork x.pure .cEnter ws N = ({ x.pure with lg := T.1 }, numLine [sumOf id (mVals T.1 y2)], T.2)) := hide (by
    have g0 : N.getD 0 0 = z0 := by rw [List.getD_eq_getElem?_getD, hz0]; rfl
    have g1 : N.getD 1 0 = z1 := by rw [List.getD_eq_getElem?_getD, hz1]; rfl
    have g2 : ws.getD 2 ⟨#[]⟩ = y2 := by rw [List.getD_eq_getElem?_getD, hy2]; rfl
    unfold mWork; simp only; rw [g0, g1, g2, hT, hy]; rfl)
  have hyh := hide hy
  have hdr : Below w.heap.size w w.drew := below_drewN (Below.refl _ _) 1
  have hDR := hide hdr
  have hcell : Hid (∀ W, Below w.heap.size w W → W.cell? ⟨g, 4, none⟩ = some (.string x.fLog) ∧ W.cell? ⟨bn0, on0, none⟩ = some (.int .i64 z0) ∧ W.cell? ⟨bw, ow + 2, none⟩ = some (.string y2) ∧ W.cell? ⟨bn0, on0 + 1, none⟩ = some (.int .i64 z1)) := hide (fun W hb => ⟨(row5 (keepr hIn.out.h.hK hb)).2.2.2.2.1, (hb.cell (p := ⟨bn0, on0, none⟩) hb0).trans cn0, (hb.cell (p := ⟨bw, ow + 2, none⟩) hbw).trans cw2, (hb.cell (p := ⟨bn0, on0 + 1, none⟩) hb0).trans cn1⟩)
  obtain ⟨e4, f0, f2, f1⟩ := hcell.out _ hdr
  have hy2h := hide hy2
  clear h hw0 hy0 hz0 hz1 hy2 hy hT hdr cw2 cn0 cn1
  go_enter Tryz.func33, Tryz.ntmps33
  go_wp2_with fail
  go_region_held3 (fun w' => w'.cell? ⟨g, 4, none⟩ = some (.string x.fLog) ∧ w'.cell? ⟨bn0, on0, none⟩ = some (.int .i64 z0) ∧ w'.cell? ⟨bw, ow + 2, none⟩ = some (.string y2) ∧ w'.cell? ⟨bn0, on0 + 1, none⟩ = some (.int .i64 z1)) (first | exact hcell.out _ hB4.out | exact hcell.out _ hDR.out | go_keep) (first | (go_at_call 76; have hc := iAdd_any x.fLog y _ hyf (hIn.out.gl (grown_of_below hDR.out)); rw [hyh.out] at hc; refine hc.mono ?_; rw [← hyh.out, ← hTh.out]; rintro e w4 ⟨rfl, hb4⟩; have hB4 := hide (hDR.out.trans (hb4.mono hDR.out.size)); clear hb4) | fail)
  have hH4 := hide (hIn.out.h.below hB4.out)
  obtain ⟨x', hx'⟩ : ∃ x' : DeskV, x' = { x with fLog := T.1 } := ⟨_, rfl⟩
  have hxp : Hid (x'.pure = { x.pure with lg := T.1 }) := hide (by rw [hx']; rfl)
  have hH5 := hide (hH4.out.set4 T.1)
  rw [← hx'] at hH5
  have hW5 := hide ((hIn.out.hw.below hB4.out).set (i := 4) (u := .string T.1) hH4.out.hK (by decide))
  obtain ⟨d0, d1, d2, d3, d4, df⟩ := row5 hH4.out.hK
  clear hx' e4 f0 f1 f2 cw0
  go_upto_region 14 with fail
  refine nameW' (φ := fun W => DG W w0.heap.size g x' ∧ w.grownBy W (some g) ∧ Res strc 9 1 W w0.heap.size (.slice (some ⟨bw, ow, none⟩) nw cw) nw ws) ⟨hH5.out, grown_two (grown_of_below hB4.out) (grown_set _ _ _ _), hW5.out⟩ ?_
  rintro W2 ⟨n0, n1, n2⟩
  have hH2 := hide n0
  have hg2 := hide n1
  obtain ⟨b', o', y', hA', _, hy', cw2⟩ := (n2.arr strc_len).str h2
  injection hA' with hA'; injection hA' with e1 e2; subst e1 e2
  rw [hy2h.out] at hy'
  have hyy := Option.some.inj hy'
  subst hyy
  clear n0 n1 n2 d0 d1 d2 d3 d4 df hy'
  go_wp2_with fail
  refine (iVals_any T.1 y2 _ hy2f (hIn.out.gl hg2.out)).mono ?_
  rintro e w3 ⟨v3, rfl, hr3, hb⟩
  obtain ⟨A3, c3, hv3, _⟩ := hr3.slice
  subst hv3
  have hH3 := hide (hH2.out.below hb)
  have hg3 := hide (grown_of hg2.out hb)
  have hR3 := hide hr3
  clear hb hr3
  go_wp2_with fail
  refine (iSumG_any A3 _ c3 (mVals T.1 y2) _ (mVals_len _ _) (fun k => by have := mVals_sum T.1 y2 k; omega) (hR3.out.arr i64c_len)).mono ?_
  rintro e w4' ⟨rfl, hb⟩
  have hH4' := hide (hH3.out.below hb)
  have hg4' := hide (grown_of hg3.out hb)
  clear hb
  go_wp2_with fail
  have hbz := hide ((Below.refl w4'.heap.size w4').alloc (Nat.le_refl _) (.cells #[.int .i64 (sumOf id (mVals T.1 y2))] 2))
  have hH5' := hide (hH4'.out.below hbz.out)
  have hg5' := hide (grown_of hg4'.out hbz.out)
  have hA5 := hide (arr_oneJ (y := sumOf id (mVals T.1 y2)) (heap_alloc_new w4' _))
  refine (iNumLine_any (some ⟨w4'.heap.size, 0, none⟩) 1 1 [sumOf id (mVals T.1 y2)] _ (by omega) (vals_I64 T.1 y2) (hIn.out.gl hg5'.out) hA5.out).mono ?_
  rintro e w6 ⟨rfl, hb⟩
  have hH6 := hide (hH5'.out.below hb)
  have hg6 := hide (grown_of hg5'.out hb)
  clear hb
  go_wp2
  go_ret2
  exact ⟨x', by rw [hM.out]; rfl, hH6.out, by rw [hM.out]; exact hxp.out, hg6.out, below_g hIn.out.hB0 hIn.out.h.hb hg6.out⟩
set_option maxHeartbeats 4000000 in
theorem iWork_ask {w0 w : World} {g : Nat} {x : DeskV} {Aw : Option Addr} {nw cw : Nat} {ws : List ByteArray} {An : Option Addr} {m cn : Nat} {N : List Int} (h : WorkIn w0 w g x Aw nw cw ws An m cn N) (c : Cmd) (hw0 : ws[0]? = some c.word) (h0 : 0 < nw) (hc : c ≠ .cStakes ∧ c ≠ .cKinds ∧ c ≠ .cEnter)
    (hk : Calls Tryz.prog 80 #[.pointer (some ⟨g, 0, none⟩), .slice Aw nw cw, .slice An m cn] w fun e w' => e = .returned (.tuple #[.string (mAsk x.pure c ws N).1, .int .i64 (mAsk x.pure c ws N).2]) ∧ Below w.heap.size w w') :
    Calls Tryz.prog 33 #[.pointer (some ⟨g, 0, none⟩), .slice Aw nw cw, .slice An m cn] w fun e w' => WorkPost w0 w g (mWork x.pure c ws N) e w' := by
  have hIn := hide h
  have hkh := hide hk
  have hM : Hid (mWork x.pure c ws N = (x.pure, (mAsk x.pure c ws N).1, (mAsk x.pure c ws N).2)) := hide (by clear hk hkh hIn h hw0; cases c <;> first | exact absurd rfl hc.1 | exact absurd rfl hc.2.1 | exact absurd rfl hc.2.2 | rfl | fail)
  obtain ⟨R, hR⟩ : ∃ R, R = mAsk x.pure c ws N := ⟨_, rfl⟩
  rw [← hR] at hkh hM
  obtain ⟨bw, ow, y0, hAw, hbw, hy0, cw0⟩ := h.ask.hw.str h0
  subst hAw
  rw [hw0] at hy0
  have hy00 : y0 = c.word := (Option.some.inj hy0).symm
  subst hy00
  simp only [Nat.add_zero] at cw0
  have hi1 : (0 : Int) < (nw : Int) := by omega
  have s1 : (c.word.toList == [115, 116, 97, 107, 101, 115]) = false := str_no (by clear hk hkh hIn h hw0 hR hM hy0 cw0; cases c <;> first | exact absurd rfl hc.1 | decide | fail)
  have s2 : (c.word.toList == [107, 105, 110, 100, 115]) = false := str_no (by clear hk hkh hIn h hw0 hR hM hy0 cw0; cases c <;> first | exact absurd rfl hc.2.1 | decide | fail)
  have s3 : (c.word.toList == [101, 110, 116, 101, 114]) = false := str_no (by clear hk hkh hIn h hw0 hR hM hy0 cw0; cases c <;> first | exact absurd rfl hc.2.2 | decide | fail)
  clear h hw0 hy0 hR hk hc
  obtain ⟨W0, hW0⟩ : ∃ W0, W0 = c.word := ⟨_, rfl⟩
  rw [← hW0] at cw0 s1 s2 s3
  clear hW0
  go_enter Tryz.func33, Tryz.ntmps33
  go_wp2_with fail
  refine hkh.out.mono ?_
  rintro e w1 ⟨rfl, hb⟩
  have hb1 := hide hb
  clear hb
  go_wp2
  go_ret2
  exact ⟨x, by rw [hM.out]; rfl, hIn.out.h.below hb1.out, by rw [hM.out], grown_of_below hb1.out, below_g hIn.out.hB0 hIn.out.h.hb (grown_of_below hb1.out)⟩
def Cmd.least : Cmd → Nat
  | .cEnter => 2
  | .cBroken => 0
  | .cKinds => 0
  | _ => 1
def Cmd.leastW : Cmd → Nat
  | .cEnter => 4
  | .cWord => 3
  | _ => 1
theorem iWork_any {w0 w : World} {g : Nat} {x : DeskV} {Aw : Option Addr} {nw cw : Nat} {ws : List ByteArray} {An : Option Addr} {m cn : Nat} {N : List Int} (h : WorkIn w0 w g x Aw nw cw ws An m cn N) (c : Cmd) (hw0 : ws[0]? = some c.word) (hp : c.plain = false) (h0 : c.leastW ≤ nw) (hm : c.least ≤ m) :
    Calls Tryz.prog 33 #[.pointer (some ⟨g, 0, none⟩), .slice Aw nw cw, .slice An m cn] w fun e w' => WorkPost w0 w g (mWork x.pure c ws N) e w' := by
  cases c
  case cStakes => exact iWork_stakes h hw0 h0 hm
  case cKinds => exact iWork_kinds h hw0 h0
  case cEnter => exact iWork_enter h hw0 (by have : 4 ≤ nw := h0; omega) (by have : 4 ≤ nw := h0; omega) hm
  case cRound => exact iWork_ask h _ hw0 h0 (by decide) (iAsk_round h.ask hw0 h0 hm)
  case cWord => exact iWork_ask h _ hw0 (by have : 3 ≤ nw := h0; omega) (by decide) (iAsk_word h.ask hw0 (by have : 3 ≤ nw := h0; omega) hm (by have : 3 ≤ nw := h0; omega))
  case cSound => exact iWork_ask h _ hw0 h0 (by decide) (iAsk_sound h.ask hw0 h0 hm)
  case cAdd => exact iWork_ask h _ hw0 h0 (by decide) (iAsk_add h.ask hw0 h0 hm)
  case cJoins => exact iWork_ask h _ hw0 h0 (by decide) (iAsk_joins h.ask hw0 h0 hm)
  case cFew => exact iWork_ask h _ hw0 h0 (by decide) (iAsk_few h.ask hw0 h0 hm)
  case cBroken => exact iWork_ask h _ hw0 h0 (by decide) (iAsk_broken h.ask hw0 h0)
  all_goals cases hp
end Go.Proofs.YtfpaejlipaainaaGreatDoor
