/- Contracts: the pieces whose sort has no rate. -/
import Derived.Test.YtgjcmnnhcoaliaaWageC
namespace Go.Proofs.Ytgjcmnnhcoaliaa
open Go.ChangeShapes Go.WideShapes Go.ChangeAt Go.RowKit Go.Deep
set_option maxRecDepth 100000
theorem info_int64' : (Try.prog.info? 2).map (fun i => (i.zero, i.size, i.bytes)) = some (some (.int .i64 0), 1, 8) := by kernel_rfl
/-- The indices from k on of pieces without a rate. -/
def unkTo (rs : List Rate) (l : List PieceW) : Nat → List Int
  | 0 => []
  | k + 1 => unkTo rs l k ++ (match l[k]? with | some x => if (rateOf rs x.fSort).isSome then [] else [(k : Int)] | none => [])
theorem unkTo_len (rs : List Rate) (l : List PieceW) (k : Nat) : (unkTo rs l k).length ≤ k := by
  induction k with
  | zero => simp [unkTo]
  | succ k ih =>
    simp only [unkTo, List.length_append]
    split
    · split <;> simp <;> omega
    · simp; omega
theorem unkTo_yes {rs : List Rate} {l : List PieceW} {k : Nat} {x : PieceW} (h : l[k]? = some x) (hr : (rateOf rs x.fSort).isSome = true) : unkTo rs l (k + 1) = unkTo rs l k := by
  simp [unkTo, h, hr]
theorem unkTo_no {rs : List Rate} {l : List PieceW} {k : Nat} {x : PieceW} (h : l[k]? = some x) (hr : (rateOf rs x.fSort).isSome = false) : unkTo rs l (k + 1) = unkTo rs l k ++ [(k : Int)] := by
  simp [unkTo, h, hr]
def unkOk (rs : List Rate) (l : List PieceW) : Bool := ratesOk rs && piecesOk l
def mUnk (rs : List Rate) (l : List PieceW) : List Int := if unkOk rs l then unkTo rs l l.length else []
def mUnkC (rs : List Rate) (l : List PieceW) : Int := if unkOk rs l then 0 else 1
theorem mUnk_len (rs : List Rate) (l : List PieceW) {n : Nat} (h : l.length = n) (hn : n ≤ 1048576) : (mUnk rs l).length ≤ 1048576 := by
  unfold mUnk
  split
  · have := unkTo_len rs l l.length; omega
  · simp
theorem rates_at {l : List Rate} (h : ratesOk l = true) {x : Rate} (hx : x ∈ l) : 0 ≤ x.fCents ∧ x.fCents ≤ 10000 := by
  simp only [ratesOk, Bool.and_eq_true, List.all_eq_true] at h
  obtain ⟨k, hk⟩ := List.mem_iff_getElem?.1 hx
  have h1 := h.1 k (by simp [lt_of_get hk])
  unfold ratePair at h1
  rw [hk] at h1
  simp only [Bool.and_eq_true, Rate.ok, inB_true] at h1
  exact h1.1.2
theorem Own.alloc' {α : Type} {cells : α → List Value} {e s : Nat} {w : World} {base : Nat} {v : Value} {n : Nat} {l : List α} (h : Own cells e s w base v n l) (o : Obj) : Own cells e s (w.alloc o) base v n l := ⟨h.1, h.2.alloc o⟩
theorem iUnk_any (A : Option Addr) (n c : Nat) (l : List Rate) (A' : Option Addr) (n' c' : Nat) (l' : List PieceW) (w : World) (hn : n ≤ 1048576) (hn' : n' ≤ 1048576) (hf : ∀ x ∈ l, x.fits) (hf' : ∀ x ∈ l', x.fits)
    (hr : Arr Rate.cells 2 w w.heap.size A n l) (hr' : Arr PieceW.cells 4 w w.heap.size A' n' l') :
    Calls Try.prog 12 #[.slice A n c, .slice A' n' c'] w fun e w' => ∃ v, e = .returned (.tuple #[v, .int .i64 (mUnkC l l')]) ∧ Res i64c 2 1 w' w.heap.size v (mUnk l l').length (mUnk l l') ∧ Below w.heap.size w w' := by
  have hl' := hide hr'.len
  cases hok : ratesOk l
  · have hm : Hid (mUnk l l' = [] ∧ mUnkC l l' = 1) := hide (by simp [mUnk, mUnkC, unkOk, hok])
    go_enter Try.func12, Try.ntmps12
    go_wp2_with (go_at_call 28; refine (iRates_any A n c l _ hn hf hr).mono ?_; rintro e whB ⟨rfl, hb⟩; have hB := hide (hb); clear hb)
    go_ret2; exact ⟨_, by rw [hm.out.2]; rfl, by rw [hm.out.1]; exact Res.empty (by unfold maxLen; omega), hB.out⟩
  · cases hok2 : piecesOk l'
    · have hm : Hid (mUnk l l' = [] ∧ mUnkC l l' = 1) := hide (by simp [mUnk, mUnkC, unkOk, hok2])
      go_enter Try.func12, Try.ntmps12
      go_wp2_with (first | (go_at_call 28; refine (iRates_any A n c l _ hn hf hr).mono ?_; rintro e whB ⟨rfl, hb⟩; have hB := hide (hb); clear hb) | (go_at_call 22; refine (iPieces_any A' n' c' l' _ hn' hf' (hr'.go hB.out)).mono ?_; rintro e whB2 ⟨rfl, hb⟩; have hB2 := hide (Below.up hB.out hb); clear hb))
      go_ret2; exact ⟨_, by rw [hm.out.2]; rfl, by rw [hm.out.1]; exact Res.empty (by unfold maxLen; omega), hB2.out⟩
    · have hm : Hid (mUnk l l' = unkTo l l' n' ∧ mUnkC l l' = 0) := hide (by simp [mUnk, mUnkC, unkOk, hok, hok2, hl'.out])
      have hokh := hide hok
      go_enter Try.func12, Try.ntmps12
      go_wp2_with (first | (go_at_call 28; refine (iRates_any A n c l _ hn hf hr).mono ?_; rintro e whB ⟨rfl, hb⟩; have hB := hide (hb); clear hb) | (go_at_call 22; refine (iPieces_any A' n' c' l' _ hn' hf' (hr'.go hB.out)).mono ?_; rintro e whB2 ⟨rfl, hb⟩; have hB2 := hide (Below.up hB.out hb); clear hb))
      clear hok hok2
      go_loopw [6, 22] (fun v i wr => ∃ k : Nat, k ≤ n' ∧ i = .int .i64 k ∧ Below w.heap.size w wr ∧ Own i64c 2 1 wr w.heap.size v (unkTo l l' k).length (unkTo l l' k)) (fun _ i _ => n' - (intOf i).toNat)
      case atStart => exact ⟨0, Nat.zero_le _, rfl, hB2.out.alloc hB2.out.size _, Own.none_made _ hB2.out.size⟩
      case round =>
        clear hB hB2
        rename_i v _ _
        obtain ⟨k, hk, rfl, hb, hown⟩ := hrel
        have hO := hide hown
        clear hown
        by_cases hlt : k < n'
        · obtain ⟨b, o, x, rfl, hbl, hx, c0, c1, c2, c3⟩ := hr'.PieceW hlt
          have d0 : wr.cell? ⟨b, o + k * 4, none⟩ = some (.string x.fName) := (hb.cell (p := ⟨b, o + k * 4, none⟩) hbl).trans c0
          have d1 : wr.cell? ⟨b, o + k * 4 + 1, none⟩ = some (.string x.fSort) := (hb.cell (p := ⟨b, o + k * 4 + 1, none⟩) hbl).trans c1
          have d2 : wr.cell? ⟨b, o + k * 4 + 2, none⟩ = some (.int .i64 x.fDay) := (hb.cell (p := ⟨b, o + k * 4 + 2, none⟩) hbl).trans c2
          have d3 : wr.cell? ⟨b, o + k * 4 + 3, none⟩ = some (.int .i64 x.fMade) := (hb.cell (p := ⟨b, o + k * 4 + 3, none⟩) hbl).trans c3
          have hX := hide hx
          clear hx c0 c1 c2 c3
          have hB := hide hb
          clear hr' hb hf hf'
          have hul := unkTo_len l l' k
          cases h1 : (rateOf l x.fSort).isSome
          · have e1 : (rateOf l x.fSort).isSome = false := h1
            have hu := hide (unkTo_no (rs := l) hX.out h1)
            have hu2 : Hid ((unkTo l l' (k + 1)).length = (unkTo l l' k).length + 1) := hide (by rw [hu.out]; simp)
            clear h1
            go_wp2_with (first | (go_at_call 29; refine (iCents_any A n c l x.fSort _ hn ((hr.below (hB.out.alloc hB.out.size _)).more (hB.out.alloc hB.out.size _).size)).mono ?_; rintro e w1 ⟨rfl, hb⟩; have hB3 := hide (Below.up (hB.out.alloc hB.out.size _) hb); have hO3 := hide ((hO.out.alloc' _).below hb); clear hb) | (at_builtin; refine wpl_app1 rfl (.tmp 36) (.tmp 38) _ rfl Try.underlying37 info_int64' rfl (by omega) (by omega) rfl hO3.out (k : Int) _ rfl rfl rfl (by simp [i64c, Value.oneCell']) (by omega) hB3.out.size ?_; intro v2 w2 ho2 hg2))
            go_roundw
            case rel => exact ⟨k + 1, by omega, by go_num, hO3.out.grown hB3.out hg2, by rw [hu.out, List.length_append]; exact ho2⟩
            case measure => simp [intOf]; omega
          · have e1 : (rateOf l x.fSort).isSome = true := h1
            have hu := hide (unkTo_yes (rs := l) hX.out h1)
            clear h1
            go_wp2_with (go_at_call 29; refine (iCents_any A n c l x.fSort _ hn ((hr.below (hB.out.alloc hB.out.size _)).more (hB.out.alloc hB.out.size _).size)).mono ?_; rintro e w1 ⟨rfl, hb⟩; have hB3 := hide (Below.up (hB.out.alloc hB.out.size _) hb); have hO3 := hide ((hO.out.alloc' _).below hb); clear hb)
            go_roundw
            case rel => exact ⟨k + 1, by omega, by go_num, hB3.out, by rw [hu.out]; exact hO3.out⟩
            case measure => simp [intOf]; omega
        · have hkn : k = n' := by omega
          subst hkn
          have hB := hide hb
          clear hb
          go_wp2
          go_ret2
          exact ⟨_, by rw [hm.out.2]; rfl, by rw [hm.out.1]; exact hO.out.res, hB.out⟩
end Go.Proofs.Ytgjcmnnhcoaliaa
