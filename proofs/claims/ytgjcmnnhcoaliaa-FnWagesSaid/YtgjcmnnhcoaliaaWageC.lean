/- Contracts: what was made of a sort; the rate of a sort; pieces whose sort has no rate. -/
import Derived.Test.YtgjcmnnhcoaliaaWageB
import Derived.Test.YtgjcmnnhcoaliaaSInts
namespace Go.Proofs.Ytgjcmnnhcoaliaa
open Go.ChangeShapes Go.WideShapes Go.ChangeAt Go.RowKit Go.Deep
set_option maxRecDepth 100000

theorem piecesOk_at {l : List PieceW} (h : piecesOk l = true) {x : PieceW} (hx : x ∈ l) : (0 ≤ x.fDay ∧ x.fDay ≤ 365) ∧ (1 ≤ x.fMade ∧ x.fMade ≤ 500) ∧ l.length ≤ 30 := by
  simp only [piecesOk, Bool.and_eq_true, List.all_eq_true, PieceW.ok, inB_true, decide_eq_true_eq] at h
  have := h.1 x hx
  exact ⟨this.1.2, this.2, h.2⟩
theorem piecesOk_len {l : List PieceW} (h : piecesOk l = true) : l.length ≤ 30 := by
  simp only [piecesOk, Bool.and_eq_true, decide_eq_true_eq] at h; exact h.2
/-! ### made of a sort -/
def madeF (s : ByteArray) (x : PieceW) : Int := if x.fSort = s then x.fMade else 0
theorem madeF_bound {l : List PieceW} (h : piecesOk l = true) (s : ByteArray) : ∀ x ∈ l, 0 ≤ madeF s x ∧ madeF s x ≤ 500 := by
  intro x hx
  have := piecesOk_at h hx
  unfold madeF
  split <;> omega
def mMade (l : List PieceW) (s : ByteArray) : Int × Int := if piecesOk l then (if isName s then (sumOf (madeF s) l, 0) else (0, 2)) else (0, 1)
theorem iMade_any (A : Option Addr) (n c : Nat) (l : List PieceW) (s : ByteArray) (w : World) (hn : n ≤ 1048576) (hf : ∀ x ∈ l, x.fits) (hz : s.size ≤ maxLen) (hr : Arr PieceW.cells 4 w w.heap.size A n l) :
    Calls Try.prog 8 #[.slice A n c, .string s] w fun e w' => e = .returned (.tuple #[.int .i64 (mMade l s).1, .int .i64 (mMade l s).2]) ∧ Below w.heap.size w w' := by
  have hl := hide hr.len
  cases hok : piecesOk l
  · have hm : Hid (mMade l s = (0, 1)) := hide (by simp [mMade, hok])
    go_enter Try.func8, Try.ntmps8
    go_wp2_with (go_at_call 22; refine (iPieces_any A n c l _ hn hf hr).mono ?_; rintro e whB ⟨rfl, hb⟩; have hB := hide (hb); clear hb)
    go_ret2; exact ⟨by rw [hm.out]; rfl, hB.out⟩
  · cases hs : isName s
    · have hm : Hid (mMade l s = (0, 2)) := hide (by simp [mMade, hok, hs])
      go_enter Try.func8, Try.ntmps8
      go_wp2_with (first | (go_at_call 22; refine (iPieces_any A n c l _ hn hf hr).mono ?_; rintro e whB ⟨rfl, hb⟩; have hB := hide (hb); clear hb) | (go_at_call 24; refine (iName_any _ _ hz).mono ?_; rintro e w' ⟨rfl, rfl⟩))
      go_ret2; exact ⟨by rw [hm.out]; rfl, hB.out⟩
    · have hm : Hid (mMade l s = (sumOf (madeF s) l, 0)) := hide (by simp [mMade, hok, hs])
      have hbnd := hide (madeF_bound hok s)
      have hlen := hide (piecesOk_len hok)
      go_enter Try.func8, Try.ntmps8
      go_wp2_with (first | (go_at_call 22; refine (iPieces_any A n c l _ hn hf hr).mono ?_; rintro e whB ⟨rfl, hb⟩; have hB := hide (hb); clear hb) | (go_at_call 24; refine (iName_any _ _ hz).mono ?_; rintro e w' ⟨rfl, rfl⟩))
      clear hok hs
      go_loopw [6, 17] (fun q i wr => ∃ (k : Nat) (z : Int), k ≤ n ∧ i = .int .i64 k ∧ q = .int .i64 z ∧ Below w.heap.size w wr ∧ Hid (z = sumOf (madeF s) (l.take k))) (fun _ i _ => n - (intOf i).toNat)
      case atStart => exact ⟨0, 0, Nat.zero_le _, rfl, rfl, hB.out, hide rfl⟩
      case round =>
        obtain ⟨k, z, hk, rfl, rfl, hb, hz2⟩ := hrel
        clear hB
        by_cases hlt : k < n
        · obtain ⟨b, o, x, rfl, hbl, hx, c0, c1, c2, c3⟩ := hr.PieceW hlt
          have d0 : wr.cell? ⟨b, o + k * 4, none⟩ = some (.string x.fName) := (hb.cell (p := ⟨b, o + k * 4, none⟩) hbl).trans c0
          have d1 : wr.cell? ⟨b, o + k * 4 + 1, none⟩ = some (.string x.fSort) := (hb.cell (p := ⟨b, o + k * 4 + 1, none⟩) hbl).trans c1
          have d2 : wr.cell? ⟨b, o + k * 4 + 2, none⟩ = some (.int .i64 x.fDay) := (hb.cell (p := ⟨b, o + k * 4 + 2, none⟩) hbl).trans c2
          have d3 : wr.cell? ⟨b, o + k * 4 + 3, none⟩ = some (.int .i64 x.fMade) := (hb.cell (p := ⟨b, o + k * 4 + 3, none⟩) hbl).trans c3
          have hX := hide hx
          clear hx c0 c1 c2 c3
          have hB := hide hb
          clear hr hb hf
          have hzb : 0 ≤ z ∧ z ≤ 15000 := by rw [hz2.out]; exact sumOf_take_bound (M := 500) (N := 30) hbnd.out hlen.out (by omega) k
          have hxb := hbnd.out x (List.mem_of_getElem? hX.out)
          by_cases he : x.fSort = s
          · have e1 := str_eq he
            have hmf : Hid (madeF s x = x.fMade) := hide (if_pos he)
            have hxb2 : 0 ≤ x.fMade ∧ x.fMade ≤ 500 := by rw [← hmf.out]; exact hxb
            clear he hxb
            go_wp2
            go_roundw
            case rel => exact ⟨k + 1, z + x.fMade, by omega, by go_num, rfl, hB.out.alloc hB.out.size _, hide (by rw [sumOf_snoc hX.out, ← hz2.out, hmf.out])⟩
            case measure => simp [intOf]; omega
          · have e1 := str_ne he
            have hmf : Hid (madeF s x = 0) := hide (if_neg he)
            clear he hxb
            go_wp2
            go_roundw
            case rel => exact ⟨k + 1, z, by omega, by go_num, rfl, hB.out.alloc hB.out.size _, hide (by rw [sumOf_snoc hX.out, ← hz2.out, hmf.out]; omega)⟩
            case measure => simp [intOf]; omega
        · have hkn : k = n := by omega
          subst hkn
          have hB := hide hb
          clear hb
          go_wp2
          go_ret2
          exact ⟨ret2 (by rw [hm.out, hz2.out, List.take_of_length_le (by rw [hl.out]; exact Nat.le_refl _)]) (by rw [hm.out]), hB.out⟩
/-! ### the rate of a sort -/
def rateOf : List Rate → ByteArray → Option Int
  | [], _ => none
  | r :: l, s => if r.fSort = s then some r.fCents else rateOf l s
theorem rateOf_step {l : List Rate} {s : ByteArray} {k : Nat} {x : Rate} (h : l[k]? = some x) : rateOf (l.drop k) s = if x.fSort = s then some x.fCents else rateOf (l.drop (k + 1)) s := by
  obtain ⟨hk, rfl⟩ := List.getElem?_eq_some_iff.1 h
  rw [List.drop_eq_getElem_cons hk, rateOf]
theorem rateOf_mem {l : List Rate} {s : ByteArray} {v : Int} (h : rateOf l s = some v) : ∃ x ∈ l, x.fCents = v := by
  induction l with
  | nil => cases h
  | cons a l ih =>
    rw [rateOf] at h
    split at h
    · exact ⟨a, by simp, Option.some.inj h⟩
    · obtain ⟨x, hx, he⟩ := ih h
      exact ⟨x, by simp [hx], he⟩
theorem iCents_any (A : Option Addr) (n c : Nat) (l : List Rate) (s : ByteArray) (w : World) (hn : n ≤ 1048576) (hr : Arr Rate.cells 2 w w.heap.size A n l) :
    Calls Try.prog 29 #[.slice A n c, .string s] w fun e w' => e = .returned (.tuple #[.int .i64 ((rateOf l s).getD 0), .bool (rateOf l s).isSome]) ∧ Below w.heap.size w w' := by
  have hl := hide hr.len
  go_enter Try.func29, Try.ntmps29
  go_wp2
  go_loopw [10] (fun i wr => ∃ k : Nat, k ≤ n ∧ i = .int .i64 k ∧ Below w.heap.size w wr ∧ Hid (rateOf l s = rateOf (l.drop k) s)) (fun i _ => n - (intOf i).toNat)
  case atStart => exact ⟨0, Nat.zero_le _, rfl, Below.refl _ _, hide rfl⟩
  case round =>
    obtain ⟨k, hk, rfl, hb, hz⟩ := hrel
    by_cases hlt : k < n
    · obtain ⟨b, o, x, rfl, hbl, hx, c0, c1⟩ := hr.Rate hlt
      have d0 : wr.cell? ⟨b, o + k * 2, none⟩ = some (.string x.fSort) := (hb.cell (p := ⟨b, o + k * 2, none⟩) hbl).trans c0
      have d1 : wr.cell? ⟨b, o + k * 2 + 1, none⟩ = some (.int .i64 x.fCents) := (hb.cell (p := ⟨b, o + k * 2 + 1, none⟩) hbl).trans c1
      have hX := hide hx
      clear hx c0 c1
      have hB := hide hb
      clear hr hb
      by_cases he : x.fSort = s
      · have e1 := str_eq he
        have hv : Hid (rateOf l s = some x.fCents) := hide (by rw [hz.out, rateOf_step hX.out, if_pos he])
        clear he
        go_wp2
        go_ret2
        exact ⟨by rw [hv.out]; rfl, hB.out.alloc hB.out.size _⟩
      · have e1 := str_ne he
        have hv : Hid (rateOf l s = rateOf (l.drop (k + 1)) s) := hide (by rw [hz.out, rateOf_step hX.out, if_neg he])
        clear he
        go_wp2
        go_roundw
        case rel => exact ⟨k + 1, by omega, by go_num, hB.out.alloc hB.out.size _, hv⟩
        case measure => simp [intOf]; omega
    · have hkn : k = n := by omega
      subst hkn
      have hB := hide hb
      clear hb
      have hv : Hid (rateOf l s = none) := hide (by rw [hz.out, List.drop_of_length_le (by rw [hl.out]; exact Nat.le_refl _)]; rfl)
      go_wp2
      go_ret2
      exact ⟨by rw [hv.out]; rfl, hB.out⟩
end Go.Proofs.Ytgjcmnnhcoaliaa
