/- Contracts: the best maker. -/
import Derived.Test.YtgjcmnnhcoaliaaWageC
import Derived.Test.YtgjcmnnhcoaliaaWageH
namespace Go.Proofs.Ytgjcmnnhcoaliaa
open Go.ChangeShapes Go.WideShapes Go.ChangeAt Go.RowKit Go.Deep
set_option maxRecDepth 100000
def byF (s : ByteArray) (x : PieceW) : Int := if x.fName = s then x.fMade else 0
theorem byF_bound {l : List PieceW} (h : piecesOk l = true) (s : ByteArray) : ∀ x ∈ l, 0 ≤ byF s x ∧ byF s x ≤ 500 := by
  intro x hx
  have := piecesOk_at h hx
  unfold byF
  split <;> omega
theorem byF_pos {l : List PieceW} (h : piecesOk l = true) {x : PieceW} (hx : x ∈ l) : 0 < sumOf (byF x.fName) l := by
  have hb := byF_bound h x.fName
  have h1 := (piecesOk_at h hx).2.1.1
  have key : ∀ l' : List PieceW, (∀ y ∈ l', 0 ≤ byF x.fName y ∧ byF x.fName y ≤ 500) → x ∈ l' → 0 < sumOf (byF x.fName) l' := by
    intro l'
    induction l' with
    | nil => intro _ hx; cases hx
    | cons a l' ih =>
      intro hb hx
      have e : sumOf (byF x.fName) (a :: l') = byF x.fName a + sumOf (byF x.fName) l' := by simp [sumOf]
      have h0 := (sumOf_bound (l := l') (f := byF x.fName) (M := 500) (fun y hy => hb y (by simp [hy]))).1
      have ha := hb a (by simp)
      rw [e]
      rcases List.mem_cons.1 hx with rfl | hx
      · have : byF x.fName x = x.fMade := if_pos rfl
        omega
      · have := ih (fun y hy => hb y (by simp [hy])) hx
        omega
  exact key l hb hx
def bmTo (l : List PieceW) (N : List ByteArray) : Nat → ByteArray × Int
  | 0 => (ByteArray.empty, 0)
  | k + 1 => match N[k]? with
    | some y => if (bmTo l N k).2 < sumOf (byF y) l then (y, sumOf (byF y) l) else bmTo l N k
    | none => bmTo l N k
theorem bmTo_yes {l : List PieceW} {N : List ByteArray} {k : Nat} {y : ByteArray} (h : N[k]? = some y) (hlt : (bmTo l N k).2 < sumOf (byF y) l) : bmTo l N (k + 1) = (y, sumOf (byF y) l) := by rw [bmTo, h]; exact if_pos hlt
theorem bmTo_no {l : List PieceW} {N : List ByteArray} {k : Nat} {y : ByteArray} (h : N[k]? = some y) (hlt : ¬ (bmTo l N k).2 < sumOf (byF y) l) : bmTo l N (k + 1) = bmTo l N k := by rw [bmTo, h]; exact if_neg hlt
theorem bmTo_bound {l : List PieceW} (hok : piecesOk l = true) (N : List ByteArray) (k : Nat) : 0 ≤ (bmTo l N k).2 ∧ (bmTo l N k).2 ≤ 15000 := by
  induction k with
  | zero => simp [bmTo]
  | succ k ih =>
    unfold bmTo
    split
    · rename_i y _
      split
      · have := sumOf_take_bound (M := 500) (N := 30) (byF_bound hok y) (piecesOk_len hok) (by omega) l.length
        rw [List.take_length] at this
        exact this
      · exact ih
    · exact ih
theorem bmTo_ge {l : List PieceW} {N : List ByteArray} (k : Nat) : ∀ i y, i < k → N[i]? = some y → sumOf (byF y) l ≤ (bmTo l N k).2 := by
  induction k with
  | zero => intro i y h; omega
  | succ k ih =>
    intro i y hi hy
    rcases Nat.lt_or_ge i k with hlt | hge
    · have h1 := ih i y hlt hy
      cases hN : N[k]? with
      | none => rw [bmTo, hN]; exact h1
      | some z =>
        by_cases hz : (bmTo l N k).2 < sumOf (byF z) l
        · rw [bmTo_yes hN hz]; show _ ≤ sumOf (byF z) l; omega
        · rw [bmTo_no hN hz]; exact h1
    · have : i = k := by omega
      subst this
      by_cases hz : (bmTo l N i).2 < sumOf (byF y) l
      · rw [bmTo_yes hy hz]; exact Int.le_refl _
      · rw [bmTo_no hy hz]; omega
theorem bm_zero {l : List PieceW} (hok : piecesOk l = true) : (bmTo l (mNames l) (mNames l).length).2 = 0 ↔ l = [] := by
  constructor
  · intro h0
    cases hl : l with
    | nil => rfl
    | cons x l' =>
      exfalso
      have hx : x ∈ l := by rw [hl]; simp
      have hp := byF_pos hok hx
      have hm : x.fName ∈ mNames l := by unfold mNames; rw [mem_names]; exact List.mem_map.2 ⟨x, hx, rfl⟩
      obtain ⟨i, hi⟩ := List.mem_iff_getElem?.1 hm
      have := bmTo_ge (l := l) (mNames l).length i _ (lt_of_get hi) hi
      omega
  · rintro rfl
    have := mNames_len []
    have h0 : (mNames []).length = 0 := by simpa using this
    rw [h0]; rfl
def mBest (l : List PieceW) : ByteArray × Int := if piecesOk l then bmTo l (mNames l) (mNames l).length else (ByteArray.empty, 0)
def mBestC (l : List PieceW) : Int := if piecesOk l then (if l = [] then 3 else 0) else 1
theorem mBest_nil : (bmTo [] (mNames []) (mNames []).length) = (ByteArray.empty, 0) := by
  have := mNames_len []
  have h0 : (mNames []).length = 0 := by simpa using this
  rw [h0]; rfl
theorem retS {s s' : ByteArray} {k k' : IntKind} {a b a' b' : Int} (h0 : s = s') (h : a = a') (h' : b = b') : Ending.returned (.tuple #[.string s, .int k a, .int k' b]) = .returned (.tuple #[.string s', .int k a', .int k' b']) := by rw [h0, h, h']
set_option maxHeartbeats 1000000 in
theorem iBest_any (A : Option Addr) (n c : Nat) (l : List PieceW) (w : World) (hn : n ≤ 1048576) (hf : ∀ x ∈ l, x.fits) (hr : Arr PieceW.cells 4 w w.heap.size A n l) :
    Calls Try.prog 7 #[.slice A n c] w fun e w' => e = .returned (.tuple #[.string (mBest l).1, .int .i64 (mBest l).2, .int .i64 (mBestC l)]) ∧ Below w.heap.size w w' := by
  have hl := hide hr.len
  cases hok : piecesOk l
  · have hm : Hid (mBest l = (ByteArray.empty, 0) ∧ mBestC l = 1) := hide (by simp [mBest, mBestC, hok])
    go_enter Try.func7, Try.ntmps7
    go_wp2_with (go_at_call 22; refine (iPieces_any A n c l _ hn hf hr).mono ?_; rintro e whB0 ⟨rfl, hb⟩; have hB0 := hide (hb); clear hb)
    go_ret3; exact ⟨retS (by rw [hm.out.1]; rfl) (by rw [hm.out.1]) hm.out.2.symm, hB0.out⟩
  · have hokh := hide hok
    have hbnd := hide (bmTo_bound hok)
    have hbyF := hide (byF_bound hok)
    have hlen := hide (piecesOk_len hok)
    have hz0 := hide (bm_zero hok)
    by_cases hnil : n = 0
    · subst hnil
      obtain rfl : l = [] := List.eq_nil_of_length_eq_zero hr.1
      have hm : Hid (mBest [] = (ByteArray.empty, 0) ∧ mBestC [] = 3) := hide ⟨by unfold mBest; rw [hokh.out]; exact mBest_nil, by unfold mBestC; rw [hokh.out]; rfl⟩
      clear hbnd hbyF hz0
      go_enter Try.func7, Try.ntmps7
      go_wp2_with (go_at_call 22; refine (iPieces_any A 0 c [] _ hn hf hr).mono ?_; rintro e whB0 ⟨rfl, hb⟩; have hB0 := hide (hb); clear hb)
      go_ret3; exact ⟨retS (by rw [hm.out.1]; rfl) (by rw [hm.out.1]) hm.out.2.symm, hB0.out⟩
    · have hne : ¬ l = [] := by intro h; apply hnil; rw [← hr.1, h]; rfl
      have hc0 : Hid (mBestC l = 0) := hide (by unfold mBestC; rw [if_pos hok, if_neg hne])
      have q0 : ((n : Int) == 0) = false := by simp [hnil]
      have q1 : (n == 0) = false := by simp [hnil]
      clear hne hok
      have hok := hokh.out
      go_enter Try.func7, Try.ntmps7
      go_wp2_with (go_at_call 22; refine (iPieces_any A n c l _ hn hf hr).mono ?_; rintro e whB0 ⟨rfl, hb⟩; have hB0 := hide (hb); clear hb)
      clear hok
      refine (iNames_any A n c l _ hn (hr.go hB0.out)).mono ?_
      rintro e w1 ⟨v1, rfl, ho1, hb1⟩
      have hB3 := hide (Below.up hB0.out hb1)
      obtain ⟨N, hN⟩ : ∃ N, Hid (N = mNames l) := ⟨_, hide rfl⟩
      obtain ⟨m, hm⟩ : ∃ m, Hid (N.length = m) := ⟨_, hide rfl⟩
      rw [← hN.out, hm.out] at ho1
      have hml : m ≤ n := by rw [← hm.out, hN.out, ← hr.len]; exact mNames_len l
      obtain ⟨A1, c1, rfl, _⟩ := ho1.slice
      have hAr := hide (ho1.arr strc_len)
      clear ho1 hb1 hf
      go_wp2
      go_loopw [5, 6, 21] (fun s q i wr => ∃ (k : Nat) (z : Int) (t : ByteArray), k ≤ m ∧ i = .int .i64 k ∧ s = .string t ∧ q = .int .i64 z ∧ Below w1.heap.size w1 wr ∧ Hid (bmTo l N k = (t, z))) (fun _ _ i _ => m - (intOf i).toNat)
      case atStart => exact ⟨0, 0, ByteArray.empty, Nat.zero_le _, rfl, rfl, rfl, Below.refl _ _, hide rfl⟩
      case round =>
        obtain ⟨k, z, t, hk, rfl, rfl, rfl, hb, hbm⟩ := hrel
        have hzb : 0 ≤ z ∧ z ≤ 15000 := by have := hbnd.out N k; rw [hbm.out] at this; exact this
        have hB := hide hb
        by_cases hlt : k < m
        · obtain ⟨b9, o9, y, rfl, hbl9, hy, hcy⟩ := hAr.out.str (k := k) hlt
          have f0 : wr.cell? ⟨b9, o9 + k, none⟩ = some (.string y) := (hb.cell (p := ⟨b9, o9 + k, none⟩) hbl9).trans hcy
          have hY := hide hy
          have i0 : (0 : Int) ≤ (k : Int) := by omega
          have i1 : (k : Int) < (m : Int) := by omega
          clear hcy hy hb
          obtain ⟨wo, rfl⟩ : ∃ wo : World, wo = wr := ⟨_, rfl⟩
          go_wp2
          go_loopw [9, 27] (fun q i wr => ∃ (j : Nat) (u : Int), j ≤ n ∧ i = .int .i64 j ∧ q = .int .i64 u ∧ Below wo.heap.size wo wr ∧ Hid (u = sumOf (byF y) (l.take j))) (fun _ i _ => n - (intOf i).toNat)
          case atStart => exact ⟨0, 0, Nat.zero_le _, rfl, rfl, Below.refl _ _, hide rfl⟩
          case round =>
            obtain ⟨j, u, hj, rfl, rfl, hb7, hu⟩ := hrel
            by_cases hlt7 : j < n
            · have hbb : Below w.heap.size w wr := Below.up (Below.up hB3.out hB.out) hb7
              obtain ⟨b, o, x, rfl, hbl, hx, c0, c1', c2, c3⟩ := hr.PieceW (k := j) hlt7
              have d0 : wr.cell? ⟨b, o + j * 4, none⟩ = some (.string x.fName) := (hbb.cell (p := ⟨b, o + j * 4, none⟩) hbl).trans c0
              have d1 : wr.cell? ⟨b, o + j * 4 + 1, none⟩ = some (.string x.fSort) := (hbb.cell (p := ⟨b, o + j * 4 + 1, none⟩) hbl).trans c1'
              have d2 : wr.cell? ⟨b, o + j * 4 + 2, none⟩ = some (.int .i64 x.fDay) := (hbb.cell (p := ⟨b, o + j * 4 + 2, none⟩) hbl).trans c2
              have d3 : wr.cell? ⟨b, o + j * 4 + 3, none⟩ = some (.int .i64 x.fMade) := (hbb.cell (p := ⟨b, o + j * 4 + 3, none⟩) hbl).trans c3
              have hX := hide hx
              have hB7 := hide hb7
              clear c0 c1' c2 c3 hx hb7 hbb hr
              have hub : 0 ≤ u ∧ u ≤ 15000 := by rw [hu.out]; exact sumOf_take_bound (M := 500) (N := 30) (hbyF.out y) hlen.out (by omega) j
              have hxb := hbyF.out y x (List.mem_of_getElem? hX.out)
              have j0 : (0 : Int) ≤ (j : Int) := by omega
              have j1 : (j : Int) < (n : Int) := by omega
              by_cases he : x.fName = y
              · have e1 := str_eq he
                have hmf : Hid (byF y x = x.fMade) := hide (if_pos he)
                have hxb2 : 0 ≤ x.fMade ∧ x.fMade ≤ 500 := by rw [← hmf.out]; exact hxb
                clear he hxb
                go_wp2
                go_roundw
                case rel => exact ⟨j + 1, u + x.fMade, by omega, by go_num, rfl, hB7.out.alloc hB7.out.size _, hide (by rw [sumOf_snoc hX.out, ← hu.out, hmf.out])⟩
                case measure => simp [intOf]; omega
              · have e1 := str_ne he
                have hmf : Hid (byF y x = 0) := hide (if_neg he)
                clear he hxb
                go_wp2
                go_roundw
                case rel => exact ⟨j + 1, u, by omega, by go_num, rfl, hB7.out.alloc hB7.out.size _, hide (by rw [sumOf_snoc hX.out, ← hu.out, hmf.out]; omega)⟩
                case measure => simp [intOf]; omega
            · have hjn : j = n := by omega
              subst hjn
              have hB7 := hide hb7
              clear hb7
              have hs : Hid (u = sumOf (byF y) l) := hide (by rw [hu.out, List.take_of_length_le (by rw [hl.out]; exact Nat.le_refl _)])
              have hub : 0 ≤ u ∧ u ≤ 15000 := by rw [hu.out]; exact sumOf_take_bound (M := 500) (N := 30) (hbyF.out y) hlen.out (by omega) j
              by_cases hgt : z < u
              · have hst := hide (show bmTo l N (k + 1) = (y, u) by rw [bmTo_yes hY.out (by rw [hbm.out, ← hs.out]; exact hgt), ← hs.out])
                go_wp2
                go_roundw
                case rel => exact ⟨k + 1, u, y, by omega, by go_num, rfl, rfl, Below.up hB.out hB7.out, hst⟩
                case measure => simp [intOf]; omega
              · have hst := hide (show bmTo l N (k + 1) = (t, z) by rw [bmTo_no hY.out (by rw [hbm.out, ← hs.out]; exact hgt), hbm.out])
                go_wp2
                go_roundw
                case rel => exact ⟨k + 1, z, t, by omega, by go_num, rfl, rfl, Below.up hB.out hB7.out, hst⟩
                case measure => simp [intOf]; omega
        · have hkn : k = m := by omega
          subst hkn
          clear hb
          have hres : Hid (bmTo l (mNames l) (mNames l).length = (t, z)) := hide (by rw [← hN.out, hm.out, hbm.out])
          have hres2 : Hid (mBest l = (t, z)) := hide (by unfold mBest; rw [if_pos hokh.out, hres.out])
          go_wp2
          go_ret3
          exact ⟨retS (by rw [hres2.out]) (by rw [hres2.out]) hc0.out.symm, Below.up hB3.out hB.out⟩
end Go.Proofs.Ytgjcmnnhcoaliaa
