/- Contracts: what a name earns, and whether all that it made has a rate. -/
import Derived.Test.YtgjcmnnhcoaliaaWageD
namespace Go.Proofs.Ytgjcmnnhcoaliaa
open Go.ChangeShapes Go.WideShapes Go.ChangeAt Go.RowKit Go.Deep
set_option maxRecDepth 100000
theorem ret3b {k k' : IntKind} {a b a' b' : Int} {c c' : Bool} (h : a = a') (h' : b = b') (h'' : c = c') : Ending.returned (.tuple #[.int k a, .int k' b, .bool c]) = .returned (.tuple #[.int k a', .int k' b', .bool c']) := by rw [h, h', h'']
def wgF (rs : List Rate) (s : ByteArray) (x : PieceW) : Int := if x.fName = s then x.fMade * (rateOf rs x.fSort).getD 0 else 0
def wgN (s : ByteArray) (x : PieceW) : Int := if x.fName = s then 1 else 0
def wgOk (rs : List Rate) (s : ByteArray) (x : PieceW) : Bool := if x.fName = s then (rateOf rs x.fSort).isSome else true
theorem rate_bound {rs : List Rate} (h : ratesOk rs = true) (s : ByteArray) : 0 ≤ (rateOf rs s).getD 0 ∧ (rateOf rs s).getD 0 ≤ 10000 := by
  cases hq : rateOf rs s with
  | none => simp
  | some q =>
    obtain ⟨y, hy, hyq⟩ := rateOf_mem hq
    have := rates_at h hy
    simp only [Option.getD_some]
    omega
theorem mul_bound {a b : Int} (h0 : 0 ≤ a) (h1 : a ≤ 500) (h2 : 0 ≤ b) (h3 : b ≤ 10000) : 0 ≤ a * b ∧ a * b ≤ 5000000 :=
  ⟨Int.mul_nonneg h0 h2, by have := Int.mul_le_mul h1 h3 h2 (by omega : (0 : Int) ≤ 500); omega⟩
theorem wgF_bound {rs : List Rate} {l : List PieceW} (hr : ratesOk rs = true) (h : piecesOk l = true) (s : ByteArray) : ∀ x ∈ l, 0 ≤ wgF rs s x ∧ wgF rs s x ≤ 5000000 := by
  intro x hx
  have h1 := piecesOk_at h hx
  have h2 := rate_bound hr x.fSort
  have := mul_bound (a := x.fMade) (b := (rateOf rs x.fSort).getD 0) (by omega) (by omega) h2.1 h2.2
  unfold wgF
  split <;> omega
theorem wgN_bound {l : List PieceW} (s : ByteArray) : ∀ x ∈ l, 0 ≤ wgN s x ∧ wgN s x ≤ 1 := by
  intro x hx
  unfold wgN
  split <;> omega
theorem wgN_pos {l : List PieceW} {s : ByteArray} {x : PieceW} (hx : x ∈ l) (h : x.fName = s) : 0 < sumOf (wgN s) l := by
  induction l with
  | nil => cases hx
  | cons a l ih =>
    have h0 := (sumOf_bound (l := l) (f := wgN s) (M := 1) (wgN_bound s)).1
    have ha := wgN_bound (l := [a]) s a (by simp)
    have e : sumOf (wgN s) (a :: l) = wgN s a + sumOf (wgN s) l := by simp [sumOf]
    rw [e]
    rcases List.mem_cons.1 hx with rfl | hx
    · have : wgN s x = 1 := if_pos h
      omega
    · have := ih hx
      omega
def wgRes (rs : List Rate) (l : List PieceW) (s : ByteArray) : Int × Int := if sumOf (wgN s) l = 0 then (0, 3) else if l.all (wgOk rs s) then (sumOf (wgF rs s) l, 0) else (0, 9)
def wgValid (rs : List Rate) (l : List PieceW) : Bool := ratesOk rs && piecesOk l
def mWage (rs : List Rate) (l : List PieceW) (s : ByteArray) : Int × Int := if wgValid rs l then (if isName s then wgRes rs l s else (0, 2)) else (0, 1)

theorem iwage_any (A : Option Addr) (n c : Nat) (l : List Rate) (A' : Option Addr) (n' c' : Nat) (l' : List PieceW) (s : ByteArray) (w : World) (hn : n ≤ 1048576) (hn' : n' ≤ 1048576)
    (hok : ratesOk l = true) (hok' : piecesOk l' = true) (hr : Arr Rate.cells 2 w w.heap.size A n l) (hr' : Arr PieceW.cells 4 w w.heap.size A' n' l') :
    Calls Try.prog 30 #[.slice A n c, .slice A' n' c', .string s] w fun e w' => e = .returned (.tuple #[.int .i64 (sumOf (wgF l s) l'), .int .i64 (sumOf (wgN s) l'), .bool (l'.all (wgOk l s))]) ∧ Below w.heap.size w w' := by
  have hl' := hide hr'.len
  have hF := hide (wgF_bound hok hok' s)
  have hR := hide (rate_bound hok)
  have hP := hide (fun (x : PieceW) (hx : x ∈ l') => (piecesOk_at hok' hx).2.1)
  have hlen := hide (piecesOk_len hok')
  clear hok hok'
  go_enter Try.func30, Try.ntmps30
  go_wp2
  go_loopw [9, 10, 11, 18] (fun t m ok i wr => ∃ (k : Nat) (y z : Int) (b : Bool), k ≤ n' ∧ i = .int .i64 k ∧ t = .int .i64 y ∧ m = .int .i64 z ∧ ok = .bool b ∧ Below w.heap.size w wr ∧ Hid (y = sumOf (wgF l s) (l'.take k)) ∧ Hid (z = sumOf (wgN s) (l'.take k)) ∧ Hid (b = (l'.take k).all (wgOk l s))) (fun _ _ _ i _ => n' - (intOf i).toNat)
  case atStart => exact ⟨0, 0, 0, true, Nat.zero_le _, rfl, rfl, rfl, rfl, Below.refl _ _, hide rfl, hide rfl, hide rfl⟩
  case round =>
    obtain ⟨k, y, z, b9, hk, rfl, rfl, rfl, rfl, hb, hy, hz, hb9⟩ := hrel
    by_cases hlt : k < n'
    · obtain ⟨b, o, x, rfl, hbl, hx, c0, c1, c2, c3⟩ := hr'.PieceW hlt
      have d0 : wr.cell? ⟨b, o + k * 4, none⟩ = some (.string x.fName) := (hb.cell (p := ⟨b, o + k * 4, none⟩) hbl).trans c0
      have d1 : wr.cell? ⟨b, o + k * 4 + 1, none⟩ = some (.string x.fSort) := (hb.cell (p := ⟨b, o + k * 4 + 1, none⟩) hbl).trans c1
      have d2 : wr.cell? ⟨b, o + k * 4 + 2, none⟩ = some (.int .i64 x.fDay) := (hb.cell (p := ⟨b, o + k * 4 + 2, none⟩) hbl).trans c2
      have d3 : wr.cell? ⟨b, o + k * 4 + 3, none⟩ = some (.int .i64 x.fMade) := (hb.cell (p := ⟨b, o + k * 4 + 3, none⟩) hbl).trans c3
      have hX := hide hx
      clear hx c0 c1 c2 c3
      have hB := hide hb
      clear hr' hb
      have hyb : 0 ≤ y ∧ y ≤ 150000000 := by rw [hy.out]; exact sumOf_take_bound (M := 5000000) (N := 30) hF.out hlen.out (by omega) k
      have hzb : 0 ≤ z ∧ z ≤ 30 := by rw [hz.out]; exact sumOf_take_bound (M := 1) (N := 30) (wgN_bound s) hlen.out (by omega) k
      by_cases he : x.fName = s
      · have e1 := str_eq he
        have hx1 := hP.out x (List.mem_of_getElem? hX.out)
        have hrb := hR.out x.fSort
        have hmb := mul_bound (a := x.fMade) (b := (rateOf l x.fSort).getD 0) (by omega) (by omega) hrb.1 hrb.2
        have h1 : Hid (wgF l s x = x.fMade * (rateOf l x.fSort).getD 0) := hide (if_pos he)
        have h2 : Hid (wgN s x = 1) := hide (if_pos he)
        have h3 : Hid (wgOk l s x = (rateOf l x.fSort).isSome) := hide (if_pos he)
        obtain ⟨v, hv⟩ : ∃ v, v = (rateOf l x.fSort).getD 0 := ⟨_, rfl⟩
        have hV := hide hv
        rw [← hv] at hmb hrb
        obtain ⟨u, hu⟩ : ∃ u, u = (rateOf l x.fSort).isSome := ⟨_, rfl⟩
        have hU := hide hu
        have w1 : IntKind.i64.wrap (x.fMade * v) = x.fMade * v := IntWalk.i64_in _ (by omega)
        have w2 : IntKind.i64.wrap (y + x.fMade * v) = y + x.fMade * v := IntWalk.i64_in _ (by omega)
        obtain ⟨pr, hpr⟩ : ∃ pr, pr = x.fMade * v := ⟨_, rfl⟩
        have hPR := hide hpr
        clear he hv hu
        cases b9
        · go_wp2_with fail
          refine (iCents_any A n c l x.fSort _ hn ((hr.below (hB.out.alloc hB.out.size _)).more (hB.out.alloc hB.out.size _).size)).mono ?_
          rintro e w1 ⟨rfl, hb⟩
          have hB3 := hide (Below.up (hB.out.alloc hB.out.size _) hb)
          have k3 : w1.cell? ⟨wr.heap.size, 3, none⟩ = some (.int .i64 x.fMade) := by rw [hb.cell (p := ⟨wr.heap.size, 3, none⟩) (by simp), cell_of_row _ _ _ _ _ _ (heap_alloc_new wr _)]; rfl
          clear hb
          rw [← hV.out, ← hU.out]
          go_wp2
          go_roundw
          case rel => exact ⟨k + 1, y + x.fMade * v, z + 1, false, by omega, by go_num, rfl, rfl, rfl, hB3.out, hide (by rw [sumOf_snoc hX.out, ← hy.out, h1.out, hV.out]), hide (by rw [sumOf_snoc hX.out, ← hz.out, h2.out]), hide (by rw [take_snoc hX.out, List.all_append, ← hb9.out]; rfl)⟩
          case measure => simp [intOf]; omega
        · go_wp2_with fail
          refine (iCents_any A n c l x.fSort _ hn ((hr.below (hB.out.alloc hB.out.size _)).more (hB.out.alloc hB.out.size _).size)).mono ?_
          rintro e w1 ⟨rfl, hb⟩
          have hB3 := hide (Below.up (hB.out.alloc hB.out.size _) hb)
          have k3 : w1.cell? ⟨wr.heap.size, 3, none⟩ = some (.int .i64 x.fMade) := by rw [hb.cell (p := ⟨wr.heap.size, 3, none⟩) (by simp), cell_of_row _ _ _ _ _ _ (heap_alloc_new wr _)]; rfl
          clear hb
          rw [← hV.out, ← hU.out]
          go_wp2
          go_roundw
          case rel => exact ⟨k + 1, y + x.fMade * v, z + 1, u, by omega, by go_num, rfl, rfl, rfl, hB3.out, hide (by rw [sumOf_snoc hX.out, ← hy.out, h1.out, hV.out]), hide (by rw [sumOf_snoc hX.out, ← hz.out, h2.out]), hide (by rw [take_snoc hX.out, List.all_append, ← hb9.out, hU.out, ← h3.out]; simp)⟩
          case measure => simp [intOf]; omega
      · have e1 := str_ne he
        have h1 : Hid (wgF l s x = 0) := hide (if_neg he)
        have h2 : Hid (wgN s x = 0) := hide (if_neg he)
        have h3 : Hid (wgOk l s x = true) := hide (if_neg he)
        clear he
        go_wp2
        go_roundw
        case rel => exact ⟨k + 1, y, z, b9, by omega, by go_num, rfl, rfl, rfl, hB.out.alloc hB.out.size _, hide (by rw [sumOf_snoc hX.out, ← hy.out, h1.out, Int.add_zero]), hide (by rw [sumOf_snoc hX.out, ← hz.out, h2.out, Int.add_zero]), hide (by rw [take_snoc hX.out, List.all_append, ← hb9.out]; simp [h3.out])⟩
        case measure => simp [intOf]; omega
    · have hkn : k = n' := by omega
      subst hkn
      have hB := hide hb
      clear hb
      have htk : Hid (l'.take k = l') := hide (List.take_of_length_le (by rw [hl'.out]; exact Nat.le_refl _))
      go_wp2
      go_ret3
      exact ⟨ret3b (by rw [hy.out, htk.out]) (by rw [hz.out, htk.out]) (by rw [hb9.out, htk.out]), hB.out⟩
theorem iWage_any (A : Option Addr) (n c : Nat) (l : List Rate) (A' : Option Addr) (n' c' : Nat) (l' : List PieceW) (s : ByteArray) (w : World) (hn : n ≤ 1048576) (hn' : n' ≤ 1048576) (hf : ∀ x ∈ l, x.fits) (hf' : ∀ x ∈ l', x.fits) (hz : s.size ≤ maxLen)
    (hr : Arr Rate.cells 2 w w.heap.size A n l) (hr' : Arr PieceW.cells 4 w w.heap.size A' n' l') :
    Calls Try.prog 18 #[.slice A n c, .slice A' n' c', .string s] w fun e w' => e = .returned (.tuple #[.int .i64 (mWage l l' s).1, .int .i64 (mWage l l' s).2]) ∧ Below w.heap.size w w' := by
  cases hok : ratesOk l
  · have hm : Hid (mWage l l' s = (0, 1)) := hide (by simp [mWage, wgValid, hok])
    go_enter Try.func18, Try.ntmps18
    go_wp2_with (go_at_call 28; refine (iRates_any A n c l _ hn hf hr).mono ?_; rintro e whB ⟨rfl, hb⟩; have hB := hide (hb); clear hb)
    go_ret2; exact ⟨by rw [hm.out]; rfl, hB.out⟩
  · cases hok2 : piecesOk l'
    · have hm : Hid (mWage l l' s = (0, 1)) := hide (by simp [mWage, wgValid, hok2])
      go_enter Try.func18, Try.ntmps18
      go_wp2_with (first | (go_at_call 28; refine (iRates_any A n c l _ hn hf hr).mono ?_; rintro e whB ⟨rfl, hb⟩; have hB := hide (hb); clear hb) | (go_at_call 22; refine (iPieces_any A' n' c' l' _ hn' hf' (hr'.go hB.out)).mono ?_; rintro e whB2 ⟨rfl, hb⟩; have hB2 := hide (Below.up hB.out hb); clear hb))
      go_ret2; exact ⟨by rw [hm.out]; rfl, hB2.out⟩
    · cases hs : isName s
      · have hm : Hid (mWage l l' s = (0, 2)) := hide (by simp [mWage, wgValid, hok, hok2, hs])
        go_enter Try.func18, Try.ntmps18
        go_wp2_with (first | (go_at_call 28; refine (iRates_any A n c l _ hn hf hr).mono ?_; rintro e whB ⟨rfl, hb⟩; have hB := hide (hb); clear hb) | (go_at_call 22; refine (iPieces_any A' n' c' l' _ hn' hf' (hr'.go hB.out)).mono ?_; rintro e whB2 ⟨rfl, hb⟩; have hB2 := hide (Below.up hB.out hb); clear hb) | (go_at_call 24; refine (iName_any _ _ hz).mono ?_; rintro e w' ⟨rfl, rfl⟩))
        go_ret2; exact ⟨by rw [hm.out]; rfl, hB2.out⟩
      · have hm : Hid (mWage l l' s = wgRes l l' s) := hide (by simp [mWage, wgValid, hok, hok2, hs])
        have hO1 := hide hok
        have hO2 := hide hok2
        by_cases hz0 : sumOf (wgN s) l' = 0
        · have hres : Hid (wgRes l l' s = (0, 3)) := hide (by unfold wgRes; rw [if_pos hz0])
          have q0 : (sumOf (wgN s) l' == 0) = true := by simp [hz0]
          have hZ := hide hz0
          clear hz0
          go_enter Try.func18, Try.ntmps18
          go_wp2_with (first | (go_at_call 28; refine (iRates_any A n c l _ hn hf hr).mono ?_; rintro e whB ⟨rfl, hb⟩; have hB := hide (hb); clear hb) | (go_at_call 22; refine (iPieces_any A' n' c' l' _ hn' hf' (hr'.go hB.out)).mono ?_; rintro e whB2 ⟨rfl, hb⟩; have hB2 := hide (Below.up hB.out hb); clear hb) | (go_at_call 24; refine (iName_any _ _ hz).mono ?_; rintro e w' ⟨rfl, rfl⟩) | (go_at_call 30; refine (iwage_any A n c l A' n' c' l' s _ hn hn' hO1.out hO2.out (hr.go hB2.out) (hr'.go hB2.out)).mono ?_; rintro e whB3 ⟨rfl, hb⟩; have hB3 := hide (Below.up hB2.out hb); clear hb))
          go_ret2; exact ⟨ret2 (by rw [hm.out, hres.out]) (by rw [hm.out, hres.out]), hB3.out⟩
        · have q0 : (sumOf (wgN s) l' == 0) = false := by simp [hz0]
          cases hall : l'.all (wgOk l s)
          · have hres : Hid (wgRes l l' s = (0, 9)) := hide (by unfold wgRes; rw [if_neg hz0, hall]; rfl)
            go_enter Try.func18, Try.ntmps18
            go_wp2_with (first | (go_at_call 28; refine (iRates_any A n c l _ hn hf hr).mono ?_; rintro e whB ⟨rfl, hb⟩; have hB := hide (hb); clear hb) | (go_at_call 22; refine (iPieces_any A' n' c' l' _ hn' hf' (hr'.go hB.out)).mono ?_; rintro e whB2 ⟨rfl, hb⟩; have hB2 := hide (Below.up hB.out hb); clear hb) | (go_at_call 24; refine (iName_any _ _ hz).mono ?_; rintro e w' ⟨rfl, rfl⟩) | (go_at_call 30; refine (iwage_any A n c l A' n' c' l' s _ hn hn' hO1.out hO2.out (hr.go hB2.out) (hr'.go hB2.out)).mono ?_; rintro e whB3 ⟨rfl, hb⟩; have hB3 := hide (Below.up hB2.out hb); clear hb))
            go_ret2; exact ⟨ret2 (by rw [hm.out, hres.out]) (by rw [hm.out, hres.out]), hB3.out⟩
          · have hres : Hid (wgRes l l' s = (sumOf (wgF l s) l', 0)) := hide (by unfold wgRes; rw [if_neg hz0, hall]; rfl)
            go_enter Try.func18, Try.ntmps18
            go_wp2_with (first | (go_at_call 28; refine (iRates_any A n c l _ hn hf hr).mono ?_; rintro e whB ⟨rfl, hb⟩; have hB := hide (hb); clear hb) | (go_at_call 22; refine (iPieces_any A' n' c' l' _ hn' hf' (hr'.go hB.out)).mono ?_; rintro e whB2 ⟨rfl, hb⟩; have hB2 := hide (Below.up hB.out hb); clear hb) | (go_at_call 24; refine (iName_any _ _ hz).mono ?_; rintro e w' ⟨rfl, rfl⟩) | (go_at_call 30; refine (iwage_any A n c l A' n' c' l' s _ hn hn' hO1.out hO2.out (hr.go hB2.out) (hr'.go hB2.out)).mono ?_; rintro e whB3 ⟨rfl, hb⟩; have hB3 := hide (Below.up hB2.out hb); clear hb))
            go_ret2; exact ⟨ret2 (by rw [hm.out, hres.out]) (by rw [hm.out, hres.out]), hB3.out⟩
end Go.Proofs.Ytgjcmnnhcoaliaa
