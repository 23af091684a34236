/- Contracts: a number as a text, the program's and the reference's. -/
import Derived.Test.YtceajnoppdfeaaaGreatDoorDig
import Derived.Test.YtceajnoppdfeaaaGreatDoorDoor
import Derived.Test.YtceajnoppdfeaaaGreatDoorApp
import Derived.Test.YtceajnoppdfeaaaGreatDoorShelf
import Derived.Lib.AppendIntMem
import Derived.Laws.BytesString
namespace Go.Proofs.YtceajnoppdfeaaaGreatDoor
open Go.ChangeShapes Go.WideShapes Go.ChangeAt Go.RowKit Go.Deep
set_option maxRecDepth 100000
theorem iDec_any (n : Int) (w : World) (h0 : -9223372036854775808 ≤ n) (h1 : n ≤ 9223372036854775807) (hG : Gl w) :
    Calls Tryz.prog 25 #[.int .i64 n] w fun e w' => e = .returned (.string (decB n)) ∧ Below w.heap.size w w' := by
  have hT := hide hG.1
  clear hG
  go_enter Tryz.func25, Tryz.ntmps25
  go_wp2_with (go_at_call 42; refine (Tryz.strconv_FormatInt_10 n h0 h1 _ hT.out).mono ?_; rintro e w' ⟨rfl, k, os, rfl⟩)
  go_ret
  exact ⟨rfl, Lib.below_grow _ _ (Nat.le_refl _) _ _⟩
theorem info_u8 : (Tryz.prog.info? 5).map (fun i => (i.zero, i.size, i.bytes)) = some (some (.int .u8 0), 1, 1) := by kernel_rfl
theorem u8c_len (x : Int) : (u8c x).length = 1 := rfl
theorem u8c_one : ∀ x, ∀ u ∈ u8c x, u.oneCell' = true := by intro x u hu; simp [u8c] at hu; subst hu; rfl
def bI (l : List UInt8) : List Int := l.map fun c => (c.toNat : Int)
theorem Own.lit {α : Type} {cells : α → List Value} {e s : Nat} (w : World) {base : Nat} (hb : base ≤ w.heap.size) (x : α) (cur : Array Value) (hc : cur.toList = cells x) (hs : (cells x).length = s) :
    Own cells e s (w.alloc (.cells cur e)) base (.slice (some ⟨w.heap.size, 0, none⟩) 1 1) 1 [x] := by
  have hl : cur.size = 1 * s := by rw [← Array.length_toList, hc, hs, Nat.one_mul]
  refine ⟨rfl, by simp [hs], .inr ⟨w.heap.size, 1, cur, rfl, hb, heap_alloc_new w _, Nat.le_refl _, by unfold maxLen; omega, hl, ?_⟩⟩
  rw [hc, List.take_of_length_le (by simp [hs])]; simp
theorem dec_append (a b : List UInt8) : (⟨a.toArray⟩ : ByteArray) ++ ⟨b.toArray⟩ = ⟨(a ++ b).toArray⟩ := by
  apply toList_inj
  rw [ByteArray.toList_eq, ByteArray.toList_eq]
  simp
def DecInv (w : World) (n : Int) (sg : Int) (v k : Value) (wr : World) : Prop :=
  ∃ (x f : Nat) (l : List UInt8), k = .int .i64 (sg * x) ∧ Own u8c 5 1 wr w.heap.size v l.length (bI l) ∧ x < 10 ^ f ∧ l.length + f ≤ 20 ∧ x ≤ 9223372036854775808 ∧ Hid (dgs f x l = dgs 20 n.natAbs []) ∧ Below w.heap.size w wr
theorem dig_byte (x : Nat) : IntKind.u8.wrap (48 + ((x % 10 : Nat) : Int)) = ((UInt8.ofNat (48 + x % 10)).toNat : Int) := by
  rw [UInt8.toNat_ofNat']
  have : x % 10 < 10 := Nat.mod_lt _ (by omega)
  generalize x % 10 = d at *
  simp [IntKind.wrap_u8]
theorem bI_get (l : List UInt8) (j : Nat) (hj : j < l.length) : (bI l)[j]? = some ((l[j].toNat : Nat) : Int) := by unfold bI; rw [List.getElem?_map, List.getElem?_eq_getElem hj]; rfl
theorem conv_own {w : World} {base n c : Nat} {A : Option Addr} {l : List UInt8} (h : Own u8c 5 1 w base (.slice A n c) n (bI l)) :
    Sem.run Tryz.prog (convert 95 9 (.slice A n c)) w = .ok (.string ⟨l.toArray⟩) w := by
  have hn : l.length = n := by have := h.len; simpa [bI] using this
  subst hn
  rcases h.form with ⟨hv, h0, _⟩ | ⟨g, cap, hv, _, _, _, _⟩
  · injection hv with h1 h2 h3
    subst h1
    have hl : l = [] := List.eq_nil_of_length_eq_zero h0
    subst hl
    exact run_convert_bytes_nil w _ _ Tryz.underlying95 Tryz.underlying5 _ _ _ Tryz.underlying9
  · injection hv with h1 h2 h3
    subst h1
    refine run_convert_bytes_back w _ _ 5 ⟨g, 0, none⟩ c l Tryz.underlying95 Tryz.underlying5 Tryz.underlying9 (fun j hj => ?_)
    obtain ⟨b, o, x, hA, _, hx, hc⟩ := (h.arr u8c_len).u8 (k := j) hj
    injection hA with hA
    injection hA with h4 h5
    subst h4 h5
    rw [Addr.add_lit, hc]
    rw [bI_get l j hj] at hx
    injection hx with hx
    rw [hx]
theorem dec_end {n : Int} {f : Nat} {l : List UInt8} (h : dgs f 0 l = dgs 20 n.natAbs []) (hn : n.natAbs ≤ 9223372036854775808) : (l = [] ∧ n = 0) ∨ (l ≠ [] ∧ l = Lib.decDigits n.natAbs) := by
  rw [dgs_zero] at h
  rcases Nat.eq_zero_or_pos n.natAbs with h0 | h0
  · left; rw [h0, dgs_zero] at h; exact ⟨h, by omega⟩
  · right
    rw [dgs_dec 20 _ [] (by omega) h0, List.append_nil] at h
    refine ⟨?_, h⟩
    rw [h]
    obtain ⟨c, r, e, _⟩ := decDigits_cons n.natAbs
    rw [e]; simp
theorem bI_cons (c : UInt8) (l : List UInt8) : bI (c :: l) = (c.toNat : Int) :: bI l := rfl
set_option maxHeartbeats 1000000 in
theorem sDec_pos (n : Int) (w : World) (h0 : 0 ≤ n) (h1 : n ≤ 9223372036854775807) :
    Calls Tryz.prog 41 #[.int .i64 n] w fun e w' => e = .returned (.string (decB n)) ∧ Below w.heap.size w w' := by
  go_enter Tryz.func41, Tryz.ntmps41
  go_wp2
  go_loopw [3, 4] (fun v k wr => DecInv w n 1 v k wr) (fun _ k _ => (intOf k).toNat)
  case atStart => exact ⟨n.natAbs, 20, [], by rw [Int.one_mul]; congr 1; omega, Own.none_made w (Nat.le_refl _), by omega, by simp, by omega, hide rfl, (Below.refl _ _).alloc (Nat.le_refl _) _⟩
  case round =>
    obtain ⟨x, f, l, rfl, ho, hx, hl, hm, hd, hb⟩ := hrel
    rw [Int.one_mul]
    obtain ⟨A, c, rfl, _⟩ := ho.slice
    have hO := hide ho
    have hB := hide hb
    have hX := hide hx
    clear ho hb hx
    rcases Nat.eq_zero_or_pos x with hz | hz
    · subst hz
      have hcv := conv_own hO.out
      have hlt : ¬ n < 0 := by omega
      have hE := hide (dec_end hd.out (by omega))
      clear hd
      obtain ⟨m, hml⟩ : ∃ m, m = l.length := ⟨_, rfl⟩
      rw [← hml] at hcv hO ⊢
      have hM := hide hml
      clear hml
      rcases hE.out with ⟨hl0, hn0⟩ | ⟨hl0, hn0⟩
      · have hn : Hid (decB n = ⟨#[48]⟩) := hide (by
          unfold decB Lib.itoa; rw [hn0, if_neg (by omega), show (0 : Int).toNat = 0 from rfl, Lib.decDigits_one (by omega)]; rfl)
        obtain rfl : m = 0 := by rw [hM.out, hl0]; rfl
        clear hl0 hn0 hE hcv
        go_wp2
        go_ret
        exact ⟨by rw [hn.out]; rfl, hB.out⟩
      · have hn : Hid (decB n = ⟨l.toArray⟩) := hide (by
          unfold decB Lib.itoa; rw [if_neg (by omega), hn0, show n.natAbs = n.toNat by omega])
        have hle : ((m : Int) == 0) = false := by
          have : 0 < m := by rw [hM.out]; exact List.length_pos_iff.2 hl0
          simp; omega
        clear hl0 hn0 hE
        go_wp2
        go_ret
        exact ⟨by rw [hn.out]; rfl, hB.out⟩
    · have e1 : ((x : Int) != 0) = true := by simp; omega
      go_wp2_with (at_builtin; refine wpl_appN rfl (.tmp 21) (.tmp 22) rfl Tryz.underlying95 info_u8 rfl (by omega) (by omega) u8c_len u8c_one rfl (Own.lit wr hB.out.size (48 + (x : Int) % 10) _ rfl rfl) rfl ((hO.out.arr u8c_len).go ((Below.refl _ _).alloc (Nat.le_refl _) _)) (by omega) (by simp; have := hB.out.size; omega) ?_; intro v' w1 ho2 hg2 _; have hB2 := hide ((Own.lit wr hB.out.size (48 + (x : Int) % 10) _ rfl rfl : Own u8c 5 1 _ w.heap.size _ 1 _).grown (hB.out.alloc hB.out.size _) hg2); have hO2 := hide ho2; clear ho2 hg2)
      go_roundw
      case rel =>
        obtain ⟨f', rfl⟩ : ∃ f', f = f' + 1 := by
          refine ⟨f - 1, ?_⟩
          rcases Nat.eq_zero_or_pos f with h2 | h2
          · subst h2; have := hX.out; simp at this; omega
          · omega
        have hc : ((UInt8.ofNat (48 + x % 10)).toNat : Int) = 48 + (x : Int) % 10 := by rw [UInt8.toNat_ofNat']; omega
        refine ⟨x / 10, f', UInt8.ofNat (48 + x % 10) :: l, by rw [Int.one_mul]; go_num, ?_, ?_, by simp; omega, by omega, hide ?_, hB2.out⟩
        · rw [bI_cons, hc, List.length_cons, Nat.add_comm]; exact hO2.out
        · have h3 := hX.out; rw [Nat.pow_succ] at h3; omega
        · rw [← dgs_step hz]; exact hd.out
      case measure => simp [intOf]; omega
set_option maxHeartbeats 1000000 in
theorem sDec_neg (n : Int) (w : World) (h0 : n < 0) (h1 : -9223372036854775808 ≤ n) :
    Calls Tryz.prog 41 #[.int .i64 n] w fun e w' => e = .returned (.string (decB n)) ∧ Below w.heap.size w w' := by
  go_enter Tryz.func41, Tryz.ntmps41
  go_wp2
  go_loopw [3, 4] (fun v k wr => DecInv w n (-1) v k wr) (fun _ k _ => (-intOf k).toNat)
  case atStart => exact ⟨n.natAbs, 20, [], by congr 1; omega, Own.none_made w (Nat.le_refl _), by omega, by simp, by omega, hide rfl, (Below.refl _ _).alloc (Nat.le_refl _) _⟩
  case round =>
    obtain ⟨x, f, l, rfl, ho, hx, hl, hm, hd, hb⟩ := hrel
    rw [show (-1 : Int) * (x : Int) = -(x : Int) by omega]
    obtain ⟨A, c, rfl, _⟩ := ho.slice
    have hO := hide ho
    have hB := hide hb
    have hX := hide hx
    clear ho hb hx
    rcases Nat.eq_zero_or_pos x with hz | hz
    · subst hz
      have hcv := conv_own hO.out
      have hE := hide (dec_end hd.out (by omega))
      clear hd
      obtain ⟨m, hml⟩ : ∃ m, m = l.length := ⟨_, rfl⟩
      rw [← hml] at hcv hO ⊢
      have hM := hide hml
      clear hml
      rcases hE.out with ⟨hl0, hn0⟩ | ⟨hl0, hn0⟩
      · omega
      · have hn : Hid (decB n = (⟨#[45]⟩ : ByteArray) ++ ⟨l.toArray⟩) := hide (by
          unfold decB Lib.itoa; rw [if_pos h0, ← hn0]; exact (dec_append [45] l).symm)
        have hle : ((m : Int) == 0) = false := by
          have : 0 < m := by rw [hM.out]; exact List.length_pos_iff.2 hl0
          simp; omega
        clear hl0 hn0 hE
        go_wp2
        go_ret
        exact ⟨by rw [hn.out]; rfl, hB.out⟩
    · have e1 : (-(x : Int) != 0) = true := by simp; omega
      have e2 : (-(x : Int)).tmod 10 = -((x % 10 : Nat) : Int) := by rw [Int.neg_tmod]; rfl
      have e3 : (-(x : Int)).tdiv 10 = -((x / 10 : Nat) : Int) := by rw [Int.neg_tdiv]; rfl
      have hq : x % 10 < 10 := Nat.mod_lt _ (by omega)
      obtain ⟨d, hd0⟩ : ∃ d, d = x % 10 := ⟨_, rfl⟩
      have hD := hide hd0
      rw [← hd0] at e2 hq
      clear hd0
      rcases Nat.eq_zero_or_pos d with hz2 | hz2
      · subst hz2
        have e4 : (-((0 : Nat) : Int)) = 0 := rfl
        rw [e4] at e2
        clear e4
        go_wp2_with (at_builtin; refine wpl_appN rfl (.tmp 21) (.tmp 22) rfl Tryz.underlying95 info_u8 rfl (by omega) (by omega) u8c_len u8c_one rfl (Own.lit wr hB.out.size (48) _ rfl rfl) rfl ((hO.out.arr u8c_len).go ((Below.refl _ _).alloc (Nat.le_refl _) _)) (by omega) (by simp; have := hB.out.size; omega) ?_; intro v' w1 ho2 hg2 _; have hB2 := hide ((Own.lit wr hB.out.size (48) _ rfl rfl : Own u8c 5 1 _ w.heap.size _ 1 _).grown (hB.out.alloc hB.out.size _) hg2); have hO2 := hide ho2; clear ho2 hg2)
        go_roundw
        case rel =>
          obtain ⟨f', rfl⟩ : ∃ f', f = f' + 1 := by
            refine ⟨f - 1, ?_⟩
            rcases Nat.eq_zero_or_pos f with h2 | h2
            · subst h2; have := hX.out; simp at this; omega
            · omega
          have hc : ((UInt8.ofNat (48 + x % 10)).toNat : Int) = 48 := by rw [UInt8.toNat_ofNat', ← hD.out]; omega
          refine ⟨x / 10, f', UInt8.ofNat (48 + x % 10) :: l, by congr 1; omega, ?_, ?_, by simp; omega, by omega, hide ?_, hB2.out⟩
          · rw [bI_cons, hc, List.length_cons, Nat.add_comm]; exact hO2.out
          · have h3 := hX.out; rw [Nat.pow_succ] at h3; omega
          · rw [← dgs_step hz]; exact hd.out
        case measure => simp [intOf]; omega
      · have hz3 : -((d : Nat) : Int) < 0 := by omega
        go_wp2_with (at_builtin; refine wpl_appN rfl (.tmp 21) (.tmp 22) rfl Tryz.underlying95 info_u8 rfl (by omega) (by omega) u8c_len u8c_one rfl (Own.lit wr hB.out.size (48 + (d : Int)) _ rfl rfl) rfl ((hO.out.arr u8c_len).go ((Below.refl _ _).alloc (Nat.le_refl _) _)) (by omega) (by simp; have := hB.out.size; omega) ?_; intro v' w1 ho2 hg2 _; have hB2 := hide ((Own.lit wr hB.out.size (48 + (d : Int)) _ rfl rfl : Own u8c 5 1 _ w.heap.size _ 1 _).grown (hB.out.alloc hB.out.size _) hg2); have hO2 := hide ho2; clear ho2 hg2)
        go_roundw
        case rel =>
          obtain ⟨f', rfl⟩ : ∃ f', f = f' + 1 := by
            refine ⟨f - 1, ?_⟩
            rcases Nat.eq_zero_or_pos f with h2 | h2
            · subst h2; have := hX.out; simp at this; omega
            · omega
          have hc : ((UInt8.ofNat (48 + x % 10)).toNat : Int) = 48 + (d : Int) := by rw [UInt8.toNat_ofNat', ← hD.out]; omega
          refine ⟨x / 10, f', UInt8.ofNat (48 + x % 10) :: l, by congr 1; omega, ?_, ?_, by simp; omega, by omega, hide ?_, hB2.out⟩
          · rw [bI_cons, hc, List.length_cons, Nat.add_comm]; exact hO2.out
          · have h3 := hX.out; rw [Nat.pow_succ] at h3; omega
          · rw [← dgs_step hz]; exact hd.out
        case measure => simp [intOf]; omega
theorem sDec_any (n : Int) (w : World) (h0 : -9223372036854775808 ≤ n) (h1 : n ≤ 9223372036854775807) :
    Calls Tryz.prog 41 #[.int .i64 n] w fun e w' => e = .returned (.string (decB n)) ∧ Below w.heap.size w w' := by
  by_cases h : n < 0
  · exact sDec_neg n w h h0
  · exact sDec_pos n w (by omega) h1
end Go.Proofs.YtceajnoppdfeaaaGreatDoor
