/- Texts that belong together, joined: contracts and plain laws. No statement is proved here. -/
import Derived.Test.YtfpaejlipaainaaGreatDoorM01
import Derived.Test.YtfpaejlipaainaaGreatDoorM02
import Derived.Test.YtfpaejlipaainaaGreatDoorM03
import Derived.Test.YtfpaejlipaainaaGreatDoorM04
import Derived.Lib.LaidTab
import Derived.Lib.ItoaNum
import Derived.ChangeAgain
import Derived.MakeChecks
import Derived.Lib.AppendIntMem
import Derived.Laws.BytesString
import Derived.Lib.Strings
namespace Go.Proofs.YtfpaejlipaainaaGreatDoor
open Go.ChangeShapes Go.WideShapes Go.ChangeAt Go.RowKit Go.Deep
theorem decDigits_dig (u : Nat) : (Lib.decDigits u).all isDig = true := by
  induction u using Nat.strongRecOn with
  | _ u ih =>
    by_cases h : u < 10
    · rw [Lib.decDigits_one h]
      simp [isDig]; omega
    · rw [Lib.decDigits, dif_neg h, List.all_append, ih (u / 10) (by omega)]
      simp [isDig]; omega
theorem decDigits_val (u : Nat) : valOf (Lib.decDigits u) = u := by
  induction u using Nat.strongRecOn with
  | _ u ih =>
    by_cases h : u < 10
    · rw [Lib.decDigits_one h]
      simp [valOf, UInt8.toNat_ofNat']; omega
    · rw [Lib.decDigits, dif_neg h, valOf_snoc, ih (u / 10) (by omega), UInt8.toNat_ofNat']; omega
theorem decDigits_len (f : Nat) : ∀ u : Nat, u < 10 ^ (f + 1) → 1 ≤ (Lib.decDigits u).length ∧ (Lib.decDigits u).length ≤ f + 1 := by
  induction f with
  | zero =>
    intro u hu
    rw [Lib.decDigits_one (by simpa using hu)]; simp
  | succ f ih =>
    intro u hu
    by_cases h : u < 10
    · rw [Lib.decDigits_one h]; simp
    · rw [Lib.decDigits, dif_neg h, List.length_append]
      have := ih (u / 10) (by rw [Nat.pow_succ] at hu; omega)
      simp; omega
theorem isDig_ne {c : UInt8} (h : isDig c = true) : c ≠ 10 ∧ c ≠ 32 ∧ c ≠ 45 := by
  simp [isDig] at h
  refine ⟨?_, ?_, ?_⟩ <;> (intro e; subst e; revert h; decide)
theorem bare_dec (u : Nat) : bare (Lib.decDigits u) = Lib.decDigits u := by
  refine bare_other fun r h => ?_
  have := decDigits_dig u
  rw [h, List.all_cons, Bool.and_eq_true] at this
  exact (isDig_ne this.1).2.2 rfl
theorem signed_itoa (n : Int) : rdSigned (Lib.itoa n) = n ∧ ∃ u : Nat, bare (Lib.itoa n) = Lib.decDigits u ∧ (u : Int) = n.natAbs := by
  unfold Lib.itoa
  by_cases h : n < 0
  · rw [if_pos h]
    refine ⟨?_, n.natAbs, bare_minus _, rfl⟩
    unfold rdSigned
    rw [bare_minus, if_pos (by simp), decDigits_val]; omega
  · rw [if_neg h]
    refine ⟨?_, n.toNat, bare_dec _, by omega⟩
    unfold rdSigned
    rw [bare_dec, if_neg (by omega), decDigits_val]; omega
theorem rd_itoa {n : Int} (h0 : -1000000000000000000 < n) (h1 : n < 1000000000000000000) : rdOk (Lib.itoa n) = true ∧ rdNum (Lib.itoa n) = n := by
  obtain ⟨hs, u, hb, hu⟩ := signed_itoa n
  have hl := decDigits_len 17 u (by have : (10 : Nat) ^ (17 + 1) = 1000000000000000000 := by decide
                                    omega)
  have hk : rdOk (Lib.itoa n) = true := by
    unfold rdOk
    rw [hs, hb, decDigits_dig, decide_eq_true hl.1, decide_eq_true (p := _ ≤ 18) (by omega), decide_eq_true rfl]; rfl
  exact ⟨hk, by unfold rdNum; rw [if_pos hk, hs]⟩
theorem itoa_chars (n : Int) : ∀ c ∈ Lib.itoa n, c ≠ 10 ∧ c ≠ 32 := by
  intro c hc
  have hd : ∀ u : Nat, c ∈ Lib.decDigits u → c ≠ 10 ∧ c ≠ 32 := fun u h => by
    have := isDig_ne (List.all_eq_true.1 (decDigits_dig u) c h)
    exact ⟨this.1, this.2.1⟩
  unfold Lib.itoa at hc
  split at hc
  · rcases List.mem_cons.1 hc with e | e
    · subst e; decide
    · exact hd _ e
  · exact hd _ hc
theorem spl_no {c : UInt8} : ∀ (l cur : List UInt8), ¬ c ∈ l → spl c cur l = [cur ++ l]
  | [], cur, _ => by simp [spl]
  | b :: r, cur, h => by
    rw [spl, if_neg (fun e => h (by rw [e]; exact List.mem_cons_self)), spl_no r _ (fun e => h (List.mem_cons_of_mem _ e)), List.append_assoc]; rfl
theorem spl_to {c : UInt8} (r : List UInt8) : ∀ (l cur : List UInt8), ¬ c ∈ l → spl c cur (l ++ c :: r) = (cur ++ l) :: spl c [] r
  | [], cur, _ => by simp [spl]
  | b :: l, cur, h => by
    rw [List.cons_append, spl, if_neg (fun e => h (by rw [e]; exact List.mem_cons_self)), spl_to r l _ (fun e => h (List.mem_cons_of_mem _ e)), List.append_assoc]; rfl
end Go.Proofs.YtfpaejlipaainaaGreatDoor
namespace Go.Proofs.YtfpaejlipaainaaGreatDoor
open Go.ChangeShapes Go.WideShapes Go.ChangeAt Go.RowKit Go.Deep
def Gl (w : World) : Prop := Lib.TabIs Tryz.prog w "internal/strconv.uint64pow10" .u64 Lib.pow10Tab ∧ w.ShapedOpen Tryz.prog
theorem var_below {P : Program} {w w' : World} {n : String} {cs : Array Value} (h : w.var? P n = some cs) (hb : Below w.heap.size w w') : w'.var? P n = some cs := by
  unfold World.var? at h ⊢
  cases hg : P.globalNamed n with
  | none => rw [hg] at h; cases h
  | some g =>
    rw [hg] at h
    simp only [Option.bind_some] at h ⊢
    have hlt : g < w.heap.size := by
      rcases Nat.lt_or_ge g w.heap.size with h1 | h1
      · exact h1
      · rw [Array.getElem?_eq_none h1] at h; cases h
    rw [hb.block g hlt]; exact h
theorem Gl.below {w w' : World} (h : Gl w) (hb : Below w.heap.size w w') : Gl w' :=
  ⟨var_below h.1 hb, h.2.keptBut (hb.frame (fun _ => False)) (fun _ h => h.elim)⟩
theorem reads_of {P : Program} {w : World} {n : String} {d : DataW Unit} : ∀ {l : List (String × DataW Unit)} {ps : List MemPlace}, DataW.LaidVars P w l ps → (n, d) ∈ l →
    ∃ g t cs fuel p, P.globalNamed n = some g ∧ (P.globals[g]?).map (·.type) = some t ∧ w.var? P n = some cs ∧ DataW.trod (fun _ => ()) P w 0 (fun _ => true) false fuel t cs.toList = some (d, p)
  | [], _, _, h => by cases h
  | (_, _) :: _, _, ⟨g, t, cs, fuel, p, _, h1, h2, h3, h4, h5, _⟩, h => by
    rcases List.mem_cons.1 h with e | e
    · cases e; exact ⟨g, t, cs, fuel, p, h1, h2, h3, h4⟩
    · exact reads_of h5 e
theorem gl_of {W : World} {l : List (String × DataW Unit)} (hL : laidMet Tryz.prog l W) (hm : ("internal/strconv.uint64pow10", Lib.tabData .u64 Lib.pow10Tab) ∈ l) (hsh : W.ShapedOpen Tryz.prog) : Gl W := by
  refine ⟨?_, hsh⟩
  obtain ⟨ps, hvars, _⟩ := hL
  obtain ⟨g, t, cs, fuel, p, hg, ht, hv, hd⟩ := reads_of hvars hm
  have e1 : Tryz.prog.globalNamed "internal/strconv.uint64pow10" = some (Tryz.prog.globalNamed "internal/strconv.uint64pow10").get! := by kernel_rfl
  have e2 : (Tryz.prog.globals[(Tryz.prog.globalNamed "internal/strconv.uint64pow10").get!]?).map (·.type) = some 247 := by kernel_rfl
  obtain rfl := Option.some.inj (e1.symm.trans hg)
  obtain rfl := Option.some.inj (e2.symm.trans ht)
  unfold Lib.TabIs
  rw [hv, ← Lib.cells_of_tab Tryz.underlying247 Tryz.underlying93 (by kernel_rfl) (by kernel_rfl) hd]
end Go.Proofs.YtfpaejlipaainaaGreatDoor
namespace Go.Proofs.YtfpaejlipaainaaGreatDoor
open Go.ChangeShapes Go.WideShapes Go.ChangeAt Go.RowKit Go.Deep
set_option maxRecDepth 100000
theorem iDec_any (n : Int) (w : World) (h0 : -9223372036854775808 ≤ n) (h1 : n ≤ 9223372036854775807) (hG : Gl w) :
    Calls Tryz.prog 36 #[.int .i64 n] w fun e w' => e = .returned (.string (decB n)) ∧ Below w.heap.size w w' := by
  have hT := hide hG.1
  clear hG
  go_enter Tryz.func36, Tryz.ntmps36
  go_wp2_with (go_at_call 86; refine (Tryz.strconv_FormatInt_10 n h0 h1 _ hT.out).mono ?_; rintro e w' ⟨rfl, k, os, rfl⟩)
  go_ret
  exact ⟨rfl, Lib.below_grow _ _ (Nat.le_refl _) _ _⟩
theorem info_u8 : (Tryz.prog.info? 5).map (fun i => (i.zero, i.size, i.bytes)) = some (some (.int .u8 0), 1, 1) := by kernel_rfl
theorem u8c_len (x : Int) : (u8c x).length = 1 := rfl
theorem u8c_one : ∀ x, ∀ u ∈ u8c x, u.oneCell' = true := by intro x u hu; simp [u8c] at hu; subst hu; rfl
def bI (l : List UInt8) : List Int := l.map fun c => (c.toNat : Int)
theorem Own.lit {α : Type} {cells : α → List Value} {e s : Nat} (w : World) {base : Nat} (hb : base ≤ w.heap.size) (x : α) (cur : Array Value) (hc : cur.toList = cells x) (hs : (cells x).length = s) :
    Own cells e s (w.alloc (.cells cur e)) base (.slice (some ⟨w.heap.size, 0, none⟩) 1 1) 1 [x] := by
  have hl : cur.size = 1 * s := by rw [← Array.length_toList, hc, hs, Nat.one_mul]
  refine ⟨rfl, by simp [hs], .inr ⟨w.heap.size, 1, cur, rfl, hb, heap_alloc_new w _, Nat.le_refl _, by unfold maxLen; omega, hl, ?_⟩⟩
  rw [hc, List.take_of_length_le (by simp [hs])]; simp
theorem dec_append (a b : List UInt8) : (⟨a.toArray⟩ : ByteArray) ++ ⟨b.toArray⟩ = ⟨(a ++ b).toArray⟩ := by
  apply toList_inj
  rw [ByteArray.toList_eq, ByteArray.toList_eq]
  simp
def DecInv (w : World) (n : Int) (sg : Int) (v k : Value) (wr : World) : Prop :=
  ∃ (x f : Nat) (l : List UInt8), k = .int .i64 (sg * x) ∧ Own u8c 5 1 wr w.heap.size v l.length (bI l) ∧ x < 10 ^ f ∧ l.length + f ≤ 20 ∧ x ≤ 9223372036854775808 ∧ Hid (dgs f x l = dgs 20 n.natAbs []) ∧ Below w.heap.size w wr
theorem bI_get (l : List UInt8) (j : Nat) (hj : j < l.length) : (bI l)[j]? = some ((l[j].toNat : Nat) : Int) := by unfold bI; rw [List.getElem?_map, List.getElem?_eq_getElem hj]; rfl
theorem conv_own {w : World} {base n c : Nat} {A : Option Addr} {l : List UInt8} (h : Own u8c 5 1 w base (.slice A n c) n (bI l)) :
    Sem.run Tryz.prog (convert 22 9 (.slice A n c)) w = .ok (.string ⟨l.toArray⟩) w := by
  have hn : l.length = n := by have := h.len; simpa [bI] using this
  subst hn
  rcases h.form with ⟨hv, h0, _⟩ | ⟨g, cap, hv, _, _, _, _⟩
  · injection hv with h1 h2 h3
    subst h1
    have hl : l = [] := List.eq_nil_of_length_eq_zero h0
    subst hl
    exact run_convert_bytes_nil w _ _ Tryz.underlying22 Tryz.underlying5 _ _ _ Tryz.underlying9
  · injection hv with h1 h2 h3
    subst h1
    refine run_convert_bytes_back w _ _ 5 ⟨g, 0, none⟩ c l Tryz.underlying22 Tryz.underlying5 Tryz.underlying9 (fun j hj => ?_)
    obtain ⟨b, o, x, hA, _, hx, hc⟩ := (h.arr u8c_len).u8 (k := j) hj
    injection hA with hA
    injection hA with h4 h5
    subst h4 h5
    rw [Addr.add_lit, hc]
    rw [bI_get l j hj] at hx
    injection hx with hx
    rw [hx]
theorem dec_end {n : Int} {f : Nat} {l : List UInt8} (h : dgs f 0 l = dgs 20 n.natAbs []) (hn : n.natAbs ≤ 9223372036854775808) : (l = [] ∧ n = 0) ∨ (l ≠ [] ∧ l = Lib.decDigits n.natAbs) := by
  rw [dgs_zero] at h
  rcases Nat.eq_zero_or_pos n.natAbs with h0 | h0
  · left; rw [h0, dgs_zero] at h; exact ⟨h, by omega⟩
  · right
    rw [dgs_dec 20 _ [] (by omega) h0, List.append_nil] at h
    refine ⟨?_, h⟩
    rw [h]
    obtain ⟨c, r, e, _⟩ := decDigits_cons n.natAbs
    rw [e]; simp
theorem bI_cons (c : UInt8) (l : List UInt8) : bI (c :: l) = (c.toNat : Int) :: bI l := rfl
set_option maxHeartbeats 1000000 in
theorem sDec_pos (n : Int) (w : World) (h0 : 0 ≤ n) (h1 : n ≤ 9223372036854775807) :
    Calls Tryz.prog 148 #[.int .i64 n] w fun e w' => e = .returned (.string (decB n)) ∧ Below w.heap.size w w' := by
  go_enter Tryz.func148, Tryz.ntmps148
  go_wp2
  go_loopw [3, 4] (fun v k wr => DecInv w n 1 v k wr) (fun _ k _ => (intOf k).toNat)
  case atStart => exact ⟨n.natAbs, 20, [], by rw [Int.one_mul]; congr 1; omega, Own.none_made w (Nat.le_refl _), by omega, by simp, by omega, hide rfl, (Below.refl _ _).alloc (Nat.le_refl _) _⟩
  case round =>
    obtain ⟨x, f, l, rfl, ho, hx, hl, hm, hd, hb⟩ := hrel
    rw [Int.one_mul]
    obtain ⟨A, c, rfl, _⟩ := ho.slice
    have hO := hide ho
    have hB := hide hb
    have hX := hide hx
    clear ho hb hx
    rcases Nat.eq_zero_or_pos x with hz | hz
    · subst hz
      have hcv := conv_own hO.out
      have hlt : ¬ n < 0 := by omega
      have hE := hide (dec_end hd.out (by omega))
      clear hd
      obtain ⟨m, hml⟩ : ∃ m, m = l.length := ⟨_, rfl⟩
      rw [← hml] at hcv hO ⊢
      have hM := hide hml
      clear hml
      rcases hE.out with ⟨hl0, hn0⟩ | ⟨hl0, hn0⟩
      · have hn : Hid (decB n = ⟨#[48]⟩) := hide (by
          unfold decB Lib.itoa; rw [hn0, if_neg (by omega), show (0 : Int).toNat = 0 from rfl, Lib.decDigits_one (by omega)]; rfl)
        obtain rfl : m = 0 := by rw [hM.out, hl0]; rfl
        clear hl0 hn0 hE hcv
        go_wp2
        go_ret
        exact ⟨by rw [hn.out]; rfl, hB.out⟩
      · have hn : Hid (decB n = ⟨l.toArray⟩) := hide (by
          unfold decB Lib.itoa; rw [if_neg (by omega), hn0, show n.natAbs = n.toNat by omega])
        have hle : ((m : Int) == 0) = false := by
          have : 0 < m := by rw [hM.out]; exact List.length_pos_iff.2 hl0
          simp; omega
        clear hl0 hn0 hE
        go_wp2
        go_ret
        exact ⟨by rw [hn.out]; rfl, hB.out⟩
    · have e1 : ((x : Int) != 0) = true := by simp; omega
      go_wp2_with (at_builtin; refine wpl_appN rfl (.tmp 21) (.tmp 22) rfl Tryz.underlying22 info_u8 rfl (by omega) (by omega) u8c_len u8c_one rfl (Own.lit wr hB.out.size (48 + (x : Int) % 10) _ rfl rfl) rfl ((hO.out.arr u8c_len).go ((Below.refl _ _).alloc (Nat.le_refl _) _)) (by omega) (by simp; have := hB.out.size; omega) ?_; intro v' w1 ho2 hg2 _; have hB2 := hide ((Own.lit wr hB.out.size (48 + (x : Int) % 10) _ rfl rfl : Own u8c 5 1 _ w.heap.size _ 1 _).grown (hB.out.alloc hB.out.size _) hg2); have hO2 := hide ho2; clear ho2 hg2)
      go_roundw
      case rel =>
        obtain ⟨f', rfl⟩ : ∃ f', f = f' + 1 := by
          refine ⟨f - 1, ?_⟩
          rcases Nat.eq_zero_or_pos f with h2 | h2
          · subst h2; have := hX.out; simp at this; omega
          · omega
        have hc : ((UInt8.ofNat (48 + x % 10)).toNat : Int) = 48 + (x : Int) % 10 := by rw [UInt8.toNat_ofNat']; omega
        refine ⟨x / 10, f', UInt8.ofNat (48 + x % 10) :: l, by rw [Int.one_mul]; go_num, ?_, ?_, by simp; omega, by omega, hide ?_, hB2.out⟩
        · rw [bI_cons, hc, List.length_cons, Nat.add_comm]; exact hO2.out
        · have h3 := hX.out; rw [Nat.pow_succ] at h3; omega
        · rw [← dgs_step hz]; exact hd.out
      case measure => simp [intOf]; omega
set_option maxHeartbeats 1000000 in
theorem sDec_neg (n : Int) (w : World) (h0 : n < 0) (h1 : -9223372036854775808 ≤ n) :
    Calls Tryz.prog 148 #[.int .i64 n] w fun e w' => e = .returned (.string (decB n)) ∧ Below w.heap.size w w' := by
  go_enter Tryz.func148, Tryz.ntmps148
  go_wp2
  go_loopw [3, 4] (fun v k wr => DecInv w n (-1) v k wr) (fun _ k _ => (-intOf k).toNat)
  case atStart => exact ⟨n.natAbs, 20, [], by congr 1; omega, Own.none_made w (Nat.le_refl _), by omega, by simp, by omega, hide rfl, (Below.refl _ _).alloc (Nat.le_refl _) _⟩
  case round =>
    obtain ⟨x, f, l, rfl, ho, hx, hl, hm, hd, hb⟩ := hrel
    rw [show (-1 : Int) * (x : Int) = -(x : Int) by omega]
    obtain ⟨A, c, rfl, _⟩ := ho.slice
    have hO := hide ho
    have hB := hide hb
    have hX := hide hx
    clear ho hb hx
    rcases Nat.eq_zero_or_pos x with hz | hz
    · subst hz
      have hcv := conv_own hO.out
      have hE := hide (dec_end hd.out (by omega))
      clear hd
      obtain ⟨m, hml⟩ : ∃ m, m = l.length := ⟨_, rfl⟩
      rw [← hml] at hcv hO ⊢
      have hM := hide hml
      clear hml
      rcases hE.out with ⟨hl0, hn0⟩ | ⟨hl0, hn0⟩
      · omega
      · have hn : Hid (decB n = (⟨#[45]⟩ : ByteArray) ++ ⟨l.toArray⟩) := hide (by
          unfold decB Lib.itoa; rw [if_pos h0, ← hn0]; exact (dec_append [45] l).symm)
        have hle : ((m : Int) == 0) = false := by
          have : 0 < m := by rw [hM.out]; exact List.length_pos_iff.2 hl0
          simp; omega
        clear hl0 hn0 hE
        go_wp2
        go_ret
        exact ⟨by rw [hn.out]; rfl, hB.out⟩
    · have e1 : (-(x : Int) != 0) = true := by simp; omega
      have e2 : (-(x : Int)).tmod 10 = -((x % 10 : Nat) : Int) := by rw [Int.neg_tmod]; rfl
      have e3 : (-(x : Int)).tdiv 10 = -((x / 10 : Nat) : Int) := by rw [Int.neg_tdiv]; rfl
      have hq : x % 10 < 10 := Nat.mod_lt _ (by omega)
      obtain ⟨d, hd0⟩ : ∃ d, d = x % 10 := ⟨_, rfl⟩
      have hD := hide hd0
      rw [← hd0] at e2 hq
      clear hd0
      rcases Nat.eq_zero_or_pos d with hz2 | hz2
      · subst hz2
        have e4 : (-((0 : Nat) : Int)) = 0 := rfl
        rw [e4] at e2
        clear e4
        go_wp2_with (at_builtin; refine wpl_appN rfl (.tmp 21) (.tmp 22) rfl Tryz.underlying22 info_u8 rfl (by omega) (by omega) u8c_len u8c_one rfl (Own.lit wr hB.out.size (48) _ rfl rfl) rfl ((hO.out.arr u8c_len).go ((Below.refl _ _).alloc (Nat.le_refl _) _)) (by omega) (by simp; have := hB.out.size; omega) ?_; intro v' w1 ho2 hg2 _; have hB2 := hide ((Own.lit wr hB.out.size (48) _ rfl rfl : Own u8c 5 1 _ w.heap.size _ 1 _).grown (hB.out.alloc hB.out.size _) hg2); have hO2 := hide ho2; clear ho2 hg2)
        go_roundw
        case rel =>
          obtain ⟨f', rfl⟩ : ∃ f', f = f' + 1 := by
            refine ⟨f - 1, ?_⟩
            rcases Nat.eq_zero_or_pos f with h2 | h2
            · subst h2; have := hX.out; simp at this; omega
            · omega
          have hc : ((UInt8.ofNat (48 + x % 10)).toNat : Int) = 48 := by rw [UInt8.toNat_ofNat', ← hD.out]; omega
          refine ⟨x / 10, f', UInt8.ofNat (48 + x % 10) :: l, by congr 1; omega, ?_, ?_, by simp; omega, by omega, hide ?_, hB2.out⟩
          · rw [bI_cons, hc, List.length_cons, Nat.add_comm]; exact hO2.out
          · have h3 := hX.out; rw [Nat.pow_succ] at h3; omega
          · rw [← dgs_step hz]; exact hd.out
        case measure => simp [intOf]; omega
      · have hz3 : -((d : Nat) : Int) < 0 := by omega
        go_wp2_with (at_builtin; refine wpl_appN rfl (.tmp 21) (.tmp 22) rfl Tryz.underlying22 info_u8 rfl (by omega) (by omega) u8c_len u8c_one rfl (Own.lit wr hB.out.size (48 + (d : Int)) _ rfl rfl) rfl ((hO.out.arr u8c_len).go ((Below.refl _ _).alloc (Nat.le_refl _) _)) (by omega) (by simp; have := hB.out.size; omega) ?_; intro v' w1 ho2 hg2 _; have hB2 := hide ((Own.lit wr hB.out.size (48 + (d : Int)) _ rfl rfl : Own u8c 5 1 _ w.heap.size _ 1 _).grown (hB.out.alloc hB.out.size _) hg2); have hO2 := hide ho2; clear ho2 hg2)
        go_roundw
        case rel =>
          obtain ⟨f', rfl⟩ : ∃ f', f = f' + 1 := by
            refine ⟨f - 1, ?_⟩
            rcases Nat.eq_zero_or_pos f with h2 | h2
            · subst h2; have := hX.out; simp at this; omega
            · omega
          have hc : ((UInt8.ofNat (48 + x % 10)).toNat : Int) = 48 + (d : Int) := by rw [UInt8.toNat_ofNat', ← hD.out]; omega
          refine ⟨x / 10, f', UInt8.ofNat (48 + x % 10) :: l, by congr 1; omega, ?_, ?_, by simp; omega, by omega, hide ?_, hB2.out⟩
          · rw [bI_cons, hc, List.length_cons, Nat.add_comm]; exact hO2.out
          · have h3 := hX.out; rw [Nat.pow_succ] at h3; omega
          · rw [← dgs_step hz]; exact hd.out
        case measure => simp [intOf]; omega
theorem sDec_any (n : Int) (w : World) (h0 : -9223372036854775808 ≤ n) (h1 : n ≤ 9223372036854775807) :
    Calls Tryz.prog 148 #[.int .i64 n] w fun e w' => e = .returned (.string (decB n)) ∧ Below w.heap.size w w' := by
  by_cases h : n < 0
  · exact sDec_neg n w h h0
  · exact sDec_pos n w (by omega) h1
end Go.Proofs.YtfpaejlipaainaaGreatDoor
namespace Go.Proofs.YtfpaejlipaainaaGreatDoor
open Go.ChangeShapes Go.WideShapes Go.ChangeAt Go.RowKit Go.Deep
set_option maxRecDepth 100000
theorem info_str : (Tryz.prog.info? 9).map (fun i => (i.zero, i.size, i.bytes)) = some (some (.string ByteArray.empty), 1, 16) := by kernel_rfl
theorem Own.lits {α : Type} {cells : α → List Value} {e s : Nat} (w : World) {base : Nat} (hb : base ≤ w.heap.size) (l : List α) (cur : Array Value) (hc : cur.toList = l.flatMap cells) (hs : ∀ x, (cells x).length = s) (hm : l.length ≤ maxLen) :
    Own cells e s (w.alloc (.cells cur e)) base (.slice (some ⟨w.heap.size, 0, none⟩) l.length l.length) l.length l := by
  have hl : cur.size = l.length * s := by rw [← Array.length_toList, hc, flat_len hs]
  refine ⟨rfl, by rw [flat_len hs], .inr ⟨w.heap.size, l.length, cur, rfl, hb, heap_alloc_new w _, Nat.le_refl _, hm, hl, ?_⟩⟩
  rw [hc, List.take_of_length_le (by rw [flat_len hs]; exact Nat.le_refl _)]
theorem flat_strc (l : List ByteArray) : l.flatMap strc = l.map Value.string := by
  induction l with
  | nil => rfl
  | cons a l ih => rw [List.flatMap_cons, ih]; rfl
theorem words_le (c : UInt8) (s : ByteArray) : (words c s).length ≤ s.size + 1 := by
  rw [words_len]
  have := Lib.countB_le ⟨#[c]⟩ (by simp [ByteArray.size]) s.size s (Nat.le_refl _)
  omega
theorem iSplit_any (c : UInt8) (s : ByteArray) (w : World) (hs : s.size ≤ 1048576) (hG : Gl w) :
    Calls Tryz.prog 27 #[.string s, .string ⟨#[c]⟩] w fun e w' => ∃ v, e = .returned v ∧ Own strc 9 1 w' w.heap.size v (words c s).length (words c s) ∧ Below w.heap.size w w' := by
  refine (Tryz.strings_Split_shaped s ⟨#[c]⟩ w hG.2 (by omega) (by simp [ByteArray.size])).mono ?_
  rintro e w' ⟨rfl, rfl⟩
  rw [splitB_words, ← words_len]
  have hm : (words c s).length ≤ maxLen := by have := words_le c s; unfold maxLen; omega
  exact ⟨_, rfl, Own.lits w (Nat.le_refl _) (words c s) _ (by rw [flat_strc]) strc_len hm, (Below.refl _ _).alloc (Nat.le_refl _) _⟩
theorem piece_list (s : ByteArray) (a b : Nat) : (s.extract a b).data.toList = (s.data.toList.take b).drop a := by
  rw [Lib.extract_data, List.drop_take]
def mkB (l : List UInt8) : ByteArray := ⟨l.toArray⟩
theorem mkB_piece (s : ByteArray) (a b : Nat) : mkB ((s.data.toList.take b).drop a) = s.extract a b := by
  rw [← piece_list]; exact mk_data _
theorem drop_at {s : ByteArray} {k : Nat} (h : k < s.size) : s.data.toList.drop k = s[k] :: s.data.toList.drop (k + 1) := by
  rw [List.drop_eq_getElem_cons (by rw [Array.length_toList]; exact h)]; rfl
theorem piece_grow {s : ByteArray} {a k : Nat} (ha : a ≤ k) (h : k < s.size) : (s.data.toList.take k).drop a ++ [s[k]] = (s.data.toList.take (k + 1)).drop a := by
  have hl : s.data.toList.length = s.size := by rw [Array.length_toList]; rfl
  have hx : s.data.toList[k]? = some s[k] := by rw [List.getElem?_eq_getElem (by omega)]; rfl
  rw [take_snoc hx, List.drop_append_of_le_length (by rw [List.length_take]; omega)]
def SplInv (c : UInt8) (s : ByteArray) (done : List ByteArray) (fr k : Nat) : Prop := words c s = done ++ (spl c ((s.data.toList.take k).drop fr) (s.data.toList.drop k)).map mkB
theorem spl_start (c : UInt8) (s : ByteArray) : SplInv c s [] 0 0 := by unfold SplInv words; rw [List.take_zero, List.drop_zero, List.nil_append]; rfl
theorem spl_hit {c : UInt8} {s : ByteArray} {done : List ByteArray} {fr k : Nat} (h : SplInv c s done fr k) (hk : k < s.size) (hc : s[k] = c) : SplInv c s (done ++ [s.extract fr k]) (k + 1) (k + 1) := by
  unfold SplInv at h ⊢
  rw [drop_at hk, spl, if_pos hc, List.map_cons, mkB_piece] at h
  have hz : (s.data.toList.take (k + 1)).drop (k + 1) = [] := List.drop_eq_nil_of_le (by rw [List.length_take]; omega)
  rw [h, List.append_assoc, hz]; rfl
theorem spl_miss {c : UInt8} {s : ByteArray} {done : List ByteArray} {fr k : Nat} (h : SplInv c s done fr k) (hf : fr ≤ k) (hk : k < s.size) (hc : ¬ s[k] = c) : SplInv c s done fr (k + 1) := by
  unfold SplInv at h ⊢
  rw [drop_at hk, spl, if_neg hc, piece_grow hf hk] at h
  exact h
theorem spl_end {c : UInt8} {s : ByteArray} {done : List ByteArray} {fr : Nat} (h : SplInv c s done fr s.size) : words c s = done ++ [s.extract fr s.size] := by
  unfold SplInv at h
  have hl : s.data.toList.length = s.size := by rw [Array.length_toList]; rfl
  have hz : s.data.toList.drop s.size = [] := List.drop_eq_nil_of_le (by omega)
  rw [hz, spl, List.map_cons, List.map_nil, mkB_piece] at h
  exact h
set_option maxHeartbeats 1000000 in
theorem sSplit_any (c : UInt8) (s : ByteArray) (w : World) (hs : s.size ≤ 1048576) :
    Calls Tryz.prog 54 #[.string s, .int .u8 (c.toNat : Int)] w fun e w' => ∃ v, e = .returned v ∧ Own strc 9 1 w' w.heap.size v (words c s).length (words c s) ∧ Below w.heap.size w w' := by
  go_enter Tryz.func54, Tryz.ntmps54
  go_wp2
  go_loopw [5, 6, 7] (fun v f i wr => ∃ (done : List ByteArray) (fr k : Nat), f = .int .i64 fr ∧ i = .int .i64 k ∧ fr ≤ k ∧ k ≤ s.size ∧ done.length ≤ k ∧ Own strc 9 1 wr w.heap.size v done.length done ∧ Hid (SplInv c s done fr k) ∧ Below w.heap.size w wr) (fun _ _ i _ => s.size - (intOf i).toNat)
  case atStart => exact ⟨[], 0, 0, rfl, rfl, Nat.le_refl _, Nat.zero_le _, Nat.le_refl _, Own.none_made w (Nat.le_refl _), hide (spl_start c s), (Below.refl _ _).alloc (Nat.le_refl _) _⟩
  case round =>
    obtain ⟨done, fr, k, rfl, rfl, hf, hk, hd, ho, hi, hb⟩ := hrel
    have hO := hide ho
    have hB := hide hb
    clear ho hb
    by_cases hlt : k < s.size
    · by_cases hc : s[k] = c
      · have hN := hide (spl_hit hi.out hlt hc)
        have e1 : ((s[k].toNat : Int) == (c.toNat : Int)) = true := by rw [hc]; simp
        clear hc
        go_wp2_with (at_builtin; refine wpl_app1 rfl (.tmp 20) (.tmp 25) _ rfl Tryz.underlying24 info_str rfl (by omega) (by omega) rfl hO.out (s.extract fr k) _ rfl rfl rfl (strc_one _) (by omega) hB.out.size ?_; intro v' w1 ho2 hg2; have hB2 := hide (hO.out.grown hB.out hg2); have hO2 := hide ho2; clear ho2 hg2)
        go_roundw
        case rel => exact ⟨done ++ [s.extract fr k], k + 1, k + 1, by go_num, by go_num, Nat.le_refl _, by omega, by simp; omega, by rw [List.length_append]; exact hO2.out, hN, hB2.out⟩
        case measure => simp [intOf]; omega
      · have hN := hide (spl_miss hi.out hf hlt hc)
        have e1 : ((s[k].toNat : Int) == (c.toNat : Int)) = false := by
          rw [beq_eq_false_iff_ne]; intro h; exact hc (UInt8.toNat_inj.1 (by omega))
        clear hc
        go_wp2
        go_roundw
        case rel => exact ⟨done, fr, k + 1, rfl, by go_num, by omega, by omega, by omega, hO.out, hN, hB.out⟩
        case measure => simp [intOf]; omega
    · have hkn : k = s.size := by omega
      subst hkn
      have hE := hide (spl_end hi.out)
      go_wp2_with (at_builtin; refine wpl_app1 rfl (.tmp 29) (.tmp 33) _ rfl Tryz.underlying24 info_str rfl (by omega) (by omega) rfl hO.out (s.extract fr s.size) _ rfl rfl rfl (strc_one _) (by omega) hB.out.size ?_; intro v' w1 ho2 hg2; have hB2 := hide (hO.out.grown hB.out hg2); have hO2 := hide ho2; clear ho2 hg2)
      go_ret
      exact ⟨_, rfl, by rw [hE.out, List.length_append]; exact hO2.out, hB2.out⟩
end Go.Proofs.YtfpaejlipaainaaGreatDoor
namespace Go.Proofs.YtfpaejlipaainaaGreatDoor
open Go.ChangeShapes Go.WideShapes Go.ChangeAt Go.RowKit Go.Deep
def linesB : List ByteArray → ByteArray
  | [] => ⟨#[]⟩
  | x :: l => x ++ ⟨#[10]⟩ ++ linesB l
theorem empty_app (b : ByteArray) : (⟨#[]⟩ : ByteArray) ++ b = b := ByteArray.empty_append
theorem app_empty (b : ByteArray) : b ++ (⟨#[]⟩ : ByteArray) = b := ByteArray.append_empty
theorem linesB_app (a b : List ByteArray) : linesB (a ++ b) = linesB a ++ linesB b := by
  induction a with
  | nil => exact (empty_app _).symm
  | cons x a ih => rw [List.cons_append, linesB, ih, linesB, ByteArray.append_assoc, ByteArray.append_assoc, ByteArray.append_assoc]
theorem linesB_one (x : ByteArray) : linesB [x] = x ++ ⟨#[10]⟩ := by
  show x ++ ⟨#[10]⟩ ++ (⟨#[]⟩ : ByteArray) = _; rw [app_empty]
theorem linesB_snoc (a : List ByteArray) (x : ByteArray) : linesB (a ++ [x]) = linesB a ++ (x ++ ⟨#[10]⟩) := by rw [linesB_app, linesB_one]
theorem linesB_data (x : ByteArray) (l : List ByteArray) : (linesB (x :: l)).data.toList = x.data.toList ++ 10 :: (linesB l).data.toList := by
  rw [linesB]; simp only [Joins.data_append, List.append_assoc]; rfl
theorem spl_lines : ∀ (L : List ByteArray), L ≠ [] → (∀ x ∈ L, ¬ (10 : UInt8) ∈ x.data.toList) → ∃ t, (linesB L).data.toList = t ++ [10] ∧ (spl 10 [] t).map mkB = L := by
  intro L
  induction L with
  | nil => intro h; exact absurd rfl h
  | cons x l ih =>
    intro _ hn
    have hx := hn x List.mem_cons_self
    by_cases hl : l = []
    · subst hl
      refine ⟨x.data.toList, by rw [linesB_data]; rfl, ?_⟩
      rw [spl_no _ _ hx]
      simp only [List.nil_append, List.map_cons, List.map_nil]
      rw [show mkB x.data.toList = x from mk_data x]
    · obtain ⟨t, e, h⟩ := ih hl fun y hy => hn y (List.mem_cons_of_mem _ hy)
      refine ⟨x.data.toList ++ 10 :: t, by rw [linesB_data, e]; simp, ?_⟩
      rw [spl_to _ _ _ hx, List.map_cons, h, List.nil_append]
      rw [show mkB x.data.toList = x from mk_data x]
theorem trim_lines {L : List ByteArray} (h : L ≠ []) (hn : ∀ x ∈ L, ¬ (10 : UInt8) ∈ x.data.toList) : words 10 (⟨(Lib.trimSuffix (linesB L).data.toList [10]).toArray⟩) = L := by
  obtain ⟨t, e, hs⟩ := spl_lines L h hn
  unfold Lib.trimSuffix Lib.hasSuffix
  rw [e, if_pos (by rw [List.isSuffixOf_iff_suffix]; exact ⟨t, rfl⟩)]
  rw [List.length_append, List.length_singleton, Nat.add_sub_cancel, List.take_left']
  · unfold words; exact hs
  · rfl
theorem linesB_empty {L : List ByteArray} (h : linesB L = ⟨#[]⟩) : L = [] := by
  cases L with
  | nil => rfl
  | cons x l =>
    have h1 := congrArg (fun s : ByteArray => s.data.toList) h
    replace h1 : (linesB (x :: l)).data.toList = [] := h1
    rw [linesB_data] at h1
    simp at h1
end Go.Proofs.YtfpaejlipaainaaGreatDoor
namespace Go.Proofs.YtfpaejlipaainaaGreatDoor
open Go.ChangeShapes Go.WideShapes Go.ChangeAt Go.RowKit Go.Deep
set_option maxRecDepth 100000
structure Entry where
  fDay : Int
  fWhat : ByteArray
  fValue : Int
  deriving DecidableEq
def Entry.cells (x : Entry) : List Value := [.int .i64 x.fDay, .string x.fWhat, .int .i64 x.fValue]
def Entry.same (x y : Entry) : Bool := decide (x = y)
theorem Entry.len (x : Entry) : x.cells.length = 3 := rfl
theorem Arr.Entry {w : World} {B : Nat} {A : Option Addr} {n : Nat} {l : List Entry} (h : Arr Entry.cells 3 w B A n l) {k : Nat} (hk : k < n) : ∃ b o x, A = some ⟨b, o, none⟩ ∧ b < B ∧ l[k]? = some x ∧ w.cell? ⟨b, o + k * 3, none⟩ = some (.int .i64 x.fDay) ∧ w.cell? ⟨b, o + k * 3 + 1, none⟩ = some (.string x.fWhat) ∧ w.cell? ⟨b, o + k * 3 + 2, none⟩ = some (.int .i64 x.fValue) := by
  obtain ⟨b, o, x, e, hb, hx, hc⟩ := h.at_ hk
  exact ⟨b, o, x, e, hb, hx, hc 0 _ rfl, hc 1 _ rfl, hc 2 _ rfl⟩
def Entry.fits (x : Entry) : Prop := x.fWhat.size ≤ maxLen
def Entry.wt (x : Entry) : Int := (x.fWhat.size : Int)
def Entry.pre (l : List Entry) : Int := (l.map Entry.wt).sum
def Entry.tot (l : List Entry) : Int := l.length + Entry.pre l
end Go.Proofs.YtfpaejlipaainaaGreatDoor
namespace Go.Proofs.YtfpaejlipaainaaGreatDoor
open Go.ChangeShapes Go.WideShapes Go.ChangeAt Go.RowKit Go.Deep
set_option maxRecDepth 100000
def Entry.ok (x : Entry) : Bool := inB x.fDay 0 100000 && isName x.fWhat && inB x.fValue (-1000000) 1000000
theorem iEntry_any (x : Entry) (w : World) (hx : x.fits) :
    Calls Tryz.prog 124 #[.agg #[.int .i64 x.fDay, .string x.fWhat, .int .i64 x.fValue]] w fun e w' => e = .returned (.bool x.ok) ∧ Below w.heap.size w w' := by
  cases k0 : inB x.fDay 0 100000
  · have ck : Hid (x.ok = false) := hide (by simp [Entry.ok, k0])
    go_enter Tryz.func124, Tryz.ntmps124
    go_wp2_with (first | (go_at_call 126; refine (iName_any _ _ hx).mono ?_; rintro e w' ⟨rfl, rfl⟩) | (go_at_call 113; refine (within_any _ _ _ _).mono ?_; rintro e w' ⟨rfl, rfl⟩))
    go_ret
    exact ⟨retB ck.out.symm, by go_grown⟩
  · cases k1 : isName x.fWhat
    · have ck : Hid (x.ok = false) := hide (by simp [Entry.ok, k1])
      go_enter Tryz.func124, Tryz.ntmps124
      go_wp2_with (first | (go_at_call 126; refine (iName_any _ _ hx).mono ?_; rintro e w' ⟨rfl, rfl⟩) | (go_at_call 113; refine (within_any _ _ _ _).mono ?_; rintro e w' ⟨rfl, rfl⟩))
      go_ret
      exact ⟨retB ck.out.symm, by go_grown⟩
    · have ck : Hid (x.ok = inB x.fValue (-1000000) 1000000) := hide (by simp [Entry.ok, k0, k1])
      go_enter Tryz.func124, Tryz.ntmps124
      go_wp2_with (first | (go_at_call 126; refine (iName_any _ _ hx).mono ?_; rintro e w' ⟨rfl, rfl⟩) | (go_at_call 113; refine (within_any _ _ _ _).mono ?_; rintro e w' ⟨rfl, rfl⟩))
      go_ret
      exact ⟨retB ck.out.symm, by go_grown⟩
theorem day_any (n : Int) (w : World) :
    Calls Tryz.prog 258 #[.int .i64 n] w fun e w' => e = .returned (.bool (inB n 0 100000)) ∧ w = w' := by
  go_enter Tryz.func258, Tryz.ntmps258
  go_wp2_with (go_at_call 135; refine (in_any _ _ _ _).mono ?_; rintro e w' ⟨rfl, rfl⟩)
  go_ret; exact ⟨rfl, rfl⟩
theorem sEntry_any (b o : Nat) (x : Entry) (w : World) (hx : x.fits) (d0 : w.cell? ⟨b, o, none⟩ = some (.int .i64 x.fDay)) (d1 : w.cell? ⟨b, o + 1, none⟩ = some (.string x.fWhat)) (d2 : w.cell? ⟨b, o + 2, none⟩ = some (.int .i64 x.fValue)) :
    Calls Tryz.prog 207 #[.pointer (some ⟨b, o, none⟩)] w fun e w' => e = .returned (.bool x.ok) ∧ w = w' := by
  cases k0 : inB x.fDay 0 100000
  · have ck : Hid (x.ok = false) := hide (by simp [Entry.ok, k0])
    go_enter Tryz.func207, Tryz.ntmps207
    go_wp2_with (first | (go_at_call 196; refine (sName_any _ _ hx).mono ?_; rintro e w' ⟨rfl, rfl⟩) | (go_at_call 258; refine (day_any _ _).mono ?_; rintro e w' ⟨rfl, rfl⟩) | (go_at_call 135; refine (in_any _ _ _ _).mono ?_; rintro e w' ⟨rfl, rfl⟩))
    go_ret
    exact ⟨retB ck.out.symm, rfl⟩
  · cases k1 : isName x.fWhat
    · have ck : Hid (x.ok = false) := hide (by simp [Entry.ok, k1])
      go_enter Tryz.func207, Tryz.ntmps207
      go_wp2_with (first | (go_at_call 196; refine (sName_any _ _ hx).mono ?_; rintro e w' ⟨rfl, rfl⟩) | (go_at_call 258; refine (day_any _ _).mono ?_; rintro e w' ⟨rfl, rfl⟩) | (go_at_call 135; refine (in_any _ _ _ _).mono ?_; rintro e w' ⟨rfl, rfl⟩))
      go_ret
      exact ⟨retB ck.out.symm, rfl⟩
    · have ck : Hid (x.ok = inB x.fValue (-1000000) 1000000) := hide (by simp [Entry.ok, k0, k1])
      go_enter Tryz.func207, Tryz.ntmps207
      go_wp2_with (first | (go_at_call 196; refine (sName_any _ _ hx).mono ?_; rintro e w' ⟨rfl, rfl⟩) | (go_at_call 258; refine (day_any _ _).mono ?_; rintro e w' ⟨rfl, rfl⟩) | (go_at_call 135; refine (in_any _ _ _ _).mono ?_; rintro e w' ⟨rfl, rfl⟩))
      go_ret
      exact ⟨retB ck.out.symm, rfl⟩
end Go.Proofs.YtfpaejlipaainaaGreatDoor
namespace Go.Proofs.YtfpaejlipaainaaGreatDoor
open Go.ChangeShapes Go.WideShapes Go.ChangeAt Go.RowKit Go.Deep
set_option maxRecDepth 100000
theorem ret2ib {a a' : Int} {b b' : Bool} (h : a = a') (h' : b = b') : Ending.returned (.tuple #[.int .i64 a, .bool b]) = .returned (.tuple #[.int .i64 a', .bool b']) := by rw [h, h']
def bareB (s : ByteArray) : ByteArray := ⟨(bare s.data.toList).toArray⟩
theorem size_list (s : ByteArray) : s.data.toList.length = s.size := by rw [Array.length_toList]; rfl
theorem bareB_size (s : ByteArray) : (bareB s).size = (bare s.data.toList).length := List.size_toArray ..
theorem bareB_list (s : ByteArray) : (bareB s).data.toList = bare s.data.toList := rfl
theorem get_list (s : ByteArray) (k : Nat) (h : k < s.size) : s.data.toList[k]? = some s[k] := by
  rw [List.getElem?_eq_getElem (by rw [size_list]; exact h)]; rfl
theorem rd_short {s : ByteArray} (h : (bareB s).size < 1 ∨ 18 < (bareB s).size) : rdNum s.data.toList = 0 ∧ rdOk s.data.toList = false := by
  have hk : rdOk s.data.toList = false := by
    unfold rdOk
    rw [bareB_size] at h
    rcases h with h | h
    · rw [decide_eq_false (by omega)]; rfl
    · rw [decide_eq_false (p := (bare s.data.toList).length ≤ 18) (by omega)]; simp
  exact ⟨by unfold rdNum; rw [hk]; rfl, hk⟩
theorem rd_bad {s : ByteArray} {k : Nat} (hk : k < (bareB s).size) (h : isDig (bareB s)[k] = false) : rdNum s.data.toList = 0 ∧ rdOk s.data.toList = false := by
  have hx := get_list (bareB s) k hk
  rw [bareB_list] at hx
  have hk : rdOk s.data.toList = false := by
    unfold rdOk
    rw [all_not hx h]; simp
  exact ⟨by unfold rdNum; rw [hk]; rfl, hk⟩
def rdVal (s : ByteArray) : Int := if (bareB s).size < s.size then -(valOf (bareB s).data.toList : Int) else valOf (bareB s).data.toList
theorem rdVal_signed (s : ByteArray) : rdVal s = rdSigned s.data.toList := by
  unfold rdVal rdSigned
  rw [bareB_size, ← size_list]; rfl
theorem rd_good {s : ByteArray} (h1 : 1 ≤ (bareB s).size) (h2 : (bareB s).size ≤ 18) (ha : (bareB s).data.toList.all isDig = true) :
    (decB (rdVal s) = s → rdNum s.data.toList = rdVal s ∧ rdOk s.data.toList = true) ∧ (¬ decB (rdVal s) = s → rdNum s.data.toList = 0 ∧ rdOk s.data.toList = false) := by
  have hk : rdOk s.data.toList = decide (Lib.itoa (rdSigned s.data.toList) = s.data.toList) := by
    unfold rdOk
    rw [bareB_size] at h1 h2
    rw [bareB_list] at ha
    rw [decide_eq_true h1, decide_eq_true h2, ha]; rfl
  have he : (decB (rdVal s) = s) ↔ Lib.itoa (rdSigned s.data.toList) = s.data.toList := by
    rw [rdVal_signed]
    constructor
    · intro h; exact congrArg (fun x : ByteArray => x.data.toList) h
    · intro h; unfold decB; rw [h]
  refine ⟨fun h => ?_, fun h => ?_⟩
  · have : rdOk s.data.toList = true := by rw [hk]; exact decide_eq_true (he.1 h)
    exact ⟨by unfold rdNum; rw [this, rdVal_signed]; rfl, this⟩
  · have : rdOk s.data.toList = false := by rw [hk]; exact decide_eq_false (fun e => h (he.2 e))
    exact ⟨by unfold rdNum; rw [this]; rfl, this⟩
theorem take_all {t : ByteArray} {k : Nat} (hk : k < t.size) (h : (t.data.toList.take k).all isDig = true) (hd : isDig t[k] = true) : (t.data.toList.take (k + 1)).all isDig = true := by
  rw [take_snoc (get_list t k hk), List.all_append, h]; simp [hd]
theorem take_val {t : ByteArray} {k : Nat} (hk : k < t.size) : valOf (t.data.toList.take (k + 1)) = 10 * valOf (t.data.toList.take k) + (t[k].toNat - 48) := by
  rw [take_snoc (get_list t k hk), valOf_snoc]
theorem take_lt {t : ByteArray} {k : Nat} (hk : k ≤ t.size) (h2 : t.size ≤ 18) (h : (t.data.toList.take k).all isDig = true) : (k < t.size → valOf (t.data.toList.take k) < 100000000000000000) ∧ valOf (t.data.toList.take k) < 1000000000000000000 := by
  have h3 := valOf_lt _ h
  have h4 : (t.data.toList.take k).length = k := by rw [List.length_take, size_list]; omega
  rw [h4] at h3
  refine ⟨fun hlt => Nat.lt_of_lt_of_le h3 ?_, Nat.lt_of_lt_of_le h3 ?_⟩
  · exact Nat.le_trans (Nat.pow_le_pow_right (by omega) (show k ≤ 17 by omega)) (by decide)
  · exact Nat.le_trans (Nat.pow_le_pow_right (by omega) (show k ≤ 18 by omega)) (by decide)
theorem trim_any (s : ByteArray) (w : World) :
    Calls Tryz.prog 122 #[.string s, .string ⟨#[45]⟩] w fun e w' => e = .returned (.string (bareB s)) ∧ w = w' := by
  refine (Tryz.strings_TrimPrefix _ _ _).mono ?_
  rintro e w' ⟨rfl, rfl⟩
  exact ⟨by rw [show (⟨#[45]⟩ : ByteArray).data.toList = [45] from rfl, trimPrefix_minus]; rfl, rfl⟩
set_option maxHeartbeats 1000000 in
theorem iRead_any (s : ByteArray) (w : World) (hG : Gl w) :
    Calls Tryz.prog 74 #[.string s] w fun e w' => e = .returned (.tuple #[.int .i64 (rdNum s.data.toList), .bool (rdOk s.data.toList)]) ∧ Below w.heap.size w w' := by
  have hc := hide (trim_any s w)
  have hSh := hide (rd_short (s := s))
  have hBa := hide (fun k hk h => rd_bad (s := s) (k := k) hk h)
  have hGo := hide (fun h1 h2 ha => rd_good (s := s) h1 h2 ha)
  have hV : Hid (rdVal s = if (bareB s).size < s.size then -(valOf (bareB s).data.toList : Int) else valOf (bareB s).data.toList) := hide rfl
  obtain ⟨t, ht⟩ : ∃ t, t = bareB s := ⟨_, rfl⟩
  rw [← ht] at hc hSh hBa hGo hV
  have hts : t.size ≤ s.size := by rw [ht, bareB_size]; have := (bare_le s.data.toList).1; rw [size_list] at this; exact this
  clear ht
  have hGh := hide hG
  clear hG
  by_cases h1 : (t.size : Int) < 1
  · have hE := hide (hSh.out (.inl (by omega)))
    go_enter Tryz.func74, Tryz.ntmps74
    go_wp2_with (go_at_call 122; refine hc.out.mono ?_; rintro e w' ⟨rfl, rfl⟩)
    go_ret2
    exact ⟨ret2ib hE.out.1.symm hE.out.2.symm, Below.refl _ _⟩
  by_cases h2 : (18 : Int) < t.size
  · have hE := hide (hSh.out (.inr (by omega)))
    go_enter Tryz.func74, Tryz.ntmps74
    go_wp2_with (go_at_call 122; refine hc.out.mono ?_; rintro e w' ⟨rfl, rfl⟩)
    go_ret2
    exact ⟨ret2ib hE.out.1.symm hE.out.2.symm, Below.refl _ _⟩
  have hs1 : 1 ≤ t.size := by omega
  have hs2 : t.size ≤ 18 := by omega
  go_enter Tryz.func74, Tryz.ntmps74
  go_wp2_with (go_at_call 122; refine hc.out.mono ?_; rintro e w' ⟨rfl, rfl⟩)
  go_loopw [5, 6] (fun n i wr => ∃ k : Nat, k ≤ t.size ∧ i = .int .i64 k ∧ n = .int .i64 (valOf (t.data.toList.take k)) ∧ w = wr ∧ Hid ((t.data.toList.take k).all isDig = true)) (fun _ i _ => t.size - (intOf i).toNat)
  case atStart => exact ⟨0, Nat.zero_le _, rfl, rfl, rfl, hide rfl⟩
  case round =>
    obtain ⟨k, hk, rfl, rfl, rfl, hall⟩ := hrel
    by_cases hlt : k < t.size
    · have hx1 := hide (take_val hlt)
      have hx2 := hide (take_lt (Nat.le_of_lt hlt) hs2 hall.out)
      have hb1 : valOf (t.data.toList.take k) < 100000000000000000 := hx2.out.1 hlt
      cases hd : isDig t[k]
      · have hE := hide (hBa.out k hlt hd)
        have hor : (t[k].toNat : Int) < 48 ∨ (57 : Int) < t[k].toNat := by simp [isDig] at hd; omega
        clear hd
        rcases hor with h3 | h3
        · go_wp2
          go_ret2
          exact ⟨ret2ib hE.out.1.symm hE.out.2.symm, Below.refl _ _⟩
        · go_wp2
          go_ret2
          exact ⟨ret2ib hE.out.1.symm hE.out.2.symm, Below.refl _ _⟩
      · have hA2 := hide (take_all hlt hall.out hd)
        have hd1 : (48 : Int) ≤ t[k].toNat := by simp [isDig] at hd; omega
        have hd2 : (t[k].toNat : Int) ≤ 57 := by simp [isDig] at hd; omega
        clear hd
        go_wp2
        go_round
        case rel => exact ⟨k + 1, by omega, by go_num, by rw [hx1.out]; congr 1; omega, trivial, hA2⟩
        case measure => simp [intOf]; omega
    · have hkn : k = t.size := by omega
      subst hkn
      have hfull : t.data.toList.take t.size = t.data.toList := List.take_of_length_le (by rw [size_list]; omega)
      have hx2 := hide (take_lt (Nat.le_refl _) hs2 hall.out)
      rw [hfull] at hall hx2 ⊢
      clear hfull
      have hb2 : valOf t.data.toList < 1000000000000000000 := hx2.out.2
      have hend := hide (hGo.out hs1 hs2 hall.out)
      obtain ⟨V, hVV⟩ : ∃ V, V = valOf t.data.toList := ⟨_, rfl⟩
      rw [← hVV] at hV hb2 ⊢
      clear hVV hx2 hall hc hSh hBa hGo
      by_cases h3 : (t.size : Int) < s.size
      · have hval : Hid (rdVal s = -(V : Int)) := hide (by rw [hV.out, if_pos (by omega)])
        by_cases h4 : decB (-(V : Int)) = s
        · have hE := hide (hend.out.1 (by rw [hval.out]; exact h4))
          rw [hval.out] at hE
          have e1 := str_eq h4
          have e2 : ((decB (-(V : Int))).toList != s.toList) = false := by rw [bne, e1]; rfl
          clear h4 hV
          go_wp2_with (go_at_call 36; refine (iDec_any _ _ (by omega) (by omega) hGh.out).mono ?_; rintro e w' ⟨rfl, hb⟩)
          go_ret2
          exact ⟨ret2ib hE.out.1.symm hE.out.2.symm, hb⟩
        · have hE := hide (hend.out.2 (by rw [hval.out]; exact h4))
          have e1 := str_ne h4
          have e2 : ((decB (-(V : Int))).toList != s.toList) = true := by rw [bne, e1]; rfl
          clear h4 hV
          go_wp2_with (go_at_call 36; refine (iDec_any _ _ (by omega) (by omega) hGh.out).mono ?_; rintro e w' ⟨rfl, hb⟩)
          go_ret2
          exact ⟨ret2ib hE.out.1.symm hE.out.2.symm, hb⟩
      · have hval : Hid (rdVal s = (V : Int)) := hide (by rw [hV.out, if_neg (by omega)])
        by_cases h4 : decB (V : Int) = s
        · have hE := hide (hend.out.1 (by rw [hval.out]; exact h4))
          rw [hval.out] at hE
          have e1 := str_eq h4
          have e2 : ((decB (V : Int)).toList != s.toList) = false := by rw [bne, e1]; rfl
          clear h4 hV
          go_wp2_with (go_at_call 36; refine (iDec_any _ _ (by omega) (by omega) hGh.out).mono ?_; rintro e w' ⟨rfl, hb⟩)
          go_ret2
          exact ⟨ret2ib hE.out.1.symm hE.out.2.symm, hb⟩
        · have hE := hide (hend.out.2 (by rw [hval.out]; exact h4))
          have e1 := str_ne h4
          have e2 : ((decB (V : Int)).toList != s.toList) = true := by rw [bne, e1]; rfl
          clear h4 hV
          go_wp2_with (go_at_call 36; refine (iDec_any _ _ (by omega) (by omega) hGh.out).mono ?_; rintro e w' ⟨rfl, hb⟩)
          go_ret2
          exact ⟨ret2ib hE.out.1.symm hE.out.2.symm, hb⟩
theorem bareB_minus {s : ByteArray} (h : 0 < s.size) (h45 : s[0].toNat = 45) : bareB s = s.extract 1 s.size := by
  unfold bareB
  have h0 := get_list s 0 h
  have he : (s.extract 1 s.size).data.toList = s.data.toList.drop 1 := Lib.extract_to_end ..
  cases hl : s.data.toList with
  | nil => rw [hl] at h0; cases h0
  | cons c r =>
    rw [hl] at h0 he
    have hc : c = s[0] := by simpa using h0
    have hc2 : c = 45 := by rw [hc]; exact UInt8.toNat_inj.1 h45
    subst hc2
    rw [bare_minus]
    have : (s.extract 1 s.size).data.toList = r := he
    rw [← this]
theorem bareB_other {s : ByteArray} (h : 0 < s.size) (h45 : ¬ s[0].toNat = 45) : bareB s = s := by
  unfold bareB
  rw [bare_other, mk_data]
  intro r hr
  have h0 := get_list s 0 h
  rw [hr] at h0
  have : (45 : UInt8) = s[0] := by simpa using h0
  exact h45 (by rw [← this]; rfl)
theorem bareB_empty {s : ByteArray} (h : s.size = 0) : bareB s = s := by
  unfold bareB
  rw [bare_other, mk_data]
  intro r hr
  have := size_list s
  rw [hr] at this; simp at this <;> omega
set_option maxHeartbeats 1000000 in
theorem sRead_none (s : ByteArray) (w : World) (h0 : s.size = 0) :
    Calls Tryz.prog 141 #[.string s] w fun e w' => e = .returned (.tuple #[.int .i64 (rdNum s.data.toList), .bool (rdOk s.data.toList)]) ∧ Below w.heap.size w w' := by
  have hE := hide (rd_short (s := s) (.inl (by rw [bareB_empty h0]; omega)))
  have he := size_zero h0
  have he2 : s.toList = [] := by simpa using he
  have hz : (s.size : Int) < 1 := by omega
  clear h0
  go_enter Tryz.func141, Tryz.ntmps141
  go_wp2
  go_ret2
  exact ⟨ret2ib hE.out.1.symm hE.out.2.symm, Below.refl _ _⟩
set_option maxHeartbeats 1000000 in
theorem sRead_plain (s : ByteArray) (w : World) (hs : s.size ≤ maxLen) (h0 : 0 < s.size) (h45 : ¬ s[0].toNat = 45) :
    Calls Tryz.prog 141 #[.string s] w fun e w' => e = .returned (.tuple #[.int .i64 (rdNum s.data.toList), .bool (rdOk s.data.toList)]) ∧ Below w.heap.size w w' := by
  unfold maxLen at hs
  have hSh := hide (rd_short (s := s))
  have hBa := hide (fun k hk h => rd_bad (s := s) (k := k) hk h)
  have hGo := hide (fun h1 h2 ha => rd_good (s := s) h1 h2 ha)
  have hV : Hid (rdVal s = if (bareB s).size < s.size then -(valOf (bareB s).data.toList : Int) else valOf (bareB s).data.toList) := hide rfl
  have hbs := bareB_other h0 h45
  rw [hbs] at hSh hBa hGo hV
  clear hbs
  have he := size_pos h0
  have he2 : ¬ s.toList = [] := by intro h; rw [h] at he; cases he
  have e45 : ((s[0].toNat : Int) == 45) = false := by simp; omega
  clear h45
  by_cases h1 : (s.size : Int) < 1
  · have hE := hide (hSh.out (.inl (by omega)))
    go_enter Tryz.func141, Tryz.ntmps141
    go_wp2
    go_ret2
    exact ⟨ret2ib hE.out.1.symm hE.out.2.symm, Below.refl _ _⟩
  by_cases h2 : (18 : Int) < s.size
  · have hE := hide (hSh.out (.inr (by omega)))
    go_enter Tryz.func141, Tryz.ntmps141
    go_wp2
    go_ret2
    exact ⟨ret2ib hE.out.1.symm hE.out.2.symm, Below.refl _ _⟩
  have hs1 : 1 ≤ s.size := by omega
  have hs2 : s.size ≤ 18 := by omega
  go_enter Tryz.func141, Tryz.ntmps141
  go_wp2
  clear he he2 e45
  go_loopw [5, 6] (fun n i wr => ∃ k : Nat, k ≤ s.size ∧ i = .int .i64 k ∧ n = .int .i64 (valOf (s.data.toList.take k)) ∧ w = wr ∧ Hid ((s.data.toList.take k).all isDig = true)) (fun _ i _ => s.size - (intOf i).toNat)
  case atStart => exact ⟨0, Nat.zero_le _, rfl, rfl, rfl, hide rfl⟩
  case round =>
    obtain ⟨k, hk, rfl, rfl, rfl, hall⟩ := hrel
    by_cases hlt : k < s.size
    · have hx1 := hide (take_val hlt)
      have hx2 := hide (take_lt (Nat.le_of_lt hlt) hs2 hall.out)
      have hb1 : valOf (s.data.toList.take k) < 100000000000000000 := hx2.out.1 hlt
      cases hd : isDig s[k]
      · have hE := hide (hBa.out k hlt hd)
        have hdB : inB (s[k].toNat : Int) 48 57 = false := by simp [isDig] at hd; simp [inB]; omega
        clear hd
        go_wp2_with (go_at_call 201; refine (digit_any _ _).mono ?_; rintro e w' ⟨rfl, rfl⟩)
        go_ret2
        exact ⟨ret2ib hE.out.1.symm hE.out.2.symm, Below.refl _ _⟩
      · have hA2 := hide (take_all hlt hall.out hd)
        have hd1 : (48 : Int) ≤ s[k].toNat := by simp [isDig] at hd; omega
        have hd2 : (s[k].toNat : Int) ≤ 57 := by simp [isDig] at hd; omega
        have hdB : inB (s[k].toNat : Int) 48 57 = true := by simp [isDig] at hd; simp [inB]; omega
        clear hd
        go_wp2_with (go_at_call 201; refine (digit_any _ _).mono ?_; rintro e w' ⟨rfl, rfl⟩)
        go_round
        case rel => exact ⟨k + 1, by omega, by go_num, by rw [hx1.out]; congr 1; omega, trivial, hA2⟩
        case measure => simp [intOf]; omega
    · have hkn : k = s.size := by omega
      subst hkn
      have hfull : s.data.toList.take s.size = s.data.toList := List.take_of_length_le (by rw [size_list]; omega)
      have hx2 := hide (take_lt (Nat.le_refl _) hs2 hall.out)
      rw [hfull] at hall hx2 ⊢
      clear hfull
      have hb2 : valOf s.data.toList < 1000000000000000000 := hx2.out.2
      have hend := hide (hGo.out hs1 hs2 hall.out)
      obtain ⟨V, hVV⟩ : ∃ V, V = valOf s.data.toList := ⟨_, rfl⟩
      rw [← hVV] at hV hb2 ⊢
      clear hVV hx2 hall hSh hBa hGo
      have hval : Hid (rdVal s = (V : Int)) := hide (by rw [hV.out, if_neg (by omega)])
      by_cases h4 : decB ((V : Int)) = s
      · have hE := hide (hend.out.1 (by rw [hval.out]; exact h4))
        rw [hval.out] at hE
        have e1 := str_eq h4
        have e2 : ((decB ((V : Int))).toList != s.toList) = false := by rw [bne, e1]; rfl
        clear h4 hV
        go_wp2_with (go_at_call 148; refine (sDec_any _ _ (by omega) (by omega)).mono ?_; rintro e w' ⟨rfl, hb⟩)
        go_ret2
        exact ⟨ret2ib hE.out.1.symm hE.out.2.symm, hb⟩
      · have hE := hide (hend.out.2 (by rw [hval.out]; exact h4))
        have e1 := str_ne h4
        have e2 : ((decB ((V : Int))).toList != s.toList) = true := by rw [bne, e1]; rfl
        clear h4 hV
        go_wp2_with (go_at_call 148; refine (sDec_any _ _ (by omega) (by omega)).mono ?_; rintro e w' ⟨rfl, hb⟩)
        go_ret2
        exact ⟨ret2ib hE.out.1.symm hE.out.2.symm, hb⟩
set_option maxHeartbeats 1000000 in
theorem sRead_minus (s : ByteArray) (w : World) (hs : s.size ≤ maxLen) (h0 : 0 < s.size) (h45 : s[0].toNat = 45) :
    Calls Tryz.prog 141 #[.string s] w fun e w' => e = .returned (.tuple #[.int .i64 (rdNum s.data.toList), .bool (rdOk s.data.toList)]) ∧ Below w.heap.size w w' := by
  unfold maxLen at hs
  have hSh := hide (rd_short (s := s))
  have hBa := hide (fun k hk h => rd_bad (s := s) (k := k) hk h)
  have hGo := hide (fun h1 h2 ha => rd_good (s := s) h1 h2 ha)
  have hV : Hid (rdVal s = if (bareB s).size < s.size then -(valOf (bareB s).data.toList : Int) else valOf (bareB s).data.toList) := hide rfl
  have hbs := bareB_minus h0 h45
  have hts : (bareB s).size < s.size := by rw [hbs, ByteArray.size_extract]; omega
  obtain ⟨t, ht⟩ : ∃ t, t = bareB s := ⟨_, rfl⟩
  rw [← ht] at hSh hBa hGo hV hts hbs
  have hxt : s.extract 1 s.size = t := hbs.symm
  clear hbs ht
  have he := size_pos h0
  have he2 : ¬ s.toList = [] := by intro h; rw [h] at he; cases he
  have e45 : ((s[0].toNat : Int) == 45) = true := by simp; omega
  clear h45
  by_cases h1 : (t.size : Int) < 1
  · have hE := hide (hSh.out (.inl (by omega)))
    go_enter Tryz.func141, Tryz.ntmps141
    go_wp2
    go_ret2
    exact ⟨ret2ib hE.out.1.symm hE.out.2.symm, Below.refl _ _⟩
  by_cases h2 : (18 : Int) < t.size
  · have hE := hide (hSh.out (.inr (by omega)))
    go_enter Tryz.func141, Tryz.ntmps141
    go_wp2
    go_ret2
    exact ⟨ret2ib hE.out.1.symm hE.out.2.symm, Below.refl _ _⟩
  have hs1 : 1 ≤ t.size := by omega
  have hs2 : t.size ≤ 18 := by omega
  go_enter Tryz.func141, Tryz.ntmps141
  go_wp2
  clear he he2 e45 hxt
  go_loopw [5, 6] (fun n i wr => ∃ k : Nat, k ≤ t.size ∧ i = .int .i64 k ∧ n = .int .i64 (valOf (t.data.toList.take k)) ∧ w = wr ∧ Hid ((t.data.toList.take k).all isDig = true)) (fun _ i _ => t.size - (intOf i).toNat)
  case atStart => exact ⟨0, Nat.zero_le _, rfl, rfl, rfl, hide rfl⟩
  case round =>
    obtain ⟨k, hk, rfl, rfl, rfl, hall⟩ := hrel
    by_cases hlt : k < t.size
    · have hx1 := hide (take_val hlt)
      have hx2 := hide (take_lt (Nat.le_of_lt hlt) hs2 hall.out)
      have hb1 : valOf (t.data.toList.take k) < 100000000000000000 := hx2.out.1 hlt
      cases hd : isDig t[k]
      · have hE := hide (hBa.out k hlt hd)
        have hdB : inB (t[k].toNat : Int) 48 57 = false := by simp [isDig] at hd; simp [inB]; omega
        clear hd
        go_wp2_with (go_at_call 201; refine (digit_any _ _).mono ?_; rintro e w' ⟨rfl, rfl⟩)
        go_ret2
        exact ⟨ret2ib hE.out.1.symm hE.out.2.symm, Below.refl _ _⟩
      · have hA2 := hide (take_all hlt hall.out hd)
        have hd1 : (48 : Int) ≤ t[k].toNat := by simp [isDig] at hd; omega
        have hd2 : (t[k].toNat : Int) ≤ 57 := by simp [isDig] at hd; omega
        have hdB : inB (t[k].toNat : Int) 48 57 = true := by simp [isDig] at hd; simp [inB]; omega
        clear hd
        go_wp2_with (go_at_call 201; refine (digit_any _ _).mono ?_; rintro e w' ⟨rfl, rfl⟩)
        go_round
        case rel => exact ⟨k + 1, by omega, by go_num, by rw [hx1.out]; congr 1; omega, trivial, hA2⟩
        case measure => simp [intOf]; omega
    · have hkn : k = t.size := by omega
      subst hkn
      have hfull : t.data.toList.take t.size = t.data.toList := List.take_of_length_le (by rw [size_list]; omega)
      have hx2 := hide (take_lt (Nat.le_refl _) hs2 hall.out)
      rw [hfull] at hall hx2 ⊢
      clear hfull
      have hb2 : valOf t.data.toList < 1000000000000000000 := hx2.out.2
      have hend := hide (hGo.out hs1 hs2 hall.out)
      obtain ⟨V, hVV⟩ : ∃ V, V = valOf t.data.toList := ⟨_, rfl⟩
      rw [← hVV] at hV hb2 ⊢
      clear hVV hx2 hall hSh hBa hGo
      have h3 : (t.size : Int) < s.size := by omega
      have hval : Hid (rdVal s = -(V : Int)) := hide (by rw [hV.out, if_pos (by omega)])
      by_cases h4 : decB (-(V : Int)) = s
      · have hE := hide (hend.out.1 (by rw [hval.out]; exact h4))
        rw [hval.out] at hE
        have e1 := str_eq h4
        have e2 : ((decB (-(V : Int))).toList != s.toList) = false := by rw [bne, e1]; rfl
        clear h4 hV
        go_wp2_with (go_at_call 148; refine (sDec_any _ _ (by omega) (by omega)).mono ?_; rintro e w' ⟨rfl, hb⟩)
        go_ret2
        exact ⟨ret2ib hE.out.1.symm hE.out.2.symm, hb⟩
      · have hE := hide (hend.out.2 (by rw [hval.out]; exact h4))
        have e1 := str_ne h4
        have e2 : ((decB (-(V : Int))).toList != s.toList) = true := by rw [bne, e1]; rfl
        clear h4 hV
        go_wp2_with (go_at_call 148; refine (sDec_any _ _ (by omega) (by omega)).mono ?_; rintro e w' ⟨rfl, hb⟩)
        go_ret2
        exact ⟨ret2ib hE.out.1.symm hE.out.2.symm, hb⟩
theorem sRead_any (s : ByteArray) (w : World) (hs : s.size ≤ maxLen) :
    Calls Tryz.prog 141 #[.string s] w fun e w' => e = .returned (.tuple #[.int .i64 (rdNum s.data.toList), .bool (rdOk s.data.toList)]) ∧ Below w.heap.size w w' := by
  rcases Nat.eq_zero_or_pos s.size with h | h
  · exact sRead_none s w h
  · by_cases h45 : s[0].toNat = 45
    · exact sRead_minus s w hs h h45
    · exact sRead_plain s w hs h h45
end Go.Proofs.YtfpaejlipaainaaGreatDoor
