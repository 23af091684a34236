/- Contracts: a log read, the program's way. -/
import Derived.Test.YtceajnoppdfeaaaGreatDoorLogE
import Derived.Test.YtceajnoppdfeaaaGreatDoorLogD
namespace Go.Proofs.YtceajnoppdfeaaaGreatDoor
open Go.ChangeShapes Go.WideShapes Go.ChangeAt Go.RowKit Go.Deep
set_option maxRecDepth 100000
theorem index_nl : ∀ l : List UInt8, Lib.index l [10] = if 10 ∈ l then (((l.takeWhile (· ≠ 10)).length : Nat) : Int) else -1
  | [] => rfl
  | b :: l => by
    have ih := index_nl l
    by_cases hb : b = 10
    · subst hb
      rw [Lib.index]
      simp [List.isPrefixOf]
    · have hp : ([10] : List UInt8).isPrefixOf (b :: l) = false := by simp [List.isPrefixOf, Ne.symm hb]
      rw [Lib.index, hp, ih]
      have h1 : (10 ∈ b :: l) ↔ (10 ∈ l) := by simp [Ne.symm hb]
      by_cases hm : 10 ∈ l
      · have hd : decide (b ≠ 10) = true := decide_eq_true hb
        rw [if_pos hm, if_pos (h1.2 hm), List.takeWhile_cons, if_pos hd, List.length_cons]
        rw [if_neg Bool.false_ne_true, if_neg (fun h => by have := beq_iff_eq.1 h; omega)]; omega
      · rw [if_neg hm, if_neg (fun e => hm (h1.1 e))]; rfl
theorem cut_none {l : List UInt8} (h : lineOf l = none) : Lib.cut l [10] = (l, [], false) := by
  unfold lineOf at h
  split at h
  · cases h
  · rename_i hm
    unfold Lib.cut
    rw [index_nl, if_neg hm]; rfl
theorem cut_some {l x : List UInt8} (h : lineOf l = some x) : ∃ r, Lib.cut l [10] = (x, r, true) := by
  unfold lineOf at h
  split at h
  · rename_i hm
    injection h with h
    unfold Lib.cut
    rw [index_nl, if_pos hm, if_pos (by omega), Int.toNat_natCast, ← h]
    refine ⟨l.drop ((l.takeWhile (· ≠ 10)).length + 1), ?_⟩
    have ht : l.take (l.takeWhile (· ≠ 10)).length = l.takeWhile (· ≠ 10) := (List.prefix_iff_eq_take.1 (List.takeWhile_prefix _)).symm
    rw [ht]; rfl
  · cases h
def CutPost (a b : ByteArray) (k : Bool) (w : World) (e : Ending) (w' : World) : Prop := e = .returned (.tuple #[.string a, .string b, .bool k]) ∧ Below w.heap.size w w'
theorem iCut_none (s : ByteArray) (w : World) (hs : s.size ≤ 1000000) (hG : Gl w) (h : lineOf s.data.toList = none) :
    Calls Tryz.prog 57 #[.string s, .string ⟨#[10]⟩] w (CutPost s ⟨#[]⟩ false w) := by
  refine (Tryz.strings_Cut_shaped s ⟨#[10]⟩ w hG.2 (by omega)).mono ?_
  rintro e w' ⟨rfl, n, rfl⟩
  rw [show (⟨#[10]⟩ : ByteArray).data.toList = [10] from rfl, cut_none h]
  exact ⟨by rw [mk_data], below_drewN (Below.refl _ _) _⟩
theorem iCut_some (s : ByteArray) (w : World) (hs : s.size ≤ 1000000) (hG : Gl w) {x r : List UInt8} (h : Lib.cut s.data.toList [10] = (x, r, true)) :
    Calls Tryz.prog 57 #[.string s, .string ⟨#[10]⟩] w (CutPost ⟨x.toArray⟩ ⟨r.toArray⟩ true w) := by
  refine (Tryz.strings_Cut_shaped s ⟨#[10]⟩ w hG.2 (by omega)).mono ?_
  rintro e w' ⟨rfl, n, rfl⟩
  rw [show (⟨#[10]⟩ : ByteArray).data.toList = [10] from rfl, h]
  exact ⟨rfl, below_drewN (Below.refl _ _) _⟩
def IRead (s : ByteArray) (w w' : World) (e : Ending) : Prop := ∃ v, e = .returned (.tuple #[v, .int .i64 ((rdLog s).2.1 : Int), .int .i64 (rdLog s).2.2]) ∧ Own Entry.cells 90 3 w' w.heap.size v (rdLog s).1.length (rdLog s).1 ∧ Below w.heap.size w w'
theorem rest_list (s : ByteArray) (a : Nat) : (s.extract a s.size).data.toList = s.data.toList.drop a := Lib.extract_to_end s a
set_option maxHeartbeats 2000000 in
theorem iRead_log (s : ByteArray) (w : World) (hs : s.size ≤ 4000) (hG : Gl w) : Calls Tryz.prog 38 #[.string s] w fun e w' => IRead s w w' e := by
  have hGh := hide hG
  clear hG
  go_enter Tryz.func38, Tryz.ntmps38
  go_wp2
  go_loopw [5, 6, 7, 8] (fun v i m d wr => ∃ (done : List Entry) (at_ : Nat) (st : Int), i = .int .i64 at_ ∧ m = .int .i64 st ∧ d = .int .i64 (lastDay done) ∧ at_ ≤ s.size ∧ done.length ≤ at_ ∧ 0 ≤ st ∧ st ≤ 65518 ∧ Own Entry.cells 90 3 wr w.heap.size v done.length done ∧ Hid (LogInv s done at_ st (lastDay done)) ∧ Below w.heap.size w wr) (fun _ i _ _ _ => s.size - (intOf i).toNat)
  case atStart => exact ⟨[], 0, 0, rfl, rfl, rfl, Nat.zero_le _, Nat.le_refl _, by omega, by omega, Own.none_made w (Nat.le_refl _), hide (log_start s), (Below.refl _ _).alloc (Nat.le_refl _) _⟩
  case round =>
    obtain ⟨done, at_, st, rfl, rfl, rfl, hat, hdl, h0, h1, ho, hinv, hb⟩ := hrel
    obtain ⟨Av, cv, rfl, _⟩ := ho.slice
    have hO := hide ho
    have hB := hide hb
    clear ho hb
    have hGr := hide (hGh.out.below hB.out)
    obtain ⟨day, hday⟩ : ∃ day, day = lastDay done := ⟨_, rfl⟩
    rw [← hday] at hinv ⊢
    have hDay := hide hday
    clear hday
    have hzr : (s.extract at_ s.size).size ≤ 1000000 := by rw [ByteArray.size_extract]; omega
    cases hln : lineOf (s.data.toList.drop at_) with
    | none =>
      have hE := hide (log_end hinv.out (step_noline hln))
      have hc := hide (iCut_none (s.extract at_ s.size) wr hzr hGr.out (by rw [rest_list]; exact hln))
      clear hln hinv
      go_wp2_with fail
      refine hc.out.mono ?_
      rintro e w2 ⟨rfl, hb⟩
      have hB2 := hide (Below.up hB.out hb)
      have hO2 := hide (hO.out.below hb)
      clear hb hB hO
      go_wp2_with fail
      refine (iLineM_any (s.extract at_ s.size) _ hzr (hGh.out.below hB2.out)).mono ?_
      rintro e w3 ⟨rfl, hb⟩
      have hB3 := hide (Below.up hB2.out hb)
      have hO3 := hide (hO2.out.below hb)
      clear hb
      go_wp2
      go_ret3
      exact ⟨_, by rw [hE.out]; rfl, by rw [hE.out]; exact hO3.out.below ((Below.refl _ _).alloc (Nat.le_refl _) _), hB3.out.alloc hB3.out.size _⟩
    | some l =>
      obtain ⟨r, hcut⟩ := cut_some hln
      have hll := lineOf_len hln
      rw [List.length_drop, size_list] at hll
      have hc := hide (iCut_some (s.extract at_ s.size) wr hzr hGr.out (by rw [rest_list]; exact hcut))
      clear hcut
      obtain ⟨Lb, hLb⟩ : ∃ Lb : ByteArray, Lb = ⟨l.toArray⟩ := ⟨_, rfl⟩
      have hLs1 : Lb.size ≤ l.length := by rw [hLb]; exact Nat.le_refl _
      have hLs2 : l.length ≤ Lb.size := by rw [hLb]; exact Nat.le_refl _
      have hLl : Lb.data.toList = l := by rw [hLb]
      rw [← hLb] at hc
      have hLbh := hide hLb
      clear hLb
      obtain ⟨Rb, hRb⟩ : ∃ Rb : ByteArray, Rb = ⟨r.toArray⟩ := ⟨_, rfl⟩
      rw [← hRb] at hc
      clear hRb
      have hlz : Lb.size ≤ 1000000 := by omega
      have hrl := hide (fun W hg => iLineM_any Lb W hlz hg)
      have hen : rlOk Lb = true → entOf l = some (rlEnt Lb) ∧ (rlEnt Lb).ok = true := fun h => by rw [← hLl]; exact rl_ent h
      have hno : rlOk Lb = false → entOf l = none := fun h => by rw [← hLl]; exact rl_none h
      obtain ⟨X, hX⟩ : ∃ X, X = rlEnt Lb := ⟨_, rfl⟩
      rw [← hX] at hrl hen
      clear hX
      cases hK : rlOk Lb with
      | false =>
        have hE := hide (log_end hinv.out (step_noent hln (hno hK)))
        rw [hK] at hrl
        clear hln hinv hno hen hK hLl
        go_wp2_with fail
        refine hc.out.mono ?_
        rintro e w2 ⟨rfl, hb⟩
        have hB2 := hide (Below.up hB.out hb)
        have hO2 := hide (hO.out.below hb)
        clear hb hB hO
        go_wp2_with fail
        refine (hrl.out _ (hGh.out.below hB2.out)).mono ?_
        rintro e w3 ⟨rfl, hb⟩
        have hB3 := hide (Below.up hB2.out hb)
        have hO3 := hide (hO2.out.below hb)
        clear hb
        go_wp2
        go_ret3
        exact ⟨_, by rw [hE.out]; rfl, by rw [hE.out]; exact hO3.out.below ((Below.refl _ _).alloc (Nat.le_refl _) _), hB3.out.alloc hB3.out.size _⟩
      | true =>
        obtain ⟨he, hk⟩ := hen hK
        rw [hK] at hrl
        clear hno hen hK hLl
        have hkh := hide hk
        obtain ⟨⟨b1, b2⟩, _, b3, b4⟩ := Entry.ok_iff.1 hk
        obtain ⟨r1, r2⟩ := stampB_range st (entB X)
        clear hk
        by_cases hd : X.fDay < day
        · have hE := hide (log_end hinv.out (step_bad hln he (by unfold okLine; rw [decide_eq_false (by omega)]; rfl)))
          clear hln hinv he
          go_wp2_with fail
          refine hc.out.mono ?_
          rintro e w2 ⟨rfl, hb⟩
          have hB2 := hide (Below.up hB.out hb)
          have hO2 := hide (hO.out.below hb)
          clear hb hB hO
          go_wp2_with fail
          refine (hrl.out _ (hGh.out.below hB2.out)).mono ?_
          rintro e w3 ⟨rfl, hb⟩
          have hB3 := hide ((Below.up hB2.out hb).alloc (Below.up hB2.out hb).size (.cells #[.int .i64 X.fDay, .string X.fWhat, .int .i64 X.fValue] 90))
          have hO3 := hide ((hO2.out.below hb).below ((Below.refl _ _).alloc (Nat.le_refl _) (.cells #[.int .i64 X.fDay, .string X.fWhat, .int .i64 X.fValue] 90)))
          clear hb
          go_wp2
          go_ret3
          exact ⟨_, by rw [hE.out]; rfl, by rw [hE.out]; exact hO3.out, hB3.out⟩
        have hq : (⟨(l ++ [10]).toArray⟩ : ByteArray) = Lb ++ ⟨#[10]⟩ := by rw [hLbh.out]; exact (dec_append l [10]).symm
        have hcat := cat_run Lb ⟨#[10]⟩ (by simp only [one_size]; omega)
        by_cases hs5 : lineB (stampB st (entB X)) X = Lb ++ ⟨#[10]⟩
        · have hE := hide (log_step hinv.out (step_good hln he (by unfold okLine; rw [decide_eq_true (by omega), decide_eq_true (by rw [hq]; exact hs5)]; rfl)))
          have e5 := str_eq hs5
          have e6 : ((lineB (stampB st (entB X)) X).toList != (Lb ++ ⟨#[10]⟩).toList) = false := by rw [bne, e5]; rfl
          clear hln hinv he hq hs5
          go_wp2_with fail
          refine hc.out.mono ?_
          rintro e w2 ⟨rfl, hb⟩
          have hB2 := hide (Below.up hB.out hb)
          have hO2 := hide (hO.out.below hb)
          clear hb hB hO
          go_wp2_with fail
          refine (hrl.out _ (hGh.out.below hB2.out)).mono ?_
          rintro e w3 ⟨rfl, hb⟩
          have hB3 := hide ((Below.up hB2.out hb).alloc (Below.up hB2.out hb).size (.cells #[.int .i64 X.fDay, .string X.fWhat, .int .i64 X.fValue] 90))
          have hne3 := hide (fun e => Nat.lt_irrefl _ ((hO2.out.below hb).2.lt w3.heap.size e).2 : (Value.slice Av done.length cv).ownBlock ≠ some w3.heap.size)
          have hO3 := hide ((hO2.out.below hb).below ((Below.refl _ _).alloc (Nat.le_refl _) (.cells #[.int .i64 X.fDay, .string X.fWhat, .int .i64 X.fValue] 90)))
          clear hb
          have k0 : (w3.alloc (.cells #[.int .i64 X.fDay, .string X.fWhat, .int .i64 X.fValue] 90)).cell? ⟨w3.heap.size, 0, none⟩ = some (.int .i64 X.fDay) := by rw [cell_of_row _ _ _ _ _ _ (heap_alloc_new w3 _)]; rfl
          have k1 : (w3.alloc (.cells #[.int .i64 X.fDay, .string X.fWhat, .int .i64 X.fValue] 90)).cell? ⟨w3.heap.size, 1, none⟩ = some (.string X.fWhat) := by rw [cell_of_row _ _ _ _ _ _ (heap_alloc_new w3 _)]; rfl
          have k2 : (w3.alloc (.cells #[.int .i64 X.fDay, .string X.fWhat, .int .i64 X.fValue] 90)).cell? ⟨w3.heap.size, 2, none⟩ = some (.int .i64 X.fValue) := by rw [cell_of_row _ _ _ _ _ _ (heap_alloc_new w3 _)]; rfl
          have hz3 : w3.heap.size < (w3.alloc (.cells #[.int .i64 X.fDay, .string X.fWhat, .int .i64 X.fValue] 90)).heap.size := by simp
          have hqs : (w3.alloc (.cells #[.int .i64 X.fDay, .string X.fWhat, .int .i64 X.fValue] 90)).heap.size = w3.heap.size + 1 := by simp
          have hq3 : w3.heap.size + 1 ≤ (w3.alloc (.cells #[.int .i64 X.fDay, .string X.fWhat, .int .i64 X.fValue] 90)).heap.size := by omega
          clear hqs
          go_wp2_with fail
          have hnb := hide (heap_alloc_new w3 (.cells #[.int .i64 X.fDay, .string X.fWhat, .int .i64 X.fValue] 90))
          obtain ⟨W3, hW3⟩ : ∃ W3, W3 = w3.alloc (.cells #[.int .i64 X.fDay, .string X.fWhat, .int .i64 X.fValue] 90) := ⟨_, rfl⟩
          rw [← hW3] at k0 k1 k2 hz3 hB3 hO3 hq3 hnb ⊢
          clear hW3
          have i0 := hide k0
          have i1 := hide k1
          have i2 := hide k2
          refine (iLine_any st X _ h0 h1 hkh.out (hGh.out.below hB3.out)).mono ?_
          rintro e w4 ⟨rfl, hb⟩
          have hC4 := hide hb
          have hB4 := hide (Below.up hB3.out hb)
          have hO4 := hide (hO3.out.below hb)
          have hnb4 := hide (blk_below hnb.out hb)
          clear hb k0 k1 k2 hB3 hO3
          have hz4 : w3.heap.size < w4.heap.size := Nat.lt_of_lt_of_le hz3 hC4.out.size
          have k0 := keepc hC4.out hz3 i0.out
          have k1 := keepc hC4.out hz3 i1.out
          have k2 := keepc hC4.out hz3 i2.out
          go_wp2_with (at_builtin; refine wpl_app1 rfl (.tmp 59) (.tmp 61) _ rfl Tryz.underlying67 info_Entry' rfl (by omega) (by omega) rfl hO4.out X _ rfl rfl rfl (Entry.one _) (by omega) hB4.out.size ?_; intro v5 w5 ho5 hg5; have hB5 := hide (hO4.out.grown hB4.out hg5); have hO5 := hide ho5; have hnb5 := hide ((hg5.block w3.heap.size hz4 (fun e => hne3.out e.symm)).trans hnb4.out); clear ho5 hg5)
          have m0 : w5.cell? ⟨w3.heap.size, 0, none⟩ = some (.int .i64 X.fDay) := by rw [cell_of_row _ _ _ _ _ _ hnb5.out]; rfl
          have m1 : w5.cell? ⟨w3.heap.size, 1, none⟩ = some (.string X.fWhat) := by rw [cell_of_row _ _ _ _ _ _ hnb5.out]; rfl
          have m2 : w5.cell? ⟨w3.heap.size, 2, none⟩ = some (.int .i64 X.fValue) := by rw [cell_of_row _ _ _ _ _ _ hnb5.out]; rfl
          have hz5 := blk_lt hnb5.out
          have p0 := hide m0
          have p1 := hide m1
          have p2 := hide m2
          clear k0 k1 k2
          go_wp2_with fail
          have hF := hide (below_drewN (Below.refl w5.heap.size w5) 1)
          go_region_held3 (fun w' => w'.cell? ⟨w3.heap.size, 0, none⟩ = some (.int .i64 X.fDay) ∧ w'.cell? ⟨w3.heap.size, 1, none⟩ = some (.string X.fWhat) ∧ w'.cell? ⟨w3.heap.size, 2, none⟩ = some (.int .i64 X.fValue)) (first | go_keep | exact ⟨keepc hF.out hz5 p0.out, keepc hF.out hz5 p1.out, keepc hF.out hz5 p2.out⟩)
            (first | (go_at_call 60; refine (iStamp_any st X _ h0 h1 hkh.out (by exact hGh.out.below (Below.up hB5.out hF.out))).mono ?_; rintro e w6 ⟨rfl, hb⟩; replace hF := hide (Below.up hF.out hb); clear hb) | fail)
          all_goals go_wp2
          all_goals go_roundw
          case rel => exact ⟨done ++ [X], at_ + (l.length + 1), stampB st (entB X), by congr 1; omega, rfl, by rw [lastDay_snoc], by omega, by simp; omega, r1, r2, by rw [List.length_append]; exact hO5.out.below hF.out, by rw [lastDay_snoc]; exact hE, Below.up hB5.out hF.out⟩
          case measure => simp [intOf]; omega
        · have hE := hide (log_end hinv.out (step_bad hln he (by unfold okLine; rw [decide_eq_false (p := lineB _ _ = _) (by rw [hq]; exact hs5)]; simp)))
          have e5 := str_ne hs5
          have e6 : ((lineB (stampB st (entB X)) X).toList != (Lb ++ ⟨#[10]⟩).toList) = true := by rw [bne, e5]; rfl
          clear hln hinv he hq hs5
          go_wp2_with fail
          refine hc.out.mono ?_
          rintro e w2 ⟨rfl, hb⟩
          have hB2 := hide (Below.up hB.out hb)
          have hO2 := hide (hO.out.below hb)
          clear hb hB hO
          go_wp2_with fail
          refine (hrl.out _ (hGh.out.below hB2.out)).mono ?_
          rintro e w3 ⟨rfl, hb⟩
          have hB3 := hide ((Below.up hB2.out hb).alloc (Below.up hB2.out hb).size (.cells #[.int .i64 X.fDay, .string X.fWhat, .int .i64 X.fValue] 90))
          have hO3 := hide ((hO2.out.below hb).below ((Below.refl _ _).alloc (Nat.le_refl _) (.cells #[.int .i64 X.fDay, .string X.fWhat, .int .i64 X.fValue] 90)))
          clear hb
          have k0 : (w3.alloc (.cells #[.int .i64 X.fDay, .string X.fWhat, .int .i64 X.fValue] 90)).cell? ⟨w3.heap.size, 0, none⟩ = some (.int .i64 X.fDay) := by rw [cell_of_row _ _ _ _ _ _ (heap_alloc_new w3 _)]; rfl
          have k1 : (w3.alloc (.cells #[.int .i64 X.fDay, .string X.fWhat, .int .i64 X.fValue] 90)).cell? ⟨w3.heap.size, 1, none⟩ = some (.string X.fWhat) := by rw [cell_of_row _ _ _ _ _ _ (heap_alloc_new w3 _)]; rfl
          have k2 : (w3.alloc (.cells #[.int .i64 X.fDay, .string X.fWhat, .int .i64 X.fValue] 90)).cell? ⟨w3.heap.size, 2, none⟩ = some (.int .i64 X.fValue) := by rw [cell_of_row _ _ _ _ _ _ (heap_alloc_new w3 _)]; rfl
          have hz3 : w3.heap.size < (w3.alloc (.cells #[.int .i64 X.fDay, .string X.fWhat, .int .i64 X.fValue] 90)).heap.size := by simp
          have hqs : (w3.alloc (.cells #[.int .i64 X.fDay, .string X.fWhat, .int .i64 X.fValue] 90)).heap.size = w3.heap.size + 1 := by simp
          have hq3 : w3.heap.size + 1 ≤ (w3.alloc (.cells #[.int .i64 X.fDay, .string X.fWhat, .int .i64 X.fValue] 90)).heap.size := by omega
          clear hqs
          go_wp2_with fail
          obtain ⟨W3, hW3⟩ : ∃ W3, W3 = w3.alloc (.cells #[.int .i64 X.fDay, .string X.fWhat, .int .i64 X.fValue] 90) := ⟨_, rfl⟩
          rw [← hW3] at k0 k1 k2 hz3 hB3 hO3 hq3 ⊢
          clear hW3
          have i0 := hide k0
          have i1 := hide k1
          have i2 := hide k2
          refine (iLine_any st X _ h0 h1 hkh.out (hGh.out.below hB3.out)).mono ?_
          rintro e w4 ⟨rfl, hb⟩
          have hC4 := hide hb
          have hB4 := hide (Below.up hB3.out hb)
          have hO4 := hide (hO3.out.below hb)
          clear hb k0 k1 k2 hB3 hO3
          go_wp2
          go_ret3
          exact ⟨_, by rw [hE.out]; rfl, by rw [hE.out]; exact hO4.out, hB4.out⟩
end Go.Proofs.YtceajnoppdfeaaaGreatDoor
