/- Contracts: a decimal read, the program's and the reference's. -/
import Derived.Test.YtpnbnhhifgcklaaDoorDec
import Derived.Test.YtpnbnhhifgcklaaDoorName
namespace Go.Proofs.YtpnbnhhifgcklaaDoor
open Go.ChangeShapes Go.WideShapes Go.ChangeAt Go.RowKit Go.Deep
set_option maxRecDepth 100000
theorem ret2ib {a a' : Int} {b b' : Bool} (h : a = a') (h' : b = b') : Ending.returned (.tuple #[.int .i64 a, .bool b]) = .returned (.tuple #[.int .i64 a', .bool b']) := by rw [h, h']
def bareB (s : ByteArray) : ByteArray := ⟨(bare s.data.toList).toArray⟩
theorem size_list (s : ByteArray) : s.data.toList.length = s.size := by rw [Array.length_toList]; rfl
theorem bareB_size (s : ByteArray) : (bareB s).size = (bare s.data.toList).length := List.size_toArray ..
theorem bareB_list (s : ByteArray) : (bareB s).data.toList = bare s.data.toList := rfl
theorem get_list (s : ByteArray) (k : Nat) (h : k < s.size) : s.data.toList[k]? = some s[k] := by
  rw [List.getElem?_eq_getElem (by rw [size_list]; exact h)]; rfl
theorem rd_short {s : ByteArray} (h : (bareB s).size < 1 ∨ 18 < (bareB s).size) : rdNum s.data.toList = 0 ∧ rdOk s.data.toList = false := by
  have hk : rdOk s.data.toList = false := by
    unfold rdOk
    rw [bareB_size] at h
    rcases h with h | h
    · rw [decide_eq_false (by omega)]; rfl
    · rw [decide_eq_false (p := (bare s.data.toList).length ≤ 18) (by omega)]; simp
  exact ⟨by unfold rdNum; rw [hk]; rfl, hk⟩
theorem rd_bad {s : ByteArray} {k : Nat} (hk : k < (bareB s).size) (h : isDig (bareB s)[k] = false) : rdNum s.data.toList = 0 ∧ rdOk s.data.toList = false := by
  have hx := get_list (bareB s) k hk
  rw [bareB_list] at hx
  have hk : rdOk s.data.toList = false := by
    unfold rdOk
    rw [all_not hx h]; simp
  exact ⟨by unfold rdNum; rw [hk]; rfl, hk⟩
def rdVal (s : ByteArray) : Int := if (bareB s).size < s.size then -(valOf (bareB s).data.toList : Int) else valOf (bareB s).data.toList
theorem rdVal_signed (s : ByteArray) : rdVal s = rdSigned s.data.toList := by
  unfold rdVal rdSigned
  rw [bareB_size, ← size_list]; rfl
theorem rd_good {s : ByteArray} (h1 : 1 ≤ (bareB s).size) (h2 : (bareB s).size ≤ 18) (ha : (bareB s).data.toList.all isDig = true) :
    (decB (rdVal s) = s → rdNum s.data.toList = rdVal s ∧ rdOk s.data.toList = true) ∧ (¬ decB (rdVal s) = s → rdNum s.data.toList = 0 ∧ rdOk s.data.toList = false) := by
  have hk : rdOk s.data.toList = decide (Lib.itoa (rdSigned s.data.toList) = s.data.toList) := by
    unfold rdOk
    rw [bareB_size] at h1 h2
    rw [bareB_list] at ha
    rw [decide_eq_true h1, decide_eq_true h2, ha]; rfl
  have he : (decB (rdVal s) = s) ↔ Lib.itoa (rdSigned s.data.toList) = s.data.toList := by
    rw [rdVal_signed]
    constructor
    · intro h; exact congrArg (fun x : ByteArray => x.data.toList) h
    · intro h; unfold decB; rw [h]
  refine ⟨fun h => ?_, fun h => ?_⟩
  · have : rdOk s.data.toList = true := by rw [hk]; exact decide_eq_true (he.1 h)
    exact ⟨by unfold rdNum; rw [this, rdVal_signed]; rfl, this⟩
  · have : rdOk s.data.toList = false := by rw [hk]; exact decide_eq_false (fun e => h (he.2 e))
    exact ⟨by unfold rdNum; rw [this]; rfl, this⟩
theorem take_all {t : ByteArray} {k : Nat} (hk : k < t.size) (h : (t.data.toList.take k).all isDig = true) (hd : isDig t[k] = true) : (t.data.toList.take (k + 1)).all isDig = true := by
  rw [take_snoc (get_list t k hk), List.all_append, h]; simp [hd]
theorem take_val {t : ByteArray} {k : Nat} (hk : k < t.size) : valOf (t.data.toList.take (k + 1)) = 10 * valOf (t.data.toList.take k) + (t[k].toNat - 48) := by
  rw [take_snoc (get_list t k hk), valOf_snoc]
theorem take_lt {t : ByteArray} {k : Nat} (hk : k ≤ t.size) (h2 : t.size ≤ 18) (h : (t.data.toList.take k).all isDig = true) : (k < t.size → valOf (t.data.toList.take k) < 100000000000000000) ∧ valOf (t.data.toList.take k) < 1000000000000000000 := by
  have h3 := valOf_lt _ h
  have h4 : (t.data.toList.take k).length = k := by rw [List.length_take, size_list]; omega
  rw [h4] at h3
  refine ⟨fun hlt => Nat.lt_of_lt_of_le h3 ?_, Nat.lt_of_lt_of_le h3 ?_⟩
  · exact Nat.le_trans (Nat.pow_le_pow_right (by omega) (show k ≤ 17 by omega)) (by decide)
  · exact Nat.le_trans (Nat.pow_le_pow_right (by omega) (show k ≤ 18 by omega)) (by decide)
theorem trim_any (s : ByteArray) (w : World) :
    Calls Tryd.prog 41 #[.string s, .string ⟨#[45]⟩] w fun e w' => e = .returned (.string (bareB s)) ∧ w = w' := by
  refine (Tryd.strings_TrimPrefix _ _ _).mono ?_
  rintro e w' ⟨rfl, rfl⟩
  exact ⟨by rw [show (⟨#[45]⟩ : ByteArray).data.toList = [45] from rfl, trimPrefix_minus]; rfl, rfl⟩
set_option maxHeartbeats 1000000 in
theorem iRead_any (s : ByteArray) (w : World) (hG : Gl w) :
    Calls Tryd.prog 27 #[.string s] w fun e w' => e = .returned (.tuple #[.int .i64 (rdNum s.data.toList), .bool (rdOk s.data.toList)]) ∧ Below w.heap.size w w' := by
  have hc := hide (trim_any s w)
  have hSh := hide (rd_short (s := s))
  have hBa := hide (fun k hk h => rd_bad (s := s) (k := k) hk h)
  have hGo := hide (fun h1 h2 ha => rd_good (s := s) h1 h2 ha)
  have hV : Hid (rdVal s = if (bareB s).size < s.size then -(valOf (bareB s).data.toList : Int) else valOf (bareB s).data.toList) := hide rfl
  obtain ⟨t, ht⟩ : ∃ t, t = bareB s := ⟨_, rfl⟩
  rw [← ht] at hc hSh hBa hGo hV
  have hts : t.size ≤ s.size := by rw [ht, bareB_size]; have := (bare_le s.data.toList).1; rw [size_list] at this; exact this
  clear ht
  have hGh := hide hG
  clear hG
  by_cases h1 : (t.size : Int) < 1
  · have hE := hide (hSh.out (.inl (by omega)))
    go_enter Tryd.func27, Tryd.ntmps27
    go_wp2_with (go_at_call 41; refine hc.out.mono ?_; rintro e w' ⟨rfl, rfl⟩)
    go_ret2
    exact ⟨ret2ib hE.out.1.symm hE.out.2.symm, Below.refl _ _⟩
  by_cases h2 : (18 : Int) < t.size
  · have hE := hide (hSh.out (.inr (by omega)))
    go_enter Tryd.func27, Tryd.ntmps27
    go_wp2_with (go_at_call 41; refine hc.out.mono ?_; rintro e w' ⟨rfl, rfl⟩)
    go_ret2
    exact ⟨ret2ib hE.out.1.symm hE.out.2.symm, Below.refl _ _⟩
  have hs1 : 1 ≤ t.size := by omega
  have hs2 : t.size ≤ 18 := by omega
  go_enter Tryd.func27, Tryd.ntmps27
  go_wp2_with (go_at_call 41; refine hc.out.mono ?_; rintro e w' ⟨rfl, rfl⟩)
  go_loopw [5, 6] (fun n i wr => ∃ k : Nat, k ≤ t.size ∧ i = .int .i64 k ∧ n = .int .i64 (valOf (t.data.toList.take k)) ∧ w = wr ∧ Hid ((t.data.toList.take k).all isDig = true)) (fun _ i _ => t.size - (intOf i).toNat)
  case atStart => exact ⟨0, Nat.zero_le _, rfl, rfl, rfl, hide rfl⟩
  case round =>
    obtain ⟨k, hk, rfl, rfl, rfl, hall⟩ := hrel
    by_cases hlt : k < t.size
    · have hx1 := hide (take_val hlt)
      have hx2 := hide (take_lt (Nat.le_of_lt hlt) hs2 hall.out)
      have hb1 : valOf (t.data.toList.take k) < 100000000000000000 := hx2.out.1 hlt
      cases hd : isDig t[k]
      · have hE := hide (hBa.out k hlt hd)
        have hor : (t[k].toNat : Int) < 48 ∨ (57 : Int) < t[k].toNat := by simp [isDig] at hd; omega
        clear hd
        rcases hor with h3 | h3
        · go_wp2
          go_ret2
          exact ⟨ret2ib hE.out.1.symm hE.out.2.symm, Below.refl _ _⟩
        · go_wp2
          go_ret2
          exact ⟨ret2ib hE.out.1.symm hE.out.2.symm, Below.refl _ _⟩
      · have hA2 := hide (take_all hlt hall.out hd)
        have hd1 : (48 : Int) ≤ t[k].toNat := by simp [isDig] at hd; omega
        have hd2 : (t[k].toNat : Int) ≤ 57 := by simp [isDig] at hd; omega
        clear hd
        go_wp2
        go_round
        case rel => exact ⟨k + 1, by omega, by go_num, by rw [hx1.out]; congr 1; omega, trivial, hA2⟩
        case measure => simp [intOf]; omega
    · have hkn : k = t.size := by omega
      subst hkn
      have hfull : t.data.toList.take t.size = t.data.toList := List.take_of_length_le (by rw [size_list]; omega)
      have hx2 := hide (take_lt (Nat.le_refl _) hs2 hall.out)
      rw [hfull] at hall hx2 ⊢
      clear hfull
      have hb2 : valOf t.data.toList < 1000000000000000000 := hx2.out.2
      have hend := hide (hGo.out hs1 hs2 hall.out)
      obtain ⟨V, hVV⟩ : ∃ V, V = valOf t.data.toList := ⟨_, rfl⟩
      rw [← hVV] at hV hb2 ⊢
      clear hVV hx2 hall hc hSh hBa hGo
      by_cases h3 : (t.size : Int) < s.size
      · have hval : Hid (rdVal s = -(V : Int)) := hide (by rw [hV.out, if_pos (by omega)])
        by_cases h4 : decB (-(V : Int)) = s
        · have hE := hide (hend.out.1 (by rw [hval.out]; exact h4))
          rw [hval.out] at hE
          have e1 := str_eq h4
          have e2 : ((decB (-(V : Int))).toList != s.toList) = false := by rw [bne, e1]; rfl
          clear h4 hV
          go_wp2_with (go_at_call 28; refine (iDec_any _ _ (by omega) (by omega) hGh.out).mono ?_; rintro e w' ⟨rfl, hb⟩)
          go_ret2
          exact ⟨ret2ib hE.out.1.symm hE.out.2.symm, hb⟩
        · have hE := hide (hend.out.2 (by rw [hval.out]; exact h4))
          have e1 := str_ne h4
          have e2 : ((decB (-(V : Int))).toList != s.toList) = true := by rw [bne, e1]; rfl
          clear h4 hV
          go_wp2_with (go_at_call 28; refine (iDec_any _ _ (by omega) (by omega) hGh.out).mono ?_; rintro e w' ⟨rfl, hb⟩)
          go_ret2
          exact ⟨ret2ib hE.out.1.symm hE.out.2.symm, hb⟩
      · have hval : Hid (rdVal s = (V : Int)) := hide (by rw [hV.out, if_neg (by omega)])
        by_cases h4 : decB (V : Int) = s
        · have hE := hide (hend.out.1 (by rw [hval.out]; exact h4))
          rw [hval.out] at hE
          have e1 := str_eq h4
          have e2 : ((decB (V : Int)).toList != s.toList) = false := by rw [bne, e1]; rfl
          clear h4 hV
          go_wp2_with (go_at_call 28; refine (iDec_any _ _ (by omega) (by omega) hGh.out).mono ?_; rintro e w' ⟨rfl, hb⟩)
          go_ret2
          exact ⟨ret2ib hE.out.1.symm hE.out.2.symm, hb⟩
        · have hE := hide (hend.out.2 (by rw [hval.out]; exact h4))
          have e1 := str_ne h4
          have e2 : ((decB (V : Int)).toList != s.toList) = true := by rw [bne, e1]; rfl
          clear h4 hV
          go_wp2_with (go_at_call 28; refine (iDec_any _ _ (by omega) (by omega) hGh.out).mono ?_; rintro e w' ⟨rfl, hb⟩)
          go_ret2
          exact ⟨ret2ib hE.out.1.symm hE.out.2.symm, hb⟩
theorem bareB_minus {s : ByteArray} (h : 0 < s.size) (h45 : s[0].toNat = 45) : bareB s = s.extract 1 s.size := by
  unfold bareB
  have h0 := get_list s 0 h
  have he : (s.extract 1 s.size).data.toList = s.data.toList.drop 1 := Lib.extract_to_end ..
  cases hl : s.data.toList with
  | nil => rw [hl] at h0; cases h0
  | cons c r =>
    rw [hl] at h0 he
    have hc : c = s[0] := by simpa using h0
    have hc2 : c = 45 := by rw [hc]; exact UInt8.toNat_inj.1 h45
    subst hc2
    rw [bare_minus]
    have : (s.extract 1 s.size).data.toList = r := he
    rw [← this]
theorem bareB_other {s : ByteArray} (h : 0 < s.size) (h45 : ¬ s[0].toNat = 45) : bareB s = s := by
  unfold bareB
  rw [bare_other, mk_data]
  intro r hr
  have h0 := get_list s 0 h
  rw [hr] at h0
  have : (45 : UInt8) = s[0] := by simpa using h0
  exact h45 (by rw [← this]; rfl)
theorem bareB_empty {s : ByteArray} (h : s.size = 0) : bareB s = s := by
  unfold bareB
  rw [bare_other, mk_data]
  intro r hr
  have := size_list s
  rw [hr] at this; simp at this <;> omega
end Go.Proofs.YtpnbnhhifgcklaaDoor
