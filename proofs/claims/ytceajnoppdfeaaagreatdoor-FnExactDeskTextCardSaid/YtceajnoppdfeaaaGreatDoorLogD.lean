/- Contracts: a log read, the reference's way. -/
import Derived.Test.YtceajnoppdfeaaaGreatDoorLogC
import Derived.Deep.LoopGhost
namespace Go.Proofs.YtceajnoppdfeaaaGreatDoor
open Go.ChangeShapes Go.WideShapes Go.ChangeAt Go.RowKit Go.Deep
set_option maxRecDepth 100000
def LineEnds (B g at_ : Nat) (s : ByteArray) (done : List Entry) (w : World) (o : Option (Entry × List UInt8)) (st : Int) (e : Ending) (w' : World) : Prop := match o with
  | none => e = .returned (.bool false) ∧ Below w.heap.size w w'
  | some x => e = .returned (.bool true) ∧ RB w' B g s (done ++ [x.1]) (at_ + (x.2.length + 1)) (stampB st (entB x.1)) ∧ Below B w w'
theorem sLineM_any (g at_ B : Nat) (s : ByteArray) (st : Int) (done : List Entry) (w : World) (hs : s.size ≤ 1000000) (hm : done.length ≤ 1000000) (h0 : 0 ≤ st) (h1 : st ≤ 65518) (hat : at_ ≤ s.size) (hrb : RB w B g s done at_ st) (hBg : B ≤ g) :
    Calls Tryz.prog 62 #[.pointer (some ⟨g, 0, none⟩)] w (LineEnds B g at_ s done w (stepOf st (lastDay done) (s.data.toList.drop at_)) st) := by
  obtain ⟨v, hb, ho⟩ := hrb
  obtain ⟨p, hp1, hp2, hp3, hp4⟩ := scan s _ at_ rfl hat
  have no : ∀ {P : Prop}, stepOf st (lastDay done) (s.data.toList.drop at_) = none → (Calls Tryz.prog 62 #[.pointer (some ⟨g, 0, none⟩)] w fun e w' => e = .returned (.bool false) ∧ Below w.heap.size w w') → P ∨ Calls Tryz.prog 62 #[.pointer (some ⟨g, 0, none⟩)] w (LineEnds B g at_ s done w (stepOf st (lastDay done) (s.data.toList.drop at_)) st) := by
    intro P hn hc
    rw [hn]; exact .inr hc
  have get : ∀ {Q : Prop}, False ∨ Q → Q := fun h => h.elim False.elim id
  rcases hp4 with ⟨rfl, hl⟩ | ⟨hp, hp10, hl⟩
  · exact get (no (step_noline hl) (sLine_none g at_ s st v w hs hb s.size hp1 rfl hp3))
  have hx : (s.extract at_ p).data.toList = (s.data.toList.take p).drop at_ := piece_list s at_ p
  by_cases h4 : (words 32 (s.extract at_ p)).length ≠ 4
  · have he := ent_not4 h4
    rw [hx] at he
    exact get (no (step_noent hl he) (sLine_not4 g at_ B s st v done w hs hm h0 h1 hb ho p hp1 hp hp10 hp3 _ rfl h4))
  obtain ⟨a, b, c, d, hw⟩ : ∃ a b c d, words 32 (s.extract at_ p) = [a, b, c, d] := by
    match hww : words 32 (s.extract at_ p), h4 with
    | [a, b, c, d], _ => exact ⟨a, b, c, d, rfl⟩
    | [], h4 => exact absurd (by decide) h4
    | [_], h4 => exact absurd (by simp) h4
    | [_, _], h4 => exact absurd (by simp) h4
    | [_, _, _], h4 => exact absurd (by simp) h4
    | _ :: _ :: _ :: _ :: _ :: _, h4 => exact absurd (by simp) h4
  clear h4
  have hsz : ∀ y ∈ words 32 (s.extract at_ p), y.size ≤ maxLen := fun y hy => by
    have h5 := words_size 32 (s.extract at_ p) hy
    have h6 : (s.extract at_ p).size ≤ s.size := by rw [ByteArray.size_extract]; omega
    unfold maxLen; omega
  have ha := hsz a (by rw [hw]; simp)
  have hb' := hsz b (by rw [hw]; simp)
  have hc' := hsz c (by rw [hw]; simp)
  have he := ent_words hw
  rw [hx] at he
  cases k1 : rdOk a.data.toList
  · rw [k1, if_neg (by simp)] at he
    exact get (no (step_noent hl he) (sLine_one g at_ B s st v done w hs hm h0 h1 hb ho p hp1 a b c d ha hc' hb' hp hp10 hp3 hw.symm k1))
  cases k2 : rdOk c.data.toList
  · rw [k2, if_neg (by simp)] at he
    exact get (no (step_noent hl he) (sLine_two g at_ B s st v done w hs hm h0 h1 hb ho p hp1 a b c d ha hc' hb' hp hp10 hp3 hw.symm k1 k2))
  cases k3 : (⟨rdNum a.data.toList, b, rdNum c.data.toList⟩ : Entry).ok
  · rw [k3, if_neg (by simp)] at he
    exact get (no (step_noent hl he) (sLine_notok g at_ B s st v done w hs hm h0 h1 hb ho p hp1 a b c d ha hc' hb' hp hp10 hp3 hw.symm k1 k2 k3))
  rw [k1, k2, k3, if_pos (by simp)] at he
  by_cases kd : rdNum a.data.toList < lastDay done
  · exact get (no (step_bad hl he (by unfold okLine; rw [decide_eq_false (by show ¬ lastDay done ≤ rdNum a.data.toList; omega)]; rfl)) (sLine_late g at_ B s st v done w hs hm h0 h1 hb ho p hp1 a b c d ha hc' hb' hp hp10 hp3 hw.symm k1 k2 k3 kd))
  have hq : s.extract at_ (p + 1) = ⟨((s.data.toList.take p).drop at_ ++ [10]).toArray⟩ := by
    rw [← mkB_piece, ← piece_grow hp1 hp, hp10]; rfl
  by_cases ks : lineB (stampB st (entB ⟨rdNum a.data.toList, b, rdNum c.data.toList⟩)) ⟨rdNum a.data.toList, b, rdNum c.data.toList⟩ = s.extract at_ (p + 1)
  · have hg : stepOf st (lastDay done) (s.data.toList.drop at_) = some (⟨rdNum a.data.toList, b, rdNum c.data.toList⟩, (s.data.toList.take p).drop at_) := step_good hl he (by
      unfold okLine
      rw [decide_eq_true (by show lastDay done ≤ rdNum a.data.toList; omega), decide_eq_true (by rw [← hq]; exact ks)]; rfl)
    rw [hg]
    have hlen : at_ + (((s.data.toList.take p).drop at_).length + 1) = p + 1 := by rw [List.length_drop, List.length_take, size_list]; omega
    refine (sLine_yes g at_ B s st v done w hs hm h0 h1 hb ho p hp1 a b c d ha hc' hb' hp hp10 hp3 hw.symm k1 k2 k3 (by omega) ks hBg).mono fun e w' h => ?_
    show e = .returned (.bool true) ∧ RB w' B g s _ (at_ + (((s.data.toList.take p).drop at_).length + 1)) _ ∧ Below B w w'
    rw [hlen]; exact h
  · exact get (no (step_bad hl he (by unfold okLine; rw [decide_eq_false (p := lineB _ _ = _) (by rw [← hq]; exact ks)]; simp)) (sLine_stamp g at_ B s st v done w hs hm h0 h1 hb ho p hp1 a b c d ha hc' hb' hp hp10 hp3 hw.symm k1 k2 k3 (by omega) ks))
theorem step_len {s : ByteArray} {at_ : Nat} {st day : Int} {e : Entry} {l : List UInt8} (hs : stepOf st day (s.data.toList.drop at_) = some (e, l)) : at_ + (l.length + 1) ≤ s.size := by
  unfold stepOf at hs
  split at hs
  · cases hs
  · rename_i x hx
    have := lineOf_len hx
    rw [List.length_drop, size_list] at this
    split at hs
    · cases hs
    · split at hs
      · injection hs with hs; injection hs with _ hs; subst hs; omega
      · cases hs
theorem below_two {B : Nat} {w w1 w2 : World} (h : Below B w w1) (k : Below B w1 w2) : Below B w w2 :=
  ⟨k.os.trans h.os, k.tape.trans h.tape, k.output.trans h.output, Nat.le_trans h.size k.size, fun i hi => (k.block i hi).trans (h.block i hi)⟩
def SRead (s : ByteArray) (w w' : World) (e : Ending) : Prop := ∃ g, e = .returned (.pointer (some ⟨g, 0, none⟩)) ∧ w.heap.size ≤ g ∧ RB w' w.heap.size g s (rdLog s).1 (rdLog s).2.1 (rdLog s).2.2 ∧ Below w.heap.size w w'
set_option maxHeartbeats 1000000 in
theorem sRead_log (s : ByteArray) (w : World) (hs : s.size ≤ 1000000) : Calls Tryz.prog 43 #[.string s] w fun e w' => SRead s w w' e := by
  go_enter Tryz.func43, Tryz.ntmps43
  go_wp2
  go_loopg [9] s.size (fun gk _ wr => ∃ (done : List Entry) (at_ : Nat) (st : Int), gk = s.size - at_ ∧ at_ ≤ s.size ∧ done.length ≤ at_ ∧ 0 ≤ st ∧ st ≤ 65518 ∧ RB wr w.heap.size (w.heap.size + 1) s done at_ st ∧ Hid (LogInv s done at_ st (lastDay done)) ∧ Below w.heap.size w wr)
  case atStart =>
    refine ⟨[], 0, 0, by omega, Nat.zero_le _, Nat.le_refl _, by omega, by omega, ⟨.slice (some ⟨w.heap.size, 0, none⟩) 0 0, ?_, ?_⟩, hide (log_start s), ((Below.refl _ _).alloc (Nat.le_refl _) _).alloc (by simp) _⟩
    · have := heap_alloc_new (w.alloc (.cells #[] 90)) (.cells #[.string s, .int .i64 ((0 : Nat) : Int), .int .i64 0, .slice (some ⟨w.heap.size, 0, none⟩) 0 0] 74)
      simpa using this
    · exact (Own.none_made w (Nat.le_refl _)).below ((Below.refl _ _).alloc (Nat.le_refl _) _)
  case round =>
    obtain ⟨done, at_, st, rfl, hat, hdl, h0, h1, hrb, hinv, hb⟩ := hrel
    have hc := hide (sLineM_any (w.heap.size + 1) at_ w.heap.size s st done wr hs (by omega) h0 h1 hat hrb (by omega))
    have hR := hide hrb
    have hB := hide hb
    clear hrb hb
    cases hst : stepOf st (lastDay done) (s.data.toList.drop at_) with
    | none =>
      rw [hst] at hc
      have hE := hide (log_end hinv.out hst)
      clear hst hinv
      go_wp2_with fail
      refine hc.out.mono ?_
      rintro e w2 ⟨rfl, hb2⟩
      have hB2 := hide (Below.up hB.out hb2)
      have hR2 := hide (show RB w2 w.heap.size (w.heap.size + 1) s done at_ st from by
        obtain ⟨v, h2, h3⟩ := hR.out
        exact ⟨v, blk_below h2 hb2, h3.below hb2⟩)
      clear hb2
      go_wp2
      go_ret
      exact ⟨w.heap.size + 1, rfl, by omega, by rw [hE.out]; exact hR2.out, hB2.out⟩
    | some x =>
      obtain ⟨x, l⟩ := x
      rw [hst] at hc
      have hE := hide (log_step hinv.out hst)
      have hlen := step_len hst
      obtain ⟨r1, r2⟩ := stampB_range st (entB x)
      clear hst hinv
      go_wp2_with fail
      refine hc.out.mono ?_
      rintro e w2 ⟨rfl, hR2, hb2⟩
      have hB2 := hide (below_two hB.out hb2)
      have hR2h := hide hR2
      clear hb2 hR2
      go_wp2
      go_roundg (s.size - (at_ + (l.length + 1)))
      case rel => exact ⟨done ++ [x], at_ + (l.length + 1), stampB st (entB x), rfl, hlen, by simp; omega, r1, r2, hR2h.out, by rw [lastDay_snoc]; exact hE, hB2.out⟩
      case measure => omega
end Go.Proofs.YtceajnoppdfeaaaGreatDoor
