/- Texts that belong together, joined: contracts and plain laws. No statement is proved here. -/
import Derived.Test.YtfpaejlipaainaaGreatDoorM06
namespace Go.Proofs.YtfpaejlipaainaaGreatDoor
open Go.ChangeShapes Go.WideShapes Go.ChangeAt Go.RowKit Go.Deep
set_option maxRecDepth 100000
theorem lineOf_cons {c : UInt8} (h : ¬ c = 10) (r : List UInt8) : lineOf (c :: r) = (lineOf r).map (c :: ·) := by
  unfold lineOf
  have h1 : (10 ∈ c :: r) ↔ (10 ∈ r) := by simp [Ne.symm h]
  by_cases hm : 10 ∈ r
  · rw [if_pos (h1.2 hm), if_pos hm, List.takeWhile_cons, if_pos (by simpa using h)]; rfl
  · rw [if_neg (fun e => hm (h1.1 e)), if_neg hm]; rfl
theorem scan (s : ByteArray) : ∀ (n a : Nat), s.size - a = n → a ≤ s.size → ∃ p, a ≤ p ∧ p ≤ s.size ∧ (∀ j (h : j < s.size), a ≤ j → j < p → s[j] ≠ 10) ∧
    ((p = s.size ∧ lineOf (s.data.toList.drop a) = none) ∨ (∃ h : p < s.size, s[p] = 10 ∧ lineOf (s.data.toList.drop a) = some ((s.data.toList.take p).drop a)))
  | 0, a, hn, ha => by
    obtain rfl : a = s.size := by omega
    refine ⟨s.size, Nat.le_refl _, Nat.le_refl _, fun j h h1 h2 => by omega, .inl ⟨rfl, ?_⟩⟩
    have hz : s.data.toList.drop s.size = [] := List.drop_eq_nil_of_le (by rw [size_list]; exact Nat.le_refl _)
    rw [hz]; rfl
  | n + 1, a, hn, ha => by
    have hlt : a < s.size := by omega
    by_cases hc : s[a] = 10
    · refine ⟨a, Nat.le_refl _, ha, fun j h h1 h2 => by omega, .inr ⟨hlt, hc, ?_⟩⟩
      rw [drop_at hlt, hc]
      have : (s.data.toList.take a).drop a = [] := List.drop_eq_nil_of_le (by rw [List.length_take]; omega)
      rw [this]; rfl
    · obtain ⟨p, h1, h2, h3, h4⟩ := scan s n (a + 1) (by omega) (by omega)
      refine ⟨p, by omega, h2, fun j h h5 h6 => ?_, ?_⟩
      · rcases Nat.eq_or_lt_of_le h5 with e | e
        · subst e; exact hc
        · exact h3 j h e h6
      · rw [drop_at hlt, lineOf_cons hc]
        rcases h4 with ⟨e, h4⟩ | ⟨hp, e, h4⟩
        · exact .inl ⟨e, by rw [h4]; rfl⟩
        · refine .inr ⟨hp, e, ?_⟩
          rw [h4, Option.map_some]
          congr 1
          have hz : (s.data.toList.take p).drop a = s[a] :: (s.data.toList.take p).drop (a + 1) := by
            rw [List.drop_eq_getElem_cons (by rw [List.length_take, size_list]; omega)]
            congr 1
            rw [List.getElem_take]; rfl
          rw [hz]
theorem ent_not4 {x : ByteArray} (h : (words 32 x).length ≠ 4) : entOf x.data.toList = none := by
  unfold entOf
  split
  · rename_i a b c d e
    exfalso; apply h
    unfold words; rw [e]; rfl
  · rfl
theorem ent_words {x a b c d : ByteArray} (h : words 32 x = [a, b, c, d]) :
    entOf x.data.toList = if rdOk a.data.toList = true ∧ rdOk c.data.toList = true ∧ (⟨rdNum a.data.toList, b, rdNum c.data.toList⟩ : Entry).ok = true then some ⟨rdNum a.data.toList, b, rdNum c.data.toList⟩ else none := by
  unfold words at h
  match hs : spl 32 [] x.data.toList, h with
  | [a', b', c', d'], h =>
    simp only [List.map_cons, List.map_nil, List.cons.injEq, and_true] at h
    obtain ⟨rfl, rfl, rfl, rfl⟩ := h
    unfold entOf
    rw [hs]
    rfl
theorem blk_below {w w' : World} {g : Nat} {o : Obj} (h : w.heap[g]? = some o) (hb : Below w.heap.size w w') : w'.heap[g]? = some o := (hb.block g (Array.getElem?_eq_some_iff.1 h).1).trans h
theorem blk_lt {w : World} {g : Nat} {o : Obj} (h : w.heap[g]? = some o) : g < w.heap.size := (Array.getElem?_eq_some_iff.1 h).1
theorem quiet_left2 {P : Program} {f : FuncId} {args : Array Value} {w : World} {n : Nat} {v : Value}
    (h : Calls P f args (w.drewN n) fun e w' => e = .returned v ∧ ∃ m, w' = (w.drewN n).drewN m) : Calls P f args (w.drewN n) fun e w'' => e = .returned v ∧ ∃ m, w'' = w.drewN m :=
  h.mono fun _ _ ⟨he, m, hm⟩ => ⟨he, n + m, by rw [hm]; simp [World.drewN, Nat.add_assoc]⟩
theorem quiet_leftb {P : Program} {f : FuncId} {args : Array Value} {w : World} {n : Nat} {b b' : Bool}
    (h : Calls P f args (w.drewN n) fun e w' => e = .returned (.bool b) ∧ w.drewN n = w') (hb : b = b') : Calls P f args (w.drewN n) fun e w'' => e = .returned (.bool b') ∧ ∃ m, w'' = w.drewN m := by
  subst hb; exact quiet_left h
theorem own_other {w : World} {g : Nat} {t : TypeId} {cs : Array Value} {base n : Nat} {v : Value} {l : List Entry} {e : TypeId} (h : Own Entry.cells e 3 w base v n l) (hb : w.heap[g]? = some (.cells cs t (0, 0))) (hne : e ≠ t) : v.ownBlock ≠ some g := by
  rcases h.2.2 with ⟨rfl, _⟩ | ⟨g', cap, cur, rfl, _, hh, _⟩
  · simp [Value.ownBlock]
  · intro he
    have : g' = g := by simpa [Value.ownBlock] using he
    subst this
    rw [hh] at hb
    injection hb with hb
    injection hb with _ ht
    exact hne ht
theorem blk_set {w : World} {g : Nat} {t : TypeId} {cs : Array Value} (h : w.heap[g]? = some (.cells cs t (0, 0))) (i : Nat) (u : Value) : (w.setCell ⟨g, i, none⟩ u).heap[g]? = some (.cells (cs.setIfInBounds i u) t (0, 0)) := by
  simp [World.setCell, Array.getElem?_modify, h]
theorem Own.setFar {α : Type} {cells : α → List Value} {e s : Nat} {w : World} {base : Nat} {v : Value} {n : Nat} {l : List α} (h : Own cells e s w base v n l) {p : Addr} (hne : v.ownBlock ≠ some p.block) (u : Value) : Own cells e s (w.setCell p u) base v n l :=
  h.kept (row := some p.block) (only_setCell (World.grownBy.refl w _) rfl u) (.inr hne)
set_option maxHeartbeats 1000000 in
theorem sLine_none (g at_ : Nat) (s : ByteArray) (st : Int) (v : Value) (w : World) (hs : s.size ≤ 1000000)
    (hb : w.heap[g]? = some (.cells #[.string s, .int .i64 at_, .int .i64 st, v] 166 (0, 0))) (p : Nat) (hp1 : at_ ≤ p) (hp2 : p = s.size) (hp3 : Hid (∀ j (h : j < s.size), at_ ≤ j → j < p → s[j] ≠ 10)) :
    Calls Tryz.prog 195 #[.pointer (some ⟨g, 0, none⟩)] w fun e w' => e = .returned (.bool false) ∧ Below w.heap.size w w' := by
  have q0 : Hid (w.cell? ⟨g, 0, none⟩ = some (.string s)) := hide (by rw [cell_of_row _ _ _ _ _ _ hb]; rfl)
  have q1 : Hid (w.cell? ⟨g, 1, none⟩ = some (.int .i64 at_)) := hide (by rw [cell_of_row _ _ _ _ _ _ hb]; rfl)
  have q2 : Hid (w.cell? ⟨g, 2, none⟩ = some (.int .i64 st)) := hide (by rw [cell_of_row _ _ _ _ _ _ hb]; rfl)
  have hgl := blk_lt hb
  have hbh := hide hb
  clear hb
  have c0 := q0.out
  have c1 := q1.out
  go_enter Tryz.func195, Tryz.ntmps195
  go_wp2
  go_loopw [3] (fun i wr => ∃ k : Nat, at_ ≤ k ∧ k ≤ p ∧ i = .int .i64 k ∧ w = wr) (fun i _ => s.size - (intOf i).toNat)
  case atStart => exact ⟨at_, Nat.le_refl _, hp1, rfl, rfl⟩
  case round =>
    obtain ⟨k, hk1, hk2, rfl, rfl⟩ := hrel
    by_cases hlt : k < p
    · have hks : k < s.size := by omega
      have e1 : ((s[k].toNat : Int) != 10) = true := by
        rw [bne_iff_ne]; intro h; exact hp3.out k hks hk1 hlt (UInt8.toNat_inj.1 (by show _ = 10; omega))
      go_wp2
      go_round
      case rel => exact ⟨k + 1, by omega, by omega, by go_num, trivial⟩
      case measure => simp [intOf]; omega
    · obtain rfl : k = p := by omega
      subst hp2
      go_wp2
      go_ret
      exact ⟨rfl, Below.refl _ _⟩
set_option maxHeartbeats 1000000 in
theorem sLine_not4 (g at_ B : Nat) (s : ByteArray) (st : Int) (v : Value) (done : List Entry) (w : World) (hs : s.size ≤ 1000000) (hm : done.length ≤ 1000000) (h0 : 0 ≤ st) (h1 : st ≤ 65518)
    (hb : w.heap[g]? = some (.cells #[.string s, .int .i64 at_, .int .i64 st, v] 166 (0, 0))) (ho : Own Entry.cells 116 3 w B v done.length done) (p : Nat) (hp1 : at_ ≤ p) (hp2 : p < s.size) (hp10 : s[p] = 10) (hp3 : Hid (∀ j (h : j < s.size), at_ ≤ j → j < p → s[j] ≠ 10)) (L : List ByteArray) (hL : L = words 32 (s.extract at_ p)) (h4 : L.length ≠ 4) :
    Calls Tryz.prog 195 #[.pointer (some ⟨g, 0, none⟩)] w fun e w' => e = .returned (.bool false) ∧ Below w.heap.size w w' := by
  have e4 : ((L.length : Int) != 4) = true := by rw [bne_iff_ne]; omega
  clear h4
  have q0 : Hid (w.cell? ⟨g, 0, none⟩ = some (.string s)) := hide (by rw [cell_of_row _ _ _ _ _ _ hb]; rfl)
  have q1 : Hid (w.cell? ⟨g, 1, none⟩ = some (.int .i64 at_)) := hide (by rw [cell_of_row _ _ _ _ _ _ hb]; rfl)
  have q2 : Hid (w.cell? ⟨g, 2, none⟩ = some (.int .i64 st)) := hide (by rw [cell_of_row _ _ _ _ _ _ hb]; rfl)
  have hgl := blk_lt hb
  have hbh := hide hb
  have hoh := hide ho
  clear hb ho
  have c0 := q0.out
  have c1 := q1.out
  have hu := And.intro hm (And.intro h0 h1)
  clear hu
  go_enter Tryz.func195, Tryz.ntmps195
  go_wp2
  go_loopw [3] (fun i wr => ∃ k : Nat, at_ ≤ k ∧ k ≤ p ∧ i = .int .i64 k ∧ w = wr) (fun i _ => s.size - (intOf i).toNat)
  case atStart => exact ⟨at_, Nat.le_refl _, hp1, rfl, rfl⟩
  case round =>
    obtain ⟨k, hk1, hk2, rfl, rfl⟩ := hrel
    by_cases hlt : k < p
    · have hks : k < s.size := by omega
      have e1 : ((s[k].toNat : Int) != 10) = true := by
        rw [bne_iff_ne]; intro h; exact hp3.out k hks hk1 hlt (UInt8.toNat_inj.1 (by show _ = 10; omega))
      go_wp2
      go_round
      case rel => exact ⟨k + 1, by omega, by omega, by go_num, trivial⟩
      case measure => simp [intOf]; omega
    · obtain rfl : k = p := by omega
      have hsp : ∀ W : World, Hid (Calls Tryz.prog 54 #[.string (s.extract at_ k), .int .u8 32] W fun e w' => ∃ v, e = .returned v ∧ Own strc 9 1 w' W.heap.size v L.length L ∧ Below W.heap.size W w') := fun W => hide (by rw [hL]; exact sSplit_any 32 (s.extract at_ k) W (by rw [ByteArray.size_extract]; omega))
      have hLh := hide hL
      have hSP := hide hsp
      clear hL hsp
      have e10 : ((s[k].toNat : Int) != 10) = false := by rw [hp10]; rfl
      have b1 : (0 : Int) ≤ (at_ : Int) := by omega
      have b2 : (at_ : Int) ≤ (k : Int) := by omega
      have b3 : (k : Int) ≤ (s.size : Int) := by omega
      go_wp2_with fail
      have hC := hide (below_drewN (Below.refl w.heap.size w) 1)
      go_region_held3 (fun w' => w'.cell? ⟨g, 0, none⟩ = some (.string s) ∧ w'.cell? ⟨g, 1, none⟩ = some (.int .i64 at_)) (first | go_keep | exact ⟨keepc hC.out hgl q0.out, keepc hC.out hgl q1.out⟩)
        (first | (go_at_call 54; refine (hSP.out _).out.mono ?_; rintro e w2 ⟨v2, rfl, ho2, hb⟩; have hO2 := hide ho2; replace hC := hide (Below.up hC.out hb); clear hb ho2) | fail)
      obtain ⟨Aw, cw, rfl, _⟩ := hO2.out.slice
      go_wp2
      go_ret
      exact ⟨rfl, hC.out⟩
set_option maxHeartbeats 1000000 in
theorem sLine_one (g at_ B : Nat) (s : ByteArray) (st : Int) (v : Value) (done : List Entry) (w : World) (hs : s.size ≤ 1000000) (hm : done.length ≤ 1000000) (h0 : 0 ≤ st) (h1 : st ≤ 65518)
    (hb : w.heap[g]? = some (.cells #[.string s, .int .i64 at_, .int .i64 st, v] 166 (0, 0))) (ho : Own Entry.cells 116 3 w B v done.length done) (p : Nat) (hp1 : at_ ≤ p) (a b c d : ByteArray) (ha : a.size ≤ maxLen) (hc : c.size ≤ maxLen) (hbz : b.size ≤ maxLen) (hp2 : p < s.size) (hp10 : s[p] = 10) (hp3 : Hid (∀ j (h : j < s.size), at_ ≤ j → j < p → s[j] ≠ 10)) (hL : [a, b, c, d] = words 32 (s.extract at_ p)) (k1 : rdOk a.data.toList = false) :
    Calls Tryz.prog 195 #[.pointer (some ⟨g, 0, none⟩)] w fun e w' => e = .returned (.bool false) ∧ Below w.heap.size w w' := by
  have q0 : Hid (w.cell? ⟨g, 0, none⟩ = some (.string s)) := hide (by rw [cell_of_row _ _ _ _ _ _ hb]; rfl)
  have q1 : Hid (w.cell? ⟨g, 1, none⟩ = some (.int .i64 at_)) := hide (by rw [cell_of_row _ _ _ _ _ _ hb]; rfl)
  have q2 : Hid (w.cell? ⟨g, 2, none⟩ = some (.int .i64 st)) := hide (by rw [cell_of_row _ _ _ _ _ _ hb]; rfl)
  have hgl := blk_lt hb
  have hbh := hide hb
  have hoh := hide ho
  clear hb ho
  have c0 := q0.out
  have c1 := q1.out
  have hu := And.intro hm (And.intro h0 h1)
  clear hu
  go_enter Tryz.func195, Tryz.ntmps195
  go_wp2
  go_loopw [3] (fun i wr => ∃ k : Nat, at_ ≤ k ∧ k ≤ p ∧ i = .int .i64 k ∧ w = wr) (fun i _ => s.size - (intOf i).toNat)
  case atStart => exact ⟨at_, Nat.le_refl _, hp1, rfl, rfl⟩
  case round =>
    obtain ⟨k, hk1, hk2, rfl, rfl⟩ := hrel
    by_cases hlt : k < p
    · have hks : k < s.size := by omega
      have e1 : ((s[k].toNat : Int) != 10) = true := by
        rw [bne_iff_ne]; intro h; exact hp3.out k hks hk1 hlt (UInt8.toNat_inj.1 (by show _ = 10; omega))
      go_wp2
      go_round
      case rel => exact ⟨k + 1, by omega, by omega, by go_num, trivial⟩
      case measure => simp [intOf]; omega
    · obtain rfl : k = p := by omega
      have hsp : ∀ W : World, Hid (Calls Tryz.prog 54 #[.string (s.extract at_ k), .int .u8 32] W fun e w' => ∃ v, e = .returned v ∧ Own strc 9 1 w' W.heap.size v [a, b, c, d].length [a, b, c, d] ∧ Below W.heap.size W w') := fun W => hide (by rw [hL]; exact sSplit_any 32 (s.extract at_ k) W (by rw [ByteArray.size_extract]; omega))
      have hLh := hide hL
      have hSP := hide hsp
      clear hL hsp
      have e10 : ((s[k].toNat : Int) != 10) = false := by rw [hp10]; rfl
      have b1 : (0 : Int) ≤ (at_ : Int) := by omega
      have b2 : (at_ : Int) ≤ (k : Int) := by omega
      have b3 : (k : Int) ≤ (s.size : Int) := by omega
      go_wp2_with fail
      have hC := hide (below_drewN (Below.refl w.heap.size w) 1)
      go_region_held3 (fun w' => w'.cell? ⟨g, 0, none⟩ = some (.string s) ∧ w'.cell? ⟨g, 1, none⟩ = some (.int .i64 at_)) (first | go_keep | exact ⟨keepc hC.out hgl q0.out, keepc hC.out hgl q1.out⟩)
        (first | (go_at_call 54; refine (hSP.out _).out.mono ?_; rintro e w2 ⟨v2, rfl, ho2, hb⟩; have hO2 := hide ho2; replace hC := hide (Below.up hC.out hb); clear hb ho2) | fail)
      have hu := hbz
      clear hu
      obtain ⟨Aw, cw, rfl, _⟩ := hO2.out.slice
      have hR := hO2.out.arr strc_len
      obtain ⟨bw, ow, x0, rfl, hbl, hx0, z0⟩ := hR.str (k := 0) (by show 0 < 4; omega)
      obtain ⟨_, _, x1, hA1, _, hx1, z1⟩ := hR.str (k := 1) (by show 1 < 4; omega)
      cases hA1
      obtain ⟨_, _, x2, hA2, _, hx2, z2⟩ := hR.str (k := 2) (by show 2 < 4; omega)
      cases hA2
      obtain rfl : a = x0 := by simpa using hx0
      obtain rfl : b = x1 := by simpa using hx1
      obtain rfl : c = x2 := by simpa using hx2
      clear hx0 hx1 hx2 hR hO2
      rw [Nat.add_zero] at z0
      have y1 := hide z1
      have y2 := hide z2
      have hD := hide (Below.refl w2.heap.size w2)
      clear z1 z2
      go_wp2_with fail
      refine (sRead_any a _ ha).mono ?_
      rintro e w3 ⟨rfl, hb⟩
      replace hC := hide (Below.up hC.out hb)
      replace hD := hide (Below.up hD.out hb)
      clear hb z0
      have z2 := keepc hD.out hbl y2.out
      go_wp2_with fail
      refine (sRead_any c _ hc).mono ?_
      rintro e w4 ⟨rfl, hb⟩
      replace hC := hide (Below.up hC.out hb)
      replace hD := hide (Below.up hD.out hb)
      clear hb z2
      have z1 := keepc hD.out hbl y1.out
      have j0 : (w4.alloc (.cells #[.int .i64 (rdNum a.data.toList), .string b, .int .i64 (rdNum c.data.toList)] 116)).cell? ⟨w4.heap.size, 0, none⟩ = some (.int .i64 (rdNum a.data.toList)) := by rw [cell_of_row _ _ _ _ _ _ (heap_alloc_new w4 _)]; rfl
      have j1 : (w4.alloc (.cells #[.int .i64 (rdNum a.data.toList), .string b, .int .i64 (rdNum c.data.toList)] 116)).cell? ⟨w4.heap.size, 1, none⟩ = some (.string b) := by rw [cell_of_row _ _ _ _ _ _ (heap_alloc_new w4 _)]; rfl
      have j2 : (w4.alloc (.cells #[.int .i64 (rdNum a.data.toList), .string b, .int .i64 (rdNum c.data.toList)] 116)).cell? ⟨w4.heap.size, 2, none⟩ = some (.int .i64 (rdNum c.data.toList)) := by rw [cell_of_row _ _ _ _ _ _ (heap_alloc_new w4 _)]; rfl
      have hnb := hide (heap_alloc_new w4 (.cells #[.int .i64 (rdNum a.data.toList), .string b, .int .i64 (rdNum c.data.toList)] 116))
      have hC4 := hide (hC.out.alloc hC.out.size (.cells #[.int .i64 (rdNum a.data.toList), .string b, .int .i64 (rdNum c.data.toList)] 116))
      have hj : w4.heap.size < (w4.alloc (.cells #[.int .i64 (rdNum a.data.toList), .string b, .int .i64 (rdNum c.data.toList)] 116)).heap.size := by simp
      go_wp2_with fail
      clear z1
      obtain ⟨h, hh⟩ : ∃ h, h = w4.heap.size := ⟨_, rfl⟩
      obtain ⟨W5, hW5⟩ : ∃ W5, W5 = w4.alloc (.cells #[.int .i64 (rdNum a.data.toList), .string b, .int .i64 (rdNum c.data.toList)] 116) := ⟨_, rfl⟩
      rw [← hW5] at j0 j1 j2 hC4 hj hnb ⊢
      rw [← hh] at j0 j1 j2 hj hnb ⊢
      have hge : w.heap.size ≤ h := by rw [hh]; exact hC.out.size
      have hge2 := hide hge
      clear hW5 hh hC hge
      have hb5 := hide (blk_below hbh.out hC4.out)
      have ho5 := hide (hoh.out.below hC4.out)
      have i0 := hide j0
      have i1 := hide j1
      have i2 := hide j2
      go_quiet (fail)
      go_wp2
      go_ret
      exact ⟨rfl, below_drewN hC4.out _⟩
set_option maxHeartbeats 1000000 in
theorem sLine_two (g at_ B : Nat) (s : ByteArray) (st : Int) (v : Value) (done : List Entry) (w : World) (hs : s.size ≤ 1000000) (hm : done.length ≤ 1000000) (h0 : 0 ≤ st) (h1 : st ≤ 65518)
    (hb : w.heap[g]? = some (.cells #[.string s, .int .i64 at_, .int .i64 st, v] 166 (0, 0))) (ho : Own Entry.cells 116 3 w B v done.length done) (p : Nat) (hp1 : at_ ≤ p) (a b c d : ByteArray) (ha : a.size ≤ maxLen) (hc : c.size ≤ maxLen) (hbz : b.size ≤ maxLen) (hp2 : p < s.size) (hp10 : s[p] = 10) (hp3 : Hid (∀ j (h : j < s.size), at_ ≤ j → j < p → s[j] ≠ 10)) (hL : [a, b, c, d] = words 32 (s.extract at_ p)) (k1 : rdOk a.data.toList = true) (k2 : rdOk c.data.toList = false) :
    Calls Tryz.prog 195 #[.pointer (some ⟨g, 0, none⟩)] w fun e w' => e = .returned (.bool false) ∧ Below w.heap.size w w' := by
  have q0 : Hid (w.cell? ⟨g, 0, none⟩ = some (.string s)) := hide (by rw [cell_of_row _ _ _ _ _ _ hb]; rfl)
  have q1 : Hid (w.cell? ⟨g, 1, none⟩ = some (.int .i64 at_)) := hide (by rw [cell_of_row _ _ _ _ _ _ hb]; rfl)
  have q2 : Hid (w.cell? ⟨g, 2, none⟩ = some (.int .i64 st)) := hide (by rw [cell_of_row _ _ _ _ _ _ hb]; rfl)
  have hgl := blk_lt hb
  have hbh := hide hb
  have hoh := hide ho
  clear hb ho
  have c0 := q0.out
  have c1 := q1.out
  have hu := And.intro hm (And.intro h0 h1)
  clear hu
  go_enter Tryz.func195, Tryz.ntmps195
  go_wp2
  go_loopw [3] (fun i wr => ∃ k : Nat, at_ ≤ k ∧ k ≤ p ∧ i = .int .i64 k ∧ w = wr) (fun i _ => s.size - (intOf i).toNat)
  case atStart => exact ⟨at_, Nat.le_refl _, hp1, rfl, rfl⟩
  case round =>
    obtain ⟨k, hk1, hk2, rfl, rfl⟩ := hrel
    by_cases hlt : k < p
    · have hks : k < s.size := by omega
      have e1 : ((s[k].toNat : Int) != 10) = true := by
        rw [bne_iff_ne]; intro h; exact hp3.out k hks hk1 hlt (UInt8.toNat_inj.1 (by show _ = 10; omega))
      go_wp2
      go_round
      case rel => exact ⟨k + 1, by omega, by omega, by go_num, trivial⟩
      case measure => simp [intOf]; omega
    · obtain rfl : k = p := by omega
      have hsp : ∀ W : World, Hid (Calls Tryz.prog 54 #[.string (s.extract at_ k), .int .u8 32] W fun e w' => ∃ v, e = .returned v ∧ Own strc 9 1 w' W.heap.size v [a, b, c, d].length [a, b, c, d] ∧ Below W.heap.size W w') := fun W => hide (by rw [hL]; exact sSplit_any 32 (s.extract at_ k) W (by rw [ByteArray.size_extract]; omega))
      have hLh := hide hL
      have hSP := hide hsp
      clear hL hsp
      have e10 : ((s[k].toNat : Int) != 10) = false := by rw [hp10]; rfl
      have b1 : (0 : Int) ≤ (at_ : Int) := by omega
      have b2 : (at_ : Int) ≤ (k : Int) := by omega
      have b3 : (k : Int) ≤ (s.size : Int) := by omega
      go_wp2_with fail
      have hC := hide (below_drewN (Below.refl w.heap.size w) 1)
      go_region_held3 (fun w' => w'.cell? ⟨g, 0, none⟩ = some (.string s) ∧ w'.cell? ⟨g, 1, none⟩ = some (.int .i64 at_)) (first | go_keep | exact ⟨keepc hC.out hgl q0.out, keepc hC.out hgl q1.out⟩)
        (first | (go_at_call 54; refine (hSP.out _).out.mono ?_; rintro e w2 ⟨v2, rfl, ho2, hb⟩; have hO2 := hide ho2; replace hC := hide (Below.up hC.out hb); clear hb ho2) | fail)
      have hu := hbz
      clear hu
      obtain ⟨Aw, cw, rfl, _⟩ := hO2.out.slice
      have hR := hO2.out.arr strc_len
      obtain ⟨bw, ow, x0, rfl, hbl, hx0, z0⟩ := hR.str (k := 0) (by show 0 < 4; omega)
      obtain ⟨_, _, x1, hA1, _, hx1, z1⟩ := hR.str (k := 1) (by show 1 < 4; omega)
      cases hA1
      obtain ⟨_, _, x2, hA2, _, hx2, z2⟩ := hR.str (k := 2) (by show 2 < 4; omega)
      cases hA2
      obtain rfl : a = x0 := by simpa using hx0
      obtain rfl : b = x1 := by simpa using hx1
      obtain rfl : c = x2 := by simpa using hx2
      clear hx0 hx1 hx2 hR hO2
      rw [Nat.add_zero] at z0
      have y1 := hide z1
      have y2 := hide z2
      have hD := hide (Below.refl w2.heap.size w2)
      clear z1 z2
      go_wp2_with fail
      refine (sRead_any a _ ha).mono ?_
      rintro e w3 ⟨rfl, hb⟩
      replace hC := hide (Below.up hC.out hb)
      replace hD := hide (Below.up hD.out hb)
      clear hb z0
      have z2 := keepc hD.out hbl y2.out
      go_wp2_with fail
      refine (sRead_any c _ hc).mono ?_
      rintro e w4 ⟨rfl, hb⟩
      replace hC := hide (Below.up hC.out hb)
      replace hD := hide (Below.up hD.out hb)
      clear hb z2
      have z1 := keepc hD.out hbl y1.out
      have j0 : (w4.alloc (.cells #[.int .i64 (rdNum a.data.toList), .string b, .int .i64 (rdNum c.data.toList)] 116)).cell? ⟨w4.heap.size, 0, none⟩ = some (.int .i64 (rdNum a.data.toList)) := by rw [cell_of_row _ _ _ _ _ _ (heap_alloc_new w4 _)]; rfl
      have j1 : (w4.alloc (.cells #[.int .i64 (rdNum a.data.toList), .string b, .int .i64 (rdNum c.data.toList)] 116)).cell? ⟨w4.heap.size, 1, none⟩ = some (.string b) := by rw [cell_of_row _ _ _ _ _ _ (heap_alloc_new w4 _)]; rfl
      have j2 : (w4.alloc (.cells #[.int .i64 (rdNum a.data.toList), .string b, .int .i64 (rdNum c.data.toList)] 116)).cell? ⟨w4.heap.size, 2, none⟩ = some (.int .i64 (rdNum c.data.toList)) := by rw [cell_of_row _ _ _ _ _ _ (heap_alloc_new w4 _)]; rfl
      have hnb := hide (heap_alloc_new w4 (.cells #[.int .i64 (rdNum a.data.toList), .string b, .int .i64 (rdNum c.data.toList)] 116))
      have hC4 := hide (hC.out.alloc hC.out.size (.cells #[.int .i64 (rdNum a.data.toList), .string b, .int .i64 (rdNum c.data.toList)] 116))
      have hj : w4.heap.size < (w4.alloc (.cells #[.int .i64 (rdNum a.data.toList), .string b, .int .i64 (rdNum c.data.toList)] 116)).heap.size := by simp
      go_wp2_with fail
      clear z1
      obtain ⟨h, hh⟩ : ∃ h, h = w4.heap.size := ⟨_, rfl⟩
      obtain ⟨W5, hW5⟩ : ∃ W5, W5 = w4.alloc (.cells #[.int .i64 (rdNum a.data.toList), .string b, .int .i64 (rdNum c.data.toList)] 116) := ⟨_, rfl⟩
      rw [← hW5] at j0 j1 j2 hC4 hj hnb ⊢
      rw [← hh] at j0 j1 j2 hj hnb ⊢
      have hge : w.heap.size ≤ h := by rw [hh]; exact hC.out.size
      have hge2 := hide hge
      clear hW5 hh hC hge
      have hb5 := hide (blk_below hbh.out hC4.out)
      have ho5 := hide (hoh.out.below hC4.out)
      have i0 := hide j0
      have i1 := hide j1
      have i2 := hide j2
      go_quiet (fail)
      go_wp2
      go_ret
      exact ⟨rfl, below_drewN hC4.out _⟩
set_option maxHeartbeats 1000000 in
theorem sLine_notok (g at_ B : Nat) (s : ByteArray) (st : Int) (v : Value) (done : List Entry) (w : World) (hs : s.size ≤ 1000000) (hm : done.length ≤ 1000000) (h0 : 0 ≤ st) (h1 : st ≤ 65518)
    (hb : w.heap[g]? = some (.cells #[.string s, .int .i64 at_, .int .i64 st, v] 166 (0, 0))) (ho : Own Entry.cells 116 3 w B v done.length done) (p : Nat) (hp1 : at_ ≤ p) (a b c d : ByteArray) (ha : a.size ≤ maxLen) (hc : c.size ≤ maxLen) (hbz : b.size ≤ maxLen) (hp2 : p < s.size) (hp10 : s[p] = 10) (hp3 : Hid (∀ j (h : j < s.size), at_ ≤ j → j < p → s[j] ≠ 10)) (hL : [a, b, c, d] = words 32 (s.extract at_ p)) (k1 : rdOk a.data.toList = true) (k2 : rdOk c.data.toList = true) (hX : Hid ((⟨rdNum a.data.toList, b, rdNum c.data.toList⟩ : Entry).ok = false)) :
    Calls Tryz.prog 195 #[.pointer (some ⟨g, 0, none⟩)] w fun e w' => e = .returned (.bool false) ∧ Below w.heap.size w w' := by
  have q0 : Hid (w.cell? ⟨g, 0, none⟩ = some (.string s)) := hide (by rw [cell_of_row _ _ _ _ _ _ hb]; rfl)
  have q1 : Hid (w.cell? ⟨g, 1, none⟩ = some (.int .i64 at_)) := hide (by rw [cell_of_row _ _ _ _ _ _ hb]; rfl)
  have q2 : Hid (w.cell? ⟨g, 2, none⟩ = some (.int .i64 st)) := hide (by rw [cell_of_row _ _ _ _ _ _ hb]; rfl)
  have hgl := blk_lt hb
  have hbh := hide hb
  have hoh := hide ho
  clear hb ho
  have c0 := q0.out
  have c1 := q1.out
  have hu := And.intro hm (And.intro h0 h1)
  clear hu
  go_enter Tryz.func195, Tryz.ntmps195
  go_wp2
  go_loopw [3] (fun i wr => ∃ k : Nat, at_ ≤ k ∧ k ≤ p ∧ i = .int .i64 k ∧ w = wr) (fun i _ => s.size - (intOf i).toNat)
  case atStart => exact ⟨at_, Nat.le_refl _, hp1, rfl, rfl⟩
  case round =>
    obtain ⟨k, hk1, hk2, rfl, rfl⟩ := hrel
    by_cases hlt : k < p
    · have hks : k < s.size := by omega
      have e1 : ((s[k].toNat : Int) != 10) = true := by
        rw [bne_iff_ne]; intro h; exact hp3.out k hks hk1 hlt (UInt8.toNat_inj.1 (by show _ = 10; omega))
      go_wp2
      go_round
      case rel => exact ⟨k + 1, by omega, by omega, by go_num, trivial⟩
      case measure => simp [intOf]; omega
    · obtain rfl : k = p := by omega
      have hsp : ∀ W : World, Hid (Calls Tryz.prog 54 #[.string (s.extract at_ k), .int .u8 32] W fun e w' => ∃ v, e = .returned v ∧ Own strc 9 1 w' W.heap.size v [a, b, c, d].length [a, b, c, d] ∧ Below W.heap.size W w') := fun W => hide (by rw [hL]; exact sSplit_any 32 (s.extract at_ k) W (by rw [ByteArray.size_extract]; omega))
      have hLh := hide hL
      have hSP := hide hsp
      clear hL hsp
      have e10 : ((s[k].toNat : Int) != 10) = false := by rw [hp10]; rfl
      have b1 : (0 : Int) ≤ (at_ : Int) := by omega
      have b2 : (at_ : Int) ≤ (k : Int) := by omega
      have b3 : (k : Int) ≤ (s.size : Int) := by omega
      go_wp2_with fail
      have hC := hide (below_drewN (Below.refl w.heap.size w) 1)
      go_region_held3 (fun w' => w'.cell? ⟨g, 0, none⟩ = some (.string s) ∧ w'.cell? ⟨g, 1, none⟩ = some (.int .i64 at_)) (first | go_keep | exact ⟨keepc hC.out hgl q0.out, keepc hC.out hgl q1.out⟩)
        (first | (go_at_call 54; refine (hSP.out _).out.mono ?_; rintro e w2 ⟨v2, rfl, ho2, hb⟩; have hO2 := hide ho2; replace hC := hide (Below.up hC.out hb); clear hb ho2) | fail)
      have hu := hbz
      clear hu
      obtain ⟨Aw, cw, rfl, _⟩ := hO2.out.slice
      have hR := hO2.out.arr strc_len
      obtain ⟨bw, ow, x0, rfl, hbl, hx0, z0⟩ := hR.str (k := 0) (by show 0 < 4; omega)
      obtain ⟨_, _, x1, hA1, _, hx1, z1⟩ := hR.str (k := 1) (by show 1 < 4; omega)
      cases hA1
      obtain ⟨_, _, x2, hA2, _, hx2, z2⟩ := hR.str (k := 2) (by show 2 < 4; omega)
      cases hA2
      obtain rfl : a = x0 := by simpa using hx0
      obtain rfl : b = x1 := by simpa using hx1
      obtain rfl : c = x2 := by simpa using hx2
      clear hx0 hx1 hx2 hR hO2
      rw [Nat.add_zero] at z0
      have y1 := hide z1
      have y2 := hide z2
      have hD := hide (Below.refl w2.heap.size w2)
      clear z1 z2
      go_wp2_with fail
      refine (sRead_any a _ ha).mono ?_
      rintro e w3 ⟨rfl, hb⟩
      replace hC := hide (Below.up hC.out hb)
      replace hD := hide (Below.up hD.out hb)
      clear hb z0
      have z2 := keepc hD.out hbl y2.out
      go_wp2_with fail
      refine (sRead_any c _ hc).mono ?_
      rintro e w4 ⟨rfl, hb⟩
      replace hC := hide (Below.up hC.out hb)
      replace hD := hide (Below.up hD.out hb)
      clear hb z2
      have z1 := keepc hD.out hbl y1.out
      have j0 : (w4.alloc (.cells #[.int .i64 (rdNum a.data.toList), .string b, .int .i64 (rdNum c.data.toList)] 116)).cell? ⟨w4.heap.size, 0, none⟩ = some (.int .i64 (rdNum a.data.toList)) := by rw [cell_of_row _ _ _ _ _ _ (heap_alloc_new w4 _)]; rfl
      have j1 : (w4.alloc (.cells #[.int .i64 (rdNum a.data.toList), .string b, .int .i64 (rdNum c.data.toList)] 116)).cell? ⟨w4.heap.size, 1, none⟩ = some (.string b) := by rw [cell_of_row _ _ _ _ _ _ (heap_alloc_new w4 _)]; rfl
      have j2 : (w4.alloc (.cells #[.int .i64 (rdNum a.data.toList), .string b, .int .i64 (rdNum c.data.toList)] 116)).cell? ⟨w4.heap.size, 2, none⟩ = some (.int .i64 (rdNum c.data.toList)) := by rw [cell_of_row _ _ _ _ _ _ (heap_alloc_new w4 _)]; rfl
      have hnb := hide (heap_alloc_new w4 (.cells #[.int .i64 (rdNum a.data.toList), .string b, .int .i64 (rdNum c.data.toList)] 116))
      have hC4 := hide (hC.out.alloc hC.out.size (.cells #[.int .i64 (rdNum a.data.toList), .string b, .int .i64 (rdNum c.data.toList)] 116))
      have hj : w4.heap.size < (w4.alloc (.cells #[.int .i64 (rdNum a.data.toList), .string b, .int .i64 (rdNum c.data.toList)] 116)).heap.size := by simp
      go_wp2_with fail
      clear z1
      obtain ⟨h, hh⟩ : ∃ h, h = w4.heap.size := ⟨_, rfl⟩
      obtain ⟨W5, hW5⟩ : ∃ W5, W5 = w4.alloc (.cells #[.int .i64 (rdNum a.data.toList), .string b, .int .i64 (rdNum c.data.toList)] 116) := ⟨_, rfl⟩
      rw [← hW5] at j0 j1 j2 hC4 hj hnb ⊢
      rw [← hh] at j0 j1 j2 hj hnb ⊢
      have hge : w.heap.size ≤ h := by rw [hh]; exact hC.out.size
      have hge2 := hide hge
      clear hW5 hh hC hge
      have hb5 := hide (blk_below hbh.out hC4.out)
      have ho5 := hide (hoh.out.below hC4.out)
      have i0 := hide j0
      have i1 := hide j1
      have i2 := hide j2
      go_quiet ((first | (go_at_call 207; exact quiet_leftb (sEntry_any h 0 (⟨rdNum a.data.toList, b, rdNum c.data.toList⟩ : Entry) _ hbz i0.out i1.out i2.out) (by first | exact hX.out | rfl)) | fail))
      go_wp2
      go_ret
      exact ⟨rfl, below_drewN hC4.out _⟩
set_option maxHeartbeats 1000000 in
theorem sLine_late (g at_ B : Nat) (s : ByteArray) (st : Int) (v : Value) (done : List Entry) (w : World) (hs : s.size ≤ 1000000) (hm : done.length ≤ 1000000) (h0 : 0 ≤ st) (h1 : st ≤ 65518)
    (hb : w.heap[g]? = some (.cells #[.string s, .int .i64 at_, .int .i64 st, v] 166 (0, 0))) (ho : Own Entry.cells 116 3 w B v done.length done) (p : Nat) (hp1 : at_ ≤ p) (a b c d : ByteArray) (ha : a.size ≤ maxLen) (hc : c.size ≤ maxLen) (hbz : b.size ≤ maxLen) (hp2 : p < s.size) (hp10 : s[p] = 10) (hp3 : Hid (∀ j (h : j < s.size), at_ ≤ j → j < p → s[j] ≠ 10)) (hL : [a, b, c, d] = words 32 (s.extract at_ p)) (k1 : rdOk a.data.toList = true) (k2 : rdOk c.data.toList = true) (hX : Hid ((⟨rdNum a.data.toList, b, rdNum c.data.toList⟩ : Entry).ok = true)) (kd : rdNum a.data.toList < lastDay done) :
    Calls Tryz.prog 195 #[.pointer (some ⟨g, 0, none⟩)] w fun e w' => e = .returned (.bool false) ∧ Below w.heap.size w w' := by
  have kd2 : decide (rdNum a.data.toList < lastDay done) = true := decide_eq_true kd
  have q0 : Hid (w.cell? ⟨g, 0, none⟩ = some (.string s)) := hide (by rw [cell_of_row _ _ _ _ _ _ hb]; rfl)
  have q1 : Hid (w.cell? ⟨g, 1, none⟩ = some (.int .i64 at_)) := hide (by rw [cell_of_row _ _ _ _ _ _ hb]; rfl)
  have q2 : Hid (w.cell? ⟨g, 2, none⟩ = some (.int .i64 st)) := hide (by rw [cell_of_row _ _ _ _ _ _ hb]; rfl)
  have hgl := blk_lt hb
  have hbh := hide hb
  have hoh := hide ho
  clear hb ho
  have c0 := q0.out
  have c1 := q1.out
  have hu := And.intro hm (And.intro h0 h1)
  clear hu
  go_enter Tryz.func195, Tryz.ntmps195
  go_wp2
  go_loopw [3] (fun i wr => ∃ k : Nat, at_ ≤ k ∧ k ≤ p ∧ i = .int .i64 k ∧ w = wr) (fun i _ => s.size - (intOf i).toNat)
  case atStart => exact ⟨at_, Nat.le_refl _, hp1, rfl, rfl⟩
  case round =>
    obtain ⟨k, hk1, hk2, rfl, rfl⟩ := hrel
    by_cases hlt : k < p
    · have hks : k < s.size := by omega
      have e1 : ((s[k].toNat : Int) != 10) = true := by
        rw [bne_iff_ne]; intro h; exact hp3.out k hks hk1 hlt (UInt8.toNat_inj.1 (by show _ = 10; omega))
      go_wp2
      go_round
      case rel => exact ⟨k + 1, by omega, by omega, by go_num, trivial⟩
      case measure => simp [intOf]; omega
    · obtain rfl : k = p := by omega
      have hsp : ∀ W : World, Hid (Calls Tryz.prog 54 #[.string (s.extract at_ k), .int .u8 32] W fun e w' => ∃ v, e = .returned v ∧ Own strc 9 1 w' W.heap.size v [a, b, c, d].length [a, b, c, d] ∧ Below W.heap.size W w') := fun W => hide (by rw [hL]; exact sSplit_any 32 (s.extract at_ k) W (by rw [ByteArray.size_extract]; omega))
      have hLh := hide hL
      have hSP := hide hsp
      clear hL hsp
      have e10 : ((s[k].toNat : Int) != 10) = false := by rw [hp10]; rfl
      have b1 : (0 : Int) ≤ (at_ : Int) := by omega
      have b2 : (at_ : Int) ≤ (k : Int) := by omega
      have b3 : (k : Int) ≤ (s.size : Int) := by omega
      go_wp2_with fail
      have hC := hide (below_drewN (Below.refl w.heap.size w) 1)
      go_region_held3 (fun w' => w'.cell? ⟨g, 0, none⟩ = some (.string s) ∧ w'.cell? ⟨g, 1, none⟩ = some (.int .i64 at_)) (first | go_keep | exact ⟨keepc hC.out hgl q0.out, keepc hC.out hgl q1.out⟩)
        (first | (go_at_call 54; refine (hSP.out _).out.mono ?_; rintro e w2 ⟨v2, rfl, ho2, hb⟩; have hO2 := hide ho2; replace hC := hide (Below.up hC.out hb); clear hb ho2) | fail)
      have hu := hbz
      clear hu
      obtain ⟨Aw, cw, rfl, _⟩ := hO2.out.slice
      have hR := hO2.out.arr strc_len
      obtain ⟨bw, ow, x0, rfl, hbl, hx0, z0⟩ := hR.str (k := 0) (by show 0 < 4; omega)
      obtain ⟨_, _, x1, hA1, _, hx1, z1⟩ := hR.str (k := 1) (by show 1 < 4; omega)
      cases hA1
      obtain ⟨_, _, x2, hA2, _, hx2, z2⟩ := hR.str (k := 2) (by show 2 < 4; omega)
      cases hA2
      obtain rfl : a = x0 := by simpa using hx0
      obtain rfl : b = x1 := by simpa using hx1
      obtain rfl : c = x2 := by simpa using hx2
      clear hx0 hx1 hx2 hR hO2
      rw [Nat.add_zero] at z0
      have y1 := hide z1
      have y2 := hide z2
      have hD := hide (Below.refl w2.heap.size w2)
      clear z1 z2
      go_wp2_with fail
      refine (sRead_any a _ ha).mono ?_
      rintro e w3 ⟨rfl, hb⟩
      replace hC := hide (Below.up hC.out hb)
      replace hD := hide (Below.up hD.out hb)
      clear hb z0
      have z2 := keepc hD.out hbl y2.out
      go_wp2_with fail
      refine (sRead_any c _ hc).mono ?_
      rintro e w4 ⟨rfl, hb⟩
      replace hC := hide (Below.up hC.out hb)
      replace hD := hide (Below.up hD.out hb)
      clear hb z2
      have z1 := keepc hD.out hbl y1.out
      have j0 : (w4.alloc (.cells #[.int .i64 (rdNum a.data.toList), .string b, .int .i64 (rdNum c.data.toList)] 116)).cell? ⟨w4.heap.size, 0, none⟩ = some (.int .i64 (rdNum a.data.toList)) := by rw [cell_of_row _ _ _ _ _ _ (heap_alloc_new w4 _)]; rfl
      have j1 : (w4.alloc (.cells #[.int .i64 (rdNum a.data.toList), .string b, .int .i64 (rdNum c.data.toList)] 116)).cell? ⟨w4.heap.size, 1, none⟩ = some (.string b) := by rw [cell_of_row _ _ _ _ _ _ (heap_alloc_new w4 _)]; rfl
      have j2 : (w4.alloc (.cells #[.int .i64 (rdNum a.data.toList), .string b, .int .i64 (rdNum c.data.toList)] 116)).cell? ⟨w4.heap.size, 2, none⟩ = some (.int .i64 (rdNum c.data.toList)) := by rw [cell_of_row _ _ _ _ _ _ (heap_alloc_new w4 _)]; rfl
      have hnb := hide (heap_alloc_new w4 (.cells #[.int .i64 (rdNum a.data.toList), .string b, .int .i64 (rdNum c.data.toList)] 116))
      have hC4 := hide (hC.out.alloc hC.out.size (.cells #[.int .i64 (rdNum a.data.toList), .string b, .int .i64 (rdNum c.data.toList)] 116))
      have hj : w4.heap.size < (w4.alloc (.cells #[.int .i64 (rdNum a.data.toList), .string b, .int .i64 (rdNum c.data.toList)] 116)).heap.size := by simp
      go_wp2_with fail
      clear z1
      obtain ⟨h, hh⟩ : ∃ h, h = w4.heap.size := ⟨_, rfl⟩
      obtain ⟨W5, hW5⟩ : ∃ W5, W5 = w4.alloc (.cells #[.int .i64 (rdNum a.data.toList), .string b, .int .i64 (rdNum c.data.toList)] 116) := ⟨_, rfl⟩
      rw [← hW5] at j0 j1 j2 hC4 hj hnb ⊢
      rw [← hh] at j0 j1 j2 hj hnb ⊢
      have hge : w.heap.size ≤ h := by rw [hh]; exact hC.out.size
      have hge2 := hide hge
      clear hW5 hh hC hge
      have hb5 := hide (blk_below hbh.out hC4.out)
      have ho5 := hide (hoh.out.below hC4.out)
      have i0 := hide j0
      have i1 := hide j1
      have i2 := hide j2
      go_quiet ((first | (go_at_call 207; exact quiet_leftb (sEntry_any h 0 (⟨rdNum a.data.toList, b, rdNum c.data.toList⟩ : Entry) _ hbz i0.out i1.out i2.out) (by first | exact hX.out | rfl)) | (go_at_call 208; exact quiet_left2 (sDay_any g _ B at_ s st v done (by omega) hb5.out ho5.out)) | fail))
      go_wp2
      go_ret
      exact ⟨rfl, below_drewN hC4.out _⟩
end Go.Proofs.YtfpaejlipaainaaGreatDoor
namespace Go.Proofs.YtfpaejlipaainaaGreatDoor
open Go.ChangeShapes Go.WideShapes Go.ChangeAt Go.RowKit Go.Deep
set_option maxRecDepth 100000
def rlEnt (x : ByteArray) : Entry := match words 32 x with
  | [a, b, c, _] => ⟨rdNum a.data.toList, b, rdNum c.data.toList⟩
  | _ => ⟨0, ⟨#[]⟩, 0⟩
def rlOk (x : ByteArray) : Bool := match words 32 x with
  | [a, b, c, _] => rdOk a.data.toList && rdOk c.data.toList && (⟨rdNum a.data.toList, b, rdNum c.data.toList⟩ : Entry).ok
  | _ => false
theorem rl_ent {x : ByteArray} (h : rlOk x = true) : entOf x.data.toList = some (rlEnt x) ∧ (rlEnt x).ok = true := by
  unfold rlOk at h
  split at h
  · rename_i a b c d hw
    simp only [Bool.and_eq_true] at h
    have he := ent_words hw
    rw [if_pos ⟨h.1.1, h.1.2, h.2⟩] at he
    unfold rlEnt
    rw [hw]
    exact ⟨he, h.2⟩
  · cases h
theorem rl_none {x : ByteArray} (h : rlOk x = false) : entOf x.data.toList = none := by
  unfold rlOk at h
  split at h
  · rename_i a b c d hw
    rw [ent_words hw, if_neg]
    intro hh
    rw [hh.1, hh.2.1, hh.2.2] at h
    cases h
  · rename_i hne
    refine ent_not4 fun h4 => ?_
    match hw : words 32 x, h4 with
    | [a, b, c, d], _ => exact hne a b c d hw
theorem rl_not4 {x : ByteArray} (h : (words 32 x).length ≠ 4) : rlEnt x = ⟨0, ⟨#[]⟩, 0⟩ ∧ rlOk x = false := by
  constructor
  · unfold rlEnt; split
    · rename_i hw; rw [hw] at h; exact absurd rfl h
    · rfl
  · unfold rlOk; split
    · rename_i hw; rw [hw] at h; exact absurd rfl h
    · rfl
theorem rl_four {x a b c d : ByteArray} (h : words 32 x = [a, b, c, d]) : rlEnt x = ⟨rdNum a.data.toList, b, rdNum c.data.toList⟩ ∧ rlOk x = (rdOk a.data.toList && rdOk c.data.toList && (⟨rdNum a.data.toList, b, rdNum c.data.toList⟩ : Entry).ok) := by
  constructor
  · unfold rlEnt; rw [h]
  · unfold rlOk; rw [h]
def RL (x : Entry) (ok : Bool) (w : World) (e : Ending) (w' : World) : Prop := e = .returned (.tuple #[.agg #[.int .i64 x.fDay, .string x.fWhat, .int .i64 x.fValue], .bool ok]) ∧ Below w.heap.size w w'
set_option maxHeartbeats 1000000 in
theorem iLine_not4 (x : ByteArray) (w : World) (hs : x.size ≤ 1000000) (L : List ByteArray) (hL : L = words 32 x) (h4 : L.length ≠ 4) (hG : Gl w) :
    Calls Tryz.prog 172 #[.string x] w fun e w' => e = .returned (.tuple #[.agg #[.int .i64 0, .string ⟨#[]⟩, .int .i64 0], .bool false]) ∧ Below w.heap.size w w' := by
  have e4 : ((L.length : Int) != 4) = true := by rw [bne_iff_ne]; omega
  clear h4
  have hsp : ∀ W : World, Gl W → Hid (Calls Tryz.prog 27 #[.string x, .string ⟨#[32]⟩] W fun e w' => ∃ v, e = .returned v ∧ Own strc 9 1 w' W.heap.size v L.length L ∧ Below W.heap.size W w') := fun W hg => hide (by rw [hL]; exact iSplit_any 32 x W (by omega) hg)
  have hLh := hide hL
  have hSP := hide hsp
  have hGh := hide hG
  clear hL hsp hG
  have hB := hide ((Below.refl w.heap.size w).alloc (Nat.le_refl _) (.cells #[.int .i64 0, .string ⟨#[]⟩, .int .i64 0] 116))
  go_enter Tryz.func172, Tryz.ntmps172
  go_wp2_with fail
  have hres := hide (heap_alloc_new w (.cells #[.int .i64 0, .string ⟨#[]⟩, .int .i64 0] 116))
  obtain ⟨W1, hW1⟩ : ∃ W1, W1 = w.alloc (.cells #[.int .i64 0, .string ⟨#[]⟩, .int .i64 0] 116) := ⟨_, rfl⟩
  rw [← hW1] at hB hres ⊢
  clear hW1
  refine (hSP.out _ (hGh.out.below hB.out)).out.mono ?_
  rintro e w2 ⟨v2, rfl, ho2, hb⟩
  have hO2 := hide ho2
  replace hB := hide (Below.up hB.out hb)
  replace hres := hide (blk_below hres.out hb)
  clear hb ho2
  obtain ⟨Aw, cw, rfl, _⟩ := hO2.out.slice
  have f0 : w2.cell? ⟨w.heap.size, 0, none⟩ = some (.int .i64 0) := by rw [cell_of_row _ _ _ _ _ _ hres.out]; rfl
  have f1 : w2.cell? ⟨w.heap.size, 1, none⟩ = some (.string ⟨#[]⟩) := by rw [cell_of_row _ _ _ _ _ _ hres.out]; rfl
  have f2 : w2.cell? ⟨w.heap.size, 2, none⟩ = some (.int .i64 0) := by rw [cell_of_row _ _ _ _ _ _ hres.out]; rfl
  have ff : ∀ o, w2.frozen? ⟨w.heap.size, o, none⟩ = false := fun o => frozen_of_row w2 _ _ _ _ hres.out
  go_wp2
  exact bodyPost_ret (v := .tuple #[.agg #[.int .i64 0, .string ⟨#[]⟩, .int .i64 0], .bool false]) (by simp [results, Tryz.results172, go_sem, f0, f1, f2]) rfl ⟨rfl, ((hB.out.setCell (p := ⟨w.heap.size, 0, none⟩) (Nat.le_refl _) _).setCell (p := ⟨w.heap.size, 1, none⟩) (Nat.le_refl _) _).setCell (p := ⟨w.heap.size, 2, none⟩) (Nat.le_refl _) _⟩
set_option maxHeartbeats 1000000 in
theorem iLine_one (x : ByteArray) (w : World) (hs : x.size ≤ 1000000) (a b c d : ByteArray) (hL : [a, b, c, d] = words 32 x) (hG : Gl w) (k1 : rdOk a.data.toList = false) :
    Calls Tryz.prog 172 #[.string x] w (RL (⟨rdNum a.data.toList, b, rdNum c.data.toList⟩ : Entry) false w) := by
  have hsp : ∀ W : World, Gl W → Hid (Calls Tryz.prog 27 #[.string x, .string ⟨#[32]⟩] W fun e w' => ∃ v, e = .returned v ∧ Own strc 9 1 w' W.heap.size v [a, b, c, d].length [a, b, c, d] ∧ Below W.heap.size W w') := fun W hg => hide (by rw [hL]; exact iSplit_any 32 x W (by omega) hg)
  have hLh := hide hL
  have hSP := hide hsp
  have hGh := hide hG
  clear hL hsp hG
  have hB := hide ((Below.refl w.heap.size w).alloc (Nat.le_refl _) (.cells #[.int .i64 0, .string ⟨#[]⟩, .int .i64 0] 116))
  go_enter Tryz.func172, Tryz.ntmps172
  go_wp2_with fail
  have hres := hide (heap_alloc_new w (.cells #[.int .i64 0, .string ⟨#[]⟩, .int .i64 0] 116))
  obtain ⟨W1, hW1⟩ : ∃ W1, W1 = w.alloc (.cells #[.int .i64 0, .string ⟨#[]⟩, .int .i64 0] 116) := ⟨_, rfl⟩
  rw [← hW1] at hB hres ⊢
  clear hW1
  refine (hSP.out _ (hGh.out.below hB.out)).out.mono ?_
  rintro e w2 ⟨v2, rfl, ho2, hb⟩
  have hO2 := hide ho2
  replace hB := hide (Below.up hB.out hb)
  replace hres := hide (blk_below hres.out hb)
  clear hb ho2
  obtain ⟨Aw, cw, rfl, _⟩ := hO2.out.slice
  have hR := hO2.out.arr strc_len
  obtain ⟨bw, ow, x0, rfl, hbl, hx0, z0⟩ := hR.str (k := 0) (by show 0 < 4; omega)
  obtain ⟨_, _, x1, hA1, _, hx1, z1⟩ := hR.str (k := 1) (by show 1 < 4; omega)
  cases hA1
  obtain ⟨_, _, x2, hA2, _, hx2, z2⟩ := hR.str (k := 2) (by show 2 < 4; omega)
  cases hA2
  obtain rfl : a = x0 := by simpa using hx0
  obtain rfl : b = x1 := by simpa using hx1
  obtain rfl : c = x2 := by simpa using hx2
  clear hx0 hx1 hx2 hR hO2
  rw [Nat.add_zero] at z0
  have y1 := hide z1
  have y2 := hide z2
  have hD := hide (Below.refl w2.heap.size w2)
  clear z1 z2
  go_wp2_with fail
  refine (iRead_any a _ (hGh.out.below hB.out)).mono ?_
  rintro e w3 ⟨rfl, hb⟩
  replace hB := hide (Below.up hB.out hb)
  replace hD := hide (Below.up hD.out hb)
  replace hres := hide (blk_below hres.out hb)
  clear hb z0
  have z2 := keepc hD.out hbl y2.out
  go_wp2_with fail
  refine (iRead_any c _ (hGh.out.below hB.out)).mono ?_
  rintro e w4 ⟨rfl, hb⟩
  replace hB := hide (Below.up hB.out hb)
  replace hD := hide (Below.up hD.out hb)
  replace hres := hide (blk_below hres.out hb)
  clear hb z2
  have z1 := keepc hD.out hbl y1.out
  have j0 : (w4.alloc (.cells #[.int .i64 (rdNum a.data.toList), .string b, .int .i64 (rdNum c.data.toList)] 116)).cell? ⟨w4.heap.size, 0, none⟩ = some (.int .i64 (rdNum a.data.toList)) := by rw [cell_of_row _ _ _ _ _ _ (heap_alloc_new w4 _)]; rfl
  have j1 : (w4.alloc (.cells #[.int .i64 (rdNum a.data.toList), .string b, .int .i64 (rdNum c.data.toList)] 116)).cell? ⟨w4.heap.size, 1, none⟩ = some (.string b) := by rw [cell_of_row _ _ _ _ _ _ (heap_alloc_new w4 _)]; rfl
  have j2 : (w4.alloc (.cells #[.int .i64 (rdNum a.data.toList), .string b, .int .i64 (rdNum c.data.toList)] 116)).cell? ⟨w4.heap.size, 2, none⟩ = some (.int .i64 (rdNum c.data.toList)) := by rw [cell_of_row _ _ _ _ _ _ (heap_alloc_new w4 _)]; rfl
  have hlt4 : w.heap.size < w4.heap.size := blk_lt hres.out
  have hj : w4.heap.size < (w4.alloc (.cells #[.int .i64 (rdNum a.data.toList), .string b, .int .i64 (rdNum c.data.toList)] 116)).heap.size := by simp
  replace hres := hide (blk_below hres.out ((Below.refl w4.heap.size w4).alloc (Nat.le_refl _) (.cells #[.int .i64 (rdNum a.data.toList), .string b, .int .i64 (rdNum c.data.toList)] 116)))
  replace hB := hide (hB.out.alloc hB.out.size (.cells #[.int .i64 (rdNum a.data.toList), .string b, .int .i64 (rdNum c.data.toList)] 116))
  have hlt0 : w.heap.size < (w4.alloc (.cells #[.int .i64 (rdNum a.data.toList), .string b, .int .i64 (rdNum c.data.toList)] 116)).heap.size := blk_lt hres.out
  have hne0 : w.heap.size ≠ w4.heap.size := by omega
  go_wp2_with fail
  clear z1
  obtain ⟨h, hh⟩ : ∃ h, h = w4.heap.size := ⟨_, rfl⟩
  obtain ⟨W5, hW5⟩ : ∃ W5, W5 = w4.alloc (.cells #[.int .i64 (rdNum a.data.toList), .string b, .int .i64 (rdNum c.data.toList)] 116) := ⟨_, rfl⟩
  rw [← hW5] at j0 j1 j2 hB hj hres hlt0 ⊢
  rw [← hh] at j0 j1 j2 hj hne0 ⊢
  clear hW5 hh hlt4
  have f0 : W5.cell? ⟨w.heap.size, 0, none⟩ = some (.int .i64 0) := by rw [cell_of_row _ _ _ _ _ _ hres.out]; rfl
  have f1 : W5.cell? ⟨w.heap.size, 1, none⟩ = some (.string ⟨#[]⟩) := by rw [cell_of_row _ _ _ _ _ _ hres.out]; rfl
  have f2 : W5.cell? ⟨w.heap.size, 2, none⟩ = some (.int .i64 0) := by rw [cell_of_row _ _ _ _ _ _ hres.out]; rfl
  have ff : ∀ o, W5.frozen? ⟨w.heap.size, o, none⟩ = false := fun o => frozen_of_row W5 _ _ _ _ hres.out
  have hne1 : h ≠ w.heap.size := by omega
  go_region
  all_goals go_wp2
  all_goals exact bodyPost_ret (v := .tuple #[.agg #[.int .i64 (rdNum a.data.toList), .string b, .int .i64 (rdNum c.data.toList)], .bool false]) (by simp [results, Tryz.results172, go_sem, f0, f1, f2]) rfl ⟨rfl, (((hB.out.drew).setCell (p := ⟨w.heap.size, 0, none⟩) (Nat.le_refl _) _).setCell (p := ⟨w.heap.size, 1, none⟩) (Nat.le_refl _) _).setCell (p := ⟨w.heap.size, 2, none⟩) (Nat.le_refl _) _⟩
set_option maxHeartbeats 1000000 in
theorem iLine_two (x : ByteArray) (w : World) (hs : x.size ≤ 1000000) (a b c d : ByteArray) (hL : [a, b, c, d] = words 32 x) (hG : Gl w) (k1 : rdOk a.data.toList = true) (k2 : rdOk c.data.toList = false) :
    Calls Tryz.prog 172 #[.string x] w (RL (⟨rdNum a.data.toList, b, rdNum c.data.toList⟩ : Entry) false w) := by
  have hsp : ∀ W : World, Gl W → Hid (Calls Tryz.prog 27 #[.string x, .string ⟨#[32]⟩] W fun e w' => ∃ v, e = .returned v ∧ Own strc 9 1 w' W.heap.size v [a, b, c, d].length [a, b, c, d] ∧ Below W.heap.size W w') := fun W hg => hide (by rw [hL]; exact iSplit_any 32 x W (by omega) hg)
  have hLh := hide hL
  have hSP := hide hsp
  have hGh := hide hG
  clear hL hsp hG
  have hB := hide ((Below.refl w.heap.size w).alloc (Nat.le_refl _) (.cells #[.int .i64 0, .string ⟨#[]⟩, .int .i64 0] 116))
  go_enter Tryz.func172, Tryz.ntmps172
  go_wp2_with fail
  have hres := hide (heap_alloc_new w (.cells #[.int .i64 0, .string ⟨#[]⟩, .int .i64 0] 116))
  obtain ⟨W1, hW1⟩ : ∃ W1, W1 = w.alloc (.cells #[.int .i64 0, .string ⟨#[]⟩, .int .i64 0] 116) := ⟨_, rfl⟩
  rw [← hW1] at hB hres ⊢
  clear hW1
  refine (hSP.out _ (hGh.out.below hB.out)).out.mono ?_
  rintro e w2 ⟨v2, rfl, ho2, hb⟩
  have hO2 := hide ho2
  replace hB := hide (Below.up hB.out hb)
  replace hres := hide (blk_below hres.out hb)
  clear hb ho2
  obtain ⟨Aw, cw, rfl, _⟩ := hO2.out.slice
  have hR := hO2.out.arr strc_len
  obtain ⟨bw, ow, x0, rfl, hbl, hx0, z0⟩ := hR.str (k := 0) (by show 0 < 4; omega)
  obtain ⟨_, _, x1, hA1, _, hx1, z1⟩ := hR.str (k := 1) (by show 1 < 4; omega)
  cases hA1
  obtain ⟨_, _, x2, hA2, _, hx2, z2⟩ := hR.str (k := 2) (by show 2 < 4; omega)
  cases hA2
  obtain rfl : a = x0 := by simpa using hx0
  obtain rfl : b = x1 := by simpa using hx1
  obtain rfl : c = x2 := by simpa using hx2
  clear hx0 hx1 hx2 hR hO2
  rw [Nat.add_zero] at z0
  have y1 := hide z1
  have y2 := hide z2
  have hD := hide (Below.refl w2.heap.size w2)
  clear z1 z2
  go_wp2_with fail
  refine (iRead_any a _ (hGh.out.below hB.out)).mono ?_
  rintro e w3 ⟨rfl, hb⟩
  replace hB := hide (Below.up hB.out hb)
  replace hD := hide (Below.up hD.out hb)
  replace hres := hide (blk_below hres.out hb)
  clear hb z0
  have z2 := keepc hD.out hbl y2.out
  go_wp2_with fail
  refine (iRead_any c _ (hGh.out.below hB.out)).mono ?_
  rintro e w4 ⟨rfl, hb⟩
  replace hB := hide (Below.up hB.out hb)
  replace hD := hide (Below.up hD.out hb)
  replace hres := hide (blk_below hres.out hb)
  clear hb z2
  have z1 := keepc hD.out hbl y1.out
  have j0 : (w4.alloc (.cells #[.int .i64 (rdNum a.data.toList), .string b, .int .i64 (rdNum c.data.toList)] 116)).cell? ⟨w4.heap.size, 0, none⟩ = some (.int .i64 (rdNum a.data.toList)) := by rw [cell_of_row _ _ _ _ _ _ (heap_alloc_new w4 _)]; rfl
  have j1 : (w4.alloc (.cells #[.int .i64 (rdNum a.data.toList), .string b, .int .i64 (rdNum c.data.toList)] 116)).cell? ⟨w4.heap.size, 1, none⟩ = some (.string b) := by rw [cell_of_row _ _ _ _ _ _ (heap_alloc_new w4 _)]; rfl
  have j2 : (w4.alloc (.cells #[.int .i64 (rdNum a.data.toList), .string b, .int .i64 (rdNum c.data.toList)] 116)).cell? ⟨w4.heap.size, 2, none⟩ = some (.int .i64 (rdNum c.data.toList)) := by rw [cell_of_row _ _ _ _ _ _ (heap_alloc_new w4 _)]; rfl
  have hlt4 : w.heap.size < w4.heap.size := blk_lt hres.out
  have hj : w4.heap.size < (w4.alloc (.cells #[.int .i64 (rdNum a.data.toList), .string b, .int .i64 (rdNum c.data.toList)] 116)).heap.size := by simp
  replace hres := hide (blk_below hres.out ((Below.refl w4.heap.size w4).alloc (Nat.le_refl _) (.cells #[.int .i64 (rdNum a.data.toList), .string b, .int .i64 (rdNum c.data.toList)] 116)))
  replace hB := hide (hB.out.alloc hB.out.size (.cells #[.int .i64 (rdNum a.data.toList), .string b, .int .i64 (rdNum c.data.toList)] 116))
  have hlt0 : w.heap.size < (w4.alloc (.cells #[.int .i64 (rdNum a.data.toList), .string b, .int .i64 (rdNum c.data.toList)] 116)).heap.size := blk_lt hres.out
  have hne0 : w.heap.size ≠ w4.heap.size := by omega
  go_wp2_with fail
  clear z1
  obtain ⟨h, hh⟩ : ∃ h, h = w4.heap.size := ⟨_, rfl⟩
  obtain ⟨W5, hW5⟩ : ∃ W5, W5 = w4.alloc (.cells #[.int .i64 (rdNum a.data.toList), .string b, .int .i64 (rdNum c.data.toList)] 116) := ⟨_, rfl⟩
  rw [← hW5] at j0 j1 j2 hB hj hres hlt0 ⊢
  rw [← hh] at j0 j1 j2 hj hne0 ⊢
  clear hW5 hh hlt4
  have f0 : W5.cell? ⟨w.heap.size, 0, none⟩ = some (.int .i64 0) := by rw [cell_of_row _ _ _ _ _ _ hres.out]; rfl
  have f1 : W5.cell? ⟨w.heap.size, 1, none⟩ = some (.string ⟨#[]⟩) := by rw [cell_of_row _ _ _ _ _ _ hres.out]; rfl
  have f2 : W5.cell? ⟨w.heap.size, 2, none⟩ = some (.int .i64 0) := by rw [cell_of_row _ _ _ _ _ _ hres.out]; rfl
  have ff : ∀ o, W5.frozen? ⟨w.heap.size, o, none⟩ = false := fun o => frozen_of_row W5 _ _ _ _ hres.out
  have hne1 : h ≠ w.heap.size := by omega
  go_region
  all_goals go_wp2
  all_goals exact bodyPost_ret (v := .tuple #[.agg #[.int .i64 (rdNum a.data.toList), .string b, .int .i64 (rdNum c.data.toList)], .bool false]) (by simp [results, Tryz.results172, go_sem, f0, f1, f2]) rfl ⟨rfl, (((hB.out.drew).setCell (p := ⟨w.heap.size, 0, none⟩) (Nat.le_refl _) _).setCell (p := ⟨w.heap.size, 1, none⟩) (Nat.le_refl _) _).setCell (p := ⟨w.heap.size, 2, none⟩) (Nat.le_refl _) _⟩
set_option maxHeartbeats 1000000 in
theorem iLine_ok (x : ByteArray) (w : World) (hs : x.size ≤ 1000000) (a b c d : ByteArray) (hL : [a, b, c, d] = words 32 x) (hG : Gl w) (hbz : b.size ≤ maxLen) (k1 : rdOk a.data.toList = true) (k2 : rdOk c.data.toList = true) :
    Calls Tryz.prog 172 #[.string x] w (RL (⟨rdNum a.data.toList, b, rdNum c.data.toList⟩ : Entry) (⟨rdNum a.data.toList, b, rdNum c.data.toList⟩ : Entry).ok w) := by
  have hsp : ∀ W : World, Gl W → Hid (Calls Tryz.prog 27 #[.string x, .string ⟨#[32]⟩] W fun e w' => ∃ v, e = .returned v ∧ Own strc 9 1 w' W.heap.size v [a, b, c, d].length [a, b, c, d] ∧ Below W.heap.size W w') := fun W hg => hide (by rw [hL]; exact iSplit_any 32 x W (by omega) hg)
  have hLh := hide hL
  have hSP := hide hsp
  have hGh := hide hG
  clear hL hsp hG
  have hB := hide ((Below.refl w.heap.size w).alloc (Nat.le_refl _) (.cells #[.int .i64 0, .string ⟨#[]⟩, .int .i64 0] 116))
  go_enter Tryz.func172, Tryz.ntmps172
  go_wp2_with fail
  have hres := hide (heap_alloc_new w (.cells #[.int .i64 0, .string ⟨#[]⟩, .int .i64 0] 116))
  obtain ⟨W1, hW1⟩ : ∃ W1, W1 = w.alloc (.cells #[.int .i64 0, .string ⟨#[]⟩, .int .i64 0] 116) := ⟨_, rfl⟩
  rw [← hW1] at hB hres ⊢
  clear hW1
  refine (hSP.out _ (hGh.out.below hB.out)).out.mono ?_
  rintro e w2 ⟨v2, rfl, ho2, hb⟩
  have hO2 := hide ho2
  replace hB := hide (Below.up hB.out hb)
  replace hres := hide (blk_below hres.out hb)
  clear hb ho2
  obtain ⟨Aw, cw, rfl, _⟩ := hO2.out.slice
  have hR := hO2.out.arr strc_len
  obtain ⟨bw, ow, x0, rfl, hbl, hx0, z0⟩ := hR.str (k := 0) (by show 0 < 4; omega)
  obtain ⟨_, _, x1, hA1, _, hx1, z1⟩ := hR.str (k := 1) (by show 1 < 4; omega)
  cases hA1
  obtain ⟨_, _, x2, hA2, _, hx2, z2⟩ := hR.str (k := 2) (by show 2 < 4; omega)
  cases hA2
  obtain rfl : a = x0 := by simpa using hx0
  obtain rfl : b = x1 := by simpa using hx1
  obtain rfl : c = x2 := by simpa using hx2
  clear hx0 hx1 hx2 hR hO2
  rw [Nat.add_zero] at z0
  have y1 := hide z1
  have y2 := hide z2
  have hD := hide (Below.refl w2.heap.size w2)
  clear z1 z2
  go_wp2_with fail
  refine (iRead_any a _ (hGh.out.below hB.out)).mono ?_
  rintro e w3 ⟨rfl, hb⟩
  replace hB := hide (Below.up hB.out hb)
  replace hD := hide (Below.up hD.out hb)
  replace hres := hide (blk_below hres.out hb)
  clear hb z0
  have z2 := keepc hD.out hbl y2.out
  go_wp2_with fail
  refine (iRead_any c _ (hGh.out.below hB.out)).mono ?_
  rintro e w4 ⟨rfl, hb⟩
  replace hB := hide (Below.up hB.out hb)
  replace hD := hide (Below.up hD.out hb)
  replace hres := hide (blk_below hres.out hb)
  clear hb z2
  have z1 := keepc hD.out hbl y1.out
  have j0 : (w4.alloc (.cells #[.int .i64 (rdNum a.data.toList), .string b, .int .i64 (rdNum c.data.toList)] 116)).cell? ⟨w4.heap.size, 0, none⟩ = some (.int .i64 (rdNum a.data.toList)) := by rw [cell_of_row _ _ _ _ _ _ (heap_alloc_new w4 _)]; rfl
  have j1 : (w4.alloc (.cells #[.int .i64 (rdNum a.data.toList), .string b, .int .i64 (rdNum c.data.toList)] 116)).cell? ⟨w4.heap.size, 1, none⟩ = some (.string b) := by rw [cell_of_row _ _ _ _ _ _ (heap_alloc_new w4 _)]; rfl
  have j2 : (w4.alloc (.cells #[.int .i64 (rdNum a.data.toList), .string b, .int .i64 (rdNum c.data.toList)] 116)).cell? ⟨w4.heap.size, 2, none⟩ = some (.int .i64 (rdNum c.data.toList)) := by rw [cell_of_row _ _ _ _ _ _ (heap_alloc_new w4 _)]; rfl
  have hlt4 : w.heap.size < w4.heap.size := blk_lt hres.out
  have hj : w4.heap.size < (w4.alloc (.cells #[.int .i64 (rdNum a.data.toList), .string b, .int .i64 (rdNum c.data.toList)] 116)).heap.size := by simp
  replace hres := hide (blk_below hres.out ((Below.refl w4.heap.size w4).alloc (Nat.le_refl _) (.cells #[.int .i64 (rdNum a.data.toList), .string b, .int .i64 (rdNum c.data.toList)] 116)))
  replace hB := hide (hB.out.alloc hB.out.size (.cells #[.int .i64 (rdNum a.data.toList), .string b, .int .i64 (rdNum c.data.toList)] 116))
  have hlt0 : w.heap.size < (w4.alloc (.cells #[.int .i64 (rdNum a.data.toList), .string b, .int .i64 (rdNum c.data.toList)] 116)).heap.size := blk_lt hres.out
  have hne0 : w.heap.size ≠ w4.heap.size := by omega
  go_wp2_with fail
  clear z1
  obtain ⟨h, hh⟩ : ∃ h, h = w4.heap.size := ⟨_, rfl⟩
  obtain ⟨W5, hW5⟩ : ∃ W5, W5 = w4.alloc (.cells #[.int .i64 (rdNum a.data.toList), .string b, .int .i64 (rdNum c.data.toList)] 116) := ⟨_, rfl⟩
  rw [← hW5] at j0 j1 j2 hB hj hres hlt0 ⊢
  rw [← hh] at j0 j1 j2 hj hne0 ⊢
  clear hW5 hh hlt4
  have f0 : W5.cell? ⟨w.heap.size, 0, none⟩ = some (.int .i64 0) := by rw [cell_of_row _ _ _ _ _ _ hres.out]; rfl
  have f1 : W5.cell? ⟨w.heap.size, 1, none⟩ = some (.string ⟨#[]⟩) := by rw [cell_of_row _ _ _ _ _ _ hres.out]; rfl
  have f2 : W5.cell? ⟨w.heap.size, 2, none⟩ = some (.int .i64 0) := by rw [cell_of_row _ _ _ _ _ _ hres.out]; rfl
  have ff : ∀ o, W5.frozen? ⟨w.heap.size, o, none⟩ = false := fun o => frozen_of_row W5 _ _ _ _ hres.out
  have hne1 : h ≠ w.heap.size := by omega
  have q0 := hide f0
  have q1 := hide f1
  have q2 := hide f2
  have i0 := hide j0
  have i1 := hide j1
  have i2 := hide j2
  go_region_with ((go_at_call 124; refine (iEntry_any (⟨rdNum a.data.toList, b, rdNum c.data.toList⟩ : Entry) _ hbz).mono ?_; rintro e w6 ⟨rfl, hb⟩; have hU := Below.up (below_drewN (Below.refl W5.heap.size W5) _) hb; have hE := hide (Below.up hB.out hU); have f0 := keepc hU hlt0 q0.out; have f1 := keepc hU hlt0 q1.out; have f2 := keepc hU hlt0 q2.out; have ff : ∀ o, w6.frozen? ⟨w.heap.size, o, none⟩ = false := (fun o => frozen_of_row w6 _ _ _ _ (blk_below hres.out hU)); have j0 := keepc hU hj i0.out; have j1 := keepc hU hj i1.out; have j2 := keepc hU hj i2.out; clear hb hU))
  all_goals go_wp2
  all_goals exact bodyPost_ret (v := .tuple #[.agg #[.int .i64 (rdNum a.data.toList), .string b, .int .i64 (rdNum c.data.toList)], .bool (⟨rdNum a.data.toList, b, rdNum c.data.toList⟩ : Entry).ok]) (by simp [results, Tryz.results172, go_sem, f0, f1, f2]) rfl ⟨rfl, (((hE.out).setCell (p := ⟨w.heap.size, 0, none⟩) (Nat.le_refl _) _).setCell (p := ⟨w.heap.size, 1, none⟩) (Nat.le_refl _) _).setCell (p := ⟨w.heap.size, 2, none⟩) (Nat.le_refl _) _⟩
theorem iLineM_any (x : ByteArray) (w : World) (hs : x.size ≤ 1000000) (hG : Gl w) :
    Calls Tryz.prog 172 #[.string x] w (RL (rlEnt x) (rlOk x) w) := by
  by_cases h4 : (words 32 x).length ≠ 4
  · obtain ⟨e1, e2⟩ := rl_not4 h4
    rw [e1, e2]
    exact iLine_not4 x w hs _ rfl h4 hG
  obtain ⟨a, b, c, d, hw⟩ : ∃ a b c d, words 32 x = [a, b, c, d] := by
    match hww : words 32 x, h4 with
    | [a, b, c, d], _ => exact ⟨a, b, c, d, rfl⟩
    | [], h4 => exact absurd (by decide) h4
    | [_], h4 => exact absurd (by simp) h4
    | [_, _], h4 => exact absurd (by simp) h4
    | [_, _, _], h4 => exact absurd (by simp) h4
    | _ :: _ :: _ :: _ :: _ :: _, h4 => exact absurd (by simp) h4
  obtain ⟨e1, e2⟩ := rl_four hw
  have hbz : b.size ≤ maxLen := by
    have := words_size 32 x (show b ∈ words 32 x by rw [hw]; simp)
    unfold maxLen; omega
  rw [e1, e2]
  cases k1 : rdOk a.data.toList
  · exact iLine_one x w hs a b c d hw.symm hG k1
  cases k2 : rdOk c.data.toList
  · exact iLine_two x w hs a b c d hw.symm hG k1 k2
  exact iLine_ok x w hs a b c d hw.symm hG hbz k1 k2
end Go.Proofs.YtfpaejlipaainaaGreatDoor
