/- Texts that belong together, joined: contracts and plain laws. No statement is proved here. -/
import Derived.Test.YtfpaejlipaainaaGreatDoorM07
import Derived.Deep.LoopGhost
namespace Go.Proofs.YtfpaejlipaainaaGreatDoor
open Go.ChangeShapes Go.WideShapes Go.ChangeAt Go.RowKit Go.Deep
set_option maxRecDepth 100000
theorem info_Entry' : (Tryz.prog.info? 116).map (fun i => (i.zero, i.size, i.bytes)) = some (some (.agg #[.int .i64 0, .string ByteArray.empty, .int .i64 0]), 3, 32) := by kernel_rfl
theorem Entry.one : ∀ x, ∀ u ∈ Entry.cells x, u.oneCell' = true := by intro x u hu; simp [Entry.cells] at hu; rcases hu with rfl | rfl | rfl <;> rfl
theorem line_done {w w8 : World} {B g : Nat} {s : ByteArray} {at_ : Nat} {st : Int} {v : Value} {done : List Entry} {X : Entry} {A8 : Option Addr} {c8 : Nat}
    (hb : w8.heap[g]? = some (.cells #[.string s, .int .i64 at_, .int .i64 st, v] 166 (0, 0))) (ho : Own Entry.cells 116 3 w8 B (.slice A8 (done.length + 1) c8) (done.length + 1) (done ++ [X])) (hB : Below B w w8) (hBg : B ≤ g) (st' : Int) (k : Nat) :
    RB (((w8.setCell ⟨g, 3, none⟩ (.slice A8 (done.length + 1) c8)).setCell ⟨g, 2, none⟩ (.int .i64 st')).setCell ⟨g, 1, none⟩ (.int .i64 ((k : Int) + 1))) B g s (done ++ [X]) (k + 1) st' ∧
    Below B w (((w8.setCell ⟨g, 3, none⟩ (.slice A8 (done.length + 1) c8)).setCell ⟨g, 2, none⟩ (.int .i64 st')).setCell ⟨g, 1, none⟩ (.int .i64 ((k : Int) + 1))) := by
  have hne := own_other ho hb (by decide)
  refine ⟨⟨.slice A8 (done.length + 1) c8, ?_, ?_⟩, ((hB.setCell (p := ⟨g, 3, none⟩) hBg _).setCell (p := ⟨g, 2, none⟩) hBg _).setCell (p := ⟨g, 1, none⟩) hBg _⟩
  · exact blk_set (blk_set (blk_set hb 3 _) 2 _) 1 _
  · rw [List.length_append]
    exact ((ho.setFar (p := ⟨g, 3, none⟩) hne _).setFar (p := ⟨g, 2, none⟩) hne _).setFar (p := ⟨g, 1, none⟩) hne _
set_option maxHeartbeats 1000000 in
theorem sLine_stamp (g at_ B : Nat) (s : ByteArray) (st : Int) (v : Value) (done : List Entry) (w : World) (hs : s.size ≤ 1000000) (hm : done.length ≤ 1000000) (h0 : 0 ≤ st) (h1 : st ≤ 65518)
    (hb : w.heap[g]? = some (.cells #[.string s, .int .i64 at_, .int .i64 st, v] 166 (0, 0))) (ho : Own Entry.cells 116 3 w B v done.length done) (p : Nat) (hp1 : at_ ≤ p) (a b c d : ByteArray) (ha : a.size ≤ maxLen) (hc : c.size ≤ maxLen) (hbz : b.size ≤ maxLen) (hp2 : p < s.size) (hp10 : s[p] = 10) (hp3 : Hid (∀ j (h : j < s.size), at_ ≤ j → j < p → s[j] ≠ 10)) (hL : [a, b, c, d] = words 32 (s.extract at_ p)) (k1 : rdOk a.data.toList = true) (k2 : rdOk c.data.toList = true) (hX : Hid ((⟨rdNum a.data.toList, b, rdNum c.data.toList⟩ : Entry).ok = true)) (kd : lastDay done ≤ rdNum a.data.toList) (hst : ¬ lineB (stampB st (entB (⟨rdNum a.data.toList, b, rdNum c.data.toList⟩ : Entry))) (⟨rdNum a.data.toList, b, rdNum c.data.toList⟩ : Entry) = s.extract at_ (p + 1)) :
    Calls Tryz.prog 195 #[.pointer (some ⟨g, 0, none⟩)] w fun e w' => e = .returned (.bool false) ∧ Below w.heap.size w w' := by
  have kd2 : decide (rdNum a.data.toList < lastDay done) = false := decide_eq_false (by omega)
  have q0 : Hid (w.cell? ⟨g, 0, none⟩ = some (.string s)) := hide (by rw [cell_of_row _ _ _ _ _ _ hb]; rfl)
  have q1 : Hid (w.cell? ⟨g, 1, none⟩ = some (.int .i64 at_)) := hide (by rw [cell_of_row _ _ _ _ _ _ hb]; rfl)
  have q2 : Hid (w.cell? ⟨g, 2, none⟩ = some (.int .i64 st)) := hide (by rw [cell_of_row _ _ _ _ _ _ hb]; rfl)
  have hgl := blk_lt hb
  have hbh := hide hb
  have hoh := hide ho
  clear hb ho
  have c0 := q0.out
  have c1 := q1.out
  have hu := And.intro hm (And.intro h0 h1)
  clear hu
  go_enter Tryz.func195, Tryz.ntmps195
  go_wp2
  go_loopw [3] (fun i wr => ∃ k : Nat, at_ ≤ k ∧ k ≤ p ∧ i = .int .i64 k ∧ w = wr) (fun i _ => s.size - (intOf i).toNat)
  case atStart => exact ⟨at_, Nat.le_refl _, hp1, rfl, rfl⟩
  case round =>
    obtain ⟨k, hk1, hk2, rfl, rfl⟩ := hrel
    by_cases hlt : k < p
    · have hks : k < s.size := by omega
      have e1 : ((s[k].toNat : Int) != 10) = true := by
        rw [bne_iff_ne]; intro h; exact hp3.out k hks hk1 hlt (UInt8.toNat_inj.1 (by show _ = 10; omega))
      go_wp2
      go_round
      case rel => exact ⟨k + 1, by omega, by omega, by go_num, trivial⟩
      case measure => simp [intOf]; omega
    · obtain rfl : k = p := by omega
      have hsp : ∀ W : World, Hid (Calls Tryz.prog 54 #[.string (s.extract at_ k), .int .u8 32] W fun e w' => ∃ v, e = .returned v ∧ Own strc 9 1 w' W.heap.size v [a, b, c, d].length [a, b, c, d] ∧ Below W.heap.size W w') := fun W => hide (by rw [hL]; exact sSplit_any 32 (s.extract at_ k) W (by rw [ByteArray.size_extract]; omega))
      have hLh := hide hL
      have hSP := hide hsp
      clear hL hsp
      have e10 : ((s[k].toNat : Int) != 10) = false := by rw [hp10]; rfl
      have b1 : (0 : Int) ≤ (at_ : Int) := by omega
      have b2 : (at_ : Int) ≤ (k : Int) := by omega
      have b3 : (k : Int) ≤ (s.size : Int) := by omega
      go_wp2_with fail
      have hC := hide (below_drewN (Below.refl w.heap.size w) 1)
      go_region_held3 (fun w' => w'.cell? ⟨g, 0, none⟩ = some (.string s) ∧ w'.cell? ⟨g, 1, none⟩ = some (.int .i64 at_)) (first | go_keep | exact ⟨keepc hC.out hgl q0.out, keepc hC.out hgl q1.out⟩)
        (first | (go_at_call 54; refine (hSP.out _).out.mono ?_; rintro e w2 ⟨v2, rfl, ho2, hb⟩; have hO2 := hide ho2; replace hC := hide (Below.up hC.out hb); clear hb ho2) | fail)
      have hu := hbz
      clear hu
      obtain ⟨Aw, cw, rfl, _⟩ := hO2.out.slice
      have hR := hO2.out.arr strc_len
      obtain ⟨bw, ow, x0, rfl, hbl, hx0, z0⟩ := hR.str (k := 0) (by show 0 < 4; omega)
      obtain ⟨_, _, x1, hA1, _, hx1, z1⟩ := hR.str (k := 1) (by show 1 < 4; omega)
      cases hA1
      obtain ⟨_, _, x2, hA2, _, hx2, z2⟩ := hR.str (k := 2) (by show 2 < 4; omega)
      cases hA2
      obtain rfl : a = x0 := by simpa using hx0
      obtain rfl : b = x1 := by simpa using hx1
      obtain rfl : c = x2 := by simpa using hx2
      clear hx0 hx1 hx2 hR hO2
      rw [Nat.add_zero] at z0
      have y1 := hide z1
      have y2 := hide z2
      have hD := hide (Below.refl w2.heap.size w2)
      clear z1 z2
      go_wp2_with fail
      refine (sRead_any a _ ha).mono ?_
      rintro e w3 ⟨rfl, hb⟩
      replace hC := hide (Below.up hC.out hb)
      replace hD := hide (Below.up hD.out hb)
      clear hb z0
      have z2 := keepc hD.out hbl y2.out
      go_wp2_with fail
      refine (sRead_any c _ hc).mono ?_
      rintro e w4 ⟨rfl, hb⟩
      replace hC := hide (Below.up hC.out hb)
      replace hD := hide (Below.up hD.out hb)
      clear hb z2
      have z1 := keepc hD.out hbl y1.out
      have j0 : (w4.alloc (.cells #[.int .i64 (rdNum a.data.toList), .string b, .int .i64 (rdNum c.data.toList)] 116)).cell? ⟨w4.heap.size, 0, none⟩ = some (.int .i64 (rdNum a.data.toList)) := by rw [cell_of_row _ _ _ _ _ _ (heap_alloc_new w4 _)]; rfl
      have j1 : (w4.alloc (.cells #[.int .i64 (rdNum a.data.toList), .string b, .int .i64 (rdNum c.data.toList)] 116)).cell? ⟨w4.heap.size, 1, none⟩ = some (.string b) := by rw [cell_of_row _ _ _ _ _ _ (heap_alloc_new w4 _)]; rfl
      have j2 : (w4.alloc (.cells #[.int .i64 (rdNum a.data.toList), .string b, .int .i64 (rdNum c.data.toList)] 116)).cell? ⟨w4.heap.size, 2, none⟩ = some (.int .i64 (rdNum c.data.toList)) := by rw [cell_of_row _ _ _ _ _ _ (heap_alloc_new w4 _)]; rfl
      have hnb := hide (heap_alloc_new w4 (.cells #[.int .i64 (rdNum a.data.toList), .string b, .int .i64 (rdNum c.data.toList)] 116))
      have hC4 := hide (hC.out.alloc hC.out.size (.cells #[.int .i64 (rdNum a.data.toList), .string b, .int .i64 (rdNum c.data.toList)] 116))
      have hj : w4.heap.size < (w4.alloc (.cells #[.int .i64 (rdNum a.data.toList), .string b, .int .i64 (rdNum c.data.toList)] 116)).heap.size := by simp
      go_wp2_with fail
      clear z1
      obtain ⟨h, hh⟩ : ∃ h, h = w4.heap.size := ⟨_, rfl⟩
      obtain ⟨W5, hW5⟩ : ∃ W5, W5 = w4.alloc (.cells #[.int .i64 (rdNum a.data.toList), .string b, .int .i64 (rdNum c.data.toList)] 116) := ⟨_, rfl⟩
      rw [← hW5] at j0 j1 j2 hC4 hj hnb ⊢
      rw [← hh] at j0 j1 j2 hj hnb ⊢
      have hge : w.heap.size ≤ h := by rw [hh]; exact hC.out.size
      have hge2 := hide hge
      clear hW5 hh hC hge
      have hb5 := hide (blk_below hbh.out hC4.out)
      have ho5 := hide (hoh.out.below hC4.out)
      have i0 := hide j0
      have i1 := hide j1
      have i2 := hide j2
      go_quiet ((first | (go_at_call 207; exact quiet_leftb (sEntry_any h 0 (⟨rdNum a.data.toList, b, rdNum c.data.toList⟩ : Entry) _ hbz i0.out i1.out i2.out) (by first | exact hX.out | rfl)) | (go_at_call 208; exact quiet_left2 (sDay_any g _ B at_ s st v done (by omega) hb5.out ho5.out)) | fail))
      have q25 := hide (keepc hC4.out hgl q2.out)
      have q05 := hide (keepc hC4.out hgl q0.out)
      have q15 := hide (keepc hC4.out hgl q1.out)
      have hg5 : g < W5.heap.size := Nat.lt_of_lt_of_le hgl hC4.out.size
      have hk := hX.out
      obtain ⟨r1, r2⟩ := stampB_range st (entB (⟨rdNum a.data.toList, b, rdNum c.data.toList⟩ : Entry))
      have hzE := entB_size hk
      have hstp := fun W => hide (sStamp_any st (entB (⟨rdNum a.data.toList, b, rdNum c.data.toList⟩ : Entry)) W h0 h1 hzE)
      have hSTP := hide hstp
      obtain ⟨st', hst'⟩ : ∃ st', st' = stampB st (entB (⟨rdNum a.data.toList, b, rdNum c.data.toList⟩ : Entry)) := ⟨_, rfl⟩
      rw [← hst'] at hst r1 r2 hSTP
      have hSt := hide hst'
      clear hst' hstp j0 j1 j2
      have c2 := q25.out
      go_wp2_with fail
      go_region_held3 (fun w' => w'.cell? ⟨g, 2, none⟩ = some (.int .i64 st)) (first | go_keep | exact keepc hE.out hg5 q25.out)
        (first | (go_at_call 157; refine (sWords_any h 0 (⟨rdNum a.data.toList, b, rdNum c.data.toList⟩ : Entry) _ hk (by exact hj) (by exact i0.out) (by exact i1.out) (by exact i2.out)).mono ?_; rintro e w6 ⟨rfl, hb⟩; have hE := hide (Below.up (below_drewN (Below.refl W5.heap.size W5) _) hb); clear hb) | (go_at_call 210; refine (hSTP.out _).out.mono ?_; rintro e w' ⟨rfl, rfl⟩) | fail)
      go_wp2_with fail
      clear c2
      have hj6 : h < w6.heap.size := Nat.lt_of_lt_of_le hj hE.out.size
      have hg6 : g < w6.heap.size := Nat.lt_of_lt_of_le hg5 hE.out.size
      have p0 := hide (keepc hE.out hj i0.out)
      have p1 := hide (keepc hE.out hj i1.out)
      have p2 := hide (keepc hE.out hj i2.out)
      have q06 := hide (keepc hE.out hg5 q05.out)
      have q16 := hide (keepc hE.out hg5 q15.out)
      have q26 := hide (keepc hE.out hg5 q25.out)
      have c0 := q06.out
      have c1 := q16.out
      have hF := hide (below_drewN (Below.refl w6.heap.size w6) 1)
      have b4 : (at_ : Int) ≤ (k : Int) + 1 := by omega
      have b5 : (k : Int) + 1 ≤ (s.size : Int) := by omega
      have b6 : IntKind.i64.wrap ((k : Int) + 1) = (k : Int) + 1 := IntWalk.i64_in _ (by omega)
      have b7 : ((k : Int) + 1).toNat = k + 1 := by omega
      have b8 : (0 : Int) ≤ (k : Int) + 1 := by omega
      have e5 := str_ne hst
      go_region_held3 (fun w' => w'.cell? ⟨g, 0, none⟩ = some (.string s) ∧ w'.cell? ⟨g, 1, none⟩ = some (.int .i64 at_)) (first | go_keep | exact ⟨keepc hF.out hg6 q06.out, keepc hF.out hg6 q16.out⟩)
        (first | (go_at_call 209; refine (sLine_any st' h 0 (⟨rdNum a.data.toList, b, rdNum c.data.toList⟩ : Entry) _ r1 r2 hk (by exact hj6) (by exact p0.out) (by exact p1.out) (by exact p2.out)).mono ?_; rintro e w7 ⟨rfl, hb⟩; replace hF := hide (Below.up hF.out hb); clear hb) | fail)
      clear b6 b7
      go_wp2
      go_ret
      exact ⟨rfl, Below.up (Below.up hC4.out hE.out) hF.out⟩
set_option maxHeartbeats 1000000 in
theorem sLine_yes (g at_ B : Nat) (s : ByteArray) (st : Int) (v : Value) (done : List Entry) (w : World) (hs : s.size ≤ 1000000) (hm : done.length ≤ 1000000) (h0 : 0 ≤ st) (h1 : st ≤ 65518)
    (hb : w.heap[g]? = some (.cells #[.string s, .int .i64 at_, .int .i64 st, v] 166 (0, 0))) (ho : Own Entry.cells 116 3 w B v done.length done) (p : Nat) (hp1 : at_ ≤ p) (a b c d : ByteArray) (ha : a.size ≤ maxLen) (hc : c.size ≤ maxLen) (hbz : b.size ≤ maxLen) (hp2 : p < s.size) (hp10 : s[p] = 10) (hp3 : Hid (∀ j (h : j < s.size), at_ ≤ j → j < p → s[j] ≠ 10)) (hL : [a, b, c, d] = words 32 (s.extract at_ p)) (k1 : rdOk a.data.toList = true) (k2 : rdOk c.data.toList = true) (hX : Hid ((⟨rdNum a.data.toList, b, rdNum c.data.toList⟩ : Entry).ok = true)) (kd : lastDay done ≤ rdNum a.data.toList) (hst : lineB (stampB st (entB (⟨rdNum a.data.toList, b, rdNum c.data.toList⟩ : Entry))) (⟨rdNum a.data.toList, b, rdNum c.data.toList⟩ : Entry) = s.extract at_ (p + 1)) (hBg : B ≤ g) :
    Calls Tryz.prog 195 #[.pointer (some ⟨g, 0, none⟩)] w fun e w' => e = .returned (.bool true) ∧ RB w' B g s (done ++ [(⟨rdNum a.data.toList, b, rdNum c.data.toList⟩ : Entry)]) (p + 1) (stampB st (entB (⟨rdNum a.data.toList, b, rdNum c.data.toList⟩ : Entry))) ∧ Below B w w' := by
  have kd2 : decide (rdNum a.data.toList < lastDay done) = false := decide_eq_false (by omega)
  have q0 : Hid (w.cell? ⟨g, 0, none⟩ = some (.string s)) := hide (by rw [cell_of_row _ _ _ _ _ _ hb]; rfl)
  have q1 : Hid (w.cell? ⟨g, 1, none⟩ = some (.int .i64 at_)) := hide (by rw [cell_of_row _ _ _ _ _ _ hb]; rfl)
  have q2 : Hid (w.cell? ⟨g, 2, none⟩ = some (.int .i64 st)) := hide (by rw [cell_of_row _ _ _ _ _ _ hb]; rfl)
  have hgl := blk_lt hb
  have hbh := hide hb
  have hoh := hide ho
  clear hb ho
  have c0 := q0.out
  have c1 := q1.out
  have hu := And.intro hm (And.intro h0 h1)
  clear hu
  go_enter Tryz.func195, Tryz.ntmps195
  go_wp2
  go_loopw [3] (fun i wr => ∃ k : Nat, at_ ≤ k ∧ k ≤ p ∧ i = .int .i64 k ∧ w = wr) (fun i _ => s.size - (intOf i).toNat)
  case atStart => exact ⟨at_, Nat.le_refl _, hp1, rfl, rfl⟩
  case round =>
    obtain ⟨k, hk1, hk2, rfl, rfl⟩ := hrel
    by_cases hlt : k < p
    · have hks : k < s.size := by omega
      have e1 : ((s[k].toNat : Int) != 10) = true := by
        rw [bne_iff_ne]; intro h; exact hp3.out k hks hk1 hlt (UInt8.toNat_inj.1 (by show _ = 10; omega))
      go_wp2
      go_round
      case rel => exact ⟨k + 1, by omega, by omega, by go_num, trivial⟩
      case measure => simp [intOf]; omega
    · obtain rfl : k = p := by omega
      have hsp : ∀ W : World, Hid (Calls Tryz.prog 54 #[.string (s.extract at_ k), .int .u8 32] W fun e w' => ∃ v, e = .returned v ∧ Own strc 9 1 w' W.heap.size v [a, b, c, d].length [a, b, c, d] ∧ Below W.heap.size W w') := fun W => hide (by rw [hL]; exact sSplit_any 32 (s.extract at_ k) W (by rw [ByteArray.size_extract]; omega))
      have hLh := hide hL
      have hSP := hide hsp
      clear hL hsp
      have e10 : ((s[k].toNat : Int) != 10) = false := by rw [hp10]; rfl
      have b1 : (0 : Int) ≤ (at_ : Int) := by omega
      have b2 : (at_ : Int) ≤ (k : Int) := by omega
      have b3 : (k : Int) ≤ (s.size : Int) := by omega
      go_wp2_with fail
      have hC := hide (below_drewN (Below.refl w.heap.size w) 1)
      go_region_held3 (fun w' => w'.cell? ⟨g, 0, none⟩ = some (.string s) ∧ w'.cell? ⟨g, 1, none⟩ = some (.int .i64 at_)) (first | go_keep | exact ⟨keepc hC.out hgl q0.out, keepc hC.out hgl q1.out⟩)
        (first | (go_at_call 54; refine (hSP.out _).out.mono ?_; rintro e w2 ⟨v2, rfl, ho2, hb⟩; have hO2 := hide ho2; replace hC := hide (Below.up hC.out hb); clear hb ho2) | fail)
      have hu := hbz
      clear hu
      obtain ⟨Aw, cw, rfl, _⟩ := hO2.out.slice
      have hR := hO2.out.arr strc_len
      obtain ⟨bw, ow, x0, rfl, hbl, hx0, z0⟩ := hR.str (k := 0) (by show 0 < 4; omega)
      obtain ⟨_, _, x1, hA1, _, hx1, z1⟩ := hR.str (k := 1) (by show 1 < 4; omega)
      cases hA1
      obtain ⟨_, _, x2, hA2, _, hx2, z2⟩ := hR.str (k := 2) (by show 2 < 4; omega)
      cases hA2
      obtain rfl : a = x0 := by simpa using hx0
      obtain rfl : b = x1 := by simpa using hx1
      obtain rfl : c = x2 := by simpa using hx2
      clear hx0 hx1 hx2 hR hO2
      rw [Nat.add_zero] at z0
      have y1 := hide z1
      have y2 := hide z2
      have hD := hide (Below.refl w2.heap.size w2)
      clear z1 z2
      go_wp2_with fail
      refine (sRead_any a _ ha).mono ?_
      rintro e w3 ⟨rfl, hb⟩
      replace hC := hide (Below.up hC.out hb)
      replace hD := hide (Below.up hD.out hb)
      clear hb z0
      have z2 := keepc hD.out hbl y2.out
      go_wp2_with fail
      refine (sRead_any c _ hc).mono ?_
      rintro e w4 ⟨rfl, hb⟩
      replace hC := hide (Below.up hC.out hb)
      replace hD := hide (Below.up hD.out hb)
      clear hb z2
      have z1 := keepc hD.out hbl y1.out
      have j0 : (w4.alloc (.cells #[.int .i64 (rdNum a.data.toList), .string b, .int .i64 (rdNum c.data.toList)] 116)).cell? ⟨w4.heap.size, 0, none⟩ = some (.int .i64 (rdNum a.data.toList)) := by rw [cell_of_row _ _ _ _ _ _ (heap_alloc_new w4 _)]; rfl
      have j1 : (w4.alloc (.cells #[.int .i64 (rdNum a.data.toList), .string b, .int .i64 (rdNum c.data.toList)] 116)).cell? ⟨w4.heap.size, 1, none⟩ = some (.string b) := by rw [cell_of_row _ _ _ _ _ _ (heap_alloc_new w4 _)]; rfl
      have j2 : (w4.alloc (.cells #[.int .i64 (rdNum a.data.toList), .string b, .int .i64 (rdNum c.data.toList)] 116)).cell? ⟨w4.heap.size, 2, none⟩ = some (.int .i64 (rdNum c.data.toList)) := by rw [cell_of_row _ _ _ _ _ _ (heap_alloc_new w4 _)]; rfl
      have hnb := hide (heap_alloc_new w4 (.cells #[.int .i64 (rdNum a.data.toList), .string b, .int .i64 (rdNum c.data.toList)] 116))
      have hC4 := hide (hC.out.alloc hC.out.size (.cells #[.int .i64 (rdNum a.data.toList), .string b, .int .i64 (rdNum c.data.toList)] 116))
      have hj : w4.heap.size < (w4.alloc (.cells #[.int .i64 (rdNum a.data.toList), .string b, .int .i64 (rdNum c.data.toList)] 116)).heap.size := by simp
      go_wp2_with fail
      clear z1
      obtain ⟨h, hh⟩ : ∃ h, h = w4.heap.size := ⟨_, rfl⟩
      obtain ⟨W5, hW5⟩ : ∃ W5, W5 = w4.alloc (.cells #[.int .i64 (rdNum a.data.toList), .string b, .int .i64 (rdNum c.data.toList)] 116) := ⟨_, rfl⟩
      rw [← hW5] at j0 j1 j2 hC4 hj hnb ⊢
      rw [← hh] at j0 j1 j2 hj hnb ⊢
      have hge : w.heap.size ≤ h := by rw [hh]; exact hC.out.size
      have hge2 := hide hge
      clear hW5 hh hC hge
      have hb5 := hide (blk_below hbh.out hC4.out)
      have ho5 := hide (hoh.out.below hC4.out)
      have i0 := hide j0
      have i1 := hide j1
      have i2 := hide j2
      go_quiet ((first | (go_at_call 207; exact quiet_leftb (sEntry_any h 0 (⟨rdNum a.data.toList, b, rdNum c.data.toList⟩ : Entry) _ hbz i0.out i1.out i2.out) (by first | exact hX.out | rfl)) | (go_at_call 208; exact quiet_left2 (sDay_any g _ B at_ s st v done (by omega) hb5.out ho5.out)) | fail))
      have q25 := hide (keepc hC4.out hgl q2.out)
      have q05 := hide (keepc hC4.out hgl q0.out)
      have q15 := hide (keepc hC4.out hgl q1.out)
      have hg5 : g < W5.heap.size := Nat.lt_of_lt_of_le hgl hC4.out.size
      have hk := hX.out
      obtain ⟨r1, r2⟩ := stampB_range st (entB (⟨rdNum a.data.toList, b, rdNum c.data.toList⟩ : Entry))
      have hzE := entB_size hk
      have hstp := fun W => hide (sStamp_any st (entB (⟨rdNum a.data.toList, b, rdNum c.data.toList⟩ : Entry)) W h0 h1 hzE)
      have hSTP := hide hstp
      obtain ⟨st', hst'⟩ : ∃ st', st' = stampB st (entB (⟨rdNum a.data.toList, b, rdNum c.data.toList⟩ : Entry)) := ⟨_, rfl⟩
      rw [← hst'] at hst r1 r2 hSTP
      have hSt := hide hst'
      clear hst' hstp j0 j1 j2
      have c2 := q25.out
      go_wp2_with fail
      go_region_held3 (fun w' => w'.cell? ⟨g, 2, none⟩ = some (.int .i64 st)) (first | go_keep | exact keepc hE.out hg5 q25.out)
        (first | (go_at_call 157; refine (sWords_any h 0 (⟨rdNum a.data.toList, b, rdNum c.data.toList⟩ : Entry) _ hk (by exact hj) (by exact i0.out) (by exact i1.out) (by exact i2.out)).mono ?_; rintro e w6 ⟨rfl, hb⟩; have hE := hide (Below.up (below_drewN (Below.refl W5.heap.size W5) _) hb); clear hb) | (go_at_call 210; refine (hSTP.out _).out.mono ?_; rintro e w' ⟨rfl, rfl⟩) | fail)
      go_wp2_with fail
      clear c2
      have hj6 : h < w6.heap.size := Nat.lt_of_lt_of_le hj hE.out.size
      have hg6 : g < w6.heap.size := Nat.lt_of_lt_of_le hg5 hE.out.size
      have p0 := hide (keepc hE.out hj i0.out)
      have p1 := hide (keepc hE.out hj i1.out)
      have p2 := hide (keepc hE.out hj i2.out)
      have q06 := hide (keepc hE.out hg5 q05.out)
      have q16 := hide (keepc hE.out hg5 q15.out)
      have q26 := hide (keepc hE.out hg5 q25.out)
      have c0 := q06.out
      have c1 := q16.out
      have hF := hide (below_drewN (Below.refl w6.heap.size w6) 1)
      have b4 : (at_ : Int) ≤ (k : Int) + 1 := by omega
      have b5 : (k : Int) + 1 ≤ (s.size : Int) := by omega
      have b6 : IntKind.i64.wrap ((k : Int) + 1) = (k : Int) + 1 := IntWalk.i64_in _ (by omega)
      have b7 : ((k : Int) + 1).toNat = k + 1 := by omega
      have b8 : (0 : Int) ≤ (k : Int) + 1 := by omega
      have e5 := str_eq hst
      go_region_held3 (fun w' => w'.cell? ⟨g, 0, none⟩ = some (.string s) ∧ w'.cell? ⟨g, 1, none⟩ = some (.int .i64 at_)) (first | go_keep | exact ⟨keepc hF.out hg6 q06.out, keepc hF.out hg6 q16.out⟩)
        (first | (go_at_call 209; refine (sLine_any st' h 0 (⟨rdNum a.data.toList, b, rdNum c.data.toList⟩ : Entry) _ r1 r2 hk (by exact hj6) (by exact p0.out) (by exact p1.out) (by exact p2.out)).mono ?_; rintro e w7 ⟨rfl, hb⟩; replace hF := hide (Below.up hF.out hb); clear hb) | fail)
      clear b6 b7
      go_wp2_with fail
      clear e5 c0 c1
      have hU := hide (Below.up hE.out hF.out)
      have g0 := keepc hF.out hj6 p0.out
      have g1 := keepc hF.out hj6 p1.out
      have g2 := keepc hF.out hj6 p2.out
      have hb7 := hide (blk_below hb5.out hU.out)
      have ho7 := hide (ho5.out.below hU.out)
      have hne := hide (own_other ho7.out hb7.out (by decide))
      have f3 : w7.cell? ⟨g, 3, none⟩ = some v := by rw [cell_of_row _ _ _ _ _ _ hb7.out]; rfl
      have f3b : ∀ O, (w7.alloc O).cell? ⟨g, 3, none⟩ = some v := fun O => (World.cell?_alloc_lt w7 O ⟨g, 3, none⟩ (by exact blk_lt hb7.out)).trans f3
      have hB7 : B ≤ w7.heap.size := by have := blk_lt hb7.out; omega
      have hBU := hide (((Below.up hC4.out hU.out).mono (show B ≤ w.heap.size by omega)))
      have hd : Below w7.heap.size w7 w7.drew := below_drewN (Below.refl _ _) 1
      go_region_law ((refine step_app1 rfl (.tmp 115) (.tmp 117) (by rfl) Tryz.underlying112 info_Entry' rfl (by omega) (by omega) Entry.len Entry.one (by rfl) (ho7.out.below hd) (⟨rdNum a.data.toList, b, rdNum c.data.toList⟩ : Entry) _ (by rfl) (by rfl) (by omega) hB7 ?_; intro v8 w8 ho8 hg8 _; obtain ⟨A8, c8, rfl, _⟩ := ho8.slice; have hb8 := (hg8.block g (by exact blk_lt hb7.out) (fun e => hne.out e.symm)).trans hb7.out; have f8 : w8.cell? ⟨g, 3, none⟩ = some v := (by rw [cell_of_row _ _ _ _ _ _ hb8]; rfl); have f9 : w8.cell? ⟨g, 2, none⟩ = some (.int .i64 st) := (by rw [cell_of_row _ _ _ _ _ _ hb8]; rfl); have f10 : w8.cell? ⟨g, 1, none⟩ = some (.int .i64 at_) := (by rw [cell_of_row _ _ _ _ _ _ hb8]; rfl); have f11 : ∀ o, w8.frozen? ⟨g, o, none⟩ = false := (fun o => frozen_of_row w8 _ _ _ _ hb8); have hB8 := hide (grown_below (hBU.out.drew) (ho7.out.below hd) hg8 hB7); have hb8h := hide hb8; have ho8h := hide ho8; clear hb8 ho8 hg8))
      all_goals go_wp2
      all_goals go_ret
      all_goals exact ⟨rfl, by rw [← hSt.out]; exact (line_done hb8h.out ho8h.out hB8.out hBg st' k).1, (line_done hb8h.out ho8h.out hB8.out hBg st' k).2⟩
end Go.Proofs.YtfpaejlipaainaaGreatDoor
namespace Go.Proofs.YtfpaejlipaainaaGreatDoor
open Go.ChangeShapes Go.WideShapes Go.ChangeAt Go.RowKit Go.Deep
set_option maxRecDepth 100000
def LineEnds (B g at_ : Nat) (s : ByteArray) (done : List Entry) (w : World) (o : Option (Entry × List UInt8)) (st : Int) (e : Ending) (w' : World) : Prop := match o with
  | none => e = .returned (.bool false) ∧ Below w.heap.size w w'
  | some x => e = .returned (.bool true) ∧ RB w' B g s (done ++ [x.1]) (at_ + (x.2.length + 1)) (stampB st (entB x.1)) ∧ Below B w w'
theorem sLineM_any (g at_ B : Nat) (s : ByteArray) (st : Int) (done : List Entry) (w : World) (hs : s.size ≤ 1000000) (hm : done.length ≤ 1000000) (h0 : 0 ≤ st) (h1 : st ≤ 65518) (hat : at_ ≤ s.size) (hrb : RB w B g s done at_ st) (hBg : B ≤ g) :
    Calls Tryz.prog 195 #[.pointer (some ⟨g, 0, none⟩)] w (LineEnds B g at_ s done w (stepOf st (lastDay done) (s.data.toList.drop at_)) st) := by
  obtain ⟨v, hb, ho⟩ := hrb
  obtain ⟨p, hp1, hp2, hp3, hp4⟩ := scan s _ at_ rfl hat
  have no : ∀ {P : Prop}, stepOf st (lastDay done) (s.data.toList.drop at_) = none → (Calls Tryz.prog 195 #[.pointer (some ⟨g, 0, none⟩)] w fun e w' => e = .returned (.bool false) ∧ Below w.heap.size w w') → P ∨ Calls Tryz.prog 195 #[.pointer (some ⟨g, 0, none⟩)] w (LineEnds B g at_ s done w (stepOf st (lastDay done) (s.data.toList.drop at_)) st) := by
    intro P hn hc
    rw [hn]; exact .inr hc
  have get : ∀ {Q : Prop}, False ∨ Q → Q := fun h => h.elim False.elim id
  rcases hp4 with ⟨rfl, hl⟩ | ⟨hp, hp10, hl⟩
  · exact get (no (step_noline hl) (sLine_none g at_ s st v w hs hb s.size hp1 rfl hp3))
  have hx : (s.extract at_ p).data.toList = (s.data.toList.take p).drop at_ := piece_list s at_ p
  by_cases h4 : (words 32 (s.extract at_ p)).length ≠ 4
  · have he := ent_not4 h4
    rw [hx] at he
    exact get (no (step_noent hl he) (sLine_not4 g at_ B s st v done w hs hm h0 h1 hb ho p hp1 hp hp10 hp3 _ rfl h4))
  obtain ⟨a, b, c, d, hw⟩ : ∃ a b c d, words 32 (s.extract at_ p) = [a, b, c, d] := by
    match hww : words 32 (s.extract at_ p), h4 with
    | [a, b, c, d], _ => exact ⟨a, b, c, d, rfl⟩
    | [], h4 => exact absurd (by decide) h4
    | [_], h4 => exact absurd (by simp) h4
    | [_, _], h4 => exact absurd (by simp) h4
    | [_, _, _], h4 => exact absurd (by simp) h4
    | _ :: _ :: _ :: _ :: _ :: _, h4 => exact absurd (by simp) h4
  clear h4
  have hsz : ∀ y ∈ words 32 (s.extract at_ p), y.size ≤ maxLen := fun y hy => by
    have h5 := words_size 32 (s.extract at_ p) hy
    have h6 : (s.extract at_ p).size ≤ s.size := by rw [ByteArray.size_extract]; omega
    unfold maxLen; omega
  have ha := hsz a (by rw [hw]; simp)
  have hb' := hsz b (by rw [hw]; simp)
  have hc' := hsz c (by rw [hw]; simp)
  have he := ent_words hw
  rw [hx] at he
  cases k1 : rdOk a.data.toList
  · rw [k1, if_neg (by simp)] at he
    exact get (no (step_noent hl he) (sLine_one g at_ B s st v done w hs hm h0 h1 hb ho p hp1 a b c d ha hc' hb' hp hp10 hp3 hw.symm k1))
  cases k2 : rdOk c.data.toList
  · rw [k2, if_neg (by simp)] at he
    exact get (no (step_noent hl he) (sLine_two g at_ B s st v done w hs hm h0 h1 hb ho p hp1 a b c d ha hc' hb' hp hp10 hp3 hw.symm k1 k2))
  cases k3 : (⟨rdNum a.data.toList, b, rdNum c.data.toList⟩ : Entry).ok
  · rw [k3, if_neg (by simp)] at he
    exact get (no (step_noent hl he) (sLine_notok g at_ B s st v done w hs hm h0 h1 hb ho p hp1 a b c d ha hc' hb' hp hp10 hp3 hw.symm k1 k2 k3))
  rw [k1, k2, k3, if_pos (by simp)] at he
  by_cases kd : rdNum a.data.toList < lastDay done
  · exact get (no (step_bad hl he (by unfold okLine; rw [decide_eq_false (by show ¬ lastDay done ≤ rdNum a.data.toList; omega)]; rfl)) (sLine_late g at_ B s st v done w hs hm h0 h1 hb ho p hp1 a b c d ha hc' hb' hp hp10 hp3 hw.symm k1 k2 k3 kd))
  have hq : s.extract at_ (p + 1) = ⟨((s.data.toList.take p).drop at_ ++ [10]).toArray⟩ := by
    rw [← mkB_piece, ← piece_grow hp1 hp, hp10]; rfl
  by_cases ks : lineB (stampB st (entB ⟨rdNum a.data.toList, b, rdNum c.data.toList⟩)) ⟨rdNum a.data.toList, b, rdNum c.data.toList⟩ = s.extract at_ (p + 1)
  · have hg : stepOf st (lastDay done) (s.data.toList.drop at_) = some (⟨rdNum a.data.toList, b, rdNum c.data.toList⟩, (s.data.toList.take p).drop at_) := step_good hl he (by
      unfold okLine
      rw [decide_eq_true (by show lastDay done ≤ rdNum a.data.toList; omega), decide_eq_true (by rw [← hq]; exact ks)]; rfl)
    rw [hg]
    have hlen : at_ + (((s.data.toList.take p).drop at_).length + 1) = p + 1 := by rw [List.length_drop, List.length_take, size_list]; omega
    refine (sLine_yes g at_ B s st v done w hs hm h0 h1 hb ho p hp1 a b c d ha hc' hb' hp hp10 hp3 hw.symm k1 k2 k3 (by omega) ks hBg).mono fun e w' h => ?_
    show e = .returned (.bool true) ∧ RB w' B g s _ (at_ + (((s.data.toList.take p).drop at_).length + 1)) _ ∧ Below B w w'
    rw [hlen]; exact h
  · exact get (no (step_bad hl he (by unfold okLine; rw [decide_eq_false (p := lineB _ _ = _) (by rw [← hq]; exact ks)]; simp)) (sLine_stamp g at_ B s st v done w hs hm h0 h1 hb ho p hp1 a b c d ha hc' hb' hp hp10 hp3 hw.symm k1 k2 k3 (by omega) ks))
theorem step_len {s : ByteArray} {at_ : Nat} {st day : Int} {e : Entry} {l : List UInt8} (hs : stepOf st day (s.data.toList.drop at_) = some (e, l)) : at_ + (l.length + 1) ≤ s.size := by
  unfold stepOf at hs
  split at hs
  · cases hs
  · rename_i x hx
    have := lineOf_len hx
    rw [List.length_drop, size_list] at this
    split at hs
    · cases hs
    · split at hs
      · injection hs with hs; injection hs with _ hs; subst hs; omega
      · cases hs
theorem below_two {B : Nat} {w w1 w2 : World} (h : Below B w w1) (k : Below B w1 w2) : Below B w w2 :=
  ⟨k.os.trans h.os, k.tape.trans h.tape, k.output.trans h.output, Nat.le_trans h.size k.size, fun i hi => (k.block i hi).trans (h.block i hi)⟩
def SRead (s : ByteArray) (w w' : World) (e : Ending) : Prop := ∃ g, e = .returned (.pointer (some ⟨g, 0, none⟩)) ∧ w.heap.size ≤ g ∧ RB w' w.heap.size g s (rdLog s).1 (rdLog s).2.1 (rdLog s).2.2 ∧ Below w.heap.size w w'
set_option maxHeartbeats 1000000 in
theorem sRead_log (s : ByteArray) (w : World) (hs : s.size ≤ 1000000) : Calls Tryz.prog 134 #[.string s] w fun e w' => SRead s w w' e := by
  go_enter Tryz.func134, Tryz.ntmps134
  go_wp2
  go_loopg [9] s.size (fun gk _ wr => ∃ (done : List Entry) (at_ : Nat) (st : Int), gk = s.size - at_ ∧ at_ ≤ s.size ∧ done.length ≤ at_ ∧ 0 ≤ st ∧ st ≤ 65518 ∧ RB wr w.heap.size (w.heap.size + 1) s done at_ st ∧ Hid (LogInv s done at_ st (lastDay done)) ∧ Below w.heap.size w wr)
  case atStart =>
    refine ⟨[], 0, 0, by omega, Nat.zero_le _, Nat.le_refl _, by omega, by omega, ⟨.slice (some ⟨w.heap.size, 0, none⟩) 0 0, ?_, ?_⟩, hide (log_start s), ((Below.refl _ _).alloc (Nat.le_refl _) _).alloc (by simp) _⟩
    · have := heap_alloc_new (w.alloc (.cells #[] 116)) (.cells #[.string s, .int .i64 ((0 : Nat) : Int), .int .i64 0, .slice (some ⟨w.heap.size, 0, none⟩) 0 0] 166)
      simpa using this
    · exact (Own.none_made w (Nat.le_refl _)).below ((Below.refl _ _).alloc (Nat.le_refl _) _)
  case round =>
    obtain ⟨done, at_, st, rfl, hat, hdl, h0, h1, hrb, hinv, hb⟩ := hrel
    have hc := hide (sLineM_any (w.heap.size + 1) at_ w.heap.size s st done wr hs (by omega) h0 h1 hat hrb (by omega))
    have hR := hide hrb
    have hB := hide hb
    clear hrb hb
    cases hst : stepOf st (lastDay done) (s.data.toList.drop at_) with
    | none =>
      rw [hst] at hc
      have hE := hide (log_end hinv.out hst)
      clear hst hinv
      go_wp2_with fail
      refine hc.out.mono ?_
      rintro e w2 ⟨rfl, hb2⟩
      have hB2 := hide (Below.up hB.out hb2)
      have hR2 := hide (show RB w2 w.heap.size (w.heap.size + 1) s done at_ st from by
        obtain ⟨v, h2, h3⟩ := hR.out
        exact ⟨v, blk_below h2 hb2, h3.below hb2⟩)
      clear hb2
      go_wp2
      go_ret
      exact ⟨w.heap.size + 1, rfl, by omega, by rw [hE.out]; exact hR2.out, hB2.out⟩
    | some x =>
      obtain ⟨x, l⟩ := x
      rw [hst] at hc
      have hE := hide (log_step hinv.out hst)
      have hlen := step_len hst
      obtain ⟨r1, r2⟩ := stampB_range st (entB x)
      clear hst hinv
      go_wp2_with fail
      refine hc.out.mono ?_
      rintro e w2 ⟨rfl, hR2, hb2⟩
      have hB2 := hide (below_two hB.out hb2)
      have hR2h := hide hR2
      clear hb2 hR2
      go_wp2
      go_roundg (s.size - (at_ + (l.length + 1)))
      case rel => exact ⟨done ++ [x], at_ + (l.length + 1), stampB st (entB x), rfl, hlen, by simp; omega, r1, r2, hR2h.out, by rw [lastDay_snoc]; exact hE, hB2.out⟩
      case measure => omega
end Go.Proofs.YtfpaejlipaainaaGreatDoor
namespace Go.Proofs.YtfpaejlipaainaaGreatDoor
open Go.ChangeShapes Go.WideShapes Go.ChangeAt Go.RowKit Go.Deep
set_option maxRecDepth 100000
theorem index_nl : ∀ l : List UInt8, Lib.index l [10] = if 10 ∈ l then (((l.takeWhile (· ≠ 10)).length : Nat) : Int) else -1
  | [] => rfl
  | b :: l => by
    have ih := index_nl l
    by_cases hb : b = 10
    · subst hb
      rw [Lib.index]
      simp [List.isPrefixOf]
    · have hp : ([10] : List UInt8).isPrefixOf (b :: l) = false := by simp [List.isPrefixOf, Ne.symm hb]
      rw [Lib.index, hp, ih]
      have h1 : (10 ∈ b :: l) ↔ (10 ∈ l) := by simp [Ne.symm hb]
      by_cases hm : 10 ∈ l
      · have hd : decide (b ≠ 10) = true := decide_eq_true hb
        rw [if_pos hm, if_pos (h1.2 hm), List.takeWhile_cons, if_pos hd, List.length_cons]
        rw [if_neg Bool.false_ne_true, if_neg (fun h => by have := beq_iff_eq.1 h; omega)]; omega
      · rw [if_neg hm, if_neg (fun e => hm (h1.1 e))]; rfl
theorem cut_none {l : List UInt8} (h : lineOf l = none) : Lib.cut l [10] = (l, [], false) := by
  unfold lineOf at h
  split at h
  · cases h
  · rename_i hm
    unfold Lib.cut
    rw [index_nl, if_neg hm]; rfl
theorem cut_some {l x : List UInt8} (h : lineOf l = some x) : ∃ r, Lib.cut l [10] = (x, r, true) := by
  unfold lineOf at h
  split at h
  · rename_i hm
    injection h with h
    unfold Lib.cut
    rw [index_nl, if_pos hm, if_pos (by omega), Int.toNat_natCast, ← h]
    refine ⟨l.drop ((l.takeWhile (· ≠ 10)).length + 1), ?_⟩
    have ht : l.take (l.takeWhile (· ≠ 10)).length = l.takeWhile (· ≠ 10) := (List.prefix_iff_eq_take.1 (List.takeWhile_prefix _)).symm
    rw [ht]; rfl
  · cases h
def CutPost (a b : ByteArray) (k : Bool) (w : World) (e : Ending) (w' : World) : Prop := e = .returned (.tuple #[.string a, .string b, .bool k]) ∧ Below w.heap.size w w'
theorem iCut_none (s : ByteArray) (w : World) (hs : s.size ≤ 1000000) (hG : Gl w) (h : lineOf s.data.toList = none) :
    Calls Tryz.prog 171 #[.string s, .string ⟨#[10]⟩] w (CutPost s ⟨#[]⟩ false w) := by
  refine (Tryz.strings_Cut_shaped s ⟨#[10]⟩ w hG.2 (by omega)).mono ?_
  rintro e w' ⟨rfl, n, rfl⟩
  rw [show (⟨#[10]⟩ : ByteArray).data.toList = [10] from rfl, cut_none h]
  exact ⟨by rw [mk_data], below_drewN (Below.refl _ _) _⟩
theorem iCut_some (s : ByteArray) (w : World) (hs : s.size ≤ 1000000) (hG : Gl w) {x r : List UInt8} (h : Lib.cut s.data.toList [10] = (x, r, true)) :
    Calls Tryz.prog 171 #[.string s, .string ⟨#[10]⟩] w (CutPost ⟨x.toArray⟩ ⟨r.toArray⟩ true w) := by
  refine (Tryz.strings_Cut_shaped s ⟨#[10]⟩ w hG.2 (by omega)).mono ?_
  rintro e w' ⟨rfl, n, rfl⟩
  rw [show (⟨#[10]⟩ : ByteArray).data.toList = [10] from rfl, h]
  exact ⟨rfl, below_drewN (Below.refl _ _) _⟩
def IRead (s : ByteArray) (w w' : World) (e : Ending) : Prop := ∃ v, e = .returned (.tuple #[v, .int .i64 ((rdLog s).2.1 : Int), .int .i64 (rdLog s).2.2]) ∧ Own Entry.cells 116 3 w' w.heap.size v (rdLog s).1.length (rdLog s).1 ∧ Below w.heap.size w w'
theorem rest_list (s : ByteArray) (a : Nat) : (s.extract a s.size).data.toList = s.data.toList.drop a := Lib.extract_to_end s a
set_option maxHeartbeats 2000000 in
theorem iRead_log (s : ByteArray) (w : World) (hs : s.size ≤ 4000) (hG : Gl w) : Calls Tryz.prog 116 #[.string s] w fun e w' => IRead s w w' e := by
  have hGh := hide hG
  clear hG
  go_enter Tryz.func116, Tryz.ntmps116
  go_wp2
  go_loopw [5, 6, 7, 8] (fun v i m d wr => ∃ (done : List Entry) (at_ : Nat) (st : Int), i = .int .i64 at_ ∧ m = .int .i64 st ∧ d = .int .i64 (lastDay done) ∧ at_ ≤ s.size ∧ done.length ≤ at_ ∧ 0 ≤ st ∧ st ≤ 65518 ∧ Own Entry.cells 116 3 wr w.heap.size v done.length done ∧ Hid (LogInv s done at_ st (lastDay done)) ∧ Below w.heap.size w wr) (fun _ i _ _ _ => s.size - (intOf i).toNat)
  case atStart => exact ⟨[], 0, 0, rfl, rfl, rfl, Nat.zero_le _, Nat.le_refl _, by omega, by omega, Own.none_made w (Nat.le_refl _), hide (log_start s), (Below.refl _ _).alloc (Nat.le_refl _) _⟩
  case round =>
    obtain ⟨done, at_, st, rfl, rfl, rfl, hat, hdl, h0, h1, ho, hinv, hb⟩ := hrel
    obtain ⟨Av, cv, rfl, _⟩ := ho.slice
    have hO := hide ho
    have hB := hide hb
    clear ho hb
    have hGr := hide (hGh.out.below hB.out)
    obtain ⟨day, hday⟩ : ∃ day, day = lastDay done := ⟨_, rfl⟩
    rw [← hday] at hinv ⊢
    have hDay := hide hday
    clear hday
    have hzr : (s.extract at_ s.size).size ≤ 1000000 := by rw [ByteArray.size_extract]; omega
    cases hln : lineOf (s.data.toList.drop at_) with
    | none =>
      have hE := hide (log_end hinv.out (step_noline hln))
      have hc := hide (iCut_none (s.extract at_ s.size) wr hzr hGr.out (by rw [rest_list]; exact hln))
      clear hln hinv
      go_wp2_with fail
      refine hc.out.mono ?_
      rintro e w2 ⟨rfl, hb⟩
      have hB2 := hide (Below.up hB.out hb)
      have hO2 := hide (hO.out.below hb)
      clear hb hB hO
      go_wp2_with fail
      refine (iLineM_any (s.extract at_ s.size) _ hzr (hGh.out.below hB2.out)).mono ?_
      rintro e w3 ⟨rfl, hb⟩
      have hB3 := hide (Below.up hB2.out hb)
      have hO3 := hide (hO2.out.below hb)
      clear hb
      go_wp2
      go_ret3
      exact ⟨_, by rw [hE.out]; rfl, by rw [hE.out]; exact hO3.out.below ((Below.refl _ _).alloc (Nat.le_refl _) _), hB3.out.alloc hB3.out.size _⟩
    | some l =>
      obtain ⟨r, hcut⟩ := cut_some hln
      have hll := lineOf_len hln
      rw [List.length_drop, size_list] at hll
      have hc := hide (iCut_some (s.extract at_ s.size) wr hzr hGr.out (by rw [rest_list]; exact hcut))
      clear hcut
      obtain ⟨Lb, hLb⟩ : ∃ Lb : ByteArray, Lb = ⟨l.toArray⟩ := ⟨_, rfl⟩
      have hLs1 : Lb.size ≤ l.length := by rw [hLb]; exact Nat.le_refl _
      have hLs2 : l.length ≤ Lb.size := by rw [hLb]; exact Nat.le_refl _
      have hLl : Lb.data.toList = l := by rw [hLb]
      rw [← hLb] at hc
      have hLbh := hide hLb
      clear hLb
      obtain ⟨Rb, hRb⟩ : ∃ Rb : ByteArray, Rb = ⟨r.toArray⟩ := ⟨_, rfl⟩
      rw [← hRb] at hc
      clear hRb
      have hlz : Lb.size ≤ 1000000 := by omega
      have hrl := hide (fun W hg => iLineM_any Lb W hlz hg)
      have hen : rlOk Lb = true → entOf l = some (rlEnt Lb) ∧ (rlEnt Lb).ok = true := fun h => by rw [← hLl]; exact rl_ent h
      have hno : rlOk Lb = false → entOf l = none := fun h => by rw [← hLl]; exact rl_none h
      obtain ⟨X, hX⟩ : ∃ X, X = rlEnt Lb := ⟨_, rfl⟩
      rw [← hX] at hrl hen
      clear hX
      cases hK : rlOk Lb with
      | false =>
        have hE := hide (log_end hinv.out (step_noent hln (hno hK)))
        rw [hK] at hrl
        clear hln hinv hno hen hK hLl
        go_wp2_with fail
        refine hc.out.mono ?_
        rintro e w2 ⟨rfl, hb⟩
        have hB2 := hide (Below.up hB.out hb)
        have hO2 := hide (hO.out.below hb)
        clear hb hB hO
        go_wp2_with fail
        refine (hrl.out _ (hGh.out.below hB2.out)).mono ?_
        rintro e w3 ⟨rfl, hb⟩
        have hB3 := hide (Below.up hB2.out hb)
        have hO3 := hide (hO2.out.below hb)
        clear hb
        go_wp2
        go_ret3
        exact ⟨_, by rw [hE.out]; rfl, by rw [hE.out]; exact hO3.out.below ((Below.refl _ _).alloc (Nat.le_refl _) _), hB3.out.alloc hB3.out.size _⟩
      | true =>
        obtain ⟨he, hk⟩ := hen hK
        rw [hK] at hrl
        clear hno hen hK hLl
        have hkh := hide hk
        obtain ⟨⟨b1, b2⟩, _, b3, b4⟩ := Entry.ok_iff.1 hk
        obtain ⟨r1, r2⟩ := stampB_range st (entB X)
        clear hk
        by_cases hd : X.fDay < day
        · have hE := hide (log_end hinv.out (step_bad hln he (by unfold okLine; rw [decide_eq_false (by omega)]; rfl)))
          clear hln hinv he
          go_wp2_with fail
          refine hc.out.mono ?_
          rintro e w2 ⟨rfl, hb⟩
          have hB2 := hide (Below.up hB.out hb)
          have hO2 := hide (hO.out.below hb)
          clear hb hB hO
          go_wp2_with fail
          refine (hrl.out _ (hGh.out.below hB2.out)).mono ?_
          rintro e w3 ⟨rfl, hb⟩
          have hB3 := hide ((Below.up hB2.out hb).alloc (Below.up hB2.out hb).size (.cells #[.int .i64 X.fDay, .string X.fWhat, .int .i64 X.fValue] 116))
          have hO3 := hide ((hO2.out.below hb).below ((Below.refl _ _).alloc (Nat.le_refl _) (.cells #[.int .i64 X.fDay, .string X.fWhat, .int .i64 X.fValue] 116)))
          clear hb
          go_wp2
          go_ret3
          exact ⟨_, by rw [hE.out]; rfl, by rw [hE.out]; exact hO3.out, hB3.out⟩
        have hq : (⟨(l ++ [10]).toArray⟩ : ByteArray) = Lb ++ ⟨#[10]⟩ := by rw [hLbh.out]; exact (dec_append l [10]).symm
        have hcat := cat_run Lb ⟨#[10]⟩ (by simp only [one_size]; omega)
        by_cases hs5 : lineB (stampB st (entB X)) X = Lb ++ ⟨#[10]⟩
        · have hE := hide (log_step hinv.out (step_good hln he (by unfold okLine; rw [decide_eq_true (by omega), decide_eq_true (by rw [hq]; exact hs5)]; rfl)))
          have e5 := str_eq hs5
          have e6 : ((lineB (stampB st (entB X)) X).toList != (Lb ++ ⟨#[10]⟩).toList) = false := by rw [bne, e5]; rfl
          clear hln hinv he hq hs5
          go_wp2_with fail
          refine hc.out.mono ?_
          rintro e w2 ⟨rfl, hb⟩
          have hB2 := hide (Below.up hB.out hb)
          have hO2 := hide (hO.out.below hb)
          clear hb hB hO
          go_wp2_with fail
          refine (hrl.out _ (hGh.out.below hB2.out)).mono ?_
          rintro e w3 ⟨rfl, hb⟩
          have hB3 := hide ((Below.up hB2.out hb).alloc (Below.up hB2.out hb).size (.cells #[.int .i64 X.fDay, .string X.fWhat, .int .i64 X.fValue] 116))
          have hne3 := hide (fun e => Nat.lt_irrefl _ ((hO2.out.below hb).2.lt w3.heap.size e).2 : (Value.slice Av done.length cv).ownBlock ≠ some w3.heap.size)
          have hO3 := hide ((hO2.out.below hb).below ((Below.refl _ _).alloc (Nat.le_refl _) (.cells #[.int .i64 X.fDay, .string X.fWhat, .int .i64 X.fValue] 116)))
          clear hb
          have k0 : (w3.alloc (.cells #[.int .i64 X.fDay, .string X.fWhat, .int .i64 X.fValue] 116)).cell? ⟨w3.heap.size, 0, none⟩ = some (.int .i64 X.fDay) := by rw [cell_of_row _ _ _ _ _ _ (heap_alloc_new w3 _)]; rfl
          have k1 : (w3.alloc (.cells #[.int .i64 X.fDay, .string X.fWhat, .int .i64 X.fValue] 116)).cell? ⟨w3.heap.size, 1, none⟩ = some (.string X.fWhat) := by rw [cell_of_row _ _ _ _ _ _ (heap_alloc_new w3 _)]; rfl
          have k2 : (w3.alloc (.cells #[.int .i64 X.fDay, .string X.fWhat, .int .i64 X.fValue] 116)).cell? ⟨w3.heap.size, 2, none⟩ = some (.int .i64 X.fValue) := by rw [cell_of_row _ _ _ _ _ _ (heap_alloc_new w3 _)]; rfl
          have hz3 : w3.heap.size < (w3.alloc (.cells #[.int .i64 X.fDay, .string X.fWhat, .int .i64 X.fValue] 116)).heap.size := by simp
          have hqs : (w3.alloc (.cells #[.int .i64 X.fDay, .string X.fWhat, .int .i64 X.fValue] 116)).heap.size = w3.heap.size + 1 := by simp
          have hq3 : w3.heap.size + 1 ≤ (w3.alloc (.cells #[.int .i64 X.fDay, .string X.fWhat, .int .i64 X.fValue] 116)).heap.size := by omega
          clear hqs
          go_wp2_with fail
          have hnb := hide (heap_alloc_new w3 (.cells #[.int .i64 X.fDay, .string X.fWhat, .int .i64 X.fValue] 116))
          obtain ⟨W3, hW3⟩ : ∃ W3, W3 = w3.alloc (.cells #[.int .i64 X.fDay, .string X.fWhat, .int .i64 X.fValue] 116) := ⟨_, rfl⟩
          rw [← hW3] at k0 k1 k2 hz3 hB3 hO3 hq3 hnb ⊢
          clear hW3
          have i0 := hide k0
          have i1 := hide k1
          have i2 := hide k2
          refine (iLine_any st X _ h0 h1 hkh.out (hGh.out.below hB3.out)).mono ?_
          rintro e w4 ⟨rfl, hb⟩
          have hC4 := hide hb
          have hB4 := hide (Below.up hB3.out hb)
          have hO4 := hide (hO3.out.below hb)
          have hnb4 := hide (blk_below hnb.out hb)
          clear hb k0 k1 k2 hB3 hO3
          have hz4 : w3.heap.size < w4.heap.size := Nat.lt_of_lt_of_le hz3 hC4.out.size
          have k0 := keepc hC4.out hz3 i0.out
          have k1 := keepc hC4.out hz3 i1.out
          have k2 := keepc hC4.out hz3 i2.out
          go_wp2_with (at_builtin; refine wpl_app1 rfl (.tmp 59) (.tmp 61) _ rfl Tryz.underlying112 info_Entry' rfl (by omega) (by omega) rfl hO4.out X _ rfl rfl rfl (Entry.one _) (by omega) hB4.out.size ?_; intro v5 w5 ho5 hg5; have hB5 := hide (hO4.out.grown hB4.out hg5); have hO5 := hide ho5; have hnb5 := hide ((hg5.block w3.heap.size hz4 (fun e => hne3.out e.symm)).trans hnb4.out); clear ho5 hg5)
          have m0 : w5.cell? ⟨w3.heap.size, 0, none⟩ = some (.int .i64 X.fDay) := by rw [cell_of_row _ _ _ _ _ _ hnb5.out]; rfl
          have m1 : w5.cell? ⟨w3.heap.size, 1, none⟩ = some (.string X.fWhat) := by rw [cell_of_row _ _ _ _ _ _ hnb5.out]; rfl
          have m2 : w5.cell? ⟨w3.heap.size, 2, none⟩ = some (.int .i64 X.fValue) := by rw [cell_of_row _ _ _ _ _ _ hnb5.out]; rfl
          have hz5 := blk_lt hnb5.out
          have p0 := hide m0
          have p1 := hide m1
          have p2 := hide m2
          clear k0 k1 k2
          go_wp2_with fail
          have hF := hide (below_drewN (Below.refl w5.heap.size w5) 1)
          go_region_held3 (fun w' => w'.cell? ⟨w3.heap.size, 0, none⟩ = some (.int .i64 X.fDay) ∧ w'.cell? ⟨w3.heap.size, 1, none⟩ = some (.string X.fWhat) ∧ w'.cell? ⟨w3.heap.size, 2, none⟩ = some (.int .i64 X.fValue)) (first | go_keep | exact ⟨keepc hF.out hz5 p0.out, keepc hF.out hz5 p1.out, keepc hF.out hz5 p2.out⟩)
            (first | (go_at_call 173; refine (iStamp_any st X _ h0 h1 hkh.out (by exact hGh.out.below (Below.up hB5.out hF.out))).mono ?_; rintro e w6 ⟨rfl, hb⟩; replace hF := hide (Below.up hF.out hb); clear hb) | fail)
          all_goals go_wp2
          all_goals go_roundw
          case rel => exact ⟨done ++ [X], at_ + (l.length + 1), stampB st (entB X), by congr 1; omega, rfl, by rw [lastDay_snoc], by omega, by simp; omega, r1, r2, by rw [List.length_append]; exact hO5.out.below hF.out, by rw [lastDay_snoc]; exact hE, Below.up hB5.out hF.out⟩
          case measure => simp [intOf]; omega
        · have hE := hide (log_end hinv.out (step_bad hln he (by unfold okLine; rw [decide_eq_false (p := lineB _ _ = _) (by rw [hq]; exact hs5)]; simp)))
          have e5 := str_ne hs5
          have e6 : ((lineB (stampB st (entB X)) X).toList != (Lb ++ ⟨#[10]⟩).toList) = true := by rw [bne, e5]; rfl
          clear hln hinv he hq hs5
          go_wp2_with fail
          refine hc.out.mono ?_
          rintro e w2 ⟨rfl, hb⟩
          have hB2 := hide (Below.up hB.out hb)
          have hO2 := hide (hO.out.below hb)
          clear hb hB hO
          go_wp2_with fail
          refine (hrl.out _ (hGh.out.below hB2.out)).mono ?_
          rintro e w3 ⟨rfl, hb⟩
          have hB3 := hide ((Below.up hB2.out hb).alloc (Below.up hB2.out hb).size (.cells #[.int .i64 X.fDay, .string X.fWhat, .int .i64 X.fValue] 116))
          have hO3 := hide ((hO2.out.below hb).below ((Below.refl _ _).alloc (Nat.le_refl _) (.cells #[.int .i64 X.fDay, .string X.fWhat, .int .i64 X.fValue] 116)))
          clear hb
          have k0 : (w3.alloc (.cells #[.int .i64 X.fDay, .string X.fWhat, .int .i64 X.fValue] 116)).cell? ⟨w3.heap.size, 0, none⟩ = some (.int .i64 X.fDay) := by rw [cell_of_row _ _ _ _ _ _ (heap_alloc_new w3 _)]; rfl
          have k1 : (w3.alloc (.cells #[.int .i64 X.fDay, .string X.fWhat, .int .i64 X.fValue] 116)).cell? ⟨w3.heap.size, 1, none⟩ = some (.string X.fWhat) := by rw [cell_of_row _ _ _ _ _ _ (heap_alloc_new w3 _)]; rfl
          have k2 : (w3.alloc (.cells #[.int .i64 X.fDay, .string X.fWhat, .int .i64 X.fValue] 116)).cell? ⟨w3.heap.size, 2, none⟩ = some (.int .i64 X.fValue) := by rw [cell_of_row _ _ _ _ _ _ (heap_alloc_new w3 _)]; rfl
          have hz3 : w3.heap.size < (w3.alloc (.cells #[.int .i64 X.fDay, .string X.fWhat, .int .i64 X.fValue] 116)).heap.size := by simp
          have hqs : (w3.alloc (.cells #[.int .i64 X.fDay, .string X.fWhat, .int .i64 X.fValue] 116)).heap.size = w3.heap.size + 1 := by simp
          have hq3 : w3.heap.size + 1 ≤ (w3.alloc (.cells #[.int .i64 X.fDay, .string X.fWhat, .int .i64 X.fValue] 116)).heap.size := by omega
          clear hqs
          go_wp2_with fail
          obtain ⟨W3, hW3⟩ : ∃ W3, W3 = w3.alloc (.cells #[.int .i64 X.fDay, .string X.fWhat, .int .i64 X.fValue] 116) := ⟨_, rfl⟩
          rw [← hW3] at k0 k1 k2 hz3 hB3 hO3 hq3 ⊢
          clear hW3
          have i0 := hide k0
          have i1 := hide k1
          have i2 := hide k2
          refine (iLine_any st X _ h0 h1 hkh.out (hGh.out.below hB3.out)).mono ?_
          rintro e w4 ⟨rfl, hb⟩
          have hC4 := hide hb
          have hB4 := hide (Below.up hB3.out hb)
          have hO4 := hide (hO3.out.below hb)
          clear hb k0 k1 k2 hB3 hO3
          go_wp2
          go_ret3
          exact ⟨_, by rw [hE.out]; rfl, by rw [hE.out]; exact hO4.out, hB4.out⟩
end Go.Proofs.YtfpaejlipaainaaGreatDoor
namespace Go.Proofs.YtfpaejlipaainaaGreatDoor
open Go.ChangeShapes Go.WideShapes Go.ChangeAt Go.RowKit Go.Deep
set_option maxRecDepth 100000
theorem stepOf_some {st day : Int} {rest l : List UInt8} {e : Entry} (h : stepOf st day rest = some (e, l)) : l.length + 1 ≤ rest.length ∧ e.ok = true := by
  unfold stepOf at h
  split at h
  · cases h
  · rename_i x hx
    have h1 := lineOf_len hx
    split at h
    · cases h
    · rename_i e' he
      have h2 := entOf_ok he
      split at h
      · injection h with h; injection h with h3 h4; subst h3 h4; exact ⟨h1, h2⟩
      · cases h
theorem readK_props : ∀ (f : Nat) (rest : List UInt8) (st day : Int), 0 ≤ st → st ≤ 65518 → (readK f rest st day).2.1 ≤ rest.length ∧ (readK f rest st day).1.length ≤ (readK f rest st day).2.1 ∧ (∀ e ∈ (readK f rest st day).1, e.ok = true) ∧ 0 ≤ (readK f rest st day).2.2 ∧ (readK f rest st day).2.2 ≤ 65518
  | 0, rest, st, day, h0, h1 => ⟨Nat.zero_le _, Nat.le_refl _, by simp [readK], h0, h1⟩
  | f + 1, rest, st, day, h0, h1 => by
    cases hs : stepOf st day rest with
    | none => simp only [readK, hs]; exact ⟨Nat.zero_le _, Nat.le_refl _, by simp, h0, h1⟩
    | some x =>
      obtain ⟨e, l⟩ := x
      obtain ⟨h2, h3⟩ := stepOf_some hs
      obtain ⟨r1, r2⟩ := stampB_range st (entB e)
      obtain ⟨a1, a2, a3, a4, a5⟩ := readK_props f (rest.drop (l.length + 1)) (stampB st (entB e)) e.fDay r1 r2
      rw [List.length_drop] at a1
      simp only [readK, hs]
      refine ⟨by omega, by simp only [List.length_cons]; omega, ?_, a4, a5⟩
      intro y hy
      rcases List.mem_cons.1 hy with rfl | hy
      · exact h3
      · exact a3 y hy
def ents (s : ByteArray) : List Entry := (rdLog s).1
def upTo (s : ByteArray) : Nat := (rdLog s).2.1
def lastSt (s : ByteArray) : Int := (rdLog s).2.2
theorem log_props (s : ByteArray) : upTo s ≤ s.size ∧ (ents s).length ≤ upTo s ∧ (∀ e ∈ ents s, e.ok = true) ∧ 0 ≤ lastSt s ∧ lastSt s ≤ 65518 := by
  have h := readK_props (s.size + 1) s.data.toList 0 0 (by omega) (by omega)
  rw [size_list] at h
  exact h
def lcode (s : ByteArray) : Int := if 4000 < s.size then 5 else if upTo s = s.size then 0 else 8
set_option maxHeartbeats 1000000 in
theorem iCode_any (s : ByteArray) (w : World) (hG : Gl w) :
    Calls Tryz.prog 64 #[.string s] w fun e w' => e = .returned (.int .i64 (lcode s)) ∧ Below w.heap.size w w' := by
  by_cases h1 : (4000 : Int) < s.size
  · have hm : Hid (lcode s = 5) := hide (by unfold lcode; rw [if_pos (by omega)])
    go_enter Tryz.func64, Tryz.ntmps64
    go_wp2
    go_ret
    exact ⟨by rw [hm.out]; rfl, Below.refl _ _⟩
  have hc := hide (iRead_log s w (by omega) hG)
  have hp := (log_props s).1
  by_cases h2 : upTo s = s.size
  · have hm : Hid (lcode s = 0) := hide (by unfold lcode; rw [if_neg (by omega), if_pos h2])
    have hlt : ¬ ((upTo s : Nat) : Int) < s.size := by omega
    unfold upTo at hlt hp
    clear h2 hG hp
    go_enter Tryz.func64, Tryz.ntmps64
    go_wp2_with fail
    refine hc.out.mono ?_
    rintro e w1 ⟨v, rfl, _, hb⟩
    have hB := hide hb
    clear hb
    go_wp2
    go_ret
    exact ⟨by rw [hm.out]; rfl, hB.out⟩
  · have hm : Hid (lcode s = 8) := hide (by unfold lcode; rw [if_neg (by omega), if_neg h2])
    have hlt : ((upTo s : Nat) : Int) < s.size := by omega
    unfold upTo at hlt hp
    clear h2 hG hp
    go_enter Tryz.func64, Tryz.ntmps64
    go_wp2_with fail
    refine hc.out.mono ?_
    rintro e w1 ⟨v, rfl, _, hb⟩
    have hB := hide hb
    clear hb
    go_wp2
    go_ret
    exact ⟨by rw [hm.out]; rfl, hB.out⟩
def SCode (s : ByteArray) (w w' : World) (e : Ending) : Prop := ∃ g, e = .returned (.tuple #[.pointer (some ⟨g, 0, none⟩), .int .i64 (lcode s)]) ∧ w.heap.size ≤ g ∧ (lcode s = 0 → RB w' w.heap.size g s (ents s) (upTo s) (lastSt s)) ∧ Below w.heap.size w w'
set_option maxHeartbeats 1000000 in
theorem sCode_any (s : ByteArray) (w : World) : Calls Tryz.prog 81 #[.string s] w fun e w' => SCode s w w' e := by
  by_cases h1 : (4000 : Int) < s.size
  · have hm : Hid (lcode s = 5) := hide (by unfold lcode; rw [if_pos (by omega)])
    go_enter Tryz.func81, Tryz.ntmps81
    go_wp2
    go_ret2
    exact ⟨w.heap.size, by rw [hm.out]; rfl, Nat.le_refl _, (fun h => by rw [hm.out] at h; cases h), (Below.refl _ _).alloc (Nat.le_refl _) _⟩
  have hc := hide (sRead_log s w (by omega))
  by_cases h2 : upTo s = s.size
  · have hm : Hid (lcode s = 0) := hide (by unfold lcode; rw [if_neg (by omega), if_pos h2])
    have hne : (((upTo s : Nat) : Int) != (s.size : Int)) = false := by rw [h2]; simp
    clear h2
    go_enter Tryz.func81, Tryz.ntmps81
    go_wp2_with fail
    refine hc.out.mono ?_
    rintro e w1 ⟨g, rfl, hg, hr, hb⟩
    have hB := hide hb
    have hR := hide hr
    obtain ⟨v, hblk, _⟩ := hr
    have c1 : w1.cell? ⟨g, 1, none⟩ = some (.int .i64 ((upTo s : Nat) : Int)) := by rw [cell_of_row _ _ _ _ _ _ hblk]; rfl
    clear hb hblk
    go_wp2
    go_ret2
    exact ⟨g, by rw [hm.out]; rfl, hg, fun _ => hR.out, hB.out⟩
  · have hm : Hid (lcode s = 8) := hide (by unfold lcode; rw [if_neg (by omega), if_neg h2])
    have hne : (((upTo s : Nat) : Int) != (s.size : Int)) = true := by simp; omega
    clear h2
    go_enter Tryz.func81, Tryz.ntmps81
    go_wp2_with fail
    refine hc.out.mono ?_
    rintro e w1 ⟨g, rfl, hg, hr, hb⟩
    have hB := hide hb
    obtain ⟨v, hblk, _⟩ := hr
    have c1 : w1.cell? ⟨g, 1, none⟩ = some (.int .i64 ((upTo s : Nat) : Int)) := by rw [cell_of_row _ _ _ _ _ _ hblk]; rfl
    clear hb hblk
    go_wp2
    go_ret2
    exact ⟨g, by rw [hm.out]; rfl, hg, (fun h => by rw [hm.out] at h; cases h), hB.out⟩
end Go.Proofs.YtfpaejlipaainaaGreatDoor
namespace Go.Proofs.YtfpaejlipaainaaGreatDoor
open Go.ChangeShapes Go.WideShapes Go.ChangeAt Go.RowKit Go.Deep
set_option maxRecDepth 100000
theorem lcode_small {s : ByteArray} (h : lcode s = 0) : s.size ≤ 4000 := by
  unfold lcode at h
  by_cases h1 : 4000 < s.size
  · rw [if_pos h1] at h; cases h
  · omega
theorem own_diff {α β : Type} {cells : α → List Value} {cells' : β → List Value} {w : World} {e e' s s' base base' n n' : Nat} {v v' : Value} {l : List α} {l' : List β} (h : Own cells e s w base v n l) (h' : Own cells' e' s' w base' v' n' l') (hne : e ≠ e') : v.ownBlock = none ∨ v.ownBlock ≠ v'.ownBlock := by
  rcases h.2.2 with ⟨rfl, _⟩ | ⟨g, cap, cur, rfl, _, hh, _⟩
  · exact .inl rfl
  · rcases h'.2.2 with ⟨rfl, _⟩ | ⟨g', cap', cur', rfl, _, hh', _⟩
    · exact .inr (by simp [Value.ownBlock])
    · refine .inr fun he => ?_
      have : g = g' := by simpa [Value.ownBlock] using he
      subst this
      rw [hh] at hh'
      injection hh' with hh'
      injection hh' with _ ht
      exact hne ht
def mEnts (s : ByteArray) : List Entry := if lcode s = 0 then ents s else []
theorem mEnts_len (s : ByteArray) : (mEnts s).length ≤ 1048576 := by
  unfold mEnts
  by_cases h : lcode s = 0
  · rw [if_pos h]
    have h1 := log_props s
    have h2 := lcode_small h
    omega
  · rw [if_neg h]; exact Nat.zero_le _
set_option maxHeartbeats 1000000 in
theorem iEnts_any (s : ByteArray) (w : World) (hG : Gl w) :
    Calls Tryz.prog 71 #[.string s] w fun e w' => ∃ v, e = .returned (.tuple #[v, .int .i64 (lcode s)]) ∧ Res Entry.cells 116 3 w' w.heap.size v (mEnts s).length (mEnts s) ∧ Below w.heap.size w w' := by
  have hc := hide (iCode_any s w hG)
  have hGh := hide hG
  clear hG
  by_cases h : lcode s = 0
  · have hm : Hid (mEnts s = ents s) := hide (by unfold mEnts; rw [if_pos h])
    have hsz := lcode_small h
    rw [h] at hc
    have hl := hide h
    clear h
    go_enter Tryz.func71, Tryz.ntmps71
    go_wp2_with fail
    refine hc.out.mono ?_
    rintro e w1 ⟨rfl, hb⟩
    have hB := hide hb
    clear hb
    go_wp2_with fail
    refine (iRead_log s w1 hsz (hGh.out.below hB.out)).mono ?_
    rintro e w2 ⟨v, rfl, ho, hb⟩
    have hO := hide (ho.res.less hB.out.size)
    have hB2 := hide (Below.up hB.out hb)
    clear hb ho
    go_wp2
    go_ret2
    exact ⟨v, by rw [hl.out]; rfl, by rw [hm.out]; exact hO.out, hB2.out⟩
  · have hm : Hid (mEnts s = []) := hide (by unfold mEnts; rw [if_neg h])
    have e1 : (lcode s != 0) = true := bne_iff_ne.2 h
    clear h
    go_enter Tryz.func71, Tryz.ntmps71
    go_wp2_with fail
    refine hc.out.mono ?_
    rintro e w1 ⟨rfl, hb⟩
    have hB := hide hb
    clear hb
    go_wp2
    go_ret2
    exact ⟨_, rfl, by rw [hm.out]; exact Res.empty (Nat.zero_le _), hB.out⟩
def lw (s what : ByteArray) : Int := if lcode s = 0 ∧ isName what = false then 2 else lcode s
theorem lw_zero {s what : ByteArray} (h : lw s what = 0) : lcode s = 0 ∧ isName what = true := by
  unfold lw at h
  by_cases h1 : lcode s = 0 ∧ isName what = false
  · rw [if_pos h1] at h; cases h
  · rw [if_neg h1] at h
    refine ⟨h, ?_⟩
    cases hn : isName what
    · exact absurd ⟨h, hn⟩ h1
    · rfl
end Go.Proofs.YtfpaejlipaainaaGreatDoor
