/- Contracts: a good line of a log, and the whole log read, the reference's way. -/
import Derived.Test.YtceajnoppdfeaaaGreatDoorLogB
namespace Go.Proofs.YtceajnoppdfeaaaGreatDoor
open Go.ChangeShapes Go.WideShapes Go.ChangeAt Go.RowKit Go.Deep
set_option maxRecDepth 100000
theorem info_Entry' : (Tryz.prog.info? 90).map (fun i => (i.zero, i.size, i.bytes)) = some (some (.agg #[.int .i64 0, .string ByteArray.empty, .int .i64 0]), 3, 32) := by kernel_rfl
theorem Entry.one : ∀ x, ∀ u ∈ Entry.cells x, u.oneCell' = true := by intro x u hu; simp [Entry.cells] at hu; rcases hu with rfl | rfl | rfl <;> rfl
theorem line_done {w w8 : World} {B g : Nat} {s : ByteArray} {at_ : Nat} {st : Int} {v : Value} {done : List Entry} {X : Entry} {A8 : Option Addr} {c8 : Nat}
    (hb : w8.heap[g]? = some (.cells #[.string s, .int .i64 at_, .int .i64 st, v] 74 (0, 0))) (ho : Own Entry.cells 90 3 w8 B (.slice A8 (done.length + 1) c8) (done.length + 1) (done ++ [X])) (hB : Below B w w8) (hBg : B ≤ g) (st' : Int) (k : Nat) :
    RB (((w8.setCell ⟨g, 3, none⟩ (.slice A8 (done.length + 1) c8)).setCell ⟨g, 2, none⟩ (.int .i64 st')).setCell ⟨g, 1, none⟩ (.int .i64 ((k : Int) + 1))) B g s (done ++ [X]) (k + 1) st' ∧
    Below B w (((w8.setCell ⟨g, 3, none⟩ (.slice A8 (done.length + 1) c8)).setCell ⟨g, 2, none⟩ (.int .i64 st')).setCell ⟨g, 1, none⟩ (.int .i64 ((k : Int) + 1))) := by
  have hne := own_other ho hb (by decide)
  refine ⟨⟨.slice A8 (done.length + 1) c8, ?_, ?_⟩, ((hB.setCell (p := ⟨g, 3, none⟩) hBg _).setCell (p := ⟨g, 2, none⟩) hBg _).setCell (p := ⟨g, 1, none⟩) hBg _⟩
  · exact blk_set (blk_set (blk_set hb 3 _) 2 _) 1 _
  · rw [List.length_append]
    exact ((ho.setFar (p := ⟨g, 3, none⟩) hne _).setFar (p := ⟨g, 2, none⟩) hne _).setFar (p := ⟨g, 1, none⟩) hne _
set_option maxHeartbeats 1000000 in
theorem sLine_stamp (g at_ B : Nat) (s : ByteArray) (st : Int) (v : Value) (done : List Entry) (w : World) (hs : s.size ≤ 1000000) (hm : done.length ≤ 1000000) (h0 : 0 ≤ st) (h1 : st ≤ 65518)
    (hb : w.heap[g]? = some (.cells #[.string s, .int .i64 at_, .int .i64 st, v] 74 (0, 0))) (ho : Own Entry.cells 90 3 w B v done.length done) (p : Nat) (hp1 : at_ ≤ p) (a b c d : ByteArray) (ha : a.size ≤ maxLen) (hc : c.size ≤ maxLen) (hbz : b.size ≤ maxLen) (hp2 : p < s.size) (hp10 : s[p] = 10) (hp3 : Hid (∀ j (h : j < s.size), at_ ≤ j → j < p → s[j] ≠ 10)) (hL : [a, b, c, d] = words 32 (s.extract at_ p)) (k1 : rdOk a.data.toList = true) (k2 : rdOk c.data.toList = true) (hX : Hid ((⟨rdNum a.data.toList, b, rdNum c.data.toList⟩ : Entry).ok = true)) (kd : lastDay done ≤ rdNum a.data.toList) (hst : ¬ lineB (stampB st (entB (⟨rdNum a.data.toList, b, rdNum c.data.toList⟩ : Entry))) (⟨rdNum a.data.toList, b, rdNum c.data.toList⟩ : Entry) = s.extract at_ (p + 1)) :
    Calls Tryz.prog 62 #[.pointer (some ⟨g, 0, none⟩)] w fun e w' => e = .returned (.bool false) ∧ Below w.heap.size w w' := by
  have kd2 : decide (rdNum a.data.toList < lastDay done) = false := decide_eq_false (by omega)
  have q0 : Hid (w.cell? ⟨g, 0, none⟩ = some (.string s)) := hide (by rw [cell_of_row _ _ _ _ _ _ hb]; rfl)
  have q1 : Hid (w.cell? ⟨g, 1, none⟩ = some (.int .i64 at_)) := hide (by rw [cell_of_row _ _ _ _ _ _ hb]; rfl)
  have q2 : Hid (w.cell? ⟨g, 2, none⟩ = some (.int .i64 st)) := hide (by rw [cell_of_row _ _ _ _ _ _ hb]; rfl)
  have hgl := blk_lt hb
  have hbh := hide hb
  have hoh := hide ho
  clear hb ho
  have c0 := q0.out
  have c1 := q1.out
  have hu := And.intro hm (And.intro h0 h1)
  clear hu
  go_enter Tryz.func62, Tryz.ntmps62
  go_wp2
  go_loopw [3] (fun i wr => ∃ k : Nat, at_ ≤ k ∧ k ≤ p ∧ i = .int .i64 k ∧ w = wr) (fun i _ => s.size - (intOf i).toNat)
  case atStart => exact ⟨at_, Nat.le_refl _, hp1, rfl, rfl⟩
  case round =>
    obtain ⟨k, hk1, hk2, rfl, rfl⟩ := hrel
    by_cases hlt : k < p
    · have hks : k < s.size := by omega
      have e1 : ((s[k].toNat : Int) != 10) = true := by
        rw [bne_iff_ne]; intro h; exact hp3.out k hks hk1 hlt (UInt8.toNat_inj.1 (by show _ = 10; omega))
      go_wp2
      go_round
      case rel => exact ⟨k + 1, by omega, by omega, by go_num, trivial⟩
      case measure => simp [intOf]; omega
    · obtain rfl : k = p := by omega
      have hsp : ∀ W : World, Hid (Calls Tryz.prog 78 #[.string (s.extract at_ k), .int .u8 32] W fun e w' => ∃ v, e = .returned v ∧ Own strc 9 1 w' W.heap.size v [a, b, c, d].length [a, b, c, d] ∧ Below W.heap.size W w') := fun W => hide (by rw [hL]; exact sSplit_any 32 (s.extract at_ k) W (by rw [ByteArray.size_extract]; omega))
      have hLh := hide hL
      have hSP := hide hsp
      clear hL hsp
      have e10 : ((s[k].toNat : Int) != 10) = false := by rw [hp10]; rfl
      have b1 : (0 : Int) ≤ (at_ : Int) := by omega
      have b2 : (at_ : Int) ≤ (k : Int) := by omega
      have b3 : (k : Int) ≤ (s.size : Int) := by omega
      go_wp2_with fail
      have hC := hide (below_drewN (Below.refl w.heap.size w) 1)
      go_region_held3 (fun w' => w'.cell? ⟨g, 0, none⟩ = some (.string s) ∧ w'.cell? ⟨g, 1, none⟩ = some (.int .i64 at_)) (first | go_keep | exact ⟨keepc hC.out hgl q0.out, keepc hC.out hgl q1.out⟩)
        (first | (go_at_call 78; refine (hSP.out _).out.mono ?_; rintro e w2 ⟨v2, rfl, ho2, hb⟩; have hO2 := hide ho2; replace hC := hide (Below.up hC.out hb); clear hb ho2) | fail)
      have hu := hbz
      clear hu
      obtain ⟨Aw, cw, rfl, _⟩ := hO2.out.slice
      have hR := hO2.out.arr strc_len
      obtain ⟨bw, ow, x0, rfl, hbl, hx0, z0⟩ := hR.str (k := 0) (by show 0 < 4; omega)
      obtain ⟨_, _, x1, hA1, _, hx1, z1⟩ := hR.str (k := 1) (by show 1 < 4; omega)
      cases hA1
      obtain ⟨_, _, x2, hA2, _, hx2, z2⟩ := hR.str (k := 2) (by show 2 < 4; omega)
      cases hA2
      obtain rfl : a = x0 := by simpa using hx0
      obtain rfl : b = x1 := by simpa using hx1
      obtain rfl : c = x2 := by simpa using hx2
      clear hx0 hx1 hx2 hR hO2
      rw [Nat.add_zero] at z0
      have y1 := hide z1
      have y2 := hide z2
      have hD := hide (Below.refl w2.heap.size w2)
      clear z1 z2
      go_wp2_with fail
      refine (sRead_any a _ ha).mono ?_
      rintro e w3 ⟨rfl, hb⟩
      replace hC := hide (Below.up hC.out hb)
      replace hD := hide (Below.up hD.out hb)
      clear hb z0
      have z2 := keepc hD.out hbl y2.out
      go_wp2_with fail
      refine (sRead_any c _ hc).mono ?_
      rintro e w4 ⟨rfl, hb⟩
      replace hC := hide (Below.up hC.out hb)
      replace hD := hide (Below.up hD.out hb)
      clear hb z2
      have z1 := keepc hD.out hbl y1.out
      have j0 : (w4.alloc (.cells #[.int .i64 (rdNum a.data.toList), .string b, .int .i64 (rdNum c.data.toList)] 90)).cell? ⟨w4.heap.size, 0, none⟩ = some (.int .i64 (rdNum a.data.toList)) := by rw [cell_of_row _ _ _ _ _ _ (heap_alloc_new w4 _)]; rfl
      have j1 : (w4.alloc (.cells #[.int .i64 (rdNum a.data.toList), .string b, .int .i64 (rdNum c.data.toList)] 90)).cell? ⟨w4.heap.size, 1, none⟩ = some (.string b) := by rw [cell_of_row _ _ _ _ _ _ (heap_alloc_new w4 _)]; rfl
      have j2 : (w4.alloc (.cells #[.int .i64 (rdNum a.data.toList), .string b, .int .i64 (rdNum c.data.toList)] 90)).cell? ⟨w4.heap.size, 2, none⟩ = some (.int .i64 (rdNum c.data.toList)) := by rw [cell_of_row _ _ _ _ _ _ (heap_alloc_new w4 _)]; rfl
      have hnb := hide (heap_alloc_new w4 (.cells #[.int .i64 (rdNum a.data.toList), .string b, .int .i64 (rdNum c.data.toList)] 90))
      have hC4 := hide (hC.out.alloc hC.out.size (.cells #[.int .i64 (rdNum a.data.toList), .string b, .int .i64 (rdNum c.data.toList)] 90))
      have hj : w4.heap.size < (w4.alloc (.cells #[.int .i64 (rdNum a.data.toList), .string b, .int .i64 (rdNum c.data.toList)] 90)).heap.size := by simp
      go_wp2_with fail
      clear z1
      obtain ⟨h, hh⟩ : ∃ h, h = w4.heap.size := ⟨_, rfl⟩
      obtain ⟨W5, hW5⟩ : ∃ W5, W5 = w4.alloc (.cells #[.int .i64 (rdNum a.data.toList), .string b, .int .i64 (rdNum c.data.toList)] 90) := ⟨_, rfl⟩
      rw [← hW5] at j0 j1 j2 hC4 hj hnb ⊢
      rw [← hh] at j0 j1 j2 hj hnb ⊢
      have hge : w.heap.size ≤ h := by rw [hh]; exact hC.out.size
      have hge2 := hide hge
      clear hW5 hh hC hge
      have hb5 := hide (blk_below hbh.out hC4.out)
      have ho5 := hide (hoh.out.below hC4.out)
      have i0 := hide j0
      have i1 := hide j1
      have i2 := hide j2
      go_quiet ((first | (go_at_call 80; exact quiet_leftb (sEntry_any h 0 (⟨rdNum a.data.toList, b, rdNum c.data.toList⟩ : Entry) _ hbz i0.out i1.out i2.out) (by first | exact hX.out | rfl)) | (go_at_call 81; exact quiet_left2 (sDay_any g _ B at_ s st v done (by omega) hb5.out ho5.out)) | fail))
      have q25 := hide (keepc hC4.out hgl q2.out)
      have q05 := hide (keepc hC4.out hgl q0.out)
      have q15 := hide (keepc hC4.out hgl q1.out)
      have hg5 : g < W5.heap.size := Nat.lt_of_lt_of_le hgl hC4.out.size
      have hk := hX.out
      obtain ⟨r1, r2⟩ := stampB_range st (entB (⟨rdNum a.data.toList, b, rdNum c.data.toList⟩ : Entry))
      have hzE := entB_size hk
      have hstp := fun W => hide (sStamp_any st (entB (⟨rdNum a.data.toList, b, rdNum c.data.toList⟩ : Entry)) W h0 h1 hzE)
      have hSTP := hide hstp
      obtain ⟨st', hst'⟩ : ∃ st', st' = stampB st (entB (⟨rdNum a.data.toList, b, rdNum c.data.toList⟩ : Entry)) := ⟨_, rfl⟩
      rw [← hst'] at hst r1 r2 hSTP
      have hSt := hide hst'
      clear hst' hstp j0 j1 j2
      have c2 := q25.out
      go_wp2_with fail
      go_region_held3 (fun w' => w'.cell? ⟨g, 2, none⟩ = some (.int .i64 st)) (first | go_keep | exact keepc hE.out hg5 q25.out)
        (first | (go_at_call 83; refine (sWords_any h 0 (⟨rdNum a.data.toList, b, rdNum c.data.toList⟩ : Entry) _ hk (by exact hj) (by exact i0.out) (by exact i1.out) (by exact i2.out)).mono ?_; rintro e w6 ⟨rfl, hb⟩; have hE := hide (Below.up (below_drewN (Below.refl W5.heap.size W5) _) hb); clear hb) | (go_at_call 82; refine (hSTP.out _).out.mono ?_; rintro e w' ⟨rfl, rfl⟩) | fail)
      go_wp2_with fail
      clear c2
      have hj6 : h < w6.heap.size := Nat.lt_of_lt_of_le hj hE.out.size
      have hg6 : g < w6.heap.size := Nat.lt_of_lt_of_le hg5 hE.out.size
      have p0 := hide (keepc hE.out hj i0.out)
      have p1 := hide (keepc hE.out hj i1.out)
      have p2 := hide (keepc hE.out hj i2.out)
      have q06 := hide (keepc hE.out hg5 q05.out)
      have q16 := hide (keepc hE.out hg5 q15.out)
      have q26 := hide (keepc hE.out hg5 q25.out)
      have c0 := q06.out
      have c1 := q16.out
      have hF := hide (below_drewN (Below.refl w6.heap.size w6) 1)
      have b4 : (at_ : Int) ≤ (k : Int) + 1 := by omega
      have b5 : (k : Int) + 1 ≤ (s.size : Int) := by omega
      have b6 : IntKind.i64.wrap ((k : Int) + 1) = (k : Int) + 1 := IntWalk.i64_in _ (by omega)
      have b7 : ((k : Int) + 1).toNat = k + 1 := by omega
      have b8 : (0 : Int) ≤ (k : Int) + 1 := by omega
      have e5 := str_ne hst
      go_region_held3 (fun w' => w'.cell? ⟨g, 0, none⟩ = some (.string s) ∧ w'.cell? ⟨g, 1, none⟩ = some (.int .i64 at_)) (first | go_keep | exact ⟨keepc hF.out hg6 q06.out, keepc hF.out hg6 q16.out⟩)
        (first | (go_at_call 84; refine (sLine_any st' h 0 (⟨rdNum a.data.toList, b, rdNum c.data.toList⟩ : Entry) _ r1 r2 hk (by exact hj6) (by exact p0.out) (by exact p1.out) (by exact p2.out)).mono ?_; rintro e w7 ⟨rfl, hb⟩; replace hF := hide (Below.up hF.out hb); clear hb) | fail)
      clear b6 b7
      go_wp2
      go_ret
      exact ⟨rfl, Below.up (Below.up hC4.out hE.out) hF.out⟩
set_option maxHeartbeats 1000000 in
theorem sLine_yes (g at_ B : Nat) (s : ByteArray) (st : Int) (v : Value) (done : List Entry) (w : World) (hs : s.size ≤ 1000000) (hm : done.length ≤ 1000000) (h0 : 0 ≤ st) (h1 : st ≤ 65518)
    (hb : w.heap[g]? = some (.cells #[.string s, .int .i64 at_, .int .i64 st, v] 74 (0, 0))) (ho : Own Entry.cells 90 3 w B v done.length done) (p : Nat) (hp1 : at_ ≤ p) (a b c d : ByteArray) (ha : a.size ≤ maxLen) (hc : c.size ≤ maxLen) (hbz : b.size ≤ maxLen) (hp2 : p < s.size) (hp10 : s[p] = 10) (hp3 : Hid (∀ j (h : j < s.size), at_ ≤ j → j < p → s[j] ≠ 10)) (hL : [a, b, c, d] = words 32 (s.extract at_ p)) (k1 : rdOk a.data.toList = true) (k2 : rdOk c.data.toList = true) (hX : Hid ((⟨rdNum a.data.toList, b, rdNum c.data.toList⟩ : Entry).ok = true)) (kd : lastDay done ≤ rdNum a.data.toList) (hst : lineB (stampB st (entB (⟨rdNum a.data.toList, b, rdNum c.data.toList⟩ : Entry))) (⟨rdNum a.data.toList, b, rdNum c.data.toList⟩ : Entry) = s.extract at_ (p + 1)) (hBg : B ≤ g) :
    Calls Tryz.prog 62 #[.pointer (some ⟨g, 0, none⟩)] w fun e w' => e = .returned (.bool true) ∧ RB w' B g s (done ++ [(⟨rdNum a.data.toList, b, rdNum c.data.toList⟩ : Entry)]) (p + 1) (stampB st (entB (⟨rdNum a.data.toList, b, rdNum c.data.toList⟩ : Entry))) ∧ Below B w w' := by
  have kd2 : decide (rdNum a.data.toList < lastDay done) = false := decide_eq_false (by omega)
  have q0 : Hid (w.cell? ⟨g, 0, none⟩ = some (.string s)) := hide (by rw [cell_of_row _ _ _ _ _ _ hb]; rfl)
  have q1 : Hid (w.cell? ⟨g, 1, none⟩ = some (.int .i64 at_)) := hide (by rw [cell_of_row _ _ _ _ _ _ hb]; rfl)
  have q2 : Hid (w.cell? ⟨g, 2, none⟩ = some (.int .i64 st)) := hide (by rw [cell_of_row _ _ _ _ _ _ hb]; rfl)
  have hgl := blk_lt hb
  have hbh := hide hb
  have hoh := hide ho
  clear hb ho
  have c0 := q0.out
  have c1 := q1.out
  have hu := And.intro hm (And.intro h0 h1)
  clear hu
  go_enter Tryz.func62, Tryz.ntmps62
  go_wp2
  go_loopw [3] (fun i wr => ∃ k : Nat, at_ ≤ k ∧ k ≤ p ∧ i = .int .i64 k ∧ w = wr) (fun i _ => s.size - (intOf i).toNat)
  case atStart => exact ⟨at_, Nat.le_refl _, hp1, rfl, rfl⟩
  case round =>
    obtain ⟨k, hk1, hk2, rfl, rfl⟩ := hrel
    by_cases hlt : k < p
    · have hks : k < s.size := by omega
      have e1 : ((s[k].toNat : Int) != 10) = true := by
        rw [bne_iff_ne]; intro h; exact hp3.out k hks hk1 hlt (UInt8.toNat_inj.1 (by show _ = 10; omega))
      go_wp2
      go_round
      case rel => exact ⟨k + 1, by omega, by omega, by go_num, trivial⟩
      case measure => simp [intOf]; omega
    · obtain rfl : k = p := by omega
      have hsp : ∀ W : World, Hid (Calls Tryz.prog 78 #[.string (s.extract at_ k), .int .u8 32] W fun e w' => ∃ v, e = .returned v ∧ Own strc 9 1 w' W.heap.size v [a, b, c, d].length [a, b, c, d] ∧ Below W.heap.size W w') := fun W => hide (by rw [hL]; exact sSplit_any 32 (s.extract at_ k) W (by rw [ByteArray.size_extract]; omega))
      have hLh := hide hL
      have hSP := hide hsp
      clear hL hsp
      have e10 : ((s[k].toNat : Int) != 10) = false := by rw [hp10]; rfl
      have b1 : (0 : Int) ≤ (at_ : Int) := by omega
      have b2 : (at_ : Int) ≤ (k : Int) := by omega
      have b3 : (k : Int) ≤ (s.size : Int) := by omega
      go_wp2_with fail
      have hC := hide (below_drewN (Below.refl w.heap.size w) 1)
      go_region_held3 (fun w' => w'.cell? ⟨g, 0, none⟩ = some (.string s) ∧ w'.cell? ⟨g, 1, none⟩ = some (.int .i64 at_)) (first | go_keep | exact ⟨keepc hC.out hgl q0.out, keepc hC.out hgl q1.out⟩)
        (first | (go_at_call 78; refine (hSP.out _).out.mono ?_; rintro e w2 ⟨v2, rfl, ho2, hb⟩; have hO2 := hide ho2; replace hC := hide (Below.up hC.out hb); clear hb ho2) | fail)
      have hu := hbz
      clear hu
      obtain ⟨Aw, cw, rfl, _⟩ := hO2.out.slice
      have hR := hO2.out.arr strc_len
      obtain ⟨bw, ow, x0, rfl, hbl, hx0, z0⟩ := hR.str (k := 0) (by show 0 < 4; omega)
      obtain ⟨_, _, x1, hA1, _, hx1, z1⟩ := hR.str (k := 1) (by show 1 < 4; omega)
      cases hA1
      obtain ⟨_, _, x2, hA2, _, hx2, z2⟩ := hR.str (k := 2) (by show 2 < 4; omega)
      cases hA2
      obtain rfl : a = x0 := by simpa using hx0
      obtain rfl : b = x1 := by simpa using hx1
      obtain rfl : c = x2 := by simpa using hx2
      clear hx0 hx1 hx2 hR hO2
      rw [Nat.add_zero] at z0
      have y1 := hide z1
      have y2 := hide z2
      have hD := hide (Below.refl w2.heap.size w2)
      clear z1 z2
      go_wp2_with fail
      refine (sRead_any a _ ha).mono ?_
      rintro e w3 ⟨rfl, hb⟩
      replace hC := hide (Below.up hC.out hb)
      replace hD := hide (Below.up hD.out hb)
      clear hb z0
      have z2 := keepc hD.out hbl y2.out
      go_wp2_with fail
      refine (sRead_any c _ hc).mono ?_
      rintro e w4 ⟨rfl, hb⟩
      replace hC := hide (Below.up hC.out hb)
      replace hD := hide (Below.up hD.out hb)
      clear hb z2
      have z1 := keepc hD.out hbl y1.out
      have j0 : (w4.alloc (.cells #[.int .i64 (rdNum a.data.toList), .string b, .int .i64 (rdNum c.data.toList)] 90)).cell? ⟨w4.heap.size, 0, none⟩ = some (.int .i64 (rdNum a.data.toList)) := by rw [cell_of_row _ _ _ _ _ _ (heap_alloc_new w4 _)]; rfl
      have j1 : (w4.alloc (.cells #[.int .i64 (rdNum a.data.toList), .string b, .int .i64 (rdNum c.data.toList)] 90)).cell? ⟨w4.heap.size, 1, none⟩ = some (.string b) := by rw [cell_of_row _ _ _ _ _ _ (heap_alloc_new w4 _)]; rfl
      have j2 : (w4.alloc (.cells #[.int .i64 (rdNum a.data.toList), .string b, .int .i64 (rdNum c.data.toList)] 90)).cell? ⟨w4.heap.size, 2, none⟩ = some (.int .i64 (rdNum c.data.toList)) := by rw [cell_of_row _ _ _ _ _ _ (heap_alloc_new w4 _)]; rfl
      have hnb := hide (heap_alloc_new w4 (.cells #[.int .i64 (rdNum a.data.toList), .string b, .int .i64 (rdNum c.data.toList)] 90))
      have hC4 := hide (hC.out.alloc hC.out.size (.cells #[.int .i64 (rdNum a.data.toList), .string b, .int .i64 (rdNum c.data.toList)] 90))
      have hj : w4.heap.size < (w4.alloc (.cells #[.int .i64 (rdNum a.data.toList), .string b, .int .i64 (rdNum c.data.toList)] 90)).heap.size := by simp
      go_wp2_with fail
      clear z1
      obtain ⟨h, hh⟩ : ∃ h, h = w4.heap.size := ⟨_, rfl⟩
      obtain ⟨W5, hW5⟩ : ∃ W5, W5 = w4.alloc (.cells #[.int .i64 (rdNum a.data.toList), .string b, .int .i64 (rdNum c.data.toList)] 90) := ⟨_, rfl⟩
      rw [← hW5] at j0 j1 j2 hC4 hj hnb ⊢
      rw [← hh] at j0 j1 j2 hj hnb ⊢
      have hge : w.heap.size ≤ h := by rw [hh]; exact hC.out.size
      have hge2 := hide hge
      clear hW5 hh hC hge
      have hb5 := hide (blk_below hbh.out hC4.out)
      have ho5 := hide (hoh.out.below hC4.out)
      have i0 := hide j0
      have i1 := hide j1
      have i2 := hide j2
      go_quiet ((first | (go_at_call 80; exact quiet_leftb (sEntry_any h 0 (⟨rdNum a.data.toList, b, rdNum c.data.toList⟩ : Entry) _ hbz i0.out i1.out i2.out) (by first | exact hX.out | rfl)) | (go_at_call 81; exact quiet_left2 (sDay_any g _ B at_ s st v done (by omega) hb5.out ho5.out)) | fail))
      have q25 := hide (keepc hC4.out hgl q2.out)
      have q05 := hide (keepc hC4.out hgl q0.out)
      have q15 := hide (keepc hC4.out hgl q1.out)
      have hg5 : g < W5.heap.size := Nat.lt_of_lt_of_le hgl hC4.out.size
      have hk := hX.out
      obtain ⟨r1, r2⟩ := stampB_range st (entB (⟨rdNum a.data.toList, b, rdNum c.data.toList⟩ : Entry))
      have hzE := entB_size hk
      have hstp := fun W => hide (sStamp_any st (entB (⟨rdNum a.data.toList, b, rdNum c.data.toList⟩ : Entry)) W h0 h1 hzE)
      have hSTP := hide hstp
      obtain ⟨st', hst'⟩ : ∃ st', st' = stampB st (entB (⟨rdNum a.data.toList, b, rdNum c.data.toList⟩ : Entry)) := ⟨_, rfl⟩
      rw [← hst'] at hst r1 r2 hSTP
      have hSt := hide hst'
      clear hst' hstp j0 j1 j2
      have c2 := q25.out
      go_wp2_with fail
      go_region_held3 (fun w' => w'.cell? ⟨g, 2, none⟩ = some (.int .i64 st)) (first | go_keep | exact keepc hE.out hg5 q25.out)
        (first | (go_at_call 83; refine (sWords_any h 0 (⟨rdNum a.data.toList, b, rdNum c.data.toList⟩ : Entry) _ hk (by exact hj) (by exact i0.out) (by exact i1.out) (by exact i2.out)).mono ?_; rintro e w6 ⟨rfl, hb⟩; have hE := hide (Below.up (below_drewN (Below.refl W5.heap.size W5) _) hb); clear hb) | (go_at_call 82; refine (hSTP.out _).out.mono ?_; rintro e w' ⟨rfl, rfl⟩) | fail)
      go_wp2_with fail
      clear c2
      have hj6 : h < w6.heap.size := Nat.lt_of_lt_of_le hj hE.out.size
      have hg6 : g < w6.heap.size := Nat.lt_of_lt_of_le hg5 hE.out.size
      have p0 := hide (keepc hE.out hj i0.out)
      have p1 := hide (keepc hE.out hj i1.out)
      have p2 := hide (keepc hE.out hj i2.out)
      have q06 := hide (keepc hE.out hg5 q05.out)
      have q16 := hide (keepc hE.out hg5 q15.out)
      have q26 := hide (keepc hE.out hg5 q25.out)
      have c0 := q06.out
      have c1 := q16.out
      have hF := hide (below_drewN (Below.refl w6.heap.size w6) 1)
      have b4 : (at_ : Int) ≤ (k : Int) + 1 := by omega
      have b5 : (k : Int) + 1 ≤ (s.size : Int) := by omega
      have b6 : IntKind.i64.wrap ((k : Int) + 1) = (k : Int) + 1 := IntWalk.i64_in _ (by omega)
      have b7 : ((k : Int) + 1).toNat = k + 1 := by omega
      have b8 : (0 : Int) ≤ (k : Int) + 1 := by omega
      have e5 := str_eq hst
      go_region_held3 (fun w' => w'.cell? ⟨g, 0, none⟩ = some (.string s) ∧ w'.cell? ⟨g, 1, none⟩ = some (.int .i64 at_)) (first | go_keep | exact ⟨keepc hF.out hg6 q06.out, keepc hF.out hg6 q16.out⟩)
        (first | (go_at_call 84; refine (sLine_any st' h 0 (⟨rdNum a.data.toList, b, rdNum c.data.toList⟩ : Entry) _ r1 r2 hk (by exact hj6) (by exact p0.out) (by exact p1.out) (by exact p2.out)).mono ?_; rintro e w7 ⟨rfl, hb⟩; replace hF := hide (Below.up hF.out hb); clear hb) | fail)
      clear b6 b7
      go_wp2_with fail
      clear e5 c0 c1
      have hU := hide (Below.up hE.out hF.out)
      have g0 := keepc hF.out hj6 p0.out
      have g1 := keepc hF.out hj6 p1.out
      have g2 := keepc hF.out hj6 p2.out
      have hb7 := hide (blk_below hb5.out hU.out)
      have ho7 := hide (ho5.out.below hU.out)
      have hne := hide (own_other ho7.out hb7.out (by decide))
      have f3 : w7.cell? ⟨g, 3, none⟩ = some v := by rw [cell_of_row _ _ _ _ _ _ hb7.out]; rfl
      have f3b : ∀ O, (w7.alloc O).cell? ⟨g, 3, none⟩ = some v := fun O => (World.cell?_alloc_lt w7 O ⟨g, 3, none⟩ (by exact blk_lt hb7.out)).trans f3
      have hB7 : B ≤ w7.heap.size := by have := blk_lt hb7.out; omega
      have hBU := hide (((Below.up hC4.out hU.out).mono (show B ≤ w.heap.size by omega)))
      have hd : Below w7.heap.size w7 w7.drew := below_drewN (Below.refl _ _) 1
      go_region_law ((refine step_app1 rfl (.tmp 115) (.tmp 117) (by rfl) Tryz.underlying67 info_Entry' rfl (by omega) (by omega) Entry.len Entry.one (by rfl) (ho7.out.below hd) (⟨rdNum a.data.toList, b, rdNum c.data.toList⟩ : Entry) _ (by rfl) (by rfl) (by omega) hB7 ?_; intro v8 w8 ho8 hg8 _; obtain ⟨A8, c8, rfl, _⟩ := ho8.slice; have hb8 := (hg8.block g (by exact blk_lt hb7.out) (fun e => hne.out e.symm)).trans hb7.out; have f8 : w8.cell? ⟨g, 3, none⟩ = some v := (by rw [cell_of_row _ _ _ _ _ _ hb8]; rfl); have f9 : w8.cell? ⟨g, 2, none⟩ = some (.int .i64 st) := (by rw [cell_of_row _ _ _ _ _ _ hb8]; rfl); have f10 : w8.cell? ⟨g, 1, none⟩ = some (.int .i64 at_) := (by rw [cell_of_row _ _ _ _ _ _ hb8]; rfl); have f11 : ∀ o, w8.frozen? ⟨g, o, none⟩ = false := (fun o => frozen_of_row w8 _ _ _ _ hb8); have hB8 := hide (grown_below (hBU.out.drew) (ho7.out.below hd) hg8 hB7); have hb8h := hide hb8; have ho8h := hide ho8; clear hb8 ho8 hg8))
      all_goals go_wp2
      all_goals go_ret
      all_goals exact ⟨rfl, by rw [← hSt.out]; exact (line_done hb8h.out ho8h.out hB8.out hBg st' k).1, (line_done hb8h.out ho8h.out hB8.out hBg st' k).2⟩
end Go.Proofs.YtceajnoppdfeaaaGreatDoor
