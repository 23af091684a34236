/- Contracts: a line of a log read, the program's way. -/
import Derived.Test.YtceajnoppdfeaaaGreatDoorLogB
namespace Go.Proofs.YtceajnoppdfeaaaGreatDoor
open Go.ChangeShapes Go.WideShapes Go.ChangeAt Go.RowKit Go.Deep
set_option maxRecDepth 100000
def rlEnt (x : ByteArray) : Entry := match words 32 x with
  | [a, b, c, _] => ⟨rdNum a.data.toList, b, rdNum c.data.toList⟩
  | _ => ⟨0, ⟨#[]⟩, 0⟩
def rlOk (x : ByteArray) : Bool := match words 32 x with
  | [a, b, c, _] => rdOk a.data.toList && rdOk c.data.toList && (⟨rdNum a.data.toList, b, rdNum c.data.toList⟩ : Entry).ok
  | _ => false
theorem rl_ent {x : ByteArray} (h : rlOk x = true) : entOf x.data.toList = some (rlEnt x) ∧ (rlEnt x).ok = true := by
  unfold rlOk at h
  split at h
  · rename_i a b c d hw
    simp only [Bool.and_eq_true] at h
    have he := ent_words hw
    rw [if_pos ⟨h.1.1, h.1.2, h.2⟩] at he
    unfold rlEnt
    rw [hw]
    exact ⟨he, h.2⟩
  · cases h
theorem rl_none {x : ByteArray} (h : rlOk x = false) : entOf x.data.toList = none := by
  unfold rlOk at h
  split at h
  · rename_i a b c d hw
    rw [ent_words hw, if_neg]
    intro hh
    rw [hh.1, hh.2.1, hh.2.2] at h
    cases h
  · rename_i hne
    refine ent_not4 fun h4 => ?_
    match hw : words 32 x, h4 with
    | [a, b, c, d], _ => exact hne a b c d hw
theorem rl_not4 {x : ByteArray} (h : (words 32 x).length ≠ 4) : rlEnt x = ⟨0, ⟨#[]⟩, 0⟩ ∧ rlOk x = false := by
  constructor
  · unfold rlEnt; split
    · rename_i hw; rw [hw] at h; exact absurd rfl h
    · rfl
  · unfold rlOk; split
    · rename_i hw; rw [hw] at h; exact absurd rfl h
    · rfl
theorem rl_four {x a b c d : ByteArray} (h : words 32 x = [a, b, c, d]) : rlEnt x = ⟨rdNum a.data.toList, b, rdNum c.data.toList⟩ ∧ rlOk x = (rdOk a.data.toList && rdOk c.data.toList && (⟨rdNum a.data.toList, b, rdNum c.data.toList⟩ : Entry).ok) := by
  constructor
  · unfold rlEnt; rw [h]
  · unfold rlOk; rw [h]
def RL (x : Entry) (ok : Bool) (w : World) (e : Ending) (w' : World) : Prop := e = .returned (.tuple #[.agg #[.int .i64 x.fDay, .string x.fWhat, .int .i64 x.fValue], .bool ok]) ∧ Below w.heap.size w w'
set_option maxHeartbeats 1000000 in
theorem iLine_not4 (x : ByteArray) (w : World) (hs : x.size ≤ 1000000) (L : List ByteArray) (hL : L = words 32 x) (h4 : L.length ≠ 4) (hG : Gl w) :
    Calls Tryz.prog 58 #[.string x] w fun e w' => e = .returned (.tuple #[.agg #[.int .i64 0, .string ⟨#[]⟩, .int .i64 0], .bool false]) ∧ Below w.heap.size w w' := by
  have e4 : ((L.length : Int) != 4) = true := by rw [bne_iff_ne]; omega
  clear h4
  have hsp : ∀ W : World, Gl W → Hid (Calls Tryz.prog 70 #[.string x, .string ⟨#[32]⟩] W fun e w' => ∃ v, e = .returned v ∧ Own strc 9 1 w' W.heap.size v L.length L ∧ Below W.heap.size W w') := fun W hg => hide (by rw [hL]; exact iSplit_any 32 x W (by omega) hg)
  have hLh := hide hL
  have hSP := hide hsp
  have hGh := hide hG
  clear hL hsp hG
  have hB := hide ((Below.refl w.heap.size w).alloc (Nat.le_refl _) (.cells #[.int .i64 0, .string ⟨#[]⟩, .int .i64 0] 90))
  go_enter Tryz.func58, Tryz.ntmps58
  go_wp2_with fail
  have hres := hide (heap_alloc_new w (.cells #[.int .i64 0, .string ⟨#[]⟩, .int .i64 0] 90))
  obtain ⟨W1, hW1⟩ : ∃ W1, W1 = w.alloc (.cells #[.int .i64 0, .string ⟨#[]⟩, .int .i64 0] 90) := ⟨_, rfl⟩
  rw [← hW1] at hB hres ⊢
  clear hW1
  refine (hSP.out _ (hGh.out.below hB.out)).out.mono ?_
  rintro e w2 ⟨v2, rfl, ho2, hb⟩
  have hO2 := hide ho2
  replace hB := hide (Below.up hB.out hb)
  replace hres := hide (blk_below hres.out hb)
  clear hb ho2
  obtain ⟨Aw, cw, rfl, _⟩ := hO2.out.slice
  have f0 : w2.cell? ⟨w.heap.size, 0, none⟩ = some (.int .i64 0) := by rw [cell_of_row _ _ _ _ _ _ hres.out]; rfl
  have f1 : w2.cell? ⟨w.heap.size, 1, none⟩ = some (.string ⟨#[]⟩) := by rw [cell_of_row _ _ _ _ _ _ hres.out]; rfl
  have f2 : w2.cell? ⟨w.heap.size, 2, none⟩ = some (.int .i64 0) := by rw [cell_of_row _ _ _ _ _ _ hres.out]; rfl
  have ff : ∀ o, w2.frozen? ⟨w.heap.size, o, none⟩ = false := fun o => frozen_of_row w2 _ _ _ _ hres.out
  go_wp2
  exact bodyPost_ret (v := .tuple #[.agg #[.int .i64 0, .string ⟨#[]⟩, .int .i64 0], .bool false]) (by simp [results, Tryz.results58, go_sem, f0, f1, f2]) rfl ⟨rfl, ((hB.out.setCell (p := ⟨w.heap.size, 0, none⟩) (Nat.le_refl _) _).setCell (p := ⟨w.heap.size, 1, none⟩) (Nat.le_refl _) _).setCell (p := ⟨w.heap.size, 2, none⟩) (Nat.le_refl _) _⟩
set_option maxHeartbeats 1000000 in
theorem iLine_one (x : ByteArray) (w : World) (hs : x.size ≤ 1000000) (a b c d : ByteArray) (hL : [a, b, c, d] = words 32 x) (hG : Gl w) (k1 : rdOk a.data.toList = false) :
    Calls Tryz.prog 58 #[.string x] w (RL (⟨rdNum a.data.toList, b, rdNum c.data.toList⟩ : Entry) false w) := by
  have hsp : ∀ W : World, Gl W → Hid (Calls Tryz.prog 70 #[.string x, .string ⟨#[32]⟩] W fun e w' => ∃ v, e = .returned v ∧ Own strc 9 1 w' W.heap.size v [a, b, c, d].length [a, b, c, d] ∧ Below W.heap.size W w') := fun W hg => hide (by rw [hL]; exact iSplit_any 32 x W (by omega) hg)
  have hLh := hide hL
  have hSP := hide hsp
  have hGh := hide hG
  clear hL hsp hG
  have hB := hide ((Below.refl w.heap.size w).alloc (Nat.le_refl _) (.cells #[.int .i64 0, .string ⟨#[]⟩, .int .i64 0] 90))
  go_enter Tryz.func58, Tryz.ntmps58
  go_wp2_with fail
  have hres := hide (heap_alloc_new w (.cells #[.int .i64 0, .string ⟨#[]⟩, .int .i64 0] 90))
  obtain ⟨W1, hW1⟩ : ∃ W1, W1 = w.alloc (.cells #[.int .i64 0, .string ⟨#[]⟩, .int .i64 0] 90) := ⟨_, rfl⟩
  rw [← hW1] at hB hres ⊢
  clear hW1
  refine (hSP.out _ (hGh.out.below hB.out)).out.mono ?_
  rintro e w2 ⟨v2, rfl, ho2, hb⟩
  have hO2 := hide ho2
  replace hB := hide (Below.up hB.out hb)
  replace hres := hide (blk_below hres.out hb)
  clear hb ho2
  obtain ⟨Aw, cw, rfl, _⟩ := hO2.out.slice
  have hR := hO2.out.arr strc_len
  obtain ⟨bw, ow, x0, rfl, hbl, hx0, z0⟩ := hR.str (k := 0) (by show 0 < 4; omega)
  obtain ⟨_, _, x1, hA1, _, hx1, z1⟩ := hR.str (k := 1) (by show 1 < 4; omega)
  cases hA1
  obtain ⟨_, _, x2, hA2, _, hx2, z2⟩ := hR.str (k := 2) (by show 2 < 4; omega)
  cases hA2
  obtain rfl : a = x0 := by simpa using hx0
  obtain rfl : b = x1 := by simpa using hx1
  obtain rfl : c = x2 := by simpa using hx2
  clear hx0 hx1 hx2 hR hO2
  rw [Nat.add_zero] at z0
  have y1 := hide z1
  have y2 := hide z2
  have hD := hide (Below.refl w2.heap.size w2)
  clear z1 z2
  go_wp2_with fail
  refine (iRead_any a _ (hGh.out.below hB.out)).mono ?_
  rintro e w3 ⟨rfl, hb⟩
  replace hB := hide (Below.up hB.out hb)
  replace hD := hide (Below.up hD.out hb)
  replace hres := hide (blk_below hres.out hb)
  clear hb z0
  have z2 := keepc hD.out hbl y2.out
  go_wp2_with fail
  refine (iRead_any c _ (hGh.out.below hB.out)).mono ?_
  rintro e w4 ⟨rfl, hb⟩
  replace hB := hide (Below.up hB.out hb)
  replace hD := hide (Below.up hD.out hb)
  replace hres := hide (blk_below hres.out hb)
  clear hb z2
  have z1 := keepc hD.out hbl y1.out
  have j0 : (w4.alloc (.cells #[.int .i64 (rdNum a.data.toList), .string b, .int .i64 (rdNum c.data.toList)] 90)).cell? ⟨w4.heap.size, 0, none⟩ = some (.int .i64 (rdNum a.data.toList)) := by rw [cell_of_row _ _ _ _ _ _ (heap_alloc_new w4 _)]; rfl
  have j1 : (w4.alloc (.cells #[.int .i64 (rdNum a.data.toList), .string b, .int .i64 (rdNum c.data.toList)] 90)).cell? ⟨w4.heap.size, 1, none⟩ = some (.string b) := by rw [cell_of_row _ _ _ _ _ _ (heap_alloc_new w4 _)]; rfl
  have j2 : (w4.alloc (.cells #[.int .i64 (rdNum a.data.toList), .string b, .int .i64 (rdNum c.data.toList)] 90)).cell? ⟨w4.heap.size, 2, none⟩ = some (.int .i64 (rdNum c.data.toList)) := by rw [cell_of_row _ _ _ _ _ _ (heap_alloc_new w4 _)]; rfl
  have hlt4 : w.heap.size < w4.heap.size := blk_lt hres.out
  have hj : w4.heap.size < (w4.alloc (.cells #[.int .i64 (rdNum a.data.toList), .string b, .int .i64 (rdNum c.data.toList)] 90)).heap.size := by simp
  replace hres := hide (blk_below hres.out ((Below.refl w4.heap.size w4).alloc (Nat.le_refl _) (.cells #[.int .i64 (rdNum a.data.toList), .string b, .int .i64 (rdNum c.data.toList)] 90)))
  replace hB := hide (hB.out.alloc hB.out.size (.cells #[.int .i64 (rdNum a.data.toList), .string b, .int .i64 (rdNum c.data.toList)] 90))
  have hlt0 : w.heap.size < (w4.alloc (.cells #[.int .i64 (rdNum a.data.toList), .string b, .int .i64 (rdNum c.data.toList)] 90)).heap.size := blk_lt hres.out
  have hne0 : w.heap.size ≠ w4.heap.size := by omega
  go_wp2_with fail
  clear z1
  obtain ⟨h, hh⟩ : ∃ h, h = w4.heap.size := ⟨_, rfl⟩
  obtain ⟨W5, hW5⟩ : ∃ W5, W5 = w4.alloc (.cells #[.int .i64 (rdNum a.data.toList), .string b, .int .i64 (rdNum c.data.toList)] 90) := ⟨_, rfl⟩
  rw [← hW5] at j0 j1 j2 hB hj hres hlt0 ⊢
  rw [← hh] at j0 j1 j2 hj hne0 ⊢
  clear hW5 hh hlt4
  have f0 : W5.cell? ⟨w.heap.size, 0, none⟩ = some (.int .i64 0) := by rw [cell_of_row _ _ _ _ _ _ hres.out]; rfl
  have f1 : W5.cell? ⟨w.heap.size, 1, none⟩ = some (.string ⟨#[]⟩) := by rw [cell_of_row _ _ _ _ _ _ hres.out]; rfl
  have f2 : W5.cell? ⟨w.heap.size, 2, none⟩ = some (.int .i64 0) := by rw [cell_of_row _ _ _ _ _ _ hres.out]; rfl
  have ff : ∀ o, W5.frozen? ⟨w.heap.size, o, none⟩ = false := fun o => frozen_of_row W5 _ _ _ _ hres.out
  have hne1 : h ≠ w.heap.size := by omega
  go_region
  all_goals go_wp2
  all_goals exact bodyPost_ret (v := .tuple #[.agg #[.int .i64 (rdNum a.data.toList), .string b, .int .i64 (rdNum c.data.toList)], .bool false]) (by simp [results, Tryz.results58, go_sem, f0, f1, f2]) rfl ⟨rfl, (((hB.out.drew).setCell (p := ⟨w.heap.size, 0, none⟩) (Nat.le_refl _) _).setCell (p := ⟨w.heap.size, 1, none⟩) (Nat.le_refl _) _).setCell (p := ⟨w.heap.size, 2, none⟩) (Nat.le_refl _) _⟩
set_option maxHeartbeats 1000000 in
theorem iLine_two (x : ByteArray) (w : World) (hs : x.size ≤ 1000000) (a b c d : ByteArray) (hL : [a, b, c, d] = words 32 x) (hG : Gl w) (k1 : rdOk a.data.toList = true) (k2 : rdOk c.data.toList = false) :
    Calls Tryz.prog 58 #[.string x] w (RL (⟨rdNum a.data.toList, b, rdNum c.data.toList⟩ : Entry) false w) := by
  have hsp : ∀ W : World, Gl W → Hid (Calls Tryz.prog 70 #[.string x, .string ⟨#[32]⟩] W fun e w' => ∃ v, e = .returned v ∧ Own strc 9 1 w' W.heap.size v [a, b, c, d].length [a, b, c, d] ∧ Below W.heap.size W w') := fun W hg => hide (by rw [hL]; exact iSplit_any 32 x W (by omega) hg)
  have hLh := hide hL
  have hSP := hide hsp
  have hGh := hide hG
  clear hL hsp hG
  have hB := hide ((Below.refl w.heap.size w).alloc (Nat.le_refl _) (.cells #[.int .i64 0, .string ⟨#[]⟩, .int .i64 0] 90))
  go_enter Tryz.func58, Tryz.ntmps58
  go_wp2_with fail
  have hres := hide (heap_alloc_new w (.cells #[.int .i64 0, .string ⟨#[]⟩, .int .i64 0] 90))
  obtain ⟨W1, hW1⟩ : ∃ W1, W1 = w.alloc (.cells #[.int .i64 0, .string ⟨#[]⟩, .int .i64 0] 90) := ⟨_, rfl⟩
  rw [← hW1] at hB hres ⊢
  clear hW1
  refine (hSP.out _ (hGh.out.below hB.out)).out.mono ?_
  rintro e w2 ⟨v2, rfl, ho2, hb⟩
  have hO2 := hide ho2
  replace hB := hide (Below.up hB.out hb)
  replace hres := hide (blk_below hres.out hb)
  clear hb ho2
  obtain ⟨Aw, cw, rfl, _⟩ := hO2.out.slice
  have hR := hO2.out.arr strc_len
  obtain ⟨bw, ow, x0, rfl, hbl, hx0, z0⟩ := hR.str (k := 0) (by show 0 < 4; omega)
  obtain ⟨_, _, x1, hA1, _, hx1, z1⟩ := hR.str (k := 1) (by show 1 < 4; omega)
  cases hA1
  obtain ⟨_, _, x2, hA2, _, hx2, z2⟩ := hR.str (k := 2) (by show 2 < 4; omega)
  cases hA2
  obtain rfl : a = x0 := by simpa using hx0
  obtain rfl : b = x1 := by simpa using hx1
  obtain rfl : c = x2 := by simpa using hx2
  clear hx0 hx1 hx2 hR hO2
  rw [Nat.add_zero] at z0
  have y1 := hide z1
  have y2 := hide z2
  have hD := hide (Below.refl w2.heap.size w2)
  clear z1 z2
  go_wp2_with fail
  refine (iRead_any a _ (hGh.out.below hB.out)).mono ?_
  rintro e w3 ⟨rfl, hb⟩
  replace hB := hide (Below.up hB.out hb)
  replace hD := hide (Below.up hD.out hb)
  replace hres := hide (blk_below hres.out hb)
  clear hb z0
  have z2 := keepc hD.out hbl y2.out
  go_wp2_with fail
  refine (iRead_any c _ (hGh.out.below hB.out)).mono ?_
  rintro e w4 ⟨rfl, hb⟩
  replace hB := hide (Below.up hB.out hb)
  replace hD := hide (Below.up hD.out hb)
  replace hres := hide (blk_below hres.out hb)
  clear hb z2
  have z1 := keepc hD.out hbl y1.out
  have j0 : (w4.alloc (.cells #[.int .i64 (rdNum a.data.toList), .string b, .int .i64 (rdNum c.data.toList)] 90)).cell? ⟨w4.heap.size, 0, none⟩ = some (.int .i64 (rdNum a.data.toList)) := by rw [cell_of_row _ _ _ _ _ _ (heap_alloc_new w4 _)]; rfl
  have j1 : (w4.alloc (.cells #[.int .i64 (rdNum a.data.toList), .string b, .int .i64 (rdNum c.data.toList)] 90)).cell? ⟨w4.heap.size, 1, none⟩ = some (.string b) := by rw [cell_of_row _ _ _ _ _ _ (heap_alloc_new w4 _)]; rfl
  have j2 : (w4.alloc (.cells #[.int .i64 (rdNum a.data.toList), .string b, .int .i64 (rdNum c.data.toList)] 90)).cell? ⟨w4.heap.size, 2, none⟩ = some (.int .i64 (rdNum c.data.toList)) := by rw [cell_of_row _ _ _ _ _ _ (heap_alloc_new w4 _)]; rfl
  have hlt4 : w.heap.size < w4.heap.size := blk_lt hres.out
  have hj : w4.heap.size < (w4.alloc (.cells #[.int .i64 (rdNum a.data.toList), .string b, .int .i64 (rdNum c.data.toList)] 90)).heap.size := by simp
  replace hres := hide (blk_below hres.out ((Below.refl w4.heap.size w4).alloc (Nat.le_refl _) (.cells #[.int .i64 (rdNum a.data.toList), .string b, .int .i64 (rdNum c.data.toList)] 90)))
  replace hB := hide (hB.out.alloc hB.out.size (.cells #[.int .i64 (rdNum a.data.toList), .string b, .int .i64 (rdNum c.data.toList)] 90))
  have hlt0 : w.heap.size < (w4.alloc (.cells #[.int .i64 (rdNum a.data.toList), .string b, .int .i64 (rdNum c.data.toList)] 90)).heap.size := blk_lt hres.out
  have hne0 : w.heap.size ≠ w4.heap.size := by omega
  go_wp2_with fail
  clear z1
  obtain ⟨h, hh⟩ : ∃ h, h = w4.heap.size := ⟨_, rfl⟩
  obtain ⟨W5, hW5⟩ : ∃ W5, W5 = w4.alloc (.cells #[.int .i64 (rdNum a.data.toList), .string b, .int .i64 (rdNum c.data.toList)] 90) := ⟨_, rfl⟩
  rw [← hW5] at j0 j1 j2 hB hj hres hlt0 ⊢
  rw [← hh] at j0 j1 j2 hj hne0 ⊢
  clear hW5 hh hlt4
  have f0 : W5.cell? ⟨w.heap.size, 0, none⟩ = some (.int .i64 0) := by rw [cell_of_row _ _ _ _ _ _ hres.out]; rfl
  have f1 : W5.cell? ⟨w.heap.size, 1, none⟩ = some (.string ⟨#[]⟩) := by rw [cell_of_row _ _ _ _ _ _ hres.out]; rfl
  have f2 : W5.cell? ⟨w.heap.size, 2, none⟩ = some (.int .i64 0) := by rw [cell_of_row _ _ _ _ _ _ hres.out]; rfl
  have ff : ∀ o, W5.frozen? ⟨w.heap.size, o, none⟩ = false := fun o => frozen_of_row W5 _ _ _ _ hres.out
  have hne1 : h ≠ w.heap.size := by omega
  go_region
  all_goals go_wp2
  all_goals exact bodyPost_ret (v := .tuple #[.agg #[.int .i64 (rdNum a.data.toList), .string b, .int .i64 (rdNum c.data.toList)], .bool false]) (by simp [results, Tryz.results58, go_sem, f0, f1, f2]) rfl ⟨rfl, (((hB.out.drew).setCell (p := ⟨w.heap.size, 0, none⟩) (Nat.le_refl _) _).setCell (p := ⟨w.heap.size, 1, none⟩) (Nat.le_refl _) _).setCell (p := ⟨w.heap.size, 2, none⟩) (Nat.le_refl _) _⟩
set_option maxHeartbeats 1000000 in
theorem iLine_ok (x : ByteArray) (w : World) (hs : x.size ≤ 1000000) (a b c d : ByteArray) (hL : [a, b, c, d] = words 32 x) (hG : Gl w) (hbz : b.size ≤ maxLen) (k1 : rdOk a.data.toList = true) (k2 : rdOk c.data.toList = true) :
    Calls Tryz.prog 58 #[.string x] w (RL (⟨rdNum a.data.toList, b, rdNum c.data.toList⟩ : Entry) (⟨rdNum a.data.toList, b, rdNum c.data.toList⟩ : Entry).ok w) := by
  have hsp : ∀ W : World, Gl W → Hid (Calls Tryz.prog 70 #[.string x, .string ⟨#[32]⟩] W fun e w' => ∃ v, e = .returned v ∧ Own strc 9 1 w' W.heap.size v [a, b, c, d].length [a, b, c, d] ∧ Below W.heap.size W w') := fun W hg => hide (by rw [hL]; exact iSplit_any 32 x W (by omega) hg)
  have hLh := hide hL
  have hSP := hide hsp
  have hGh := hide hG
  clear hL hsp hG
  have hB := hide ((Below.refl w.heap.size w).alloc (Nat.le_refl _) (.cells #[.int .i64 0, .string ⟨#[]⟩, .int .i64 0] 90))
  go_enter Tryz.func58, Tryz.ntmps58
  go_wp2_with fail
  have hres := hide (heap_alloc_new w (.cells #[.int .i64 0, .string ⟨#[]⟩, .int .i64 0] 90))
  obtain ⟨W1, hW1⟩ : ∃ W1, W1 = w.alloc (.cells #[.int .i64 0, .string ⟨#[]⟩, .int .i64 0] 90) := ⟨_, rfl⟩
  rw [← hW1] at hB hres ⊢
  clear hW1
  refine (hSP.out _ (hGh.out.below hB.out)).out.mono ?_
  rintro e w2 ⟨v2, rfl, ho2, hb⟩
  have hO2 := hide ho2
  replace hB := hide (Below.up hB.out hb)
  replace hres := hide (blk_below hres.out hb)
  clear hb ho2
  obtain ⟨Aw, cw, rfl, _⟩ := hO2.out.slice
  have hR := hO2.out.arr strc_len
  obtain ⟨bw, ow, x0, rfl, hbl, hx0, z0⟩ := hR.str (k := 0) (by show 0 < 4; omega)
  obtain ⟨_, _, x1, hA1, _, hx1, z1⟩ := hR.str (k := 1) (by show 1 < 4; omega)
  cases hA1
  obtain ⟨_, _, x2, hA2, _, hx2, z2⟩ := hR.str (k := 2) (by show 2 < 4; omega)
  cases hA2
  obtain rfl : a = x0 := by simpa using hx0
  obtain rfl : b = x1 := by simpa using hx1
  obtain rfl : c = x2 := by simpa using hx2
  clear hx0 hx1 hx2 hR hO2
  rw [Nat.add_zero] at z0
  have y1 := hide z1
  have y2 := hide z2
  have hD := hide (Below.refl w2.heap.size w2)
  clear z1 z2
  go_wp2_with fail
  refine (iRead_any a _ (hGh.out.below hB.out)).mono ?_
  rintro e w3 ⟨rfl, hb⟩
  replace hB := hide (Below.up hB.out hb)
  replace hD := hide (Below.up hD.out hb)
  replace hres := hide (blk_below hres.out hb)
  clear hb z0
  have z2 := keepc hD.out hbl y2.out
  go_wp2_with fail
  refine (iRead_any c _ (hGh.out.below hB.out)).mono ?_
  rintro e w4 ⟨rfl, hb⟩
  replace hB := hide (Below.up hB.out hb)
  replace hD := hide (Below.up hD.out hb)
  replace hres := hide (blk_below hres.out hb)
  clear hb z2
  have z1 := keepc hD.out hbl y1.out
  have j0 : (w4.alloc (.cells #[.int .i64 (rdNum a.data.toList), .string b, .int .i64 (rdNum c.data.toList)] 90)).cell? ⟨w4.heap.size, 0, none⟩ = some (.int .i64 (rdNum a.data.toList)) := by rw [cell_of_row _ _ _ _ _ _ (heap_alloc_new w4 _)]; rfl
  have j1 : (w4.alloc (.cells #[.int .i64 (rdNum a.data.toList), .string b, .int .i64 (rdNum c.data.toList)] 90)).cell? ⟨w4.heap.size, 1, none⟩ = some (.string b) := by rw [cell_of_row _ _ _ _ _ _ (heap_alloc_new w4 _)]; rfl
  have j2 : (w4.alloc (.cells #[.int .i64 (rdNum a.data.toList), .string b, .int .i64 (rdNum c.data.toList)] 90)).cell? ⟨w4.heap.size, 2, none⟩ = some (.int .i64 (rdNum c.data.toList)) := by rw [cell_of_row _ _ _ _ _ _ (heap_alloc_new w4 _)]; rfl
  have hlt4 : w.heap.size < w4.heap.size := blk_lt hres.out
  have hj : w4.heap.size < (w4.alloc (.cells #[.int .i64 (rdNum a.data.toList), .string b, .int .i64 (rdNum c.data.toList)] 90)).heap.size := by simp
  replace hres := hide (blk_below hres.out ((Below.refl w4.heap.size w4).alloc (Nat.le_refl _) (.cells #[.int .i64 (rdNum a.data.toList), .string b, .int .i64 (rdNum c.data.toList)] 90)))
  replace hB := hide (hB.out.alloc hB.out.size (.cells #[.int .i64 (rdNum a.data.toList), .string b, .int .i64 (rdNum c.data.toList)] 90))
  have hlt0 : w.heap.size < (w4.alloc (.cells #[.int .i64 (rdNum a.data.toList), .string b, .int .i64 (rdNum c.data.toList)] 90)).heap.size := blk_lt hres.out
  have hne0 : w.heap.size ≠ w4.heap.size := by omega
  go_wp2_with fail
  clear z1
  obtain ⟨h, hh⟩ : ∃ h, h = w4.heap.size := ⟨_, rfl⟩
  obtain ⟨W5, hW5⟩ : ∃ W5, W5 = w4.alloc (.cells #[.int .i64 (rdNum a.data.toList), .string b, .int .i64 (rdNum c.data.toList)] 90) := ⟨_, rfl⟩
  rw [← hW5] at j0 j1 j2 hB hj hres hlt0 ⊢
  rw [← hh] at j0 j1 j2 hj hne0 ⊢
  clear hW5 hh hlt4
  have f0 : W5.cell? ⟨w.heap.size, 0, none⟩ = some (.int .i64 0) := by rw [cell_of_row _ _ _ _ _ _ hres.out]; rfl
  have f1 : W5.cell? ⟨w.heap.size, 1, none⟩ = some (.string ⟨#[]⟩) := by rw [cell_of_row _ _ _ _ _ _ hres.out]; rfl
  have f2 : W5.cell? ⟨w.heap.size, 2, none⟩ = some (.int .i64 0) := by rw [cell_of_row _ _ _ _ _ _ hres.out]; rfl
  have ff : ∀ o, W5.frozen? ⟨w.heap.size, o, none⟩ = false := fun o => frozen_of_row W5 _ _ _ _ hres.out
  have hne1 : h ≠ w.heap.size := by omega
  have q0 := hide f0
  have q1 := hide f1
  have q2 := hide f2
  have i0 := hide j0
  have i1 := hide j1
  have i2 := hide j2
  go_region_with ((go_at_call 72; refine (iEntry_any (⟨rdNum a.data.toList, b, rdNum c.data.toList⟩ : Entry) _ hbz).mono ?_; rintro e w6 ⟨rfl, hb⟩; have hU := Below.up (below_drewN (Below.refl W5.heap.size W5) _) hb; have hE := hide (Below.up hB.out hU); have f0 := keepc hU hlt0 q0.out; have f1 := keepc hU hlt0 q1.out; have f2 := keepc hU hlt0 q2.out; have ff : ∀ o, w6.frozen? ⟨w.heap.size, o, none⟩ = false := (fun o => frozen_of_row w6 _ _ _ _ (blk_below hres.out hU)); have j0 := keepc hU hj i0.out; have j1 := keepc hU hj i1.out; have j2 := keepc hU hj i2.out; clear hb hU))
  all_goals go_wp2
  all_goals exact bodyPost_ret (v := .tuple #[.agg #[.int .i64 (rdNum a.data.toList), .string b, .int .i64 (rdNum c.data.toList)], .bool (⟨rdNum a.data.toList, b, rdNum c.data.toList⟩ : Entry).ok]) (by simp [results, Tryz.results58, go_sem, f0, f1, f2]) rfl ⟨rfl, (((hE.out).setCell (p := ⟨w.heap.size, 0, none⟩) (Nat.le_refl _) _).setCell (p := ⟨w.heap.size, 1, none⟩) (Nat.le_refl _) _).setCell (p := ⟨w.heap.size, 2, none⟩) (Nat.le_refl _) _⟩
theorem iLineM_any (x : ByteArray) (w : World) (hs : x.size ≤ 1000000) (hG : Gl w) :
    Calls Tryz.prog 58 #[.string x] w (RL (rlEnt x) (rlOk x) w) := by
  by_cases h4 : (words 32 x).length ≠ 4
  · obtain ⟨e1, e2⟩ := rl_not4 h4
    rw [e1, e2]
    exact iLine_not4 x w hs _ rfl h4 hG
  obtain ⟨a, b, c, d, hw⟩ : ∃ a b c d, words 32 x = [a, b, c, d] := by
    match hww : words 32 x, h4 with
    | [a, b, c, d], _ => exact ⟨a, b, c, d, rfl⟩
    | [], h4 => exact absurd (by decide) h4
    | [_], h4 => exact absurd (by simp) h4
    | [_, _], h4 => exact absurd (by simp) h4
    | [_, _, _], h4 => exact absurd (by simp) h4
    | _ :: _ :: _ :: _ :: _ :: _, h4 => exact absurd (by simp) h4
  obtain ⟨e1, e2⟩ := rl_four hw
  have hbz : b.size ≤ maxLen := by
    have := words_size 32 x (show b ∈ words 32 x by rw [hw]; simp)
    unfold maxLen; omega
  rw [e1, e2]
  cases k1 : rdOk a.data.toList
  · exact iLine_one x w hs a b c d hw.symm hG k1
  cases k2 : rdOk c.data.toList
  · exact iLine_two x w hs a b c d hw.symm hG k1 k2
  exact iLine_ok x w hs a b c d hw.symm hG hbz k1 k2
end Go.Proofs.YtceajnoppdfeaaaGreatDoor
