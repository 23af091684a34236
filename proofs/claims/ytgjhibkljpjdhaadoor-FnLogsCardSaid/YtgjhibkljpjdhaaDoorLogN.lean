/- Contracts: an entry added to a log. -/
import Derived.Test.YtgjhibkljpjdhaaDoorLogK
namespace Go.Proofs.YtgjhibkljpjdhaaDoor
open Go.ChangeShapes Go.WideShapes Go.ChangeAt Go.RowKit Go.Deep
set_option maxRecDepth 100000
def addB (s : ByteArray) (x : Entry) : ByteArray := s ++ lineB (stampB (lastSt s) (entB x)) x
def mAdd (s : ByteArray) (x : Entry) : ByteArray × Int :=
  if lcode s ≠ 0 then (⟨#[]⟩, lcode s) else if x.ok = false then (⟨#[]⟩, 7) else if x.fDay < lastDay (ents s) then (⟨#[]⟩, 6) else if 4000 < (addB s x).size then (⟨#[]⟩, 5) else (addB s x, 0)
theorem add_code {s : ByteArray} {x : Entry} (h : ¬ lcode s = 0) : mAdd s x = (⟨#[]⟩, lcode s) := by unfold mAdd; rw [if_pos h]
theorem add_bad {s : ByteArray} {x : Entry} (h : lcode s = 0) (hk : x.ok = false) : mAdd s x = (⟨#[]⟩, 7) := by unfold mAdd; rw [if_neg (by simp [h]), if_pos hk]
theorem add_late {s : ByteArray} {x : Entry} (h : lcode s = 0) (hk : x.ok = true) (hd : x.fDay < lastDay (ents s)) : mAdd s x = (⟨#[]⟩, 6) := by unfold mAdd; rw [if_neg (by simp [h]), if_neg (by simp [hk]), if_pos hd]
theorem add_full {s : ByteArray} {x : Entry} (h : lcode s = 0) (hk : x.ok = true) (hd : ¬ x.fDay < lastDay (ents s)) (hf : 4000 < (addB s x).size) : mAdd s x = (⟨#[]⟩, 5) := by unfold mAdd; rw [if_neg (by simp [h]), if_neg (by simp [hk]), if_neg hd, if_pos hf]
theorem add_good {s : ByteArray} {x : Entry} (h : lcode s = 0) (hk : x.ok = true) (hd : ¬ x.fDay < lastDay (ents s)) (hf : ¬ 4000 < (addB s x).size) : mAdd s x = (addB s x, 0) := by unfold mAdd; rw [if_neg (by simp [h]), if_neg (by simp [hk]), if_neg hd, if_neg hf]
set_option maxHeartbeats 1000000 in
theorem iAdd_any (s : ByteArray) (x : Entry) (w : World) (hx : x.fits) (hG : Gl w) :
    Calls Tryd.prog 14 #[.string s, .agg #[.int .i64 x.fDay, .string x.fWhat, .int .i64 x.fValue]] w fun e w' => e = .returned (.tuple #[.string (mAdd s x).1, .int .i64 (mAdd s x).2]) ∧ Below w.heap.size w w' := by
  have hGh := hide hG
  clear hG
  have k0 : (w.alloc (.cells #[.int .i64 x.fDay, .string x.fWhat, .int .i64 x.fValue] 38)).cell? ⟨w.heap.size, 0, none⟩ = some (.int .i64 x.fDay) := by rw [cell_of_row _ _ _ _ _ _ (heap_alloc_new w _)]; rfl
  have k1 : (w.alloc (.cells #[.int .i64 x.fDay, .string x.fWhat, .int .i64 x.fValue] 38)).cell? ⟨w.heap.size, 1, none⟩ = some (.string x.fWhat) := by rw [cell_of_row _ _ _ _ _ _ (heap_alloc_new w _)]; rfl
  have k2 : (w.alloc (.cells #[.int .i64 x.fDay, .string x.fWhat, .int .i64 x.fValue] 38)).cell? ⟨w.heap.size, 2, none⟩ = some (.int .i64 x.fValue) := by rw [cell_of_row _ _ _ _ _ _ (heap_alloc_new w _)]; rfl
  have hB := hide ((Below.refl w.heap.size w).alloc (Nat.le_refl _) (.cells #[.int .i64 x.fDay, .string x.fWhat, .int .i64 x.fValue] 38))
  have hz : w.heap.size < (w.alloc (.cells #[.int .i64 x.fDay, .string x.fWhat, .int .i64 x.fValue] 38)).heap.size := by simp
  have hc := hide (iCode_any s _ (hGh.out.below hB.out))
  have q0 := hide k0
  have q1 := hide k1
  have q2 := hide k2
  clear k0 k1 k2
  by_cases h : lcode s = 0
  case neg =>
    have hm := hide (add_code (x := x) h)
    have e1 : (lcode s != 0) = true := bne_iff_ne.2 h
    clear h
    go_enter Tryd.func14, Tryd.ntmps14
    go_wp2_with fail
    refine hc.out.mono ?_
    rintro e w1 ⟨rfl, hb⟩
    replace hB := hide (Below.up hB.out hb)
    clear hb
    go_wp2
    go_ret2
    exact ⟨by rw [hm.out]; rfl, hB.out⟩
  have hsz := lcode_small h
  have hlen := ents_len h
  rw [h] at hc
  cases hk : x.ok
  case false =>
    have hm := hide (add_bad h hk)
    clear h
    go_enter Tryd.func14, Tryd.ntmps14
    go_wp2_with fail
    refine hc.out.mono ?_
    rintro e w1 ⟨rfl, hb⟩
    have hD := hide hb
    replace hB := hide (Below.up hB.out hb)
    clear hb
    go_wp2_with fail
    refine (iRead_log s _ hsz (hGh.out.below hB.out)).mono ?_
    rintro e w2 ⟨vE, rfl, hoE, hb⟩
    have hE := hide (hoE.less hB.out.size)
    replace hB := hide (Below.up hB.out hb)
    replace hD := hide (Below.up hD.out hb)
    obtain ⟨AE, cE, rfl, _⟩ := hoE.slice
    clear hb hoE
    have k0 := keepc hD.out hz q0.out
    have k1 := keepc hD.out hz q1.out
    have k2 := keepc hD.out hz q2.out
    go_wp2_with fail
    refine (iEntry_any x _ hx).mono ?_
    rintro e w3 ⟨rfl, hb⟩
    replace hE := hide (hE.out.below hb)
    replace hB := hide (Below.up hB.out hb)
    replace hD := hide (Below.up hD.out hb)
    clear hb k0 k1 k2
    go_wp2
    go_ret2
    exact ⟨by rw [hm.out]; rfl, hB.out⟩
  obtain ⟨⟨b1, b2⟩, _, b3, b4⟩ := Entry.ok_iff.1 hk
  obtain ⟨_, _, _, t0, t1⟩ := log_props s
  by_cases hdd : x.fDay < lastDay (ents s)
  case pos =>
    have hm := hide (add_late h hk hdd)
    clear h
    go_enter Tryd.func14, Tryd.ntmps14
    go_wp2_with fail
    refine hc.out.mono ?_
    rintro e w1 ⟨rfl, hb⟩
    have hD := hide hb
    replace hB := hide (Below.up hB.out hb)
    clear hb
    go_wp2_with fail
    refine (iRead_log s _ hsz (hGh.out.below hB.out)).mono ?_
    rintro e w2 ⟨vE, rfl, hoE, hb⟩
    have hE := hide (hoE.less hB.out.size)
    replace hB := hide (Below.up hB.out hb)
    replace hD := hide (Below.up hD.out hb)
    obtain ⟨AE, cE, rfl, _⟩ := hoE.slice
    clear hb hoE
    have k0 := keepc hD.out hz q0.out
    have k1 := keepc hD.out hz q1.out
    have k2 := keepc hD.out hz q2.out
    go_wp2_with fail
    refine (iEntry_any x _ hx).mono ?_
    rintro e w3 ⟨rfl, hb⟩
    replace hE := hide (hE.out.below hb)
    replace hB := hide (Below.up hB.out hb)
    replace hD := hide (Below.up hD.out hb)
    clear hb k0 k1 k2
    unfold ents at hlen hdd
    obtain ⟨L, hL⟩ : ∃ L, L = (rdLog s).1 := ⟨_, rfl⟩
    rw [← hL] at hE hlen hdd ⊢
    obtain ⟨n, hn⟩ : ∃ n, n = L.length := ⟨_, rfl⟩
    rw [← hn] at hE hlen ⊢
    have hLh := hide hL
    have hnh := hide hn
    clear hL hn
    have k0 := keepc hD.out hz q0.out
    have k1 := keepc hD.out hz q1.out
    have k2 := keepc hD.out hz q2.out
    rcases Nat.eq_zero_or_pos n with hn0 | hn0
    · subst hn0
      have hz0 : lastDay L = 0 := by rw [List.eq_nil_of_length_eq_zero hnh.out.symm]; rfl
      exfalso; omega
    · obtain ⟨bb, o, y, rfl, _, hy, d0, d1, d2⟩ := (hE.out.arr Entry.len).Entry (k := n - 1) (by omega)
      have hld := hide (lastDay_at hy (by rw [← hnh.out]; omega))
      rw [hld.out] at hdd
      have g0 : decide ((0 : Int) < (n : Int)) = true := decide_eq_true (by omega)
      have hi0 : (0 : Int) ≤ (n : Int) - 1 := by omega
      have hi1 : (n : Int) - 1 < (n : Int) := by omega
      have hw : IntKind.i64.wrap ((n : Int) - 1) = (n : Int) - 1 := IntWalk.i64_in _ (by omega)
      have hi2 : ((n : Int) - 1).toNat = n - 1 := by omega
      have hi3 : (1 : Int) ≤ (n : Int) := by omega
      have hdd2 : decide (x.fDay < y.fDay) = true := decide_eq_true hdd
      clear hy
      go_wp2_with fail
      go_quiet (fail)
      clear hw hi2
      go_wp2
      go_ret2
      exact ⟨by rw [hm.out]; rfl, below_drewN hB.out _⟩
  by_cases hf : 4000 < (addB s x).size
  case pos =>
    have hm := hide (add_full h hk hdd hf)
    have hkk := hk
    obtain ⟨r1, r2⟩ := stampB_range (lastSt s) (entB x)
    have hls := lineB_size r1 r2 hk
    have j1 := cat_run s (lineB (stampB (lastSt s) (entB x)) x) (by omega)
    unfold addB at hf hm
    rw [ByteArray.size_append] at hf
    have hf1 : ((4000 : Int) < (s.size : Int) + ((lineB (stampB (lastSt s) (entB x)) x).size : Int)) := by omega
    have hf2 : ((4000 : Int) < ((s ++ lineB (stampB (lastSt s) (entB x)) x).size : Int)) := by rw [ByteArray.size_append]; omega
    clear h hk hls hf
    go_enter Tryd.func14, Tryd.ntmps14
    go_wp2_with fail
    refine hc.out.mono ?_
    rintro e w1 ⟨rfl, hb⟩
    have hD := hide hb
    replace hB := hide (Below.up hB.out hb)
    clear hb
    go_wp2_with fail
    refine (iRead_log s _ hsz (hGh.out.below hB.out)).mono ?_
    rintro e w2 ⟨vE, rfl, hoE, hb⟩
    have hE := hide (hoE.less hB.out.size)
    replace hB := hide (Below.up hB.out hb)
    replace hD := hide (Below.up hD.out hb)
    obtain ⟨AE, cE, rfl, _⟩ := hoE.slice
    clear hb hoE
    have k0 := keepc hD.out hz q0.out
    have k1 := keepc hD.out hz q1.out
    have k2 := keepc hD.out hz q2.out
    go_wp2_with fail
    refine (iEntry_any x _ hx).mono ?_
    rintro e w3 ⟨rfl, hb⟩
    replace hE := hide (hE.out.below hb)
    replace hB := hide (Below.up hB.out hb)
    replace hD := hide (Below.up hD.out hb)
    clear hb k0 k1 k2
    unfold ents at hlen hdd
    obtain ⟨L, hL⟩ : ∃ L, L = (rdLog s).1 := ⟨_, rfl⟩
    rw [← hL] at hE hlen hdd ⊢
    obtain ⟨n, hn⟩ : ∃ n, n = L.length := ⟨_, rfl⟩
    rw [← hn] at hE hlen ⊢
    have hLh := hide hL
    have hnh := hide hn
    clear hL hn
    have k0 := keepc hD.out hz q0.out
    have k1 := keepc hD.out hz q1.out
    have k2 := keepc hD.out hz q2.out
    rcases Nat.eq_zero_or_pos n with hn0 | hn0
    · subst hn0
      have hz0 : lastDay L = 0 := by rw [List.eq_nil_of_length_eq_zero hnh.out.symm]; rfl
      clear hz0
      go_wp2_with fail
      go_quiet (fail)
      have hkh := hide hkk
      go_wp2_with fail
      refine (iLine_any (lastSt s) x _ t0 t1 hkh.out (by exact hGh.out.below (below_drewN hB.out _))).mono ?_
      rintro e w4 ⟨rfl, hb⟩
      have hB4 := hide (Below.up (below_drewN hB.out _) hb)
      clear hb
      go_wp2
      go_ret2
      exact ⟨by rw [hm.out]; rfl, hB4.out⟩
    · obtain ⟨bb, o, y, rfl, _, hy, d0, d1, d2⟩ := (hE.out.arr Entry.len).Entry (k := n - 1) (by omega)
      have hld := hide (lastDay_at hy (by rw [← hnh.out]; omega))
      rw [hld.out] at hdd
      have g0 : decide ((0 : Int) < (n : Int)) = true := decide_eq_true (by omega)
      have hi0 : (0 : Int) ≤ (n : Int) - 1 := by omega
      have hi1 : (n : Int) - 1 < (n : Int) := by omega
      have hw : IntKind.i64.wrap ((n : Int) - 1) = (n : Int) - 1 := IntWalk.i64_in _ (by omega)
      have hi2 : ((n : Int) - 1).toNat = n - 1 := by omega
      have hi3 : (1 : Int) ≤ (n : Int) := by omega
      have hdd2 : decide (x.fDay < y.fDay) = false := decide_eq_false (by omega)
      clear hy
      go_wp2_with fail
      go_quiet (fail)
      clear hw hi2
      have hkh := hide hkk
      go_wp2_with fail
      refine (iLine_any (lastSt s) x _ t0 t1 hkh.out (by exact hGh.out.below (below_drewN hB.out _))).mono ?_
      rintro e w4 ⟨rfl, hb⟩
      have hB4 := hide (Below.up (below_drewN hB.out _) hb)
      clear hb
      go_wp2
      go_ret2
      exact ⟨by rw [hm.out]; rfl, hB4.out⟩
  case neg =>
    have hm := hide (add_good h hk hdd hf)
    have hkk := hk
    obtain ⟨r1, r2⟩ := stampB_range (lastSt s) (entB x)
    have hls := lineB_size r1 r2 hk
    have j1 := cat_run s (lineB (stampB (lastSt s) (entB x)) x) (by omega)
    unfold addB at hf hm
    rw [ByteArray.size_append] at hf
    have hf1 : ¬ ((4000 : Int) < (s.size : Int) + ((lineB (stampB (lastSt s) (entB x)) x).size : Int)) := by omega
    have hf2 : ¬ ((4000 : Int) < ((s ++ lineB (stampB (lastSt s) (entB x)) x).size : Int)) := by rw [ByteArray.size_append]; omega
    clear h hk hls hf
    go_enter Tryd.func14, Tryd.ntmps14
    go_wp2_with fail
    refine hc.out.mono ?_
    rintro e w1 ⟨rfl, hb⟩
    have hD := hide hb
    replace hB := hide (Below.up hB.out hb)
    clear hb
    go_wp2_with fail
    refine (iRead_log s _ hsz (hGh.out.below hB.out)).mono ?_
    rintro e w2 ⟨vE, rfl, hoE, hb⟩
    have hE := hide (hoE.less hB.out.size)
    replace hB := hide (Below.up hB.out hb)
    replace hD := hide (Below.up hD.out hb)
    obtain ⟨AE, cE, rfl, _⟩ := hoE.slice
    clear hb hoE
    have k0 := keepc hD.out hz q0.out
    have k1 := keepc hD.out hz q1.out
    have k2 := keepc hD.out hz q2.out
    go_wp2_with fail
    refine (iEntry_any x _ hx).mono ?_
    rintro e w3 ⟨rfl, hb⟩
    replace hE := hide (hE.out.below hb)
    replace hB := hide (Below.up hB.out hb)
    replace hD := hide (Below.up hD.out hb)
    clear hb k0 k1 k2
    unfold ents at hlen hdd
    obtain ⟨L, hL⟩ : ∃ L, L = (rdLog s).1 := ⟨_, rfl⟩
    rw [← hL] at hE hlen hdd ⊢
    obtain ⟨n, hn⟩ : ∃ n, n = L.length := ⟨_, rfl⟩
    rw [← hn] at hE hlen ⊢
    have hLh := hide hL
    have hnh := hide hn
    clear hL hn
    have k0 := keepc hD.out hz q0.out
    have k1 := keepc hD.out hz q1.out
    have k2 := keepc hD.out hz q2.out
    rcases Nat.eq_zero_or_pos n with hn0 | hn0
    · subst hn0
      have hz0 : lastDay L = 0 := by rw [List.eq_nil_of_length_eq_zero hnh.out.symm]; rfl
      clear hz0
      go_wp2_with fail
      go_quiet (fail)
      have hkh := hide hkk
      go_wp2_with fail
      refine (iLine_any (lastSt s) x _ t0 t1 hkh.out (by exact hGh.out.below (below_drewN hB.out _))).mono ?_
      rintro e w4 ⟨rfl, hb⟩
      have hB4 := hide (Below.up (below_drewN hB.out _) hb)
      clear hb
      go_wp2
      go_ret2
      exact ⟨by rw [hm.out]; rfl, hB4.out⟩
    · obtain ⟨bb, o, y, rfl, _, hy, d0, d1, d2⟩ := (hE.out.arr Entry.len).Entry (k := n - 1) (by omega)
      have hld := hide (lastDay_at hy (by rw [← hnh.out]; omega))
      rw [hld.out] at hdd
      have g0 : decide ((0 : Int) < (n : Int)) = true := decide_eq_true (by omega)
      have hi0 : (0 : Int) ≤ (n : Int) - 1 := by omega
      have hi1 : (n : Int) - 1 < (n : Int) := by omega
      have hw : IntKind.i64.wrap ((n : Int) - 1) = (n : Int) - 1 := IntWalk.i64_in _ (by omega)
      have hi2 : ((n : Int) - 1).toNat = n - 1 := by omega
      have hi3 : (1 : Int) ≤ (n : Int) := by omega
      have hdd2 : decide (x.fDay < y.fDay) = false := decide_eq_false (by omega)
      clear hy
      go_wp2_with fail
      go_quiet (fail)
      clear hw hi2
      have hkh := hide hkk
      go_wp2_with fail
      refine (iLine_any (lastSt s) x _ t0 t1 hkh.out (by exact hGh.out.below (below_drewN hB.out _))).mono ?_
      rintro e w4 ⟨rfl, hb⟩
      have hB4 := hide (Below.up (below_drewN hB.out _) hb)
      clear hb
      go_wp2
      go_ret2
      exact ⟨by rw [hm.out]; rfl, hB4.out⟩
end Go.Proofs.YtgjhibkljpjdhaaDoor
