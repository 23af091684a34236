/- The program's LogOf. No statement is proved here. -/
import Derived.Test.YtgjhibkljpjdhaaDoorLgB
namespace Go.Proofs.YtgjhibkljpjdhaaDoor
open Go.ChangeShapes Go.WideShapes Go.ChangeAt Go.RowKit Go.Deep
set_option maxRecDepth 100000
set_option maxHeartbeats 1000000 in
theorem iLogBad (A : Option Addr) (n c : Nat) (l : List Entry) (w : World) (hn : n ≤ 1048576) (hq : ∀ x ∈ l, x.fits) (hr0 : Arr Entry.cells 3 w w.heap.size A n l) (hbad : allOk l = false) :
    Calls Tryd.prog 12 #[.slice A n c] w fun e w' => e = .returned (.tuple #[.string (mLog l).1, .int .i64 (mLog l).2]) ∧ Below w.heap.size w w' := by
  have hm := hide (mLog_bad hbad)
  have hL := hide hr0.len
  have hr := hide hr0
  have hQ := hide hq
  have hBad := hide hbad
  clear hr0 hq hbad
  go_enter Tryd.func12, Tryd.ntmps12
  go_wp2
  go_loopw [12] (fun i wr => ∃ k : Nat, k ≤ n ∧ i = .int .i64 k ∧ Below w.heap.size w wr ∧ Hid (∀ j x, j < k → l[j]? = some x → x.ok = true)) (fun i _ => n - (intOf i).toNat)
  case atStart => exact ⟨0, Nat.zero_le _, rfl, Below.refl _ _, hide fun j x h => by omega⟩
  case round =>
    obtain ⟨k, hk, rfl, hb, hI⟩ := hrel
    by_cases hlt : k < n
    · obtain ⟨b, o, x, hA, hbl, hx, d0, d1, d2⟩ := (hr.out.go hb).Entry hlt
      subst hA
      have hX := hide hx
      have hxf := hQ.out x (List.mem_of_getElem? hx)
      have hB := hide (hb.alloc hb.size (.cells #[.int .i64 x.fDay, .string x.fWhat, .int .i64 x.fValue] 38))
      clear hb hx
      cases hok : x.ok
      · go_wp2_with (first | (go_at_call 28; refine (iEntry_any x _ hxf).mono ?_; rintro e w2 ⟨rfl, hb⟩; replace hB := hide (Below.up hB.out hb); clear hb) | fail)
        go_ret2
        exact ⟨by rw [hm.out]; rfl, hB.out⟩
      · have hI2 : Hid (∀ j x, j < k + 1 → l[j]? = some x → x.ok = true) := hide fun j y h hy => by
          by_cases he : j = k
          · subst he; rw [hX.out] at hy; cases hy; exact hok
          · exact hI.out j y (by omega) hy
        go_wp2_with (first | (go_at_call 28; refine (iEntry_any x _ hxf).mono ?_; rintro e w2 ⟨rfl, hb⟩; replace hB := hide (Below.up hB.out hb); clear hb) | fail)
        go_roundw
        case rel => exact ⟨k + 1, by omega, by go_num, hB.out, hI2⟩
        case measure => simp [intOf]; omega
    · exfalso
      have := hBad.out
      unfold allOk at this
      rw [all_of_parts fun i x h => hI.out i x (by have := lt_of_get h; have := hL.out; omega) h] at this
      cases this
set_option maxHeartbeats 2000000 in
theorem iLogOk (A : Option Addr) (n c : Nat) (l : List Entry) (w : World) (hG : Gl w) (hn : n ≤ 1048576) (hq : ∀ x ∈ l, x.fits) (hr0 : Arr Entry.cells 3 w w.heap.size A n l) (hall : allOk l = true) :
    Calls Tryd.prog 12 #[.slice A n c] w fun e w' => e = .returned (.tuple #[.string (mLog l).1, .int .i64 (mLog l).2]) ∧ Below w.heap.size w w' := by
  have hGh := hide hG
  have hM1 := hide (fun h => mLog_late hall h)
  have hM2 := hide (fun h h' => mLog_full hall h h')
  have hM3 := hide (fun h h' => mLog_good hall h h')
  have hL := hide hr0.len
  have hr := hide hr0
  have hOK := hide (allOk_all hall)
  have hQ := hide hq
  have hMO := hide (lgOf_mono l)
  clear hr0 hq hall hG
  go_enter Tryd.func12, Tryd.ntmps12
  go_wp2
  go_loopw [12] (fun i wr => ∃ k : Nat, k ≤ n ∧ i = .int .i64 k ∧ Below w.heap.size w wr) (fun i _ => n - (intOf i).toNat)
  case atStart => exact ⟨0, Nat.zero_le _, rfl, Below.refl _ _⟩
  case round =>
    obtain ⟨k, hk, rfl, hb⟩ := hrel
    by_cases hlt : k < n
    · obtain ⟨b, o, x, hA, hbl, hx, d0, d1, d2⟩ := (hr.out.go hb).Entry hlt
      subst hA
      have hxf := hQ.out x (List.mem_of_getElem? hx)
      have hok := hOK.out x (List.mem_of_getElem? hx)
      have hB := hide (hb.alloc hb.size (.cells #[.int .i64 x.fDay, .string x.fWhat, .int .i64 x.fValue] 38))
      clear hb hx
      go_wp2_with (first | (go_at_call 28; refine (iEntry_any x _ hxf).mono ?_; rintro e w2 ⟨rfl, hb⟩; replace hB := hide (Below.up hB.out hb); clear hb) | fail)
      go_roundw
      case rel => exact ⟨k + 1, by omega, by go_num, hB.out⟩
      case measure => simp [intOf]; omega
    · have hB := hide hb
      clear hb
      go_wp2_with fail
      refine (isSrt_any A n c l _ hn (hr.out.go hB.out) (fun x hx => (Entry.ok_iff.1 (hOK.out x hx)).1)).mono ?_
      rintro e w2 ⟨rfl, hb⟩
      replace hB := hide (Below.up hB.out hb)
      clear hb
      cases hord : inOrd l
      · have hm := hide (hM1.out hord)
        clear hord
        go_wp2
        go_ret2
        exact ⟨by rw [hm.out]; rfl, hB.out⟩
      · have hORD := hide hord
        clear hord
        go_wp2
        go_loopw [6, 7, 25] (fun s z i wr => ∃ k : Nat, k ≤ n ∧ s = .string (lgOf (l.take k)).2 ∧ z = .int .i64 (lgOf (l.take k)).1 ∧ i = .int .i64 k ∧ (lgOf (l.take k)).2.size ≤ 4000 ∧ Below w.heap.size w wr) (fun _ _ i _ => n - (intOf i).toNat)
        case atStart => exact ⟨0, Nat.zero_le _, rfl, rfl, rfl, Nat.zero_le _, hB.out⟩
        case round =>
          clear hB
          obtain ⟨p, hp, rfl, rfl, rfl, hsz, hb⟩ := hrel
          by_cases hlt2 : p < n
          · obtain ⟨b, o, x, hA, hbl, hx, d0, d1, d2⟩ := (hr.out.go hb).Entry hlt2
            subst hA
            have hok := hOK.out x (List.mem_of_getElem? hx)
            have hS := hide (lgOf_snoc hx)
            have hmo := hide (hMO.out (p + 1))
            obtain ⟨t0, t1⟩ := lgOf_range (l.take p)
            obtain ⟨T, hT⟩ : ∃ T, T = lgOf (l.take p) := ⟨_, rfl⟩
            rw [← hT] at hS hsz t0 t1 ⊢
            obtain ⟨Z, S⟩ := T
            simp only at hsz t0 t1 ⊢
            obtain ⟨r1, r2⟩ := stampB_range Z (entB x)
            have hls := lineB_size r1 r2 hok
            have hS1 := hide (congrArg Prod.fst hS.out)
            have hS2 := hide (congrArg Prod.snd hS.out)
            have hLI := hide (fun W hg => hide (iLine_any Z x W t0 t1 hok hg))
            have hST := hide (fun W hg => hide (iStamp_any Z x W t0 t1 hok hg))
            have hB := hide (hb.alloc hb.size (.cells #[.int .i64 x.fDay, .string x.fWhat, .int .i64 x.fValue] 38))
            clear hb hx hT hS r1 r2
            replace hS1 : Hid ((lgOf (l.take (p + 1))).1 = stampB Z (entB x)) := hide (hS1.out.trans rfl)
            replace hS2 : Hid ((lgOf (l.take (p + 1))).2 = S ++ lineB (stampB Z (entB x)) x) := hide (hS2.out.trans rfl)
            obtain ⟨Y, hY⟩ : ∃ Y, Y = stampB Z (entB x) := ⟨_, rfl⟩
            obtain ⟨U, hU⟩ : ∃ U, U = lineB (stampB Z (entB x)) x := ⟨_, rfl⟩
            rw [← hU] at hS2 hLI hls
            rw [← hY] at hS1 hST
            clear hY hU
            have hj := cat_run S U (by omega)
            have k0 : (wr.alloc (.cells #[.int .i64 x.fDay, .string x.fWhat, .int .i64 x.fValue] 38)).cell? ⟨wr.heap.size, 0, none⟩ = some (.int .i64 x.fDay) := by rw [cell_of_row _ _ _ _ _ _ (heap_alloc_new wr _)]; rfl
            have k1 : (wr.alloc (.cells #[.int .i64 x.fDay, .string x.fWhat, .int .i64 x.fValue] 38)).cell? ⟨wr.heap.size, 1, none⟩ = some (.string x.fWhat) := by rw [cell_of_row _ _ _ _ _ _ (heap_alloc_new wr _)]; rfl
            have k2 : (wr.alloc (.cells #[.int .i64 x.fDay, .string x.fWhat, .int .i64 x.fValue] 38)).cell? ⟨wr.heap.size, 2, none⟩ = some (.int .i64 x.fValue) := by rw [cell_of_row _ _ _ _ _ _ (heap_alloc_new wr _)]; rfl
            have hz : wr.heap.size < (wr.alloc (.cells #[.int .i64 x.fDay, .string x.fWhat, .int .i64 x.fValue] 38)).heap.size := by simp
            have hSU : (S ++ U).size = S.size + U.size := ByteArray.size_append
            obtain ⟨V, hV⟩ : ∃ V, V = S ++ U := ⟨_, rfl⟩
            rw [← hV] at hj hS2 hSU
            have hvs : V.size ≤ 3000000 := by omega
            clear hV hSU
            rw [hS2.out] at hmo
            by_cases hf : 4000 < V.size
            · have hm := hide (hM2.out hORD.out (Nat.lt_of_lt_of_le hf hmo.out))
              have hf' : (4000 : Int) < (V.size : Int) := by omega
              clear hf
              go_wp2_with (first | (go_at_call 31; refine (hLI.out _ (hGh.out.below hB.out)).out.mono ?_; rintro e w2 ⟨rfl, hb⟩; have m0 := keepc hb hz k0; have m1 := keepc hb hz k1; have m2 := keepc hb hz k2; replace hB := hide (Below.up hB.out hb); clear hb) | (go_at_call 32; refine (hST.out _ (hGh.out.below hB.out)).out.mono ?_; rintro e w2 ⟨rfl, hb⟩; replace hB := hide (Below.up hB.out hb); clear hb) | fail)
              go_ret2
              exact ⟨by rw [hm.out]; rfl, hB.out⟩
            · have hf' : ¬ (4000 : Int) < (V.size : Int) := by omega
              have hf2 : Hid (V.size ≤ 4000) := hide (by omega)
              clear hf
              go_wp2_with (first | (go_at_call 31; refine (hLI.out _ (hGh.out.below hB.out)).out.mono ?_; rintro e w2 ⟨rfl, hb⟩; have m0 := keepc hb hz k0; have m1 := keepc hb hz k1; have m2 := keepc hb hz k2; replace hB := hide (Below.up hB.out hb); clear hb) | (go_at_call 32; refine (hST.out _ (hGh.out.below hB.out)).out.mono ?_; rintro e w2 ⟨rfl, hb⟩; replace hB := hide (Below.up hB.out hb); clear hb) | fail)
              go_roundw
              case rel => exact ⟨p + 1, by omega, by rw [hS2.out], by rw [hS1.out], by go_num, by rw [hS2.out]; exact hf2.out, hB.out⟩
              case measure => simp [intOf]; omega
          · have hB := hide hb
            have hT : Hid (lgOf (l.take p) = lgOf l) := hide (by rw [List.take_of_length_le (by rw [hL.out]; omega)])
            have hm := hide (hM3.out hORD.out (by rw [← hT.out]; omega))
            clear hb
            go_wp2
            go_ret2
            exact ⟨by rw [hm.out, hT.out]; rfl, hB.out⟩
theorem iLogOf_any (A : Option Addr) (n c : Nat) (l : List Entry) (w : World) (hG : Gl w) (hn : n ≤ 1048576) (hq : ∀ x ∈ l, x.fits) (hr : Arr Entry.cells 3 w w.heap.size A n l) :
    Calls Tryd.prog 12 #[.slice A n c] w fun e w' => e = .returned (.tuple #[.string (mLog l).1, .int .i64 (mLog l).2]) ∧ Below w.heap.size w w' := by
  cases h : allOk l
  · exact iLogBad A n c l w hn hq hr h
  · exact iLogOk A n c l w hG hn hq hr h
end Go.Proofs.YtgjhibkljpjdhaaDoor
