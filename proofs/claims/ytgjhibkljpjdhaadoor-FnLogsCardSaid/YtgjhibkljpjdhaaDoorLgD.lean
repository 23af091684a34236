/- The reference's LogOf. No statement is proved here. -/
import Derived.Test.YtgjhibkljpjdhaaDoorLgA
import Derived.Lib.AppendStr
namespace Go.Proofs.YtgjhibkljpjdhaaDoor
open Go.ChangeShapes Go.WideShapes Go.ChangeAt Go.RowKit Go.Deep
set_option maxRecDepth 100000
theorem strCells_app (a b : ByteArray) : Lib.strCells (a ++ b) = Lib.strCells a ++ Lib.strCells b := by
  unfold Lib.strCells; rw [Joins.data_append, List.map_append]
theorem strCells_bI (s : ByteArray) : (bI s.data.toList).flatMap u8c = Lib.strCells s := by
  unfold Lib.strCells bI
  rw [List.flatMap_map]
  induction s.data.toList with
  | nil => rfl
  | cons a l ih => rw [List.flatMap_cons, List.map_cons, ih]; rfl
theorem own_bytes {w : World} {base : Nat} {v : Value} {s : ByteArray} (h : w.ownsRow base 5 1 v s.size (Lib.strCells s)) : Own u8c 5 1 w base v s.size (bI s.data.toList) :=
  ⟨by unfold bI; rw [List.length_map]; exact ba_size s, by rw [strCells_bI]; exact h⟩
set_option maxHeartbeats 2000000 in
theorem sMake_any (A : Option Addr) (n c : Nat) (l : List Entry) (w : World) (hn : n ≤ 1048576) (hr0 : Arr Entry.cells 3 w w.heap.size A n l) (hall : ∀ x ∈ l, x.ok = true) :
    Calls Tryd.prog 22 #[.slice A n c] w fun e w' => e = .returned (.string (lgOf l).2) ∧ Below w.heap.size w w' := by
  have hL := hide hr0.len
  have hr := hide hr0
  have hOK := hide hall
  obtain ⟨iu, hi, hz0, hz1, hz2⟩ := info_parts info_u8
  clear hr0 hall
  have hZ : Hid ((lgOf (l.take 0)).2 = ⟨#[]⟩) := hide rfl
  have hO0 : Hid ((w.alloc (.cells #[] 5)).ownsRow w.heap.size 5 1 (.slice (some ⟨w.heap.size, 0, none⟩) 0 0) (⟨#[]⟩ : ByteArray).size (Lib.strCells ⟨#[]⟩)) := hide (World.ownsRow_made w #[] 0 (Nat.le_refl _) (Nat.zero_le _) (by simp))
  go_enter Tryd.func22, Tryd.ntmps22
  go_wp2
  go_loopw [3, 4, 5] (fun v z i wr => ∃ k : Nat, k ≤ n ∧ z = .int .i64 (lgOf (l.take k)).1 ∧ i = .int .i64 k ∧ wr.ownsRow w.heap.size 5 1 v (lgOf (l.take k)).2.size (Lib.strCells (lgOf (l.take k)).2) ∧ Below w.heap.size w wr) (fun _ _ i _ => n - (intOf i).toNat)
  case atStart => exact ⟨0, Nat.zero_le _, rfl, rfl, hO0.out, (Below.refl _ _).alloc (Nat.le_refl _) _⟩
  case round =>
    clear hO0 hZ
    obtain ⟨k, hk, rfl, rfl, ho, hb⟩ := hrel
    by_cases hlt : k < n
    · obtain ⟨b, o, x, hA, hbl, hx, d0, d1, d2⟩ := (hr.out.go hb).Entry hlt
      subst hA
      have hok := hOK.out x (List.mem_of_getElem? hx)
      have hS := hide (lgOf_snoc hx)
      have hs1 := lgOf_size (l := l.take k) (fun y hy => hOK.out y (List.mem_of_mem_take hy))
      have hs2 : (l.take k).length ≤ 1048576 := by rw [List.length_take]; omega
      have hs : (lgOf (l.take k)).2.size ≤ 2097152000000 := by omega
      clear hs1 hs2
      obtain ⟨t0, t1⟩ := lgOf_range (l.take k)
      obtain ⟨T, hT⟩ : ∃ T, T = lgOf (l.take k) := ⟨_, rfl⟩
      rw [← hT] at hS hs t0 t1 ho ⊢
      obtain ⟨Z, S⟩ := T
      simp only at hs t0 t1 ho ⊢
      obtain ⟨r1, r2⟩ := stampB_range Z (entB x)
      have hls := lineB_size r1 r2 hok
      have hes := entB_size hok
      have hS1 := hide (congrArg Prod.fst hS.out)
      have hS2 := hide (congrArg Prod.snd hS.out)
      replace hS1 : Hid ((lgOf (l.take (k + 1))).1 = stampB Z (entB x)) := hide (hS1.out.trans rfl)
      replace hS2 : Hid ((lgOf (l.take (k + 1))).2 = S ++ lineB (stampB Z (entB x)) x) := hide (hS2.out.trans rfl)
      have q0 := hide d0
      have q1 := hide d1
      have q2 := hide d2
      have hWo := hide (sWords_any b (o + k * 3) x wr hok hbl d0 d1 d2)
      have hSt := hide (fun W => hide (sStamp_any Z (entB x) W t0 t1 hes))
      have hLi := hide (fun W hh h0 h1 h2 => hide (sLine_any (stampB Z (entB x)) b (o + k * 3) x W r1 r2 hok hh h0 h1 h2))
      have hO := hide ho
      have hB := hide hb
      clear hx hT hS ho hb d0 d1 d2 hes
      obtain ⟨U, hU⟩ : ∃ U, U = lineB (stampB Z (entB x)) x := ⟨_, rfl⟩
      rw [← hU] at hS2 hLi hls
      clear hU
      obtain ⟨Y, hY⟩ : ∃ Y, Y = stampB Z (entB x) := ⟨_, rfl⟩
      rw [← hY] at hS1 hSt hLi r1 r2
      clear hY
      obtain ⟨E, hE⟩ : ∃ E, E = entB x := ⟨_, rfl⟩
      rw [← hE] at hWo hSt
      clear hE
      go_wp2_with fail
      refine hWo.out.mono ?_
      rintro e w1 ⟨rfl, hb⟩
      have hlt1 : b < w1.heap.size := Nat.lt_of_lt_of_le hbl hb.size
      have m0 := keepc hb hbl q0.out
      have m1 := keepc hb hbl q1.out
      have m2 := keepc hb hbl q2.out
      have hLi2 := hide (hLi.out w1 hlt1 m0 m1 m2)
      replace hO := hide (hO.out.kept (row := none) ⟨hb.os, hb.tape, hb.output, hb.size, fun i hi _ => hb.block i hi⟩ (by cases hv : u3.ownBlock <;> simp))
      replace hB := hide (Below.up hB.out hb)
      clear hb m0 m1 m2 hLi
      go_wp2_with fail
      refine (hSt.out _).out.mono ?_
      rintro e w2 ⟨rfl, rfl⟩
      go_wp2_with fail
      refine hLi2.out.out.mono ?_
      rintro e w2 ⟨rfl, hb⟩
      replace hO := hide (hO.out.kept (row := none) ⟨hb.os, hb.tape, hb.output, hb.size, fun i hi _ => hb.block i hi⟩ (by cases hv : u3.ownBlock <;> simp))
      replace hB := hide (Below.up hB.out hb)
      clear hb
      have hNB : Hid (∀ j, u3.ownBlock = some j → w.heap.size ≤ j) := hide fun j hj => (hO.out.lt j hj).1
      go_wp2_with (at_builtin; refine Lib.wpList_append_own_string _ rfl (.tmp 19) (.tmp 24) 22 9 rfl w.heap.size 5 iu Tryd.underlying22 Tryd.underlying9 hi hz0 hz1 hz2 u3 _ _ rfl hO.out U rfl (by unfold maxLen; omega) (by omega) hB.out.size ?_; intro v5 w5 ho5 hg5 _; have hO5 := hide ho5; have hB5 := hide (hB.out.grown hg5 hB.out.size (fun k hk => hNB.out k hk)); clear ho5 hg5)
      go_roundw
      case rel => exact ⟨k + 1, by omega, by rw [hS1.out], by go_num, by rw [hS2.out, ByteArray.size_append, strCells_app]; exact hO5.out, hB5.out⟩
      case measure => simp [intOf]; omega
    · have hT : Hid (lgOf (l.take k) = lgOf l) := hide (by rw [List.take_of_length_le (by rw [hL.out]; omega)])
      have hB := hide hb
      have ho2 := own_bytes ho
      obtain ⟨Av, cv, rfl, _⟩ := ho2.slice
      have hc := hide (conv_own ho2)
      clear ho ho2 hb
      rw [hT.out] at hc ⊢
      obtain ⟨S, hS⟩ : ∃ S, S = (lgOf l).2 := ⟨_, rfl⟩
      rw [← hS] at hc ⊢
      rw [show (⟨S.data.toList.toArray⟩ : ByteArray) = S from mk_data S] at hc
      have hcc := hc.out
      have hSE := hide hS
      clear hS
      go_wp2
      go_ret
      exact ⟨by rw [← hSE.out]; rfl, hB.out⟩
end Go.Proofs.YtgjhibkljpjdhaaDoor
