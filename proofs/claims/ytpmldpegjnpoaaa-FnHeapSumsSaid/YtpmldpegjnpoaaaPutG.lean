/- Contracts: JoinHeaps, both sides. No statement is proved here. -/
import Derived.Test.YtpmldpegjnpoaaaPutF
namespace Go.Proofs.Ytpmldpegjnpoaaa
open Go.ChangeShapes Go.WideShapes Go.ChangeAt Go.RowKit Go.Deep
set_option maxRecDepth 100000
def joinTo (a b : List Heap) (j : Nat) : List Heap := (b.take j).foldl hPut a
theorem joinTo_zero (a b : List Heap) : joinTo a b 0 = a := rfl
theorem joinTo_step {a b : List Heap} {j : Nat} {x : Heap} (h : b[j]? = some x) : joinTo a b (j + 1) = hPut (joinTo a b j) x := by
  unfold joinTo; rw [take_snoc h, List.foldl_append]; rfl
theorem put_bound {l : List Heap} {x : Heap} {M : Int} (h : ∀ z ∈ l, 0 ≤ z.fBundles ∧ z.fBundles ≤ M) (hx : 0 ≤ x.fBundles ∧ x.fBundles ≤ 1000) (hM : 0 ≤ M) : ∀ z ∈ hPut l x, 0 ≤ z.fBundles ∧ z.fBundles ≤ M + 1000 := by
  intro z hz
  unfold hPut at hz
  have old : z ∈ l → 0 ≤ z.fBundles ∧ z.fBundles ≤ M + 1000 := fun hm => by have := h z hm; omega
  split at hz
  · rename_i hf
    obtain ⟨y, hy, _, _, _, hat⟩ := found_at hf
    have hyb := h y (List.mem_of_getElem? hy)
    rcases List.mem_append.1 hz with hz | hz
    · exact old (List.mem_of_mem_take hz)
    · rcases List.mem_cons.1 hz with rfl | hz
      · rw [hat]; show 0 ≤ x.fBundles + y.fBundles ∧ x.fBundles + y.fBundles ≤ M + 1000; omega
      · exact old (List.mem_of_mem_drop hz)
  · rcases List.mem_append.1 hz with hz | hz
    · exact old (List.mem_of_mem_take hz)
    · rcases List.mem_cons.1 hz with rfl | hz
      · omega
      · exact old (List.mem_of_mem_drop hz)
structure JoinInv (l : List Heap) (j : Nat) : Prop where
  srt : Srt l
  year : ∀ z ∈ l, 1800 ≤ z.fYear ∧ z.fYear ≤ 2100
  bun : ∀ z ∈ l, 0 ≤ z.fBundles ∧ z.fBundles ≤ 1000 * ((j : Int) + 1)
  len : l.length ≤ 20 + j
  fit : ∀ z ∈ l, z.fits
theorem join_inv {a b : List Heap} (ha : heapsOk a = true) (hb : heapsOk b = true) (hfa : ∀ z ∈ a, z.fits) (hfb : ∀ z ∈ b, z.fits) : ∀ j, j ≤ b.length → JoinInv (joinTo a b j) j := by
  intro j
  induction j with
  | zero =>
    intro _
    refine ⟨srt_of_ok ha, fun z hz => (heapsOk_at ha hz).1, fun z hz => ?_, heapsOk_len ha, hfa⟩
    have := (heapsOk_at ha hz).2
    simp; omega
  | succ j ih =>
    intro hj
    have hx : b[j]? = some b[j] := List.getElem?_eq_getElem (by omega)
    have hm := List.mem_of_getElem? hx
    obtain ⟨hy, hbn⟩ := heapsOk_at hb hm
    have I := ih (by omega)
    rw [joinTo_step hx]
    refine ⟨srt_put I.srt, fun z hz => ?_, fun z hz => ?_, ?_, put_fits I.fit (hfb _ hm)⟩
    · rcases put_mem hz with h | ⟨_, h⟩
      · exact I.year z h
      · rw [h]; exact hy
    · have := put_bound I.bun (by omega) (by omega) z hz
      have e : 1000 * (((j + 1 : Nat) : Int) + 1) = 1000 * ((j : Int) + 1) + 1000 := by omega
      rw [e]; exact this
    · have := hPut_len (joinTo a b j) b[j]; have := I.len; omega
def joinAll (a b : List Heap) : List Heap := joinTo a b b.length
def mJoinC (a b : List Heap) : Int := if heapsOk a then (if heapsOk b then (if heapsOk (joinAll a b) then 0 else 5) else 1) else 1
def mJoinL (a b : List Heap) : List Heap := if mJoinC a b = 0 then joinAll a b else []
theorem mJoinL_len (a b : List Heap) : (mJoinL a b).length ≤ 1048576 := by
  unfold mJoinL
  split
  · rename_i h0
    unfold mJoinC at h0
    split at h0
    · split at h0
      · split at h0
        · have := heapsOk_len (by assumption : heapsOk (joinAll a b) = true); omega
        · cases h0
      · cases h0
    · cases h0
  · simp
theorem mJoin_none {a b : List Heap} {c : Int} (h : mJoinC a b = c) (hc : ¬ c = 0) : mJoinL a b = [] := by unfold mJoinL; rw [h, if_neg hc]
set_option maxHeartbeats 2000000 in
theorem iJoin_any (A : Option Addr) (n c : Nat) (a : List Heap) (w : World) (hn : n ≤ 1048576) (hf : ∀ z ∈ a, z.fits) (hr : Arr Heap.cells 3 w w.heap.size A n a) (A' : Option Addr) (n' c' : Nat) (b : List Heap) (hn' : n' ≤ 1048576) (hf' : ∀ z ∈ b, z.fits) (hr' : Arr Heap.cells 3 w w.heap.size A' n' b) :
    Calls Try.prog 16 #[.slice A n c, .slice A' n' c'] w fun e w' => ∃ v, e = .returned (.tuple #[v, .int .i64 (mJoinC a b)]) ∧ Res Heap.cells 31 3 w' w.heap.size v (mJoinL a b).length (mJoinL a b) ∧ Below w.heap.size w w' := by
  have hl := hide hr.len
  have hl' := hide hr'.len
  have hB := hide (Below.refl w.heap.size w)
  cases hq : heapsOk a
  · have hoa := hide hq
    have hm : Hid (mJoinC a b = 1) := hide (by simp [mJoinC, hq])
    have hm2 : Hid (mJoinL a b = []) := hide (mJoin_none hm.out (by omega))
    clear hq
    go_enter Try.func16, Try.ntmps16
    go_wp2_with fail
    refine (iHeaps_any A n c a _ (by omega) hf (hr.go hB.out)).mono ?_
    rw [hoa.out]
    rintro e w1 ⟨rfl, hb⟩
    replace hB := hide (Below.up hB.out hb)
    clear hb
    go_wp2_with fail
    go_ret2; exact ⟨_, by rw [hm.out]; rfl, by rw [hm2.out]; exact Res.empty (Nat.zero_le _), hB.out⟩
  have hoa := hide hq
  clear hq
  cases hq : heapsOk b
  · have hob := hide hq
    have hm : Hid (mJoinC a b = 1) := hide (by simp [mJoinC, hoa.out, hq])
    have hm2 : Hid (mJoinL a b = []) := hide (mJoin_none hm.out (by omega))
    clear hq
    go_enter Try.func16, Try.ntmps16
    go_wp2_with fail
    refine (iHeaps_any A n c a _ (by omega) hf (hr.go hB.out)).mono ?_
    rw [hoa.out]
    rintro e w1 ⟨rfl, hb⟩
    replace hB := hide (Below.up hB.out hb)
    clear hb
    go_wp2_with fail
    refine (iHeaps_any A' n' c' b _ (by omega) hf' (hr'.go hB.out)).mono ?_
    rw [hob.out]
    rintro e w1 ⟨rfl, hb⟩
    replace hB := hide (Below.up hB.out hb)
    clear hb
    go_wp2_with fail
    go_ret2; exact ⟨_, by rw [hm.out]; rfl, by rw [hm2.out]; exact Res.empty (Nat.zero_le _), hB.out⟩
  have hob := hide hq
  clear hq
  have hinv := hide (join_inv hoa.out hob.out hf hf')
  have ha20 : n ≤ 20 := by rw [← hl.out]; exact heapsOk_len hoa.out
  have hb20 : n' ≤ 20 := by rw [← hl'.out]; exact heapsOk_len hob.out
  have hbat := hide (fun (z : Heap) (hz : z ∈ b) => heapsOk_at hob.out hz)
  go_enter Try.func16, Try.ntmps16
  go_wp2_with fail
  refine (iHeaps_any A n c a _ (by omega) hf (hr.go hB.out)).mono ?_
  rw [hoa.out]
  rintro e w1 ⟨rfl, hb⟩
  replace hB := hide (Below.up hB.out hb)
  clear hb
  go_wp2_with fail
  refine (iHeaps_any A' n' c' b _ (by omega) hf' (hr'.go hB.out)).mono ?_
  rw [hob.out]
  rintro e w1 ⟨rfl, hb⟩
  replace hB := hide (Below.up hB.out hb)
  clear hb
  go_wp2_with (first | (go_at_call 33; refine (cloneHeap_any A n c a _ (by omega) (hr.go hB.out)).mono ?_; rintro e w2 ⟨v2, rfl, ho2, hb⟩; have hO := hide (ho2.less hB.out.size); replace hB := hide (Below.up hB.out hb); clear hb ho2) | fail)
  go_loopw [6, 21] (fun v i wr => ∃ j : Nat, j ≤ n' ∧ i = .int .i64 j ∧ Below w.heap.size w wr ∧ Own Heap.cells 31 3 wr w.heap.size v (joinTo a b j).length (joinTo a b j)) (fun _ i _ => n' - (intOf i).toNat)
  case atStart => exact ⟨0, Nat.zero_le _, rfl, hB.out, by rw [joinTo_zero, hl.out]; exact hO.out⟩
  case round =>
    clear hO
    obtain ⟨j, hj, rfl, hb, ho⟩ := hrel
    replace hB := hide hb
    have hO := hide ho
    clear hb ho
    have I := hinv.out j (by rw [hl'.out]; exact hj)
    have hlen := I.len
    by_cases hlt : j < n'
    · obtain ⟨b1, o1, x, rfl, hbl, hx, c0, c1, c2⟩ := hr'.Heap hlt
      have d0 : wr.cell? ⟨b1, o1 + j * 3, none⟩ = some (.string x.fSort) := (hB.out.cell (p := ⟨b1, o1 + j * 3, none⟩) hbl).trans c0
      have d1 : wr.cell? ⟨b1, o1 + j * 3 + 1, none⟩ = some (.int .i64 x.fYear) := (hB.out.cell (p := ⟨b1, o1 + j * 3 + 1, none⟩) hbl).trans c1
      have d2 : wr.cell? ⟨b1, o1 + j * 3 + 2, none⟩ = some (.int .i64 x.fBundles) := (hB.out.cell (p := ⟨b1, o1 + j * 3 + 2, none⟩) hbl).trans c2
      have hX := hide hx
      obtain ⟨hxy, hxb⟩ := hbat.out x (List.mem_of_getElem? hx)
      have hlt' : (j : Int) < (n' : Int) := by omega
      have hj0 : (0 : Int) ≤ (j : Int) := by omega
      clear hx c0 c1 c2 hbl
      obtain ⟨A6, c6, hv6, _⟩ := hO.out.slice
      subst hv6
      have hN := heap_alloc_new wr (.cells #[.string x.fSort, .int .i64 x.fYear, .int .i64 x.fBundles] 31)
      have hbx : Below wr.heap.size wr (wr.alloc (.cells #[.string x.fSort, .int .i64 x.fYear, .int .i64 x.fBundles] 31)) := (Below.refl _ _).alloc (Nat.le_refl _) _
      have hO1 := hide (hO.out.below hbx)
      have hB1 := hide (Below.up hB.out hbx)
      obtain ⟨e0, e1, e2, ef⟩ := row3 hN
      clear hN hbx
      go_wp2_with fail
      refine (iPut_any A6 _ c6 (joinTo a b j) x _ (by omega) (hO1.out.arr Heap.len) I.year hxy.1 hxy.2 I.srt (fun z hz => by have := I.bun z hz; omega) (by omega)).mono ?_
      rintro e w3 ⟨V, rfl, hoV, hb⟩
      have hO3 := hide (hoV.less hB1.out.size)
      have hB3 := hide (Below.up hB1.out hb)
      clear hb hoV
      go_wp2
      go_roundw
      case rel => exact ⟨j + 1, by omega, by go_num, hB3.out, by rw [joinTo_step hX.out]; exact hO3.out⟩
      case measure => simp [intOf]; omega
    · have hjn : Hid (joinAll a b = joinTo a b j) := hide (by unfold joinAll; rw [hl'.out, show n' = j by omega])
      obtain ⟨A6, c6, hv6, _⟩ := hO.out.slice
      subst hv6
      cases hq : heapsOk (joinTo a b j)
      · have hok2 := hide hq
        have hm : Hid (mJoinC a b = 5) := hide (by simp [mJoinC, hoa.out, hob.out, hjn.out, hq])
        have hm2 : Hid (mJoinL a b = []) := hide (mJoin_none hm.out (by omega))
        clear hq
        go_wp2_with (first | (go_at_call 28; refine (iHeaps_any A6 _ c6 (joinTo a b j) _ (by omega) I.fit (hO.out.arr Heap.len)).mono ?_; rw [hok2.out]; rintro e w4 ⟨rfl, hb⟩; replace hO := hide (hO.out.below hb); replace hB := hide (Below.up hB.out hb); clear hb) | fail)
        go_ret2; exact ⟨_, by rw [hm.out]; rfl, by rw [hm2.out]; exact Res.empty (Nat.zero_le _), hB.out⟩
      · have hok2 := hide hq
        have hm : Hid (mJoinC a b = 0) := hide (by simp [mJoinC, hoa.out, hob.out, hjn.out, hq])
        have hm2 : Hid (mJoinL a b = joinTo a b j) := hide (by unfold mJoinL; rw [hm.out, hjn.out]; rfl)
        clear hq
        go_wp2_with (first | (go_at_call 28; refine (iHeaps_any A6 _ c6 (joinTo a b j) _ (by omega) I.fit (hO.out.arr Heap.len)).mono ?_; rw [hok2.out]; rintro e w4 ⟨rfl, hb⟩; replace hO := hide (hO.out.below hb); replace hB := hide (Below.up hB.out hb); clear hb) | fail)
        go_ret2; exact ⟨_, by rw [hm.out]; rfl, by rw [hm2.out]; exact hO.out.res, hB.out⟩
set_option maxHeartbeats 2000000 in
theorem sJoin_any (A : Option Addr) (n c : Nat) (a : List Heap) (w : World) (hn : n ≤ 1048576) (hf : ∀ z ∈ a, z.fits) (hr : Arr Heap.cells 3 w w.heap.size A n a) (A' : Option Addr) (n' c' : Nat) (b : List Heap) (hn' : n' ≤ 1048576) (hf' : ∀ z ∈ b, z.fits) (hr' : Arr Heap.cells 3 w w.heap.size A' n' b) :
    Calls Try.prog 15 #[.slice A n c, .slice A' n' c'] w fun e w' => ∃ v, e = .returned (.tuple #[v, .int .i64 (mJoinC a b)]) ∧ Res Heap.cells 31 3 w' w.heap.size v (mJoinL a b).length (mJoinL a b) ∧ Below w.heap.size w w' := by
  have hl := hide hr.len
  have hl' := hide hr'.len
  have hB := hide (Below.refl w.heap.size w)
  cases hq : heapsOk a
  · have hoa := hide hq
    have hm : Hid (mJoinC a b = 1) := hide (by simp [mJoinC, hq])
    have hm2 : Hid (mJoinL a b = []) := hide (mJoin_none hm.out (by omega))
    clear hq
    go_enter Try.func15, Try.ntmps15
    go_wp2_with fail
    refine (sHeaps_any A n c a _ (by omega) hf (hr.go hB.out)).mono ?_
    rw [hoa.out]
    rintro e w1 ⟨rfl, hb⟩
    replace hB := hide (Below.up hB.out hb)
    clear hb
    go_wp2_with fail
    go_ret2; exact ⟨_, by rw [hm.out]; rfl, by rw [hm2.out]; exact Res.empty (Nat.zero_le _), hB.out⟩
  have hoa := hide hq
  clear hq
  cases hq : heapsOk b
  · have hob := hide hq
    have hm : Hid (mJoinC a b = 1) := hide (by simp [mJoinC, hoa.out, hq])
    have hm2 : Hid (mJoinL a b = []) := hide (mJoin_none hm.out (by omega))
    clear hq
    go_enter Try.func15, Try.ntmps15
    go_wp2_with fail
    refine (sHeaps_any A n c a _ (by omega) hf (hr.go hB.out)).mono ?_
    rw [hoa.out]
    rintro e w1 ⟨rfl, hb⟩
    replace hB := hide (Below.up hB.out hb)
    clear hb
    go_wp2_with fail
    refine (sHeaps_any A' n' c' b _ (by omega) hf' (hr'.go hB.out)).mono ?_
    rw [hob.out]
    rintro e w1 ⟨rfl, hb⟩
    replace hB := hide (Below.up hB.out hb)
    clear hb
    go_wp2_with fail
    go_ret2; exact ⟨_, by rw [hm.out]; rfl, by rw [hm2.out]; exact Res.empty (Nat.zero_le _), hB.out⟩
  have hob := hide hq
  clear hq
  have hinv := hide (join_inv hoa.out hob.out hf hf')
  have ha20 : n ≤ 20 := by rw [← hl.out]; exact heapsOk_len hoa.out
  have hb20 : n' ≤ 20 := by rw [← hl'.out]; exact heapsOk_len hob.out
  have hbat := hide (fun (z : Heap) (hz : z ∈ b) => heapsOk_at hob.out hz)
  go_enter Try.func15, Try.ntmps15
  go_wp2_with fail
  refine (sHeaps_any A n c a _ (by omega) hf (hr.go hB.out)).mono ?_
  rw [hoa.out]
  rintro e w1 ⟨rfl, hb⟩
  replace hB := hide (Below.up hB.out hb)
  clear hb
  go_wp2_with fail
  refine (sHeaps_any A' n' c' b _ (by omega) hf' (hr'.go hB.out)).mono ?_
  rw [hob.out]
  rintro e w1 ⟨rfl, hb⟩
  replace hB := hide (Below.up hB.out hb)
  clear hb
  go_wp2_with (first | (at_builtin; refine wpl_appN rfl (.tmp 16) (.tmp 17) rfl Try.underlying27 info_Heap' rfl (by omega) (by omega) Heap.len Heap.one rfl (Own.none_made (cells := Heap.cells) (e := 31) (s := 3) _ hB.out.size) rfl ((hr.below hB.out).below ((Below.refl w.heap.size _).alloc hB.out.size _)) (by omega) (by simp; have := hB.out.size; omega) ?_; intro v2 w2 ho2 hg2 hat2; rw [Nat.zero_add, List.nil_append] at ho2; have hs2 := hide (some_of_at hat2 rfl); have hO := hide ho2; replace hB := hide ((Own.none_made (cells := Heap.cells) (e := 31) (s := 3) _ hB.out.size).grown (hB.out.alloc hB.out.size _) hg2); clear hg2 hat2 ho2) | fail)
  go_loopw [6, 7] (fun v i wr => ∃ j : Nat, j ≤ n' ∧ i = .int .i64 j ∧ Below w.heap.size w wr ∧ Own Heap.cells 31 3 wr w.heap.size v (joinTo a b j).length (joinTo a b j) ∧ v.ownBlock.isSome = true) (fun _ i _ => n' - (intOf i).toNat)
  case atStart => exact ⟨0, Nat.zero_le _, rfl, hB.out, by rw [joinTo_zero, hl.out]; exact hO.out, hs2.out⟩
  case round =>
    clear hO
    obtain ⟨j, hj, rfl, hb, ho, hsm⟩ := hrel
    replace hB := hide hb
    have hO := hide ho
    clear hb ho
    have I := hinv.out j (by rw [hl'.out]; exact hj)
    have hlen := I.len
    by_cases hlt : j < n'
    · obtain ⟨b1, o1, x, rfl, hbl, hx, c0, c1, c2⟩ := hr'.Heap hlt
      have d0 : wr.cell? ⟨b1, o1 + j * 3, none⟩ = some (.string x.fSort) := (hB.out.cell (p := ⟨b1, o1 + j * 3, none⟩) hbl).trans c0
      have d1 : wr.cell? ⟨b1, o1 + j * 3 + 1, none⟩ = some (.int .i64 x.fYear) := (hB.out.cell (p := ⟨b1, o1 + j * 3 + 1, none⟩) hbl).trans c1
      have d2 : wr.cell? ⟨b1, o1 + j * 3 + 2, none⟩ = some (.int .i64 x.fBundles) := (hB.out.cell (p := ⟨b1, o1 + j * 3 + 2, none⟩) hbl).trans c2
      have hX := hide hx
      obtain ⟨hxy, hxb⟩ := hbat.out x (List.mem_of_getElem? hx)
      have hlt' : (j : Int) < (n' : Int) := by omega
      have hj0 : (0 : Int) ≤ (j : Int) := by omega
      clear hx c0 c1 c2 hbl
      obtain ⟨g6, c6, hv6, _, _, hnc6, _⟩ := hO.out.formS hsm
      subst hv6
      go_wp2_with fail
      refine (sPut_any g6 0 _ c6 (joinTo a b j) x _ (by omega) hnc6 (hO.out.arr Heap.len) (fun z hz => by have := I.bun z hz; omega) (by omega)).mono ?_
      rintro e w3 ⟨V, rfl, hoV, hb, hsV⟩
      have hO3 := hide (hoV.less hB.out.size)
      have hB3 := hide (Below.up hB.out hb)
      clear hb hoV
      go_wp2
      go_roundw
      case rel => exact ⟨j + 1, by omega, by go_num, hB3.out, by rw [joinTo_step hX.out]; exact hO3.out, hsV⟩
      case measure => simp [intOf]; omega
    · have hjn : Hid (joinAll a b = joinTo a b j) := hide (by unfold joinAll; rw [hl'.out, show n' = j by omega])
      obtain ⟨A6, c6, hv6, _⟩ := hO.out.slice
      subst hv6
      cases hq : heapsOk (joinTo a b j)
      · have hok2 := hide hq
        have hm : Hid (mJoinC a b = 5) := hide (by simp [mJoinC, hoa.out, hob.out, hjn.out, hq])
        have hm2 : Hid (mJoinL a b = []) := hide (mJoin_none hm.out (by omega))
        clear hq
        go_wp2_with (first | (go_at_call 25; refine (sHeaps_any A6 _ c6 (joinTo a b j) _ (by omega) I.fit (hO.out.arr Heap.len)).mono ?_; rw [hok2.out]; rintro e w4 ⟨rfl, hb⟩; replace hO := hide (hO.out.below hb); replace hB := hide (Below.up hB.out hb); clear hb) | fail)
        go_ret2; exact ⟨_, by rw [hm.out]; rfl, by rw [hm2.out]; exact Res.empty (Nat.zero_le _), hB.out⟩
      · have hok2 := hide hq
        have hm : Hid (mJoinC a b = 0) := hide (by simp [mJoinC, hoa.out, hob.out, hjn.out, hq])
        have hm2 : Hid (mJoinL a b = joinTo a b j) := hide (by unfold mJoinL; rw [hm.out, hjn.out]; rfl)
        clear hq
        go_wp2_with (first | (go_at_call 25; refine (sHeaps_any A6 _ c6 (joinTo a b j) _ (by omega) I.fit (hO.out.arr Heap.len)).mono ?_; rw [hok2.out]; rintro e w4 ⟨rfl, hb⟩; replace hO := hide (hO.out.below hb); replace hB := hide (Below.up hB.out hb); clear hb) | fail)
        go_ret2; exact ⟨_, by rw [hm.out]; rfl, by rw [hm2.out]; exact hO.out.res, hB.out⟩
end Go.Proofs.Ytpmldpegjnpoaaa
