/- Contracts of the law FnHeaps: a drawn heap, the bundles of a sort, the oldest year; heaps compared. No statement is proved here. -/
import Derived.Test.YtpnbnhhifgcklaaDoorFhP
import Derived.Test.YtpnbnhhifgcklaaDoorA2
import Derived.Test.YtpnbnhhifgcklaaDoorHpU
namespace Go.Proofs.YtpnbnhhifgcklaaDoor
open Go.ChangeShapes Go.WideShapes Go.ChangeAt Go.RowKit Go.Deep
set_option maxRecDepth 100000
set_option maxHeartbeats 1000000 in
theorem a2Heap_any (w : World) (A : Option Addr) (n c : Nat) (l : List Int) (hr : Arr u8c 1 w w.heap.size A n l) (hl : byteL l) (hc : c ≤ maxLen) (hn : n ≤ c) :
    Calls Tryd.prog 6 #[.slice A n c] w fun e w' => ∃ x : Heap, e = .returned (.agg #[.string x.fSort, .int .i64 x.fYear, .int .i64 x.fBundles]) ∧ x.drawn ∧ Below w.heap.size w w' := by
  go_enter Tryd.func6, Tryd.ntmps6
  have hK := hide (heap_alloc_new w (.cells #[.string ⟨#[]⟩, .int .i64 0, .int .i64 0] 27 (0, 0)))
  have hB := hide ((Below.refl w.heap.size w).alloc (Nat.le_refl _) (.cells #[.string ⟨#[]⟩, .int .i64 0, .int .i64 0] 27 (0, 0)))
  have hz : w.heap.size < (w.alloc (.cells #[.string ⟨#[]⟩, .int .i64 0, .int .i64 0] 27 (0, 0))).heap.size := by simp
  have hRR := hide (hr.go hB.out)
  go_wp2_with fail
  obtain ⟨W0, hW0⟩ : ∃ W0, W0 = w.alloc (.cells #[.string ⟨#[]⟩, .int .i64 0, .int .i64 0] 27 (0, 0)) := ⟨_, rfl⟩
  rw [← hW0] at hK hB hz hRR ⊢
  clear hW0 hr
  refine (from_any _ A n c l hRR.out hl hc hn).mono ?_
  rintro e w1 ⟨rfl, hb, hsz, hs1⟩
  have hD : Hid (DS W0 w1 W0.heap.size 0) := hide ⟨hb, Nat.le_refl _, hs1⟩
  replace hK := hide (keepb hK.out hb)
  obtain ⟨g, hg⟩ : ∃ g, g = W0.heap.size := ⟨_, rfl⟩
  rw [← hg] at hD ⊢
  have hgw : Hid (W0.heap.size ≤ g) := hide (Nat.le_of_eq hg.symm)
  have hrg : Hid (w.heap.size ≠ g) := hide (by omega)
  clear hb hs1 hg hsz
  go_wp2_with fail
  refine (new23_any _ g _ hD.out.2.2 (by omega)).mono ?_
  rintro e w2 ⟨q, rfl, hq, hg, hs⟩
  replace hD := hide (hD.out.step hg hs)
  replace hK := hide (box_kept hK.out hg hrg.out)
  replace hB := hide (Below.up hB.out hD.out.1)
  clear hg hs
  obtain ⟨c0, c1, c2, cf⟩ := row3 hK.out
  go_wp2_with fail
  have hR5 := box_set (box_set (box_set hK.out 0 (.string q.fSort)) 1 (.int .i64 q.fYear)) 2 (.int .i64 q.fBundles)
  obtain ⟨e0, e1, e2, _⟩ := row3 (u0 := .string q.fSort) (u1 := .int .i64 q.fYear) (u2 := .int .i64 q.fBundles) hR5
  exact bodyPost_ret (v := .agg #[.string q.fSort, .int .i64 q.fYear, .int .i64 q.fBundles]) (by simp [results, Tryd.results6, go_sem, e0, e1, e2]) rfl ⟨q, rfl, hq, ((hB.out.setCell (p := ⟨w.heap.size, 0, none⟩) (Nat.le_refl _) _).setCell (p := ⟨w.heap.size, 1, none⟩) (Nat.le_refl _) _).setCell (p := ⟨w.heap.size, 2, none⟩) (Nat.le_refl _) _⟩
theorem iBundlesOf_any (A : Option Addr) (n c : Nat) (l : List Heap) (s : ByteArray) (w : World) (hn : n ≤ 1048576) (hf : ∀ x ∈ l, x.fits) (hok : heapsOk l = true) (hz : s.size ≤ maxLen) (hs : isName s = true) (hr : Arr Heap.cells 3 w w.heap.size A n l) :
    Calls Tryd.prog 9 #[.slice A n c, .string s] w fun e w' => e = .returned (.tuple #[.int .i64 (hSum l s), .int .i64 0]) ∧ Below w.heap.size w w' := by
  have hO := hide hok
  have hS := hide hs
  have hR := hide hr
  clear hok hs hr
  go_enter Tryd.func9, Tryd.ntmps9
  go_wp2_with fail
  refine (iHeaps_any A n c l _ hn hf hR.out).mono ?_
  rw [hO.out]
  rintro e w1 ⟨rfl, hb⟩
  have hB := hide hb
  replace hR := hide (hR.out.go hb)
  clear hb
  go_wp2_with fail
  refine (iName_any s _ hz).mono ?_
  rw [hS.out]
  rintro e w2 ⟨rfl, rfl⟩
  go_wp2_with fail
  refine (iBundles_any A n c l s _ hn hO.out hR.out).mono ?_
  rintro e w2 ⟨rfl, hb⟩
  replace hB := hide (Below.up hB.out hb)
  clear hb
  go_wp2
  go_ret2
  exact ⟨rfl, hB.out⟩
theorem sBundlesOf_any (A : Option Addr) (n c : Nat) (l : List Heap) (s : ByteArray) (w : World) (hn : n ≤ 1048576) (hf : ∀ x ∈ l, x.fits) (hok : heapsOk l = true) (hz : s.size ≤ maxLen) (hs : isName s = true) (hr : Arr Heap.cells 3 w w.heap.size A n l) :
    Calls Tryd.prog 8 #[.slice A n c, .string s] w fun e w' => e = .returned (.tuple #[.int .i64 (hSum l s), .int .i64 0]) ∧ Below w.heap.size w w' := by
  have hO := hide hok
  have hS := hide hs
  have hR := hide hr
  clear hok hs hr
  go_enter Tryd.func8, Tryd.ntmps8
  go_wp2_with fail
  refine (sSort_any A n c l s _ hn hf hz hR.out).mono ?_
  rw [hO.out, hS.out]
  rintro e w1 ⟨rfl, hb⟩
  have hB := hide hb
  replace hR := hide (hR.out.go hb)
  clear hb
  go_wp2_with fail
  refine (sSum_any A n c l s _ hn hO.out hR.out).mono ?_
  rintro e w2 ⟨rfl, hb⟩
  replace hB := hide (Below.up hB.out hb)
  clear hb
  go_wp2
  go_ret2
  exact ⟨rfl, hB.out⟩
theorem old_before_k {l : List Heap} {s : ByteArray} {k : Nat} {x : Heap} (hx : l[k]? = some x) (h : ∀ y ∈ l.take k, ¬ y.fSort = s) (he : x.fSort = s) : oldO l s = some x := by
  unfold oldO
  have hk := lt_of_get hx
  have e : l = l.take k ++ x :: l.drop (k + 1) := by
    conv => lhs; rw [← List.take_append_drop k l]
    rw [List.drop_eq_getElem_cons hk]
    rw [List.getElem?_eq_getElem hk] at hx
    rw [Option.some.inj hx]
  rw [e, List.find?_append]
  have h1 : (l.take k).find? (fun x => decide (x.fSort = s)) = none := by
    rw [List.find?_eq_none]; intro y hy; simp [h y hy]
  rw [h1]
  simp [he]
set_option maxHeartbeats 1000000 in
theorem iOldest_any (A : Option Addr) (n c : Nat) (l : List Heap) (s : ByteArray) (w : World) (hn : n ≤ 1048576) (hf : ∀ x ∈ l, x.fits) (hok : heapsOk l = true) (hz : s.size ≤ maxLen) (hs : isName s = true) (hr : Arr Heap.cells 3 w w.heap.size A n l) :
    Calls Tryd.prog 15 #[.slice A n c, .string s] w fun e w' => ((oldO l s = none ∧ e = .returned (.tuple #[.int .i64 0, .int .i64 3])) ∨ (∃ y, oldO l s = some y ∧ e = .returned (.tuple #[.int .i64 y.fYear, .int .i64 0]))) ∧ Below w.heap.size w w' := by
  have hl := hide hr.len
  have hO := hide hok
  have hS := hide hs
  have hR := hide hr
  clear hok hs hr
  go_enter Tryd.func15, Tryd.ntmps15
  go_wp2_with fail
  refine (iHeaps_any A n c l _ hn hf hR.out).mono ?_
  rw [hO.out]
  rintro e w1 ⟨rfl, hb⟩
  have hB := hide hb
  replace hR := hide (hR.out.go hb)
  clear hb
  go_wp2_with fail
  refine (iName_any s _ hz).mono ?_
  rw [hS.out]
  rintro e w2 ⟨rfl, rfl⟩
  go_wp2
  go_loopw [16] (fun i wr => ∃ k : Nat, k ≤ n ∧ i = .int .i64 k ∧ Below w.heap.size w wr ∧ Arr Heap.cells 3 wr wr.heap.size A n l ∧ Hid (∀ y ∈ l.take k, ¬ y.fSort = s)) (fun i _ => n - (intOf i).toNat)
  case atStart => exact ⟨0, Nat.zero_le _, rfl, hB.out, hR.out, hide (by intro y hy; cases hy)⟩
  case round =>
    obtain ⟨k, hk, rfl, hb, h1, hA⟩ := hrel
    replace hB := hide hb
    replace hR := hide h1
    clear hb h1
    by_cases hlt : k < n
    · obtain ⟨b, o, x, hAa, hbl, hx, d0, d1, d2⟩ := hR.out.Heap hlt
      subst hAa
      have hX := hide hx
      clear hx
      have i1 : (k : Int) < (n : Int) := by omega
      have i0 : (0 : Int) ≤ (k : Int) := by omega
      have hB2 := hide (hB.out.alloc hB.out.size (.cells #[.string x.fSort, .int .i64 x.fYear, .int .i64 x.fBundles] 27))
      have hR2 := hide (hR.out.go ((Below.refl wr.heap.size wr).alloc (Nat.le_refl _) (.cells #[.string x.fSort, .int .i64 x.fYear, .int .i64 x.fBundles] 27)))
      by_cases he : x.fSort = s
      · have e1 := str_eq he
        have hw := hide (old_before_k hX.out hA.out he)
        clear he
        go_wp2
        go_ret2
        exact ⟨.inr ⟨x, hw.out, rfl⟩, hB2.out⟩
      · have e1 := str_ne he
        have hst : Hid (∀ y ∈ l.take (k + 1), ¬ y.fSort = s) := hide (by
          rw [take_snoc hX.out]
          intro y hy
          rcases List.mem_append.1 hy with h | h
          · exact hA.out y h
          · rw [List.mem_singleton.1 h]; exact he)
        clear he
        go_wp2
        go_roundw
        case rel => exact ⟨k + 1, by omega, by go_num, hB2.out, hR2.out, hst⟩
        case measure => simp [intOf]; omega
    · have hlt' : ¬ (k : Int) < (n : Int) := by omega
      have hno : Hid (oldO l s = none) := hide (by
        unfold oldO
        rw [List.find?_eq_none]
        intro y hy
        have := hA.out y (by rw [List.take_of_length_le (by rw [hl.out]; omega)]; exact hy)
        simp [this])
      go_wp2
      go_ret2
      exact ⟨.inl ⟨hno.out, rfl⟩, hB.out⟩
theorem heapB_size {x : Heap} (hk : x.ok = true) : (heapB x).size ≤ 1048576 := by
  obtain ⟨hn, hy, hb⟩ := Heap.ok_iff.1 hk
  have s1 := name_size hn
  have s2 := decB_size x.fYear (by omega) (by omega)
  have s3 := decB_size x.fBundles (by omega) (by omega)
  unfold heapB
  simp only [ByteArray.size_append, one_size]
  omega
theorem heapsOk_fits {l : List Heap} (h : heapsOk l = true) : ∀ x ∈ l, x.fits := fun x hx => by
  unfold heapsOk at h
  rw [Bool.and_eq_true] at h
  obtain ⟨i, hi⟩ := List.mem_iff_getElem?.1 hx
  have h1 := name_size (Heap.ok_iff.1 (heapPair_ok h.1 (lt_of_get hi) hi)).1
  show x.fSort.size ≤ maxLen
  unfold maxLen; omega
theorem bun_take_bound {T : List Heap} (h : ∀ t ∈ T, 1 ≤ t.fBundles ∧ t.fBundles ≤ 1000) (hl : T.length ≤ 20) (k : Nat) : 0 ≤ sumOf bunF (T.take k) ∧ sumOf bunF (T.take k) ≤ 20000 :=
  sumOf_take_bound (M := 1000) (N := 20) (f := bunF) (fun t ht => by have := h t ht; unfold bunF; omega) hl (by omega) k
theorem hSum_drawn {l : List Heap} (h : DInv l (7 + 1)) {s : ByteArray} : hSum l s ≤ 2000 := by
  have h1 := sumOf_bound (f := bF s) (l := l) (M := 160) (fun z hz => by have := h.bun z hz; unfold bF; split <;> omega)
  have h2 := h.len
  unfold hSum
  have := h1.2
  omega
theorem neqHeap_fields (a0 : ByteArray) (a1 a2 : Int) (w : World) : (binOp .neq 27 (.agg #[.string a0, .int .i64 a1, .int .i64 a2]) (.agg #[.string a0, .int .i64 a1, .int .i64 a2])).run Tryd.prog w = .ok (.bool false) w := by
  rw [run_neq_struct, show 10000 = 9999 + 1 from rfl, run_equalIn_struct _ _ _ _ _ (by simp [Program.fieldsOf, Tryd.underlying27]) (by kernel_rfl)]
  simp [Program.fieldsOf, Tryd.underlying27, Op.eqFields, go_sem]
theorem neqHeap (x : Heap) : ∀ w : World, (binOp .neq 27 (.agg #[.string x.fSort, .int .i64 x.fYear, .int .i64 x.fBundles]) (.agg #[.string x.fSort, .int .i64 x.fYear, .int .i64 x.fBundles])).run Tryd.prog w = .ok (.bool false) w := fun w => neqHeap_fields _ _ _ w
end Go.Proofs.YtpnbnhhifgcklaaDoor
