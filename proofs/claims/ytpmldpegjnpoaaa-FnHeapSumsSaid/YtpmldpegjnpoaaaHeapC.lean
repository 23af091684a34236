/- Contracts: heaps of older years dropped; the sorts of heaps. -/
import Derived.Test.YtpmldpegjnpoaaaHeapB
import Derived.Test.YtpmldpegjnpoaaaSlx
namespace Go.Proofs.Ytpmldpegjnpoaaa
open Go.ChangeShapes Go.WideShapes Go.ChangeAt Go.RowKit Go.Deep
set_option maxRecDepth 100000
theorem ret1s {v : Value} {k k' : IntKind} {a b a' b' : Int} (h : a = a') (h' : b = b') : Ending.returned (.tuple #[v, .int k a, .int k' b]) = .returned (.tuple #[v, .int k a', .int k' b']) := by rw [h, h']
theorem Heap.one : ∀ x, ∀ u ∈ Heap.cells x, u.oneCell' = true := by intro x u hu; simp [Heap.cells] at hu; rcases hu with rfl | rfl | rfl <;> rfl
theorem info_Heap' : (Try.prog.info? 31).map (fun i => (i.zero, i.size, i.bytes)) = some (some (.agg #[.string ByteArray.empty, .int .i64 0, .int .i64 0]), 3, 32) := by kernel_rfl
theorem info_string' : (Try.prog.info? 9).map (fun i => (i.zero, i.size, i.bytes)) = some (some (.string ByteArray.empty), 1, 16) := by kernel_rfl
theorem Own.alloc' {α : Type} {cells : α → List Value} {e s : Nat} {w : World} {base : Nat} {v : Value} {n : Nat} {l : List α} (h : Own cells e s w base v n l) (o : Obj) : Own cells e s (w.alloc o) base v n l := ⟨h.1, h.2.alloc o⟩
theorem heapsOk_at {l : List Heap} (h : heapsOk l = true) {x : Heap} (hx : x ∈ l) : (1800 ≤ x.fYear ∧ x.fYear ≤ 2100) ∧ (1 ≤ x.fBundles ∧ x.fBundles ≤ 1000) := by
  simp only [heapsOk, Bool.and_eq_true] at h
  obtain ⟨k, hk⟩ := List.mem_iff_getElem?.1 hx
  exact (Heap.ok_iff.1 (heapPair_ok h.1 (lt_of_get hk) hk)).2
theorem heapsOk_len {l : List Heap} (h : heapsOk l = true) : l.length ≤ 20 := by
  simp only [heapsOk, Bool.and_eq_true, decide_eq_true_eq] at h; exact h.2
/-! ### older years dropped -/
def keptTo (l : List Heap) (y : Int) (k : Nat) : List Heap := (l.take k).filter fun x => decide (y ≤ x.fYear)
theorem keptTo_yes {l : List Heap} {y : Int} {k : Nat} {x : Heap} (h : l[k]? = some x) (hy : y ≤ x.fYear) : keptTo l y (k + 1) = keptTo l y k ++ [x] := by
  unfold keptTo; rw [take_snoc h, List.filter_append]; simp [hy]
theorem keptTo_no {l : List Heap} {y : Int} {k : Nat} {x : Heap} (h : l[k]? = some x) (hy : ¬ y ≤ x.fYear) : keptTo l y (k + 1) = keptTo l y k := by
  unfold keptTo; rw [take_snoc h, List.filter_append]; simp [hy]
theorem keptTo_len (l : List Heap) (y : Int) (k : Nat) : (keptTo l y k).length ≤ k := by
  unfold keptTo
  have h1 := List.length_filter_le (fun x : Heap => decide (y ≤ x.fYear)) (l.take k)
  have h2 := List.length_take_le k l
  omega
def dropF (y : Int) (x : Heap) : Int := if y ≤ x.fYear then 0 else x.fBundles
theorem dropF_bound {l : List Heap} (h : heapsOk l = true) (y : Int) : ∀ x ∈ l, 0 ≤ dropF y x ∧ dropF y x ≤ 1000 := by
  intro x hx
  have := heapsOk_at h hx
  unfold dropF
  split <;> omega
def mDropOk (l : List Heap) (y : Int) : Bool := heapsOk l && inB y 1800 2100
def mDrop (l : List Heap) (y : Int) : List Heap := if mDropOk l y then keptTo l y l.length else []
def mDropN (l : List Heap) (y : Int) : Int := if mDropOk l y then sumOf (dropF y) l else 0
def mDropC (l : List Heap) (y : Int) : Int := if heapsOk l then (if inB y 1800 2100 then 0 else 2) else 1
theorem mDrop_len (l : List Heap) (y : Int) {n : Nat} (h : l.length = n) (hn : n ≤ 1048576) : (mDrop l y).length ≤ 1048576 := by
  unfold mDrop
  split
  · have := keptTo_len l y l.length; omega
  · simp
theorem iDrop_any (A : Option Addr) (n c : Nat) (l : List Heap) (y : Int) (w : World) (hn : n ≤ 1048576) (hf : ∀ x ∈ l, x.fits) (hr : Arr Heap.cells 3 w w.heap.size A n l) :
    Calls Try.prog 20 #[.slice A n c, .int .i64 y] w fun e w' => ∃ v, e = .returned (.tuple #[v, .int .i64 (mDropN l y), .int .i64 (mDropC l y)]) ∧ Res Heap.cells 31 3 w' w.heap.size v (mDrop l y).length (mDrop l y) ∧ Below w.heap.size w w' := by
  have hl := hide hr.len
  cases hok : heapsOk l
  · have hm : Hid (mDrop l y = [] ∧ mDropN l y = 0 ∧ mDropC l y = 1) := hide (by simp [mDrop, mDropN, mDropC, mDropOk, hok])
    go_enter Try.func20, Try.ntmps20
    go_wp2_with (go_at_call 28; refine (iHeaps_any A n c l _ hn hf hr).mono ?_; rintro e whB ⟨rfl, hb⟩; have hB := hide (hb); clear hb)
    go_ret3; exact ⟨_, ret1s hm.out.2.1.symm hm.out.2.2.symm, by rw [hm.out.1]; exact Res.empty (Nat.zero_le _), hB.out⟩
  · cases hy : inB y 1800 2100
    · have hm : Hid (mDrop l y = [] ∧ mDropN l y = 0 ∧ mDropC l y = 2) := hide (by simp [mDrop, mDropN, mDropC, mDropOk, hok, hy])
      go_enter Try.func20, Try.ntmps20
      go_wp2_with (first | (go_at_call 28; refine (iHeaps_any A n c l _ hn hf hr).mono ?_; rintro e whB ⟨rfl, hb⟩; have hB := hide (hb); clear hb) | (go_at_call 36; refine (iYear_any _ _).mono ?_; rintro e w' ⟨rfl, rfl⟩))
      go_ret3; exact ⟨_, ret1s hm.out.2.1.symm hm.out.2.2.symm, by rw [hm.out.1]; exact Res.empty (Nat.zero_le _), hB.out⟩
    · have hm : Hid (mDrop l y = keptTo l y n ∧ mDropN l y = sumOf (dropF y) l ∧ mDropC l y = 0) := hide (by simp [mDrop, mDropN, mDropC, mDropOk, hok, hy, hl.out])
      have hbnd := hide (dropF_bound hok y)
      have hlen := hide (heapsOk_len hok)
      have hx0 := hide (fun (x : Heap) (hx : x ∈ l) => (heapsOk_at hok hx).2)
      have hyb := inB_true.1 hy
      go_enter Try.func20, Try.ntmps20
      go_wp2_with (first | (go_at_call 28; refine (iHeaps_any A n c l _ hn hf hr).mono ?_; rintro e whB ⟨rfl, hb⟩; have hB := hide (hb); clear hb) | (go_at_call 36; refine (iYear_any _ _).mono ?_; rintro e w' ⟨rfl, rfl⟩))
      clear hok hy
      go_loopw [7, 8, 20] (fun v q i wr => ∃ (k : Nat) (z : Int), k ≤ n ∧ i = .int .i64 k ∧ q = .int .i64 z ∧ Below w.heap.size w wr ∧ Own Heap.cells 31 3 wr w.heap.size v (keptTo l y k).length (keptTo l y k) ∧ Hid (z = sumOf (dropF y) (l.take k))) (fun _ _ i _ => n - (intOf i).toNat)
      case atStart => exact ⟨0, 0, Nat.zero_le _, rfl, rfl, hB.out.alloc hB.out.size _, Own.none_made _ hB.out.size, hide rfl⟩
      case round =>
        obtain ⟨k, z, hk, rfl, rfl, hb, hown, hz⟩ := hrel
        clear hB
        have hO := hide hown
        clear hown
        by_cases hlt : k < n
        · obtain ⟨b, o, x, rfl, hbl, hx, c0, c1, c2⟩ := hr.Heap hlt
          have d0 : wr.cell? ⟨b, o + k * 3, none⟩ = some (.string x.fSort) := (hb.cell (p := ⟨b, o + k * 3, none⟩) hbl).trans c0
          have d1 : wr.cell? ⟨b, o + k * 3 + 1, none⟩ = some (.int .i64 x.fYear) := (hb.cell (p := ⟨b, o + k * 3 + 1, none⟩) hbl).trans c1
          have d2 : wr.cell? ⟨b, o + k * 3 + 2, none⟩ = some (.int .i64 x.fBundles) := (hb.cell (p := ⟨b, o + k * 3 + 2, none⟩) hbl).trans c2
          have hX := hide hx
          clear hx c0 c1 c2
          have hB := hide hb
          clear hr hb hf
          have hzb : 0 ≤ z ∧ z ≤ 20000 := by rw [hz.out]; exact sumOf_take_bound (M := 1000) (N := 20) hbnd.out hlen.out (by omega) k
          have hxb := hx0.out x (List.mem_of_getElem? hX.out)
          have hul := keptTo_len l y k
          have i0 : (0 : Int) ≤ (k : Int) := by omega
          have i1 : (k : Int) < (n : Int) := by omega
          by_cases he : y ≤ x.fYear
          · have hu := hide (keptTo_yes hX.out he)
            have hs : Hid (dropF y x = 0) := hide (if_pos he)
            go_wp2_with (at_builtin; refine wpl_app1H (wr.heap.size + 1) (by simp) rfl (.tmp 28) (.tmp 30) rfl Try.underlying27 info_Heap' rfl (by omega) (by omega) Heap.len Heap.one rfl (hO.out.alloc' _) x _ rfl rfl (by omega) (hB.out.alloc hB.out.size _).size ?_; intro v2 w2 ho2 hg2 _)
            go_roundw
            case rel => exact ⟨k + 1, z, by omega, by go_num, rfl, (hO.out.alloc' _).grown (hB.out.alloc hB.out.size _) hg2, by rw [hu.out, List.length_append]; exact ho2, hide (by rw [sumOf_snoc hX.out, ← hz.out, hs.out, Int.add_zero])⟩
            case measure => simp [intOf]; omega
          · have hu := hide (keptTo_no hX.out he)
            have hs : Hid (dropF y x = x.fBundles) := hide (if_neg he)
            go_wp2
            go_roundw
            case rel => exact ⟨k + 1, z + x.fBundles, by omega, by go_num, rfl, hB.out.alloc hB.out.size _, by rw [hu.out]; exact hO.out.alloc' _, hide (by rw [sumOf_snoc hX.out, ← hz.out, hs.out])⟩
            case measure => simp [intOf]; omega
        · have hkn : k = n := by omega
          subst hkn
          have hB := hide hb
          clear hb
          obtain ⟨A1, c1, rfl, _⟩ := hO.out.slice
          go_wp2
          go_ret3
          exact ⟨_, ret1s (by rw [hm.out.2.1, hz.out, List.take_of_length_le (by rw [hl.out]; exact Nat.le_refl _)]) hm.out.2.2.symm, by rw [hm.out.1]; exact hO.out.res, hB.out⟩
/-! ### the sorts -/
def sortsTo (l : List Heap) (k : Nat) : List ByteArray := (l.take k).map (·.fSort)
theorem sortsTo_snoc {l : List Heap} {k : Nat} {x : Heap} (h : l[k]? = some x) : sortsTo l (k + 1) = sortsTo l k ++ [x.fSort] := by
  unfold sortsTo; rw [take_snoc h, List.map_append]; rfl
def mSorts (l : List Heap) : List ByteArray := if heapsOk l then dedup (l.map (·.fSort)) else []
def mSortsC (l : List Heap) : Int := if heapsOk l then 0 else 1
theorem mSorts_len (l : List Heap) {n : Nat} (h : l.length = n) (hn : n ≤ 1048576) : (mSorts l).length ≤ 1048576 := by
  unfold mSorts
  split
  · have := dedup_len (l.map (·.fSort)); rw [List.length_map] at this; omega
  · simp
theorem iSorts_any (A : Option Addr) (n c : Nat) (l : List Heap) (w : World) (hn : n ≤ 1048576) (hf : ∀ x ∈ l, x.fits) (hr : Arr Heap.cells 3 w w.heap.size A n l) :
    Calls Try.prog 21 #[.slice A n c] w fun e w' => ∃ v, e = .returned (.tuple #[v, .int .i64 (mSortsC l)]) ∧ Res strc 9 1 w' w.heap.size v (mSorts l).length (mSorts l) ∧ Below w.heap.size w w' := by
  have hl := hide hr.len
  cases hok : heapsOk l
  · have hm : Hid (mSorts l = [] ∧ mSortsC l = 1) := hide (by simp [mSorts, mSortsC, hok])
    go_enter Try.func21, Try.ntmps21
    go_wp2_with (go_at_call 28; refine (iHeaps_any A n c l _ hn hf hr).mono ?_; rintro e whB ⟨rfl, hb⟩; have hB := hide (hb); clear hb)
    go_ret2; exact ⟨_, by rw [hm.out.2]; rfl, by rw [hm.out.1]; exact Res.empty (Nat.zero_le _), hB.out⟩
  · have hm : Hid (mSorts l = dedup (l.map (·.fSort)) ∧ mSortsC l = 0) := hide (by simp [mSorts, mSortsC, hok])
    go_enter Try.func21, Try.ntmps21
    go_wp2_with (go_at_call 28; refine (iHeaps_any A n c l _ hn hf hr).mono ?_; rintro e whB ⟨rfl, hb⟩; have hB := hide (hb); clear hb)
    clear hok
    go_loopw [4, 13] (fun v i wr => ∃ k : Nat, k ≤ n ∧ i = .int .i64 k ∧ Below w.heap.size w wr ∧ Own strc 9 1 wr w.heap.size v k (sortsTo l k)) (fun _ i _ => n - (intOf i).toNat)
    case atStart => exact ⟨0, Nat.zero_le _, rfl, hB.out.alloc hB.out.size _, Own.none_made _ hB.out.size⟩
    case round =>
      obtain ⟨k, hk, rfl, hb, hown⟩ := hrel
      clear hB
      have hO := hide hown
      clear hown
      by_cases hlt : k < n
      · obtain ⟨b, o, x, rfl, hbl, hx, c0, c1, c2⟩ := hr.Heap hlt
        have d0 : wr.cell? ⟨b, o + k * 3, none⟩ = some (.string x.fSort) := (hb.cell (p := ⟨b, o + k * 3, none⟩) hbl).trans c0
        have d1 : wr.cell? ⟨b, o + k * 3 + 1, none⟩ = some (.int .i64 x.fYear) := (hb.cell (p := ⟨b, o + k * 3 + 1, none⟩) hbl).trans c1
        have d2 : wr.cell? ⟨b, o + k * 3 + 2, none⟩ = some (.int .i64 x.fBundles) := (hb.cell (p := ⟨b, o + k * 3 + 2, none⟩) hbl).trans c2
        have hX := hide hx
        clear hx c0 c1 c2
        have hB := hide hb
        clear hr hb hf
        have hu := hide (sortsTo_snoc hX.out)
        go_wp2_with (at_builtin; refine wpl_app1H (wr.heap.size + 1) (by simp) rfl (.tmp 17) (.tmp 20) rfl Try.underlying44 info_string' rfl (by omega) (by omega) strc_len strc_one rfl (hO.out.alloc' _) x.fSort _ rfl rfl (by omega) (hB.out.alloc hB.out.size _).size ?_; intro v2 w2 ho2 hg2 _)
        go_roundw
        case rel => exact ⟨k + 1, by omega, by go_num, (hO.out.alloc' _).grown (hB.out.alloc hB.out.size _) hg2, by rw [hu.out]; exact ho2⟩
        case measure => simp [intOf]; omega
      · have hkn : k = n := by omega
        subst hkn
        have hB := hide hb
        clear hb
        have hall : Hid (sortsTo l k = l.map (·.fSort)) := hide (by unfold sortsTo; rw [List.take_of_length_le (by rw [hl.out]; exact Nat.le_refl _)])
        go_wp2_with fail
        refine (compact_own k _ _ (sortsTo l k) _ hO.out).mono ?_
        rintro e w3 ⟨v3, rfl, ho3, hg3⟩
        have hB3 := hide (hO.out.grown hB.out hg3)
        have hO3 := hide ho3
        clear ho3 hg3
        go_wp2
        go_ret2
        exact ⟨_, by rw [hm.out.2]; rfl, by rw [hm.out.1, ← hall.out]; exact hO3.out.res, hB3.out⟩
end Go.Proofs.Ytpmldpegjnpoaaa
