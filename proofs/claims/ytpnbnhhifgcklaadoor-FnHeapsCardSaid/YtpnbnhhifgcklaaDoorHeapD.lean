/- Contracts: the oldest bundles of a sort are taken. -/
import Derived.Test.YtpnbnhhifgcklaaDoorHeapC
namespace Go.Proofs.YtpnbnhhifgcklaaDoor
open Go.ChangeShapes Go.WideShapes Go.ChangeAt Go.RowKit Go.Deep
set_option maxRecDepth 100000
/-! ### two rows side by side -/
def Far2 (a b : Value) : Prop := ∀ g, a.ownBlock = some g → b.ownBlock ≠ some g
theorem Far2.symm {a b : Value} (h : Far2 a b) : Far2 b a := fun g hb ha => h g ha hb
theorem Far2.ne {a b : Value} (h : Far2 a b) : a.ownBlock = none ∨ a.ownBlock ≠ b.ownBlock := by
  cases ha : a.ownBlock with
  | none => exact .inl rfl
  | some g => exact .inr (fun e => h g ha e.symm)
theorem Own.lt2 {α : Type} {cells : α → List Value} {e s : Nat} {w : World} {base : Nat} {v : Value} {n : Nat} {l : List α} (h : Own cells e s w base v n l) : ∀ g, v.ownBlock = some g → base ≤ g ∧ g < w.heap.size := h.2.lt
theorem Far2.moved {α : Type} {cells : α → List Value} {e s : Nat} {w : World} {base : Nat} {v v' u : Value} {n : Nat} {l : List α} {H : Nat} (hv : Far2 v v') (h : Own cells e s w base v' n l) (hat : u.ownBlock = v.ownBlock ∨ u.ownBlock = some H) (hH : w.heap.size ≤ H) : Far2 u v' := by
  intro g h1 h2
  rcases hat with e | e
  · rw [e] at h1; exact hv g h1 h2
  · rw [e] at h1
    injection h1 with h1
    have := (h.lt2 g h2).2
    omega
theorem Far2.new {α : Type} {cells : α → List Value} {e s : Nat} {w : World} {base : Nat} {v v' : Value} {n : Nat} {l : List α} {H : Nat} (h : Own cells e s w base v' n l) (hv : v.ownBlock = some H) (hH : w.heap.size ≤ H) : Far2 v v' := by
  intro g h1 h2
  rw [hv] at h1
  injection h1 with h1
  have := (h.lt2 g h2).2
  omega
/-- A block that was new is still there behind an append to another row. -/
theorem grown_new {W w2 : World} {O : Obj} {row : Option Nat} (hg : (W.alloc O).grownBy w2 row) (hne : row ≠ some W.heap.size) : w2.heap[W.heap.size]? = some O :=
  (hg.block W.heap.size (by simp) (fun e => hne e.symm)).trans (heap_alloc_new W O)
theorem Own.ne_new {α : Type} {cells : α → List Value} {e s : Nat} {w : World} {base : Nat} {v : Value} {n : Nat} {l : List α} (h : Own cells e s w base v n l) : v.ownBlock ≠ some w.heap.size := fun e => by have := (h.lt2 _ e).2; omega
/-! ### what is taken, and what is left -/
def bF (s : ByteArray) (x : Heap) : Int := if x.fSort = s then x.fBundles else 0
theorem bF_bound {l : List Heap} (h : heapsOk l = true) (s : ByteArray) : ∀ x ∈ l, 0 ≤ bF s x ∧ bF s x ≤ 1000 := by
  intro x hx
  have := heapsOk_at h hx
  unfold bF
  split <;> omega
def hSum (l : List Heap) (s : ByteArray) : Int := sumOf (bF s) l
def tkStep (s : ByteArray) (x : Heap) (t : List Heap × List Heap × Int) : List Heap × List Heap × Int :=
  if x.fSort = s then (if t.2.2 = 0 then (t.1 ++ [x], t.2.1, 0) else if x.fBundles ≤ t.2.2 then (t.1, t.2.1 ++ [x], t.2.2 - x.fBundles) else (t.1 ++ [⟨x.fSort, x.fYear, x.fBundles - t.2.2⟩], t.2.1 ++ [⟨x.fSort, x.fYear, t.2.2⟩], 0)) else (t.1 ++ [x], t.2.1, t.2.2)
def tkTo (l : List Heap) (s : ByteArray) (b : Int) : Nat → List Heap × List Heap × Int
  | 0 => ([], [], b)
  | k + 1 => match l[k]? with
    | some x => tkStep s x (tkTo l s b k)
    | none => tkTo l s b k
theorem tkTo_step {l : List Heap} {s : ByteArray} {b : Int} {k : Nat} {x : Heap} {L T : List Heap} {z : Int} (h : l[k]? = some x) (ht : tkTo l s b k = (L, T, z)) : tkTo l s b (k + 1) = tkStep s x (L, T, z) := by rw [tkTo, h, ← ht]
theorem tk_a {s : ByteArray} {x : Heap} {L T : List Heap} {z : Int} (h : ¬ x.fSort = s) : tkStep s x (L, T, z) = (L ++ [x], T, z) := if_neg h
theorem tk_b {s : ByteArray} {x : Heap} {L T : List Heap} (h : x.fSort = s) : tkStep s x (L, T, 0) = (L ++ [x], T, 0) := by unfold tkStep; rw [if_pos h]; rfl
theorem tk_c {s : ByteArray} {x : Heap} {L T : List Heap} {z : Int} (h : x.fSort = s) (h0 : 0 < z) (h1 : x.fBundles ≤ z) : tkStep s x (L, T, z) = (L, T ++ [x], z - x.fBundles) := by
  unfold tkStep; rw [if_pos h, if_neg (by show ¬ z = 0; omega), if_pos h1]
theorem tk_d {s : ByteArray} {x : Heap} {L T : List Heap} {z : Int} (h : x.fSort = s) (h0 : 0 < z) (h1 : z < x.fBundles) : tkStep s x (L, T, z) = (L ++ [⟨x.fSort, x.fYear, x.fBundles - z⟩], T ++ [⟨x.fSort, x.fYear, z⟩], 0) := by
  unfold tkStep; rw [if_pos h, if_neg (by show ¬ z = 0; omega), if_neg (by show ¬ x.fBundles ≤ z; omega)]
theorem tkTo_len (l : List Heap) (s : ByteArray) (b : Int) (k : Nat) : (tkTo l s b k).1.length ≤ k ∧ (tkTo l s b k).2.1.length ≤ k := by
  induction k with
  | zero => simp [tkTo]
  | succ k ih =>
    unfold tkTo
    split
    · unfold tkStep
      split
      · split
        · simp; omega
        · split <;> (simp; omega)
      · simp; omega
    · omega
def tkArgs (s : ByteArray) (b : Int) : Bool := isName s && inB b 1 20000
def mTkC (l : List Heap) (s : ByteArray) (b : Int) : Int := if heapsOk l then (if tkArgs s b then (if hSum l s = 0 then 3 else if hSum l s < b then 5 else 0) else 2) else 1
def mTkL (l : List Heap) (s : ByteArray) (b : Int) : List Heap := if mTkC l s b = 0 then (tkTo l s b l.length).1 else []
def mTkT (l : List Heap) (s : ByteArray) (b : Int) : List Heap := if mTkC l s b = 0 then (tkTo l s b l.length).2.1 else []
theorem mTk_none {l : List Heap} {s : ByteArray} {b : Int} {c : Int} (h : mTkC l s b = c) (hc : ¬ c = 0) : mTkL l s b = [] ∧ mTkT l s b = [] ∧ mTkC l s b = c := by
  refine ⟨?_, ?_, h⟩
  · unfold mTkL; rw [h, if_neg hc]
  · unfold mTkT; rw [h, if_neg hc]
theorem mTkL_len (l : List Heap) (s : ByteArray) (b : Int) {n : Nat} (h : l.length = n) (hn : n ≤ 1048576) : (mTkL l s b).length ≤ 1048576 := by
  unfold mTkL
  split
  · have := (tkTo_len l s b l.length).1; omega
  · simp
theorem mTkT_len (l : List Heap) (s : ByteArray) (b : Int) {n : Nat} (h : l.length = n) (hn : n ≤ 1048576) : (mTkT l s b).length ≤ 1048576 := by
  unfold mTkT
  split
  · have := (tkTo_len l s b l.length).2; omega
  · simp
theorem ret_sl {v v' : Value} {k : IntKind} {a b : Int} (h : a = b) : Ending.returned (.tuple #[v, v', .int k a]) = .returned (.tuple #[v, v', .int k b]) := by rw [h]
theorem apart_none {v v' : Value} : (0 < 0 → 0 < 0 → Apart v v') ∧ (0 < 0 → 0 < 0 → Apart v' v) := ⟨fun h => absurd h (by omega), fun h => absurd h (by omega)⟩
theorem ret2b {k : IntKind} {a a' : Int} {b b' : Bool} (h : a = a') (h' : b = b') : Ending.returned (.tuple #[.int k a, .bool b]) = .returned (.tuple #[.int k a', .bool b']) := by rw [h, h']
theorem iBundles_any (A : Option Addr) (n c : Nat) (l : List Heap) (s : ByteArray) (w : World) (hn : n ≤ 1048576) (hok : heapsOk l = true) (hr : Arr Heap.cells 3 w w.heap.size A n l) :
    Calls Tryd.prog 25 #[.slice A n c, .string s] w fun e w' => e = .returned (.tuple #[.int .i64 (hSum l s), .bool (decide (0 < hSum l s))]) ∧ Below w.heap.size w w' := by
  have hl := hide hr.len
  have hbnd := hide (bF_bound hok s)
  have hlen := hide (heapsOk_len hok)
  have hx0 := hide (fun (x : Heap) (hx : x ∈ l) => (heapsOk_at hok hx).2)
  clear hok
  go_enter Tryd.func25, Tryd.ntmps25
  go_wp2
  go_loopw [6, 7, 12] (fun q f i wr => ∃ (k : Nat) (z : Int) (b : Bool), k ≤ n ∧ i = .int .i64 k ∧ q = .int .i64 z ∧ f = .bool b ∧ Below w.heap.size w wr ∧ Hid (z = sumOf (bF s) (l.take k)) ∧ Hid (b = decide (0 < sumOf (bF s) (l.take k)))) (fun _ _ i _ => n - (intOf i).toNat)
  case atStart => exact ⟨0, 0, false, Nat.zero_le _, rfl, rfl, rfl, Below.refl _ _, hide rfl, hide rfl⟩
  case round =>
    obtain ⟨k, z, f, hk, rfl, rfl, rfl, hb, hz, hf⟩ := hrel
    by_cases hlt : k < n
    · obtain ⟨b, o, x, rfl, hbl, hx, c0, c1, c2⟩ := hr.Heap hlt
      have d0 : wr.cell? ⟨b, o + k * 3, none⟩ = some (.string x.fSort) := (hb.cell (p := ⟨b, o + k * 3, none⟩) hbl).trans c0
      have d1 : wr.cell? ⟨b, o + k * 3 + 1, none⟩ = some (.int .i64 x.fYear) := (hb.cell (p := ⟨b, o + k * 3 + 1, none⟩) hbl).trans c1
      have d2 : wr.cell? ⟨b, o + k * 3 + 2, none⟩ = some (.int .i64 x.fBundles) := (hb.cell (p := ⟨b, o + k * 3 + 2, none⟩) hbl).trans c2
      have hX := hide hx
      clear hx c0 c1 c2
      have hB := hide hb
      clear hr hb
      have hzb : 0 ≤ z ∧ z ≤ 20000 := by rw [hz.out]; exact sumOf_take_bound (M := 1000) (N := 20) hbnd.out hlen.out (by omega) k
      have hxb := hx0.out x (List.mem_of_getElem? hX.out)
      by_cases he : x.fSort = s
      · have e1 := str_eq he
        have hs : Hid (bF s x = x.fBundles) := hide (if_pos he)
        clear he
        go_wp2
        go_roundw
        case rel => exact ⟨k + 1, z + x.fBundles, true, by omega, by go_num, rfl, rfl, hB.out.alloc hB.out.size _, hide (by rw [sumOf_snoc hX.out, ← hz.out, hs.out]), hide (by rw [sumOf_snoc hX.out, ← hz.out, hs.out]; exact (decide_eq_true (by omega)).symm)⟩
        case measure => simp [intOf]; omega
      · have e1 := str_ne he
        have hs : Hid (bF s x = 0) := hide (if_neg he)
        clear he
        go_wp2
        go_roundw
        case rel => exact ⟨k + 1, z, f, by omega, by go_num, rfl, rfl, hB.out.alloc hB.out.size _, hide (by rw [sumOf_snoc hX.out, ← hz.out, hs.out, Int.add_zero]), hide (by rw [sumOf_snoc hX.out, hs.out, Int.add_zero]; exact hf.out)⟩
        case measure => simp [intOf]; omega
    · have hkn : k = n := by omega
      subst hkn
      have hB := hide hb
      clear hb
      have htk : Hid (l.take k = l) := hide (List.take_of_length_le (by rw [hl.out]; exact Nat.le_refl _))
      go_wp2
      go_ret2
      exact ⟨ret2b (by rw [hz.out, htk.out]; rfl) (by rw [hf.out, htk.out]; rfl), hB.out⟩
theorem sSum_any (A : Option Addr) (n c : Nat) (l : List Heap) (s : ByteArray) (w : World) (hn : n ≤ 1048576) (hok : heapsOk l = true) (hr : Arr Heap.cells 3 w w.heap.size A n l) :
    Calls Tryd.prog 23 #[.slice A n c, .string s] w fun e w' => e = .returned (.int .i64 (hSum l s)) ∧ Below w.heap.size w w' := by
  have hl := hide hr.len
  have hbnd := hide (bF_bound hok s)
  have hlen := hide (heapsOk_len hok)
  have hx0 := hide (fun (x : Heap) (hx : x ∈ l) => (heapsOk_at hok hx).2)
  clear hok
  go_enter Tryd.func23, Tryd.ntmps23
  go_wp2
  go_loopw [5, 6] (fun q i wr => ∃ (k : Nat) (z : Int), k ≤ n ∧ i = .int .i64 k ∧ q = .int .i64 z ∧ Below w.heap.size w wr ∧ Hid (z = sumOf (bF s) (l.take k))) (fun _ i _ => n - (intOf i).toNat)
  case atStart => exact ⟨0, 0, Nat.zero_le _, rfl, rfl, Below.refl _ _, hide rfl⟩
  case round =>
    obtain ⟨k, z, hk, rfl, rfl, hb, hz⟩ := hrel
    by_cases hlt : k < n
    · obtain ⟨b, o, x, rfl, hbl, hx, c0, c1, c2⟩ := hr.Heap hlt
      have d0 : wr.cell? ⟨b, o + k * 3, none⟩ = some (.string x.fSort) := (hb.cell (p := ⟨b, o + k * 3, none⟩) hbl).trans c0
      have d1 : wr.cell? ⟨b, o + k * 3 + 1, none⟩ = some (.int .i64 x.fYear) := (hb.cell (p := ⟨b, o + k * 3 + 1, none⟩) hbl).trans c1
      have d2 : wr.cell? ⟨b, o + k * 3 + 2, none⟩ = some (.int .i64 x.fBundles) := (hb.cell (p := ⟨b, o + k * 3 + 2, none⟩) hbl).trans c2
      have hX := hide hx
      clear hx c0 c1 c2
      have hB := hide hb
      clear hr hb
      have hzb : 0 ≤ z ∧ z ≤ 20000 := by rw [hz.out]; exact sumOf_take_bound (M := 1000) (N := 20) hbnd.out hlen.out (by omega) k
      have hxb := hx0.out x (List.mem_of_getElem? hX.out)
      have i0 : (0 : Int) ≤ (k : Int) := by omega
      have i1 : (k : Int) < (n : Int) := by omega
      by_cases he : x.fSort = s
      · have e1 := str_eq he
        have hs : Hid (bF s x = x.fBundles) := hide (if_pos he)
        clear he
        go_wp2
        go_roundw
        case rel => exact ⟨k + 1, z + x.fBundles, by omega, by go_num, rfl, hB.out, hide (by rw [sumOf_snoc hX.out, ← hz.out, hs.out])⟩
        case measure => simp [intOf]; omega
      · have e1 := str_ne he
        have hs : Hid (bF s x = 0) := hide (if_neg he)
        clear he
        go_wp2
        go_roundw
        case rel => exact ⟨k + 1, z, by omega, by go_num, rfl, hB.out, hide (by rw [sumOf_snoc hX.out, ← hz.out, hs.out, Int.add_zero])⟩
        case measure => simp [intOf]; omega
    · have hkn : k = n := by omega
      subst hkn
      have hB := hide hb
      clear hb
      go_wp2
      go_ret
      exact ⟨ret1 (by rw [hz.out, List.take_of_length_le (by rw [hl.out]; exact Nat.le_refl _)]; rfl), hB.out⟩
theorem sSort_any (A : Option Addr) (n c : Nat) (l : List Heap) (s : ByteArray) (w : World) (hn : n ≤ 1048576) (hf : ∀ x ∈ l, x.fits) (hz : s.size ≤ maxLen) (hr : Arr Heap.cells 3 w w.heap.size A n l) :
    Calls Tryd.prog 22 #[.slice A n c, .string s] w fun e w' => e = .returned (.int .i64 (if heapsOk l then (if isName s then 0 else 2) else 1)) ∧ Below w.heap.size w w' := by
  cases hok : heapsOk l
  · go_enter Tryd.func22, Tryd.ntmps22
    go_wp2_with (go_at_call 29; refine (sHeaps_any A n c l _ hn hf hr).mono ?_; rintro e whB ⟨rfl, hb⟩; have hB := hide (hb); clear hb)
    go_ret; exact ⟨rfl, hB.out⟩
  · cases hs : isName s
    · go_enter Tryd.func22, Tryd.ntmps22
      go_wp2_with (first | (go_at_call 29; refine (sHeaps_any A n c l _ hn hf hr).mono ?_; rintro e whB ⟨rfl, hb⟩; have hB := hide (hb); clear hb) | (go_at_call 39; refine (sName_any _ _ hz).mono ?_; rintro e w' ⟨rfl, rfl⟩))
      go_ret; exact ⟨rfl, hB.out⟩
    · go_enter Tryd.func22, Tryd.ntmps22
      go_wp2_with (first | (go_at_call 29; refine (sHeaps_any A n c l _ hn hf hr).mono ?_; rintro e whB ⟨rfl, hb⟩; have hB := hide (hb); clear hb) | (go_at_call 39; refine (sName_any _ _ hz).mono ?_; rintro e w' ⟨rfl, rfl⟩))
      go_ret; exact ⟨rfl, hB.out⟩
set_option maxHeartbeats 2000000 in
theorem iTake_any (A : Option Addr) (n c : Nat) (l : List Heap) (s : ByteArray) (q : Int) (w : World) (hn : n ≤ 1048576) (hf : ∀ x ∈ l, x.fits) (hz : s.size ≤ maxLen) (hr : Arr Heap.cells 3 w w.heap.size A n l) :
    Calls Tryd.prog 14 #[.slice A n c, .string s, .int .i64 q] w fun e w' => ∃ v v', e = .returned (.tuple #[v, v', .int .i64 (mTkC l s q)]) ∧ Res Heap.cells 27 3 w' w.heap.size v (mTkL l s q).length (mTkL l s q) ∧ Res Heap.cells 27 3 w' w.heap.size v' (mTkT l s q).length (mTkT l s q) ∧
      ((0 < (mTkL l s q).length → 0 < (mTkT l s q).length → Apart v v') ∧ (0 < (mTkT l s q).length → 0 < (mTkL l s q).length → Apart v' v)) ∧ Below w.heap.size w w' := by
  have hl := hide hr.len
  cases hok : heapsOk l
  · have hm := hide (mTk_none (l := l) (s := s) (b := q) (c := 1) (by unfold mTkC; rw [hok]; rfl) (by omega))
    go_enter Tryd.func14, Tryd.ntmps14
    go_wp2_with (first | (go_at_call 19; refine (iHeaps_any A n c l _ hn hf hr).mono ?_; rintro e whB1 ⟨rfl, hb⟩; have hB1 := hide (hb); clear hb) | (go_at_call 24; refine (iName_any _ _ hz).mono ?_; rintro e w' ⟨rfl, rfl⟩) | (go_at_call 30; refine (within_any _ _ _ _).mono ?_; rintro e w' ⟨rfl, rfl⟩))
    go_ret3; exact ⟨_, _, ret_sl hm.out.2.2.symm, by rw [hm.out.1]; exact Res.empty (Nat.zero_le _), by rw [hm.out.2.1]; exact Res.empty (Nat.zero_le _), by rw [hm.out.1, hm.out.2.1]; exact apart_none, hB1.out⟩
  · cases h0 : isName s
    · have hm := hide (mTk_none (l := l) (s := s) (b := q) (c := 2) (by unfold mTkC tkArgs; rw [hok, h0]; rfl) (by omega))
      go_enter Tryd.func14, Tryd.ntmps14
      go_wp2_with (first | (go_at_call 19; refine (iHeaps_any A n c l _ hn hf hr).mono ?_; rintro e whB1 ⟨rfl, hb⟩; have hB1 := hide (hb); clear hb) | (go_at_call 24; refine (iName_any _ _ hz).mono ?_; rintro e w' ⟨rfl, rfl⟩) | (go_at_call 30; refine (within_any _ _ _ _).mono ?_; rintro e w' ⟨rfl, rfl⟩))
      go_ret3; exact ⟨_, _, ret_sl hm.out.2.2.symm, by rw [hm.out.1]; exact Res.empty (Nat.zero_le _), by rw [hm.out.2.1]; exact Res.empty (Nat.zero_le _), by rw [hm.out.1, hm.out.2.1]; exact apart_none, hB1.out⟩
    · cases h1 : inB q 1 20000
      · have hm := hide (mTk_none (l := l) (s := s) (b := q) (c := 2) (by unfold mTkC tkArgs; rw [hok, h0, h1]; rfl) (by omega))
        go_enter Tryd.func14, Tryd.ntmps14
        go_wp2_with (first | (go_at_call 19; refine (iHeaps_any A n c l _ hn hf hr).mono ?_; rintro e whB1 ⟨rfl, hb⟩; have hB1 := hide (hb); clear hb) | (go_at_call 24; refine (iName_any _ _ hz).mono ?_; rintro e w' ⟨rfl, rfl⟩) | (go_at_call 30; refine (within_any _ _ _ _).mono ?_; rintro e w' ⟨rfl, rfl⟩))
        go_ret3; exact ⟨_, _, ret_sl hm.out.2.2.symm, by rw [hm.out.1]; exact Res.empty (Nat.zero_le _), by rw [hm.out.2.1]; exact Res.empty (Nat.zero_le _), by rw [hm.out.1, hm.out.2.1]; exact apart_none, hB1.out⟩
      · have hO := hide hok
        by_cases h2 : hSum l s = 0
        · have hm := hide (mTk_none (l := l) (s := s) (b := q) (c := 3) (by unfold mTkC tkArgs; rw [hok, h0, h1, h2]; rfl) (by omega))
          have t1 : decide (0 < hSum l s) = false := by rw [h2]; rfl
          have t2 : (hSum l s == 0) = true := by rw [h2]; rfl
          clear h2
          go_enter Tryd.func14, Tryd.ntmps14
          go_wp2_with (first | (go_at_call 19; refine (iHeaps_any A n c l _ hn hf hr).mono ?_; rintro e whB1 ⟨rfl, hb⟩; have hB1 := hide (hb); clear hb) | (go_at_call 24; refine (iName_any _ _ hz).mono ?_; rintro e w' ⟨rfl, rfl⟩) | (go_at_call 30; refine (within_any _ _ _ _).mono ?_; rintro e w' ⟨rfl, rfl⟩) | (go_at_call 25; refine (iBundles_any A n c l s _ hn hO.out (hr.go hB1.out)).mono ?_; rintro e whB2a ⟨rfl, hb⟩; have hB2a := hide (Below.up hB1.out hb); clear hb))
          go_ret3; exact ⟨_, _, ret_sl hm.out.2.2.symm, by rw [hm.out.1]; exact Res.empty (Nat.zero_le _), by rw [hm.out.2.1]; exact Res.empty (Nat.zero_le _), by rw [hm.out.1, hm.out.2.1]; exact apart_none, hB2a.out⟩
        · have hnn : 0 ≤ hSum l s := (sumOf_bound (bF_bound hok s)).1
          have t1 : decide (0 < hSum l s) = true := decide_eq_true (by omega)
          have t2 : (hSum l s == 0) = false := by simp [h2]
          by_cases h3 : hSum l s < q
          · have hm := hide (mTk_none (l := l) (s := s) (b := q) (c := 5) (by unfold mTkC tkArgs; rw [hok, h0, h1, if_neg h2, if_pos h3]; rfl) (by omega))
            clear h2
            go_enter Tryd.func14, Tryd.ntmps14
            go_wp2_with (first | (go_at_call 19; refine (iHeaps_any A n c l _ hn hf hr).mono ?_; rintro e whB1 ⟨rfl, hb⟩; have hB1 := hide (hb); clear hb) | (go_at_call 24; refine (iName_any _ _ hz).mono ?_; rintro e w' ⟨rfl, rfl⟩) | (go_at_call 30; refine (within_any _ _ _ _).mono ?_; rintro e w' ⟨rfl, rfl⟩) | (go_at_call 25; refine (iBundles_any A n c l s _ hn hO.out (hr.go hB1.out)).mono ?_; rintro e whB2a ⟨rfl, hb⟩; have hB2a := hide (Below.up hB1.out hb); clear hb))
            go_ret3; exact ⟨_, _, ret_sl hm.out.2.2.symm, by rw [hm.out.1]; exact Res.empty (Nat.zero_le _), by rw [hm.out.2.1]; exact Res.empty (Nat.zero_le _), by rw [hm.out.1, hm.out.2.1]; exact apart_none, hB2a.out⟩
          · have hc : Hid (mTkC l s q = 0) := hide (by unfold mTkC tkArgs; rw [hok, h0, h1, if_neg h2, if_neg h3]; rfl)
            have hmL : Hid (mTkL l s q = (tkTo l s q n).1) := hide (by unfold mTkL; rw [hc.out, if_pos rfl, hl.out])
            have hmT : Hid (mTkT l s q = (tkTo l s q n).2.1) := hide (by unfold mTkT; rw [hc.out, if_pos rfl, hl.out])
            have hq := inB_true.1 h1
            have hx0 := hide (fun (x : Heap) (hx : x ∈ l) => (heapsOk_at hok hx).2)
            have hfar : Hid (∀ W : World, Far2 (.slice (some ⟨W.heap.size, 0, none⟩) 0 0) (.slice (some ⟨W.heap.size + 1, 0, none⟩) 0 0)) := hide (fun W g ha hb => by
              simp [Value.ownBlock] at ha hb
              omega)
            clear h2
            go_enter Tryd.func14, Tryd.ntmps14
            go_wp2_with (first | (go_at_call 19; refine (iHeaps_any A n c l _ hn hf hr).mono ?_; rintro e whB1 ⟨rfl, hb⟩; have hB1 := hide (hb); clear hb) | (go_at_call 24; refine (iName_any _ _ hz).mono ?_; rintro e w' ⟨rfl, rfl⟩) | (go_at_call 30; refine (within_any _ _ _ _).mono ?_; rintro e w' ⟨rfl, rfl⟩) | (go_at_call 25; refine (iBundles_any A n c l s _ hn hO.out (hr.go hB1.out)).mono ?_; rintro e whB2a ⟨rfl, hb⟩; have hB2a := hide (Below.up hB1.out hb); clear hb))
            clear hok h0 h1 hf hz
            go_loopw [2, 11, 12, 42] (fun b v v' i wr => ∃ (k : Nat) (z : Int) (L T : List Heap), k ≤ n ∧ i = .int .i64 k ∧ b = .int .i64 z ∧ Below w.heap.size w wr ∧ Own Heap.cells 27 3 wr w.heap.size v L.length L ∧ Own Heap.cells 27 3 wr w.heap.size v' T.length T ∧ Far2 v v' ∧ 0 ≤ z ∧ z ≤ 20000 ∧ Hid (tkTo l s q k = (L, T, z))) (fun _ _ _ i _ => n - (intOf i).toNat)
            case atStart => exact ⟨0, q, [], [], Nat.zero_le _, rfl, rfl, (hB2a.out.alloc hB2a.out.size _).alloc (by simp; exact Nat.le_succ_of_le hB2a.out.size) _, (Own.none_made _ hB2a.out.size).alloc' _, by have := Own.none_made (cells := Heap.cells) (e := 27) (s := 3) (base := w.heap.size) (whB2a.alloc (.cells #[] 27)) (by simp; exact Nat.le_succ_of_le hB2a.out.size); simpa using this, hfar.out _, by omega, by omega, hide rfl⟩
            case round =>
              obtain ⟨k, z, L, T, hk, rfl, rfl, hb, hL, hT, hF, z0, z1, htk⟩ := hrel
              have hOL := hide hL
              have hOT := hide hT
              have hFar := hide hF
              have hLl : L.length ≤ k := by have := (tkTo_len l s q k).1; rw [htk.out] at this; exact this
              have hTl : T.length ≤ k := by have := (tkTo_len l s q k).2; rw [htk.out] at this; exact this
              clear hL hT hF
              by_cases hlt : k < n
              · obtain ⟨b, o, x, rfl, hbl, hx, c0, c1, c2⟩ := hr.Heap hlt
                have d0 : wr.cell? ⟨b, o + k * 3, none⟩ = some (.string x.fSort) := (hb.cell (p := ⟨b, o + k * 3, none⟩) hbl).trans c0
                have d1 : wr.cell? ⟨b, o + k * 3 + 1, none⟩ = some (.int .i64 x.fYear) := (hb.cell (p := ⟨b, o + k * 3 + 1, none⟩) hbl).trans c1
                have d2 : wr.cell? ⟨b, o + k * 3 + 2, none⟩ = some (.int .i64 x.fBundles) := (hb.cell (p := ⟨b, o + k * 3 + 2, none⟩) hbl).trans c2
                have hX := hide hx
                clear hx c0 c1 c2
                have hB := hide (hb.alloc hb.size (.cells #[.string x.fSort, .int .i64 x.fYear, .int .i64 x.fBundles] 27))
                have hBr := hide hb
                clear hr hb
                have hxb := hx0.out x (List.mem_of_getElem? hX.out)
                have i0 : (0 : Int) ≤ (k : Int) := by omega
                have i1 : (k : Int) < (n : Int) := by omega
                have hstep := hide (tkTo_step (s := s) (b := q) hX.out htk.out)
                have hOLa := hide (hOL.out.alloc' (.cells #[.string x.fSort, .int .i64 x.fYear, .int .i64 x.fBundles] 27))
                have hOTa := hide (hOT.out.alloc' (.cells #[.string x.fSort, .int .i64 x.fYear, .int .i64 x.fBundles] 27))
                by_cases he : x.fSort = s
                · have e1 := str_eq he
                  rcases Int.lt_or_le 0 z with hz0 | hz0
                  · rcases Int.lt_or_le z x.fBundles with hzx | hzx
                    · have hst := hide (hstep.out.trans (tk_d he hz0 hzx))
                      have hw1 : IntKind.i64.wrap (x.fBundles - z) = x.fBundles - z := IntWalk.i64_in _ (by omega)
                      have nz : ¬ x.fBundles ≤ z := by omega
                      have nz2 : 0 < x.fBundles - z := by omega
                      have hmin : min x.fBundles z = z := Int.min_eq_right (by omega)
                      clear he
                      go_wp2_with (first | (at_builtin; refine wpl_app1H (wr.heap.size + 1) (by simp) rfl (.tmp 56) (.tmp 63) rfl Tryd.underlying24 info_Heap' rfl (by omega) (by omega) Heap.len Heap.one rfl hOTa.out ⟨x.fSort, x.fYear, z⟩ _ rfl rfl (by omega) hB.out.size ?_; intro v2 w2 ho2 hg2 hat2; have hB2 := hide (hOTa.out.grown hB.out hg2); have hOL2 := hide (hOLa.out.kept hg2 hFar.out.ne); have hF2 := hide ((hFar.out.symm.moved hOLa.out hat2 (by simp)).symm); have hnew := grown_new hg2 hOT.out.ne_new; have m0 : w2.cell? ⟨wr.heap.size, 0, none⟩ = some (.string x.fSort) := (by rw [cell_of_row _ _ _ _ _ _ hnew]; rfl); have m1 : w2.cell? ⟨wr.heap.size, 1, none⟩ = some (.int .i64 x.fYear) := (by rw [cell_of_row _ _ _ _ _ _ hnew]; rfl); have m2 : w2.cell? ⟨wr.heap.size, 2, none⟩ = some (.int .i64 x.fBundles) := (by rw [cell_of_row _ _ _ _ _ _ hnew]; rfl); have mf : ∀ o, w2.frozen? ⟨wr.heap.size, o, none⟩ = false := (fun o => frozen_of_row w2 _ _ _ _ hnew); have ho2h := hide ho2; have hat2h := hide hat2; have hnewh := hide hnew; clear ho2 hg2 hat2 hnew) | (at_builtin; refine wpl_app1H w2.heap.size rfl rfl (.tmp 72) (.tmp 82) rfl Tryd.underlying24 info_Heap' rfl (by omega) (by omega) Heap.len Heap.one rfl hOL2.out ⟨x.fSort, x.fYear, x.fBundles - z⟩ _ rfl rfl (by omega) hB2.out.size ?_; intro v3 w3 ho3 hg3 hat3; have hB3 := hide (hOL2.out.grown hB2.out hg3); have hOT3 := hide (ho2h.out.kept hg3 hF2.out.symm.ne); have hF3 := hide (hF2.out.moved ho2h.out hat3 (by omega)); have ho3h := hide ho3; clear ho3 hg3 hat3))
                      go_roundw
                      case rel => exact ⟨k + 1, 0, L ++ [⟨x.fSort, x.fYear, x.fBundles - z⟩], T ++ [⟨x.fSort, x.fYear, z⟩], by omega, by go_num, by simp, hB3.out, by rw [List.length_append]; exact ho3h.out, by rw [List.length_append]; exact hOT3.out, hF3.out, by omega, by omega, hst⟩
                      case measure => simp [intOf]; omega
                    · have hst := hide (hstep.out.trans (tk_c he hz0 hzx))
                      have hw1 : IntKind.i64.wrap (z - x.fBundles) = z - x.fBundles := IntWalk.i64_in _ (by omega)
                      have hmin : min x.fBundles z = x.fBundles := Int.min_eq_left (by omega)
                      have nz : ¬ z < x.fBundles := by omega
                      have nz3 : 0 < x.fBundles := by omega
                      clear he
                      go_wp2_with (at_builtin; refine wpl_app1H (wr.heap.size + 1) (by simp) rfl (.tmp 56) (.tmp 63) rfl Tryd.underlying24 info_Heap' rfl (by omega) (by omega) Heap.len Heap.one rfl hOTa.out x _ rfl rfl (by omega) hB.out.size ?_; intro v2 w2 ho2 hg2 hat2; have hB2 := hide (hOTa.out.grown hB.out hg2); have hOL2 := hide (hOLa.out.kept hg2 hFar.out.ne); have hF2 := hide ((hFar.out.symm.moved hOLa.out hat2 (by simp)).symm); have hnew := grown_new hg2 hOT.out.ne_new; have m0 : w2.cell? ⟨wr.heap.size, 0, none⟩ = some (.string x.fSort) := (by rw [cell_of_row _ _ _ _ _ _ hnew]; rfl); have m1 : w2.cell? ⟨wr.heap.size, 1, none⟩ = some (.int .i64 x.fYear) := (by rw [cell_of_row _ _ _ _ _ _ hnew]; rfl); have m2 : w2.cell? ⟨wr.heap.size, 2, none⟩ = some (.int .i64 x.fBundles) := (by rw [cell_of_row _ _ _ _ _ _ hnew]; rfl); have mf : ∀ o, w2.frozen? ⟨wr.heap.size, o, none⟩ = false := (fun o => frozen_of_row w2 _ _ _ _ hnew); have ho2h := hide ho2; have hat2h := hide hat2; have hnewh := hide hnew; clear ho2 hg2 hat2 hnew)
                      go_roundw
                      case rel => exact ⟨k + 1, z - x.fBundles, L, T ++ [x], by omega, by go_num, rfl, hB2.out, hOL2.out, by rw [List.length_append]; exact ho2h.out, hF2.out, by omega, by omega, hst⟩
                      case measure => simp [intOf]; omega
                  · have hzz : z = 0 := by omega
                    subst hzz
                    have hst := hide (hstep.out.trans (tk_b he))
                    have hmin : min x.fBundles 0 = 0 := Int.min_eq_right (by omega)
                    have nz : ¬ x.fBundles ≤ 0 := by omega
                    have nz3 : 0 < x.fBundles := by omega
                    clear he
                    go_wp2_with (at_builtin; refine wpl_app1H (wr.heap.size + 1) (by simp) rfl (.tmp 72) (.tmp 82) rfl Tryd.underlying24 info_Heap' rfl (by omega) (by omega) Heap.len Heap.one rfl hOLa.out x _ rfl rfl (by omega) hB.out.size ?_; intro v3 w3 ho3 hg3 hat3; have hB3 := hide (hOLa.out.grown hB.out hg3); have hOT3 := hide (hOTa.out.kept hg3 hFar.out.symm.ne); have hF3 := hide (hFar.out.moved hOTa.out hat3 (by simp)); have ho3h := hide ho3; clear ho3 hg3 hat3)
                    go_roundw
                    case rel => exact ⟨k + 1, 0, L ++ [x], T, by omega, by go_num, rfl, hB3.out, by rw [List.length_append]; exact ho3h.out, hOT3.out, hF3.out, by omega, by omega, hst⟩
                    case measure => simp [intOf]; omega
                · have e1 := str_ne he
                  have hst := hide (hstep.out.trans (tk_a he))
                  have nz3 : 0 < x.fBundles := by omega
                  clear he
                  go_wp2_with (at_builtin; refine wpl_app1H (wr.heap.size + 1) (by simp) rfl (.tmp 72) (.tmp 82) rfl Tryd.underlying24 info_Heap' rfl (by omega) (by omega) Heap.len Heap.one rfl hOLa.out x _ rfl rfl (by omega) hB.out.size ?_; intro v3 w3 ho3 hg3 hat3; have hB3 := hide (hOLa.out.grown hB.out hg3); have hOT3 := hide (hOTa.out.kept hg3 hFar.out.symm.ne); have hF3 := hide (hFar.out.moved hOTa.out hat3 (by simp)); have ho3h := hide ho3; clear ho3 hg3 hat3)
                  go_roundw
                  case rel => exact ⟨k + 1, z, L ++ [x], T, by omega, by go_num, rfl, hB3.out, by rw [List.length_append]; exact ho3h.out, hOT3.out, hF3.out, by omega, by omega, hst⟩
                  case measure => simp [intOf]; omega
              · have hkn : k = n := by omega
                subst hkn
                have hB := hide hb
                clear hb
                obtain ⟨A1, c1, rfl, _⟩ := hOL.out.slice
                obtain ⟨A2, c2, rfl, _⟩ := hOT.out.slice
                have hres : Hid (mTkL l s q = L ∧ mTkT l s q = T) := hide ⟨by rw [hmL.out, htk.out], by rw [hmT.out, htk.out]⟩
                go_wp2
                go_ret3
                exact ⟨_, _, ret_sl hc.out.symm, by rw [hres.out.1]; exact hOL.out.res, by rw [hres.out.2]; exact hOT.out.res, ⟨fun _ _ => hFar.out.ne, fun _ _ => hFar.out.symm.ne⟩, hB.out⟩
end Go.Proofs.YtpnbnhhifgcklaaDoor
