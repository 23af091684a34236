/- An order that is taken on: TakeOrder. -/
import Derived.Test.YtnfbeobdoieeiaaDoorOrdG
import Derived.Deep.DeepCutAuto
import Derived.Deep.RegionHeld3
namespace Go.Proofs.YtnfbeobdoieeiaaDoor
open Go.ChangeShapes Go.WideShapes Go.ChangeAt Go.RowKit Go.Deep
set_option maxRecDepth 100000
theorem Order.one : ∀ x, ∀ u ∈ Order.cells x, u.oneCell' = true := by intro x u hu; simp [Order.cells] at hu; rcases hu with rfl | rfl | rfl | rfl | rfl <;> rfl
theorem info_Order' : (Tryd.prog.info? 35).map (fun i => (i.zero, i.size, i.bytes)) = some (some (.agg #[.string ByteArray.empty, .int .i64 0, .int .i64 0, .int .i64 0, .int .i64 0]), 5, 48) := by kernel_rfl
theorem cloneOrder_any (A : Option Addr) (n c : Nat) (l : List Order) (w : World) (hn : n ≤ 1048576) (hr : Arr Order.cells 5 w w.heap.size A n l) :
    Calls Tryd.prog 37 #[.slice A n c] w fun e w' => ∃ v, e = .returned v ∧ Own Order.cells 35 5 w' w.heap.size v n l ∧ Below w.heap.size w w' := by
  cases A with
  | none =>
    have hn0 : n = 0 := by
      rcases Nat.eq_zero_or_pos n with h | h
      · exact h
      · obtain ⟨b, o, hA, _⟩ := hr.2 h
        cases hA
    subst hn0
    obtain rfl : l = [] := List.eq_nil_of_length_eq_zero hr.1
    have hq : ∀ W, (binOp .eql 24 (.slice none 0 c) (.slice none 0 0)).run Tryd.prog W = .ok (.bool true) W := fun W => Lib.run_eql_slice_nil (P := Tryd.prog) W 24 35 none 0 c 0 0 Tryd.underlying24
    clear hr
    go_enter Tryd.func37, Tryd.ntmps37
    go_wp2
    go_ret
    exact ⟨_, rfl, Own.nil_ _ _, Below.refl _ _⟩
  | some ad =>
    have hq : ∀ W, (binOp .eql 24 (.slice (some ad) n c) (.slice none 0 0)).run Tryd.prog W = .ok (.bool false) W := fun W => Lib.run_eql_slice_nil (P := Tryd.prog) W 24 35 (some ad) n c 0 0 Tryd.underlying24
    have hB := hide ((Below.refl w.heap.size w).alloc (Nat.le_refl _) (.cells #[] 35))
    have hO := hide (Own.none_made (cells := Order.cells) (e := 35) (s := 5) w (Nat.le_refl _))
    go_enter Tryd.func37, Tryd.ntmps37
    go_wp2_with (at_builtin; refine wpl_appN rfl (.tmp 5) (.tmp 6) rfl Tryd.underlying24 info_Order' rfl (by omega) (by omega) Order.len Order.one rfl hO.out rfl (hr.below hB.out) (by omega) hB.out.size ?_; intro v2 w2 ho2 hg2 _)
    go_ret
    rw [Nat.zero_add, List.nil_append] at ho2
    exact ⟨v2, rfl, ho2, grown_below hB.out hO.out hg2 hB.out.size⟩
theorem Own.alloc' {α : Type} {cells : α → List Value} {e s : Nat} {w : World} {base : Nat} {v : Value} {n : Nat} {l : List α} (h : Own cells e s w base v n l) (o : Obj) : Own cells e s (w.alloc o) base v n l := ⟨h.1, h.2.alloc o⟩
theorem Arr.one_at {α : Type} {cells : α → List Value} {s : Nat} {w : World} {g e : Nat} {y : α} {arr : Array Value} (harr : arr.toList = cells y) (hg : w.heap[g]? = some (.cells arr e)) : Arr cells s w (g + 1) (some ⟨g, 0, none⟩) 1 [y] := by
  refine ⟨rfl, fun _ => ⟨_, _, rfl, by omega, fun i x hx j u hu => ?_⟩⟩
  have hi : i = 0 := by have := lt_of_get hx; simp at this; exact this
  subst hi
  obtain rfl : y = x := by simpa using hx
  simp only [Nat.zero_mul, Nat.zero_add]
  rw [cell_of_row _ _ _ _ _ _ hg]
  rw [← harr] at hu
  simpa using hu
def KBox (w w1 : World) (x : Order) : Prop := ∀ W, Below w1.heap.size w1 W → W.cell? ⟨w.heap.size, 0, none⟩ = some (.string x.fWho) ∧ W.cell? ⟨w.heap.size, 1, none⟩ = some (.int .i64 x.fMany) ∧ W.cell? ⟨w.heap.size, 2, none⟩ = some (.int .i64 x.fEach) ∧ W.cell? ⟨w.heap.size, 3, none⟩ = some (.int .i64 x.fFrom) ∧ W.cell? ⟨w.heap.size, 4, none⟩ = some (.int .i64 x.fDue)
theorem kbox {w w1 : World} {x : Order} (hb : Below (w.alloc (.cells #[.string x.fWho, .int .i64 x.fMany, .int .i64 x.fEach, .int .i64 x.fFrom, .int .i64 x.fDue] 35)).heap.size (w.alloc (.cells #[.string x.fWho, .int .i64 x.fMany, .int .i64 x.fEach, .int .i64 x.fFrom, .int .i64 x.fDue] 35)) w1) : KBox w w1 x := by
  intro W hW
  have h := hb.trans (hW.mono hb.size)
  refine ⟨?_, ?_, ?_, ?_, ?_⟩
  all_goals (refine (h.cell (by simp)).trans ?_; rw [cell_of_row _ _ _ _ _ _ (heap_alloc_new w _)]; rfl)
theorem kmore {w w1 w2 : World} {x : Order} (h : KBox w w1 x) (hb : Below w1.heap.size w1 w2) : KBox w w2 x := fun W hW => h W (Below.up hb hW)
def mTakeOC (l : List Order) (x : Order) : Int := if ordersOk l then (if x.ok then (if l.length = 30 then 5 else if 0 < sumOf id (mPlan (l ++ [x])).late then 9 else 0) else 2) else 1
def mTakeO (l : List Order) (x : Order) : List Order := if mTakeOC l x = 0 then l ++ [x] else []
theorem orders_snoc {l : List Order} {x : Order} (h : ordersOk l = true) (hx : x.ok = true) (hl : l.length ≠ 30) : ordersOk (l ++ [x]) = true := by
  have h30 := orders_len h
  unfold ordersOk at h ⊢
  simp only [Bool.and_eq_true, decide_eq_true_eq] at h ⊢
  refine ⟨by rw [List.all_append, h.1]; simp [hx], by simp; omega⟩
theorem mTakeO_len (l : List Order) (x : Order) : (mTakeO l x).length ≤ 1048576 := by
  unfold mTakeO
  split
  · rename_i h
    have hok : ordersOk l = true := by
      cases hc : ordersOk l
      · simp [mTakeOC, hc] at h
      · rfl
    have := orders_len hok
    simp; omega
  · exact Nat.zero_le _
set_option maxHeartbeats 4000000 in
theorem sTakeO_any (A : Option Addr) (n c : Nat) (l : List Order) (w : World) (hn : n ≤ 1048576) (hf : ∀ x ∈ l, x.fits) (hr : Arr Order.cells 5 w w.heap.size A n l) (x : Order) (hx : x.fits) :
    Calls Tryd.prog 14 #[.slice A n c, .agg #[.string x.fWho, .int .i64 x.fMany, .int .i64 x.fEach, .int .i64 x.fFrom, .int .i64 x.fDue]] w fun e w' => ∃ v, e = .returned (.tuple #[v, .int .i64 (mTakeOC l x)]) ∧ Res Order.cells 35 5 w' w.heap.size v (mTakeO l x).length (mTakeO l x) ∧ Below w.heap.size w w' := by
  have hl := hide hr.len
  replace hx : x.fWho.size ≤ maxLen := hx
  cases hok : ordersOk l
  · have hm : Hid (mTakeOC l x = 1) := hide (by simp [mTakeOC, hok])
    have hm2 : Hid (mTakeO l x = []) := hide (by unfold mTakeO; rw [hm.out]; rfl)
    go_enter Tryd.func14, Tryd.ntmps14
    go_wp2_with (go_at_call 27; refine (sOrders_any A n c l _ hn hf (hr.go ((Below.refl _ _).alloc (Nat.le_refl _) _))).mono ?_; rintro e w1 ⟨rfl, hb⟩; have hK := hide (kbox hb); have hB := hide (below_alloc2 hb); obtain ⟨K0, K1, K2, K3, K4⟩ := hK.out _ (Below.refl _ _); clear hb)
    go_ret2; exact ⟨_, by rw [hm.out]; rfl, by rw [hm2.out]; exact Res.empty (Nat.zero_le _), hB.out⟩
  cases hxo : x.ok
  · have hm : Hid (mTakeOC l x = 2) := hide (by simp [mTakeOC, hok, hxo])
    have hm2 : Hid (mTakeO l x = []) := hide (by unfold mTakeO; rw [hm.out]; rfl)
    go_enter Tryd.func14, Tryd.ntmps14
    go_wp2_with (first | (go_at_call 27; refine (sOrders_any A n c l _ hn hf (hr.go ((Below.refl _ _).alloc (Nat.le_refl _) _))).mono ?_; rintro e w1 ⟨rfl, hb⟩; have hK := hide (kbox hb); have hB := hide (below_alloc2 hb); obtain ⟨K0, K1, K2, K3, K4⟩ := hK.out _ (Below.refl _ _); clear hb) | (go_at_call 38; refine (sOrder_any x w.heap.size 0 _ hx K0 K1 K2 K3 K4).mono ?_; rintro e w2 ⟨rfl, hb⟩; have hK2 := hide (kmore hK.out hb); have hB2 := hide (Below.up hB.out hb); clear hb K0 K1 K2 K3 K4))
    go_ret2; exact ⟨_, by rw [hm.out]; rfl, by rw [hm2.out]; exact Res.empty (Nat.zero_le _), hB2.out⟩
  by_cases h30 : n = 30
  · have hm : Hid (mTakeOC l x = 5) := hide (by simp [mTakeOC, hok, hxo, hl.out, h30])
    have hm2 : Hid (mTakeO l x = []) := hide (by unfold mTakeO; rw [hm.out]; rfl)
    have en : decide (30 ≤ (n : Int)) = true := by simp [h30]
    clear h30
    go_enter Tryd.func14, Tryd.ntmps14
    go_wp2_with (first | (go_at_call 27; refine (sOrders_any A n c l _ hn hf (hr.go ((Below.refl _ _).alloc (Nat.le_refl _) _))).mono ?_; rintro e w1 ⟨rfl, hb⟩; have hK := hide (kbox hb); have hB := hide (below_alloc2 hb); obtain ⟨K0, K1, K2, K3, K4⟩ := hK.out _ (Below.refl _ _); clear hb) | (go_at_call 38; refine (sOrder_any x w.heap.size 0 _ hx K0 K1 K2 K3 K4).mono ?_; rintro e w2 ⟨rfl, hb⟩; have hK2 := hide (kmore hK.out hb); have hB2 := hide (Below.up hB.out hb); clear hb K0 K1 K2 K3 K4))
    go_ret2; exact ⟨_, by rw [hm.out]; rfl, by rw [hm2.out]; exact Res.empty (Nat.zero_le _), hB2.out⟩
  have hln : Hid (l.length ≤ 30) := hide (orders_len hok)
  have hokx := hide (orders_snoc hok hxo (by rw [hl.out]; exact h30))
  have hLx := hide (mPlan_late hokx.out)
  obtain ⟨z, hz⟩ : ∃ z, Hid (z = sumOf id (mPlan (l ++ [x])).late) := ⟨_, hide rfl⟩
  have hm : Hid (mTakeOC l x = if 0 < z then 9 else 0) := hide (by simp [mTakeOC, hok, hxo, hl.out, h30, hz.out])
  have hn30 : n ≤ 30 := by rw [← hl.out]; exact hln.out
  have en : decide (30 ≤ (n : Int)) = false := by simp; omega
  go_enter Tryd.func14, Tryd.ntmps14
  go_upto_region 7 with (first | (go_at_call 27; refine (sOrders_any A n c l _ hn hf (hr.go ((Below.refl _ _).alloc (Nat.le_refl _) _))).mono ?_; rintro e w1 ⟨rfl, hb⟩; have hK := hide (kbox hb); have hB := hide (below_alloc2 hb); obtain ⟨K0, K1, K2, K3, K4⟩ := hK.out _ (Below.refl _ _); clear hb) | (go_at_call 38; refine (sOrder_any x w.heap.size 0 _ hx K0 K1 K2 K3 K4).mono ?_; rintro e w2 ⟨rfl, hb⟩; have hK2 := hide (kmore hK.out hb); have hB2 := hide (Below.up hB.out hb); clear hb K0 K1 K2 K3 K4))
  have hrw : Hid (∀ W, Below w2.heap.size w2 W → Arr Order.cells 5 W w2.heap.size A n l) := hide (fun W hW => (hr.go hB2.out).below hW)
  go_cut [6] (fun v wx => Below w.heap.size w wx ∧ Own Order.cells 35 5 wx w.heap.size v (n + 1) (l ++ [x]))
  case first =>
    clear hok hxo h30 en
    have hd : Below w2.heap.size w2 w2.drew := below_drewN (Below.refl _ _) 1
    have hB2d := hide (Below.up hB2.out hd)
    have hK3 := kmore hK2.out hd
    obtain ⟨K0, K1, K2, K3, K4⟩ := hK2.out _ (Below.refl _ _)
    unfold KBox at hK3
    clear hrw
    have hrw : Hid (∀ W, Below w2.drew.heap.size w2.drew W → Arr Order.cells 5 W w2.drew.heap.size A n l) := hide (fun W hW => (hr.go hB2d.out).below hW)
    go_region_held3 (fun w' => w'.cell? ⟨w.heap.size, 0, none⟩ = some (.string x.fWho) ∧ w'.cell? ⟨w.heap.size, 1, none⟩ = some (.int .i64 x.fMany) ∧ w'.cell? ⟨w.heap.size, 2, none⟩ = some (.int .i64 x.fEach) ∧ w'.cell? ⟨w.heap.size, 3, none⟩ = some (.int .i64 x.fFrom) ∧ w'.cell? ⟨w.heap.size, 4, none⟩ = some (.int .i64 x.fDue)) (first | go_keep | exact hK3 _ hb5 | exact hK3 _ hb3 | exact hK3 _ (hb3.alloc hb3.size _) | exact hK3 _ (Below.refl _ _) | exact hK3 _ ((Below.refl _ _).alloc (Nat.le_refl _) _) | exact hK3 _ (((Below.refl _ _).alloc (Nat.le_refl _) _).alloc (by simp) _)) (first | (refine step_appN rfl (.tmp 17) (.tmp 18) (by rfl) Tryd.underlying24 info_Order' rfl (by omega) (by omega) Order.len Order.one (by rfl) (Own.none_made (cells := Order.cells) (e := 35) (s := 5) w2.drew (Nat.le_refl _)) (by rfl) (hrw.out _ ((Below.refl w2.drew.heap.size w2.drew).alloc (Nat.le_refl _) _)) (by omega) (by simp <;> omega) ?_; intro v2 w3 ho2 hg2 _; rw [Nat.zero_add, List.nil_append] at ho2; have hb3 := grown_below ((Below.refl w2.drew.heap.size w2.drew).alloc (Nat.le_refl _) _) (Own.none_made (cells := Order.cells) (e := 35) (s := 5) w2.drew (Nat.le_refl _)) hg2 (by simp <;> omega)) | (refine step_appN rfl (.tmp 17) (.tmp 18) (by rfl) Tryd.underlying24 info_Order' rfl (by omega) (by omega) Order.len Order.one (by rfl) ((Own.none_made (cells := Order.cells) (e := 35) (s := 5) w2.drew (Nat.le_refl _)).alloc' (.cells #[.string x.fWho, .int .i64 x.fMany, .int .i64 x.fEach, .int .i64 x.fFrom, .int .i64 x.fDue] 35)) (by rfl) (hrw.out _ (((Below.refl w2.drew.heap.size w2.drew).alloc (Nat.le_refl _) _).alloc (by simp) _)) (by omega) (by simp <;> omega) ?_; intro v2 w3 ho2 hg2 _; rw [Nat.zero_add, List.nil_append] at ho2; have hb3 := grown_below (((Below.refl w2.drew.heap.size w2.drew).alloc (Nat.le_refl _) _).alloc (by simp) _) ((Own.none_made (cells := Order.cells) (e := 35) (s := 5) w2.drew (Nat.le_refl _)).alloc' (.cells #[.string x.fWho, .int .i64 x.fMany, .int .i64 x.fEach, .int .i64 x.fFrom, .int .i64 x.fDue] 35)) hg2 (by simp <;> omega); have hL : w3.heap[(w2.drew.alloc (.cells #[] 35)).heap.size]? = some (.cells #[.string x.fWho, .int .i64 x.fMany, .int .i64 x.fEach, .int .i64 x.fFrom, .int .i64 x.fDue] 35) := (hg2.block (w2.drew.alloc (.cells #[] 35)).heap.size (by simp) (fun e => by have := ((Own.none_made (cells := Order.cells) (e := 35) (s := 5) w2.drew (Nat.le_refl _)).lt' _ e.symm).2; simp at this <;> omega)).trans (heap_alloc_new (w2.drew.alloc (.cells #[] 35)) (.cells #[.string x.fWho, .int .i64 x.fMany, .int .i64 x.fEach, .int .i64 x.fFrom, .int .i64 x.fDue] 35)); have hL2 := hL; rw [World.size_alloc] at hL2) | (refine step_appN rfl (.tmp 17) (.tmp 18) (by rfl) Tryd.underlying24 info_Order' rfl (by omega) (by omega) Order.len Order.one (by rfl) (Own.none_made (cells := Order.cells) (e := 35) (s := 5) (w2.drew.alloc (.cells #[.string x.fWho, .int .i64 x.fMany, .int .i64 x.fEach, .int .i64 x.fFrom, .int .i64 x.fDue] 35)) (base := w2.drew.heap.size) (by simp)) (by rfl) (hrw.out _ (((Below.refl w2.drew.heap.size w2.drew).alloc (Nat.le_refl _) _).alloc (by simp) _)) (by omega) (by simp <;> omega) ?_; intro v2 w3 ho2 hg2 _; rw [Nat.zero_add, List.nil_append] at ho2; have hb3 := grown_below (((Below.refl w2.drew.heap.size w2.drew).alloc (Nat.le_refl _) _).alloc (by simp) _) (Own.none_made (cells := Order.cells) (e := 35) (s := 5) (w2.drew.alloc (.cells #[.string x.fWho, .int .i64 x.fMany, .int .i64 x.fEach, .int .i64 x.fFrom, .int .i64 x.fDue] 35)) (base := w2.drew.heap.size) (by simp)) hg2 (by simp <;> omega); have hL : w3.heap[w2.drew.heap.size]? = some (.cells #[.string x.fWho, .int .i64 x.fMany, .int .i64 x.fEach, .int .i64 x.fFrom, .int .i64 x.fDue] 35) := (hg2.block w2.drew.heap.size (by simp <;> omega) (fun e => by have := ((Own.none_made (cells := Order.cells) (e := 35) (s := 5) (w2.drew.alloc (.cells #[.string x.fWho, .int .i64 x.fMany, .int .i64 x.fEach, .int .i64 x.fFrom, .int .i64 x.fDue] 35)) (Nat.le_refl _)).lt' _ e.symm).1; simp at this <;> omega)).trans (grown_new (World.grownBy_alloc (w2.drew.alloc (.cells #[.string x.fWho, .int .i64 x.fMany, .int .i64 x.fEach, .int .i64 x.fFrom, .int .i64 x.fDue] 35)) (.cells #[] 35) none) (by simp)); have hL2 := hL) | (refine step_appN rfl (.tmp 17) (.tmp 18) (by rfl) Tryd.underlying24 info_Order' rfl (by omega) (by omega) Order.len Order.one (by rfl) ((show Own Order.cells 35 5 ((w2.drew.alloc (.cells #[.string x.fWho, .int .i64 x.fMany, .int .i64 x.fEach, .int .i64 x.fFrom, .int .i64 x.fDue] 35)).alloc (.cells #[] 35)) w2.drew.heap.size (.slice (some ⟨w2.drew.heap.size + 1, 0, none⟩) 0 0) 0 [] from (by have h9 := Own.none_made (cells := Order.cells) (e := 35) (s := 5) (w2.drew.alloc (.cells #[.string x.fWho, .int .i64 x.fMany, .int .i64 x.fEach, .int .i64 x.fFrom, .int .i64 x.fDue] 35)) (base := w2.drew.heap.size) (by simp); rw [World.size_alloc] at h9; exact h9))) (by rfl) (hrw.out _ (((Below.refl w2.drew.heap.size w2.drew).alloc (Nat.le_refl _) _).alloc (by simp) _)) (by omega) (by simp <;> omega) ?_; intro v2 w3 ho2 hg2 _; rw [Nat.zero_add, List.nil_append] at ho2; have hb3 := grown_below (((Below.refl w2.drew.heap.size w2.drew).alloc (Nat.le_refl _) _).alloc (by simp) _) ((show Own Order.cells 35 5 ((w2.drew.alloc (.cells #[.string x.fWho, .int .i64 x.fMany, .int .i64 x.fEach, .int .i64 x.fFrom, .int .i64 x.fDue] 35)).alloc (.cells #[] 35)) w2.drew.heap.size (.slice (some ⟨w2.drew.heap.size + 1, 0, none⟩) 0 0) 0 [] from (by have h9 := Own.none_made (cells := Order.cells) (e := 35) (s := 5) (w2.drew.alloc (.cells #[.string x.fWho, .int .i64 x.fMany, .int .i64 x.fEach, .int .i64 x.fFrom, .int .i64 x.fDue] 35)) (base := w2.drew.heap.size) (by simp); rw [World.size_alloc] at h9; exact h9))) hg2 (by simp <;> omega); have hL : w3.heap[w2.drew.heap.size]? = some (.cells #[.string x.fWho, .int .i64 x.fMany, .int .i64 x.fEach, .int .i64 x.fFrom, .int .i64 x.fDue] 35) := (hg2.block w2.drew.heap.size (by simp <;> omega) (fun e => by have := ((Own.none_made (cells := Order.cells) (e := 35) (s := 5) (w2.drew.alloc (.cells #[.string x.fWho, .int .i64 x.fMany, .int .i64 x.fEach, .int .i64 x.fFrom, .int .i64 x.fDue] 35)) (Nat.le_refl _)).lt' w2.drew.heap.size (by simpa using e.symm)).1; simp at this <;> omega)).trans (grown_new (World.grownBy_alloc (w2.drew.alloc (.cells #[.string x.fWho, .int .i64 x.fMany, .int .i64 x.fEach, .int .i64 x.fFrom, .int .i64 x.fDue] 35)) (.cells #[] 35) none) (by simp)); have hL2 := hL) | (refine step_app1 rfl (.tmp 19) (.tmp 21) (by rfl) Tryd.underlying24 info_Order' rfl (by omega) (by omega) Order.len Order.one (by rfl) ho2 x _ (by rfl) (by rfl) (by omega) hb3.size ?_; intro v3 w4 ho3 hg3 _; have hb5 := grown_below hb3 ho2 hg3 hb3.size) | (refine step_appN rfl (.tmp 19) (.tmp 21) (by rfl) Tryd.underlying24 info_Order' rfl (by omega) (by omega) Order.len Order.one (by rfl) ho2 (by rfl) (Arr.one_at (y := x) rfl hL) (by omega) hb3.size ?_; intro v3 w4 ho3 hg3 _; have hb5 := grown_below hb3 ho2 hg3 hb3.size) | (refine step_appN rfl (.tmp 19) (.tmp 21) (by rfl) Tryd.underlying24 info_Order' rfl (by omega) (by omega) Order.len Order.one (by rfl) ho2 (by rfl) (Arr.one_at (y := x) rfl hL2) (by omega) hb3.size ?_; intro v3 w4 ho3 hg3 _; have hb5 := grown_below hb3 ho2 hg3 hb3.size) | fail)
    all_goals (go_wp2_with fail; go_meet)
    all_goals exact ⟨Below.up hB2d.out hb5, ho3.less hB2d.out.size⟩
  case rest =>
    obtain ⟨hB0, hO0⟩ := hcut
    have hB3 := hide hB0
    have hO3 := hide hO0
    obtain ⟨A3, c3, hv3, _⟩ := hO0.slice
    subst hv3
    clear hB0 hO0 hok hxo h30 en
    by_cases t : 0 < z
    · have hm1 : Hid (mTakeOC l x = 9) := hide (by rw [hm.out, if_pos t])
      have hm2 : Hid (mTakeO l x = []) := hide (by unfold mTakeO; rw [hm1.out]; rfl)
      go_wp2_with (first | (go_at_call 28; refine (sPlan_any A3 (n + 1) c3 (l ++ [x]) _ (by omega) hokx.out (hO3.out.arr Order.len)).mono ?_; rintro e w5 ⟨v0, v1, v2, rfl, hT, hb1⟩; have hB4 := hide (Below.up hB3.out hb1); have hO4 := hide (hO3.out.below hb1); obtain ⟨A2, c2, hv2, _⟩ := hT.o2.slice; subst hv2; have hA2 := hide (hT.o2.arr i64c_len); clear hT hb1) | (go_at_call 29; refine (sSum_any A2 _ c2 _ _ (by have := hLx.out.2.1; have := hLx.out.2.2; omega) hLx.out.1 (by have := hLx.out.2.1; have := hLx.out.2.2; omega) hA2.out).mono ?_; rintro e w6 ⟨rfl, hb3⟩; rw [← hz.out]; have hB5 := hide (Below.up hB4.out hb3); have hO5 := hide (hO4.out.below hb3); clear hb3))
      go_ret2; exact ⟨_, by rw [hm1.out]; rfl, by rw [hm2.out]; exact Res.empty (Nat.zero_le _), hB5.out⟩
    · have hm1 : Hid (mTakeOC l x = 0) := hide (by rw [hm.out, if_neg t])
      have hm2 : Hid (mTakeO l x = l ++ [x]) := hide (by unfold mTakeO; rw [hm1.out]; rfl)
      have nt := decide_eq_false t
      go_wp2_with (first | (go_at_call 28; refine (sPlan_any A3 (n + 1) c3 (l ++ [x]) _ (by omega) hokx.out (hO3.out.arr Order.len)).mono ?_; rintro e w5 ⟨v0, v1, v2, rfl, hT, hb1⟩; have hB4 := hide (Below.up hB3.out hb1); have hO4 := hide (hO3.out.below hb1); obtain ⟨A2, c2, hv2, _⟩ := hT.o2.slice; subst hv2; have hA2 := hide (hT.o2.arr i64c_len); clear hT hb1) | (go_at_call 29; refine (sSum_any A2 _ c2 _ _ (by have := hLx.out.2.1; have := hLx.out.2.2; omega) hLx.out.1 (by have := hLx.out.2.1; have := hLx.out.2.2; omega) hA2.out).mono ?_; rintro e w6 ⟨rfl, hb3⟩; rw [← hz.out]; have hB5 := hide (Below.up hB4.out hb3); have hO5 := hide (hO4.out.below hb3); clear hb3))
      go_ret2; exact ⟨_, by rw [hm1.out]; rfl, by rw [hm2.out, List.length_append, hl.out]; exact hO5.out.res, hB5.out⟩
set_option maxHeartbeats 4000000 in
theorem iTakeO_any (A : Option Addr) (n c : Nat) (l : List Order) (w : World) (hn : n ≤ 1048576) (hf : ∀ x ∈ l, x.fits) (hr : Arr Order.cells 5 w w.heap.size A n l) (x : Order) (hx : x.fits) :
    Calls Tryd.prog 13 #[.slice A n c, .agg #[.string x.fWho, .int .i64 x.fMany, .int .i64 x.fEach, .int .i64 x.fFrom, .int .i64 x.fDue]] w fun e w' => ∃ v, e = .returned (.tuple #[v, .int .i64 (mTakeOC l x)]) ∧ Res Order.cells 35 5 w' w.heap.size v (mTakeO l x).length (mTakeO l x) ∧ Below w.heap.size w w' := by
  have hl := hide hr.len
  replace hx : x.fWho.size ≤ maxLen := hx
  cases hok : ordersOk l
  · have hm : Hid (mTakeOC l x = 1) := hide (by simp [mTakeOC, hok])
    have hm2 : Hid (mTakeO l x = []) := hide (by unfold mTakeO; rw [hm.out]; rfl)
    go_enter Tryd.func13, Tryd.ntmps13
    go_wp2_with (go_at_call 21; refine (iOrders_any A n c l _ hn hf (hr.go ((Below.refl _ _).alloc (Nat.le_refl _) _))).mono ?_; rintro e w1 ⟨rfl, hb⟩; have hK := hide (kbox hb); have hB := hide (below_alloc2 hb); obtain ⟨K0, K1, K2, K3, K4⟩ := hK.out _ (Below.refl _ _); clear hb)
    go_ret2; exact ⟨_, by rw [hm.out]; rfl, by rw [hm2.out]; exact Res.empty (Nat.zero_le _), hB.out⟩
  cases hxo : x.ok
  · have hm : Hid (mTakeOC l x = 2) := hide (by simp [mTakeOC, hok, hxo])
    have hm2 : Hid (mTakeO l x = []) := hide (by unfold mTakeO; rw [hm.out]; rfl)
    go_enter Tryd.func13, Tryd.ntmps13
    go_wp2_with (first | (go_at_call 21; refine (iOrders_any A n c l _ hn hf (hr.go ((Below.refl _ _).alloc (Nat.le_refl _) _))).mono ?_; rintro e w1 ⟨rfl, hb⟩; have hK := hide (kbox hb); have hB := hide (below_alloc2 hb); obtain ⟨K0, K1, K2, K3, K4⟩ := hK.out _ (Below.refl _ _); clear hb) | (go_at_call 36; refine (iOrder_any x _ hx).mono ?_; rintro e w2 ⟨rfl, hb⟩; have hK2 := hide (kmore hK.out hb); have hB2 := hide (Below.up hB.out hb); clear hb K0 K1 K2 K3 K4))
    go_ret2; exact ⟨_, by rw [hm.out]; rfl, by rw [hm2.out]; exact Res.empty (Nat.zero_le _), hB2.out⟩
  by_cases h30 : n = 30
  · have hm : Hid (mTakeOC l x = 5) := hide (by simp [mTakeOC, hok, hxo, hl.out, h30])
    have hm2 : Hid (mTakeO l x = []) := hide (by unfold mTakeO; rw [hm.out]; rfl)
    have en : ((n : Int) == 30) = true := by simp [h30]
    clear h30
    go_enter Tryd.func13, Tryd.ntmps13
    go_wp2_with (first | (go_at_call 21; refine (iOrders_any A n c l _ hn hf (hr.go ((Below.refl _ _).alloc (Nat.le_refl _) _))).mono ?_; rintro e w1 ⟨rfl, hb⟩; have hK := hide (kbox hb); have hB := hide (below_alloc2 hb); obtain ⟨K0, K1, K2, K3, K4⟩ := hK.out _ (Below.refl _ _); clear hb) | (go_at_call 36; refine (iOrder_any x _ hx).mono ?_; rintro e w2 ⟨rfl, hb⟩; have hK2 := hide (kmore hK.out hb); have hB2 := hide (Below.up hB.out hb); clear hb K0 K1 K2 K3 K4))
    go_ret2; exact ⟨_, by rw [hm.out]; rfl, by rw [hm2.out]; exact Res.empty (Nat.zero_le _), hB2.out⟩
  have hln : Hid (l.length ≤ 30) := hide (orders_len hok)
  have hokx := hide (orders_snoc hok hxo (by rw [hl.out]; exact h30))
  have hLx := hide (mPlan_late hokx.out)
  obtain ⟨z, hz⟩ : ∃ z, Hid (z = sumOf id (mPlan (l ++ [x])).late) := ⟨_, hide rfl⟩
  have hm : Hid (mTakeOC l x = if 0 < z then 9 else 0) := hide (by simp [mTakeOC, hok, hxo, hl.out, h30, hz.out])
  have hn30 : n ≤ 30 := by rw [← hl.out]; exact hln.out
  have en : ((n : Int) == 30) = false := by simp; omega
  go_enter Tryd.func13, Tryd.ntmps13
  go_upto_region 7 with (first | (go_at_call 21; refine (iOrders_any A n c l _ hn hf (hr.go ((Below.refl _ _).alloc (Nat.le_refl _) _))).mono ?_; rintro e w1 ⟨rfl, hb⟩; have hK := hide (kbox hb); have hB := hide (below_alloc2 hb); obtain ⟨K0, K1, K2, K3, K4⟩ := hK.out _ (Below.refl _ _); clear hb) | (go_at_call 36; refine (iOrder_any x _ hx).mono ?_; rintro e w2 ⟨rfl, hb⟩; have hK2 := hide (kmore hK.out hb); have hB2 := hide (Below.up hB.out hb); clear hb K0 K1 K2 K3 K4))
  have hrw : Hid (∀ W, Below w2.heap.size w2 W → Arr Order.cells 5 W w2.heap.size A n l) := hide (fun W hW => (hr.go hB2.out).below hW)
  go_cut [6] (fun v wx => Below w.heap.size w wx ∧ Own Order.cells 35 5 wx w.heap.size v (n + 1) (l ++ [x]))
  case first =>
    clear hok hxo h30 en
    have hd : Below w2.heap.size w2 w2.drew := below_drewN (Below.refl _ _) 1
    have hB2d := hide (Below.up hB2.out hd)
    have hK3 := kmore hK2.out hd
    obtain ⟨K0, K1, K2, K3, K4⟩ := hK2.out _ (Below.refl _ _)
    unfold KBox at hK3
    clear hrw
    have hrw : Hid (∀ W, Below w2.drew.heap.size w2.drew W → Arr Order.cells 5 W w2.drew.heap.size A n l) := hide (fun W hW => (hr.go hB2d.out).below hW)
    go_region_held3 (fun w' => w'.cell? ⟨w.heap.size, 0, none⟩ = some (.string x.fWho) ∧ w'.cell? ⟨w.heap.size, 1, none⟩ = some (.int .i64 x.fMany) ∧ w'.cell? ⟨w.heap.size, 2, none⟩ = some (.int .i64 x.fEach) ∧ w'.cell? ⟨w.heap.size, 3, none⟩ = some (.int .i64 x.fFrom) ∧ w'.cell? ⟨w.heap.size, 4, none⟩ = some (.int .i64 x.fDue)) (first | go_keep | exact hK3 _ hb5 | exact hK3 _ hb3 | exact hK3 _ (hb3.alloc hb3.size _) | exact hK3 _ (Below.refl _ _) | exact hK3 _ ((Below.refl _ _).alloc (Nat.le_refl _) _) | exact hK3 _ (((Below.refl _ _).alloc (Nat.le_refl _) _).alloc (by simp) _)) (first | (go_at_call 37; refine (cloneOrder_any A n c l _ hn (hr.go hB2d.out)).mono ?_; rintro e w3 ⟨v2, rfl, ho2, hb3⟩) | (go_at_call 37; refine (cloneOrder_any A n c l _ hn (hr.go (hB2d.out.alloc hB2d.out.size _))).mono ?_; rintro e w3 ⟨v2, rfl, ho2, hb2⟩; have hb3 := below_alloc2 hb2; replace ho2 := ho2.less (B := w2.drew.heap.size) (by simp); have hL := (hb2.block w2.drew.heap.size (by simp)).trans (heap_alloc_new w2.drew _)) | (refine step_app1 rfl (.tmp 19) (.tmp 21) (by rfl) Tryd.underlying24 info_Order' rfl (by omega) (by omega) Order.len Order.one (by rfl) ho2 x _ (by rfl) (by rfl) (by omega) hb3.size ?_; intro v3 w4 ho3 hg3 _; have hb5 := grown_below hb3 ho2 hg3 hb3.size) | (refine step_appN rfl (.tmp 19) (.tmp 21) (by rfl) Tryd.underlying24 info_Order' rfl (by omega) (by omega) Order.len Order.one (by rfl) ho2 (by rfl) (Arr.one_at (y := x) rfl hL) (by omega) hb3.size ?_; intro v3 w4 ho3 hg3 _; have hb5 := grown_below hb3 ho2 hg3 hb3.size) | fail)
    all_goals (go_wp2_with fail; go_meet)
    all_goals exact ⟨Below.up hB2d.out hb5, ho3.less hB2d.out.size⟩
  case rest =>
    obtain ⟨hB0, hO0⟩ := hcut
    have hB3 := hide hB0
    have hO3 := hide hO0
    obtain ⟨A3, c3, hv3, _⟩ := hO0.slice
    subst hv3
    clear hB0 hO0 hok hxo h30 en
    by_cases t : 0 < z
    · have hm1 : Hid (mTakeOC l x = 9) := hide (by rw [hm.out, if_pos t])
      have hm2 : Hid (mTakeO l x = []) := hide (by unfold mTakeO; rw [hm1.out]; rfl)
      go_wp2_with (first | (go_at_call 25; refine (iPlan_any A3 (n + 1) c3 (l ++ [x]) _ (by omega) hokx.out (hO3.out.arr Order.len)).mono ?_; rintro e w5 ⟨v0, v1, v2, rfl, hT, hb1⟩; have hB4 := hide (Below.up hB3.out hb1); have hO4 := hide (hO3.out.below hb1); obtain ⟨A2, c2, hv2, _⟩ := hT.o2.slice; subst hv2; have hA2 := hide (hT.o2.arr i64c_len); clear hT hb1) | (go_at_call 26; refine (iSum_any A2 _ c2 _ _ (by have := hLx.out.2.1; have := hLx.out.2.2; omega) hLx.out.1 (by have := hLx.out.2.1; have := hLx.out.2.2; omega) hA2.out).mono ?_; rintro e w6 ⟨rfl, hb3⟩; rw [← hz.out]; have hB5 := hide (Below.up hB4.out hb3); have hO5 := hide (hO4.out.below hb3); clear hb3))
      go_ret2; exact ⟨_, by rw [hm1.out]; rfl, by rw [hm2.out]; exact Res.empty (Nat.zero_le _), hB5.out⟩
    · have hm1 : Hid (mTakeOC l x = 0) := hide (by rw [hm.out, if_neg t])
      have hm2 : Hid (mTakeO l x = l ++ [x]) := hide (by unfold mTakeO; rw [hm1.out]; rfl)
      have nt := decide_eq_false t
      go_wp2_with (first | (go_at_call 25; refine (iPlan_any A3 (n + 1) c3 (l ++ [x]) _ (by omega) hokx.out (hO3.out.arr Order.len)).mono ?_; rintro e w5 ⟨v0, v1, v2, rfl, hT, hb1⟩; have hB4 := hide (Below.up hB3.out hb1); have hO4 := hide (hO3.out.below hb1); obtain ⟨A2, c2, hv2, _⟩ := hT.o2.slice; subst hv2; have hA2 := hide (hT.o2.arr i64c_len); clear hT hb1) | (go_at_call 26; refine (iSum_any A2 _ c2 _ _ (by have := hLx.out.2.1; have := hLx.out.2.2; omega) hLx.out.1 (by have := hLx.out.2.1; have := hLx.out.2.2; omega) hA2.out).mono ?_; rintro e w6 ⟨rfl, hb3⟩; rw [← hz.out]; have hB5 := hide (Below.up hB4.out hb3); have hO5 := hide (hO4.out.below hb3); clear hb3))
      go_ret2; exact ⟨_, by rw [hm1.out]; rfl, by rw [hm2.out, List.length_append, hl.out]; exact hO5.out.res, hB5.out⟩
end Go.Proofs.YtnfbeobdoieeiaaDoor
