/- Contracts: the text of an order. -/
import Derived.Test.YtnfbeobdoieeiaaDoorOrdA
import Derived.Test.YtnfbeobdoieeiaaDoorDec
namespace Go.Proofs.YtnfbeobdoieeiaaDoor
open Go.ChangeShapes Go.WideShapes Go.ChangeAt Go.RowKit Go.Deep
set_option maxRecDepth 100000
theorem cat_run (a b : ByteArray) (h : a.size + b.size ≤ 9223372036854775807) : ∀ W : World, (Op.stringOp .add a b).run Tryd.prog W = .ok (.string (a ++ b)) W := fun W => run_string_add_sum W a b h
theorem name_size {s : ByteArray} (h : isName s = true) : s.size ≤ 12 := by
  simp [isName] at h; exact h.1.2
theorem keepc {w w' : World} {b o : Nat} {v : Value} (hb : Below w.heap.size w w') (hlt : b < w.heap.size) (h : w.cell? ⟨b, o, none⟩ = some v) : w'.cell? ⟨b, o, none⟩ = some v := (hb.cell (p := ⟨b, o, none⟩) hlt).trans h
def orderB (x : Order) : ByteArray := x.fWho ++ ⟨#[58, 32]⟩ ++ decB x.fMany ++ ⟨#[32, 98, 97, 115, 107, 101, 116, 115, 32, 111, 102, 32]⟩ ++ decB x.fEach ++ ⟨#[32, 100, 97, 121, 115, 32, 102, 114, 111, 109, 32]⟩ ++ decB x.fFrom ++ ⟨#[32, 116, 111, 32]⟩ ++ decB x.fDue
def mOrderT (x : Order) : ByteArray := if x.ok = true then orderB x else ⟨#[]⟩
set_option maxHeartbeats 1000000 in
theorem iOrderT_any (x : Order) (w : World) (hx : x.fWho.size ≤ maxLen) (hG : Gl w) :
    Calls Tryd.prog 19 #[.agg #[.string x.fWho, .int .i64 x.fMany, .int .i64 x.fEach, .int .i64 x.fFrom, .int .i64 x.fDue]] w fun e w' => e = .returned (.string (mOrderT x)) ∧ Below w.heap.size w w' := by
  have hGh := hide hG
  clear hG
  have k0 : (w.alloc (.cells #[.string x.fWho, .int .i64 x.fMany, .int .i64 x.fEach, .int .i64 x.fFrom, .int .i64 x.fDue] 35)).cell? ⟨w.heap.size, 0, none⟩ = some (.string x.fWho) := by rw [cell_of_row _ _ _ _ _ _ (heap_alloc_new w _)]; rfl
  have k1 : (w.alloc (.cells #[.string x.fWho, .int .i64 x.fMany, .int .i64 x.fEach, .int .i64 x.fFrom, .int .i64 x.fDue] 35)).cell? ⟨w.heap.size, 1, none⟩ = some (.int .i64 x.fMany) := by rw [cell_of_row _ _ _ _ _ _ (heap_alloc_new w _)]; rfl
  have k2 : (w.alloc (.cells #[.string x.fWho, .int .i64 x.fMany, .int .i64 x.fEach, .int .i64 x.fFrom, .int .i64 x.fDue] 35)).cell? ⟨w.heap.size, 2, none⟩ = some (.int .i64 x.fEach) := by rw [cell_of_row _ _ _ _ _ _ (heap_alloc_new w _)]; rfl
  have k3 : (w.alloc (.cells #[.string x.fWho, .int .i64 x.fMany, .int .i64 x.fEach, .int .i64 x.fFrom, .int .i64 x.fDue] 35)).cell? ⟨w.heap.size, 3, none⟩ = some (.int .i64 x.fFrom) := by rw [cell_of_row _ _ _ _ _ _ (heap_alloc_new w _)]; rfl
  have k4 : (w.alloc (.cells #[.string x.fWho, .int .i64 x.fMany, .int .i64 x.fEach, .int .i64 x.fFrom, .int .i64 x.fDue] 35)).cell? ⟨w.heap.size, 4, none⟩ = some (.int .i64 x.fDue) := by rw [cell_of_row _ _ _ _ _ _ (heap_alloc_new w _)]; rfl
  have hB := hide ((Below.refl w.heap.size w).alloc (Nat.le_refl _) (.cells #[.string x.fWho, .int .i64 x.fMany, .int .i64 x.fEach, .int .i64 x.fFrom, .int .i64 x.fDue] 35))
  have hz : w.heap.size < (w.alloc (.cells #[.string x.fWho, .int .i64 x.fMany, .int .i64 x.fEach, .int .i64 x.fFrom, .int .i64 x.fDue] 35)).heap.size := by simp
  have q0 := hide k0
  have q1 := hide k1
  have q2 := hide k2
  have q3 := hide k3
  have q4 := hide k4
  cases hk : x.ok
  · have hm : Hid (mOrderT x = ⟨#[]⟩) := hide (by unfold mOrderT; rw [hk]; rfl)
    go_enter Tryd.func19, Tryd.ntmps19
    go_wp2_with (first | (go_at_call 36; refine (iOrder_any x _ hx).mono ?_; rintro e w2 ⟨rfl, hb⟩; have hB2 := hide (Below.up hB.out hb); have k0 := keepc hb hz q0.out; have k1 := keepc hb hz q1.out; have k2 := keepc hb hz q2.out; have k3 := keepc hb hz q3.out; have k4 := keepc hb hz q4.out; have hz2 := Nat.lt_of_lt_of_le hz hb.size; clear hb) | fail)
    go_ret
    exact ⟨by rw [hm.out]; rfl, hB2.out⟩
  have hm : Hid (mOrderT x = orderB x) := hide (by unfold mOrderT; rw [if_pos hk])
  obtain ⟨hn, ⟨b1, b2⟩, ⟨b3, b4⟩, b5, b6, b7⟩ := Order.ok_iff.1 hk
  have s0 := name_size hn
  have s1 := decB_size x.fMany (by omega) (by omega)
  have s2 := decB_size x.fEach (by omega) (by omega)
  have s3 := decB_size x.fFrom (by omega) (by omega)
  have s4 := decB_size x.fDue (by omega) (by omega)
  have t0 : (⟨#[58, 32]⟩ : ByteArray).size = 2 := rfl
  have t1 : (⟨#[32, 98, 97, 115, 107, 101, 116, 115, 32, 111, 102, 32]⟩ : ByteArray).size = 12 := rfl
  have t2 : (⟨#[32, 100, 97, 121, 115, 32, 102, 114, 111, 109, 32]⟩ : ByteArray).size = 11 := rfl
  have t3 : (⟨#[32, 116, 111, 32]⟩ : ByteArray).size = 4 := rfl
  have j0 := cat_run (x.fWho) (⟨#[58, 32]⟩) (by simp only [t0]; omega)
  have j1 := cat_run (x.fWho ++ ⟨#[58, 32]⟩) (decB x.fMany) (by simp only [ByteArray.size_append, t0]; omega)
  have j2 := cat_run (x.fWho ++ ⟨#[58, 32]⟩ ++ decB x.fMany) (⟨#[32, 98, 97, 115, 107, 101, 116, 115, 32, 111, 102, 32]⟩) (by simp only [ByteArray.size_append, t0, t1]; omega)
  have j3 := cat_run (x.fWho ++ ⟨#[58, 32]⟩ ++ decB x.fMany ++ ⟨#[32, 98, 97, 115, 107, 101, 116, 115, 32, 111, 102, 32]⟩) (decB x.fEach) (by simp only [ByteArray.size_append, t0, t1]; omega)
  have j4 := cat_run (x.fWho ++ ⟨#[58, 32]⟩ ++ decB x.fMany ++ ⟨#[32, 98, 97, 115, 107, 101, 116, 115, 32, 111, 102, 32]⟩ ++ decB x.fEach) (⟨#[32, 100, 97, 121, 115, 32, 102, 114, 111, 109, 32]⟩) (by simp only [ByteArray.size_append, t0, t1, t2]; omega)
  have j5 := cat_run (x.fWho ++ ⟨#[58, 32]⟩ ++ decB x.fMany ++ ⟨#[32, 98, 97, 115, 107, 101, 116, 115, 32, 111, 102, 32]⟩ ++ decB x.fEach ++ ⟨#[32, 100, 97, 121, 115, 32, 102, 114, 111, 109, 32]⟩) (decB x.fFrom) (by simp only [ByteArray.size_append, t0, t1, t2]; omega)
  have j6 := cat_run (x.fWho ++ ⟨#[58, 32]⟩ ++ decB x.fMany ++ ⟨#[32, 98, 97, 115, 107, 101, 116, 115, 32, 111, 102, 32]⟩ ++ decB x.fEach ++ ⟨#[32, 100, 97, 121, 115, 32, 102, 114, 111, 109, 32]⟩ ++ decB x.fFrom) (⟨#[32, 116, 111, 32]⟩) (by simp only [ByteArray.size_append, t0, t1, t2, t3]; omega)
  have j7 := cat_run (x.fWho ++ ⟨#[58, 32]⟩ ++ decB x.fMany ++ ⟨#[32, 98, 97, 115, 107, 101, 116, 115, 32, 111, 102, 32]⟩ ++ decB x.fEach ++ ⟨#[32, 100, 97, 121, 115, 32, 102, 114, 111, 109, 32]⟩ ++ decB x.fFrom ++ ⟨#[32, 116, 111, 32]⟩) (decB x.fDue) (by simp only [ByteArray.size_append, t0, t1, t2, t3]; omega)
  clear t0 t1 t2 t3
  go_enter Tryd.func19, Tryd.ntmps19
  go_wp2_with (first | (go_at_call 36; refine (iOrder_any x _ hx).mono ?_; rintro e w2 ⟨rfl, hb⟩; have hB2 := hide (Below.up hB.out hb); have k0 := keepc hb hz q0.out; have k1 := keepc hb hz q1.out; have k2 := keepc hb hz q2.out; have k3 := keepc hb hz q3.out; have k4 := keepc hb hz q4.out; have hz2 := Nat.lt_of_lt_of_le hz hb.size; clear hb) | fail)
  have p0 := hide k0
  have p1 := hide k1
  have p2 := hide k2
  have p3 := hide k3
  have p4 := hide k4
  have hC := hide (below_drewN (Below.refl w2.heap.size w2) 1)
  go_region_held3 (fun w' => w'.cell? ⟨w.heap.size, 0, none⟩ = some (.string x.fWho) ∧ w'.cell? ⟨w.heap.size, 1, none⟩ = some (.int .i64 x.fMany) ∧ w'.cell? ⟨w.heap.size, 2, none⟩ = some (.int .i64 x.fEach) ∧ w'.cell? ⟨w.heap.size, 3, none⟩ = some (.int .i64 x.fFrom) ∧ w'.cell? ⟨w.heap.size, 4, none⟩ = some (.int .i64 x.fDue)) (first | go_keep | exact ⟨keepc hC.out hz2 p0.out, keepc hC.out hz2 p1.out, keepc hC.out hz2 p2.out, keepc hC.out hz2 p3.out, keepc hC.out hz2 p4.out⟩)
    (first | (go_at_call 41; refine (iDec_any _ _ (by omega) (by omega) (by exact hGh.out.below (Below.up hB2.out hC.out))).mono ?_; rintro e w3 ⟨rfl, hb⟩; replace hC := hide (Below.up hC.out hb); clear hb) | fail)
  all_goals go_wp2
  all_goals go_ret
  all_goals exact ⟨by rw [hm.out]; rfl, Below.up hB2.out hC.out⟩
set_option maxHeartbeats 1000000 in
theorem sOrderT_any (x : Order) (w : World) (hx : x.fWho.size ≤ maxLen) :
    Calls Tryd.prog 20 #[.agg #[.string x.fWho, .int .i64 x.fMany, .int .i64 x.fEach, .int .i64 x.fFrom, .int .i64 x.fDue]] w fun e w' => e = .returned (.string (mOrderT x)) ∧ Below w.heap.size w w' := by
  have k0 : (w.alloc (.cells #[.string x.fWho, .int .i64 x.fMany, .int .i64 x.fEach, .int .i64 x.fFrom, .int .i64 x.fDue] 35)).cell? ⟨w.heap.size, 0, none⟩ = some (.string x.fWho) := by rw [cell_of_row _ _ _ _ _ _ (heap_alloc_new w _)]; rfl
  have k1 : (w.alloc (.cells #[.string x.fWho, .int .i64 x.fMany, .int .i64 x.fEach, .int .i64 x.fFrom, .int .i64 x.fDue] 35)).cell? ⟨w.heap.size, 1, none⟩ = some (.int .i64 x.fMany) := by rw [cell_of_row _ _ _ _ _ _ (heap_alloc_new w _)]; rfl
  have k2 : (w.alloc (.cells #[.string x.fWho, .int .i64 x.fMany, .int .i64 x.fEach, .int .i64 x.fFrom, .int .i64 x.fDue] 35)).cell? ⟨w.heap.size, 2, none⟩ = some (.int .i64 x.fEach) := by rw [cell_of_row _ _ _ _ _ _ (heap_alloc_new w _)]; rfl
  have k3 : (w.alloc (.cells #[.string x.fWho, .int .i64 x.fMany, .int .i64 x.fEach, .int .i64 x.fFrom, .int .i64 x.fDue] 35)).cell? ⟨w.heap.size, 3, none⟩ = some (.int .i64 x.fFrom) := by rw [cell_of_row _ _ _ _ _ _ (heap_alloc_new w _)]; rfl
  have k4 : (w.alloc (.cells #[.string x.fWho, .int .i64 x.fMany, .int .i64 x.fEach, .int .i64 x.fFrom, .int .i64 x.fDue] 35)).cell? ⟨w.heap.size, 4, none⟩ = some (.int .i64 x.fDue) := by rw [cell_of_row _ _ _ _ _ _ (heap_alloc_new w _)]; rfl
  have hB := hide ((Below.refl w.heap.size w).alloc (Nat.le_refl _) (.cells #[.string x.fWho, .int .i64 x.fMany, .int .i64 x.fEach, .int .i64 x.fFrom, .int .i64 x.fDue] 35))
  have hz : w.heap.size < (w.alloc (.cells #[.string x.fWho, .int .i64 x.fMany, .int .i64 x.fEach, .int .i64 x.fFrom, .int .i64 x.fDue] 35)).heap.size := by simp
  have q0 := hide k0
  have q1 := hide k1
  have q2 := hide k2
  have q3 := hide k3
  have q4 := hide k4
  cases hk : x.ok
  · have hm : Hid (mOrderT x = ⟨#[]⟩) := hide (by unfold mOrderT; rw [hk]; rfl)
    go_enter Tryd.func20, Tryd.ntmps20
    go_wp2_with (first | (go_at_call 38; refine (sOrder_any x w.heap.size 0 _ hx q0.out q1.out q2.out q3.out q4.out).mono ?_; rintro e w2 ⟨rfl, hb⟩; have hB2 := hide (Below.up hB.out hb); have k0 := keepc hb hz q0.out; have k1 := keepc hb hz q1.out; have k2 := keepc hb hz q2.out; have k3 := keepc hb hz q3.out; have k4 := keepc hb hz q4.out; have hz2 := Nat.lt_of_lt_of_le hz hb.size; clear hb) | fail)
    go_ret
    exact ⟨by rw [hm.out]; rfl, hB2.out⟩
  have hm : Hid (mOrderT x = orderB x) := hide (by unfold mOrderT; rw [if_pos hk])
  obtain ⟨hn, ⟨b1, b2⟩, ⟨b3, b4⟩, b5, b6, b7⟩ := Order.ok_iff.1 hk
  have s0 := name_size hn
  have s1 := decB_size x.fMany (by omega) (by omega)
  have s2 := decB_size x.fEach (by omega) (by omega)
  have s3 := decB_size x.fFrom (by omega) (by omega)
  have s4 := decB_size x.fDue (by omega) (by omega)
  have t0 : (⟨#[58, 32]⟩ : ByteArray).size = 2 := rfl
  have t1 : (⟨#[32, 98, 97, 115, 107, 101, 116, 115, 32, 111, 102, 32]⟩ : ByteArray).size = 12 := rfl
  have t2 : (⟨#[32, 100, 97, 121, 115, 32, 102, 114, 111, 109, 32]⟩ : ByteArray).size = 11 := rfl
  have t3 : (⟨#[32, 116, 111, 32]⟩ : ByteArray).size = 4 := rfl
  have j0 := cat_run (x.fWho) (⟨#[58, 32]⟩) (by simp only [t0]; omega)
  have j1 := cat_run (x.fWho ++ ⟨#[58, 32]⟩) (decB x.fMany) (by simp only [ByteArray.size_append, t0]; omega)
  have j2 := cat_run (x.fWho ++ ⟨#[58, 32]⟩ ++ decB x.fMany) (⟨#[32, 98, 97, 115, 107, 101, 116, 115, 32, 111, 102, 32]⟩) (by simp only [ByteArray.size_append, t0, t1]; omega)
  have j3 := cat_run (x.fWho ++ ⟨#[58, 32]⟩ ++ decB x.fMany ++ ⟨#[32, 98, 97, 115, 107, 101, 116, 115, 32, 111, 102, 32]⟩) (decB x.fEach) (by simp only [ByteArray.size_append, t0, t1]; omega)
  have j4 := cat_run (x.fWho ++ ⟨#[58, 32]⟩ ++ decB x.fMany ++ ⟨#[32, 98, 97, 115, 107, 101, 116, 115, 32, 111, 102, 32]⟩ ++ decB x.fEach) (⟨#[32, 100, 97, 121, 115, 32, 102, 114, 111, 109, 32]⟩) (by simp only [ByteArray.size_append, t0, t1, t2]; omega)
  have j5 := cat_run (x.fWho ++ ⟨#[58, 32]⟩ ++ decB x.fMany ++ ⟨#[32, 98, 97, 115, 107, 101, 116, 115, 32, 111, 102, 32]⟩ ++ decB x.fEach ++ ⟨#[32, 100, 97, 121, 115, 32, 102, 114, 111, 109, 32]⟩) (decB x.fFrom) (by simp only [ByteArray.size_append, t0, t1, t2]; omega)
  have j6 := cat_run (x.fWho ++ ⟨#[58, 32]⟩ ++ decB x.fMany ++ ⟨#[32, 98, 97, 115, 107, 101, 116, 115, 32, 111, 102, 32]⟩ ++ decB x.fEach ++ ⟨#[32, 100, 97, 121, 115, 32, 102, 114, 111, 109, 32]⟩ ++ decB x.fFrom) (⟨#[32, 116, 111, 32]⟩) (by simp only [ByteArray.size_append, t0, t1, t2, t3]; omega)
  have j7 := cat_run (x.fWho ++ ⟨#[58, 32]⟩ ++ decB x.fMany ++ ⟨#[32, 98, 97, 115, 107, 101, 116, 115, 32, 111, 102, 32]⟩ ++ decB x.fEach ++ ⟨#[32, 100, 97, 121, 115, 32, 102, 114, 111, 109, 32]⟩ ++ decB x.fFrom ++ ⟨#[32, 116, 111, 32]⟩) (decB x.fDue) (by simp only [ByteArray.size_append, t0, t1, t2, t3]; omega)
  clear t0 t1 t2 t3
  go_enter Tryd.func20, Tryd.ntmps20
  go_wp2_with (first | (go_at_call 38; refine (sOrder_any x w.heap.size 0 _ hx q0.out q1.out q2.out q3.out q4.out).mono ?_; rintro e w2 ⟨rfl, hb⟩; have hB2 := hide (Below.up hB.out hb); have k0 := keepc hb hz q0.out; have k1 := keepc hb hz q1.out; have k2 := keepc hb hz q2.out; have k3 := keepc hb hz q3.out; have k4 := keepc hb hz q4.out; have hz2 := Nat.lt_of_lt_of_le hz hb.size; clear hb) | fail)
  have p0 := hide k0
  have p1 := hide k1
  have p2 := hide k2
  have p3 := hide k3
  have p4 := hide k4
  have hC := hide (below_drewN (Below.refl w2.heap.size w2) 1)
  go_region_held3 (fun w' => w'.cell? ⟨w.heap.size, 0, none⟩ = some (.string x.fWho) ∧ w'.cell? ⟨w.heap.size, 1, none⟩ = some (.int .i64 x.fMany) ∧ w'.cell? ⟨w.heap.size, 2, none⟩ = some (.int .i64 x.fEach) ∧ w'.cell? ⟨w.heap.size, 3, none⟩ = some (.int .i64 x.fFrom) ∧ w'.cell? ⟨w.heap.size, 4, none⟩ = some (.int .i64 x.fDue)) (first | go_keep | exact ⟨keepc hC.out hz2 p0.out, keepc hC.out hz2 p1.out, keepc hC.out hz2 p2.out, keepc hC.out hz2 p3.out, keepc hC.out hz2 p4.out⟩)
    (first | (go_at_call 42; refine (sDec_any _ _ (by omega) (by omega)).mono ?_; rintro e w3 ⟨rfl, hb⟩; replace hC := hide (Below.up hC.out hb); clear hb) | fail)
  all_goals go_wp2
  all_goals go_ret
  all_goals exact ⟨by rw [hm.out]; rfl, Below.up hB2.out hC.out⟩
end Go.Proofs.YtnfbeobdoieeiaaDoor
