/- The text of a desk, both sides. No statement is proved here. -/
import Derived.Test.YtceajnoppdfeaaaGreatDoorVdB
import Derived.Deep.RegionHeld3
namespace Go.Proofs.YtceajnoppdfeaaaGreatDoor
open Go.ChangeShapes Go.WideShapes Go.ChangeAt Go.RowKit Go.Deep
set_option maxRecDepth 100000
def deskB (x : DeskV) : ByteArray := (⟨#[115, 116, 114, 111, 107, 101, 32]⟩ : ByteArray) ++ x.fStroke ++ ⟨#[44, 32]⟩ ++ decB x.fStakes ++ ⟨#[32, 115, 116, 97, 107, 101, 115, 44, 32]⟩ ++ decB (x.n : Int) ++ ⟨#[32, 107, 105, 110, 100, 115, 44, 32]⟩ ++ decB (x.n' : Int) ++ ⟨#[32, 104, 101, 97, 112, 115]⟩
def mDeskT (x : DeskV) : ByteArray := if deskOk x = true then deskB x else ⟨#[]⟩
theorem stroke_size {s : ByteArray} (h : strokeOk s = true) : s.size ≤ 12 := by simp [strokeOk] at h; exact h.1.2
theorem desk_parts {x : DeskV} {w : World} {B : Nat} (hx : x.good w B) (h : deskOk x = true) : x.fStroke.size ≤ 12 ∧ (3 ≤ x.fStakes ∧ x.fStakes ≤ 60) ∧ x.n ≤ 4 ∧ x.n' ≤ 20 := by
  have hk := hx.kinds.len
  have hh := hx.heaps.len
  simp only [deskOk, Bool.and_eq_true] at h
  obtain ⟨⟨⟨⟨h1, h2⟩, h3⟩, h4⟩, _⟩ := h
  have h3' : x.kinds.length ≤ 4 := by unfold kindsOk at h3; simp at h3; exact h3.2
  have h4' : x.heaps.length ≤ 20 := by unfold heapsOk at h4; simp at h4; exact h4.2
  exact ⟨stroke_size h1, inB_true.1 h2, by omega, by omega⟩
set_option maxHeartbeats 4000000 in
theorem iDeskT_any (x : DeskV) (w : World) (hG : Gl w) (hx : x.good w w.heap.size) (hs0 : x.fStroke.size ≤ maxLen) :
    Calls Tryz.prog 11 #[.agg #[.string x.fStroke, .int .i64 x.fStakes, .slice x.A x.n x.c, .slice x.A' x.n' x.c', .string x.fLog]] w fun e w' => e = .returned (.string (mDeskT x)) ∧ Below w.heap.size w w' := by
  have hGh := hide hG
  clear hG
  have hpar := hide (fun h => desk_parts hx h)
  go_enter Tryz.func11, Tryz.ntmps11
  go_upto_region 1 with fail
  refine nameW' (φ := fun W => W.heap[w.heap.size]? = some (.cells #[.string x.fStroke, .int .i64 x.fStakes, .slice x.A x.n x.c, .slice x.A' x.n' x.c', .string x.fLog] 31 (0, 0)) ∧ x.good W W.heap.size ∧ Below w.heap.size w W) ⟨heap_alloc_new w _, hx.go ((Below.refl _ _).alloc (Nat.le_refl _) _), (Below.refl _ _).alloc (Nat.le_refl _) _⟩ ?_
  rintro W0 ⟨n0, n1, n2⟩
  have hK := hide n0
  have hX := hide n1
  have hB := hide n2
  clear n0 n1 n2 hx
  obtain ⟨k, hk⟩ : ∃ k, k = w.heap.size := ⟨_, rfl⟩
  rw [← hk] at hK ⊢
  have hkk := hide hk
  clear hk
  obtain ⟨c0, c1, c2, c3, c4, cf⟩ := row5 hK.out
  go_wp2_with fail
  refine (iValid_any x _ (hGh.out.below hB.out) hX.out hs0).mono ?_
  rintro e w1 ⟨rfl, hb⟩
  replace hB := hide (Below.up hB.out hb)
  replace hK := hide (keepr hK.out hb)
  clear hb c0 c1 c2 c3 c4 cf
  cases hok : deskOk x
  · have hm : Hid (mDeskT x = ⟨#[]⟩) := hide (by unfold mDeskT; rw [hok]; rfl)
    go_wp2
    go_ret
    exact ⟨by rw [hm.out]; rfl, hB.out⟩
  · have hm : Hid (mDeskT x = deskB x) := hide (by unfold mDeskT; rw [if_pos hok])
    obtain ⟨hs1, ⟨q0, q1⟩, q2, q3⟩ := hpar.out hok
    go_upto_region 3 with fail
    obtain ⟨W1, hW1⟩ : ∃ W1 : World, W1 = w1 := ⟨_, rfl⟩
    rw [← hW1] at hB hK ⊢
    clear hW1
    have s1 := decB_size x.fStakes (by omega) (by omega)
    have s2 := decB_size (x.n : Int) (by omega) (by omega)
    have s3 := decB_size (x.n' : Int) (by omega) (by omega)
    obtain ⟨S, hS⟩ : ∃ S, S = x.fStroke := ⟨_, rfl⟩
    obtain ⟨d1, hd1⟩ : ∃ d, d = decB x.fStakes := ⟨_, rfl⟩
    obtain ⟨d2, hd2⟩ : ∃ d, d = decB (x.n : Int) := ⟨_, rfl⟩
    obtain ⟨d3, hd3⟩ : ∃ d, d = decB (x.n' : Int) := ⟨_, rfl⟩
    have hD1 := hide hd1.symm
    have hD2 := hide hd2.symm
    have hD3 := hide hd3.symm
    rw [← hS] at hs1 hK
    rw [← hd1] at s1
    rw [← hd2] at s2
    rw [← hd3] at s3
    have hSS := hide hS
    clear hS hd1 hd2 hd3
    have l0 : (⟨#[115, 116, 114, 111, 107, 101, 32]⟩ : ByteArray).size = 7 := rfl
    have l1 : (⟨#[44, 32]⟩ : ByteArray).size = 2 := rfl
    have l2 : (⟨#[32, 115, 116, 97, 107, 101, 115, 44, 32]⟩ : ByteArray).size = 9 := rfl
    have l3 : (⟨#[32, 107, 105, 110, 100, 115, 44, 32]⟩ : ByteArray).size = 8 := rfl
    have l4 : (⟨#[32, 104, 101, 97, 112, 115]⟩ : ByteArray).size = 6 := rfl
    have z0 : (⟨#[115, 116, 114, 111, 107, 101, 32]⟩ : ByteArray).size ≤ 7 := by omega
    have j1 := cat_run ((⟨#[115, 116, 114, 111, 107, 101, 32]⟩ : ByteArray)) S (by omega)
    have z1 : ((⟨#[115, 116, 114, 111, 107, 101, 32]⟩ : ByteArray) ++ S).size ≤ 19 := by rw [ByteArray.size_append]; omega
    have j2 := cat_run ((⟨#[115, 116, 114, 111, 107, 101, 32]⟩ : ByteArray) ++ S) ⟨#[44, 32]⟩ (by omega)
    have z2 : ((⟨#[115, 116, 114, 111, 107, 101, 32]⟩ : ByteArray) ++ S ++ ⟨#[44, 32]⟩).size ≤ 21 := by rw [ByteArray.size_append]; omega
    have j3 := cat_run ((⟨#[115, 116, 114, 111, 107, 101, 32]⟩ : ByteArray) ++ S ++ ⟨#[44, 32]⟩) d1 (by omega)
    have z3 : ((⟨#[115, 116, 114, 111, 107, 101, 32]⟩ : ByteArray) ++ S ++ ⟨#[44, 32]⟩ ++ d1).size ≤ 42 := by rw [ByteArray.size_append]; omega
    have j4 := cat_run ((⟨#[115, 116, 114, 111, 107, 101, 32]⟩ : ByteArray) ++ S ++ ⟨#[44, 32]⟩ ++ d1) ⟨#[32, 115, 116, 97, 107, 101, 115, 44, 32]⟩ (by omega)
    have z4 : ((⟨#[115, 116, 114, 111, 107, 101, 32]⟩ : ByteArray) ++ S ++ ⟨#[44, 32]⟩ ++ d1 ++ ⟨#[32, 115, 116, 97, 107, 101, 115, 44, 32]⟩).size ≤ 51 := by rw [ByteArray.size_append]; omega
    have j5 := cat_run ((⟨#[115, 116, 114, 111, 107, 101, 32]⟩ : ByteArray) ++ S ++ ⟨#[44, 32]⟩ ++ d1 ++ ⟨#[32, 115, 116, 97, 107, 101, 115, 44, 32]⟩) d2 (by omega)
    have z5 : ((⟨#[115, 116, 114, 111, 107, 101, 32]⟩ : ByteArray) ++ S ++ ⟨#[44, 32]⟩ ++ d1 ++ ⟨#[32, 115, 116, 97, 107, 101, 115, 44, 32]⟩ ++ d2).size ≤ 72 := by rw [ByteArray.size_append]; omega
    have j6 := cat_run ((⟨#[115, 116, 114, 111, 107, 101, 32]⟩ : ByteArray) ++ S ++ ⟨#[44, 32]⟩ ++ d1 ++ ⟨#[32, 115, 116, 97, 107, 101, 115, 44, 32]⟩ ++ d2) ⟨#[32, 107, 105, 110, 100, 115, 44, 32]⟩ (by omega)
    have z6 : ((⟨#[115, 116, 114, 111, 107, 101, 32]⟩ : ByteArray) ++ S ++ ⟨#[44, 32]⟩ ++ d1 ++ ⟨#[32, 115, 116, 97, 107, 101, 115, 44, 32]⟩ ++ d2 ++ ⟨#[32, 107, 105, 110, 100, 115, 44, 32]⟩).size ≤ 80 := by rw [ByteArray.size_append]; omega
    have j7 := cat_run ((⟨#[115, 116, 114, 111, 107, 101, 32]⟩ : ByteArray) ++ S ++ ⟨#[44, 32]⟩ ++ d1 ++ ⟨#[32, 115, 116, 97, 107, 101, 115, 44, 32]⟩ ++ d2 ++ ⟨#[32, 107, 105, 110, 100, 115, 44, 32]⟩) d3 (by omega)
    have z7 : ((⟨#[115, 116, 114, 111, 107, 101, 32]⟩ : ByteArray) ++ S ++ ⟨#[44, 32]⟩ ++ d1 ++ ⟨#[32, 115, 116, 97, 107, 101, 115, 44, 32]⟩ ++ d2 ++ ⟨#[32, 107, 105, 110, 100, 115, 44, 32]⟩ ++ d3).size ≤ 101 := by rw [ByteArray.size_append]; omega
    have j8 := cat_run ((⟨#[115, 116, 114, 111, 107, 101, 32]⟩ : ByteArray) ++ S ++ ⟨#[44, 32]⟩ ++ d1 ++ ⟨#[32, 115, 116, 97, 107, 101, 115, 44, 32]⟩ ++ d2 ++ ⟨#[32, 107, 105, 110, 100, 115, 44, 32]⟩ ++ d3) ⟨#[32, 104, 101, 97, 112, 115]⟩ (by omega)
    have z8 : ((⟨#[115, 116, 114, 111, 107, 101, 32]⟩ : ByteArray) ++ S ++ ⟨#[44, 32]⟩ ++ d1 ++ ⟨#[32, 115, 116, 97, 107, 101, 115, 44, 32]⟩ ++ d2 ++ ⟨#[32, 107, 105, 110, 100, 115, 44, 32]⟩ ++ d3 ++ ⟨#[32, 104, 101, 97, 112, 115]⟩).size ≤ 107 := by rw [ByteArray.size_append]; omega
    clear z0 z1 z2 z3 z4 z5 z6 z7 z8
    clear l0 l1 l2 l3 l4
    have hdr : Below W1.heap.size W1 W1.drew := below_drewN (Below.refl _ _) 1
    replace hB := hide (Below.up hB.out hdr)
    replace hK := hide (keepr hK.out hdr)
    clear hdr
    obtain ⟨c0, c1, c2, c3, _, _⟩ := row5 hK.out
    go_region_held3 (fun w' => w'.cell? ⟨k, 0, none⟩ = some (.string S) ∧ w'.cell? ⟨k, 1, none⟩ = some (.int .i64 x.fStakes) ∧ w'.cell? ⟨k, 2, none⟩ = some (.slice x.A x.n x.c) ∧ w'.cell? ⟨k, 3, none⟩ = some (.slice x.A' x.n' x.c')) (first | go_keep | exact ⟨(row5 hK.out).1, (row5 hK.out).2.1, (row5 hK.out).2.2.1, (row5 hK.out).2.2.2.1⟩) (first | (go_at_call 25; (with_reducible refine (iDec_any x.fStakes _ (by omega) (by omega) (hGh.out.below hB.out)).mono ?_); rw [hD1.out]; rintro e w2 ⟨rfl, hb⟩; replace hB := hide (Below.up hB.out hb); replace hK := hide (keepr hK.out hb); clear hb c0 c1 c2 c3; obtain ⟨c0, c1, c2, c3, _, _⟩ := row5 hK.out) | (go_at_call 25; (with_reducible refine (iDec_any (x.n : Int) _ (by omega) (by omega) (hGh.out.below hB.out)).mono ?_); rw [hD2.out]; rintro e w2 ⟨rfl, hb⟩; replace hB := hide (Below.up hB.out hb); replace hK := hide (keepr hK.out hb); clear hb c0 c1 c2 c3; obtain ⟨c0, c1, c2, c3, _, _⟩ := row5 hK.out) | (go_at_call 25; (with_reducible refine (iDec_any (x.n' : Int) _ (by omega) (by omega) (hGh.out.below hB.out)).mono ?_); rw [hD3.out]; rintro e w2 ⟨rfl, hb⟩; replace hB := hide (Below.up hB.out hb); replace hK := hide (keepr hK.out hb); clear hb c0 c1 c2 c3; obtain ⟨c0, c1, c2, c3, _, _⟩ := row5 hK.out) | fail)
    all_goals go_wp2
    all_goals go_ret
    all_goals exact ⟨by rw [hm.out]; unfold deskB; rw [← hSS.out, hD1.out, hD2.out, hD3.out]; rfl, hB.out⟩
set_option maxHeartbeats 4000000 in
theorem sText28_any (k : Nat) (x : DeskV) (w : World) (hk : w.heap[k]? = some (.cells #[.string x.fStroke, .int .i64 x.fStakes, .slice x.A x.n x.c, .slice x.A' x.n' x.c', .string x.fLog] 31 (0, 0))) (hs1 : x.fStroke.size ≤ 12) (q0 : 3 ≤ x.fStakes) (q1 : x.fStakes ≤ 60) (q2 : x.n ≤ 4) (q3 : x.n' ≤ 20) :
    Calls Tryz.prog 24 #[.pointer (some ⟨k, 0, none⟩)] w fun e w' => e = .returned (.string (deskB x)) ∧ Below w.heap.size w w' := by
  have hK := hide hk
  have hB := hide (Below.refl w.heap.size w)
  clear hk
  go_enter Tryz.func24, Tryz.ntmps24
  go_upto_region 1 with fail
  obtain ⟨W1, hW1⟩ : ∃ W1 : World, W1 = w := ⟨_, rfl⟩
  rw [← hW1]
  replace hK : Hid (W1.heap[k]? = some (.cells #[.string x.fStroke, .int .i64 x.fStakes, .slice x.A x.n x.c, .slice x.A' x.n' x.c', .string x.fLog] 31 (0, 0))) := hide (by rw [hW1]; exact hK.out)
  replace hB : Hid (Below w.heap.size w W1) := hide (by rw [hW1]; exact hB.out)
  clear hW1
  have s1 := decB_size x.fStakes (by omega) (by omega)
  have s2 := decB_size (x.n : Int) (by omega) (by omega)
  have s3 := decB_size (x.n' : Int) (by omega) (by omega)
  obtain ⟨S, hS⟩ : ∃ S, S = x.fStroke := ⟨_, rfl⟩
  obtain ⟨d1, hd1⟩ : ∃ d, d = decB x.fStakes := ⟨_, rfl⟩
  obtain ⟨d2, hd2⟩ : ∃ d, d = decB (x.n : Int) := ⟨_, rfl⟩
  obtain ⟨d3, hd3⟩ : ∃ d, d = decB (x.n' : Int) := ⟨_, rfl⟩
  have hD1 := hide hd1.symm
  have hD2 := hide hd2.symm
  have hD3 := hide hd3.symm
  rw [← hS] at hs1 hK
  rw [← hd1] at s1
  rw [← hd2] at s2
  rw [← hd3] at s3
  have hSS := hide hS
  clear hS hd1 hd2 hd3
  have l0 : (⟨#[115, 116, 114, 111, 107, 101, 32]⟩ : ByteArray).size = 7 := rfl
  have l1 : (⟨#[44, 32]⟩ : ByteArray).size = 2 := rfl
  have l2 : (⟨#[32, 115, 116, 97, 107, 101, 115, 44, 32]⟩ : ByteArray).size = 9 := rfl
  have l3 : (⟨#[32, 107, 105, 110, 100, 115, 44, 32]⟩ : ByteArray).size = 8 := rfl
  have l4 : (⟨#[32, 104, 101, 97, 112, 115]⟩ : ByteArray).size = 6 := rfl
  have z0 : (⟨#[115, 116, 114, 111, 107, 101, 32]⟩ : ByteArray).size ≤ 7 := by omega
  have j1 := cat_run ((⟨#[115, 116, 114, 111, 107, 101, 32]⟩ : ByteArray)) S (by omega)
  have z1 : ((⟨#[115, 116, 114, 111, 107, 101, 32]⟩ : ByteArray) ++ S).size ≤ 19 := by rw [ByteArray.size_append]; omega
  have j2 := cat_run ((⟨#[115, 116, 114, 111, 107, 101, 32]⟩ : ByteArray) ++ S) ⟨#[44, 32]⟩ (by omega)
  have z2 : ((⟨#[115, 116, 114, 111, 107, 101, 32]⟩ : ByteArray) ++ S ++ ⟨#[44, 32]⟩).size ≤ 21 := by rw [ByteArray.size_append]; omega
  have j3 := cat_run ((⟨#[115, 116, 114, 111, 107, 101, 32]⟩ : ByteArray) ++ S ++ ⟨#[44, 32]⟩) d1 (by omega)
  have z3 : ((⟨#[115, 116, 114, 111, 107, 101, 32]⟩ : ByteArray) ++ S ++ ⟨#[44, 32]⟩ ++ d1).size ≤ 42 := by rw [ByteArray.size_append]; omega
  have j4 := cat_run ((⟨#[115, 116, 114, 111, 107, 101, 32]⟩ : ByteArray) ++ S ++ ⟨#[44, 32]⟩ ++ d1) ⟨#[32, 115, 116, 97, 107, 101, 115, 44, 32]⟩ (by omega)
  have z4 : ((⟨#[115, 116, 114, 111, 107, 101, 32]⟩ : ByteArray) ++ S ++ ⟨#[44, 32]⟩ ++ d1 ++ ⟨#[32, 115, 116, 97, 107, 101, 115, 44, 32]⟩).size ≤ 51 := by rw [ByteArray.size_append]; omega
  have j5 := cat_run ((⟨#[115, 116, 114, 111, 107, 101, 32]⟩ : ByteArray) ++ S ++ ⟨#[44, 32]⟩ ++ d1 ++ ⟨#[32, 115, 116, 97, 107, 101, 115, 44, 32]⟩) d2 (by omega)
  have z5 : ((⟨#[115, 116, 114, 111, 107, 101, 32]⟩ : ByteArray) ++ S ++ ⟨#[44, 32]⟩ ++ d1 ++ ⟨#[32, 115, 116, 97, 107, 101, 115, 44, 32]⟩ ++ d2).size ≤ 72 := by rw [ByteArray.size_append]; omega
  have j6 := cat_run ((⟨#[115, 116, 114, 111, 107, 101, 32]⟩ : ByteArray) ++ S ++ ⟨#[44, 32]⟩ ++ d1 ++ ⟨#[32, 115, 116, 97, 107, 101, 115, 44, 32]⟩ ++ d2) ⟨#[32, 107, 105, 110, 100, 115, 44, 32]⟩ (by omega)
  have z6 : ((⟨#[115, 116, 114, 111, 107, 101, 32]⟩ : ByteArray) ++ S ++ ⟨#[44, 32]⟩ ++ d1 ++ ⟨#[32, 115, 116, 97, 107, 101, 115, 44, 32]⟩ ++ d2 ++ ⟨#[32, 107, 105, 110, 100, 115, 44, 32]⟩).size ≤ 80 := by rw [ByteArray.size_append]; omega
  have j7 := cat_run ((⟨#[115, 116, 114, 111, 107, 101, 32]⟩ : ByteArray) ++ S ++ ⟨#[44, 32]⟩ ++ d1 ++ ⟨#[32, 115, 116, 97, 107, 101, 115, 44, 32]⟩ ++ d2 ++ ⟨#[32, 107, 105, 110, 100, 115, 44, 32]⟩) d3 (by omega)
  have z7 : ((⟨#[115, 116, 114, 111, 107, 101, 32]⟩ : ByteArray) ++ S ++ ⟨#[44, 32]⟩ ++ d1 ++ ⟨#[32, 115, 116, 97, 107, 101, 115, 44, 32]⟩ ++ d2 ++ ⟨#[32, 107, 105, 110, 100, 115, 44, 32]⟩ ++ d3).size ≤ 101 := by rw [ByteArray.size_append]; omega
  have j8 := cat_run ((⟨#[115, 116, 114, 111, 107, 101, 32]⟩ : ByteArray) ++ S ++ ⟨#[44, 32]⟩ ++ d1 ++ ⟨#[32, 115, 116, 97, 107, 101, 115, 44, 32]⟩ ++ d2 ++ ⟨#[32, 107, 105, 110, 100, 115, 44, 32]⟩ ++ d3) ⟨#[32, 104, 101, 97, 112, 115]⟩ (by omega)
  have z8 : ((⟨#[115, 116, 114, 111, 107, 101, 32]⟩ : ByteArray) ++ S ++ ⟨#[44, 32]⟩ ++ d1 ++ ⟨#[32, 115, 116, 97, 107, 101, 115, 44, 32]⟩ ++ d2 ++ ⟨#[32, 107, 105, 110, 100, 115, 44, 32]⟩ ++ d3 ++ ⟨#[32, 104, 101, 97, 112, 115]⟩).size ≤ 107 := by rw [ByteArray.size_append]; omega
  clear z0 z1 z2 z3 z4 z5 z6 z7 z8
  clear l0 l1 l2 l3 l4
  have hdr : Below W1.heap.size W1 W1.drew := below_drewN (Below.refl _ _) 1
  replace hB := hide (Below.up hB.out hdr)
  replace hK := hide (keepr hK.out hdr)
  clear hdr
  obtain ⟨c0, c1, c2, c3, _, _⟩ := row5 hK.out
  go_region_held3 (fun w' => w'.cell? ⟨k, 0, none⟩ = some (.string S) ∧ w'.cell? ⟨k, 1, none⟩ = some (.int .i64 x.fStakes) ∧ w'.cell? ⟨k, 2, none⟩ = some (.slice x.A x.n x.c) ∧ w'.cell? ⟨k, 3, none⟩ = some (.slice x.A' x.n' x.c')) (first | go_keep | exact ⟨(row5 hK.out).1, (row5 hK.out).2.1, (row5 hK.out).2.2.1, (row5 hK.out).2.2.2.1⟩) (first | (go_at_call 41; (with_reducible refine (sDec_any x.fStakes _ (by omega) (by omega)).mono ?_); rw [hD1.out]; rintro e w2 ⟨rfl, hb⟩; replace hB := hide (Below.up hB.out hb); replace hK := hide (keepr hK.out hb); clear hb c0 c1 c2 c3; obtain ⟨c0, c1, c2, c3, _, _⟩ := row5 hK.out) | (go_at_call 41; (with_reducible refine (sDec_any (x.n : Int) _ (by omega) (by omega)).mono ?_); rw [hD2.out]; rintro e w2 ⟨rfl, hb⟩; replace hB := hide (Below.up hB.out hb); replace hK := hide (keepr hK.out hb); clear hb c0 c1 c2 c3; obtain ⟨c0, c1, c2, c3, _, _⟩ := row5 hK.out) | (go_at_call 41; (with_reducible refine (sDec_any (x.n' : Int) _ (by omega) (by omega)).mono ?_); rw [hD3.out]; rintro e w2 ⟨rfl, hb⟩; replace hB := hide (Below.up hB.out hb); replace hK := hide (keepr hK.out hb); clear hb c0 c1 c2 c3; obtain ⟨c0, c1, c2, c3, _, _⟩ := row5 hK.out) | fail)
  all_goals go_wp2
  all_goals go_ret
  all_goals exact ⟨by unfold deskB; rw [← hSS.out, hD1.out, hD2.out, hD3.out]; rfl, hB.out⟩
set_option maxHeartbeats 1000000 in
theorem sDeskT_any (x : DeskV) (w : World) (hx : x.good w w.heap.size) (hs0 : x.fStroke.size ≤ maxLen) :
    Calls Tryz.prog 10 #[.agg #[.string x.fStroke, .int .i64 x.fStakes, .slice x.A x.n x.c, .slice x.A' x.n' x.c', .string x.fLog]] w fun e w' => e = .returned (.string (mDeskT x)) ∧ Below w.heap.size w w' := by
  have hpar := hide (fun h => desk_parts hx h)
  go_enter Tryz.func10, Tryz.ntmps10
  go_upto_region 1 with fail
  refine nameW' (φ := fun W => W.heap[w.heap.size]? = some (.cells #[.string x.fStroke, .int .i64 x.fStakes, .slice x.A x.n x.c, .slice x.A' x.n' x.c', .string x.fLog] 31 (0, 0)) ∧ x.good W W.heap.size ∧ Below w.heap.size w W) ⟨heap_alloc_new w _, hx.go ((Below.refl _ _).alloc (Nat.le_refl _) _), (Below.refl _ _).alloc (Nat.le_refl _) _⟩ ?_
  rintro W0 ⟨n0, n1, n2⟩
  have hK := hide n0
  have hX := hide n1
  have hB := hide n2
  clear n0 n1 n2 hx
  obtain ⟨k, hk⟩ : ∃ k, k = w.heap.size := ⟨_, rfl⟩
  rw [← hk] at hK ⊢
  have hkk := hide hk
  clear hk
  go_wp2_with fail
  refine (sOk_any k x _ hK.out hX.out hs0).mono ?_
  rintro e w1 ⟨rfl, hb⟩
  replace hB := hide (Below.up hB.out hb)
  replace hK := hide (keepr hK.out hb)
  clear hb
  cases hok : deskOk x
  · have hm : Hid (mDeskT x = ⟨#[]⟩) := hide (by unfold mDeskT; rw [hok]; rfl)
    go_wp2
    go_ret
    exact ⟨by rw [hm.out]; rfl, hB.out⟩
  · have hm : Hid (mDeskT x = deskB x) := hide (by unfold mDeskT; rw [if_pos hok])
    obtain ⟨hs1, ⟨q0, q1⟩, q2, q3⟩ := hpar.out hok
    go_wp2_with fail
    refine (sText28_any k x _ hK.out hs1 q0 q1 q2 q3).mono ?_
    rintro e w2 ⟨rfl, hb⟩
    replace hB := hide (Below.up hB.out hb)
    clear hb
    go_wp2
    go_ret
    exact ⟨by rw [hm.out]; rfl, hB.out⟩
end Go.Proofs.YtceajnoppdfeaaaGreatDoor
