/- Contracts: PutHeap and JoinHeaps, both sides. No statement is proved here. -/
import Derived.Test.YtpnbnhhifgcklaaDoorPutE
import Derived.Test.YtpnbnhhifgcklaaDoorHeapD
namespace Go.Proofs.YtpnbnhhifgcklaaDoor
open Go.ChangeShapes Go.WideShapes Go.ChangeAt Go.RowKit Go.Deep
set_option maxRecDepth 100000
theorem srt_of_ok {l : List Heap} (h : heapsOk l = true) : Srt l := by
  unfold heapsOk at h
  rw [Bool.and_eq_true, List.all_eq_true] at h
  have step : ∀ (k : Nat) (a b : Heap), l[k]? = some a → l[k + 1]? = some b → hLt a b = true := by
    intro k a b ha hb
    have h1 := h.1 (k + 1) (List.mem_range.2 (lt_of_get hb))
    rw [heapPair_pos hb (by omega) (by simpa using ha), Bool.and_eq_true] at h1
    exact h1.2
  have key : ∀ (d i : Nat) (a b : Heap), l[i]? = some a → l[i + d + 1]? = some b → hLt a b = true := by
    intro d
    induction d with
    | zero => intro i a b ha hb; exact step i a b ha hb
    | succ d ih =>
      intro i a b ha hb
      have hl := lt_of_get hb
      have hm : l[i + d + 1]? = some l[i + d + 1] := List.getElem?_eq_getElem (by omega)
      exact hLt_trans (ih i a _ ha hm) (step (i + d + 1) _ b hm hb)
  unfold Srt
  rw [List.pairwise_iff_getElem]
  intro i j hi hj hij
  have := key (j - i - 1) i l[i] l[j] (List.getElem?_eq_getElem hi) (by rw [show i + (j - i - 1) + 1 = j by omega]; exact List.getElem?_eq_getElem hj)
  exact this
def mPutC (l : List Heap) (x : Heap) : Int := if heapsOk l then (if x.ok then (if heapsOk (hPut l x) then 0 else 5) else 2) else 1
def mPutL (l : List Heap) (x : Heap) : List Heap := if mPutC l x = 0 then hPut l x else []
theorem mPutL_len (l : List Heap) (x : Heap) {n : Nat} (h : l.length = n) (hn : n ≤ 1048576) : (mPutL l x).length ≤ 1048576 := by
  unfold mPutL
  split
  · rename_i h0
    unfold mPutC at h0
    split at h0
    · have := hPut_len l x
      have := heapsOk_len (by assumption)
      omega
    · cases h0
  · simp
theorem mPut_none {l : List Heap} {x : Heap} {c : Int} (h : mPutC l x = c) (hc : ¬ c = 0) : mPutL l x = [] := by unfold mPutL; rw [h, if_neg hc]
theorem put_fits {l : List Heap} {x : Heap} (hf : ∀ z ∈ l, z.fits) (hx : x.fits) : ∀ z ∈ hPut l x, z.fits := by
  intro z hz
  rcases put_mem hz with h | ⟨h, _⟩
  · exact hf z h
  · show z.fSort.size ≤ maxLen
    rw [h]; exact hx
theorem row3b {w : World} {u0 u1 u2 : Value} {t : TypeId} {g : Nat} (h : w.heap[g]? = some (.cells #[u0, u1, u2] t (0, 0))) :
    w.cell? ⟨g, 0, none⟩ = some u0 ∧ w.cell? ⟨g, 0 + 1, none⟩ = some u1 ∧ w.cell? ⟨g, 0 + 2, none⟩ = some u2 := by
  obtain ⟨a, b, c, _⟩ := row3 h
  exact ⟨a, b, c⟩
set_option maxHeartbeats 1000000 in
theorem iPutH_any (A : Option Addr) (n c : Nat) (l : List Heap) (w : World) (hn : n ≤ 1048576) (hf : ∀ z ∈ l, z.fits) (hr : Arr Heap.cells 3 w w.heap.size A n l) (x : Heap) (hx : x.fits) :
    Calls Tryd.prog 7 #[.slice A n c, .agg #[.string x.fSort, .int .i64 x.fYear, .int .i64 x.fBundles]] w fun e w' => ∃ v, e = .returned (.tuple #[v, .int .i64 (mPutC l x)]) ∧ Res Heap.cells 27 3 w' w.heap.size v (mPutL l x).length (mPutL l x) ∧ Below w.heap.size w w' := by
  have hl := hide hr.len
  have hK := hide (heap_alloc_new w (.cells #[.string x.fSort, .int .i64 x.fYear, .int .i64 x.fBundles] 27))
  have hB : Hid (Below w.heap.size w (w.alloc (.cells #[.string x.fSort, .int .i64 x.fYear, .int .i64 x.fBundles] 27))) := hide ((Below.refl _ _).alloc (Nat.le_refl _) _)
  cases hok0 : heapsOk l
  · have hok := hide hok0
    have hm : Hid (mPutC l x = 1) := hide (by simp [mPutC, hok0])
    clear hok0
    have hm2 : Hid (mPutL l x = []) := hide (mPut_none hm.out (by omega))
    go_enter Tryd.func7, Tryd.ntmps7
    go_wp2_with (first | (go_at_call 19; refine (iHeaps_any A n c l _ hn hf (hr.go hB.out)).mono ?_; rw [hok.out]; rintro e w1 ⟨rfl, hb⟩; replace hK := hide (keepr3 hK.out hb); replace hB := hide (Below.up hB.out hb); clear hb; obtain ⟨k0, k1, k2, kf⟩ := row3 hK.out) | fail)
    go_ret2; exact ⟨_, by rw [hm.out]; rfl, by rw [hm2.out]; exact Res.empty (Nat.zero_le _), hB.out⟩
  have hok := hide hok0
  have h20 := heapsOk_len hok0
  have hn20 : n ≤ 20 := by rw [← hl.out]; exact h20
  have hat := fun (z : Heap) (hz : z ∈ l) => heapsOk_at hok0 hz
  have hsr := srt_of_ok hok0
  cases hxo0 : x.ok
  · have hxo := hide hxo0
    have hm : Hid (mPutC l x = 2) := hide (by simp [mPutC, hok0, hxo0])
    clear hok0 hxo0 h20 hat hsr
    have hm2 : Hid (mPutL l x = []) := hide (mPut_none hm.out (by omega))
    go_enter Tryd.func7, Tryd.ntmps7
    go_wp2_with (first | (go_at_call 19; refine (iHeaps_any A n c l _ hn hf (hr.go hB.out)).mono ?_; rw [hok.out]; rintro e w1 ⟨rfl, hb⟩; replace hK := hide (keepr3 hK.out hb); replace hB := hide (Below.up hB.out hb); clear hb; obtain ⟨k0, k1, k2, kf⟩ := row3 hK.out) | (go_at_call 20; refine (iHeap_any x _ hx).mono ?_; rw [hxo.out]; rintro e w2 ⟨rfl, hb⟩; clear k0 k1 k2 kf; replace hK := hide (keepr3 hK.out hb); replace hB := hide (Below.up hB.out hb); clear hb; obtain ⟨k0, k1, k2, kf⟩ := row3 hK.out) | fail)
    go_ret2; exact ⟨_, by rw [hm.out]; rfl, by rw [hm2.out]; exact Res.empty (Nat.zero_le _), hB.out⟩
  have hxo := hide hxo0
  obtain ⟨_, hx3, hx4⟩ := Heap.ok_iff.1 hxo0
  have hpf := put_fits hf hx
  have hpl := hPut_len l x
  cases hok20 : heapsOk (hPut l x)
  · have hok2 := hide hok20
    have hm : Hid (mPutC l x = 5) := hide (by simp [mPutC, hok0, hxo0, hok20])
    have hm2 : Hid (mPutL l x = []) := hide (mPut_none hm.out (by omega))
    clear hok0 hxo0 hok20
    go_enter Tryd.func7, Tryd.ntmps7
    go_upto_region 5 with (first | (go_at_call 19; refine (iHeaps_any A n c l _ hn hf (hr.go hB.out)).mono ?_; rw [hok.out]; rintro e w1 ⟨rfl, hb⟩; replace hK := hide (keepr3 hK.out hb); replace hB := hide (Below.up hB.out hb); clear hb; obtain ⟨k0, k1, k2, kf⟩ := row3 hK.out) | (go_at_call 20; refine (iHeap_any x _ hx).mono ?_; rw [hxo.out]; rintro e w2 ⟨rfl, hb⟩; clear k0 k1 k2 kf; replace hK := hide (keepr3 hK.out hb); replace hB := hide (Below.up hB.out hb); clear hb; obtain ⟨k0, k1, k2, kf⟩ := row3 hK.out) | fail)
    obtain ⟨q0, q1, q2, qf⟩ := row3 hK.out
    go_wp2_with (first | (go_at_call 21; refine (iPut_any A n c l x _ (by omega) (hr.go hB.out) (fun z hz => (hat z hz).1) hx3.1 hx3.2 hsr (fun z hz => by have := (hat z hz).2; omega) (by omega)).mono ?_; rintro e w3 ⟨V, rfl, hoV, hb⟩; have hO := hide (hoV.less hB.out.size); obtain ⟨A2, c2, rfl, _⟩ := hoV.slice; replace hB := hide (Below.up hB.out hb); clear hb hoV) | (go_at_call 19; refine (iHeaps_any A2 _ c2 (hPut l x) _ (by omega) hpf (hO.out.arr Heap.len)).mono ?_; rw [hok2.out]; rintro e w4 ⟨rfl, hb⟩; replace hO := hide (hO.out.below hb); replace hB := hide (Below.up hB.out hb); clear hb) | fail)
    go_ret2; exact ⟨_, by rw [hm.out]; rfl, by rw [hm2.out]; exact Res.empty (Nat.zero_le _), hB.out⟩
  · have hok2 := hide hok20
    have hm : Hid (mPutC l x = 0) := hide (by simp [mPutC, hok0, hxo0, hok20])
    have hm2 : Hid (mPutL l x = hPut l x) := hide (by unfold mPutL; rw [hm.out]; rfl)
    clear hok0 hxo0 hok20
    go_enter Tryd.func7, Tryd.ntmps7
    go_upto_region 5 with (first | (go_at_call 19; refine (iHeaps_any A n c l _ hn hf (hr.go hB.out)).mono ?_; rw [hok.out]; rintro e w1 ⟨rfl, hb⟩; replace hK := hide (keepr3 hK.out hb); replace hB := hide (Below.up hB.out hb); clear hb; obtain ⟨k0, k1, k2, kf⟩ := row3 hK.out) | (go_at_call 20; refine (iHeap_any x _ hx).mono ?_; rw [hxo.out]; rintro e w2 ⟨rfl, hb⟩; clear k0 k1 k2 kf; replace hK := hide (keepr3 hK.out hb); replace hB := hide (Below.up hB.out hb); clear hb; obtain ⟨k0, k1, k2, kf⟩ := row3 hK.out) | fail)
    obtain ⟨q0, q1, q2, qf⟩ := row3 hK.out
    go_wp2_with (first | (go_at_call 21; refine (iPut_any A n c l x _ (by omega) (hr.go hB.out) (fun z hz => (hat z hz).1) hx3.1 hx3.2 hsr (fun z hz => by have := (hat z hz).2; omega) (by omega)).mono ?_; rintro e w3 ⟨V, rfl, hoV, hb⟩; have hO := hide (hoV.less hB.out.size); obtain ⟨A2, c2, rfl, _⟩ := hoV.slice; replace hB := hide (Below.up hB.out hb); clear hb hoV) | (go_at_call 19; refine (iHeaps_any A2 _ c2 (hPut l x) _ (by omega) hpf (hO.out.arr Heap.len)).mono ?_; rw [hok2.out]; rintro e w4 ⟨rfl, hb⟩; replace hO := hide (hO.out.below hb); replace hB := hide (Below.up hB.out hb); clear hb) | fail)
    go_ret2; exact ⟨_, by rw [hm.out]; rfl, by rw [hm2.out]; exact hO.out.res, hB.out⟩
end Go.Proofs.YtpnbnhhifgcklaaDoor
