/- Contracts: JoinHeaps, both sides. No statement is proved here. -/
import Derived.Test.YtpnbnhhifgcklaaDoorPutF
namespace Go.Proofs.YtpnbnhhifgcklaaDoor
open Go.ChangeShapes Go.WideShapes Go.ChangeAt Go.RowKit Go.Deep
set_option maxRecDepth 100000
def joinTo (a b : List Heap) (j : Nat) : List Heap := (b.take j).foldl hPut a
theorem joinTo_zero (a b : List Heap) : joinTo a b 0 = a := rfl
theorem joinTo_step {a b : List Heap} {j : Nat} {x : Heap} (h : b[j]? = some x) : joinTo a b (j + 1) = hPut (joinTo a b j) x := by
  unfold joinTo; rw [take_snoc h, List.foldl_append]; rfl
theorem put_bound {l : List Heap} {x : Heap} {M : Int} (h : ∀ z ∈ l, 0 ≤ z.fBundles ∧ z.fBundles ≤ M) (hx : 0 ≤ x.fBundles ∧ x.fBundles ≤ 1000) (hM : 0 ≤ M) : ∀ z ∈ hPut l x, 0 ≤ z.fBundles ∧ z.fBundles ≤ M + 1000 := by
  intro z hz
  unfold hPut at hz
  have old : z ∈ l → 0 ≤ z.fBundles ∧ z.fBundles ≤ M + 1000 := fun hm => by have := h z hm; omega
  split at hz
  · rename_i hf
    obtain ⟨y, hy, _, _, _, hat⟩ := found_at hf
    have hyb := h y (List.mem_of_getElem? hy)
    rcases List.mem_append.1 hz with hz | hz
    · exact old (List.mem_of_mem_take hz)
    · rcases List.mem_cons.1 hz with rfl | hz
      · rw [hat]; show 0 ≤ x.fBundles + y.fBundles ∧ x.fBundles + y.fBundles ≤ M + 1000; omega
      · exact old (List.mem_of_mem_drop hz)
  · rcases List.mem_append.1 hz with hz | hz
    · exact old (List.mem_of_mem_take hz)
    · rcases List.mem_cons.1 hz with rfl | hz
      · omega
      · exact old (List.mem_of_mem_drop hz)
structure JoinInv (l : List Heap) (j : Nat) : Prop where
  srt : Srt l
  year : ∀ z ∈ l, 1800 ≤ z.fYear ∧ z.fYear ≤ 2100
  bun : ∀ z ∈ l, 0 ≤ z.fBundles ∧ z.fBundles ≤ 1000 * ((j : Int) + 1)
  len : l.length ≤ 20 + j
  fit : ∀ z ∈ l, z.fits
theorem join_inv {a b : List Heap} (ha : heapsOk a = true) (hb : heapsOk b = true) (hfa : ∀ z ∈ a, z.fits) (hfb : ∀ z ∈ b, z.fits) : ∀ j, j ≤ b.length → JoinInv (joinTo a b j) j := by
  intro j
  induction j with
  | zero =>
    intro _
    refine ⟨srt_of_ok ha, fun z hz => (heapsOk_at ha hz).1, fun z hz => ?_, heapsOk_len ha, hfa⟩
    have := (heapsOk_at ha hz).2
    simp; omega
  | succ j ih =>
    intro hj
    have hx : b[j]? = some b[j] := List.getElem?_eq_getElem (by omega)
    have hm := List.mem_of_getElem? hx
    obtain ⟨hy, hbn⟩ := heapsOk_at hb hm
    have I := ih (by omega)
    rw [joinTo_step hx]
    refine ⟨srt_put I.srt, fun z hz => ?_, fun z hz => ?_, ?_, put_fits I.fit (hfb _ hm)⟩
    · rcases put_mem hz with h | ⟨_, h⟩
      · exact I.year z h
      · rw [h]; exact hy
    · have := put_bound I.bun (by omega) (by omega) z hz
      have e : 1000 * (((j + 1 : Nat) : Int) + 1) = 1000 * ((j : Int) + 1) + 1000 := by omega
      rw [e]; exact this
    · have := hPut_len (joinTo a b j) b[j]; have := I.len; omega
def joinAll (a b : List Heap) : List Heap := joinTo a b b.length
def mJoinC (a b : List Heap) : Int := if heapsOk a then (if heapsOk b then (if heapsOk (joinAll a b) then 0 else 5) else 1) else 1
def mJoinL (a b : List Heap) : List Heap := if mJoinC a b = 0 then joinAll a b else []
theorem mJoinL_len (a b : List Heap) : (mJoinL a b).length ≤ 1048576 := by
  unfold mJoinL
  split
  · rename_i h0
    unfold mJoinC at h0
    split at h0
    · split at h0
      · split at h0
        · have := heapsOk_len (by assumption : heapsOk (joinAll a b) = true); omega
        · cases h0
      · cases h0
    · cases h0
  · simp
theorem mJoin_none {a b : List Heap} {c : Int} (h : mJoinC a b = c) (hc : ¬ c = 0) : mJoinL a b = [] := by unfold mJoinL; rw [h, if_neg hc]
end Go.Proofs.YtpnbnhhifgcklaaDoor
