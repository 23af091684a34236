/- Drawn pieces and rates: plain words. No statement is proved here. -/
import Derived.Test.YtgjcmnnhcoaliaaWageB
namespace Go.Proofs.Ytgjcmnnhcoaliaa
open Go.ChangeShapes Go.WideShapes Go.ChangeAt Go.RowKit Go.Deep
set_option maxRecDepth 100000
def NM : List ByteArray := [⟨#[97, 100, 97, 45, 50]⟩, ⟨#[109, 101, 103]⟩, ⟨#[116, 111, 109]⟩]
def SM : List ByteArray := [⟨#[108, 111, 103, 45, 50]⟩, ⟨#[109, 97, 114, 107, 101, 116]⟩, ⟨#[112, 111, 116, 97, 116, 111]⟩, ⟨#[114, 111, 117, 110, 100]⟩]
def RM : List ByteArray := [⟨#[99, 114, 97, 100, 108, 101]⟩, ⟨#[108, 111, 103, 45, 50]⟩, ⟨#[109, 97, 114, 107, 101, 116]⟩, ⟨#[112, 111, 116, 97, 116, 111]⟩, ⟨#[114, 111, 117, 110, 100]⟩]
def PieceW.drawn (x : PieceW) : Prop := x.fName ∈ NM ∧ x.fSort ∈ SM ∧ (0 ≤ x.fDay ∧ x.fDay ≤ 3) ∧ (1 ≤ x.fMade ∧ x.fMade ≤ 9)
structure DP (l : List PieceW) : Prop where
  all : ∀ x ∈ l, x.drawn
  len : l.length ≤ 7
theorem NM_name : ∀ y ∈ NM, isName y = true ∧ y.size ≤ maxLen := by
  intro y hy
  have h : y ∈ [⟨#[97, 100, 97, 45, 50]⟩, ⟨#[109, 101, 103]⟩, ⟨#[116, 111, 109]⟩] := hy
  simp only [List.mem_cons, List.not_mem_nil, or_false] at h
  rcases h with h | h | h <;> rw [h] <;> exact ⟨by decide, by unfold maxLen; decide⟩
theorem SM_name : ∀ y ∈ SM, isName y = true ∧ y.size ≤ maxLen := by
  intro y hy
  have h : y ∈ [⟨#[108, 111, 103, 45, 50]⟩, ⟨#[109, 97, 114, 107, 101, 116]⟩, ⟨#[112, 111, 116, 97, 116, 111]⟩, ⟨#[114, 111, 117, 110, 100]⟩] := hy
  simp only [List.mem_cons, List.not_mem_nil, or_false] at h
  rcases h with h | h | h | h <;> rw [h] <;> exact ⟨by decide, by unfold maxLen; decide⟩
theorem RM_name : ∀ y ∈ RM, isName y = true ∧ y.size ≤ maxLen := by
  intro y hy
  have h : y ∈ [⟨#[99, 114, 97, 100, 108, 101]⟩, ⟨#[108, 111, 103, 45, 50]⟩, ⟨#[109, 97, 114, 107, 101, 116]⟩, ⟨#[112, 111, 116, 97, 116, 111]⟩, ⟨#[114, 111, 117, 110, 100]⟩] := hy
  simp only [List.mem_cons, List.not_mem_nil, or_false] at h
  rcases h with h | h | h | h | h <;> rw [h] <;> exact ⟨by decide, by unfold maxLen; decide⟩
theorem NM_nodup : NM.Nodup := by decide
theorem SM_nodup : SM.Nodup := by decide
theorem PieceW.drawn_ok {x : PieceW} (h : x.drawn) : x.ok = true := by
  unfold PieceW.ok
  rw [(NM_name _ h.1).1, (SM_name _ h.2.1).1, inB_true.2 (by have := h.2.2.1; omega), inB_true.2 (by have := h.2.2.2; omega)]
  rfl
theorem DP.fits {l : List PieceW} (h : DP l) : ∀ x ∈ l, x.fits := fun x hx => ⟨(NM_name _ (h.all x hx).1).2, (SM_name _ (h.all x hx).2.1).2⟩
theorem DP.ok {l : List PieceW} (h : DP l) : piecesOk l = true := by
  unfold piecesOk
  rw [Bool.and_eq_true, List.all_eq_true]
  exact ⟨fun x hx => PieceW.drawn_ok (h.all x hx), decide_eq_true (by have := h.len; omega)⟩
end Go.Proofs.Ytgjcmnnhcoaliaa
