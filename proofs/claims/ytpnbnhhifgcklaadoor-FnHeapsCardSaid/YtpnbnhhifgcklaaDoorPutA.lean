/- Heaps put in order, as plain Lean. No statement is proved here. -/
import Derived.Test.YtpnbnhhifgcklaaDoorHeapA
namespace Go.Proofs.YtpnbnhhifgcklaaDoor
open Go.ChangeShapes Go.WideShapes Go.ChangeAt Go.RowKit Go.Deep
theorem hLt_iff {a b : Heap} : hLt a b = true ↔ strLt a.fSort b.fSort = true ∨ (a.fSort = b.fSort ∧ a.fYear < b.fYear) := by simp [hLt]
theorem hLt_trans {a b c : Heap} (h : hLt a b = true) (h' : hLt b c = true) : hLt a c = true := by
  rw [hLt_iff] at *
  rcases h with h | ⟨h1, h2⟩ <;> rcases h' with h' | ⟨h3, h4⟩
  · exact .inl (strLt_trans h h')
  · exact .inl (by rw [← h3]; exact h)
  · exact .inl (by rw [h1]; exact h')
  · exact .inr ⟨h1.trans h3, by omega⟩
theorem hLt_irrefl (a : Heap) : hLt a a = false := by
  cases h : hLt a a with
  | false => rfl
  | true => rw [hLt_iff, strLt_irrefl] at h; rcases h with h | ⟨_, h⟩; cases h; omega
theorem hLt_asymm {a b : Heap} (h : hLt a b = true) : hLt b a = false := by
  cases h' : hLt b a with
  | false => rfl
  | true => have := hLt_trans h h'; rw [hLt_irrefl] at this; cases this
theorem hLt_total {a b : Heap} (h : hLt a b = false) (h' : ¬ (a.fSort = b.fSort ∧ a.fYear = b.fYear)) : hLt b a = true := by
  rw [hLt_iff]
  have h1 : ¬ (strLt a.fSort b.fSort = true ∨ (a.fSort = b.fSort ∧ a.fYear < b.fYear)) := by rw [← hLt_iff, h]; simp
  by_cases hs : a.fSort = b.fSort
  · right
    have : ¬ a.fYear = b.fYear := fun e => h' ⟨hs, e⟩
    have : ¬ a.fYear < b.fYear := fun e => h1 (.inr ⟨hs, e⟩)
    exact ⟨hs.symm, by omega⟩
  · left
    cases h2 : strLt b.fSort a.fSort with
    | true => rfl
    | false => exact absurd (strLt_total (by cases h3 : strLt a.fSort b.fSort with | false => rfl | true => exact absurd (.inl h3) h1) h2) hs
theorem hLt_key {a b c d : Heap} (h1 : a.fSort = b.fSort) (h2 : a.fYear = b.fYear) (h3 : c.fSort = d.fSort) (h4 : c.fYear = d.fYear) : hLt a c = hLt b d := by unfold hLt; rw [h1, h2, h3, h4]
def Srt (l : List Heap) : Prop := l.Pairwise (fun a b => hLt a b = true)
def putK (l : List Heap) (x : Heap) : Nat := (l.takeWhile (fun y => hLt y x)).length
theorem putK_le (l : List Heap) (x : Heap) : putK l x ≤ l.length := by
  unfold putK; exact List.Sublist.length_le (List.takeWhile_sublist _)
theorem putK_uniq (l : List Heap) (x : Heap) (k : Nat) (hk : k ≤ l.length) (h1 : ∀ (i : Nat) y, i < k → l[i]? = some y → hLt y x = true) (h2 : ∀ y, l[k]? = some y → hLt y x = false) : putK l x = k := by
  induction l generalizing k with
  | nil => simp at hk; subst hk; rfl
  | cons a l ih =>
    unfold putK
    cases k with
    | zero =>
      have := h2 a rfl
      rw [List.takeWhile_cons, this]; rfl
    | succ k =>
      have ha := h1 0 a (by omega) rfl
      rw [List.takeWhile_cons, ha]
      have := ih k (by simpa using hk) (fun i y hi hy => h1 (i + 1) y (by omega) (by simpa using hy)) (fun y hy => h2 y (by simpa using hy))
      simp only [if_true, List.length_cons]
      unfold putK at this
      omega
theorem putK_lt (l : List Heap) (x : Heap) : ∀ (i : Nat) y, i < putK l x → l[i]? = some y → hLt y x = true := by
  induction l with
  | nil => intro i y hi; simp [putK] at hi
  | cons a l ih =>
    intro i y hi hy
    unfold putK at hi
    rw [List.takeWhile_cons] at hi
    split at hi
    · rename_i ha
      cases i with
      | zero => simp at hy; subst hy; exact ha
      | succ i => exact ih i y (by unfold putK; simp at hi; omega) (by simpa using hy)
    · simp at hi
theorem putK_ge (l : List Heap) (x : Heap) : ∀ y, l[putK l x]? = some y → hLt y x = false := by
  induction l with
  | nil => intro y hy; simp at hy
  | cons a l ih =>
    intro y hy
    unfold putK at hy
    rw [List.takeWhile_cons] at hy
    split at hy
    · exact ih y (by unfold putK; simpa using hy)
    · rename_i ha
      simp at hy; subst hy
      simpa using ha
def sameKey (y x : Heap) : Bool := decide (y.fSort = x.fSort) && decide (y.fYear = x.fYear)
theorem sameKey_iff {y x : Heap} : sameKey y x = true ↔ y.fSort = x.fSort ∧ y.fYear = x.fYear := by simp [sameKey]
def putFound (l : List Heap) (x : Heap) : Bool := match l[putK l x]? with
  | some y => sameKey y x
  | none => false
def putAt (l : List Heap) (x : Heap) : Heap := match l[putK l x]? with
  | some y => ⟨x.fSort, x.fYear, x.fBundles + y.fBundles⟩
  | none => x
def hPut (l : List Heap) (x : Heap) : List Heap :=
  if putFound l x then l.take (putK l x) ++ putAt l x :: l.drop (putK l x + 1) else l.take (putK l x) ++ x :: l.drop (putK l x)
theorem found_at {l : List Heap} {x : Heap} (h : putFound l x = true) : ∃ y, l[putK l x]? = some y ∧ y.fSort = x.fSort ∧ y.fYear = x.fYear ∧ putK l x < l.length ∧ putAt l x = ⟨x.fSort, x.fYear, x.fBundles + y.fBundles⟩ := by
  unfold putFound at h
  unfold putAt
  cases hy : l[putK l x]? with
  | none => rw [hy] at h; cases h
  | some y =>
    rw [hy] at h
    obtain ⟨h1, h2⟩ := sameKey_iff.1 h
    exact ⟨y, rfl, h1, h2, lt_of_get hy, rfl⟩
theorem hPut_found {l : List Heap} {x : Heap} (h : putFound l x = true) : hPut l x = l.set (putK l x) (putAt l x) := by
  obtain ⟨y, hy, _, _, hlt, _⟩ := found_at h
  unfold hPut
  rw [if_pos h, List.set_eq_take_append_cons_drop, if_pos hlt]
theorem hPut_len (l : List Heap) (x : Heap) : (hPut l x).length ≤ l.length + 1 := by
  have := putK_le l x
  unfold hPut
  split <;> simp <;> omega
theorem srt_put {l : List Heap} {x : Heap} (h : Srt l) : Srt (hPut l x) := by
  have hk := putK_le l x
  have hlo := putK_lt l x
  have hge := putK_ge l x
  have hmem : ∀ y ∈ l.take (putK l x), hLt y x = true := by
    intro y hy
    obtain ⟨i, hi⟩ := List.mem_iff_getElem?.1 hy
    have hil := lt_of_get hi
    rw [List.length_take] at hil
    rw [List.getElem?_take, if_pos (by omega)] at hi
    exact hlo i y (by omega) hi
  have hsplit := h
  unfold Srt at hsplit ⊢
  rw [← List.take_append_drop (putK l x) l, List.pairwise_append] at hsplit
  obtain ⟨p1, p2, p3⟩ := hsplit
  unfold hPut
  split
  · rename_i hf
    obtain ⟨y, hy, e1, e2, hlt, hat⟩ := found_at hf
    have hz : ∀ a b : Heap, hLt a x = hLt a (putAt l x) ∧ hLt y b = hLt (putAt l x) b := fun a b => by
      rw [hat]; exact ⟨hLt_key rfl rfl rfl rfl, hLt_key e1 e2 rfl rfl⟩
    have hd : l.drop (putK l x) = y :: l.drop (putK l x + 1) := by
      rw [List.drop_eq_getElem_cons hlt]
      rw [List.getElem?_eq_getElem hlt] at hy
      rw [Option.some.inj hy]
    rw [hd, List.pairwise_cons] at p2
    rw [List.pairwise_append]
    refine ⟨p1, ?_, ?_⟩
    · rw [List.pairwise_cons]
      exact ⟨fun b hb => by rw [← (hz b b).2]; exact p2.1 b hb, p2.2⟩
    · intro a ha b hb
      rcases List.mem_cons.1 hb with rfl | hb
      · rw [← (hz a a).1]; exact hmem a ha
      · exact p3 a ha b (by rw [hd]; exact List.mem_cons_of_mem _ hb)
  · rename_i hf
    rw [List.pairwise_append]
    have hx : ∀ b ∈ l.drop (putK l x), hLt x b = true := by
      intro b hb
      by_cases hlt : putK l x < l.length
      · have hy : l[putK l x]? = some l[putK l x] := List.getElem?_eq_getElem hlt
        have h1 : hLt x l[putK l x] = true := hLt_total (hge _ hy) (fun e => hf (by unfold putFound; rw [hy]; exact sameKey_iff.2 e))
        rw [List.drop_eq_getElem_cons hlt] at hb p2
        rw [List.pairwise_cons] at p2
        rcases List.mem_cons.1 hb with rfl | hb
        · exact h1
        · exact hLt_trans h1 (p2.1 b hb)
      · rw [List.drop_eq_nil_of_le (by omega)] at hb; cases hb
    refine ⟨p1, List.pairwise_cons.2 ⟨hx, p2⟩, ?_⟩
    intro a ha b hb
    rcases List.mem_cons.1 hb with rfl | hb
    · exact hmem a ha
    · exact p3 a ha b hb
theorem put_mem {l : List Heap} {x z : Heap} (h : z ∈ hPut l x) : z ∈ l ∨ (z.fSort = x.fSort ∧ z.fYear = x.fYear) := by
  unfold hPut at h
  split at h
  · rename_i hf
    obtain ⟨y, hy, e1, e2, hlt, hat⟩ := found_at hf
    rcases List.mem_append.1 h with h | h
    · exact .inl (List.mem_of_mem_take h)
    · rcases List.mem_cons.1 h with rfl | h
      · rw [hat]; exact .inr ⟨rfl, rfl⟩
      · exact .inl (List.mem_of_mem_drop h)
  · rcases List.mem_append.1 h with h | h
    · exact .inl (List.mem_of_mem_take h)
    · rcases List.mem_cons.1 h with rfl | h
      · exact .inr ⟨rfl, rfl⟩
      · exact .inl (List.mem_of_mem_drop h)
end Go.Proofs.YtpnbnhhifgcklaaDoor
