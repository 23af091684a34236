/- The log of a list of entries, in plain words. No statement is proved here. -/
import Derived.Test.YtgjhibkljpjdhaaDoorEntB
namespace Go.Proofs.YtgjhibkljpjdhaaDoor
open Go.ChangeShapes Go.WideShapes Go.ChangeAt Go.RowKit Go.Deep
set_option maxRecDepth 100000
theorem ba_size (s : ByteArray) : s.data.toList.length = s.size := by rw [Array.length_toList]; rfl
def lgF (a : Int × ByteArray) (e : Entry) : Int × ByteArray := (stampB a.1 (entB e), a.2 ++ lineB (stampB a.1 (entB e)) e)
def lgOf (l : List Entry) : Int × ByteArray := l.foldl lgF (0, ⟨#[]⟩)
theorem lgOf_snoc {l : List Entry} {k : Nat} {x : Entry} (h : l[k]? = some x) : lgOf (l.take (k + 1)) = lgF (lgOf (l.take k)) x := by
  unfold lgOf; rw [take_snoc h, List.foldl_append]; rfl
theorem lgF_one (a : Int × ByteArray) (x : Entry) : (lgF a x).1 = stampB a.1 (entB x) ∧ (lgF a x).2 = a.2 ++ lineB (stampB a.1 (entB x)) x := ⟨rfl, rfl⟩
theorem lg_range : ∀ (l : List Entry) (a : Int × ByteArray), 0 ≤ a.1 ∧ a.1 ≤ 65518 → 0 ≤ (l.foldl lgF a).1 ∧ (l.foldl lgF a).1 ≤ 65518
  | [], _, h => h
  | _ :: l, _, _ => lg_range l _ (stampB_range _ _)
theorem lgOf_range (l : List Entry) : 0 ≤ (lgOf l).1 ∧ (lgOf l).1 ≤ 65518 := lg_range l _ ⟨Int.le_refl _, by decide⟩
theorem lg_grows : ∀ (l : List Entry) (a : Int × ByteArray), a.2.size ≤ (l.foldl lgF a).2.size
  | [], _ => Nat.le_refl _
  | x :: l, a => by
    refine Nat.le_trans ?_ (lg_grows l (lgF a x))
    rw [(lgF_one a x).2, ByteArray.size_append]; omega
theorem lgOf_mono (l : List Entry) (k : Nat) : (lgOf (l.take k)).2.size ≤ (lgOf l).2.size := by
  have h := lg_grows (l.drop k) (lgOf (l.take k))
  unfold lgOf at h ⊢
  rw [← List.foldl_append, List.take_append_drop] at h
  exact h
theorem lg_size : ∀ (l : List Entry) (a : Int × ByteArray), 0 ≤ a.1 ∧ a.1 ≤ 65518 → (∀ x ∈ l, x.ok = true) → (l.foldl lgF a).2.size ≤ a.2.size + 2000000 * l.length
  | [], _, _, _ => by simp
  | x :: l, a, _, hx => by
    have h1 := lg_size l (lgF a x) (stampB_range _ _) (fun y hy => hx y (List.mem_cons_of_mem _ hy))
    obtain ⟨r1, r2⟩ := stampB_range a.1 (entB x)
    have h2 := lineB_size r1 r2 (hx x List.mem_cons_self)
    rw [(lgF_one a x).2, ByteArray.size_append] at h1
    rw [List.foldl_cons, List.length_cons]
    omega
theorem lgOf_size {l : List Entry} (h : ∀ x ∈ l, x.ok = true) : (lgOf l).2.size ≤ 2000000 * l.length := by
  have h1 := lg_size l (0, ⟨#[]⟩) ⟨Int.le_refl _, by decide⟩ h
  have h2 : (⟨#[]⟩ : ByteArray).size = 0 := rfl
  unfold lgOf
  simp only [h2, Nat.zero_add] at h1
  exact h1
/-- Entry j is earlier than the one before it. -/
def lateAt (l : List Entry) (j : Nat) : Bool := match l[j]?, l[j - 1]? with
  | some x, some y => decide (x.fDay < y.fDay)
  | _, _ => false
theorem lateAt_eq {l : List Entry} {j : Nat} {x y : Entry} (hx : l[j]? = some x) (hy : l[j - 1]? = some y) : lateAt l j = decide (x.fDay < y.fDay) := by unfold lateAt; rw [hx, hy]
def inOrd (l : List Entry) : Bool := (List.range l.length).all fun j => !(decide (1 ≤ j) && lateAt l j)
theorem inOrd_true {l : List Entry} (h : ∀ j, 1 ≤ j → j < l.length → lateAt l j = false) : inOrd l = true := by
  unfold inOrd
  rw [List.all_eq_true]
  intro j hj
  by_cases h1 : 1 ≤ j
  · rw [h j h1 (List.mem_range.1 hj)]; simp
  · rw [decide_eq_false h1]; rfl
theorem inOrd_false {l : List Entry} {j : Nat} (h1 : 1 ≤ j) (h2 : j < l.length) (h : lateAt l j = true) : inOrd l = false := by
  unfold inOrd
  rw [List.all_eq_false]
  exact ⟨j, List.mem_range.2 h2, by rw [h, decide_eq_true h1]; simp⟩
theorem inOrd_at {l : List Entry} (h : inOrd l = true) {j : Nat} (h1 : 1 ≤ j) (h2 : j < l.length) : lateAt l j = false := by
  unfold inOrd at h
  have := List.all_eq_true.1 h j (List.mem_range.2 h2)
  rw [decide_eq_true h1] at this
  simpa using this
def allOk (l : List Entry) : Bool := l.all fun x => x.ok
theorem allOk_all {l : List Entry} (h : allOk l = true) : ∀ x ∈ l, x.ok = true := by unfold allOk at h; exact List.all_eq_true.1 h
def mLog (l : List Entry) : ByteArray × Int := if allOk l = false then (⟨#[]⟩, 7) else if inOrd l = false then (⟨#[]⟩, 6) else if 4000 < (lgOf l).2.size then (⟨#[]⟩, 5) else ((lgOf l).2, 0)
theorem mLog_bad {l : List Entry} (h : allOk l = false) : mLog l = (⟨#[]⟩, 7) := by unfold mLog; rw [if_pos h]
theorem mLog_late {l : List Entry} (h : allOk l = true) (h2 : inOrd l = false) : mLog l = (⟨#[]⟩, 6) := by unfold mLog; rw [if_neg (by simp [h]), if_pos h2]
theorem mLog_full {l : List Entry} (h : allOk l = true) (h2 : inOrd l = true) (h3 : 4000 < (lgOf l).2.size) : mLog l = (⟨#[]⟩, 5) := by unfold mLog; rw [if_neg (by simp [h]), if_neg (by simp [h2]), if_pos h3]
theorem mLog_good {l : List Entry} (h : allOk l = true) (h2 : inOrd l = true) (h3 : ¬ 4000 < (lgOf l).2.size) : mLog l = ((lgOf l).2, 0) := by unfold mLog; rw [if_neg (by simp [h]), if_neg (by simp [h2]), if_neg h3]
theorem ret2si {a a' : ByteArray} {b b' : Int} (h : a = a') (h' : b = b') : Ending.returned (.tuple #[.string a, .int .i64 b]) = .returned (.tuple #[.string a', .int .i64 b']) := by rw [h, h']
end Go.Proofs.YtgjhibkljpjdhaaDoor
