/- Sums over all names of a log, in plain words. No statement is proved here. -/
import Derived.Test.YtgjhibkljpjdhaaDoorLgR
import Derived.Test.YtgjhibkljpjdhaaDoorLogK
import Derived.Test.YtgjhibkljpjdhaaDoorLogM
import Derived.Test.YtgjhibkljpjdhaaDoorLogR
import Derived.Test.YtgjhibkljpjdhaaDoorSums
namespace Go.Proofs.YtgjhibkljpjdhaaDoor
open Go.ChangeShapes Go.WideShapes Go.ChangeAt Go.RowKit Go.Deep
set_option maxRecDepth 100000
theorem mem_fold {y : ByteArray} : ∀ (l : List Entry) (out : List ByteArray), y ∈ l.foldl nmAdd out ↔ y ∈ out ∨ ∃ x ∈ l, x.fWhat = y
  | [], out => by simp
  | x :: l, out => by
    rw [List.foldl_cons, mem_fold l]
    have h1 : y ∈ nmAdd out x ↔ y ∈ out ∨ x.fWhat = y := by
      unfold nmAdd
      by_cases h : hasB out x.fWhat = true
      · rw [if_pos h]
        have := hasB_iff.1 h
        constructor
        · exact .inl
        · rintro (h2 | h2)
          · exact h2
          · rw [← h2]; exact this
      · rw [if_neg h, List.mem_append, List.mem_singleton]
        constructor
        · rintro (h2 | h2)
          · exact .inl h2
          · exact .inr h2.symm
        · rintro (h2 | h2)
          · exact .inl h2
          · exact .inr h2.symm
    rw [h1]
    simp only [List.mem_cons, exists_eq_or_imp, or_assoc]
theorem mem_nmOf {y : ByteArray} {l : List Entry} : y ∈ nmOf l ↔ ∃ x ∈ l, x.fWhat = y := by unfold nmOf; rw [mem_fold]; simp
theorem fold_nodup : ∀ (l : List Entry) (out : List ByteArray), out.Nodup → (l.foldl nmAdd out).Nodup
  | [], out, h => h
  | x :: l, out, h => by
    refine fold_nodup l _ ?_
    unfold nmAdd
    by_cases hb : hasB out x.fWhat = true
    · rw [if_pos hb]; exact h
    · rw [if_neg hb, List.nodup_append]
      refine ⟨h, by simp, fun a ha b hb' e => hb (hasB_iff.2 ?_)⟩
      rw [← List.mem_singleton.1 hb', ← e]; exact ha
theorem nmOf_nodup (l : List Entry) : (nmOf l).Nodup := fold_nodup l [] List.nodup_nil
def oneF (y : ByteArray) (x : Entry) : Int := if x.fWhat = y then x.fValue else 0
def cntF (y : ByteArray) (x : Entry) : Int := if x.fWhat = y then 1 else 0
theorem sumW_one {l : List Entry} (h : ∀ x ∈ l, x.ok = true) (y : ByteArray) : sumW y 0 100000 l = sumOf (oneF y) l := by
  unfold sumW
  refine sumOf_congr fun x hx => ?_
  have hd := (Entry.ok_iff.1 (h x hx)).1
  unfold pickB oneF
  rw [inB_true.2 hd]
  by_cases he : x.fWhat = y
  · rw [decide_eq_true he, if_pos he]; rfl
  · rw [decide_eq_false he, if_neg he]; rfl
theorem vals_sum (y : ByteArray) : ∀ l : List Entry, sumOf id (valsOf y l) = sumOf (oneF y) l ∧ ((valsOf y l).length : Int) = sumOf (cntF y) l
  | [] => ⟨rfl, rfl⟩
  | x :: l => by
    obtain ⟨h1, h2⟩ := vals_sum y l
    rw [sumOf_cons', sumOf_cons']
    unfold oneF cntF
    by_cases he : x.fWhat = y
    · have e : valsOf y (x :: l) = x.fValue :: valsOf y l := by unfold valsOf; rw [List.filter_cons_of_pos (by simp [he])]; rfl
      rw [e, if_pos he, if_pos he, sumOf_cons', h1, List.length_cons]
      exact ⟨rfl, by have := h2; unfold cntF at this; omega⟩
    · have e : valsOf y (x :: l) = valsOf y l := by unfold valsOf; rw [List.filter_cons_of_neg (by simp [he])]
      rw [e, if_neg he, if_neg he, h1, h2]
      exact ⟨by unfold oneF; omega, by unfold cntF; omega⟩
theorem sumOf_pick {N : List ByteArray} (hN : N.Nodup) {v : ByteArray} (hv : v ∈ N) (m : Int) : sumOf (fun y => if v = y then m else 0) N = m := sumOf_one hN hv m
theorem ones_sum : ∀ l : List Entry, sumOf (fun _ => (1 : Int)) l = l.length
  | [] => rfl
  | _ :: l => by rw [sumOf_cons', ones_sum l, List.length_cons]; omega
theorem all_names (l : List Entry) : sumOf (fun y => sumOf (oneF y) l) (nmOf l) = sumOf (·.fValue) l ∧ sumOf (fun y => sumOf (cntF y) l) (nmOf l) = l.length := by
  constructor
  · rw [sumOf_swap]
    exact sumOf_congr fun x hx => sumOf_pick (nmOf_nodup l) (mem_nmOf.2 ⟨x, hx, rfl⟩) x.fValue
  · rw [sumOf_swap]
    have : sumOf (fun x : Entry => sumOf (fun y => cntF y x) (nmOf l)) l = sumOf (fun _ => (1 : Int)) l := sumOf_congr fun x hx => sumOf_pick (nmOf_nodup l) (mem_nmOf.2 ⟨x, hx, rfl⟩) 1
    rw [this, ones_sum]
theorem names_nil (l : List Entry) : (nmOf l).length = 0 ↔ l.length = 0 := by
  constructor
  · intro h
    cases l with
    | nil => rfl
    | cons a l =>
      have : a.fWhat ∈ nmOf (a :: l) := mem_nmOf.2 ⟨a, List.mem_cons_self, rfl⟩
      rw [List.eq_nil_of_length_eq_zero h] at this
      cases this
  · intro h
    rw [List.eq_nil_of_length_eq_zero h]; rfl
/-- A name of a log: what the log says of it. -/
theorem name_of {l : List Entry} (h : DE l) (hn : l.length ≤ 7) {y : ByteArray} (hy : y ∈ nmOf l) : sw (lgOf l).2 y 0 100000 = 0 ∧ mSum (lgOf l).2 y 0 100000 = sumOf (oneF y) l ∧ lw (lgOf l).2 y = 0 ∧ mVals (lgOf l).2 y = valsOf y l ∧ 0 < (valsOf y l).length ∧ y.size ≤ maxLen := by
  obtain ⟨h1, h2, _, _⟩ := h.lcode hn
  obtain ⟨x, hx, rfl⟩ := mem_nmOf.1 hy
  have hnm := (Entry.ok_iff.1 (h.ok x hx)).2.1
  obtain ⟨s1, s2⟩ := sw_good h1 hnm (inB_true.2 (by decide)) (inB_true.2 (by decide)) (a := 0) (b := 100000)
  have hlw : lw (lgOf l).2 x.fWhat = 0 := by unfold lw; rw [if_neg (by simp [hnm]), h1]
  refine ⟨s1, by rw [s2, h2, sumW_one h.ok], hlw, by unfold mVals; rw [if_pos hlw, h2], ?_, Entry.fits_of_ok (h.ok x hx)⟩
  refine List.length_pos_of_mem (a := x.fValue) ?_
  unfold valsOf
  exact List.mem_map.2 ⟨x, List.mem_filter.2 ⟨hx, decide_eq_true rfl⟩, rfl⟩
theorem oneF_bound {l : List Entry} (h : DE l) (y : ByteArray) : ∀ x ∈ l, -1000000 ≤ oneF y x ∧ oneF y x ≤ 1000000 := by
  intro x hx
  have := (Entry.ok_iff.1 (h.ok x hx)).2.2
  unfold oneF
  split <;> omega
theorem sumB {α : Type} {f : α → Int} {M : Int} : ∀ {l : List α}, (∀ x ∈ l, -M ≤ f x ∧ f x ≤ M) → -(M * l.length) ≤ sumOf f l ∧ sumOf f l ≤ M * l.length
  | [], _ => by simp [sumOf]
  | a :: l, h => by
    have h1 := sumB fun x hx => h x (List.mem_cons_of_mem a hx)
    have h2 := h a List.mem_cons_self
    have e : M * ((a :: l).length : Int) = M * l.length + M := by rw [List.length_cons, Int.natCast_add, Int.mul_add]; simp
    rw [sumOf_cons', e]; omega
theorem sumB7 {α : Type} {f : α → Int} {M : Int} {l : List α} (h : ∀ x ∈ l, -M ≤ f x ∧ f x ≤ M) (hl : l.length ≤ 7) (hM : 0 ≤ M) : -(M * 7) ≤ sumOf f l ∧ sumOf f l ≤ M * 7 := by
  have h1 := sumB h
  have h2 : M * (l.length : Int) ≤ M * 7 := Int.mul_le_mul_of_nonneg_left (by omega) hM
  omega
theorem nm7 {l : List Entry} (hn : l.length ≤ 7) : (nmOf l).length ≤ 7 := Nat.le_trans (nmOf_len l) hn
end Go.Proofs.YtgjhibkljpjdhaaDoor
