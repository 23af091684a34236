/- The plan of the orders, as plain Lean: on which order one works on each day, and what is left of each when it is due. -/
import Derived.Test.YtnfbeobdoieeiaaDoorOrdA
import Derived.Test.YtnfbeobdoieeiaaDoorTrio
namespace Go.Proofs.YtnfbeobdoieeiaaDoor
open Go.ChangeShapes Go.WideShapes Go.ChangeAt Go.RowKit Go.Deep
set_option maxRecDepth 100000
def dueAt (l : List Order) (b : Int) : Int := (l[b.toNat]?).elim 0 (fun x => x.fDue)
def better (l : List Order) (b : Int) (x : Order) : Bool := decide (b < 0) || decide (x.fDue < dueAt l b)
def pickTo (l : List Order) (left : List Int) (day : Int) : Nat → Int
  | 0 => -1
  | k + 1 => match l[k]?, left[k]? with
    | some x, some z => if x.fFrom ≤ day ∧ 0 < z ∧ better l (pickTo l left day k) x = true then (k : Int) else pickTo l left day k
    | _, _ => pickTo l left day k
theorem pickTo_yes {l : List Order} {left : List Int} {day : Int} {k : Nat} {x : Order} {z : Int} (hx : l[k]? = some x) (hz : left[k]? = some z) (h1 : x.fFrom ≤ day) (h2 : 0 < z) (h3 : better l (pickTo l left day k) x = true) : pickTo l left day (k + 1) = k := by
  simp [pickTo, hx, hz, h1, h2, h3]
theorem pickTo_no {l : List Order} {left : List Int} {day : Int} {k : Nat} {x : Order} {z : Int} (hx : l[k]? = some x) (hz : left[k]? = some z) (h : ¬ (x.fFrom ≤ day ∧ 0 < z ∧ better l (pickTo l left day k) x = true)) : pickTo l left day (k + 1) = pickTo l left day k := by
  simp only [pickTo, hx, hz]; rw [if_neg h]
theorem pickTo_bound (l : List Order) (left : List Int) (day : Int) (k : Nat) : -1 ≤ pickTo l left day k ∧ pickTo l left day k < k := by
  induction k with
  | zero => simp [pickTo]
  | succ k ih =>
    unfold pickTo
    split
    · split <;> omega
    · omega
theorem pickTo_pos (l : List Order) (left : List Int) (day : Int) (k : Nat) (h : 0 ≤ pickTo l left day k) : ∃ z, left[(pickTo l left day k).toNat]? = some z ∧ 0 < z := by
  induction k with
  | zero => simp [pickTo] at h
  | succ k ih =>
    cases hx : l[k]? with
    | none => have e : pickTo l left day (k + 1) = pickTo l left day k := by simp [pickTo, hx]
              rw [e] at h ⊢; exact ih h
    | some x =>
      cases hz : left[k]? with
      | none => have e : pickTo l left day (k + 1) = pickTo l left day k := by simp [pickTo, hx, hz]
                rw [e] at h ⊢; exact ih h
      | some z =>
        by_cases hc : x.fFrom ≤ day ∧ 0 < z ∧ better l (pickTo l left day k) x = true
        · rw [pickTo_yes hx hz hc.1 hc.2.1 hc.2.2]
          exact ⟨z, by simpa using hz, hc.2.1⟩
        · rw [pickTo_no hx hz hc] at h ⊢
          exact ih h
def decr (left : List Int) (b : Int) : List Int := if 0 ≤ b then left.set b.toNat (left.getD b.toNat 0 - 1) else left
theorem decr_len (left : List Int) (b : Int) : (decr left b).length = left.length := by unfold decr; split <;> simp
def lateTo (l : List Order) (left late : List Int) (day : Int) : Nat → List Int
  | 0 => late
  | k + 1 => match l[k]?, left[k]? with
    | some x, some z => if x.fDue = day + 1 then (lateTo l left late day k).set k z else lateTo l left late day k
    | _, _ => lateTo l left late day k
theorem lateTo_yes {l : List Order} {left late : List Int} {day : Int} {k : Nat} {x : Order} {z : Int} (hx : l[k]? = some x) (hz : left[k]? = some z) (h1 : x.fDue = day + 1) : lateTo l left late day (k + 1) = (lateTo l left late day k).set k z := by
  simp [lateTo, hx, hz, h1]
theorem lateTo_no {l : List Order} {left late : List Int} {day : Int} {k : Nat} {x : Order} {z : Int} (hx : l[k]? = some x) (hz : left[k]? = some z) (h1 : ¬ x.fDue = day + 1) : lateTo l left late day (k + 1) = lateTo l left late day k := by
  simp only [lateTo, hx, hz]; rw [if_neg h1]
theorem lateTo_len (l : List Order) (left late : List Int) (day : Int) (k : Nat) : (lateTo l left late day k).length = late.length := by
  induction k with
  | zero => rfl
  | succ k ih =>
    unfold lateTo
    split
    · split
      · rw [List.length_set, ih]
      · exact ih
    · exact ih
structure Plan where
  days : List Int
  left : List Int
  late : List Int
def planPick (l : List Order) (p : Plan) (d : Nat) : Int := pickTo l p.left (d : Int) l.length
def planDay (l : List Order) (p : Plan) (d : Nat) : Plan :=
  ⟨p.days ++ [planPick l p d], decr p.left (planPick l p d), lateTo l (decr p.left (planPick l p d)) p.late (d : Int) l.length⟩
def planTo (l : List Order) : Nat → Plan
  | 0 => ⟨[], l.map dayF, List.replicate l.length 0⟩
  | d + 1 => planDay l (planTo l d) d
def lastDue (l : List Order) : Int := l.foldl (fun a x => max a x.fDue) 0
theorem lastDue_snoc {l : List Order} {k : Nat} {x : Order} (h : l[k]? = some x) : lastDue (l.take (k + 1)) = max (lastDue (l.take k)) x.fDue := by
  rw [take_snoc h]; simp [lastDue, List.foldl_append]
theorem lastDue_bound {l : List Order} (h : ∀ x ∈ l, x.fDue ≤ 5000) : 0 ≤ lastDue l ∧ lastDue l ≤ 5000 := by
  have key : ∀ (l : List Order) (a : Int), 0 ≤ a → a ≤ 5000 → (∀ x ∈ l, x.fDue ≤ 5000) → 0 ≤ l.foldl (fun a x => max a x.fDue) a ∧ l.foldl (fun a x => max a x.fDue) a ≤ 5000 := by
    intro l
    induction l with
    | nil => intro a h0 h1 _; exact ⟨h0, h1⟩
    | cons y l ih =>
      intro a h0 h1 hl
      have hy := hl y (by simp)
      exact ih (max a y.fDue) (by omega) (by omega) (fun x hx => hl x (by simp [hx]))
  exact key l 0 (by omega) (by omega) h
def mPlan (l : List Order) : Plan := planTo l (lastDue l).toNat
theorem planTo_left_len (l : List Order) (d : Nat) : (planTo l d).left.length = l.length := by
  induction d with
  | zero => simp [planTo]
  | succ d ih => simp [planTo, planDay, decr_len, ih]
theorem planTo_late_len (l : List Order) (d : Nat) : (planTo l d).late.length = l.length := by
  induction d with
  | zero => simp [planTo]
  | succ d ih => simp [planTo, planDay, lateTo_len, ih]
theorem planTo_days_len (l : List Order) (d : Nat) : (planTo l d).days.length = d := by
  induction d with
  | zero => simp [planTo]
  | succ d ih => simp [planTo, planDay, ih]
theorem decr_all {left : List Int} {b : Int} {M : Int} (h : ∀ z ∈ left, 0 ≤ z ∧ z ≤ M) (hb : 0 ≤ b → ∃ z, left[b.toNat]? = some z ∧ 0 < z) : ∀ z ∈ decr left b, 0 ≤ z ∧ z ≤ M := by
  intro z hz
  unfold decr at hz
  split at hz
  · rename_i h0
    obtain ⟨y, hy, hy0⟩ := hb h0
    have hy1 := h y (List.mem_of_getElem? hy)
    rw [List.getD_eq_getElem?_getD, hy, Option.getD_some] at hz
    rcases List.mem_or_eq_of_mem_set hz with hz | hz
    · exact h z hz
    · omega
  · exact h z hz
theorem planTo_left_all {l : List Order} (h : ∀ x ∈ l, 0 ≤ dayF x ∧ dayF x ≤ 2000) (d : Nat) : ∀ z ∈ (planTo l d).left, 0 ≤ z ∧ z ≤ 2000 := by
  induction d with
  | zero =>
    intro z hz
    simp only [planTo, List.mem_map] at hz
    obtain ⟨x, hx, rfl⟩ := hz
    exact h x hx
  | succ d ih => exact decr_all ih (fun h0 => pickTo_pos _ _ _ _ h0)
end Go.Proofs.YtnfbeobdoieeiaaDoor
