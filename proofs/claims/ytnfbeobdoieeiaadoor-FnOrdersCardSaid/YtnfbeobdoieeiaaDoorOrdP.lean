/- The busiest span of the orders in plain Lean: what what both compute is one. -/
import Derived.Test.YtnfbeobdoieeiaaDoorOrdG
namespace Go.Proofs.YtnfbeobdoieeiaaDoor
open Go.ChangeShapes Go.WideShapes Go.ChangeAt Go.RowKit Go.Deep
def rowTo {σ : Type} (f : Order → Order → σ → σ) (l : List Order) (a : Order) (s : σ) : Nat → σ
  | 0 => s
  | j + 1 => match l[j]? with | some b => f a b (rowTo f l a s j) | none => rowTo f l a s j
def gridTo {σ : Type} (f : Order → Order → σ → σ) (l : List Order) (s : σ) : Nat → σ
  | 0 => s
  | k + 1 => match l[k]? with | some a => rowTo f l a (gridTo f l s k) l.length | none => gridTo f l s k
theorem rowTo_succ {σ : Type} {f : Order → Order → σ → σ} {l : List Order} {a b : Order} {s : σ} {j : Nat} (h : l[j]? = some b) : rowTo f l a s (j + 1) = f a b (rowTo f l a s j) := by simp [rowTo, h]
theorem gridTo_succ {σ : Type} {f : Order → Order → σ → σ} {l : List Order} {a : Order} {s : σ} {k : Nat} (h : l[k]? = some a) : gridTo f l s (k + 1) = rowTo f l a (gridTo f l s k) l.length := by simp [gridTo, h]
theorem rowTo_none {σ : Type} {f : Order → Order → σ → σ} {l : List Order} {a : Order} {s : σ} {j : Nat} (h : l[j]? = none) : rowTo f l a s (j + 1) = rowTo f l a s j := by simp [rowTo, h]
theorem gridTo_none {σ : Type} {f : Order → Order → σ → σ} {l : List Order} {s : σ} {k : Nat} (h : l[k]? = none) : gridTo f l s (k + 1) = gridTo f l s k := by simp [gridTo, h]
theorem rowTo_inv {σ : Type} {f : Order → Order → σ → σ} {l : List Order} {P : σ → Prop} {a : Order} (ha : a ∈ l) (hf : ∀ a ∈ l, ∀ b ∈ l, ∀ s, P s → P (f a b s)) {s : σ} (hs : P s) (j : Nat) : P (rowTo f l a s j) := by
  induction j with
  | zero => exact hs
  | succ j ih =>
    cases hb : l[j]? with
    | none => simp only [rowTo, hb]; exact ih
    | some b => rw [rowTo_succ hb]; exact hf a ha b (List.mem_of_getElem? hb) _ ih
theorem gridTo_inv {σ : Type} {f : Order → Order → σ → σ} {l : List Order} {P : σ → Prop} (hf : ∀ a ∈ l, ∀ b ∈ l, ∀ s, P s → P (f a b s)) {s : σ} (hs : P s) (k : Nat) : P (gridTo f l s k) := by
  induction k with
  | zero => exact hs
  | succ k ih =>
    cases ha : l[k]? with
    | none => simp only [gridTo, ha]; exact ih
    | some a => rw [gridTo_succ ha]; exact rowTo_inv (List.mem_of_getElem? ha) hf ih _
def spanSum (l : List Order) (a b : Int) : Nat → Int
  | 0 => 0
  | q + 1 => match l[q]? with | some x => if a ≤ x.fFrom ∧ x.fDue ≤ b then spanSum l a b q + dayF x else spanSum l a b q | none => spanSum l a b q
theorem spanSum_yes {l : List Order} {a b : Int} {q : Nat} {x : Order} (hx : l[q]? = some x) (h1 : a ≤ x.fFrom) (h2 : x.fDue ≤ b) : spanSum l a b (q + 1) = spanSum l a b q + dayF x := by simp [spanSum, hx, h1, h2]
theorem spanSum_no {l : List Order} {a b : Int} {q : Nat} {x : Order} (hx : l[q]? = some x) (h : ¬ (a ≤ x.fFrom ∧ x.fDue ≤ b)) : spanSum l a b (q + 1) = spanSum l a b q := by
  simp only [spanSum, hx]; rw [if_neg h]
theorem spanSum_bound {l : List Order} (h : ∀ x ∈ l, 0 ≤ dayF x ∧ dayF x ≤ 2000) (a b : Int) (q : Nat) : 0 ≤ spanSum l a b q ∧ spanSum l a b q ≤ 2000 * q := by
  induction q with
  | zero => simp [spanSum]
  | succ q ih =>
    cases hx : l[q]? with
    | none => simp only [spanSum, hx]; omega
    | some x =>
      have hd := h x (List.mem_of_getElem? hx)
      by_cases hc : a ≤ x.fFrom ∧ x.fDue ≤ b
      · rw [spanSum_yes hx hc.1 hc.2]; omega
      · rw [spanSum_no hx hc]; omega
theorem spanSum_pos {l : List Order} (h : ∀ x ∈ l, 1 ≤ dayF x) {a b : Int} {x : Order} (hx : l[0]? = some x) (h1 : a ≤ x.fFrom) (h2 : x.fDue ≤ b) (q : Nat) : 0 < spanSum l a b (q + 1) := by
  induction q with
  | zero => rw [spanSum_yes hx h1 h2]; have := h x (List.mem_of_getElem? hx); simp only [spanSum]; omega
  | succ q ih =>
    cases hy : l[q + 1]? with
    | none => unfold spanSum; rw [hy]; exact ih
    | some y =>
      have hd := h y (List.mem_of_getElem? hy)
      by_cases hc : a ≤ y.fFrom ∧ y.fDue ≤ b
      · rw [spanSum_yes hy hc.1 hc.2]; omega
      · rw [spanSum_no hy hc]; exact ih
structure Span where
  fr : Int
  till : Int
  num : Int
  den : Int
structure Most where
  fr : Int
  till : Int
  most : Int
def first' (a b : Order) (fr till : Int) : Prop := a.fFrom < fr ∨ (a.fFrom = fr ∧ b.fDue < till)
instance (a b : Order) (fr till : Int) : Decidable (first' a b fr till) := by unfold first'; infer_instance
def sumIn (l : List Order) (a b : Order) : Int := spanSum l a.fFrom b.fDue l.length
def moreS (l : List Order) (a b : Order) (s : Span) : Int := sumIn l a b * s.den - s.num * (b.fDue - a.fFrom)
def moreI (l : List Order) (a b : Order) (s : Most) : Int := sumIn l a b * (s.till - s.fr) - s.most * (b.fDue - a.fFrom)
def stepS (l : List Order) (a b : Order) (s : Span) : Span :=
  if b.fDue ≤ a.fFrom then s else if 0 < moreS l a b s ∨ (moreS l a b s = 0 ∧ first' a b s.fr s.till) then ⟨a.fFrom, b.fDue, sumIn l a b, b.fDue - a.fFrom⟩ else s
def stepI (l : List Order) (a b : Order) (s : Most) : Most :=
  if b.fDue ≤ a.fFrom then s else if s.most < 0 ∨ 0 < moreI l a b s ∨ (moreI l a b s = 0 ∧ first' a b s.fr s.till) then ⟨a.fFrom, b.fDue, sumIn l a b⟩ else s
section
variable {l : List Order} {a b : Order}
theorem stepS_skip {s : Span} (h : b.fDue ≤ a.fFrom) : stepS l a b s = s := if_pos h
theorem stepS_take {s : Span} (h : ¬ b.fDue ≤ a.fFrom) (h2 : 0 < moreS l a b s ∨ (moreS l a b s = 0 ∧ first' a b s.fr s.till)) : stepS l a b s = ⟨a.fFrom, b.fDue, sumIn l a b, b.fDue - a.fFrom⟩ := by unfold stepS; rw [if_neg h, if_pos h2]
theorem stepS_keep {s : Span} (h : ¬ b.fDue ≤ a.fFrom) (h2 : ¬ (0 < moreS l a b s ∨ (moreS l a b s = 0 ∧ first' a b s.fr s.till))) : stepS l a b s = s := by unfold stepS; rw [if_neg h, if_neg h2]
theorem stepI_skip {s : Most} (h : b.fDue ≤ a.fFrom) : stepI l a b s = s := if_pos h
theorem stepI_take {s : Most} (h : ¬ b.fDue ≤ a.fFrom) (h2 : s.most < 0 ∨ 0 < moreI l a b s ∨ (moreI l a b s = 0 ∧ first' a b s.fr s.till)) : stepI l a b s = ⟨a.fFrom, b.fDue, sumIn l a b⟩ := by unfold stepI; rw [if_neg h, if_pos h2]
theorem stepI_keep {s : Most} (h : ¬ b.fDue ≤ a.fFrom) (h2 : ¬ (s.most < 0 ∨ 0 < moreI l a b s ∨ (moreI l a b s = 0 ∧ first' a b s.fr s.till))) : stepI l a b s = s := by unfold stepI; rw [if_neg h, if_neg h2]
end
structure Span.In (s : Span) : Prop where
  fr : 0 ≤ s.fr ∧ s.fr ≤ 5000
  till : 0 ≤ s.till ∧ s.till ≤ 5000
  num : 0 ≤ s.num ∧ s.num ≤ 60000
  den : 1 ≤ s.den ∧ s.den ≤ 5000
structure Most.In (s : Most) : Prop where
  fr : 0 ≤ s.fr ∧ s.fr ≤ 5000
  till : s.fr ≤ s.till ∧ s.till ≤ 5000
  most : -1 ≤ s.most ∧ s.most ≤ 60000
structure OrdersIn (l : List Order) : Prop where
  len : l.length ≤ 30
  day : ∀ x ∈ l, 1 ≤ dayF x ∧ dayF x ≤ 2000
  fr : ∀ x ∈ l, 0 ≤ x.fFrom ∧ x.fFrom < x.fDue ∧ x.fDue ≤ 5000
theorem orders_in {l : List Order} (h : ordersOk l = true) : OrdersIn l :=
  ⟨orders_len h, fun _ hx => dayF_bound (orders_at h hx), fun _ hx => (Order.ok_iff.1 (orders_at h hx)).2.2.2⟩
theorem OrdersIn.sum {l : List Order} (h : OrdersIn l) (a b : Int) (q : Nat) (hq : q ≤ l.length) : 0 ≤ spanSum l a b q ∧ spanSum l a b q ≤ 60000 := by
  have h1 := spanSum_bound (l := l) (fun x hx => by have := h.day x hx; omega) a b q
  have := h.len
  omega
theorem stepS_in {l : List Order} (h : OrdersIn l) : ∀ a ∈ l, ∀ b ∈ l, ∀ s : Span, s.In → (stepS l a b s).In := by
  intro a ha b hb s hs
  by_cases h1 : b.fDue ≤ a.fFrom
  · rw [stepS_skip h1]; exact hs
  · by_cases h2 : 0 < moreS l a b s ∨ (moreS l a b s = 0 ∧ first' a b s.fr s.till)
    · rw [stepS_take h1 h2]
      have h3 := h.fr a ha
      have h4 := h.fr b hb
      exact ⟨⟨by show 0 ≤ a.fFrom; omega, by show a.fFrom ≤ _; omega⟩, ⟨by show 0 ≤ b.fDue; omega, by show b.fDue ≤ _; omega⟩, h.sum _ _ _ (Nat.le_refl _), ⟨by show 1 ≤ b.fDue - a.fFrom; omega, by show b.fDue - a.fFrom ≤ _; omega⟩⟩
    · rw [stepS_keep h1 h2]; exact hs
theorem stepI_in {l : List Order} (h : OrdersIn l) : ∀ a ∈ l, ∀ b ∈ l, ∀ s : Most, s.In → (stepI l a b s).In := by
  intro a ha b hb s hs
  by_cases h1 : b.fDue ≤ a.fFrom
  · rw [stepI_skip h1]; exact hs
  · by_cases h2 : s.most < 0 ∨ 0 < moreI l a b s ∨ (moreI l a b s = 0 ∧ first' a b s.fr s.till)
    · rw [stepI_take h1 h2]
      have h3 := h.fr a ha
      have h4 := h.fr b hb
      have h5 := h.sum a.fFrom b.fDue l.length (Nat.le_refl _)
      exact ⟨⟨by show 0 ≤ a.fFrom; omega, by show a.fFrom ≤ _; omega⟩, ⟨by show a.fFrom ≤ b.fDue; omega, by show b.fDue ≤ _; omega⟩, ⟨by show -1 ≤ spanSum _ _ _ _; omega, h5.2⟩⟩
    · rw [stepI_keep h1 h2]; exact hs
def start3 : Most := ⟨0, 0, -1⟩
def start4 : Span := ⟨0, 0, 0, 1⟩
theorem start3_in : start3.In := ⟨by decide, by decide, by decide⟩
theorem start4_in : start4.In := ⟨by decide, by decide, by decide, by decide⟩
def Twin (s : Most) (t : Span) : Prop := s.fr = t.fr ∧ s.till = t.till ∧ s.most = t.num ∧ t.den = t.till - t.fr ∧ 0 ≤ t.num
theorem twin_step {l : List Order} (h : OrdersIn l) : ∀ a b, ∀ (s : Most) (t : Span), Twin s t → Twin (stepI l a b s) (stepS l a b t) := by
  intro a b s t ht
  obtain ⟨h1, h2, h3, h4, h5⟩ := ht
  have hm : moreI l a b s = moreS l a b t := by unfold moreI moreS; rw [h1, h2, h3, h4]
  by_cases hd : b.fDue ≤ a.fFrom
  · rw [stepI_skip hd, stepS_skip hd]; exact ⟨h1, h2, h3, h4, h5⟩
  · by_cases hc : 0 < moreS l a b t ∨ (moreS l a b t = 0 ∧ first' a b t.fr t.till)
    · rw [stepI_take hd (by rw [hm, h1, h2]; exact .inr hc), stepS_take hd hc]
      exact ⟨rfl, rfl, rfl, rfl, (h.sum _ _ _ (Nat.le_refl _)).1⟩
    · rw [stepI_keep hd (by rw [hm, h1, h2]; intro h6; rcases h6 with h6 | h6; exact absurd h6 (by omega); exact hc h6), stepS_keep hd hc]
      exact ⟨h1, h2, h3, h4, h5⟩
theorem twin_start {l : List Order} (h : OrdersIn l) {a : Order} (ha : l[0]? = some a) : Twin (stepI l a a start3) (stepS l a a start4) := by
  have hf := h.fr a (List.mem_of_getElem? ha)
  have hd : ¬ a.fDue ≤ a.fFrom := by omega
  obtain ⟨m, hm⟩ : ∃ m, l.length = m + 1 := by
    cases l with
    | nil => simp at ha
    | cons _ t => exact ⟨t.length, rfl⟩
  have hp : 0 < sumIn l a a := by unfold sumIn; rw [hm]; exact spanSum_pos (fun x hx => (h.day x hx).1) ha (Int.le_refl _) (Int.le_refl _) m
  rw [stepI_take hd (.inl (by decide)), stepS_take hd (.inl (by unfold moreS start4; show 0 < sumIn l a a * 1 - 0 * _; omega))]
  exact ⟨rfl, rfl, rfl, rfl, Int.le_of_lt hp⟩
theorem twin_row {l : List Order} (h : OrdersIn l) (a : Order) {s : Most} {t : Span} (ht : Twin s t) (j : Nat) : Twin (rowTo (stepI l) l a s j) (rowTo (stepS l) l a t j) := by
  induction j with
  | zero => exact ht
  | succ j ih =>
    cases hb : l[j]? with
    | none => simp only [rowTo, hb]; exact ih
    | some b => rw [rowTo_succ hb, rowTo_succ hb]; exact twin_step h a b _ _ ih
theorem twin_row0 {l : List Order} (h : OrdersIn l) {a : Order} (ha : l[0]? = some a) (j : Nat) : Twin (rowTo (stepI l) l a start3 (j + 1)) (rowTo (stepS l) l a start4 (j + 1)) := by
  induction j with
  | zero => rw [rowTo_succ ha, rowTo_succ ha]; exact twin_start h ha
  | succ j ih =>
    cases hb : l[j + 1]? with
    | none => rw [rowTo_none hb, rowTo_none hb]; exact ih
    | some b => rw [rowTo_succ hb, rowTo_succ hb]; exact twin_step h a b _ _ ih
theorem twin_grid {l : List Order} (h : OrdersIn l) {a : Order} (ha : l[0]? = some a) (k : Nat) : Twin (gridTo (stepI l) l start3 (k + 1)) (gridTo (stepS l) l start4 (k + 1)) := by
  obtain ⟨m, hm⟩ : ∃ m, l.length = m + 1 := by
    cases l with
    | nil => simp at ha
    | cons _ t => exact ⟨t.length, rfl⟩
  induction k with
  | zero => rw [gridTo_succ ha, gridTo_succ ha, hm]; exact twin_row0 h ha m
  | succ k ih =>
    cases hb : l[k + 1]? with
    | none => rw [gridTo_none hb, gridTo_none hb]; exact ih
    | some b => rw [gridTo_succ hb, gridTo_succ hb]; exact twin_row h b ih _
/-- What the program keeps is what the reference keeps. -/
theorem twin_all {l : List Order} (h : ordersOk l = true) (hl : 0 < l.length) : Twin (gridTo (stepI l) l start3 l.length) (gridTo (stepS l) l start4 l.length) := by
  obtain ⟨m, hm⟩ : ∃ m, l.length = m + 1 := ⟨l.length - 1, by omega⟩
  obtain ⟨a, ha⟩ : ∃ a, l[0]? = some a := ⟨l[0], List.getElem?_eq_getElem hl⟩
  rw [hm]
  exact twin_grid (orders_in h) ha m
theorem mul_in {a b M N : Int} (h0 : 0 ≤ a) (h1 : a ≤ M) (h2 : 0 ≤ b) (h3 : b ≤ N) (hM : 0 ≤ M) : 0 ≤ a * b ∧ a * b ≤ M * N := ⟨Int.mul_nonneg h0 h2, Int.mul_le_mul h1 h3 h2 hM⟩
theorem mul_in1 {a b : Int} (h0 : -1 ≤ a) (h1 : a ≤ 60000) (h2 : 0 ≤ b) (h3 : b ≤ 5000) : -5000 ≤ a * b ∧ a * b ≤ 300000000 := by
  rcases Int.lt_or_le a 0 with h | h
  · obtain rfl : a = -1 := by omega
    omega
  · have := mul_in (M := 60000) (N := 5000) h h1 h2 h3 (by omega)
    omega
end Go.Proofs.YtnfbeobdoieeiaaDoor
