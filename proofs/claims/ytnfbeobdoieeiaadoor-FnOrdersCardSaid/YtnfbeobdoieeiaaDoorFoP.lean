/- Plain law of FnOrders: who works first on what is due first is late just if some span is overfull. No statement is proved here. -/
import Derived.Test.YtnfbeobdoieeiaaDoorOrdH
import Derived.Test.YtnfbeobdoieeiaaDoorOrdU
namespace Go.Proofs.YtnfbeobdoieeiaaDoor
open Go.ChangeShapes Go.WideShapes Go.ChangeAt Go.RowKit Go.Deep
set_option maxRecDepth 100000
def frA (l : List Order) (i : Nat) : Int := (l[i]?).elim 0 (fun x => x.fFrom)
def duA (l : List Order) (i : Nat) : Int := (l[i]?).elim 0 (fun x => x.fDue)
def dyA (l : List Order) (i : Nat) : Int := (l[i]?).elim 0 dayF
theorem frA_at {l : List Order} {i : Nat} {x : Order} (h : l[i]? = some x) : frA l i = x.fFrom := by unfold frA; rw [h]; rfl
theorem duA_at {l : List Order} {i : Nat} {x : Order} (h : l[i]? = some x) : duA l i = x.fDue := by unfold duA; rw [h]; rfl
theorem dyA_at {l : List Order} {i : Nat} {x : Order} (h : l[i]? = some x) : dyA l i = dayF x := by unfold dyA; rw [h]; rfl
def lft (l : List Order) (i D : Nat) : Int := (planTo l D).left.getD i 0
def pk (l : List Order) (D : Nat) : Int := planPick l (planTo l D) D
theorem getD_at {l : List Int} {i : Nat} {z : Int} (h : l[i]? = some z) : l.getD i 0 = z := by rw [List.getD_eq_getElem?_getD, h]; rfl
theorem lft_zero {l : List Order} {i : Nat} (hi : i < l.length) : lft l i 0 = dyA l i := by
  have hx : l[i]? = some l[i] := List.getElem?_eq_getElem hi
  rw [dyA_at hx]
  exact getD_at (by show (l.map dayF)[i]? = _; rw [List.getElem?_map, hx]; rfl)
theorem decr_neg' {left : List Int} {b : Int} (h : b < 0) : decr left b = left := if_neg (by omega)
theorem lft_step {l : List Order} {i : Nat} (_hi : i < l.length) (D : Nat) : lft l i (D + 1) = lft l i D - if pk l D = i then 1 else 0 := by
  have hlen := planTo_left_len l D
  show (decr (planTo l D).left (pk l D)).getD i 0 = _
  unfold lft
  have hp := pickTo_bound l (planTo l D).left (D : Int) l.length
  have hpe : pk l D = pickTo l (planTo l D).left (D : Int) l.length := rfl
  rw [← hpe] at hp
  generalize pk l D = p at hp
  generalize (planTo l D).left = L at hlen
  by_cases h0 : 0 ≤ p
  · unfold decr
    rw [if_pos h0]
    by_cases he : p = i
    · rw [if_pos he]
      have : p.toNat = i := by omega
      rw [this]
      exact getD_at (by rw [List.getElem?_set_self (by omega)])
    · rw [if_neg he]
      have : p.toNat ≠ i := by omega
      rw [List.getD_eq_getElem?_getD, List.getElem?_set_ne this, ← List.getD_eq_getElem?_getD]; omega
  · rw [decr_neg' (by omega), if_neg (by omega)]; omega
theorem pick_spec {l : List Order} {L : List Int} {day : Int} (hlen : L.length = l.length) (k : Nat) (hk : k ≤ l.length) :
    (0 ≤ pickTo l L day k → frA l (pickTo l L day k).toNat ≤ day ∧ 0 < L.getD (pickTo l L day k).toNat 0) ∧ ∀ j, j < k → frA l j ≤ day → 0 < L.getD j 0 → 0 ≤ pickTo l L day k ∧ duA l (pickTo l L day k).toNat ≤ duA l j := by
  induction k with
  | zero => exact ⟨fun h => by simp [pickTo] at h, fun j hj => by omega⟩
  | succ k ih =>
    obtain ⟨ih1, ih2⟩ := ih (by omega)
    have hx : l[k]? = some l[k] := List.getElem?_eq_getElem (by omega)
    have hz : L[k]? = some L[k] := List.getElem?_eq_getElem (by omega)
    have ezk := getD_at hz
    have efk := frA_at hx
    have edk := duA_at hx
    generalize l[k] = x at hx efk edk
    generalize L[k] = z at hz ezk
    by_cases hc : x.fFrom ≤ day ∧ 0 < z ∧ better l (pickTo l L day k) x = true
    · rw [pickTo_yes hx hz hc.1 hc.2.1 hc.2.2]
      refine ⟨fun _ => by rw [Int.toNat_natCast, efk, ezk]; exact ⟨hc.1, hc.2.1⟩, fun j hj hf hl => ⟨by omega, ?_⟩⟩
      rw [Int.toNat_natCast, edk]
      rcases Nat.lt_or_ge j k with h | h
      · obtain ⟨h1, h2⟩ := ih2 j h hf hl
        have h3 := hc.2.2
        unfold better at h3
        rw [Bool.or_eq_true, decide_eq_true_eq, decide_eq_true_eq] at h3
        rcases h3 with h3 | h3
        · omega
        · have : dueAt l (pickTo l L day k) = duA l (pickTo l L day k).toNat := rfl
          omega
      · have : j = k := by omega
        subst this
        rw [edk]; exact Int.le_refl _
    · rw [pickTo_no hx hz hc]
      refine ⟨ih1, fun j hj hf hl => ?_⟩
      rcases Nat.lt_or_ge j k with h | h
      · exact ih2 j h hf hl
      · have : j = k := by omega
        subst this
        rw [efk] at hf
        rw [ezk] at hl
        have hb : better l (pickTo l L day j) x = false := by
          cases h : better l (pickTo l L day j) x
          · rfl
          · exact absurd ⟨hf, hl, h⟩ hc
        unfold better at hb
        rw [Bool.or_eq_false_iff, decide_eq_false_iff_not, decide_eq_false_iff_not] at hb
        have : dueAt l (pickTo l L day j) = duA l (pickTo l L day j).toNat := rfl
        rw [edk]
        omega
theorem pk_bound (l : List Order) (D : Nat) : -1 ≤ pk l D ∧ pk l D < l.length := pickTo_bound l (planTo l D).left (D : Int) l.length
theorem pk_of (l : List Order) (D : Nat) : (0 ≤ pk l D → frA l (pk l D).toNat ≤ D ∧ 0 < lft l (pk l D).toNat D) ∧ ∀ j, j < l.length → frA l j ≤ D → 0 < lft l j D → 0 ≤ pk l D ∧ duA l (pk l D).toNat ≤ duA l j :=
  pick_spec (planTo_left_len l D) l.length (Nat.le_refl _)
theorem lft_pos {l : List Order} (h : OrdersIn l) {i : Nat} (hi : i < l.length) (D : Nat) : 0 ≤ lft l i D := by
  have h1 := planTo_left_all (l := l) (fun x hx => by have := h.day x hx; omega) D
  have hlen := planTo_left_len l D
  have hz : (planTo l D).left[i]? = some (planTo l D).left[i] := List.getElem?_eq_getElem (by omega)
  unfold lft
  rw [getD_at hz]
  exact (h1 _ (List.mem_of_getElem? hz)).1
theorem lft_down {l : List Order} {i : Nat} (hi : i < l.length) (D m : Nat) : lft l i (D + m) ≤ lft l i D := by
  induction m with
  | zero => exact Int.le_refl _
  | succ m ih => rw [show D + (m + 1) = (D + m) + 1 from rfl, lft_step hi]; split <;> omega
theorem lft_le {l : List Order} {i : Nat} (hi : i < l.length) {D E : Nat} (h : D ≤ E) : lft l i E ≤ lft l i D := by
  have := lft_down hi D (E - D)
  rw [show D + (E - D) = E by omega] at this
  exact this
theorem lft_before {l : List Order} {i : Nat} (hi : i < l.length) (D : Nat) (h : (D : Int) ≤ frA l i) : lft l i D = dyA l i := by
  induction D with
  | zero => exact lft_zero hi
  | succ D ih =>
    rw [lft_step hi, ih (by omega), if_neg, Int.sub_zero]
    intro he
    have := ((pk_of l D).1 (by omega)).1
    rw [he, Int.toNat_natCast] at this
    omega
def sumQ (f : Nat → Int) (q : Nat → Bool) : Nat → Int
  | 0 => 0
  | k + 1 => sumQ f q k + if q k then f k else 0
theorem sumQ_le {f g : Nat → Int} {q : Nat → Bool} {n : Nat} (h : ∀ i, i < n → q i = true → f i ≤ g i) : sumQ f q n ≤ sumQ g q n := by
  induction n with
  | zero => exact Int.le_refl _
  | succ n ih =>
    have := ih fun i hi => h i (by omega)
    have h2 := h n (by omega)
    unfold sumQ
    split
    · have := h2 ‹_›; omega
    · omega
theorem sumQ_more {f : Nat → Int} {q q' : Nat → Bool} {n : Nat} (h : ∀ i, i < n → q i = true → q' i = true) (h0 : ∀ i, i < n → 0 ≤ f i) : sumQ f q n ≤ sumQ f q' n := by
  induction n with
  | zero => exact Int.le_refl _
  | succ n ih =>
    have := ih (fun i hi => h i (by omega)) (fun i hi => h0 i (by omega))
    have h2 := h n (by omega)
    have h3 := h0 n (by omega)
    unfold sumQ
    cases hq : q n
    · cases q' n <;> simp <;> omega
    · rw [h2 hq]; simp; omega
theorem sumQ_one {f : Nat → Int} {q : Nat → Bool} {n i : Nat} (hi : i < n) (hq : q i = true) (h0 : ∀ i, i < n → 0 ≤ f i) : f i ≤ sumQ f q n := by
  have key : ∀ n, (∀ i, i < n → 0 ≤ f i) → 0 ≤ sumQ f q n := by
    intro n h
    induction n with
    | zero => exact Int.le_refl _
    | succ n ih =>
      have := ih fun i hi => h i (by omega)
      have := h n (by omega)
      unfold sumQ
      split <;> omega
  induction n with
  | zero => omega
  | succ n ih =>
    have h1 := h0 n (by omega)
    have h2 := key n fun i hi => h0 i (by omega)
    unfold sumQ
    rcases Nat.lt_or_ge i n with h | h
    · have := ih h fun i hi => h0 i (by omega)
      split <;> omega
    · obtain rfl : i = n := by omega
      rw [hq]; simp; omega
theorem sumQ_step {l : List Order} (D : Nat) (q : Nat → Bool) (k : Nat) (hk : k ≤ l.length) :
    sumQ (fun i => lft l i (D + 1)) q k = sumQ (fun i => lft l i D) q k - if 0 ≤ pk l D ∧ (pk l D).toNat < k ∧ q (pk l D).toNat = true then 1 else 0 := by
  induction k with
  | zero => rw [if_neg (by omega)]; rfl
  | succ k ih =>
    have ih := ih (by omega)
    unfold sumQ
    rw [ih, lft_step (by omega : k < l.length)]
    by_cases he : pk l D = k
    · have e2 : (pk l D).toNat = k := by omega
      rw [if_pos he, e2]
      cases hq : q k
      · simp
      · simp [he]; omega
    · rw [if_neg he]
      have e : (if 0 ≤ pk l D ∧ (pk l D).toNat < k + 1 ∧ q (pk l D).toNat = true then (1 : Int) else 0) = if 0 ≤ pk l D ∧ (pk l D).toNat < k ∧ q (pk l D).toNat = true then 1 else 0 :=
        by
          by_cases hP : 0 ≤ pk l D ∧ (pk l D).toNat < k ∧ q (pk l D).toNat = true
          · rw [if_pos hP, if_pos ⟨hP.1, by have := hP.2.1; omega, hP.2.2⟩]
          · rw [if_neg hP, if_neg fun h => hP ⟨h.1, by have := h.1; have := h.2.1; omega, h.2.2⟩]
      rw [e]
      generalize (if 0 ≤ pk l D ∧ (pk l D).toNat < k ∧ q (pk l D).toNat = true then (1 : Int) else 0) = z
      split <;> omega
theorem span_sumQ (l : List Order) (a b : Int) (k : Nat) (hk : k ≤ l.length) : spanSum l a b k = sumQ (dyA l) (fun i => decide (a ≤ frA l i ∧ duA l i ≤ b)) k := by
  induction k with
  | zero => rfl
  | succ k ih =>
    have hx : l[k]? = some l[k] := List.getElem?_eq_getElem (by omega)
    have e1 := frA_at hx
    have e2 := duA_at hx
    have e3 := dyA_at hx
    unfold sumQ
    rw [← ih (by omega)]
    by_cases hc : a ≤ (l[k]).fFrom ∧ (l[k]).fDue ≤ b
    · rw [spanSum_yes hx hc.1 hc.2, if_pos (by rw [e1, e2]; exact decide_eq_true hc), e3]
    · rw [spanSum_no hx hc, if_neg (by rw [e1, e2]; simpa using hc), Int.add_zero]
theorem OrdersIn.at_ {l : List Order} (h : OrdersIn l) {i : Nat} (hi : i < l.length) : 0 ≤ frA l i ∧ frA l i < duA l i ∧ duA l i ≤ 5000 ∧ 1 ≤ dyA l i ∧ dyA l i ≤ 2000 := by
  have hx : l[i]? = some l[i] := List.getElem?_eq_getElem hi
  rw [frA_at hx, duA_at hx, dyA_at hx]
  have h1 := h.fr _ (List.mem_of_getElem? hx)
  have h2 := h.day _ (List.mem_of_getElem? hx)
  omega
/-- Nobody late: no span is overfull. -/
theorem span_of_done {l : List Order} (h : OrdersIn l) (hz : ∀ i, i < l.length → lft l i (duA l i).toNat = 0) {a b : Int} (h0 : 0 ≤ a) (hab : a ≤ b) : spanSum l a b l.length ≤ b - a := by
  have hq : ∀ m : Nat, sumQ (fun i => lft l i a.toNat) (fun i => decide (a ≤ frA l i ∧ duA l i ≤ b)) l.length - m ≤ sumQ (fun i => lft l i (a.toNat + m)) (fun i => decide (a ≤ frA l i ∧ duA l i ≤ b)) l.length := by
    intro m
    induction m with
    | zero => simp
    | succ m ih =>
      have := sumQ_step (l := l) (a.toNat + m) (fun i => decide (a ≤ frA l i ∧ duA l i ≤ b)) l.length (Nat.le_refl _)
      rw [show a.toNat + (m + 1) = a.toNat + m + 1 from rfl, this]
      split <;> omega
  have h1 := hq (b - a).toNat
  have h2 : sumQ (fun i => lft l i (a.toNat + (b - a).toNat)) (fun i => decide (a ≤ frA l i ∧ duA l i ≤ b)) l.length ≤ sumQ (fun _ => 0) (fun i => decide (a ≤ frA l i ∧ duA l i ≤ b)) l.length := by
    refine sumQ_le fun i hi hqi => ?_
    have hqi := of_decide_eq_true hqi
    have := hz i hi
    have h3 := h.at_ hi
    have := lft_le hi (D := (duA l i).toNat) (E := a.toNat + (b - a).toNat) (by omega)
    show lft l i _ ≤ 0
    omega
  have h3 : ∀ n, sumQ (fun _ => (0 : Int)) (fun i => decide (a ≤ frA l i ∧ duA l i ≤ b)) n = 0 := by
    intro n
    induction n with
    | zero => rfl
    | succ n ih => unfold sumQ; rw [ih]; split <;> rfl
  have h4 : sumQ (dyA l) (fun i => decide (a ≤ frA l i ∧ duA l i ≤ b)) l.length ≤ sumQ (fun i => lft l i a.toNat) (fun i => decide (a ≤ frA l i ∧ duA l i ≤ b)) l.length := by
    refine sumQ_le fun i hi hqi => ?_
    have hqi := of_decide_eq_true hqi
    show dyA l i ≤ lft l i a.toNat
    rw [lft_before hi _ (by omega)]; exact Int.le_refl _
  rw [span_sumQ l a b _ (Nat.le_refl _)]
  have h5 := h3 l.length
  omega
theorem least {n : Nat} (f : Nat → Int) (q : Nat → Prop) (h : ∃ k, k < n ∧ q k) : ∃ k, k < n ∧ q k ∧ ∀ j, j < n → q j → f k ≤ f j := by
  induction n with
  | zero => obtain ⟨k, hk, _⟩ := h; omega
  | succ n ih =>
    by_cases h2 : ∃ k, k < n ∧ q k
    · obtain ⟨k, hk, hqk, hm⟩ := ih h2
      by_cases hn : q n ∧ f n < f k
      · refine ⟨n, by omega, hn.1, fun j hj hqj => ?_⟩
        rcases Nat.lt_or_ge j n with h3 | h3
        · have := hm j h3 hqj; omega
        · obtain rfl : j = n := by omega
          exact Int.le_refl _
      · refine ⟨k, by omega, hqk, fun j hj hqj => ?_⟩
        rcases Nat.lt_or_ge j n with h3 | h3
        · exact hm j h3 hqj
        · obtain rfl : j = n := by omega
          by_cases h4 : f j < f k
          · exact absurd ⟨hqj, h4⟩ hn
          · omega
    · obtain ⟨k, hk, hqk⟩ := h
      have hkn : k = n := by
        rcases Nat.lt_or_ge k n with h3 | h3
        · exact absurd ⟨k, h3, hqk⟩ h2
        · omega
      subst hkn
      refine ⟨k, hk, hqk, fun j hj hqj => ?_⟩
      rcases Nat.lt_or_ge j k with h3 | h3
      · exact absurd ⟨j, h3, hqj⟩ h2
      · obtain rfl : j = k := by omega
        exact Int.le_refl _
/-- Somebody late: some span is overfull. -/
theorem over_of_late {l : List Order} (h : OrdersIn l) {i : Nat} (hi : i < l.length) (hl : 0 < lft l i (duA l i).toNat) : ∃ x ∈ l, ∃ y ∈ l, x.fFrom < y.fDue ∧ y.fDue - x.fFrom < sumIn l x y := by
  have hai := h.at_ hi
  obtain ⟨d, hd⟩ : ∃ d : Nat, (d : Int) = duA l i := ⟨(duA l i).toNat, by omega⟩
  rw [← hd, Int.toNat_natCast] at hl
  have hcut : ∀ m : Nat, m ≤ d → (∀ t, m ≤ t → t < d → 0 ≤ pk l t ∧ duA l (pk l t).toNat ≤ d) →
      ∃ a, a ≤ d ∧ (∀ t, a ≤ t → t < d → 0 ≤ pk l t ∧ duA l (pk l t).toNat ≤ d) ∧ (a = 0 ∨ ¬ (0 ≤ pk l (a - 1) ∧ duA l (pk l (a - 1)).toNat ≤ d)) := by
    intro m
    induction m with
    | zero => intro _ hg; exact ⟨0, by omega, hg, .inl rfl⟩
    | succ m ih =>
      intro hm hg
      by_cases hc : 0 ≤ pk l m ∧ duA l (pk l m).toNat ≤ d
      · refine ih (by omega) fun t ht htd => ?_
        rcases Nat.lt_or_ge m t with h1 | h1
        · exact hg t h1 htd
        · obtain rfl : t = m := by omega
          exact hc
      · exact ⟨m + 1, hm, hg, .inr hc⟩
  obtain ⟨a, had, hgood, hstop⟩ := hcut d (Nat.le_refl _) (fun t h1 h2 => by omega)
  have hZ : ∀ j, j < l.length → duA l j ≤ d → frA l j < a → lft l j a ≤ 0 := by
    intro j hj hdj hfj
    have haj := h.at_ hj
    rcases hstop with h0 | hbad
    · omega
    · have hle := lft_le hj (D := a - 1) (E := a) (by omega)
      by_cases hp : 0 < lft l j (a - 1)
      · have := (pk_of l (a - 1)).2 j hj (by omega) hp
        exact absurd ⟨this.1, by omega⟩ hbad
      · omega
  have hS : ∀ m : Nat, a + m ≤ d → sumQ (fun j => lft l j (a + m)) (fun j => decide ((a : Int) ≤ frA l j ∧ duA l j ≤ d)) l.length = sumQ (fun j => lft l j a) (fun j => decide ((a : Int) ≤ frA l j ∧ duA l j ≤ d)) l.length - m := by
    intro m
    induction m with
    | zero => intro _; simp
    | succ m ih =>
      intro hm
      have hg := hgood (a + m) (by omega) (by omega)
      have hb := pk_bound l (a + m)
      have hpl := ((pk_of l (a + m)).1 hg.1).2
      have hj : (pk l (a + m)).toNat < l.length := by omega
      have hla := lft_le hj (D := a) (E := a + m) (by omega)
      have hfr : (a : Int) ≤ frA l (pk l (a + m)).toNat := by
        rcases Int.lt_or_le (frA l (pk l (a + m)).toNat) a with h1 | h1
        · have := hZ _ hj hg.2 h1; omega
        · exact h1
      have := sumQ_step (l := l) (a + m) (fun j => decide ((a : Int) ≤ frA l j ∧ duA l j ≤ d)) l.length (Nat.le_refl _)
      rw [if_pos ⟨hg.1, hj, decide_eq_true ⟨hfr, hg.2⟩⟩] at this
      rw [show a + (m + 1) = a + m + 1 from rfl, this, ih (by omega)]
      omega
  have hfi : (a : Int) ≤ frA l i := by
    rcases Int.lt_or_le (frA l i) a with h1 | h1
    · have := hZ i hi (by omega) h1
      have := lft_le hi (D := a) (E := d) had
      omega
    · exact h1
  have hqi : (fun j => decide ((a : Int) ≤ frA l j ∧ duA l j ≤ d)) i = true := decide_eq_true ⟨hfi, by omega⟩
  have h1 := hS (d - a) (by omega)
  rw [show a + (d - a) = d by omega] at h1
  have h2 := sumQ_one (f := fun j => lft l j d) (q := fun j => decide ((a : Int) ≤ frA l j ∧ duA l j ≤ d)) hi hqi fun j hj => lft_pos h hj d
  have h3 : sumQ (fun j => lft l j a) (fun j => decide ((a : Int) ≤ frA l j ∧ duA l j ≤ d)) l.length ≤ sumQ (dyA l) (fun j => decide ((a : Int) ≤ frA l j ∧ duA l j ≤ d)) l.length :=
    sumQ_le fun j hj _ => by rw [← lft_zero hj]; exact lft_le hj (Nat.zero_le _)
  obtain ⟨k, hk, hqk, hmin⟩ := least (frA l) (fun j => (a : Int) ≤ frA l j ∧ duA l j ≤ d) ⟨i, hi, hfi, by omega⟩
  have hx : l[k]? = some l[k] := List.getElem?_eq_getElem hk
  have hy : l[i]? = some l[i] := List.getElem?_eq_getElem hi
  refine ⟨l[k], List.mem_of_getElem? hx, l[i], List.mem_of_getElem? hy, ?_, ?_⟩
  · rw [← frA_at hx, ← duA_at hy]
    have := hmin i hi ⟨hfi, by omega⟩
    omega
  · unfold sumIn
    rw [← frA_at hx, ← duA_at hy, span_sumQ l _ _ _ (Nat.le_refl _), ← hd]
    have h4 : sumQ (dyA l) (fun j => decide ((a : Int) ≤ frA l j ∧ duA l j ≤ d)) l.length ≤ sumQ (dyA l) (fun j => decide (frA l k ≤ frA l j ∧ duA l j ≤ d)) l.length :=
      sumQ_more (fun j hj hqj => by have hqj := of_decide_eq_true hqj; exact decide_eq_true ⟨hmin j hj hqj, hqj.2⟩) fun j hj => by have := h.at_ hj; omega
    have : (fun j => lft l j d) i = lft l i d := rfl
    have := hqk.1
    omega
/-! ### what is late -/
theorem lateTo_getD {l : List Order} {L late : List Int} {day : Int} (hL : L.length = l.length) (hlate : late.length = l.length) (k : Nat) (hk : k ≤ l.length) {i : Nat} (hi : i < l.length) :
    (lateTo l L late day k).getD i 0 = if i < k ∧ duA l i = day + 1 then L.getD i 0 else late.getD i 0 := by
  induction k with
  | zero => rw [if_neg (by omega)]; rfl
  | succ k ih =>
    have ih := ih (by omega)
    have hx : l[k]? = some l[k] := List.getElem?_eq_getElem (by omega)
    have hz : L[k]? = some L[k] := List.getElem?_eq_getElem (by omega)
    have e := duA_at hx
    by_cases hc : (l[k]).fDue = day + 1
    · rw [lateTo_yes hx hz hc]
      by_cases he : i = k
      · subst he
        rw [if_pos ⟨by omega, by omega⟩, getD_at hz]
        exact getD_at (List.getElem?_set_self (by rw [lateTo_len]; omega))
      · rw [List.getD_eq_getElem?_getD, List.getElem?_set_ne (fun h => he h.symm), ← List.getD_eq_getElem?_getD, ih]
        by_cases h2 : i < k ∧ duA l i = day + 1
        · rw [if_pos h2, if_pos ⟨by omega, h2.2⟩]
        · rw [if_neg h2, if_neg (fun h => h2 ⟨by omega, h.2⟩)]
    · rw [lateTo_no hx hz hc, ih]
      by_cases h2 : i < k ∧ duA l i = day + 1
      · rw [if_pos h2, if_pos ⟨by omega, h2.2⟩]
      · rw [if_neg h2, if_neg (fun h => h2 ⟨by
          rcases Nat.lt_or_ge i k with h3 | h3
          · exact h3
          · obtain rfl : i = k := by omega
            omega, h.2⟩)]
theorem late_of {l : List Order} (h : OrdersIn l) {i : Nat} (hi : i < l.length) (D : Nat) : (planTo l D).late.getD i 0 = if duA l i ≤ D then lft l i (duA l i).toNat else 0 := by
  have hai := h.at_ hi
  induction D with
  | zero =>
    rw [if_neg (by omega)]
    show (List.replicate l.length (0 : Int)).getD i 0 = 0
    exact getD_at (List.getElem?_replicate_of_lt hi)
  | succ D ih =>
    show (lateTo l (decr (planTo l D).left (pk l D)) (planTo l D).late (D : Int) l.length).getD i 0 = _
    rw [lateTo_getD (by rw [decr_len, planTo_left_len]) (planTo_late_len l D) l.length (Nat.le_refl _) hi, ih]
    by_cases h1 : duA l i = (D : Int) + 1
    · rw [if_pos ⟨hi, h1⟩, if_pos (by omega)]
      show lft l i (D + 1) = _
      rw [h1]; rfl
    · rw [if_neg (fun h => h1 h.2)]
      by_cases h2 : duA l i ≤ D
      · rw [if_pos h2, if_pos (by omega)]
      · rw [if_neg h2, if_neg (by omega)]
theorem due_le_last {l : List Order} {i : Nat} (hi : i < l.length) : duA l i ≤ lastDue l := by
  have key : ∀ (l : List Order) (a : Int), a ≤ l.foldl (fun a x => max a x.fDue) a ∧ ∀ x ∈ l, x.fDue ≤ l.foldl (fun a x => max a x.fDue) a := by
    intro l
    induction l with
    | nil => intro a; exact ⟨Int.le_refl _, fun x hx => by cases hx⟩
    | cons y l ih =>
      intro a
      have h1 := ih (max a y.fDue)
      refine ⟨by have := h1.1; simp only [List.foldl_cons]; omega, fun x hx => ?_⟩
      simp only [List.foldl_cons]
      rcases List.mem_cons.1 hx with rfl | hx
      · have := h1.1; omega
      · exact h1.2 x hx
  have hx : l[i]? = some l[i] := List.getElem?_eq_getElem hi
  rw [duA_at hx]
  exact (key l 0).2 _ (List.mem_of_getElem? hx)
theorem mPlan_late_at {l : List Order} (h : OrdersIn l) {i : Nat} (hi : i < l.length) : (mPlan l).late.getD i 0 = lft l i (duA l i).toNat := by
  have h1 := due_le_last hi
  have h2 := h.at_ hi
  unfold mPlan
  rw [late_of h hi, if_pos (by omega)]
theorem sum_zero_iff {L : List Int} (h : ∀ z ∈ L, 0 ≤ z) : sumOf id L = 0 ↔ ∀ i, i < L.length → L.getD i 0 = 0 := by
  induction L with
  | nil => exact ⟨fun _ i hi => by simp at hi, fun _ => rfl⟩
  | cons a L ih =>
    have e : sumOf id (a :: L) = a + sumOf id L := by simp [sumOf]
    have h0 := h a List.mem_cons_self
    have hL : 0 ≤ sumOf id L := by
      clear ih e
      induction L with
      | nil => exact Int.le_refl _
      | cons b L ih2 =>
        have e2 : sumOf id (b :: L) = b + sumOf id L := by simp [sumOf]
        have := ih2 fun z hz => h z (by rcases List.mem_cons.1 hz with hz | hz <;> simp [hz])
        have := h b (by simp)
        omega
    have ih := ih fun z hz => h z (List.mem_cons_of_mem _ hz)
    rw [e]
    constructor
    · intro hs i hi
      cases i with
      | zero => show a = 0; omega
      | succ i =>
        have := ih.1 (by omega) i (by simpa using hi)
        simpa using this
    · intro hz
      have h1 : a = 0 := hz 0 (by simp)
      have h2 := ih.2 fun i hi => by
        have := hz (i + 1) (by simpa using hi)
        simpa using this
      omega
theorem can_iff {l : List Order} (h : ordersOk l = true) : sumOf id (mPlan l).late = 0 ↔ ∀ i, i < l.length → lft l i (duA l i).toNat = 0 := by
  obtain ⟨h1, h2, _⟩ := mPlan_late h
  rw [sum_zero_iff fun z hz => (h1 z hz).1, h2]
  exact ⟨fun hh i hi => by rw [← mPlan_late_at (orders_in h) hi]; exact hh i hi, fun hh i hi => by rw [mPlan_late_at (orders_in h) hi]; exact hh i hi⟩
/-! ### the busiest span -/
theorem frac_trans {a b c d e f : Int} (hb : 0 < b) (hd : 0 < d) (hf : 0 < f) (h1 : a * d ≤ c * b) (h2 : c * f ≤ e * d) : a * f ≤ e * b := by
  have h3 : a * d * f ≤ c * b * f := Int.mul_le_mul_of_nonneg_right h1 (by omega)
  have h4 : c * f * b ≤ e * d * b := Int.mul_le_mul_of_nonneg_right h2 (by omega)
  have e1 : c * b * f = c * f * b := Int.mul_right_comm ..
  have e2 : a * d * f = (a * f) * d := Int.mul_right_comm ..
  have e3 : e * d * b = (e * b) * d := Int.mul_right_comm ..
  exact Int.le_of_mul_le_mul_right (by omega : (a * f) * d ≤ (e * b) * d) hd
def Tops (l : List Order) (a b : Order) (s : Span) : Prop := a.fFrom < b.fDue → sumIn l a b * s.den ≤ s.num * (b.fDue - a.fFrom)
theorem tops_step {l : List Order} {a b a' b' : Order} {s : Span} (hs : 1 ≤ s.den) (h : Tops l a b s) : Tops l a b (stepS l a' b' s) := by
  intro hab
  by_cases h1 : b'.fDue ≤ a'.fFrom
  · rw [stepS_skip h1]; exact h hab
  · by_cases h2 : 0 < moreS l a' b' s ∨ (moreS l a' b' s = 0 ∧ first' a' b' s.fr s.till)
    · rw [stepS_take h1 h2]
      have hm : s.num * (b'.fDue - a'.fFrom) ≤ sumIn l a' b' * s.den := by
        have : 0 ≤ moreS l a' b' s := by rcases h2 with h2 | h2 <;> omega
        unfold moreS at this
        omega
      exact frac_trans (by omega) (by omega) (show 0 < b'.fDue - a'.fFrom by omega) (h hab) hm
    · rw [stepS_keep h1 h2]; exact h hab
theorem tops_self {l : List Order} {a b : Order} {s : Span} : Tops l a b (stepS l a b s) := by
  intro hab
  have h1 : ¬ b.fDue ≤ a.fFrom := by omega
  by_cases h2 : 0 < moreS l a b s ∨ (moreS l a b s = 0 ∧ first' a b s.fr s.till)
  · rw [stepS_take h1 h2]; exact Int.le_refl _
  · rw [stepS_keep h1 h2]
    have : moreS l a b s ≤ 0 := by
      rcases Int.lt_or_le 0 (moreS l a b s) with h | h
      · exact absurd (.inl h) h2
      · exact h
    unfold moreS at this
    omega
theorem row_in {l : List Order} (h : OrdersIn l) {a : Order} (ha : a ∈ l) {s : Span} (hs : s.In) (j : Nat) : (rowTo (stepS l) l a s j).In := rowTo_inv (P := Span.In) ha (stepS_in h) hs j
theorem grid_in {l : List Order} (h : OrdersIn l) {s : Span} (hs : s.In) (k : Nat) : (gridTo (stepS l) l s k).In := gridTo_inv (P := Span.In) (stepS_in h) hs k
theorem row_tops {l : List Order} (h : OrdersIn l) {a : Order} (ha : a ∈ l) {s : Span} (hs : s.In) (j : Nat) (hj : j ≤ l.length) : ∀ i b, i < j → l[i]? = some b → Tops l a b (rowTo (stepS l) l a s j) := by
  induction j with
  | zero => intro i b hi; omega
  | succ j ih =>
    intro i b hi hb
    have hy : l[j]? = some l[j] := List.getElem?_eq_getElem (by omega)
    rw [rowTo_succ hy]
    rcases Nat.lt_or_ge i j with h1 | h1
    · exact tops_step (row_in h ha hs j).den.1 (ih (by omega) i b h1 hb)
    · obtain rfl : i = j := by omega
      rw [hb] at hy
      obtain rfl := Option.some.inj hy
      exact tops_self
theorem row_keeps {l : List Order} (h : OrdersIn l) {a a' b' : Order} (ha : a ∈ l) {s : Span} (hs : s.In) (ht : Tops l a' b' s) (j : Nat) (hj : j ≤ l.length) : Tops l a' b' (rowTo (stepS l) l a s j) := by
  induction j with
  | zero => exact ht
  | succ j ih =>
    have hy : l[j]? = some l[j] := List.getElem?_eq_getElem (by omega)
    rw [rowTo_succ hy]
    exact tops_step (row_in h ha hs j).den.1 (ih (by omega))
theorem grid_tops {l : List Order} (h : OrdersIn l) (k : Nat) (hk : k ≤ l.length) : ∀ i a, i < k → l[i]? = some a → ∀ b ∈ l, Tops l a b (gridTo (stepS l) l start4 k) := by
  induction k with
  | zero => intro i a hi; omega
  | succ k ih =>
    intro i a hi ha b hb
    have hx : l[k]? = some l[k] := List.getElem?_eq_getElem (by omega)
    have hin := grid_in h start4_in k
    rw [gridTo_succ hx]
    rcases Nat.lt_or_ge i k with h1 | h1
    · exact row_keeps h (List.mem_of_getElem? hx) hin (ih (by omega) i a h1 ha b hb) _ (Nat.le_refl _)
    · obtain rfl : i = k := by omega
      rw [ha] at hx
      obtain rfl := Option.some.inj hx
      obtain ⟨m, hm⟩ := List.mem_iff_getElem?.1 hb
      exact row_tops h (List.mem_of_getElem? ha) hin _ (Nat.le_refl _) m b (lt_of_get hm) hm
theorem busy_iff {l : List Order} (h : ordersOk l = true) : sumOf id (mPlan l).late = 0 ↔ (mBusyS l).num ≤ (mBusyS l).den := by
  have hin := orders_in h
  rw [can_iff h]
  constructor
  · intro hz
    have hP : ∀ a ∈ l, ∀ b ∈ l, ∀ s : Span, s.num ≤ s.den → (stepS l a b s).num ≤ (stepS l a b s).den := by
      intro a ha b hb s hs
      by_cases h1 : b.fDue ≤ a.fFrom
      · rw [stepS_skip h1]; exact hs
      · by_cases h2 : 0 < moreS l a b s ∨ (moreS l a b s = 0 ∧ first' a b s.fr s.till)
        · rw [stepS_take h1 h2]
          exact span_of_done hin hz (hin.fr a ha).1 (by omega)
        · rw [stepS_keep h1 h2]; exact hs
    exact gridTo_inv (P := fun s : Span => s.num ≤ s.den) hP (show (0 : Int) ≤ 1 by omega) l.length
  · intro hle i hi
    have h0 := lft_pos hin hi (duA l i).toNat
    rcases Int.lt_or_le 0 (lft l i (duA l i).toNat) with hp | hp
    · exfalso
      obtain ⟨x, hx, y, hy, hxy, hov⟩ := over_of_late hin hi hp
      obtain ⟨k, hk⟩ := List.mem_iff_getElem?.1 hx
      have ht := grid_tops hin l.length (Nat.le_refl _) k x (lt_of_get hk) hk y hy hxy
      have hd := (grid_in hin start4_in l.length).den.1
      have e : gridTo (stepS l) l start4 l.length = mBusyS l := rfl
      rw [e] at ht hd
      have h1 : (y.fDue - x.fFrom + 1) * (mBusyS l).den ≤ sumIn l x y * (mBusyS l).den := Int.mul_le_mul_of_nonneg_right (by omega) (by omega)
      have h2 : (mBusyS l).num * (y.fDue - x.fFrom) ≤ (mBusyS l).den * (y.fDue - x.fFrom) := Int.mul_le_mul_of_nonneg_right hle (by omega)
      have h3 : (y.fDue - x.fFrom + 1) * (mBusyS l).den = (mBusyS l).den * (y.fDue - x.fFrom) + (mBusyS l).den := by rw [Int.add_mul, Int.one_mul, Int.mul_comm]
      omega
    · omega
theorem low_iff {a b : Int} (hb : 0 < b) : lowN a b ≤ lowD a b ↔ a ≤ b := by
  have hg := (gcdI_pos (a := a) hb).1
  obtain ⟨h1, h2⟩ := gcdI_dvd a b
  have e1 : a.tdiv (gcdI a b) * gcdI a b = a := Int.tdiv_mul_cancel h1
  have e2 : b.tdiv (gcdI a b) * gcdI a b = b := Int.tdiv_mul_cancel h2
  unfold lowN lowD
  constructor
  · intro h
    rw [← e1]
    have h3 : a.tdiv (gcdI a b) * gcdI a b ≤ b.tdiv (gcdI a b) * gcdI a b := Int.mul_le_mul_of_nonneg_right h (by omega)
    calc _ ≤ b.tdiv (gcdI a b) * gcdI a b := h3
      _ = b := e2
  · intro h
    exact Int.le_of_mul_le_mul_right (by rw [e1, e2]; exact h) (by omega : 0 < gcdI a b)
/-! ### the law's own sentences -/
theorem first_late {l : List Order} (h : ordersOk l = true) : (lateAt l < 0 ↔ sumOf id (mPlan l).late = 0) ∧ (0 ≤ lateAt l → ∃ x, l[(lateAt l).toNat]? = some x ∧ 1 ≤ (mPlan l).late.getD (lateAt l).toNat 0 ∧ (mPlan l).late.getD (lateAt l).toNat 0 ≤ dayF x) := by
  obtain ⟨h1, h2, _⟩ := mPlan_late h
  have hin := orders_in h
  have hs := pick_spec (l := l) (L := (mPlan l).late) (day := 5000) h2 l.length (Nat.le_refl _)
  have hb := pickTo_bound l (mPlan l).late 5000 l.length
  have e : lateAt l = pickTo l (mPlan l).late 5000 l.length := rfl
  rw [← e] at hs hb
  refine ⟨?_, fun h0 => ?_⟩
  · rw [sum_zero_iff fun z hz => (h1 z hz).1, h2]
    constructor
    · intro hl i hi
      have h3 := h1 ((mPlan l).late.getD i 0) (by rw [List.getD_eq_getElem?_getD, List.getElem?_eq_getElem (by omega)]; exact List.getElem_mem _)
      rcases Int.lt_or_le 0 ((mPlan l).late.getD i 0) with hp | hp
      · have := (hs.2 i hi (by have := hin.at_ hi; omega) hp).1; omega
      · omega
    · intro hz
      rcases Int.lt_or_le (lateAt l) 0 with hp | hp
      · exact hp
      · have := (hs.1 hp).2
        rw [hz _ (by omega)] at this
        omega
  · have hk : (lateAt l).toNat < l.length := by omega
    have hx : l[(lateAt l).toNat]? = some l[(lateAt l).toNat] := List.getElem?_eq_getElem hk
    refine ⟨_, hx, (hs.1 h0).2, ?_⟩
    rw [mPlan_late_at hin hk, ← dyA_at hx, ← lft_zero hk]
    exact lft_le hk (Nat.zero_le _)
end Go.Proofs.YtnfbeobdoieeiaaDoor
