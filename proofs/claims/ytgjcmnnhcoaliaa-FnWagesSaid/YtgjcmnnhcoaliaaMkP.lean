/- Plain words for FnMakers and FnWages: the best of three names, sums over names and sorts, wages. No statement is proved here. -/
import Derived.Test.YtgjcmnnhcoaliaaWageE
import Derived.Test.YtgjcmnnhcoaliaaWageG
import Derived.Test.YtgjcmnnhcoaliaaWageI
import Derived.Test.YtgjcmnnhcoaliaaWageJ
import Derived.Test.YtgjcmnnhcoaliaaMkN
namespace Go.Proofs.Ytgjcmnnhcoaliaa
open Go.ChangeShapes Go.WideShapes Go.ChangeAt Go.RowKit Go.Deep
set_option maxRecDepth 100000
theorem NM_asc : Asc NM := by unfold Asc; decide +kernel
theorem RM_asc : Asc RM := by unfold Asc; decide +kernel
/-! ### sums -/
theorem sumOf_cons' {α : Type} (f : α → Int) (a : α) (l : List α) : sumOf f (a :: l) = f a + sumOf f l := by simp [sumOf]
theorem sumOf_zero {α : Type} {f : α → Int} {l : List α} (h : ∀ x ∈ l, f x = 0) : sumOf f l = 0 := by
  induction l with
  | nil => rfl
  | cons a l ih => rw [sumOf_cons', h a List.mem_cons_self, ih fun x hx => h x (List.mem_cons_of_mem _ hx)]; rfl
theorem sumOf_congr {α : Type} {f g : α → Int} {l : List α} (h : ∀ x ∈ l, f x = g x) : sumOf f l = sumOf g l := by
  induction l with
  | nil => rfl
  | cons a l ih => rw [sumOf_cons', sumOf_cons', h a List.mem_cons_self, ih fun x hx => h x (List.mem_cons_of_mem _ hx)]
theorem sumOf_add {α : Type} (f g : α → Int) (l : List α) : sumOf (fun x => f x + g x) l = sumOf f l + sumOf g l := by
  induction l with
  | nil => rfl
  | cons a l ih => rw [sumOf_cons', sumOf_cons', sumOf_cons', ih]; omega
theorem sumOf_swap {α β : Type} (F : β → α → Int) (l : List α) (N : List β) : sumOf (fun y => sumOf (F y) l) N = sumOf (fun x => sumOf (fun y => F y x) N) l := by
  induction N with
  | nil => exact (sumOf_zero fun x _ => rfl).symm
  | cons b N ih =>
    rw [sumOf_cons', ih, ← sumOf_add]
    exact sumOf_congr fun x _ => (sumOf_cons' (fun y => F y x) b N).symm
theorem sumOf_one {N : List ByteArray} (hN : N.Nodup) {v : ByteArray} (hv : v ∈ N) (m : Int) : sumOf (fun y => if v = y then m else 0) N = m := by
  induction N with
  | nil => cases hv
  | cons b N ih =>
    rw [List.nodup_cons] at hN
    rw [sumOf_cons']
    by_cases h : v = b
    · subst h
      rw [if_pos rfl, sumOf_zero fun y hy => if_neg (fun e => hN.1 (by rw [e]; exact hy))]; omega
    · rw [if_neg h, ih hN.2 (by rcases List.mem_cons.1 hv with e | e; exact absurd e h; exact e)]; omega
theorem Asc.nodup {l : List ByteArray} (h : Asc l) : l.Nodup := h.imp fun {a b} hab e => by subst e; rw [strLt_irrefl] at hab; cases hab
/-! ### the best of the three -/
def bestStep (l : List PieceW) (a : ByteArray × Int) (y : ByteArray) : ByteArray × Int := if a.2 < sumOf (byF y) l then (y, sumOf (byF y) l) else a
theorem bmTo_fold (l : List PieceW) (N : List ByteArray) (k : Nat) : bmTo l N k = (N.take k).foldl (bestStep l) (ByteArray.empty, 0) := by
  induction k with
  | zero => simp [bmTo]
  | succ k ih =>
    cases hN : N[k]? with
    | none =>
      have : N.length ≤ k := List.getElem?_eq_none_iff.1 hN
      rw [bmTo, hN, List.take_of_length_le (by omega)]
      rw [List.take_of_length_le this] at ih
      exact ih
    | some y => rw [take_snoc hN, List.foldl_append, ← ih, bmTo, hN]; rfl
theorem fold_filter (l : List PieceW) (p : ByteArray → Bool) : ∀ (N : List ByteArray) (a : ByteArray × Int), 0 ≤ a.2 → (∀ y ∈ N, p y = false → sumOf (byF y) l = 0) → (N.filter p).foldl (bestStep l) a = N.foldl (bestStep l) a
  | [], _, _, _ => rfl
  | y :: N, a, ha, h => by
    have hN := fun z hz => h z (List.mem_cons_of_mem y hz)
    cases hp : p y with
    | true =>
      rw [List.filter_cons_of_pos hp, List.foldl_cons, List.foldl_cons]
      refine fold_filter l p N _ ?_ hN
      unfold bestStep
      split
      · rename_i h1; exact Int.le_of_lt (Int.lt_of_le_of_lt ha h1)
      · exact ha
    | false =>
      rw [List.filter_cons_of_neg (by simp [hp]), List.foldl_cons]
      have h0 := h y List.mem_cons_self hp
      have : bestStep l a y = a := by unfold bestStep; rw [h0, if_neg (by omega)]
      rw [this]
      exact fold_filter l p N a ha hN
theorem asc_mNames (l : List PieceW) : Asc (mNames l) := by
  unfold mNames
  rw [← names_eq (l.map (·.fName)) rfl]
  exact asc_namesTo _ _
theorem mem_mNames {l : List PieceW} {y : ByteArray} : y ∈ mNames l ↔ y ∈ l.map (·.fName) := by unfold mNames; exact mem_names _ _
theorem mNames_eq {l : List PieceW} (h : DP l) : mNames l = NM.filter fun y => l.any fun x => decide (x.fName = y) := by
  refine asc_ext _ _ (asc_mNames l) ?_ fun y => ?_
  · unfold Asc; exact List.Pairwise.filter _ NM_asc
  · rw [mem_mNames, List.mem_filter, List.any_eq_true, List.mem_map]
    constructor
    · rintro ⟨x, hx, rfl⟩
      exact ⟨(h.all x hx).1, x, hx, decide_eq_true rfl⟩
    · rintro ⟨_, x, hx, he⟩
      exact ⟨x, hx, of_decide_eq_true he⟩
theorem best_three {l : List PieceW} (h : DP l) : bmTo l (mNames l) (mNames l).length = bmTo l NM 3 := by
  rw [bmTo_fold, bmTo_fold, List.take_length, show NM.take 3 = NM from rfl, mNames_eq h]
  refine fold_filter l _ NM _ (Int.le_refl _) fun y _ hy => sumOf_zero fun x hx => ?_
  unfold byF
  rw [List.any_eq_false] at hy
  exact if_neg (fun e => hy x hx (decide_eq_true e))
theorem sum_names {l : List PieceW} (h : DP l) : sumOf (fun y => sumOf (byF y) l) NM = sumOf (·.fMade) l := by
  rw [sumOf_swap]
  exact sumOf_congr fun x hx => sumOf_one NM_nodup (h.all x hx).1 x.fMade
theorem sum_sorts {l : List PieceW} (h : DP l) : sumOf (fun y => sumOf (madeF y) l) SM = sumOf (·.fMade) l := by
  rw [sumOf_swap]
  exact sumOf_congr fun x hx => sumOf_one SM_nodup (h.all x hx).2.1 x.fMade
/-! ### the bonus -/
def daysTo (l : List PieceW) (s : ByteArray) (q : Int) : Nat → Int
  | 0 => 0
  | d + 1 => daysTo l s q d + if q ≤ sumOf (dayF s (d : Int)) l then 1 else 0
theorem daysTo_yes {l : List PieceW} {s : ByteArray} {q : Int} {d : Nat} (h : q ≤ sumOf (dayF s (d : Int)) l) : daysTo l s q (d + 1) = daysTo l s q d + 1 := by rw [daysTo, if_pos h]
theorem daysTo_no {l : List PieceW} {s : ByteArray} {q : Int} {d : Nat} (h : ¬ q ≤ sumOf (dayF s (d : Int)) l) : daysTo l s q (d + 1) = daysTo l s q d := by rw [daysTo, if_neg h, Int.add_zero]
theorem daysTo_bound (l : List PieceW) (s : ByteArray) (q : Int) (d : Nat) : 0 ≤ daysTo l s q d ∧ daysTo l s q d ≤ d := by
  induction d with
  | zero => exact ⟨Int.le_refl _, Int.le_refl _⟩
  | succ d ih => rw [daysTo]; split <;> omega
theorem bonus_days (l : List PieceW) (s : ByteArray) (q p : Int) (d : Nat) : bonusTo l s q p d = daysTo l s q d * p := by
  induction d with
  | zero => simp [bonusTo, daysTo]
  | succ d ih =>
    rw [bonusTo, daysTo, ih]
    split
    · rw [Int.add_mul, Int.one_mul]
    · rw [Int.add_zero, Int.add_zero]
theorem days_four {l : List PieceW} (h : DP l) {s : ByteArray} {q : Int} (hq : 1 ≤ q) (k : Nat) : daysTo l s q (4 + k) = daysTo l s q 4 := by
  induction k with
  | zero => rfl
  | succ k ih =>
    rw [show 4 + (k + 1) = (4 + k) + 1 from rfl, daysTo_no, ih]
    rw [sumOf_zero fun x hx => ?_]
    · omega
    · unfold dayF
      refine if_neg fun e => ?_
      have := (h.all x hx).2.2.1
      have := e.2
      omega
theorem bonus_four {l : List PieceW} (h : DP l) {s : ByteArray} {q p : Int} (hq : 1 ≤ q) : bonusTo l s q p 366 = daysTo l s q 4 * p := by
  rw [bonus_days, show 366 = 4 + 362 from rfl, days_four h hq]
theorem bonus_less (l : List PieceW) (s : ByteArray) {q p : Int} (hp : 0 ≤ p) (d : Nat) : bonusTo l s (q + 1) p d ≤ bonusTo l s q p d := by
  induction d with
  | zero => exact Int.le_refl _
  | succ d ih =>
    rw [bonusTo, bonusTo]
    by_cases h1 : q + 1 ≤ sumOf (dayF s (d : Int)) l
    · rw [if_pos h1, if_pos (by omega)]; omega
    · rw [if_neg h1]; split <;> omega
/-! ### wages -/
/-- Rates as they are drawn. -/
structure DR (l : List Rate) : Prop where
  asc : Asc (l.map (·.fSort))
  name : ∀ x ∈ l, x.fSort ∈ RM
  cents : ∀ x ∈ l, 0 ≤ x.fCents ∧ x.fCents ≤ 380
  len : l.length ≤ 5
theorem rates_ok {l : List Rate} (ha : Asc (l.map (·.fSort))) (hn : ∀ x ∈ l, x.fSort ∈ RM) (hc : ∀ x ∈ l, 0 ≤ x.fCents ∧ x.fCents ≤ 10000) (hl : l.length ≤ 5) : ratesOk l = true := by
  unfold ratesOk
  rw [Bool.and_eq_true, List.all_eq_true]
  refine ⟨fun k hk => ?_, decide_eq_true (by omega)⟩
  have hkl := List.mem_range.1 hk
  have hx : l[k]? = some l[k] := List.getElem?_eq_getElem hkl
  have hok : l[k].ok = true := by
    have hm := List.mem_of_getElem? hx
    unfold Rate.ok
    rw [(RM_name _ (hn _ hm)).1, inB_true.2 (hc _ hm)]; rfl
  cases k with
  | zero => rw [ratePair_zero hx]; exact hok
  | succ k =>
    have hy : l[k]? = some l[k] := List.getElem?_eq_getElem (by omega)
    rw [ratePair_pos (y := l[k]) hx (by omega) hy, Bool.and_eq_true]
    refine ⟨hok, ?_⟩
    have := (List.pairwise_iff_getElem.1 ha) k (k + 1) (by simp; omega) (by simp; omega) (by omega)
    simpa using this
theorem DR.ok {l : List Rate} (h : DR l) : ratesOk l = true := rates_ok h.asc h.name (fun x hx => by have := h.cents x hx; omega) h.len
theorem DR.fits {l : List Rate} (h : DR l) : ∀ x ∈ l, x.fits := fun x hx => (RM_name _ (h.name x hx)).2
theorem raise_sorts (l : List Rate) (p : Int) : (l.map (raise p)).map (·.fSort) = l.map (·.fSort) := by simp [raise, Function.comp_def]
theorem DR.raised {l : List Rate} (h : DR l) {p : Int} (hp : 0 ≤ p ∧ p ≤ 100) : mRaiseC l p = 0 ∧ mRaise l p = l.map (raise p) := by
  have hb : ∀ x ∈ l.map (raise p), x.fSort ∈ RM ∧ 0 ≤ x.fCents ∧ x.fCents ≤ 10000 := by
    intro x hx
    obtain ⟨y, hy, rfl⟩ := List.mem_map.1 hx
    refine ⟨h.name y hy, ?_⟩
    have hc := h.cents y hy
    have h0 : 0 ≤ y.fCents * (100 + p) := Int.mul_nonneg hc.1 (by omega)
    have h1 : y.fCents * (100 + p) ≤ 380 * 200 := Int.mul_le_mul hc.2 (by omega) (by omega) (by omega)
    show 0 ≤ y.fCents * (100 + p) / 100 ∧ y.fCents * (100 + p) / 100 ≤ 10000
    generalize y.fCents * (100 + p) = z at *
    omega
  have hr : ratesOk (l.map (raise p)) = true := rates_ok (by rw [raise_sorts]; exact h.asc) (fun x hx => (hb x hx).1) (fun x hx => (hb x hx).2) (by simpa using h.len)
  have hi : inB p 0 100 = true := inB_true.2 hp
  exact ⟨by unfold mRaiseC; rw [h.ok, hi, hr]; rfl, by unfold mRaise; rw [h.ok, hi, hr]; rfl⟩
theorem raise_law {c p : Int} : ¬ c * (100 + p) < 100 * (c * (100 + p) / 100) ∧ ¬ 100 * (c * (100 + p) / 100) + 100 ≤ c * (100 + p) := by
  generalize c * (100 + p) = z
  omega
/-- The indices without a rate: which they are. -/
theorem unkTo_mem (rs : List Rate) (l : List PieceW) (k : Nat) (v : Int) : v ∈ unkTo rs l k ↔ ∃ i : Nat, v = i ∧ i < k ∧ ∃ x, l[i]? = some x ∧ rateOf rs x.fSort = none := by
  induction k with
  | zero => simp [unkTo]
  | succ k ih =>
    rw [unkTo, List.mem_append, ih]
    constructor
    · rintro (⟨i, rfl, hi, hx⟩ | h)
      · exact ⟨i, rfl, by omega, hx⟩
      · split at h
        · rename_i x hx
          split at h
          · cases h
          · rename_i hr
            obtain rfl : v = (k : Int) := by simpa using h
            exact ⟨k, rfl, by omega, x, hx, by simpa using hr⟩
        · cases h
    · rintro ⟨i, rfl, hi, x, hx, hr⟩
      rcases Nat.lt_or_ge i k with h | h
      · exact .inl ⟨i, rfl, h, x, hx, hr⟩
      · obtain rfl : i = k := by omega
        right
        rw [hx]
        simp [hr]
theorem unkTo_rise (rs : List Rate) (l : List PieceW) (k : Nat) : (unkTo rs l k).Pairwise (· < ·) := by
  induction k with
  | zero => exact List.Pairwise.nil
  | succ k ih =>
    rw [unkTo, List.pairwise_append]
    refine ⟨ih, ?_, fun a ha b hb => ?_⟩
    · split
      · split <;> simp
      · simp
    · obtain ⟨i, rfl, hi, _⟩ := (unkTo_mem rs l k a).1 ha
      split at hb
      · split at hb
        · cases hb
        · obtain rfl : b = (k : Int) := by simpa using hb
          omega
      · cases hb
theorem wgAll_iff (rs : List Rate) (l : List PieceW) : wgAll rs l = true ↔ ∀ x ∈ l, (rateOf rs x.fSort).isSome = true := by
  unfold wgAll
  rw [List.all_eq_true]
  constructor
  · intro h x hx
    have h1 := h x.fName (mem_mNames.2 (List.mem_map.2 ⟨x, hx, rfl⟩))
    unfold nmOk at h1
    rw [List.all_eq_true] at h1
    have h2 := h1 x hx
    unfold wgOk at h2
    rw [if_pos rfl] at h2
    exact h2
  · intro h y _
    unfold nmOk
    rw [List.all_eq_true]
    intro x hx
    unfold wgOk
    split
    · exact h x hx
    · rfl
theorem unk_nil (rs : List Rate) (l : List PieceW) : unkTo rs l l.length = [] ↔ wgAll rs l = true := by
  rw [wgAll_iff]
  constructor
  · intro h x hx
    cases hr : rateOf rs x.fSort with
    | some v => rfl
    | none =>
      obtain ⟨i, hi⟩ := List.mem_iff_getElem?.1 hx
      have := (unkTo_mem rs l l.length i).2 ⟨i, rfl, lt_of_get hi, x, hi, hr⟩
      rw [h] at this
      cases this
  · intro h
    cases hu : unkTo rs l l.length with
    | nil => rfl
    | cons v t =>
      have : v ∈ unkTo rs l l.length := by rw [hu]; exact List.mem_cons_self
      obtain ⟨i, rfl, hi, x, hx, hr⟩ := (unkTo_mem rs l l.length v).1 this
      have := h x (List.mem_of_getElem? hx)
      rw [hr] at this
      cases this
/-- The reference's rate: -1 where there is none. -/
def rateI (rs : List Rate) (s : ByteArray) : Int := (rateOf rs s).getD (-1)
def totF (rs : List Rate) (x : PieceW) : Int := rateI rs x.fSort * x.fMade
theorem wages_sum {rs : List Rate} {l : List PieceW} (h : wgAll rs l = true) : sumOf id (wgTo rs l (mNames l) (mNames l).length) = sumOf (totF rs) l := by
  have e : sumOf id (wgTo rs l (mNames l) (mNames l).length) = sumOf (fun y => sumOf (wgF rs y) l) (mNames l) := by
    unfold wgTo; rw [List.take_length]; simp [sumOf, Function.comp_def]
  rw [e, sumOf_swap]
  refine sumOf_congr fun x hx => ?_
  have h1 := (wgAll_iff rs l).1 h x hx
  have h2 := sumOf_one (asc_mNames l).nodup (mem_mNames.2 (List.mem_map.2 ⟨x, hx, rfl⟩)) (x.fMade * (rateOf rs x.fSort).getD 0)
  refine h2.trans ?_
  unfold totF rateI
  cases hr : rateOf rs x.fSort with
  | none => rw [hr] at h1; cases h1
  | some v => exact Int.mul_comm _ _
theorem wages_facts {rs : List Rate} {l : List PieceW} (hr : DR rs) (hl : DP l) : mUnk rs l = unkTo rs l l.length ∧ mUnkC rs l = 0 ∧
    (wgAll rs l = true → mWgN rs l = mNames l ∧ mWgW rs l = wgTo rs l (mNames l) (mNames l).length ∧ mWgC rs l = 0) ∧ (wgAll rs l = false → mWgC rs l = 9) := by
  have h1 := hr.ok
  have h2 := hl.ok
  have hu : unkOk rs l = true := by unfold unkOk; rw [h1, h2]; rfl
  have hw : wgValid rs l = true := by unfold wgValid; rw [h1, h2]; rfl
  refine ⟨by unfold mUnk; rw [hu]; rfl, by unfold mUnkC; rw [hu]; rfl, fun h => ⟨?_, ?_, ?_⟩, fun h => ?_⟩
  · unfold mWgN; rw [hw, h]; rfl
  · unfold mWgW; rw [hw, h]; rfl
  · unfold mWgC; rw [hw, h]; rfl
  · unfold mWgC; rw [hw, h]; rfl
theorem wage_of {rs : List Rate} {l : List PieceW} (hr : DR rs) (hl : DP l) (h : wgAll rs l = true) {y : ByteArray} (hy : y ∈ mNames l) : mWage rs l y = (sumOf (wgF rs y) l, 0) := by
  have hw : wgValid rs l = true := by unfold wgValid; rw [hr.ok, hl.ok]; rfl
  have hn : isName y = true := by
    obtain ⟨x, hx, rfl⟩ := List.mem_map.1 (mem_mNames.1 hy)
    exact (NM_name _ (hl.all x hx).1).1
  unfold mWage
  rw [hw, hn, if_pos rfl, if_pos rfl, wgRes_of hy, if_pos]
  unfold wgAll at h
  rw [List.all_eq_true] at h
  exact h y hy
theorem nobody {rs : List Rate} {l : List PieceW} (hr : DR rs) (hl : DP l) : mWage rs l ⟨#[110, 111, 98, 111, 100, 121]⟩ = (0, 3) := by
  have hw : wgValid rs l = true := by unfold wgValid; rw [hr.ok, hl.ok]; rfl
  unfold mWage
  rw [hw, if_pos rfl, if_pos (by decide)]
  unfold wgRes
  rw [if_pos]
  refine sumOf_zero fun x hx => if_neg fun e => ?_
  have := (hl.all x hx).1
  rw [e] at this
  unfold NM at this
  simp only [List.mem_cons, List.not_mem_nil, or_false] at this
  rcases this with h | h | h <;> exact absurd h (by decide)
theorem rate_draw {rs : List Rate} (hr : DR rs) (s : ByteArray) : (-1 ≤ rateI rs s ∧ rateI rs s ≤ 380) ∧ (rateI rs s < 0 ↔ rateOf rs s = none) := by
  unfold rateI
  cases h : rateOf rs s with
  | none => simp
  | some v =>
    obtain ⟨x, hx, rfl⟩ := rateOf_mem h
    have := hr.cents x hx
    simp only [Option.getD_some]
    exact ⟨⟨by omega, by omega⟩, ⟨fun h => by omega, fun h => by cases h⟩⟩
end Go.Proofs.Ytgjcmnnhcoaliaa
