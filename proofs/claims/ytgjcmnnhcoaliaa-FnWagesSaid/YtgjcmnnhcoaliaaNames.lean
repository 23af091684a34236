/- Names in ascending order, each once: putting one name after the other to its place gives what sorting and striking out what repeats gives. Plain words; no statement is proved here. -/
import Derived.Test.YtgjcmnnhcoaliaaStr
import Derived.Test.YtgjcmnnhcoaliaaSlx
namespace Go.Proofs.Ytgjcmnnhcoaliaa
open Go.ChangeShapes Go.WideShapes Go.ChangeAt Go.RowKit Go.Deep Go.Sort
def Asc (l : List ByteArray) : Prop := l.Pairwise fun a b => strLt a b = true
theorem asc_ext : ∀ a b : List ByteArray, Asc a → Asc b → (∀ x, x ∈ a ↔ x ∈ b) → a = b
  | [], [], _, _, _ => rfl
  | [], y :: b, _, _, h => absurd ((h y).2 (by simp)) (by simp)
  | x :: a, [], _, _, h => absurd ((h x).1 (by simp)) (by simp)
  | x :: a, y :: b, ha, hb, h => by
    have ha' := List.pairwise_cons.1 ha
    have hb' := List.pairwise_cons.1 hb
    have hxy : x = y := by
      rcases List.mem_cons.1 ((h x).1 (by simp)) with e | e
      · exact e
      · rcases List.mem_cons.1 ((h y).2 (by simp)) with e' | e'
        · exact e'.symm
        · have h1 := hb'.1 x e
          have h2 := ha'.1 y e'
          rw [strLt_asymm h1] at h2; cases h2
    subst hxy
    congr 1
    refine asc_ext a b ha'.2 hb'.2 fun z => ⟨fun hz => ?_, fun hz => ?_⟩
    · rcases List.mem_cons.1 ((h z).1 (by simp [hz])) with e | e
      · subst e; have := ha'.1 z hz; rw [strLt_irrefl] at this; cases this
      · exact e
    · rcases List.mem_cons.1 ((h z).2 (by simp [hz])) with e | e
      · subst e; have := hb'.1 z hz; rw [strLt_irrefl] at this; cases this
      · exact e
/-! ### one name put to its place -/
def lowN : List ByteArray → ByteArray → Nat
  | [], _ => 0
  | a :: l, x => if strLt a x then lowN l x + 1 else 0
theorem lowN_spec : ∀ (l : List ByteArray) (x : ByteArray), (∀ i a, i < lowN l x → l[i]? = some a → strLt a x = true) ∧ (∀ a, l[lowN l x]? = some a → strLt a x = false) ∧ lowN l x ≤ l.length
  | [], x => ⟨by intro i a h; simp [lowN] at h, by intro a h; simp at h, by simp [lowN]⟩
  | b :: l, x => by
    obtain ⟨h1, h2, h3⟩ := lowN_spec l x
    unfold lowN
    cases hb : strLt b x
    · simp only [Bool.false_eq_true, if_false]
      exact ⟨by intro i a h; omega, by intro a h; simp at h; subst h; exact hb, by omega⟩
    · simp only [if_true]
      refine ⟨?_, ?_, by simp; omega⟩
      · intro i a hi ha
        cases i with
        | zero => simp at ha; subst ha; exact hb
        | succ i => exact h1 i a (by omega) (by simpa using ha)
      · intro a ha
        exact h2 a (by simpa using ha)
theorem lowN_step {l : List ByteArray} {x a : ByteArray} {k : Nat} (hk : k ≤ lowN l x) (h : l[k]? = some a) (ha : strLt a x = true) : k + 1 ≤ lowN l x := by
  obtain ⟨_, h2, _⟩ := lowN_spec l x
  rcases Nat.lt_or_ge k (lowN l x) with hlt | hge
  · exact hlt
  · have : k = lowN l x := by omega
    subst this
    rw [h2 a h] at ha; cases ha
theorem lowN_stop {l : List ByteArray} {x a : ByteArray} {k : Nat} (hk : k ≤ lowN l x) (h : l[k]? = some a) (ha : strLt a x = false) : lowN l x = k := by
  obtain ⟨h1, _, _⟩ := lowN_spec l x
  rcases Nat.lt_or_ge k (lowN l x) with hlt | hge
  · rw [h1 k a hlt h] at ha; cases ha
  · omega
theorem lowN_end {l : List ByteArray} {x : ByteArray} {k : Nat} (hk : k ≤ lowN l x) (h : l.length ≤ k) : lowN l x = k := by
  have := (lowN_spec l x).2.2
  omega
def ins1 (l : List ByteArray) (x : ByteArray) : List ByteArray := if l[lowN l x]? = some x then l else l.take (lowN l x) ++ [x] ++ l.drop (lowN l x)
theorem ins1_old {l : List ByteArray} {x : ByteArray} {k : Nat} (hk : lowN l x = k) (h : l[k]? = some x) : ins1 l x = l := by unfold ins1; rw [hk, if_pos h]
theorem ins1_new {l : List ByteArray} {x : ByteArray} {k : Nat} (hk : lowN l x = k) (h : ¬ l[k]? = some x) : ins1 l x = l.take k ++ [x] ++ l.drop k := by unfold ins1; rw [hk, if_neg h]
theorem ins1_cons_lt {a : ByteArray} {l : List ByteArray} {x : ByteArray} (h : strLt a x = true) : ins1 (a :: l) x = a :: ins1 l x := by
  have e : lowN (a :: l) x = lowN l x + 1 := by rw [lowN, if_pos h]
  by_cases hx : l[lowN l x]? = some x
  · rw [ins1_old rfl hx, ins1_old e (by simpa using hx)]
  · rw [ins1_new rfl hx, ins1_new e (by simpa using hx)]; simp
theorem ins1_cons_eq {a : ByteArray} {l : List ByteArray} : ins1 (a :: l) a = a :: l := by
  have e : lowN (a :: l) a = 0 := by rw [lowN, strLt_irrefl]; rfl
  exact ins1_old e rfl
theorem ins1_cons_gt {a : ByteArray} {l : List ByteArray} {x : ByteArray} (h : strLt a x = false) (hne : ¬ a = x) : ins1 (a :: l) x = x :: a :: l := by
  have e : lowN (a :: l) x = 0 := by rw [lowN, h]; rfl
  rw [ins1_new e (by simpa using hne)]; rfl
theorem mem_ins1 (x y : ByteArray) : ∀ l : List ByteArray, y ∈ ins1 l x ↔ y = x ∨ y ∈ l
  | [] => by
    have : ins1 [] x = [x] := ins1_new (l := []) rfl (by simp)
    rw [this]; simp
  | a :: l => by
    cases h : strLt a x
    · by_cases hax : a = x
      · subst hax
        rw [ins1_cons_eq]; simp
      · rw [ins1_cons_gt h hax]; simp
    · rw [ins1_cons_lt h, List.mem_cons, mem_ins1 x y l, List.mem_cons]
      constructor
      · rintro (h | h | h)
        · exact .inr (.inl h)
        · exact .inl h
        · exact .inr (.inr h)
      · rintro (h | h | h)
        · exact .inr (.inl h)
        · exact .inl h
        · exact .inr (.inr h)
theorem asc_ins1 (x : ByteArray) : ∀ l : List ByteArray, Asc l → Asc (ins1 l x)
  | [], _ => by
    have : ins1 [] x = [x] := ins1_new (l := []) rfl (by simp)
    rw [this]; exact List.pairwise_singleton _ _
  | a :: l, hl => by
    have hl' := List.pairwise_cons.1 hl
    cases h : strLt a x
    · by_cases hax : a = x
      · subst hax
        rw [ins1_cons_eq]; exact hl
      · rw [ins1_cons_gt h hax]
        have hxa : strLt x a = true := by
          cases h2 : strLt x a
          · exact absurd (strLt_total h h2) hax
          · rfl
        refine List.pairwise_cons.2 ⟨fun y hy => ?_, hl⟩
        rcases List.mem_cons.1 hy with e | e
        · subst e; exact hxa
        · exact strLt_trans hxa (hl'.1 y e)
    · rw [ins1_cons_lt h]
      refine List.pairwise_cons.2 ⟨fun y hy => ?_, asc_ins1 x l hl'.2⟩
      rcases (mem_ins1 x y l).1 hy with e | e
      · subst e; exact h
      · exact hl'.1 y e
def namesTo (ss : List ByteArray) : Nat → List ByteArray
  | 0 => []
  | k + 1 => match ss[k]? with
    | some x => ins1 (namesTo ss k) x
    | none => namesTo ss k
theorem namesTo_step {ss : List ByteArray} {k : Nat} {x : ByteArray} (h : ss[k]? = some x) : namesTo ss (k + 1) = ins1 (namesTo ss k) x := by rw [namesTo, h]
theorem asc_namesTo (ss : List ByteArray) (k : Nat) : Asc (namesTo ss k) := by
  induction k with
  | zero => exact List.Pairwise.nil
  | succ k ih =>
    unfold namesTo
    split
    · exact asc_ins1 _ _ ih
    · exact ih
theorem mem_namesTo (ss : List ByteArray) (k : Nat) (y : ByteArray) : y ∈ namesTo ss k ↔ y ∈ ss.take k := by
  induction k with
  | zero => simp [namesTo]
  | succ k ih =>
    unfold namesTo
    split
    · rename_i x hx
      rw [mem_ins1, ih, take_snoc hx, List.mem_append, List.mem_singleton, or_comm]
    · rename_i hx
      rw [ih, List.take_of_length_le (List.getElem?_eq_none_iff.1 hx), List.take_of_length_le (by have := List.getElem?_eq_none_iff.1 hx; omega)]
theorem ins1_len (l : List ByteArray) (x : ByteArray) : (ins1 l x).length ≤ l.length + 1 := by
  unfold ins1
  split
  · omega
  · simp; omega
theorem namesTo_len (ss : List ByteArray) (k : Nat) : (namesTo ss k).length ≤ k := by
  induction k with
  | zero => simp [namesTo]
  | succ k ih =>
    unfold namesTo
    split
    · rename_i x _
      have := ins1_len (namesTo ss k) x
      omega
    · omega
/-! ### sorted, and what repeats struck out -/
theorem bl_lt : ∀ x y : List UInt8, Op.bytesLess x y = decide (x < y)
  | [], [] => by simp [Op.bytesLess]
  | [], _ :: _ => by simp [Op.bytesLess]
  | _ :: _, [] => by simp [Op.bytesLess]
  | a :: x, b :: y => by
    have e : Op.bytesLess (a :: x) (b :: y) = (decide (a < b) || (a == b && Op.bytesLess x y)) := rfl
    rw [e, bl_lt x y, Bool.eq_iff_iff]
    simp [List.cons_lt_cons_iff]
theorem le_eq (x y : List UInt8) : decide (x ≤ y) = !Op.bytesLess y x := by
  rw [bl_lt, Bool.eq_iff_iff]
  simp
theorem sortB_sorted (ss : List ByteArray) : (sortB ss).Pairwise fun a b => strLt b a = false := by
  unfold sortB ofBytes
  rw [List.pairwise_map]
  have hs := List.pairwise_mergeSort (le := fun x y : List UInt8 => decide (x ≤ y))
    (fun a b c h1 h2 => by
      simp only [le_eq, Bool.not_eq_eq_eq_not, Bool.not_true] at h1 h2 ⊢
      cases h : Op.bytesLess c a
      · rfl
      · cases hb : Op.bytesLess a b
        · have := bl_total a b hb h1
          subst this
          rw [h2] at h; cases h
        · have := bl_trans c a b h hb
          rw [h2] at this; cases this)
    (fun a b => by
      simp only [le_eq]
      cases h : Op.bytesLess b a
      · rfl
      · rw [bl_asymm h]; rfl) (toBytes ss)
  refine hs.imp fun {a b} h => ?_
  simp only [le_eq, Bool.not_eq_eq_eq_not, Bool.not_true] at h
  unfold strLt
  rw [← data_toList, ← data_toList]
  exact h
theorem mem_sortB (ss : List ByteArray) (y : ByteArray) : y ∈ sortB ss ↔ y ∈ ss := by
  unfold sortB ofBytes toBytes
  rw [List.mem_map]
  constructor
  · rintro ⟨b, hb, rfl⟩
    rw [List.mem_mergeSort, List.mem_map] at hb
    obtain ⟨z, hz, rfl⟩ := hb
    rw [of_data]; exact hz
  · intro h
    exact ⟨y.data.toList, by rw [List.mem_mergeSort, List.mem_map]; exact ⟨y, h, rfl⟩, of_data y⟩
theorem sorted_at {ss : List ByteArray} (h : ss.Pairwise fun a b => strLt b a = false) {i j : Nat} {a b : ByteArray} (hij : i < j) (ha : ss[i]? = some a) (hb : ss[j]? = some b) : strLt b a = false := by
  obtain ⟨hi, rfl⟩ := List.getElem?_eq_some_iff.1 ha
  obtain ⟨hj, rfl⟩ := List.getElem?_eq_some_iff.1 hb
  exact List.pairwise_iff_getElem.1 h i j hi hj hij
theorem ddTo_good {ss : List ByteArray} (h : ss.Pairwise fun a b => strLt b a = false) (k : Nat) (hk : k ≤ ss.length) : Asc (ddTo ss k) ∧ ∀ y, y ∈ ddTo ss k ↔ y ∈ ss.take k := by
  induction k with
  | zero => rw [ddTo_zero]; exact ⟨List.Pairwise.nil, by simp⟩
  | succ k ih =>
    obtain ⟨ih1, ih2⟩ := ih (by omega)
    obtain ⟨x, hx⟩ : ∃ x, ss[k]? = some x := ⟨ss[k], List.getElem?_eq_getElem (by omega)⟩
    rcases Nat.eq_zero_or_pos k with rfl | hpos
    · rw [ddTo_first hx, ddTo_zero, take_snoc hx]
      exact ⟨List.pairwise_singleton _ _, by simp⟩
    · obtain ⟨y, hy⟩ : ∃ y, ss[k - 1]? = some y := ⟨ss[k - 1], List.getElem?_eq_getElem (by omega)⟩
      by_cases he : y = x
      · rw [ddTo_old hpos hx hy he]
        refine ⟨ih1, fun z => ?_⟩
        rw [ih2, take_snoc hx, List.mem_append, List.mem_singleton]
        constructor
        · exact .inl
        · rintro (hz | hz)
          · exact hz
          · subst hz; subst he
            exact List.mem_of_getElem? (i := k - 1) (by rw [List.getElem?_take, if_pos (by omega)]; exact hy)
      · rw [ddTo_new hx hy he]
        refine ⟨List.pairwise_append.2 ⟨ih1, List.pairwise_singleton _ _, fun z hz u hu => ?_⟩, fun z => ?_⟩
        · rw [List.mem_singleton] at hu
          subst hu
          rw [ih2] at hz
          obtain ⟨i, hi⟩ := List.mem_iff_getElem?.1 hz
          have hik : i < k := by
            have := lt_of_get hi
            rw [List.length_take] at this
            omega
          rw [List.getElem?_take, if_pos hik] at hi
          have h1 := sorted_at h hik hi hx
          have h2 := sorted_at h (show k - 1 < k by omega) hy hx
          cases h3 : strLt z u
          · exfalso
            have hzu : z = u := strLt_total h3 h1
            subst hzu
            have h4 : strLt y z = false := by
              rcases Nat.lt_or_ge i (k - 1) with hlt | hge
              · exact sorted_at h hlt hi hy
              · have : i = k - 1 := by omega
                subst this
                rw [hi] at hy
                exact absurd (Option.some.inj hy).symm he
            exact he (strLt_total h4 h2)
          · rfl
        · rw [take_snoc hx, List.mem_append, List.mem_append, ih2]
/-- One after the other, or all at once. -/
theorem names_eq (ss : List ByteArray) {n : Nat} (hn : ss.length = n) : namesTo ss n = dedup (sortB ss) := by
  have hl : (sortB ss).length = n := by rw [sortB_len]; exact hn
  have hg := ddTo_good (sortB_sorted ss) n (by omega)
  rw [ddTo_all _ hl] at hg
  refine asc_ext _ _ (asc_namesTo ss n) hg.1 fun y => ?_
  rw [mem_namesTo, hg.2, List.take_of_length_le (by omega), List.take_of_length_le (by omega), mem_sortB]
theorem mem_names (ss : List ByteArray) (y : ByteArray) : y ∈ dedup (sortB ss) ↔ y ∈ ss := by
  rw [← names_eq ss rfl, mem_namesTo, List.take_length]
end Go.Proofs.Ytgjcmnnhcoaliaa
