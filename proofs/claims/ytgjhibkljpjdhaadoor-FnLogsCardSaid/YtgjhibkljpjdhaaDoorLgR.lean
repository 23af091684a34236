/- A log that was made is read back; what is cut off: no program in sight. No statement is proved here. -/
import Derived.Test.YtgjhibkljpjdhaaDoorLgA
import Derived.Test.YtgjhibkljpjdhaaDoorRdB
import Derived.Test.YtgjhibkljpjdhaaDoorLogI
namespace Go.Proofs.YtgjhibkljpjdhaaDoor
open Go.ChangeShapes Go.WideShapes Go.ChangeAt Go.RowKit Go.Deep
set_option maxRecDepth 100000
theorem name_chars {s : ByteArray} (h : isName s = true) : ∀ c ∈ s.data.toList, c ≠ 10 ∧ c ≠ 32 := by
  intro c hc
  obtain ⟨i, hi⟩ := List.mem_iff_getElem?.1 hc
  have hlt : i < s.size := by have := lt_of_get hi; rw [size_list] at this; exact this
  rw [get_list s i hlt] at hi
  have hc' : s[i] = c := Option.some.inj hi
  unfold isName at h
  rw [Bool.and_eq_true, List.all_eq_true] at h
  have h1 := h.2 i (List.mem_range.2 hlt)
  have h2 : chAt s i = (c.toNat : Int) := by unfold chAt; rw [dif_pos hlt, hc']
  have h3 : (97 ≤ (c.toNat : Int) ∧ (c.toNat : Int) ≤ 122) ∨ (48 ≤ (c.toNat : Int) ∧ (c.toNat : Int) ≤ 57) ∨ (c.toNat : Int) = 45 := by
    unfold chOk letB othB at h1
    rw [h2] at h1
    simp only [Bool.or_eq_true, Bool.and_eq_true, inB_true, beq_iff_eq] at h1
    rcases h1 with h1 | ⟨_, h1 | h1⟩
    · exact .inl h1
    · exact .inr (.inl h1)
    · exact .inr (.inr h1)
  constructor
  · intro e; subst e; revert h3; decide
  · intro e; subst e; revert h3; decide
/-- A line without its newline. -/
def lnL (st : Int) (x : Entry) : List UInt8 := Lib.itoa x.fDay ++ 32 :: (x.fWhat.data.toList ++ 32 :: (Lib.itoa x.fValue ++ 32 :: Lib.itoa st))
theorem dec_list (n : Int) : (decB n).data.toList = Lib.itoa n := rfl
theorem line_list (st : Int) (x : Entry) : (lineB st x).data.toList = lnL st x ++ [10] := by
  unfold lineB entB lnL
  simp only [Joins.data_append, dec_list, List.append_assoc, List.cons_append, List.nil_append]
theorem ln_no {c : UInt8} (hc : c = 10) (st : Int) {x : Entry} (hk : x.ok = true) : ¬ c ∈ lnL st x := by
  subst hc
  unfold lnL
  intro h
  rcases List.mem_append.1 h with h | h
  · exact (itoa_chars _ _ h).1 rfl
  rcases List.mem_cons.1 h with h | h
  · cases h
  rcases List.mem_append.1 h with h | h
  · exact (name_chars (Entry.ok_iff.1 hk).2.1 _ h).1 rfl
  rcases List.mem_cons.1 h with h | h
  · cases h
  rcases List.mem_append.1 h with h | h
  · exact (itoa_chars _ _ h).1 rfl
  rcases List.mem_cons.1 h with h | h
  · cases h
  · exact (itoa_chars _ _ h).1 rfl
theorem ln_ent {st : Int} {x : Entry} (hk : x.ok = true) : entOf (lnL st x) = some x := by
  obtain ⟨⟨b1, b2⟩, hn, b3, b4⟩ := Entry.ok_iff.1 hk
  have hd := rd_itoa (n := x.fDay) (by omega) (by omega)
  have hv := rd_itoa (n := x.fValue) (by omega) (by omega)
  have hs : spl 32 [] (lnL st x) = [Lib.itoa x.fDay, x.fWhat.data.toList, Lib.itoa x.fValue, Lib.itoa st] := by
    unfold lnL
    rw [spl_to _ _ _ (fun h => (itoa_chars _ _ h).2 rfl), spl_to _ _ _ (fun h => (name_chars hn _ h).2 rfl), spl_to _ _ _ (fun h => (itoa_chars _ _ h).2 rfl), spl_no _ _ (fun h => (itoa_chars _ _ h).2 rfl)]
    rfl
  have he : wdEnt (Lib.itoa x.fDay) x.fWhat.data.toList (Lib.itoa x.fValue) = x := by
    unfold wdEnt
    rw [hd.2, hv.2, mk_data]
  unfold entOf
  rw [hs]
  show (if rdOk (Lib.itoa x.fDay) = true ∧ rdOk (Lib.itoa x.fValue) = true ∧ (wdEnt (Lib.itoa x.fDay) x.fWhat.data.toList (Lib.itoa x.fValue)).ok = true then some (wdEnt (Lib.itoa x.fDay) x.fWhat.data.toList (Lib.itoa x.fValue)) else none) = some x
  rw [he, if_pos ⟨hd.1, hv.1, hk⟩]
theorem takeWhile_to {c : UInt8} : ∀ (l r : List UInt8), ¬ c ∈ l → (l ++ c :: r).takeWhile (· ≠ c) = l
  | [], r, _ => by rw [List.nil_append]; exact List.takeWhile_cons_of_neg (by simp)
  | b :: l, r, h => by
    have hb : b ≠ c := fun e => h (by rw [e]; exact List.mem_cons_self)
    have e : (b :: (l ++ c :: r)).takeWhile (· ≠ c) = b :: (l ++ c :: r).takeWhile (· ≠ c) := List.takeWhile_cons_of_pos (decide_eq_true hb)
    rw [List.cons_append, e, takeWhile_to l r (fun e => h (List.mem_cons_of_mem _ e))]
theorem lineOf_to {l r : List UInt8} (h : ¬ (10 : UInt8) ∈ l) : lineOf (l ++ 10 :: r) = some l := by
  unfold lineOf
  rw [if_pos (by simp), takeWhile_to l r h]
theorem tw_split : ∀ rest : List UInt8, (10 : UInt8) ∈ rest → ¬ (10 : UInt8) ∈ rest.takeWhile (· ≠ 10) ∧ rest = rest.takeWhile (· ≠ 10) ++ 10 :: rest.drop ((rest.takeWhile (· ≠ 10)).length + 1)
  | [], hm => by cases hm
  | c :: r, hm => by
    by_cases hc : c = 10
    · subst hc
      have e : ((10 : UInt8) :: r).takeWhile (· ≠ 10) = [] := List.takeWhile_cons_of_neg (by simp)
      rw [e]
      exact ⟨by simp, by simp⟩
    · have hr : (10 : UInt8) ∈ r := by
        rcases List.mem_cons.1 hm with e | e
        · exact absurd e.symm hc
        · exact e
      obtain ⟨h1, h2⟩ := tw_split r hr
      have e : (c :: r).takeWhile (· ≠ 10) = c :: r.takeWhile (· ≠ 10) := List.takeWhile_cons_of_pos (decide_eq_true hc)
      rw [e]
      refine ⟨fun h => ?_, ?_⟩
      · rcases List.mem_cons.1 h with e | e
        · exact hc e.symm
        · exact h1 e
      · rw [List.cons_append, List.length_cons, List.drop_succ_cons, ← h2]
/-- The first line, and what stands behind it. -/
theorem lineOf_split {rest l : List UInt8} (h : lineOf rest = some l) : ¬ (10 : UInt8) ∈ l ∧ rest = l ++ 10 :: rest.drop (l.length + 1) := by
  unfold lineOf at h
  split at h
  · rename_i hm
    have h := Option.some.inj h
    rw [← h]
    exact tw_split rest hm
  · cases h
/-- The bytes of a log and its last stamp, from a stamp on. -/
def mkL : Int → List Entry → List UInt8
  | _, [] => []
  | st, x :: l => lnL (stampB st (entB x)) x ++ 10 :: mkL (stampB st (entB x)) l
def stL : Int → List Entry → Int
  | st, [] => st
  | st, x :: l => stL (stampB st (entB x)) l
theorem lg_mkL : ∀ (l : List Entry) (a : Int × ByteArray), (l.foldl lgF a).2.data.toList = a.2.data.toList ++ mkL a.1 l ∧ (l.foldl lgF a).1 = stL a.1 l
  | [], a => ⟨by simp [mkL], rfl⟩
  | x :: l, a => by
    obtain ⟨h1, h2⟩ := lg_mkL l (lgF a x)
    rw [List.foldl_cons]
    refine ⟨?_, by rw [h2]; rfl⟩
    rw [h1, (lgF_one a x).1, (lgF_one a x).2, Joins.data_append, line_list, mkL]
    simp
/-- The days do not go back. -/
def Dayed : Int → List Entry → Prop
  | _, [] => True
  | d, x :: l => d ≤ x.fDay ∧ Dayed x.fDay l
theorem step_made {st day : Int} {x : Entry} (r : List UInt8) (hk : x.ok = true) (hd : day ≤ x.fDay) : stepOf st day (lnL (stampB st (entB x)) x ++ 10 :: r) = some (x, lnL (stampB st (entB x)) x) := by
  refine step_good (lineOf_to (ln_no rfl _ hk)) (ln_ent hk) ?_
  unfold okLine
  rw [decide_eq_true hd, decide_eq_true (toList_inj ?_)]; rfl
  rw [ByteArray.toList_eq, ByteArray.toList_eq, line_list]
theorem read_made : ∀ (l : List Entry) (f : Nat) (st day : Int), (∀ x ∈ l, x.ok = true) → Dayed day l → (mkL st l).length < f → readK f (mkL st l) st day = (l, (mkL st l).length, stL st l)
  | [], 0, _, _, _, _, hf => by cases hf
  | [], f + 1, st, day, _, _, _ => by
    have : stepOf st day (mkL st []) = none := step_noline (by unfold lineOf; rfl)
    rw [readK]
    simp only [this]
    rfl
  | x :: l, 0, _, _, _, _, hf => by cases hf
  | x :: l, f + 1, st, day, hk, hd, hf => by
    have hs := step_made (st := st) (mkL (stampB st (entB x)) l) (hk x List.mem_cons_self) hd.1
    have hdr : (mkL st (x :: l)).drop ((lnL (stampB st (entB x)) x).length + 1) = mkL (stampB st (entB x)) l := by
      rw [mkL, show lnL (stampB st (entB x)) x ++ 10 :: mkL (stampB st (entB x)) l = (lnL (stampB st (entB x)) x ++ [10]) ++ mkL (stampB st (entB x)) l by simp]
      exact List.drop_left' (by simp)
    have hlen : (mkL st (x :: l)).length = (lnL (stampB st (entB x)) x).length + 1 + (mkL (stampB st (entB x)) l).length := by rw [mkL]; simp; omega
    have ih := read_made l f (stampB st (entB x)) x.fDay (fun y hy => hk y (List.mem_cons_of_mem _ hy)) hd.2 (by omega)
    rw [readK]
    rw [show mkL st (x :: l) = lnL (stampB st (entB x)) x ++ 10 :: mkL (stampB st (entB x)) l from rfl] at hdr hlen ⊢
    simp only [hs, hdr, ih]
    rw [hlen]; rfl
/-- What is drawn for a log: valid entries in order, few of them. -/
structure DE (l : List Entry) : Prop where
  ok : ∀ x ∈ l, x.ok = true
  dayed : Dayed 0 l
theorem lg_list (l : List Entry) : (lgOf l).2.data.toList = mkL 0 l := by
  have h := (lg_mkL l (0, ⟨#[]⟩)).1
  unfold lgOf
  rw [h]; rfl
theorem lg_stamp (l : List Entry) : (lgOf l).1 = stL 0 l := (lg_mkL l (0, ⟨#[]⟩)).2
theorem lg_len (l : List Entry) : (mkL 0 l).length = (lgOf l).2.size := by rw [← lg_list, size_list]
theorem rd_made {l : List Entry} (h : DE l) : rdLog (lgOf l).2 = (l, (lgOf l).2.size, (lgOf l).1) := by
  unfold rdLog
  rw [lg_list, read_made l _ 0 0 h.ok h.dayed (by rw [lg_len]; omega), lg_len, lg_stamp]
theorem Dayed.take : ∀ {l : List Entry} {d : Int} (k : Nat), Dayed d l → Dayed d (l.take k)
  | [], _, k, _ => by rw [List.take_nil]; trivial
  | x :: l, d, 0, _ => trivial
  | x :: l, d, k + 1, h => ⟨h.1, Dayed.take k h.2⟩
theorem DE.take {l : List Entry} (h : DE l) (k : Nat) : DE (l.take k) := ⟨fun x hx => h.ok x (List.mem_of_mem_take hx), h.dayed.take k⟩
theorem Dayed.at_ : ∀ {l : List Entry} {d : Int} {j : Nat} {x y : Entry}, Dayed d l → l[j + 1]? = some x → l[j]? = some y → y.fDay ≤ x.fDay
  | [], _, _, _, _, _, h, _ => by cases h
  | [_], _, j, _, _, _, h, _ => by simp at h
  | a :: b :: l, d, 0, x, y, h, hx, hy => by
    have h1 : b = x := by simpa using hx
    have h2 : a = y := by simpa using hy
    subst h1 h2
    exact h.2.1
  | a :: b :: l, d, j + 1, x, y, h, hx, hy => Dayed.at_ (l := b :: l) h.2 (by simpa using hx) (by simpa using hy)
theorem Dayed.first : ∀ {l : List Entry} {d : Int} {x : Entry}, Dayed d l → l[0]? = some x → d ≤ x.fDay
  | [], _, _, _, h => by cases h
  | a :: l, d, x, h, hx => by
    have h1 : a = x := by simpa using hx
    subst h1
    exact h.1
theorem Dayed.snoc : ∀ {l : List Entry} {d : Int} {x : Entry}, Dayed d l → ((l.getLast?).map (·.fDay)).getD d ≤ x.fDay → Dayed d (l ++ [x])
  | [], d, x, _, h => ⟨h, trivial⟩
  | [y], d, x, h, h2 => ⟨h.1, h2, trivial⟩
  | y :: z :: l, d, x, h, h2 => by
    refine ⟨h.1, Dayed.snoc (l := z :: l) h.2 ?_⟩
    rw [List.getLast?_cons_cons] at h2
    cases hq : (z :: l).getLast? with
    | none => simp at hq
    | some q => rw [hq] at h2; exact h2
theorem DE.nil : DE [] := ⟨by simp, trivial⟩
theorem DE.snoc {l : List Entry} {x : Entry} (h : DE l) (hk : x.ok = true) (hd : lastDay l ≤ x.fDay) : DE (l ++ [x]) := by
  refine ⟨fun y hy => ?_, h.dayed.snoc ?_⟩
  · rcases List.mem_append.1 hy with hy | hy
    · exact h.ok y hy
    · rw [List.mem_singleton.1 hy]; exact hk
  · unfold lastDay at hd
    cases hq : l.getLast? with
    | none => rw [hq] at hd; exact hd
    | some q => rw [hq] at hd; exact hd
theorem DE.inOrd {l : List Entry} (h : DE l) : inOrd l = true := by
  refine inOrd_true fun j h1 h2 => ?_
  have hx : l[j]? = some l[j] := List.getElem?_eq_getElem h2
  have hy : l[j - 1]? = some l[j - 1] := List.getElem?_eq_getElem (by omega)
  rw [lateAt_eq hx hy]
  have := h.dayed.at_ (j := j - 1) (by rw [show j - 1 + 1 = j by omega]; exact hx) hy
  exact decide_eq_false (by omega)
theorem DE.allOk {l : List Entry} (h : DE l) : allOk l = true := by unfold Go.Proofs.YtgjhibkljpjdhaaDoor.allOk; exact List.all_eq_true.2 h.ok
theorem DE.last {l : List Entry} (h : DE l) {k : Nat} {x : Entry} (hx : l[k]? = some x) : lastDay (l.take k) ≤ x.fDay := by
  cases k with
  | zero => exact h.dayed.first hx
  | succ k =>
    have hk := lt_of_get hx
    have hy : l[k]? = some l[k] := List.getElem?_eq_getElem (by omega)
    rw [lastDay_at (l := l.take (k + 1)) (k := k) (e := l[k]) (by rw [List.getElem?_take, if_pos (by omega)]; exact hy) (by rw [List.length_take]; omega)]
    exact h.dayed.at_ hx hy
/-! ### short logs -/
theorem lineB_len {st : Int} {x : Entry} (h0 : 0 ≤ st) (h1 : st ≤ 65518) (hk : x.ok = true) : (lineB st x).size ≤ 80 := by
  obtain ⟨⟨b1, b2⟩, hn, b3, b4⟩ := Entry.ok_iff.1 hk
  have s1 := decB_size x.fDay (by omega) (by omega)
  have s2 := name_size hn
  have s3 := decB_size x.fValue (by omega) (by omega)
  have s4 := decB_size st (by omega) (by omega)
  unfold lineB entB
  simp only [ByteArray.size_append, one_size]; omega
theorem lg_len80 : ∀ (l : List Entry) (a : Int × ByteArray), (∀ x ∈ l, x.ok = true) → (l.foldl lgF a).2.size ≤ a.2.size + 80 * l.length
  | [], _, _ => by simp
  | x :: l, a, hx => by
    have h1 := lg_len80 l (lgF a x) (fun y hy => hx y (List.mem_cons_of_mem _ hy))
    obtain ⟨r1, r2⟩ := stampB_range a.1 (entB x)
    have h2 := lineB_len r1 r2 (hx x List.mem_cons_self)
    rw [(lgF_one a x).2, ByteArray.size_append] at h1
    rw [List.foldl_cons, List.length_cons]
    omega
theorem DE.short {l : List Entry} (h : DE l) (hn : l.length ≤ 7) : (lgOf l).2.size ≤ 560 := by
  have h1 := lg_len80 l (0, ⟨#[]⟩) h.ok
  have h2 : (⟨#[]⟩ : ByteArray).size = 0 := rfl
  unfold lgOf
  simp only [h2] at h1
  omega
theorem DE.log {l : List Entry} (h : DE l) (hn : l.length ≤ 7) : mLog l = ((lgOf l).2, 0) := mLog_good h.allOk h.inOrd (by have := h.short hn; omega)
theorem DE.lcode {l : List Entry} (h : DE l) (hn : l.length ≤ 7) : lcode (lgOf l).2 = 0 ∧ ents (lgOf l).2 = l ∧ upTo (lgOf l).2 = (lgOf l).2.size ∧ lastSt (lgOf l).2 = (lgOf l).1 := by
  have h1 := h.short hn
  have h2 : upTo (lgOf l).2 = (lgOf l).2.size := by unfold upTo; rw [rd_made h]
  exact ⟨by unfold Go.Proofs.YtgjhibkljpjdhaaDoor.lcode; rw [if_neg (by omega), if_pos h2], by unfold ents; rw [rd_made h], h2, by unfold lastSt; rw [rd_made h]⟩
theorem DE.none7 {l : List Entry} (_h : DE l) (hn : l.length ≤ 7) (k : Nat) : (l.take k).length ≤ 7 := by rw [List.length_take]; omega
/-! ### what is cut off -/
theorem step_rest {st day : Int} {rest l : List UInt8} {e : Entry} (h : stepOf st day rest = some (e, l)) : lineOf rest = some l ∧ ∀ r, stepOf st day (l ++ 10 :: r) = some (e, l) := by
  unfold stepOf at h
  split at h
  · cases h
  · rename_i x hx
    split at h
    · cases h
    · rename_i e' he
      split at h
      · rename_i hk
        injection h with h
        injection h with h3 h4
        subst h3 h4
        exact ⟨hx, fun r => step_good (lineOf_to (lineOf_split hx).1) he hk⟩
      · cases h
theorem read_cut : ∀ (f : Nat) (rest : List UInt8) (st day : Int) (g : Nat), rest.length < f → (rest.take (readK f rest st day).2.1).length < g → readK g (rest.take (readK f rest st day).2.1) st day = readK f rest st day
  | 0, _, _, _, _, hf, _ => by cases hf
  | f + 1, rest, st, day, 0, _, hg => by cases hg
  | f + 1, rest, st, day, g + 1, hf, hg => by
    cases hs : stepOf st day rest with
    | none =>
      have h1 : readK (f + 1) rest st day = ([], 0, st) := by rw [readK]; simp only [hs]
      rw [h1]
      have h2 : stepOf st day (rest.take 0) = none := step_noline (by unfold lineOf; rfl)
      rw [readK]
      simp only [h2]
    | some x =>
      obtain ⟨e, l⟩ := x
      obtain ⟨h1, h2⟩ := step_rest hs
      obtain ⟨h3, h4⟩ := lineOf_split h1
      obtain ⟨R, hR⟩ : ∃ R, R = rest.drop (l.length + 1) := ⟨_, rfl⟩
      rw [← hR] at h4
      have hl : R.length + (l.length + 1) = rest.length := by rw [h4]; simp; omega
      obtain ⟨r, hr⟩ : ∃ r, r = readK f R (stampB st (entB e)) e.fDay := ⟨_, rfl⟩
      have hk : readK (f + 1) rest st day = (e :: r.1, l.length + 1 + r.2.1, r.2.2) := by rw [readK]; simp only [hs, ← hR, ← hr]
      rw [hk]
      rw [hk] at hg
      have ht : rest.take (l.length + 1 + r.2.1) = l ++ 10 :: R.take r.2.1 := by
        rw [h4, show l ++ 10 :: R = (l ++ [10]) ++ R by simp, List.take_append]
        rw [List.take_of_length_le (by simp)]
        simp
      simp only [ht] at hg ⊢
      have ih := read_cut f R (stampB st (entB e)) e.fDay g (by omega) (by rw [← hr]; simp only [List.length_append, List.length_cons] at hg; omega)
      rw [← hr] at ih
      have hd : (l ++ 10 :: R.take r.2.1).drop (l.length + 1) = R.take r.2.1 := by
        rw [show l ++ 10 :: R.take r.2.1 = (l ++ [10]) ++ R.take r.2.1 by simp]
        exact List.drop_left' (by simp)
      rw [readK]
      simp only [h2 (R.take r.2.1), hd, ih]
theorem rd_cut (s : ByteArray) : rdLog (s.extract 0 (upTo s)) = rdLog s := by
  have hl : (s.extract 0 (upTo s)).data.toList = s.data.toList.take (rdLog s).2.1 := by rw [piece_list]; rfl
  have h := read_cut (s.size + 1) s.data.toList 0 0 ((s.extract 0 (upTo s)).size + 1) (by rw [size_list]; omega) (by
    have := congrArg List.length hl
    rw [size_list] at this
    show (s.data.toList.take (rdLog s).2.1).length < _
    omega)
  unfold rdLog
  rw [hl]
  exact h
theorem read_count : ∀ (f : Nat) (rest : List UInt8) (st day : Int), (readK f rest st day).1.length ≤ rest.count 10
  | 0, _, _, _ => Nat.zero_le _
  | f + 1, rest, st, day => by
    cases hs : stepOf st day rest with
    | none => rw [readK]; simp only [hs]; exact Nat.zero_le _
    | some x =>
      obtain ⟨e, l⟩ := x
      obtain ⟨h1, _⟩ := step_rest hs
      obtain ⟨_, h4⟩ := lineOf_split h1
      have ih := read_count f (rest.drop (l.length + 1)) (stampB st (entB e)) e.fDay
      rw [readK]
      simp only [hs]
      rw [h4, List.count_append, List.count_cons_self]
      rw [← h4]
      simp only [List.length_cons]; omega
theorem count_made : ∀ (l : List Entry) (st : Int), (∀ x ∈ l, x.ok = true) → (mkL st l).count 10 = l.length
  | [], _, _ => rfl
  | x :: l, st, h => by
    rw [mkL, List.count_append, List.count_cons_self, List.count_eq_zero.2 (ln_no rfl _ (h x List.mem_cons_self)), count_made l _ (fun y hy => h y (List.mem_cons_of_mem _ hy)), List.length_cons]; omega
/-- A log cut off at some byte: what is kept, and what it holds. -/
theorem cut_made {l : List Entry} (h : DE l) (hn : l.length ≤ 7) (c : Nat) {p : ByteArray} (hp : p = (lgOf l).2.extract 0 c) :
    mCheck p = ((upTo p : Int), 0) ∧ mRec p = (p.extract 0 (upTo p), (p.size : Int) - upTo p, 0) ∧ upTo p ≤ p.size ∧ lcode (p.extract 0 (upTo p)) = 0 ∧ (ents (p.extract 0 (upTo p))).length ≤ l.length := by
  have hs := h.short hn
  have hpl : p.data.toList = (lgOf l).2.data.toList.take c := by rw [hp, piece_list]; rfl
  have hps : p.size ≤ 560 := by
    have := congrArg List.length hpl
    rw [size_list, List.length_take, size_list] at this; omega
  have hu := (log_props p).1
  have hks : (p.extract 0 (upTo p)).size = upTo p := by
    have := congrArg List.length (piece_list p 0 (upTo p))
    rw [size_list] at this
    simp only [List.drop_zero, List.length_take] at this
    rw [size_list] at this; omega
  have hr := rd_cut p
  have hk : upTo (p.extract 0 (upTo p)) = upTo p := by unfold upTo at hr ⊢; rw [hr]
  refine ⟨by unfold mCheck; rw [if_neg (by omega)], by unfold mRec; rw [if_neg (by omega)], hu, by unfold Go.Proofs.YtgjhibkljpjdhaaDoor.lcode; rw [if_neg (by omega), if_pos (by rw [hk, hks])], ?_⟩
  have h1 : ents (p.extract 0 (upTo p)) = ents p := by unfold ents; rw [hr]
  rw [h1]
  have h2 : (ents p).length ≤ p.data.toList.count 10 := read_count _ _ _ _
  have h3 : p.data.toList.count 10 ≤ (mkL 0 l).count 10 := by
    rw [hpl, lg_list]; exact (List.take_sublist _ _).count_le _
  rw [count_made l 0 h.ok] at h3
  omega
end Go.Proofs.YtgjhibkljpjdhaaDoor
