/- FnHeaps, in plain words: what is put is there, what is taken and what is left, a heap read back. No statement is proved here. -/
import Derived.Test.YtpnbnhhifgcklaaDoorHpO
import Derived.Test.YtpnbnhhifgcklaaDoorHeapD
import Derived.Test.YtpnbnhhifgcklaaDoorHpR
import Derived.Test.YtpnbnhhifgcklaaDoorRdB
namespace Go.Proofs.YtpnbnhhifgcklaaDoor
open Go.ChangeShapes Go.WideShapes Go.ChangeAt Go.RowKit Go.Deep
set_option maxRecDepth 100000
theorem hSum_put (l : List Heap) (x : Heap) : hSum (hPut l x) x.fSort = hSum l x.fSort + x.fBundles := by
  have h := sum_put (bF x.fSort) l x fun y h1 _ => by
    unfold bF
    rw [if_pos rfl, if_pos rfl, if_pos h1]
  unfold hSum
  rw [h]
  unfold bF
  rw [if_pos rfl]
theorem DInv.ok20 {l : List Heap} {j : Nat} (h : DInv l j) (hj : j ≤ 20) : heapsOk l = true := by
  refine ok_of_srt h.srt (fun z hz => ?_) (by have := h.len; omega)
  rw [Heap.ok_iff]
  refine ⟨?_, by have := h.year z hz; omega, by have := h.bun z hz; omega⟩
  rcases h.sort z hz with h | h | h | h <;> rw [h] <;> decide
theorem hSum_bound {l : List Heap} (h : heapsOk l = true) (s : ByteArray) : 0 ≤ hSum l s ∧ hSum l s ≤ 20000 := by
  have h1 := sumOf_bound (f := bF s) (bF_bound h s)
  have h2 := heapsOk_len h
  unfold hSum
  constructor
  · exact h1.1
  · have := h1.2; omega
/-! ### read back -/
theorem name_no32 {s : ByteArray} (h : isName s = true) : ¬ (32 : UInt8) ∈ s.data.toList := by
  intro hc
  obtain ⟨i, hi⟩ := List.mem_iff_getElem?.1 hc
  have hlt : i < s.size := by have := lt_of_get hi; rw [size_list] at this; exact this
  rw [get_list s i hlt] at hi
  have hc' : s[i] = 32 := Option.some.inj hi
  unfold isName at h
  rw [Bool.and_eq_true, List.all_eq_true] at h
  have h1 := h.2 i (List.mem_range.2 hlt)
  have h2 : chAt s i = 32 := by unfold chAt; rw [dif_pos hlt, hc']; rfl
  unfold chOk letB othB at h1
  rw [h2] at h1
  simp only [Bool.or_eq_true, Bool.and_eq_true, inB_true, beq_iff_eq] at h1
  omega
theorem heap_words {x : Heap} (hk : x.ok = true) : words 32 (heapB x) = [x.fSort, decB x.fYear, decB x.fBundles] := by
  obtain ⟨hn, _, _⟩ := Heap.ok_iff.1 hk
  have e : (heapB x).data.toList = x.fSort.data.toList ++ 32 :: (Lib.itoa x.fYear ++ 32 :: Lib.itoa x.fBundles) := by
    unfold heapB
    simp only [Joins.data_append, List.append_assoc, List.cons_append, List.nil_append]
    rfl
  unfold words
  rw [e, spl_to _ _ _ (name_no32 hn), spl_to _ _ _ (fun h => (itoa_chars _ _ h).2 rfl), spl_no _ _ (fun h => (itoa_chars _ _ h).2 rfl)]
  simp only [List.nil_append, List.map_cons, List.map_nil, mk_data]
  rfl
theorem read_back {x : Heap} (hk : x.ok = true) : rhOk (heapB x) = true ∧ rhHeap (heapB x) = x := by
  obtain ⟨_, hy, hb⟩ := Heap.ok_iff.1 hk
  have h1 := rd_itoa (n := x.fYear) (by omega) (by omega)
  have h2 := rd_itoa (n := x.fBundles) (by omega) (by omega)
  have d1 : (decB x.fYear).data.toList = Lib.itoa x.fYear := rfl
  have d2 : (decB x.fBundles).data.toList = Lib.itoa x.fBundles := rfl
  have ho : rhOk (heapB x) = true := by
    rw [rh_three (heap_words hk), d1, d2, h1.1, h1.2, h2.1, h2.2]
    exact hk
  exact ⟨ho, by rw [rh_good (heap_words hk) ho, d1, d2, h1.2, h2.2]⟩
/-! ### what is taken -/
def sameK (y o : Heap) : Prop := y.fSort = o.fSort ∧ y.fYear = o.fYear ∧ 1 ≤ y.fBundles ∧ y.fBundles ≤ o.fBundles
structure TK (l : List Heap) (s : ByteArray) (b : Int) (k : Nat) (L T : List Heap) (z : Int) : Prop where
  oL : ∀ y ∈ L, ∃ o ∈ l.take k, sameK y o
  oT : ∀ y ∈ T, y.fSort = s ∧ ∃ o ∈ l.take k, sameK y o
  sL : Srt L
  sT : Srt T
  sum : hSum L s + sumOf bunF T = hSum (l.take k) s
  all : b = z + sumOf bunF T
  z0 : 0 ≤ z
  none : 0 < z → ∀ y ∈ L, ¬ y.fSort = s
  year : ∀ t ∈ T, ∀ y ∈ L, y.fSort = s → t.fYear ≤ y.fYear
theorem hSum_snoc (l : List Heap) (x : Heap) (s : ByteArray) : hSum (l ++ [x]) s = hSum l s + bF s x := by
  unfold hSum; rw [sumOf_app, sumOf_cons]; simp [sumOf]
theorem bun_snoc (l : List Heap) (x : Heap) : sumOf bunF (l ++ [x]) = sumOf bunF l + x.fBundles := by
  rw [sumOf_app, sumOf_cons]; simp [sumOf, bunF]
theorem old_before {l : List Heap} (h : Srt l) {k : Nat} {x o : Heap} (hx : l[k]? = some x) (ho : o ∈ l.take k) : hLt o x = true := by
  obtain ⟨i, hi⟩ := List.mem_iff_getElem?.1 ho
  have hik := lt_of_get hi
  rw [List.length_take] at hik
  rw [List.getElem?_take, if_pos (by omega)] at hi
  have h1 := List.pairwise_iff_getElem.1 h i k (lt_of_get hi) (lt_of_get hx) (by omega)
  rw [List.getElem?_eq_getElem (lt_of_get hi)] at hi
  rw [List.getElem?_eq_getElem (lt_of_get hx)] at hx
  rw [Option.some.inj hi, Option.some.inj hx] at h1
  exact h1
theorem srt_snoc {L : List Heap} (h : Srt L) {x : Heap} (hx : ∀ y ∈ L, hLt y x = true) : Srt (L ++ [x]) := by
  unfold Srt
  rw [List.pairwise_append]
  exact ⟨h, List.pairwise_singleton _ _, fun a ha b hb => by rw [List.mem_singleton.1 hb]; exact hx a ha⟩
theorem take_mem {l : List Heap} {k : Nat} {x : Heap} (hx : l[k]? = some x) : (∀ o, o ∈ l.take k → o ∈ l.take (k + 1)) ∧ x ∈ l.take (k + 1) := by
  rw [take_snoc hx]
  exact ⟨fun o ho => List.mem_append_left _ ho, List.mem_append_right _ (List.mem_singleton.2 rfl)⟩
theorem TK.step {l : List Heap} {s : ByteArray} {b : Int} {k : Nat} {L T : List Heap} {z : Int} (hs : Srt l) (h1 : ∀ y ∈ l, 1 ≤ y.fBundles) (h : TK l s b k L T z) {x : Heap} (hx : l[k]? = some x) :
    TK l s b (k + 1) (tkStep s x (L, T, z)).1 (tkStep s x (L, T, z)).2.1 (tkStep s x (L, T, z)).2.2 := by
  obtain ⟨m1, m2⟩ := take_mem hx
  have hxb := h1 x (List.mem_of_getElem? hx)
  have keyL : ∀ y ∈ L, ∀ x' : Heap, x'.fSort = x.fSort → x'.fYear = x.fYear → hLt y x' = true := fun y hy x' e1 e2 => by
    obtain ⟨o, ho, k1, k2, _⟩ := h.oL y hy
    rw [hLt_key k1 k2 e1 e2]; exact old_before hs hx ho
  have keyT : ∀ y ∈ T, ∀ x' : Heap, x'.fSort = x.fSort → x'.fYear = x.fYear → hLt y x' = true := fun y hy x' e1 e2 => by
    obtain ⟨o, ho, k1, k2, _⟩ := (h.oT y hy).2
    rw [hLt_key k1 k2 e1 e2]; exact old_before hs hx ho
  have upL : ∀ y ∈ L, ∃ o ∈ l.take (k + 1), sameK y o := fun y hy => by
    obtain ⟨o, ho, e⟩ := h.oL y hy; exact ⟨o, m1 o ho, e⟩
  have upT : ∀ y ∈ T, y.fSort = s ∧ ∃ o ∈ l.take (k + 1), sameK y o := fun y hy => by
    obtain ⟨e1, o, ho, e⟩ := h.oT y hy; exact ⟨e1, o, m1 o ho, e⟩
  have own : ∀ x' : Heap, x'.fSort = x.fSort → x'.fYear = x.fYear → 1 ≤ x'.fBundles → x'.fBundles ≤ x.fBundles → ∃ o ∈ l.take (k + 1), sameK x' o := fun x' e1 e2 e3 e4 => ⟨x, m2, e1, e2, e3, e4⟩
  have hsum : hSum (l.take (k + 1)) s = hSum (l.take k) s + bF s x := by rw [take_snoc hx, hSum_snoc]
  have yT : x.fSort = s → ∀ t ∈ T, t.fYear ≤ x.fYear := fun e t ht => by
    have h2 := keyT t ht x rfl rfl
    rw [hLt_iff] at h2
    rcases h2 with h2 | h2
    · rw [(h.oT t ht).1, e, strLt_irrefl] at h2; cases h2
    · omega
  have memL : ∀ {M : List Heap} {q : Heap} {P : Heap → Prop}, (∀ y ∈ M, P y) → P q → ∀ y ∈ M ++ [q], P y := fun hM hq y hy => by
    rcases List.mem_append.1 hy with e | e
    · exact hM y e
    · rw [List.mem_singleton.1 e]; exact hq
  have hsm := h.sum
  have hal := h.all
  have hz := h.z0
  by_cases he : x.fSort = s
  · have hbx : bF s x = x.fBundles := if_pos he
    by_cases h0 : z = 0
    · subst h0
      rw [tk_b he]
      show TK l s b (k + 1) (L ++ [x]) T 0
      refine ⟨memL upL (own x rfl rfl hxb (Int.le_refl _)), upT, srt_snoc h.sL (fun y hy => keyL y hy x rfl rfl), h.sT, by rw [hSum_snoc, hsum]; omega, hal, Int.le_refl _, fun e => absurd e (Int.lt_irrefl 0), fun t ht => memL (fun y hy => h.year t ht y hy) (fun _ => yT he t ht)⟩
    · by_cases h2 : x.fBundles ≤ z
      · rw [tk_c he (by omega) h2]
        show TK l s b (k + 1) L (T ++ [x]) (z - x.fBundles)
        refine ⟨upL, memL upT ⟨he, own x rfl rfl hxb (Int.le_refl _)⟩, h.sL, srt_snoc h.sT (fun y hy => keyT y hy x rfl rfl), by rw [hsum, bun_snoc]; omega, by rw [bun_snoc]; show b = z - x.fBundles + _; omega, by show 0 ≤ z - x.fBundles; omega, fun _ => h.none (by omega), ?_⟩
        exact memL (P := fun t => ∀ y ∈ L, y.fSort = s → t.fYear ≤ y.fYear) h.year (fun y hy e => absurd e (h.none (by omega) y hy))
      · rw [tk_d he (by omega) (by omega)]
        show TK l s b (k + 1) (L ++ [⟨x.fSort, x.fYear, x.fBundles - z⟩]) (T ++ [⟨x.fSort, x.fYear, z⟩]) 0
        refine ⟨memL upL (own _ rfl rfl (by show 1 ≤ x.fBundles - z; omega) (by show x.fBundles - z ≤ x.fBundles; omega)), memL upT ⟨he, own _ rfl rfl (by show 1 ≤ z; omega) (by show z ≤ x.fBundles; omega)⟩, srt_snoc h.sL (fun y hy => keyL y hy _ rfl rfl), srt_snoc h.sT (fun y hy => keyT y hy _ rfl rfl), ?_, ?_, Int.le_refl _, fun e => absurd e (Int.lt_irrefl 0), ?_⟩
        · rw [hSum_snoc, hsum, bun_snoc, hbx]
          have : bF s ⟨x.fSort, x.fYear, x.fBundles - z⟩ = x.fBundles - z := if_pos he
          rw [this]
          show hSum L s + (x.fBundles - z) + (sumOf bunF T + z) = _
          omega
        · rw [bun_snoc]; show b = 0 + (sumOf bunF T + z); omega
        · exact memL (P := fun t => ∀ y ∈ L ++ [(⟨x.fSort, x.fYear, x.fBundles - z⟩ : Heap)], y.fSort = s → t.fYear ≤ y.fYear) (fun t ht => memL (fun y hy => h.year t ht y hy) (fun _ => yT he t ht)) (memL (fun y hy e => absurd e (h.none (by omega) y hy)) (fun _ => Int.le_refl _))
  · rw [tk_a he]
    show TK l s b (k + 1) (L ++ [x]) T z
    have hbx : bF s x = 0 := if_neg he
    exact ⟨memL upL (own x rfl rfl hxb (Int.le_refl _)), upT, srt_snoc h.sL (fun y hy => keyL y hy x rfl rfl), h.sT, by rw [hSum_snoc, hsum]; omega, hal, hz, fun e => memL (h.none e) he, fun t ht => memL (fun y hy => h.year t ht y hy) (fun e => absurd e he)⟩
theorem tk_all {l : List Heap} {s : ByteArray} {b : Int} (hs : Srt l) (h1 : ∀ y ∈ l, 1 ≤ y.fBundles) (hb : 0 ≤ b) (k : Nat) (hk : k ≤ l.length) : TK l s b k (tkTo l s b k).1 (tkTo l s b k).2.1 (tkTo l s b k).2.2 := by
  induction k with
  | zero =>
    show TK l s b 0 [] [] b
    refine TK.mk ?_ ?_ List.Pairwise.nil List.Pairwise.nil rfl ?_ hb ?_ ?_
    · intro y hy; cases hy
    · intro y hy; cases hy
    · simp [sumOf]
    · intro _ y hy; cases hy
    · intro t ht; cases ht
  | succ k ih =>
    have hx : l[k]? = some l[k] := List.getElem?_eq_getElem (by omega)
    have := (ih (by omega)).step hs h1 hx
    rw [tkTo_step hx rfl]
    exact this
def oldO (l : List Heap) (s : ByteArray) : Option Heap := l.find? fun x => decide (x.fSort = s)
theorem hSum_zero {l : List Heap} {s : ByteArray} (h1 : ∀ y ∈ l, 1 ≤ y.fBundles) : hSum l s = 0 ↔ oldO l s = none := by
  unfold oldO
  rw [List.find?_eq_none]
  induction l with
  | nil => simp [hSum, sumOf]
  | cons a l ih =>
    have ih2 := ih fun y hy => h1 y (List.mem_cons_of_mem _ hy)
    have ha := h1 a List.mem_cons_self
    have hnn : 0 ≤ hSum l s := by
      unfold hSum
      clear ih ih2
      induction l with
      | nil => exact Int.le_refl _
      | cons c l ih =>
        rw [sumOf_cons]
        have := ih (fun y hy => h1 y (by rcases List.mem_cons.1 hy with e | e; rw [e]; exact List.mem_cons_self; exact List.mem_cons_of_mem _ (List.mem_cons_of_mem _ e)))
        have hc := h1 c (List.mem_cons_of_mem _ List.mem_cons_self)
        have : 0 ≤ bF s c := by unfold bF; split <;> omega
        omega
    have e : hSum (a :: l) s = bF s a + hSum l s := sumOf_cons _ _ _
    rw [e]
    constructor
    · intro h
      have hba : bF s a = 0 := by
        have : 0 ≤ bF s a := by unfold bF; split <;> omega
        omega
      have hne : ¬ a.fSort = s := fun he => by unfold bF at hba; rw [if_pos he] at hba; omega
      intro y hy
      rcases List.mem_cons.1 hy with e | e
      · rw [e]; simp [hne]
      · exact ih2.1 (by omega) y e
    · intro h
      have hne : ¬ a.fSort = s := by have := h a List.mem_cons_self; simpa using this
      have : bF s a = 0 := if_neg hne
      rw [ih2.2 (fun y hy => h y (List.mem_cons_of_mem _ hy)), this]; rfl
/-- What the law asks of what is taken. -/
theorem take_plain {l : List Heap} {s : ByteArray} {b : Int} {j : Nat} (hd : DInv l j) (hj : j ≤ 20) (hs : isName s = true) (hb : 1 ≤ b ∧ b ≤ 20000) (hp : 1 ≤ hSum l s) :
    (hSum l s < b → mTkC l s b = 5) ∧ (¬ hSum l s < b → mTkC l s b = 0 ∧ heapsOk (mTkL l s b) = true ∧ heapsOk (mTkT l s b) = true ∧ hSum (mTkL l s b) s = hSum l s - b ∧ (∀ t ∈ mTkT l s b, t.fSort = s) ∧ sumOf bunF (mTkT l s b) = b ∧ 0 < (mTkT l s b).length ∧
      (∀ t ∈ mTkT l s b, 1 ≤ t.fBundles ∧ t.fBundles ≤ 1000) ∧ (hSum l s - b = 0 → oldO (mTkL l s b) s = none) ∧ (¬ hSum l s - b = 0 → ∃ y, oldO (mTkL l s b) s = some y ∧ ∀ t ∈ mTkT l s b, t.fYear ≤ y.fYear)) := by
  have hok := hd.ok20 hj
  have ha : tkArgs s b = true := by unfold tkArgs; rw [hs, inB_true.2 hb]; rfl
  have hc : mTkC l s b = if hSum l s < b then 5 else 0 := by
    unfold mTkC; rw [if_pos hok, if_pos ha, if_neg (by omega)]
  refine ⟨fun h => by rw [hc, if_pos h], fun h => ?_⟩
  have hc0 : mTkC l s b = 0 := by rw [hc, if_neg h]
  have h1 : ∀ y ∈ l, 1 ≤ y.fBundles := fun y hy => (hd.bun y hy).1
  have tk := tk_all (s := s) hd.srt h1 (by omega : 0 ≤ b) l.length (Nat.le_refl _)
  have eL : mTkL l s b = (tkTo l s b l.length).1 := by unfold mTkL; rw [if_pos hc0]
  have eT : mTkT l s b = (tkTo l s b l.length).2.1 := by unfold mTkT; rw [if_pos hc0]
  have hlen := tkTo_len l s b l.length
  rw [← eL, ← eT] at tk
  rw [← eL, ← eT] at hlen
  generalize (tkTo l s b l.length).2.2 = z at tk
  have hll := heapsOk_len hok
  have okOf : ∀ y o : Heap, o ∈ l.take l.length → sameK y o → y.ok = true := fun y o ho e => by
    have ho2 : o.ok = true := by
      have hm := List.mem_of_mem_take ho
      unfold heapsOk at hok
      rw [Bool.and_eq_true] at hok
      obtain ⟨i, hi⟩ := List.mem_iff_getElem?.1 hm
      exact heapPair_ok hok.1 (lt_of_get hi) hi
    rw [Heap.ok_iff] at ho2 ⊢
    obtain ⟨e1, e2, e3, e4⟩ := e
    rw [e1, e2]
    exact ⟨ho2.1, ho2.2.1, e3, by omega⟩
  have okL : ∀ y ∈ mTkL l s b, y.ok = true := fun y hy => by obtain ⟨o, ho, e⟩ := tk.oL y hy; exact okOf y o ho e
  have okT : ∀ y ∈ mTkT l s b, y.ok = true := fun y hy => by obtain ⟨_, o, ho, e⟩ := tk.oT y hy; exact okOf y o ho e
  have hz : z = 0 := by
    have h0 := tk.z0
    by_cases hz : z = 0
    · exact hz
    · exfalso
      have hn := tk.none (by omega)
      have hl0 : hSum (mTkL l s b) s = 0 := by
        rw [hSum_zero (fun y hy => ((Heap.ok_iff.1 (okL y hy)).2.2).1)]
        unfold oldO
        rw [List.find?_eq_none]
        intro y hy
        simp [hn y hy]
      have := tk.sum
      have := tk.all
      rw [List.take_length] at *
      omega
  subst hz
  have hall := tk.all
  have hsum := tk.sum
  rw [List.take_length] at hsum
  refine ⟨hc0, ok_of_srt tk.sL okL (by omega), ok_of_srt tk.sT okT (by omega), by omega, fun t ht => (tk.oT t ht).1, by omega, ?_, fun t ht => by have := (Heap.ok_iff.1 (okT t ht)).2.2; omega, fun h0 => ?_, fun h0 => ?_⟩
  · cases hT : mTkT l s b with
    | nil => rw [hT] at hall; simp [sumOf] at hall; omega
    | cons a t => simp
  · exact (hSum_zero (fun y hy => ((Heap.ok_iff.1 (okL y hy)).2.2).1)).1 (by omega)
  · cases ho : oldO (mTkL l s b) s with
    | none =>
      have := (hSum_zero (s := s) (fun y hy => ((Heap.ok_iff.1 (okL y hy)).2.2).1)).2 ho
      omega
    | some y =>
      unfold oldO at ho
      exact ⟨y, rfl, fun t ht => tk.year t ht y (List.mem_of_find?_eq_some ho) (by have := List.find?_some ho; simpa using this)⟩
end Go.Proofs.YtpnbnhhifgcklaaDoor
