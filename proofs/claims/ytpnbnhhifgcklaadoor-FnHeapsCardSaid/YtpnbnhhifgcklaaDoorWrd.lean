/- Contracts: a text cut at a byte, the reference's way and the library's. -/
import Derived.Test.YtpnbnhhifgcklaaDoorDec
namespace Go.Proofs.YtpnbnhhifgcklaaDoor
open Go.ChangeShapes Go.WideShapes Go.ChangeAt Go.RowKit Go.Deep
set_option maxRecDepth 100000
theorem info_str : (Tryd.prog.info? 9).map (fun i => (i.zero, i.size, i.bytes)) = some (some (.string ByteArray.empty), 1, 16) := by kernel_rfl
theorem Own.lits {α : Type} {cells : α → List Value} {e s : Nat} (w : World) {base : Nat} (hb : base ≤ w.heap.size) (l : List α) (cur : Array Value) (hc : cur.toList = l.flatMap cells) (hs : ∀ x, (cells x).length = s) (hm : l.length ≤ maxLen) :
    Own cells e s (w.alloc (.cells cur e)) base (.slice (some ⟨w.heap.size, 0, none⟩) l.length l.length) l.length l := by
  have hl : cur.size = l.length * s := by rw [← Array.length_toList, hc, flat_len hs]
  refine ⟨rfl, by rw [flat_len hs], .inr ⟨w.heap.size, l.length, cur, rfl, hb, heap_alloc_new w _, Nat.le_refl _, hm, hl, ?_⟩⟩
  rw [hc, List.take_of_length_le (by rw [flat_len hs]; exact Nat.le_refl _)]
theorem flat_strc (l : List ByteArray) : l.flatMap strc = l.map Value.string := by
  induction l with
  | nil => rfl
  | cons a l ih => rw [List.flatMap_cons, ih]; rfl
theorem words_le (c : UInt8) (s : ByteArray) : (words c s).length ≤ s.size + 1 := by
  rw [words_len]
  have := Lib.countB_le ⟨#[c]⟩ (by simp [ByteArray.size]) s.size s (Nat.le_refl _)
  omega
theorem iSplit_any (c : UInt8) (s : ByteArray) (w : World) (hs : s.size ≤ 1048576) (hG : Gl w) :
    Calls Tryd.prog 26 #[.string s, .string ⟨#[c]⟩] w fun e w' => ∃ v, e = .returned v ∧ Own strc 9 1 w' w.heap.size v (words c s).length (words c s) ∧ Below w.heap.size w w' := by
  refine (Tryd.strings_Split_shaped s ⟨#[c]⟩ w hG.2 (by omega) (by simp [ByteArray.size])).mono ?_
  rintro e w' ⟨rfl, rfl⟩
  rw [splitB_words, ← words_len]
  have hm : (words c s).length ≤ maxLen := by have := words_le c s; unfold maxLen; omega
  exact ⟨_, rfl, Own.lits w (Nat.le_refl _) (words c s) _ (by rw [flat_strc]) strc_len hm, (Below.refl _ _).alloc (Nat.le_refl _) _⟩
theorem piece_list (s : ByteArray) (a b : Nat) : (s.extract a b).data.toList = (s.data.toList.take b).drop a := by
  rw [Lib.extract_data, List.drop_take]
def mkB (l : List UInt8) : ByteArray := ⟨l.toArray⟩
theorem mkB_piece (s : ByteArray) (a b : Nat) : mkB ((s.data.toList.take b).drop a) = s.extract a b := by
  rw [← piece_list]; exact mk_data _
theorem drop_at {s : ByteArray} {k : Nat} (h : k < s.size) : s.data.toList.drop k = s[k] :: s.data.toList.drop (k + 1) := by
  rw [List.drop_eq_getElem_cons (by rw [Array.length_toList]; exact h)]; rfl
theorem piece_grow {s : ByteArray} {a k : Nat} (ha : a ≤ k) (h : k < s.size) : (s.data.toList.take k).drop a ++ [s[k]] = (s.data.toList.take (k + 1)).drop a := by
  have hl : s.data.toList.length = s.size := by rw [Array.length_toList]; rfl
  have hx : s.data.toList[k]? = some s[k] := by rw [List.getElem?_eq_getElem (by omega)]; rfl
  rw [take_snoc hx, List.drop_append_of_le_length (by rw [List.length_take]; omega)]
def SplInv (c : UInt8) (s : ByteArray) (done : List ByteArray) (fr k : Nat) : Prop := words c s = done ++ (spl c ((s.data.toList.take k).drop fr) (s.data.toList.drop k)).map mkB
theorem spl_start (c : UInt8) (s : ByteArray) : SplInv c s [] 0 0 := by unfold SplInv words; rw [List.take_zero, List.drop_zero, List.nil_append]; rfl
theorem spl_hit {c : UInt8} {s : ByteArray} {done : List ByteArray} {fr k : Nat} (h : SplInv c s done fr k) (hk : k < s.size) (hc : s[k] = c) : SplInv c s (done ++ [s.extract fr k]) (k + 1) (k + 1) := by
  unfold SplInv at h ⊢
  rw [drop_at hk, spl, if_pos hc, List.map_cons, mkB_piece] at h
  have hz : (s.data.toList.take (k + 1)).drop (k + 1) = [] := List.drop_eq_nil_of_le (by rw [List.length_take]; omega)
  rw [h, List.append_assoc, hz]; rfl
theorem spl_miss {c : UInt8} {s : ByteArray} {done : List ByteArray} {fr k : Nat} (h : SplInv c s done fr k) (hf : fr ≤ k) (hk : k < s.size) (hc : ¬ s[k] = c) : SplInv c s done fr (k + 1) := by
  unfold SplInv at h ⊢
  rw [drop_at hk, spl, if_neg hc, piece_grow hf hk] at h
  exact h
theorem spl_end {c : UInt8} {s : ByteArray} {done : List ByteArray} {fr : Nat} (h : SplInv c s done fr s.size) : words c s = done ++ [s.extract fr s.size] := by
  unfold SplInv at h
  have hl : s.data.toList.length = s.size := by rw [Array.length_toList]; rfl
  have hz : s.data.toList.drop s.size = [] := List.drop_eq_nil_of_le (by omega)
  rw [hz, spl, List.map_cons, List.map_nil, mkB_piece] at h
  exact h
end Go.Proofs.YtpnbnhhifgcklaaDoor
