/- slices.Compact and slices.Sort at []string, of a row that the call owns: the shelf's contracts in these texts' own words. -/
import Derived.Test.YtpnbnhhifgcklaaDoorApp
import Derived.Test.YtpnbnhhifgcklaaDoorShelf
import Derived.Lib.OwnBridge
import Derived.Sort.OwnSorted
namespace Go.Proofs.YtpnbnhhifgcklaaDoor
open Go.ChangeShapes Go.WideShapes Go.ChangeAt Go.RowKit Go.Deep Go.Sort
set_option maxRecDepth 100000
theorem flat_strc (l : List ByteArray) : l.flatMap strc = l.map Value.string := by
  induction l with
  | nil => rfl
  | cons a l ih => rw [List.flatMap_cons, ih]; rfl
def toBytes (l : List ByteArray) : List (List UInt8) := l.map (·.data.toList)
def ofBytes (l : List (List UInt8)) : List ByteArray := l.map fun b => ⟨b.toArray⟩
theorem toBytes_len (l : List ByteArray) : (toBytes l).length = l.length := by simp [toBytes]
theorem ofBytes_len (l : List (List UInt8)) : (ofBytes l).length = l.length := by simp [ofBytes]
theorem enc_ofBytes (l : List (List UInt8)) : l.map encStr = (ofBytes l).map Value.string := by
  unfold ofBytes
  rw [List.map_map]
  apply List.map_congr_left
  intro x _
  rfl
theorem enc_toBytes (l : List ByteArray) : (toBytes l).map encStr = l.map Value.string := Lib.map_encStr l
theorem Own.enc {e : TypeId} {w : World} {base n : Nat} {v : Value} {l : List ByteArray} (h : Own strc e 1 w base v n l) : w.ownsRow base e 1 v n ((toBytes l).map encStr) := by
  have := h.2
  rwa [flat_strc, ← enc_toBytes] at this
theorem Own.of_enc {e : TypeId} {w : World} {base n : Nat} {v : Value} {l : List (List UInt8)} (h : w.ownsRow base e 1 v n (l.map encStr)) : Own strc e 1 w base v n (ofBytes l) := by
  refine ⟨?_, ?_⟩
  · rw [ofBytes_len]; have := h.1; simpa using this
  · rw [flat_strc, ← enc_ofBytes]; exact h
theorem grownBy_putRow {w : World} {g q : Nat} (d : Array (List UInt8)) : w.grownBy (putRow encStr (Sort.ahead w q) g 0 d) (some g) := by
  refine ⟨rfl, rfl, rfl, by simp [putRow, mapBlock, Sort.ahead], fun k hk hne => ?_⟩
  have : g ≠ k := fun e => hne (by rw [e])
  simp [putRow, mapBlock, Sort.ahead, Array.getElem?_modify, this]
def dedup (l : List ByteArray) : List ByteArray := ofBytes (Lib.compact (toBytes l))
theorem dedup_len (l : List ByteArray) : (dedup l).length ≤ l.length := by
  unfold dedup
  rw [ofBytes_len]
  have := Lib.compact_length_le (toBytes l)
  rwa [toBytes_len] at this
def ddTo (ss : List ByteArray) (k : Nat) : List ByteArray := ofBytes (Lib.compactUpTo (toBytes ss).toArray k)
theorem ddTo_zero (ss : List ByteArray) : ddTo ss 0 = [] := by simp [ddTo, Lib.compactUpTo, ofBytes]
theorem ddTo_all (ss : List ByteArray) {n : Nat} (h : ss.length = n) : ddTo ss n = dedup ss := by
  unfold ddTo dedup Lib.compact
  rw [toBytes_len, h]
theorem toBytes_at {ss : List ByteArray} {k : Nat} {x : ByteArray} (h : ss[k]? = some x) : (toBytes ss).toArray[k]! = x.data.toList := by
  have hk := lt_of_get h
  rw [getElem!_pos _ k (by simpa [toBytes] using hk)]
  obtain ⟨_, rfl⟩ := List.getElem?_eq_some_iff.1 h
  simp [toBytes]
theorem of_data (x : ByteArray) : (⟨x.data.toList.toArray⟩ : ByteArray) = x := by
  obtain ⟨⟨l⟩⟩ := x
  rfl
theorem data_inj {x y : ByteArray} (h : x.data.toList = y.data.toList) : x = y := by rw [← of_data x, h, of_data]
theorem ddTo_first {ss : List ByteArray} {x : ByteArray} (h : ss[0]? = some x) : ddTo ss 1 = ddTo ss 0 ++ [x] := by
  unfold ddTo
  rw [Lib.compactUpTo_succ, if_pos (Lib.keeps_lt_one _ 0 (by omega)), toBytes_at h]
  simp [ofBytes]
theorem ddTo_new {ss : List ByteArray} {k : Nat} {x y : ByteArray} (h : ss[k]? = some x) (h' : ss[k - 1]? = some y) (hne : ¬ y = x) : ddTo ss (k + 1) = ddTo ss k ++ [x] := by
  unfold ddTo
  rw [Lib.compactUpTo_succ, if_pos (Lib.keeps_pos (by rw [toBytes_at h, toBytes_at h']; exact fun e => hne (data_inj e).symm)), toBytes_at h]
  simp [ofBytes]
theorem ddTo_old {ss : List ByteArray} {k : Nat} {x y : ByteArray} (hk : 0 < k) (h : ss[k]? = some x) (h' : ss[k - 1]? = some y) (he : y = x) : ddTo ss (k + 1) = ddTo ss k := by
  unfold ddTo
  rw [Lib.compactUpTo_succ, Lib.keeps_neg hk (by rw [toBytes_at h, toBytes_at h', he])]
  simp
theorem ddTo_len (ss : List ByteArray) (k : Nat) : (ddTo ss k).length ≤ k := by
  unfold ddTo Lib.compactUpTo
  rw [ofBytes_len, List.length_map]
  have := List.length_filter_le (Lib.keeps (toBytes ss).toArray) (List.range k)
  simpa using this
def sortB (l : List ByteArray) : List ByteArray := ofBytes ((toBytes l).mergeSort fun x y => decide (x ≤ y))
theorem sortB_nil : sortB [] = [] := by simp [sortB, toBytes, ofBytes]
theorem sortB_len (l : List ByteArray) : (sortB l).length = l.length := by
  unfold sortB
  rw [ofBytes_len, List.length_mergeSort, toBytes_len]
end Go.Proofs.YtpnbnhhifgcklaaDoor
