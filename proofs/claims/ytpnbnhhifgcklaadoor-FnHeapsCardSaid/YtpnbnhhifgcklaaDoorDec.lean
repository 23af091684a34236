/- Contracts: a number as a text, the program's and the reference's. -/
import Derived.Test.YtpnbnhhifgcklaaDoorDig
import Derived.Test.YtpnbnhhifgcklaaDoorDoor
import Derived.Test.YtpnbnhhifgcklaaDoorApp
import Derived.Test.YtpnbnhhifgcklaaDoorShelf
import Derived.Lib.AppendIntMem
import Derived.Laws.BytesString
namespace Go.Proofs.YtpnbnhhifgcklaaDoor
open Go.ChangeShapes Go.WideShapes Go.ChangeAt Go.RowKit Go.Deep
set_option maxRecDepth 100000
theorem iDec_any (n : Int) (w : World) (h0 : -9223372036854775808 ≤ n) (h1 : n ≤ 9223372036854775807) (hG : Gl w) :
    Calls Tryd.prog 28 #[.int .i64 n] w fun e w' => e = .returned (.string (decB n)) ∧ Below w.heap.size w w' := by
  have hT := hide hG.1
  clear hG
  go_enter Tryd.func28, Tryd.ntmps28
  go_wp2_with (go_at_call 42; refine (Tryd.strconv_FormatInt_10 n h0 h1 _ hT.out).mono ?_; rintro e w' ⟨rfl, k, os, rfl⟩)
  go_ret
  exact ⟨rfl, Lib.below_grow _ _ (Nat.le_refl _) _ _⟩
theorem info_u8 : (Tryd.prog.info? 5).map (fun i => (i.zero, i.size, i.bytes)) = some (some (.int .u8 0), 1, 1) := by kernel_rfl
theorem u8c_len (x : Int) : (u8c x).length = 1 := rfl
theorem u8c_one : ∀ x, ∀ u ∈ u8c x, u.oneCell' = true := by intro x u hu; simp [u8c] at hu; subst hu; rfl
def bI (l : List UInt8) : List Int := l.map fun c => (c.toNat : Int)
theorem Own.lit {α : Type} {cells : α → List Value} {e s : Nat} (w : World) {base : Nat} (hb : base ≤ w.heap.size) (x : α) (cur : Array Value) (hc : cur.toList = cells x) (hs : (cells x).length = s) :
    Own cells e s (w.alloc (.cells cur e)) base (.slice (some ⟨w.heap.size, 0, none⟩) 1 1) 1 [x] := by
  have hl : cur.size = 1 * s := by rw [← Array.length_toList, hc, hs, Nat.one_mul]
  refine ⟨rfl, by simp [hs], .inr ⟨w.heap.size, 1, cur, rfl, hb, heap_alloc_new w _, Nat.le_refl _, by unfold maxLen; omega, hl, ?_⟩⟩
  rw [hc, List.take_of_length_le (by simp [hs])]; simp
theorem dec_append (a b : List UInt8) : (⟨a.toArray⟩ : ByteArray) ++ ⟨b.toArray⟩ = ⟨(a ++ b).toArray⟩ := by
  apply toList_inj
  rw [ByteArray.toList_eq, ByteArray.toList_eq]
  simp
def DecInv (w : World) (n : Int) (sg : Int) (v k : Value) (wr : World) : Prop :=
  ∃ (x f : Nat) (l : List UInt8), k = .int .i64 (sg * x) ∧ Own u8c 5 1 wr w.heap.size v l.length (bI l) ∧ x < 10 ^ f ∧ l.length + f ≤ 20 ∧ x ≤ 9223372036854775808 ∧ Hid (dgs f x l = dgs 20 n.natAbs []) ∧ Below w.heap.size w wr
theorem dig_byte (x : Nat) : IntKind.u8.wrap (48 + ((x % 10 : Nat) : Int)) = ((UInt8.ofNat (48 + x % 10)).toNat : Int) := by
  rw [UInt8.toNat_ofNat']
  have : x % 10 < 10 := Nat.mod_lt _ (by omega)
  generalize x % 10 = d at *
  simp [IntKind.wrap_u8]
theorem bI_get (l : List UInt8) (j : Nat) (hj : j < l.length) : (bI l)[j]? = some ((l[j].toNat : Nat) : Int) := by unfold bI; rw [List.getElem?_map, List.getElem?_eq_getElem hj]; rfl
theorem conv_own {w : World} {base n c : Nat} {A : Option Addr} {l : List UInt8} (h : Own u8c 5 1 w base (.slice A n c) n (bI l)) :
    Sem.run Tryd.prog (convert 22 9 (.slice A n c)) w = .ok (.string ⟨l.toArray⟩) w := by
  have hn : l.length = n := by have := h.len; simpa [bI] using this
  subst hn
  rcases h.form with ⟨hv, h0, _⟩ | ⟨g, cap, hv, _, _, _, _⟩
  · injection hv with h1 h2 h3
    subst h1
    have hl : l = [] := List.eq_nil_of_length_eq_zero h0
    subst hl
    exact run_convert_bytes_nil w _ _ Tryd.underlying22 Tryd.underlying5 _ _ _ Tryd.underlying9
  · injection hv with h1 h2 h3
    subst h1
    refine run_convert_bytes_back w _ _ 5 ⟨g, 0, none⟩ c l Tryd.underlying22 Tryd.underlying5 Tryd.underlying9 (fun j hj => ?_)
    obtain ⟨b, o, x, hA, _, hx, hc⟩ := (h.arr u8c_len).u8 (k := j) hj
    injection hA with hA
    injection hA with h4 h5
    subst h4 h5
    rw [Addr.add_lit, hc]
    rw [bI_get l j hj] at hx
    injection hx with hx
    rw [hx]
theorem dec_end {n : Int} {f : Nat} {l : List UInt8} (h : dgs f 0 l = dgs 20 n.natAbs []) (hn : n.natAbs ≤ 9223372036854775808) : (l = [] ∧ n = 0) ∨ (l ≠ [] ∧ l = Lib.decDigits n.natAbs) := by
  rw [dgs_zero] at h
  rcases Nat.eq_zero_or_pos n.natAbs with h0 | h0
  · left; rw [h0, dgs_zero] at h; exact ⟨h, by omega⟩
  · right
    rw [dgs_dec 20 _ [] (by omega) h0, List.append_nil] at h
    refine ⟨?_, h⟩
    rw [h]
    obtain ⟨c, r, e, _⟩ := decDigits_cons n.natAbs
    rw [e]; simp
theorem bI_cons (c : UInt8) (l : List UInt8) : bI (c :: l) = (c.toNat : Int) :: bI l := rfl
end Go.Proofs.YtpnbnhhifgcklaaDoor
