/- Contract of the laws' markText: some text that depends on the number alone. -/
import Derived.Test.YtceajnoppdfeaaaGreatDoorKit
namespace Go.Proofs.YtceajnoppdfeaaaGreatDoor
open Go.ChangeShapes Go.WideShapes Go.ChangeAt Go.RowKit Go.Deep
/-- The digits of k in front of out. -/
def digs : Nat → Nat → List UInt8 → List UInt8
  | 0, _, out => out
  | f + 1, k, out => if k = 0 then out else digs f (k / 10) (UInt8.ofNat (48 + k % 10) :: out)
def markS (k : Int) : ByteArray := if k ≤ 0 then ⟨#[109, 48]⟩ else ⟨(109 :: digs 20 k.toNat []).toArray⟩
theorem conv_one (w : World) (v : Int) :
    Sem.run Tryz.prog (convert 95 9 (.slice (some ⟨w.heap.size, 0, none⟩) 1 1)) (w.alloc (.cells #[.int .u8 v] 5)) = .ok (.string ⟨#[UInt8.ofNat v.toNat]⟩) (w.alloc (.cells #[.int .u8 v] 5)) := by
  rw [run_convert_bytes_string _ _ _ _ _ _ _ Tryz.underlying95 Tryz.underlying5 Tryz.underlying9]
  have h := run_loadCells_list (P := Tryz.prog) (w := w.alloc (.cells #[.int .u8 v] 5)) ⟨w.heap.size, 0, none⟩ [.int .u8 v] (by
    intro j u hu
    have hj : j = 0 := by have := lt_of_get hu; simpa using this
    subst hj
    rw [Addr.add_lit, cell_of_row _ _ _ _ _ _ (heap_alloc_new w _)]
    simpa using hu)
  exact run_bytesToString (P := Tryz.prog) (w.alloc (.cells #[.int .u8 v] 5)) ⟨w.heap.size, 0, none⟩ 1 1 [v] (by simpa using h)
theorem str_mk_append (a b : List UInt8) : (⟨a.toArray⟩ : ByteArray) ++ ⟨b.toArray⟩ = ⟨(a ++ b).toArray⟩ := by
  apply toList_inj
  rw [ByteArray.toList_eq, ByteArray.toList_eq]
  simp
theorem digs_step {f x : Nat} {out : List UInt8} (h : 0 < x) : digs (f + 1) x out = digs f (x / 10) (UInt8.ofNat (48 + x % 10) :: out) := by
  rw [digs, if_neg (by omega)]
theorem digs_zero (f : Nat) (out : List UInt8) : digs f 0 out = out := by cases f <;> simp [digs]
theorem pow_le_15 {x f : Nat} (h : x < 10 ^ f) (hf : f ≤ 15) : x < 1000000000000000 := Nat.lt_of_lt_of_le h (Nat.le_trans (Nat.pow_le_pow_right (by omega) hf) (by decide))
end Go.Proofs.YtceajnoppdfeaaaGreatDoor
