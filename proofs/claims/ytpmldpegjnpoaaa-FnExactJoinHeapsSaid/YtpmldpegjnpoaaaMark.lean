/- Contract of the laws' markText: some text that depends on the number alone. -/
import Derived.Test.YtpmldpegjnpoaaaKit
namespace Go.Proofs.Ytpmldpegjnpoaaa
open Go.ChangeShapes Go.WideShapes Go.ChangeAt Go.RowKit Go.Deep
/-- The digits of k in front of out. -/
def digs : Nat → Nat → List UInt8 → List UInt8
  | 0, _, out => out
  | f + 1, k, out => if k = 0 then out else digs f (k / 10) (UInt8.ofNat (48 + k % 10) :: out)
def markS (k : Int) : ByteArray := if k ≤ 0 then ⟨#[109, 48]⟩ else ⟨(109 :: digs 20 k.toNat []).toArray⟩
theorem conv_one (w : World) (v : Int) :
    Sem.run Try.prog (convert 38 9 (.slice (some ⟨w.heap.size, 0, none⟩) 1 1)) (w.alloc (.cells #[.int .u8 v] 5)) = .ok (.string ⟨#[UInt8.ofNat v.toNat]⟩) (w.alloc (.cells #[.int .u8 v] 5)) := by
  rw [run_convert_bytes_string _ _ _ _ _ _ _ Try.underlying38 Try.underlying5 Try.underlying9]
  have h := run_loadCells_list (P := Try.prog) (w := w.alloc (.cells #[.int .u8 v] 5)) ⟨w.heap.size, 0, none⟩ [.int .u8 v] (by
    intro j u hu
    have hj : j = 0 := by have := lt_of_get hu; simpa using this
    subst hj
    rw [Addr.add_lit, cell_of_row _ _ _ _ _ _ (heap_alloc_new w _)]
    simpa using hu)
  exact run_bytesToString (P := Try.prog) (w.alloc (.cells #[.int .u8 v] 5)) ⟨w.heap.size, 0, none⟩ 1 1 [v] (by simpa using h)
theorem str_mk_append (a b : List UInt8) : (⟨a.toArray⟩ : ByteArray) ++ ⟨b.toArray⟩ = ⟨(a ++ b).toArray⟩ := by
  apply toList_inj
  rw [ByteArray.toList_eq, ByteArray.toList_eq]
  simp
theorem digs_step {f x : Nat} {out : List UInt8} (h : 0 < x) : digs (f + 1) x out = digs f (x / 10) (UInt8.ofNat (48 + x % 10) :: out) := by
  rw [digs, if_neg (by omega)]
theorem digs_zero (f : Nat) (out : List UInt8) : digs f 0 out = out := by cases f <;> simp [digs]
theorem pow_le_15 {x f : Nat} (h : x < 10 ^ f) (hf : f ≤ 15) : x < 1000000000000000 := Nat.lt_of_lt_of_le h (Nat.le_trans (Nat.pow_le_pow_right (by omega) hf) (by decide))
set_option maxRecDepth 100000 in
set_option maxHeartbeats 400000 in
theorem markText_any (k : Int) (w : World) (h : k < 1000000000000000) :
    Calls Try.prog 32 #[.int .i64 k] w fun e w' => e = .returned (.string (markS k)) ∧ Below w.heap.size w w' := by
  by_cases h0 : k ≤ 0
  · have hm : Hid (markS k = ⟨#[109, 48]⟩) := hide (if_pos h0)
    go_enter Try.func32, Try.ntmps32
    go_wp2
    go_ret; exact ⟨by rw [hm.out]; rfl, Below.refl _ _⟩
  · have hm : Hid (markS k = ⟨(109 :: digs 20 k.toNat []).toArray⟩) := hide (if_neg h0)
    have h15 : Hid (k.toNat < 10 ^ 15) := hide (by
      have e : (10 : Nat) ^ 15 = 1000000000000000 := by decide
      omega)
    have hcv := conv_one
    go_enter Try.func32, Try.ntmps32
    go_wp2
    go_loopw [0, 3] (fun p q wr => ∃ (x f : Nat) (out : List UInt8), p = .int .i64 x ∧ q = .string ⟨out.toArray⟩ ∧ Hid (x < 10 ^ f ∧ f ≤ 15) ∧ out.length ≤ 20 ∧ Hid (out.length + f ≤ 20) ∧ Below w.heap.size w wr ∧ Hid (digs (f + 5) x out = digs 20 k.toNat [])) (fun p _ _ => (intOf p).toNat)
    case atStart => exact ⟨k.toNat, 15, [], by rw [Int.toNat_of_nonneg (by omega)], rfl, hide ⟨h15.out, by omega⟩, by simp, hide (by simp), Below.refl _ _, hide rfl⟩
    case round =>
      obtain ⟨x, f, out, rfl, rfl, hx, hl2, HL, hb, hz⟩ := hrel
      have hB := hide hb
      clear hb
      rcases Nat.eq_zero_or_pos x with h1 | h1
      · subst h1
        go_wp2
        go_ret
        have := hz.out
        rw [digs_zero] at this
        exact ⟨by rw [hm.out, ← this]; rfl, hB.out⟩
      · have hxb : (x : Int) < 1000000000000000 := by have := pow_le_15 hx.out.1 hx.out.2; omega
        go_wp2
        go_roundw
        case rel =>
          obtain ⟨f', rfl⟩ : ∃ f', f = f' + 1 := by
            refine ⟨f - 1, ?_⟩
            rcases Nat.eq_zero_or_pos f with h2 | h2
            · subst h2; have := hx.out.1; simp at this; omega
            · omega
          refine ⟨x / 10, f', UInt8.ofNat (48 + x % 10) :: out, by go_num, ?_, hide ⟨?_, ?_⟩, ?_, hide ?_, hB.out.alloc hB.out.size _, hide ?_⟩
          · have := str_mk_append [UInt8.ofNat (48 + x % 10)] out
            rw [UInt8.ofNat_add] at this
            rw [UInt8.ofNat_add]
            exact congrArg Value.string this
          · have h3 := hx.out.1
            rw [Nat.pow_succ] at h3
            omega
          · have h3 := hx.out.2; omega
          · have h3 := HL.out; simp only [List.length_cons]; omega
          · have h3 := HL.out; simp only [List.length_cons]; omega
          · have h3 := hz.out
            rw [show f' + 1 + 5 = (f' + 5) + 1 by omega, digs_step h1] at h3
            exact h3
        case measure => simp [intOf]; omega
end Go.Proofs.Ytpmldpegjnpoaaa
