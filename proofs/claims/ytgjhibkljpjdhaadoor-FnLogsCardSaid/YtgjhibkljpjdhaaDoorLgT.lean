/- Helpers of the laws over logs: a sum; entries compared. No statement is proved here. -/
import Derived.Test.YtgjhibkljpjdhaaDoorLgN
import Derived.Test.YtgjhibkljpjdhaaDoorLgS
import Derived.Test.YtgjhibkljpjdhaaDoorA2
namespace Go.Proofs.YtgjhibkljpjdhaaDoor
open Go.ChangeShapes Go.WideShapes Go.ChangeAt Go.RowKit Go.Deep
set_option maxRecDepth 100000
theorem sums_any (A : Option Addr) (n c : Nat) (l : List Int) (v : Int) (w : World) (hn : n ≤ 1000) (hr : Arr i64c 1 w w.heap.size A n l) (hb : ∀ x ∈ l, -1000000 ≤ x ∧ x ≤ 1000000) (hv : sumOf id l = v) :
    Calls Tryd.prog 11 #[.slice A n c] w fun e w' => e = .returned (.int .i64 v) ∧ w = w' := by
  have hl := hide hr.len
  have hBd := hide hb
  have hV := hide hv
  clear hb hv
  go_enter Tryd.func11, Tryd.ntmps11
  go_wp2
  go_loopw [3, 4] (fun s i wr => ∃ (k : Nat) (z : Int), k ≤ n ∧ s = .int .i64 z ∧ i = .int .i64 k ∧ w = wr ∧ Hid (z = sumOf id (l.take k))) (fun _ i _ => n - (intOf i).toNat)
  case atStart => exact ⟨0, 0, Nat.zero_le _, rfl, rfl, rfl, hide rfl⟩
  case round =>
    obtain ⟨k, z, hk, rfl, rfl, rfl, hz⟩ := hrel
    have hzb : -1000000000 ≤ z ∧ z ≤ 1000000000 := by
      have h1 := sumB (f := id) (M := 1000000) (l := l.take k) (fun x hx => hBd.out x (List.mem_of_mem_take hx))
      have h2 : (l.take k).length ≤ 1000 := by rw [List.length_take]; omega
      rw [← hz.out] at h1
      omega
    by_cases hlt : k < n
    · obtain ⟨b, o, x, hA, _, hx, c0⟩ := hr.int hlt
      subst hA
      have hlt' : (k : Int) < (n : Int) := by omega
      have hk0 : (0 : Int) ≤ (k : Int) := by omega
      have hxb := hBd.out x (List.mem_of_getElem? hx)
      have hst : Hid (z + x = sumOf id (l.take (k + 1))) := hide (by rw [sumOf_snoc hx, ← hz.out]; rfl)
      have hw : IntKind.i64.wrap (z + x) = z + x := IntWalk.i64_in _ (by omega)
      clear hx
      go_wp2
      go_roundw
      case rel => exact ⟨k + 1, z + x, by omega, rfl, by go_num, by first | rfl | trivial, hst⟩
      case measure => simp [intOf]; omega
    · have hlt' : ¬ (k : Int) < (n : Int) := by omega
      have hst : Hid (z = v) := hide (by rw [hz.out, List.take_of_length_le (by rw [hl.out]; omega), hV.out])
      go_wp2
      go_ret
      exact ⟨by rw [hst.out]; rfl, rfl⟩
theorem neqEnt_fields (a0 : Int) (a1 : ByteArray) (a2 : Int) (w : World) : (binOp .neq 38 (.agg #[.int .i64 a0, .string a1, .int .i64 a2]) (.agg #[.int .i64 a0, .string a1, .int .i64 a2])).run Tryd.prog w = .ok (.bool false) w := by
  rw [run_neq_struct, show 10000 = 9999 + 1 from rfl, run_equalIn_struct _ _ _ _ _ (by simp [Program.fieldsOf, Tryd.underlying38]) (by kernel_rfl)]
  simp [Program.fieldsOf, Tryd.underlying38, Op.eqFields, go_sem]
theorem neqEnt (x : Entry) : ∀ w : World, (binOp .neq 38 (.agg #[.int .i64 x.fDay, .string x.fWhat, .int .i64 x.fValue]) (.agg #[.int .i64 x.fDay, .string x.fWhat, .int .i64 x.fValue])).run Tryd.prog w = .ok (.bool false) w := fun w => neqEnt_fields _ _ _ w
end Go.Proofs.YtgjhibkljpjdhaaDoor
