/- Contracts: a line of a log read, the reference's way. -/
import Derived.Test.YtceajnoppdfeaaaGreatDoorLogP
import Derived.Deep.RegionWith
namespace Go.Proofs.YtceajnoppdfeaaaGreatDoor
open Go.ChangeShapes Go.WideShapes Go.ChangeAt Go.RowKit Go.Deep
set_option maxRecDepth 100000
/-- The reader's block: the text, how far it has been read, the last stamp, the entries. -/
def RB (w : World) (base g : Nat) (s : ByteArray) (done : List Entry) (at_ : Nat) (st : Int) : Prop :=
  ∃ v, w.heap[g]? = some (.cells #[.string s, .int .i64 at_, .int .i64 st, v] 74 (0, 0)) ∧ Own Entry.cells 90 3 w base v done.length done
def lastDay (l : List Entry) : Int := match l.getLast? with
  | some e => e.fDay
  | none => 0
theorem lastDay_nil : lastDay [] = 0 := rfl
theorem lastDay_snoc (l : List Entry) (e : Entry) : lastDay (l ++ [e]) = e.fDay := by simp [lastDay]
theorem lastDay_at {l : List Entry} {k : Nat} {e : Entry} (h : l[k]? = some e) (hk : k + 1 = l.length) : lastDay l = e.fDay := by
  unfold lastDay
  rw [List.getLast?_eq_getElem?, show l.length - 1 = k by omega, h]
theorem sDay_any (g : Nat) (w : World) (base at_ : Nat) (s : ByteArray) (st : Int) (v : Value) (done : List Entry) (hm : done.length ≤ 1048576)
    (hb : w.heap[g]? = some (.cells #[.string s, .int .i64 at_, .int .i64 st, v] 74 (0, 0))) (ho : Own Entry.cells 90 3 w base v done.length done) :
    Calls Tryz.prog 81 #[.pointer (some ⟨g, 0, none⟩)] w fun e w' => e = .returned (.int .i64 (lastDay done)) ∧ ∃ n, w' = w.drewN n := by
  obtain ⟨A, c, rfl, _⟩ := ho.slice
  have hr := ho.arr Entry.len
  have c3 : w.cell? ⟨g, 3, none⟩ = some (.slice A done.length c) := by rw [cell_of_row _ _ _ _ _ _ hb]; rfl
  clear hb ho
  obtain ⟨n, hn⟩ : ∃ n, n = done.length := ⟨_, rfl⟩
  rw [← hn] at hr c3 hm
  have hN := hide hn
  clear hn
  rcases Nat.eq_zero_or_pos n with h0 | h0
  · subst h0
    have hd : Hid (lastDay done = 0) := hide (by rw [List.eq_nil_of_length_eq_zero hN.out.symm]; rfl)
    go_enter Tryz.func81, Tryz.ntmps81
    go_wp2
    go_ret
    exact ⟨ret1 hd.out.symm, 0, rfl⟩
  · obtain ⟨b, o, x, rfl, _, hx, d0, d1, d2⟩ := hr.Entry (k := n - 1) (by omega)
    have hd : Hid (lastDay done = x.fDay) := hide (lastDay_at hx (by rw [← hN.out]; omega))
    have e0 : ((n : Int) == 0) = false := by simp; omega
    have hi0 : (0 : Int) ≤ (n : Int) - 1 := by omega
    have hi1 : (n : Int) - 1 < (n : Int) := by omega
    have hw : IntKind.i64.wrap ((n : Int) - 1) = (n : Int) - 1 := IntWalk.i64_in _ (by omega)
    have hi2 : ((n : Int) - 1).toNat = n - 1 := by omega
    have hi3 : (1 : Int) ≤ (n : Int) := by omega
    clear hx
    go_enter Tryz.func81, Tryz.ntmps81
    go_wp2
    go_quiet (fail)
    go_wp2
    go_ret
    exact ⟨ret1 hd.out.symm, _, rfl⟩
end Go.Proofs.YtceajnoppdfeaaaGreatDoor
