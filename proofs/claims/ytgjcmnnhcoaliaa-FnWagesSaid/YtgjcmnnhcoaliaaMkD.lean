/- The laws' small helpers over numbers and rates. No statement is proved here. -/
import Derived.Test.YtgjcmnnhcoaliaaA2
import Derived.Test.YtgjcmnnhcoaliaaMkP
namespace Go.Proofs.Ytgjcmnnhcoaliaa
open Go.ChangeShapes Go.WideShapes Go.ChangeAt Go.RowKit Go.Deep
set_option maxRecDepth 100000
theorem quiet_leftm {P : Program} {f : FuncId} {args : Array Value} {w : World} {n : Nat} {v : Value}
    (h : Calls P f args (w.drewN n) fun e w' => e = .returned v ∧ ∃ m, w' = (w.drewN n).drewN m) : Calls P f args (w.drewN n) fun e w'' => e = .returned v ∧ ∃ m, w'' = w.drewN m :=
  h.mono fun _ _ ⟨he, m, hm⟩ => ⟨he, n + m, by rw [hm]; simp [World.drewN, Nat.add_assoc]⟩
theorem drewN_up {w wr : World} {m : Nat} (k : Nat) (h : wr = w.drewN m) : ∃ m', wr.drewN k = w.drewN m' := ⟨m + k, by rw [h]; simp [World.drewN, Nat.add_assoc]⟩
theorem rises_any (A : Option Addr) (n c : Nat) (l : List Int) (N : Int) (w : World) (hn : n ≤ 1048576) (hr : Arr i64c 1 w w.heap.size A n l) (hp : l.Pairwise (· < ·)) (hb : ∀ x ∈ l, 0 ≤ x ∧ x < N) :
    Calls Try.prog 14 #[.slice A n c, .int .i64 N] w fun e w' => e = .returned (.bool true) ∧ ∃ m, w' = w.drewN m := by
  have hP := hide hp
  have hBd := hide hb
  clear hp hb
  go_enter Try.func14, Try.ntmps14
  go_wp2
  go_loopw [5] (fun i wr => ∃ k : Nat, k ≤ n ∧ i = .int .i64 k ∧ ∃ m, wr = w.drewN m) (fun i _ => n - (intOf i).toNat)
  case atStart => exact ⟨0, Nat.zero_le _, rfl, 0, rfl⟩
  case round =>
    obtain ⟨k, hk, rfl, m, hm⟩ := hrel
    have hR := hr.go (hm ▸ below_drewN (Below.refl _ _) m : Below w.heap.size w wr)
    have hM := hide hm
    clear hm
    by_cases hlt : k < n
    · obtain ⟨b, o, x, hA, _, hx, c0⟩ := hR.int hlt
      subst hA
      have hxb := hBd.out x (List.mem_of_getElem? hx)
      have hlt' : (k : Int) < (n : Int) := by omega
      have hk0 : (0 : Int) ≤ (k : Int) := by omega
      have g1 : decide (x < 0) = false := decide_eq_false (by omega)
      have g2 : decide (N ≤ x) = false := decide_eq_false (by omega)
      by_cases h0 : 0 < k
      · obtain ⟨b2, o2, y, hA2, _, hy, e0⟩ := hR.int (show k - 1 < n by omega)
        cases hA2
        have hyx : y < x := by
          have h1 := List.pairwise_iff_getElem.1 hP.out (k - 1) k (lt_of_get hy) (lt_of_get hx) (by omega)
          rw [List.getElem?_eq_getElem (lt_of_get hy)] at hy
          rw [List.getElem?_eq_getElem (lt_of_get hx)] at hx
          rw [← Option.some.inj hy, ← Option.some.inj hx]; exact h1
        have g3 : decide ((0 : Int) < (k : Int)) = true := decide_eq_true (by omega)
        have g4 : decide (x ≤ y) = false := decide_eq_false (by omega)
        have hw : IntKind.i64.wrap ((k : Int) - 1) = (k : Int) - 1 := IntWalk.i64_in _ (by omega)
        have hi0 : (0 : Int) ≤ (k : Int) - 1 := by omega
        have hi1 : (k : Int) - 1 < (n : Int) := by omega
        have hi2 : ((k : Int) - 1).toNat = k - 1 := by omega
        clear hx hy hr hyx
        go_wp2
        go_quiet (fail)
        go_wp2
        exact ⟨⟨k + 1, by omega, by go_num, drewN_up _ hM.out⟩, by simp [intOf]; omega⟩
      · have g3 : decide ((0 : Int) < (k : Int)) = false := decide_eq_false (by omega)
        clear hx hr
        go_wp2
        go_quiet (fail)
        go_wp2
        exact ⟨⟨k + 1, by omega, by go_num, drewN_up _ hM.out⟩, by simp [intOf]; omega⟩
    · have hlt' : ¬ (k : Int) < (n : Int) := by omega
      go_wp2
      go_ret
      exact ⟨rfl, _, hM.out⟩
theorem has_any (A : Option Addr) (n c : Nat) (l : List Int) (v : Int) (w : World) (hn : n ≤ 1048576) (hr : Arr i64c 1 w w.heap.size A n l) :
    Calls Try.prog 16 #[.slice A n c, .int .i64 v] w fun e w' => e = .returned (.bool (decide (v ∈ l))) ∧ w = w' := by
  have hl := hide hr.len
  go_enter Try.func16, Try.ntmps16
  go_wp2
  go_loopw [5] (fun i wr => ∃ k : Nat, k ≤ n ∧ i = .int .i64 k ∧ w = wr ∧ Hid (v ∈ l ↔ v ∈ l.drop k)) (fun i _ => n - (intOf i).toNat)
  case atStart => exact ⟨0, Nat.zero_le _, rfl, rfl, hide Iff.rfl⟩
  case round =>
    obtain ⟨k, hk, rfl, rfl, hz⟩ := hrel
    by_cases hlt : k < n
    · obtain ⟨b, o, x, hA, _, hx, c0⟩ := hr.int hlt
      subst hA
      have hlt' : (k : Int) < (n : Int) := by omega
      have hk0 : (0 : Int) ≤ (k : Int) := by omega
      have hdr : l.drop k = x :: l.drop (k + 1) := by
        obtain ⟨h1, h2⟩ := List.getElem?_eq_some_iff.1 hx
        rw [← h2]; exact List.drop_eq_getElem_cons h1
      by_cases he : x = v
      · have hin : Hid (decide (v ∈ l) = true) := hide (decide_eq_true (by rw [hz.out, hdr, he]; exact List.mem_cons_self))
        subst he
        clear hx hr hdr
        go_wp2
        go_ret
        exact ⟨by rw [hin.out]; rfl, rfl⟩
      · have hst : Hid (v ∈ l ↔ v ∈ l.drop (k + 1)) := hide (by rw [hz.out, hdr, List.mem_cons]; exact ⟨fun h => h.resolve_left fun e => he e.symm, .inr⟩)
        clear hx hdr
        go_wp2
        go_roundw
        case rel => exact ⟨k + 1, by omega, by go_num, by first | rfl | trivial, hst⟩
        case measure => simp [intOf]; omega
    · have hlt' : ¬ (k : Int) < (n : Int) := by omega
      have hin : Hid (decide (v ∈ l) = false) := hide (decide_eq_false (by rw [hz.out, List.drop_of_length_le (by rw [hl.out]; omega)]; exact List.not_mem_nil))
      go_wp2
      go_ret
      exact ⟨by rw [hin.out]; rfl, rfl⟩
theorem sum_any (A : Option Addr) (n c : Nat) (l : List Int) (w : World) (hn : n ≤ 1000) (hr : Arr i64c 1 w w.heap.size A n l) (hb : ∀ x ∈ l, 0 ≤ x ∧ x ≤ 1000000) :
    Calls Try.prog 17 #[.slice A n c] w fun e w' => e = .returned (.int .i64 (sumOf id l)) ∧ w = w' := by
  have hl := hide hr.len
  have hBd := hide hb
  clear hb
  go_enter Try.func17, Try.ntmps17
  go_wp2
  go_loopw [3, 4] (fun s i wr => ∃ (k : Nat) (z : Int), k ≤ n ∧ s = .int .i64 z ∧ i = .int .i64 k ∧ w = wr ∧ Hid (z = sumOf id (l.take k))) (fun _ i _ => n - (intOf i).toNat)
  case atStart => exact ⟨0, 0, Nat.zero_le _, rfl, rfl, rfl, hide rfl⟩
  case round =>
    obtain ⟨k, z, hk, rfl, rfl, rfl, hz⟩ := hrel
    by_cases hlt : k < n
    · obtain ⟨b, o, x, hA, _, hx, c0⟩ := hr.int hlt
      subst hA
      have hlt' : (k : Int) < (n : Int) := by omega
      have hk0 : (0 : Int) ≤ (k : Int) := by omega
      have hxb := hBd.out x (List.mem_of_getElem? hx)
      have hzb : 0 ≤ z ∧ z ≤ 1000000 * 1000 := by rw [hz.out]; exact sumOf_take_bound (f := id) (M := 1000000) (N := 1000) (fun x hx => hBd.out x hx) (by rw [hl.out]; omega) (by omega) k
      have hst : Hid (z + x = sumOf id (l.take (k + 1))) := hide (by rw [sumOf_snoc hx, ← hz.out]; rfl)
      have hw : IntKind.i64.wrap (z + x) = z + x := IntWalk.i64_in _ (by omega)
      clear hx
      go_wp2
      go_roundw
      case rel => exact ⟨k + 1, z + x, by omega, rfl, by go_num, by first | rfl | trivial, hst⟩
      case measure => simp [intOf]; omega
    · have hlt' : ¬ (k : Int) < (n : Int) := by omega
      have hst : Hid (z = sumOf id l) := hide (by rw [hz.out, List.take_of_length_le (by rw [hl.out]; omega)])
      go_wp2
      go_ret
      exact ⟨by rw [hst.out]; rfl, rfl⟩
theorem sumv_any (A : Option Addr) (n c : Nat) (l : List Int) (v : Int) (w : World) (hn : n ≤ 1000) (hr : Arr i64c 1 w w.heap.size A n l) (hb : ∀ x ∈ l, 0 ≤ x ∧ x ≤ 1000000) (hv : sumOf id l = v) :
    Calls Try.prog 17 #[.slice A n c] w fun e w' => e = .returned (.int .i64 v) ∧ w = w' := by
  subst hv
  exact sum_any A n c l w hn hr hb
theorem rate2_any (A : Option Addr) (n c : Nat) (l : List Rate) (s : ByteArray) (w : World) (hn : n ≤ 1048576) (hr : Arr Rate.cells 2 w w.heap.size A n l) :
    Calls Try.prog 15 #[.slice A n c, .string s] w fun e w' => e = .returned (.int .i64 ((rateOf l s).getD (-1))) ∧ Below w.heap.size w w' := by
  have hl := hide hr.len
  go_enter Try.func15, Try.ntmps15
  go_wp2
  go_loopw [5] (fun i wr => ∃ k : Nat, k ≤ n ∧ i = .int .i64 k ∧ Below w.heap.size w wr ∧ Hid (rateOf l s = rateOf (l.drop k) s)) (fun i _ => n - (intOf i).toNat)
  case atStart => exact ⟨0, Nat.zero_le _, rfl, Below.refl _ _, hide rfl⟩
  case round =>
    obtain ⟨k, hk, rfl, hb, hz⟩ := hrel
    by_cases hlt : k < n
    · obtain ⟨b, o, x, rfl, hbl, hx, c0, c1⟩ := hr.Rate hlt
      have d0 : wr.cell? ⟨b, o + k * 2, none⟩ = some (.string x.fSort) := (hb.cell (p := ⟨b, o + k * 2, none⟩) hbl).trans c0
      have d1 : wr.cell? ⟨b, o + k * 2 + 1, none⟩ = some (.int .i64 x.fCents) := (hb.cell (p := ⟨b, o + k * 2 + 1, none⟩) hbl).trans c1
      have hX := hide hx
      clear hx c0 c1
      have hB := hide hb
      clear hr hb
      by_cases he : x.fSort = s
      · have e1 := str_eq he
        have hv : Hid (rateOf l s = some x.fCents) := hide (by rw [hz.out, rateOf_step hX.out, if_pos he])
        clear he
        go_wp2
        go_ret
        exact ⟨by rw [hv.out]; rfl, hB.out⟩
      · have e1 := str_ne he
        have hv : Hid (rateOf l s = rateOf (l.drop (k + 1)) s) := hide (by rw [hz.out, rateOf_step hX.out, if_neg he])
        clear he
        go_wp2
        go_roundw
        case rel => exact ⟨k + 1, by omega, by go_num, hB.out, hv⟩
        case measure => simp [intOf]; omega
    · have hkn : k = n := by omega
      subst hkn
      have hB := hide hb
      clear hb
      have hv : Hid (rateOf l s = none) := hide (by rw [hz.out, List.drop_of_length_le (by rw [hl.out]; exact Nat.le_refl _)]; rfl)
      go_wp2
      go_ret
      exact ⟨by rw [hv.out]; rfl, hB.out⟩
end Go.Proofs.Ytgjcmnnhcoaliaa
