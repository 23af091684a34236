/- The laws' small helpers over drawn bytes: what is too long, a number that depends on a byte. No statement is proved here. -/
import Derived.Test.YtpnbnhhifgcklaaDoorSrc
namespace Go.Proofs.YtpnbnhhifgcklaaDoor
open Go.ChangeShapes Go.WideShapes Go.ChangeAt Go.RowKit Go.Deep
set_option maxRecDepth 100000
theorem atk_any (A : Option Addr) (n c : Nat) (l : List Int) (K : Nat) (k : Int) (w : World) (hk : 1 ≤ k) (hl : byteL l) (hr : Arr u8c 1 w w.heap.size A n l) :
    Calls Tryd.prog 13 #[.slice A n c, .int .i64 (K : Int), .int .i64 k] w fun e w' => (∃ x : Int, e = .returned (.int .i64 x) ∧ 0 ≤ x ∧ x < k) ∧ w = w' := by
  by_cases hn : K < n
  · obtain ⟨b, o, x, rfl, hbl, hx, d0⟩ := hr.u8 hn
    obtain ⟨x0, x1⟩ := hl x (List.mem_of_getElem? hx)
    have hw : IntKind.i64.wrap x = x := IntWalk.i64_in _ (by omega)
    have h1 : decide ((n : Int) ≤ (K : Int)) = false := decide_eq_false (by omega)
    have h2 : decide (k < 1) = false := decide_eq_false (by omega)
    have h3 : (K : Int) < (n : Int) := by omega
    have h5 : (0 : Int) ≤ (K : Int) := by omega
    have h4 : ¬ k = 0 := by omega
    clear hx hr
    go_enter Tryd.func13, Tryd.ntmps13
    go_wp2
    go_ret
    exact ⟨⟨_, rfl, Int.emod_nonneg _ h4, Int.emod_lt_of_pos _ (by omega)⟩, rfl⟩
  · have h1 : decide ((n : Int) ≤ (K : Int)) = true := decide_eq_true (by omega)
    clear hr
    go_enter Tryd.func13, Tryd.ntmps13
    go_wp2
    go_ret
    exact ⟨⟨0, rfl, by omega, by omega⟩, rfl⟩
theorem long_any (A : Option Addr) (n c : Nat) (A' : Option Addr) (n' c' : Nat) (w : World) :
    Calls Tryd.prog 4 #[.slice A n c, .slice A' n' c'] w fun e w' => e = .returned (.bool (decide (3000 < (n : Int)) || decide (3000 < (n' : Int)))) ∧ w = w' := by
  by_cases h : 3000 < (n : Int)
  · have h1 : decide (3000 < (n : Int)) = true := decide_eq_true h
    rw [h1]
    go_enter Tryd.func4, Tryd.ntmps4
    go_wp2
    go_ret
    exact ⟨rfl, rfl⟩
  · have h1 : decide (3000 < (n : Int)) = false := decide_eq_false h
    rw [h1]
    by_cases h' : 3000 < (n' : Int)
    · have h2 : decide (3000 < (n' : Int)) = true := decide_eq_true h'
      rw [h2]
      go_enter Tryd.func4, Tryd.ntmps4
      go_wp2
      go_ret
      exact ⟨rfl, rfl⟩
    · have h2 : decide (3000 < (n' : Int)) = false := decide_eq_false h'
      rw [h2]
      go_enter Tryd.func4, Tryd.ntmps4
      go_wp2
      go_ret
      exact ⟨rfl, rfl⟩
theorem bytes_ok {l : List Int} (h : ∀ x ∈ l, (Lit.int .u8 x).wf = true) : byteL l := fun x hx => by
  have h1 := h x hx
  unfold Lit.wf at h1
  rw [Bool.and_eq_true, decide_eq_true_eq, decide_eq_true_eq] at h1
  have e1 : IntKind.u8.min = 0 := by decide
  have e2 : IntKind.u8.max = 255 := by decide
  rw [e1, e2] at h1
  exact h1
end Go.Proofs.YtpnbnhhifgcklaaDoor
