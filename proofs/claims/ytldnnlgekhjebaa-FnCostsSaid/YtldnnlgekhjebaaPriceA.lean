/- Contracts of the prices' small functions: bounds, sums, a dozen, rounding, breaking even; each is said for every input. -/
import Derived.Test.YtldnnlgekhjebaaKit
namespace Go.Proofs.Ytldnnlgekhjebaa
open Go.ChangeShapes Go.WideShapes Go.ChangeAt Go.RowKit

theorem in_any (n lo hi : Int) (w : World) :
    Calls Try.prog 37 #[.int .i64 n, .int .i64 lo, .int .i64 hi] w fun e w' => e = .returned (.bool (inB n lo hi)) ∧ w = w' := by
  go_enter Try.func37, Try.ntmps37
  by_cases h : lo ≤ n
  · go_wp2
    go_ret; exact ⟨by simp [inB, h], rfl⟩
  · go_wp2
    go_ret; exact ⟨by simp [inB]; omega, rfl⟩
theorem within_any (n lo hi : Int) (w : World) :
    Calls Try.prog 36 #[.int .i64 n, .int .i64 lo, .int .i64 hi] w fun e w' => e = .returned (.bool (inB n lo hi)) ∧ w = w' := by
  go_enter Try.func36, Try.ntmps36
  by_cases h : lo ≤ n
  · go_wp2
    go_ret; exact ⟨by simp [inB, h], rfl⟩
  · go_wp2
    go_ret; exact ⟨by simp [inB]; omega, rfl⟩
theorem isSum_any (n : Int) (w : World) :
    Calls Try.prog 32 #[.int .i64 n] w fun e w' => e = .returned (.bool (inB n 0 10000000)) ∧ w = w' := by
  go_enter Try.func32, Try.ntmps32
  go_wp2_with (go_at_call 36; refine (within_any _ _ _ _).mono ?_; rintro e w' ⟨rfl, rfl⟩)
  go_ret; exact ⟨rfl, rfl⟩
theorem money_any (n : Int) (w : World) :
    Calls Try.prog 34 #[.int .i64 n] w fun e w' => e = .returned (.bool (inB n 0 10000000)) ∧ w = w' := by
  go_enter Try.func34, Try.ntmps34
  go_wp2_with (go_at_call 37; refine (in_any _ _ _ _).mono ?_; rintro e w' ⟨rfl, rfl⟩)
  go_ret; exact ⟨rfl, rfl⟩
theorem over_any (a b : Int) (w : World) (ha : 0 ≤ a) (hb : 1 ≤ b) (ha' : a ≤ 4000000000000000) (hb' : b ≤ 4000000000000000) :
    Calls Try.prog 33 #[.int .i64 a, .int .i64 b] w fun e w' => e = .returned (.int .i64 ((a + b - 1) / b)) ∧ w = w' := by
  have hq : 0 ≤ a / b := Int.ediv_nonneg ha (by omega)
  have hq' : a / b ≤ a := Int.ediv_le_self b ha
  have hm := Int.emod_nonneg a (show b ≠ 0 by omega)
  have hm' := Int.emod_lt_of_pos a (show 0 < b by omega)
  have key := hide (over_eq (a := a) hb)
  go_enter Try.func33, Try.ntmps33
  by_cases h : 0 < a % b
  · go_wp2
    go_ret; exact ⟨by rw [key.out, if_pos (by omega)]; rfl, rfl⟩
  · go_wp2
    go_ret; exact ⟨by rw [key.out, if_neg (by omega)]; rfl, rfl⟩

/-! ### a dozen -/
def mDozen (p f : Int) : Int × Int := if inB p 0 10000000 && inB f 0 11 then (p * (12 - f), 0) else (0, 2)
theorem dozen_bound {p f : Int} (h1 : 0 ≤ p ∧ p ≤ 10000000) (h2 : 0 ≤ f ∧ f ≤ 11) : 0 ≤ p * (12 - f) ∧ p * (12 - f) ≤ 120000000 :=
  ⟨Int.mul_nonneg h1.1 (by omega), Int.le_trans (Int.mul_le_mul h1.2 (show 12 - f ≤ 12 by omega) (by omega) (by omega)) (by omega)⟩
theorem sDozen_any (p f : Int) (w : World) :
    Calls Try.prog 17 #[.int .i64 p, .int .i64 f] w fun e w' => e = .returned (.tuple #[.int .i64 (mDozen p f).1, .int .i64 (mDozen p f).2]) ∧ w = w' := by
  unfold mDozen
  cases h1 : inB p 0 10000000
  · go_enter Try.func17, Try.ntmps17
    go_wp2_with (go_at_call 34; refine (money_any _ _).mono ?_; rintro e w' ⟨rfl, rfl⟩)
    go_ret2; exact ⟨rfl, rfl⟩
  · cases h2 : inB f 0 11
    · go_enter Try.func17, Try.ntmps17
      go_wp2_with (first | (go_at_call 34; refine (money_any _ _).mono ?_; rintro e w' ⟨rfl, rfl⟩) | (go_at_call 37; refine (in_any _ _ _ _).mono ?_; rintro e w' ⟨rfl, rfl⟩))
      go_ret2; exact ⟨rfl, rfl⟩
    · have b1 := inB_true.1 h1
      have b2 := inB_true.1 h2
      have b3 := dozen_bound b1 b2
      go_enter Try.func17, Try.ntmps17
      go_wp2_with (first | (go_at_call 34; refine (money_any _ _).mono ?_; rintro e w' ⟨rfl, rfl⟩) | (go_at_call 37; refine (in_any _ _ _ _).mono ?_; rintro e w' ⟨rfl, rfl⟩))
      go_ret2; exact ⟨rfl, rfl⟩
theorem iDozen_any (p f : Int) (w : World) :
    Calls Try.prog 16 #[.int .i64 p, .int .i64 f] w fun e w' => e = .returned (.tuple #[.int .i64 (mDozen p f).1, .int .i64 (mDozen p f).2]) ∧ w = w' := by
  unfold mDozen
  cases h1 : inB p 0 10000000
  · go_enter Try.func16, Try.ntmps16
    go_wp2_with (go_at_call 32; refine (isSum_any _ _).mono ?_; rintro e w' ⟨rfl, rfl⟩)
    go_ret2; exact ⟨rfl, rfl⟩
  · cases h2 : inB f 0 11
    · go_enter Try.func16, Try.ntmps16
      go_wp2_with (first | (go_at_call 32; refine (isSum_any _ _).mono ?_; rintro e w' ⟨rfl, rfl⟩) | (go_at_call 36; refine (within_any _ _ _ _).mono ?_; rintro e w' ⟨rfl, rfl⟩))
      go_ret2; exact ⟨rfl, rfl⟩
    · have b1 := inB_true.1 h1
      have b2 := inB_true.1 h2
      have b3 := dozen_bound b1 b2
      go_enter Try.func16, Try.ntmps16
      go_wp2_with (first | (go_at_call 32; refine (isSum_any _ _).mono ?_; rintro e w' ⟨rfl, rfl⟩) | (go_at_call 36; refine (within_any _ _ _ _).mono ?_; rintro e w' ⟨rfl, rfl⟩))
      go_ret2; exact ⟨rfl, rfl⟩
/-! ### rounding -/
def mRound (p z : Int) : Int × Int := if inB p 0 10000000 && inB z 0 99 then (p + (z - p % 100 + 100) % 100, 0) else (0, 2)
theorem round_eq {p z : Int} (h2 : 0 ≤ z ∧ z ≤ 99) : (if p - p % 100 + z < p then p - p % 100 + z + 100 else p - p % 100 + z) = p + (z - p % 100 + 100) % 100 := by
  split <;> omega
theorem iRound_any (p z : Int) (w : World) :
    Calls Try.prog 10 #[.int .i64 p, .int .i64 z] w fun e w' => e = .returned (.tuple #[.int .i64 (mRound p z).1, .int .i64 (mRound p z).2]) ∧ w = w' := by
  unfold mRound
  cases h1 : inB p 0 10000000
  · go_enter Try.func10, Try.ntmps10
    go_wp2_with (go_at_call 32; refine (isSum_any _ _).mono ?_; rintro e w' ⟨rfl, rfl⟩)
    go_ret2; exact ⟨rfl, rfl⟩
  · cases h2 : inB z 0 99
    · go_enter Try.func10, Try.ntmps10
      go_wp2_with (first | (go_at_call 32; refine (isSum_any _ _).mono ?_; rintro e w' ⟨rfl, rfl⟩) | (go_at_call 36; refine (within_any _ _ _ _).mono ?_; rintro e w' ⟨rfl, rfl⟩))
      go_ret2; exact ⟨rfl, rfl⟩
    · have b1 := inB_true.1 h1
      have b2 := inB_true.1 h2
      have b3 : 0 ≤ p % 100 ∧ p % 100 < 100 := by omega
      have b4 : 0 ≤ z - p % 100 + 100 := by omega
      go_enter Try.func10, Try.ntmps10
      go_wp2_with (first | (go_at_call 32; refine (isSum_any _ _).mono ?_; rintro e w' ⟨rfl, rfl⟩) | (go_at_call 36; refine (within_any _ _ _ _).mono ?_; rintro e w' ⟨rfl, rfl⟩))
      go_ret2; exact ⟨rfl, rfl⟩
theorem sRound_any (p z : Int) (w : World) :
    Calls Try.prog 11 #[.int .i64 p, .int .i64 z] w fun e w' => e = .returned (.tuple #[.int .i64 (mRound p z).1, .int .i64 (mRound p z).2]) ∧ w = w' := by
  cases h1 : inB p 0 10000000
  · go_enter Try.func11, Try.ntmps11
    go_wp2_with (go_at_call 34; refine (money_any _ _).mono ?_; rintro e w' ⟨rfl, rfl⟩)
    go_ret2; exact ⟨by simp [mRound, h1], rfl⟩
  · cases h2 : inB z 0 99
    · go_enter Try.func11, Try.ntmps11
      go_wp2_with (first | (go_at_call 34; refine (money_any _ _).mono ?_; rintro e w' ⟨rfl, rfl⟩) | (go_at_call 37; refine (in_any _ _ _ _).mono ?_; rintro e w' ⟨rfl, rfl⟩))
      go_ret2; exact ⟨by simp [mRound, h1, h2], rfl⟩
    · have b1 := inB_true.1 h1
      have b2 := inB_true.1 h2
      have b3 : 0 ≤ p % 100 ∧ p % 100 < 100 := by omega
      have b4 : 0 ≤ z - p % 100 + 100 := by omega
      have hr := hide (round_eq (p := p) b2)
      have hm : Hid (mRound p z = (p + (z - p % 100 + 100) % 100, 0)) := by simp only [mRound, h1, h2]; rfl
      by_cases h3 : p - p % 100 + z < p
      · go_enter Try.func11, Try.ntmps11
        go_wp2_with (first | (go_at_call 34; refine (money_any _ _).mono ?_; rintro e w' ⟨rfl, rfl⟩) | (go_at_call 37; refine (in_any _ _ _ _).mono ?_; rintro e w' ⟨rfl, rfl⟩))
        go_ret2; exact ⟨ret2 (by have := hr.out; rw [if_pos (by omega)] at this; rw [hm.out]; exact this) (by rw [hm.out]), rfl⟩
      · go_enter Try.func11, Try.ntmps11
        go_wp2_with (first | (go_at_call 34; refine (money_any _ _).mono ?_; rintro e w' ⟨rfl, rfl⟩) | (go_at_call 37; refine (in_any _ _ _ _).mono ?_; rintro e w' ⟨rfl, rfl⟩))
        go_ret2; exact ⟨ret2 (by have := hr.out; rw [if_neg (by omega)] at this; rw [hm.out]; exact this) (by rw [hm.out]), rfl⟩
end Go.Proofs.Ytldnnlgekhjebaa
