/- Contracts of the price with a profit, of breaking even, of the dearest cost. -/
import Derived.Test.YtldnnlgekhjebaaPriceC
namespace Go.Proofs.Ytldnnlgekhjebaa
open Go.ChangeShapes Go.WideShapes Go.ChangeAt Go.RowKit Go.Deep

/-! ### the price with a profit -/
def mPrice (l : List Cost) (p : Int) : Int × Int := if costsOk l then (if inB p 0 1000 then ((costSum l * (100 + p) + 9999) / 10000, 0) else (0, 2)) else (0, 1)
theorem price_bound {s p : Int} (h1 : 0 ≤ s ∧ s ≤ 120000000000) (h2 : 0 ≤ p ∧ p ≤ 1000) : 0 ≤ s * (100 + p) ∧ s * (100 + p) ≤ 132000000000000 :=
  ⟨Int.mul_nonneg h1.1 (by omega), Int.le_trans (Int.mul_le_mul h1.2 (show 100 + p ≤ 1100 by omega) (by omega) (by omega)) (by omega)⟩
theorem iPriceWith_any (A : Option Addr) (n c : Nat) (l : List Cost) (p : Int) (w : World) (hn : n ≤ 1048576) (hr : Arr Cost.cells 2 w w.heap.size A n l) :
    Calls Try.prog 19 #[.slice A n c, .int .i64 p] w fun e w' => e = .returned (.tuple #[.int .i64 (mPrice l p).1, .int .i64 (mPrice l p).2]) ∧ Below w.heap.size w w' := by
  cases hok : costsOk l
  · have hm : Hid (mPrice l p = (0, 1)) := by simp only [mPrice, hok]; rfl
    go_enter Try.func19, Try.ntmps19
    go_wp2_with (go_at_call 28; refine (iValidCosts_any A n c l w hn hr).mono ?_; rintro e whB ⟨rfl, hb⟩; have hB := hide (hb); clear hb)
    go_ret2; exact ⟨by rw [hm.out]; rfl, hB.out⟩
  · cases hp : inB p 0 1000
    · have hm : Hid (mPrice l p = (0, 2)) := by simp only [mPrice, hok, hp]; rfl
      go_enter Try.func19, Try.ntmps19
      go_wp2_with (first | (go_at_call 28; refine (iValidCosts_any A n c l w hn hr).mono ?_; rintro e whB ⟨rfl, hb⟩; have hB := hide (hb); clear hb) | (go_at_call 36; refine (within_any _ _ _ _).mono ?_; rintro e w' ⟨rfl, rfl⟩))
      go_ret2; exact ⟨by rw [hm.out]; rfl, hB.out⟩
    · have hm : Hid (mPrice l p = ((costSum l * (100 + p) + 9999) / 10000, 0)) := by simp only [mPrice, hok, hp]; rfl
      have hpb := inB_true.1 hp
      have hbd := costSum_le hok
      have hb2 := price_bound hbd hpb
      have hO := hide hok
      go_enter Try.func19, Try.ntmps19
      go_wp2_with (first | (go_at_call 28; refine (iValidCosts_any A n c l w hn hr).mono ?_; rintro e whB ⟨rfl, hb⟩; have hB := hide (hb); clear hb) | (go_at_call 36; refine (within_any _ _ _ _).mono ?_; rintro e w' ⟨rfl, rfl⟩) | (go_at_call 42; refine (iSum_any A n c l _ hn hO (hr.go hB.out)).mono ?_; rintro e whB2 ⟨rfl, hb⟩; have hB2 := hide (Below.up hB.out hb); clear hb) | (go_at_call 33; refine (over_any _ _ _ (by omega) (by omega) (by omega) (by omega)).mono ?_; rintro e w3 ⟨rfl, rfl⟩))
      go_ret2; exact ⟨ret2 (by rw [hm.out]; show _ = (costSum l * (100 + p) + 9999) / 10000; omega) (by rw [hm.out]), hB2.out⟩
theorem sPriceWith_any (A : Option Addr) (n c : Nat) (l : List Cost) (p : Int) (w : World) (hn : n ≤ 1048576) (hr : Arr Cost.cells 2 w w.heap.size A n l) :
    Calls Try.prog 20 #[.slice A n c, .int .i64 p] w fun e w' => e = .returned (.tuple #[.int .i64 (mPrice l p).1, .int .i64 (mPrice l p).2]) ∧ Below w.heap.size w w' := by
  cases hok : costsOk l
  · have hm : Hid (mPrice l p = (0, 1)) := by simp only [mPrice, hok]; rfl
    go_enter Try.func20, Try.ntmps20
    go_wp2_with (go_at_call 43; refine (sOk_any A n c l w hn hr).mono ?_; rintro e whB ⟨rfl, hb⟩; have hB := hide (hb); clear hb)
    go_ret2; exact ⟨by rw [hm.out]; rfl, hB.out⟩
  · cases hp : inB p 0 1000
    · have hm : Hid (mPrice l p = (0, 2)) := by simp only [mPrice, hok, hp]; rfl
      go_enter Try.func20, Try.ntmps20
      go_wp2_with (first | (go_at_call 43; refine (sOk_any A n c l w hn hr).mono ?_; rintro e whB ⟨rfl, hb⟩; have hB := hide (hb); clear hb) | (go_at_call 37; refine (in_any _ _ _ _).mono ?_; rintro e w' ⟨rfl, rfl⟩))
      go_ret2; exact ⟨by rw [hm.out]; rfl, hB.out⟩
    · have hm : Hid (mPrice l p = ((costSum l * (100 + p) + 9999) / 10000, 0)) := by simp only [mPrice, hok, hp]; rfl
      have hpb := inB_true.1 hp
      have hbd := costSum_le hok
      have hb2 := price_bound hbd hpb
      have hO := hide hok
      go_enter Try.func20, Try.ntmps20
      go_wp2_with (first | (go_at_call 43; refine (sOk_any A n c l w hn hr).mono ?_; rintro e whB ⟨rfl, hb⟩; have hB := hide (hb); clear hb) | (go_at_call 37; refine (in_any _ _ _ _).mono ?_; rintro e w' ⟨rfl, rfl⟩) | (go_at_call 44; refine (sSum_any A n c l _ hn hO (hr.go hB.out)).mono ?_; rintro e whB2 ⟨rfl, hb⟩; have hB2 := hide (Below.up hB.out hb); clear hb))
      go_ret2; exact ⟨ret2 (by rw [hm.out]) (by rw [hm.out]), hB2.out⟩

/-! ### breaking even -/
def mBreak (f p c : Int) : Int × Int :=
  if inB f 0 10000000 && inB p 0 10000000 && inB c 0 10000000 then (if f == 0 then (0, 0) else if p ≤ c then (0, 3) else ((f + (p - c) - 1) / (p - c), 0)) else (0, 2)
theorem iBreak_any (f p c : Int) (w : World) :
    Calls Try.prog 7 #[.int .i64 f, .int .i64 p, .int .i64 c] w fun e w' => e = .returned (.tuple #[.int .i64 (mBreak f p c).1, .int .i64 (mBreak f p c).2]) ∧ w = w' := by
  cases h1 : inB f 0 10000000
  · go_enter Try.func7, Try.ntmps7
    go_wp2_with (go_at_call 32; refine (isSum_any _ _).mono ?_; rintro e w' ⟨rfl, rfl⟩)
    go_ret2; exact ⟨by simp [mBreak, h1], rfl⟩
  · cases h2 : inB p 0 10000000
    · go_enter Try.func7, Try.ntmps7
      go_wp2_with (go_at_call 32; refine (isSum_any _ _).mono ?_; rintro e w' ⟨rfl, rfl⟩)
      go_ret2; exact ⟨by simp [mBreak, h1, h2], rfl⟩
    · cases h3 : inB c 0 10000000
      · go_enter Try.func7, Try.ntmps7
        go_wp2_with (go_at_call 32; refine (isSum_any _ _).mono ?_; rintro e w' ⟨rfl, rfl⟩)
        go_ret2; exact ⟨by simp [mBreak, h1, h2, h3], rfl⟩
      · have b1 := inB_true.1 h1
        have b2 := inB_true.1 h2
        have b3 := inB_true.1 h3
        cases h4 : f == 0
        · by_cases h5 : p ≤ c
          · have hm : Hid (mBreak f p c = (0, 3)) := hide (by simp at h4; simp [mBreak, h1, h2, h3, h4, h5])
            go_enter Try.func7, Try.ntmps7
            go_wp2_with (go_at_call 32; refine (isSum_any _ _).mono ?_; rintro e w' ⟨rfl, rfl⟩)
            go_ret2; exact ⟨by rw [hm.out]; rfl, rfl⟩
          · have hm : Hid (mBreak f p c = ((f + (p - c) - 1) / (p - c), 0)) := hide (by simp at h4; simp [mBreak, h1, h2, h3, h4, h5])
            go_enter Try.func7, Try.ntmps7
            go_wp2_with (first | (go_at_call 32; refine (isSum_any _ _).mono ?_; rintro e w' ⟨rfl, rfl⟩) | (go_at_call 33; refine (over_any _ _ _ (by omega) (by omega) (by omega) (by omega)).mono ?_; rintro e w3 ⟨rfl, rfl⟩))
            go_ret2; exact ⟨by rw [hm.out]; rfl, rfl⟩
        · have hm : Hid (mBreak f p c = (0, 0)) := hide (by simp at h4; subst h4; simp [mBreak, h1, h2, h3])
          go_enter Try.func7, Try.ntmps7
          go_wp2_with (go_at_call 32; refine (isSum_any _ _).mono ?_; rintro e w' ⟨rfl, rfl⟩)
          go_ret2; exact ⟨by rw [hm.out]; rfl, rfl⟩
theorem sBreak_any (f p c : Int) (w : World) :
    Calls Try.prog 8 #[.int .i64 f, .int .i64 p, .int .i64 c] w fun e w' => e = .returned (.tuple #[.int .i64 (mBreak f p c).1, .int .i64 (mBreak f p c).2]) ∧ w = w' := by
  cases h1 : inB f 0 10000000
  · go_enter Try.func8, Try.ntmps8
    go_wp2_with (go_at_call 34; refine (money_any _ _).mono ?_; rintro e w' ⟨rfl, rfl⟩)
    go_ret2; exact ⟨by simp [mBreak, h1], rfl⟩
  · cases h2 : inB p 0 10000000
    · go_enter Try.func8, Try.ntmps8
      go_wp2_with (go_at_call 34; refine (money_any _ _).mono ?_; rintro e w' ⟨rfl, rfl⟩)
      go_ret2; exact ⟨by simp [mBreak, h1, h2], rfl⟩
    · cases h3 : inB c 0 10000000
      · go_enter Try.func8, Try.ntmps8
        go_wp2_with (go_at_call 34; refine (money_any _ _).mono ?_; rintro e w' ⟨rfl, rfl⟩)
        go_ret2; exact ⟨by simp [mBreak, h1, h2, h3], rfl⟩
      · have b1 := inB_true.1 h1
        have b2 := inB_true.1 h2
        have b3 := inB_true.1 h3
        cases h4 : f == 0
        · by_cases h5 : p ≤ c
          · have hm : Hid (mBreak f p c = (0, 3)) := hide (by simp at h4; simp [mBreak, h1, h2, h3, h4, h5])
            go_enter Try.func8, Try.ntmps8
            go_wp2_with (go_at_call 34; refine (money_any _ _).mono ?_; rintro e w' ⟨rfl, rfl⟩)
            go_ret2; exact ⟨by rw [hm.out]; rfl, rfl⟩
          · have hm : Hid (mBreak f p c = ((f + (p - c) - 1) / (p - c), 0)) := hide (by simp at h4; simp [mBreak, h1, h2, h3, h4, h5])
            have hq0 : 0 ≤ (f + (p - c) - 1) / (p - c) := Int.ediv_nonneg (by omega) (by omega)
            have hq1 : (f + (p - c) - 1) / (p - c) ≤ f + (p - c) - 1 := Int.ediv_le_self _ (by omega)
            go_enter Try.func8, Try.ntmps8
            go_wp2_with (go_at_call 34; refine (money_any _ _).mono ?_; rintro e w' ⟨rfl, rfl⟩)
            go_ret2; exact ⟨by rw [hm.out]; rfl, rfl⟩
        · have hm : Hid (mBreak f p c = (0, 0)) := hide (by simp at h4; subst h4; simp [mBreak, h1, h2, h3])
          go_enter Try.func8, Try.ntmps8
          go_wp2_with (go_at_call 34; refine (money_any _ _).mono ?_; rintro e w' ⟨rfl, rfl⟩)
          go_ret2; exact ⟨by rw [hm.out]; rfl, rfl⟩
/-! ### the greatest of some values, the first one of several -/
def bestTo (v : Nat → Int) : Nat → Nat
  | 0 => 0
  | k + 1 => if v (bestTo v k) < v k then k else bestTo v k
theorem bestTo_lt (v : Nat → Int) {k : Nat} (h : 0 < k) : bestTo v k < k := by
  induction k with
  | zero => omega
  | succ k ih =>
    unfold bestTo
    split
    · omega
    · rcases Nat.eq_zero_or_pos k with rfl | hk
      · simp [bestTo]
      · have := ih hk; omega
theorem bestTo_one (v : Nat → Int) : bestTo v 1 = 0 := by simp [bestTo]
theorem bestTo_ge (v : Nat → Int) (k : Nat) : ∀ i, i < k → v i ≤ v (bestTo v k) := by
  induction k with
  | zero => intro i hi; omega
  | succ k ih =>
    intro i hi
    unfold bestTo
    split
    · rename_i h
      by_cases hik : i = k
      · subst hik; exact Int.le_refl _
      · have := ih i (by omega); omega
    · by_cases hik : i = k
      · subst hik; omega
      · exact ih i (by omega)
end Go.Proofs.Ytldnnlgekhjebaa
