/- Contracts of the greatest common divisor, of fractions in lowest terms, of comparing fractions (cut out of XPriceF). -/
import Derived.Test.YtnfbeobdoieeiaaDoorKit
namespace Go.Proofs.YtnfbeobdoieeiaaDoor
open Go.ChangeShapes Go.WideShapes Go.ChangeAt Go.RowKit Go.Deep

theorem emod_bound (x y : Nat) (h : 0 < y) : 0 ≤ (x : Int) % (y : Int) ∧ (x : Int) % (y : Int) < y := ⟨Int.emod_nonneg _ (by omega), Int.emod_lt_of_pos _ (by omega)⟩
theorem iDivisor_any (a b : Nat) (w : World) (ha : a ≤ 4000000000000000) (hb : b ≤ 4000000000000000) :
    Calls Tryd.prog 45 #[.int .i64 a, .int .i64 b] w fun e w' => e = .returned (.int .i64 (Nat.gcd a b)) ∧ Below w.heap.size w w' := by
  go_enter Tryd.func45, Tryd.ntmps45
  go_wp2
  go_loopw [0, 1] (fun p q wr => ∃ (x y : Nat), p = .int .i64 x ∧ q = .int .i64 y ∧ x ≤ 4000000000000000 ∧ y ≤ 4000000000000000 ∧ Below w.heap.size w wr ∧ Hid (Nat.gcd x y = Nat.gcd a b)) (fun _ q _ => (intOf q).toNat)
  case atStart => exact ⟨a, b, rfl, rfl, ha, hb, Below.refl _ _, hide rfl⟩
  case round =>
    obtain ⟨x, y, rfl, rfl, hx, hy, hbw, hz⟩ := hrel
    have hB := hide hbw
    clear hbw
    rcases Nat.eq_zero_or_pos y with h0 | h0
    · subst h0
      go_wp2
      go_ret
      exact ⟨ret1 (by have := hz.out; rw [Nat.gcd_zero_right] at this; rw [this]), hB.out⟩
    · have e1 : ((y : Int) != 0) = true := by simp; omega
      have hm := emod_bound x y h0
      have hy0 : (1 : Int) ≤ (y : Int) := by omega
      have hcast : Hid ((x : Int) % (y : Int) = ((x % y : Nat) : Int)) := hide (by simp)
      have hlt := Nat.mod_lt x h0
      go_wp2
      go_quiet (fail)
      go_wp2
      go_roundw
      case rel => exact ⟨y, x % y, rfl, by rw [← hcast.out], by omega, by omega, below_drewN hB.out _, hide (by rw [← hz.out, Nat.gcd_comm x y, Nat.gcd_rec y x, Nat.gcd_comm])⟩
      case measure =>
        have := hcast.out
        simp only [intOf]
        omega
theorem sGcd_any (a b : Nat) (w : World) (ha : a ≤ 4000000000000000) (hb : b ≤ 4000000000000000) :
    Calls Tryd.prog 46 #[.int .i64 a, .int .i64 b] w fun e w' => e = .returned (.int .i64 (Nat.gcd a b)) ∧ Below w.heap.size w w' := by
  go_enter Tryd.func46, Tryd.ntmps46
  go_wp2
  go_loopw [0, 1] (fun p q wr => ∃ (x y : Nat), p = .int .i64 x ∧ q = .int .i64 y ∧ x ≤ 4000000000000000 ∧ y ≤ 4000000000000000 ∧ Below w.heap.size w wr ∧ Hid (Nat.gcd x y = Nat.gcd a b)) (fun _ q _ => (intOf q).toNat)
  case atStart => exact ⟨a, b, rfl, rfl, ha, hb, Below.refl _ _, hide rfl⟩
  case round =>
    obtain ⟨x, y, rfl, rfl, hx, hy, hbw, hz⟩ := hrel
    have hB := hide hbw
    clear hbw
    rcases Nat.eq_zero_or_pos y with h0 | h0
    · subst h0
      go_wp2
      go_ret
      exact ⟨ret1 (by have := hz.out; rw [Nat.gcd_zero_right] at this; rw [this]), hB.out⟩
    · have e1 : ((y : Int) != 0) = true := by simp; omega
      have hm := emod_bound x y h0
      have hy0 : (1 : Int) ≤ (y : Int) := by omega
      have hcast : Hid ((x : Int) % (y : Int) = ((x % y : Nat) : Int)) := hide (by simp)
      have hlt := Nat.mod_lt x h0
      go_wp2
      go_roundw
      case rel => exact ⟨y, x % y, rfl, by rw [← hcast.out], by omega, by omega, hB.out, hide (by rw [← hz.out, Nat.gcd_comm x y, Nat.gcd_rec y x, Nat.gcd_comm])⟩
      case measure =>
        have := hcast.out
        simp only [intOf]
        omega
theorem sSize_any (a : Int) (w : World) (ha : -4000000000000000 ≤ a) (hb : a ≤ 4000000000000000) :
    Calls Tryd.prog 47 #[.int .i64 a] w fun e w' => e = .returned (.int .i64 a.natAbs) ∧ w = w' := by
  by_cases h : a < 0
  · have e : Hid ((a.natAbs : Int) = -a) := hide (by omega)
    go_enter Tryd.func47, Tryd.ntmps47
    go_wp2
    go_ret; exact ⟨ret1 (by rw [e.out]), rfl⟩
  · have e : Hid ((a.natAbs : Int) = a) := hide (by omega)
    go_enter Tryd.func47, Tryd.ntmps47
    go_wp2
    go_ret; exact ⟨ret1 (by rw [e.out]), rfl⟩

/-! ### lowest terms -/
def gcdI (a b : Int) : Int := (Nat.gcd a.natAbs b.natAbs : Nat)
def lowN (a b : Int) : Int := a.tdiv (gcdI a b)
def lowD (a b : Int) : Int := b.tdiv (gcdI a b)
theorem gcdI_pos {a b : Int} (h : 0 < b) : 1 ≤ gcdI a b ∧ gcdI a b ≤ b := by
  unfold gcdI
  have h1 : 0 < Nat.gcd a.natAbs b.natAbs := Nat.gcd_pos_of_pos_right _ (by omega)
  have h2 := Nat.gcd_le_right (n := b.natAbs) a.natAbs (by omega)
  omega
theorem gcdI_dvd (a b : Int) : gcdI a b ∣ a ∧ gcdI a b ∣ b := by
  unfold gcdI
  exact ⟨Int.dvd_natAbs.1 (Int.ofNat_dvd.2 (Nat.gcd_dvd_left _ _)), Int.dvd_natAbs.1 (Int.ofNat_dvd.2 (Nat.gcd_dvd_right _ _))⟩
theorem tdiv_bound {a b M : Int} (h1 : -M ≤ a) (h2 : a ≤ M) : -M ≤ a.tdiv b ∧ a.tdiv b ≤ M := by
  have := Int.natAbs_tdiv_le_natAbs a b
  omega
theorem gcdI_neg (a b : Int) : gcdI (-a) b = gcdI a b := by unfold gcdI; rw [Int.natAbs_neg]
theorem iDivisor_int (a b : Int) (w : World) (ha : 0 ≤ a ∧ a ≤ 4000000000000000) (hb : 0 ≤ b ∧ b ≤ 4000000000000000) :
    Calls Tryd.prog 45 #[.int .i64 a, .int .i64 b] w fun e w' => e = .returned (.int .i64 (gcdI a b)) ∧ Below w.heap.size w w' := by
  obtain ⟨x, rfl⟩ : ∃ m : Nat, a = m := ⟨a.toNat, by omega⟩
  obtain ⟨y, rfl⟩ : ∃ m : Nat, b = m := ⟨b.toNat, by omega⟩
  exact iDivisor_any x y w (by omega) (by omega)
theorem sGcd_int (a b : Int) (w : World) (ha : 0 ≤ a ∧ a ≤ 4000000000000000) (hb : 0 ≤ b ∧ b ≤ 4000000000000000) :
    Calls Tryd.prog 46 #[.int .i64 a, .int .i64 b] w fun e w' => e = .returned (.int .i64 (gcdI a b)) ∧ Below w.heap.size w w' := by
  obtain ⟨x, rfl⟩ : ∃ m : Nat, a = m := ⟨a.toNat, by omega⟩
  obtain ⟨y, rfl⟩ : ∃ m : Nat, b = m := ⟨b.toNat, by omega⟩
  exact sGcd_any x y w (by omega) (by omega)
theorem gcdI_abs (a b : Int) : gcdI (a.natAbs : Int) b = gcdI a b := by unfold gcdI; simp
theorem iLowest_any (a b : Int) (w : World) (h1 : -4000000000000000 ≤ a) (h2 : a ≤ 4000000000000000) (h3 : 1 ≤ b) (h4 : b ≤ 4000000000000000) :
    Calls Tryd.prog 30 #[.int .i64 a, .int .i64 b] w fun e w' => e = .returned (.agg #[.int .i64 (lowN a b), .int .i64 (lowD a b)]) ∧ Below w.heap.size w w' := by
  have hg := gcdI_pos (a := a) (b := b) (by omega)
  have hN : Hid (lowN a b = a.tdiv (gcdI a b)) := hide rfl
  have hD : Hid (lowD a b = b.tdiv (gcdI a b)) := hide rfl
  have hnb := tdiv_bound (b := gcdI a b) (M := 4000000000000000) h1 h2
  have hdb := tdiv_bound (b := gcdI a b) (a := b) (M := 4000000000000000) (by omega) h4
  have hw1 : IntKind.i64.wrap (a.tdiv (gcdI a b)) = a.tdiv (gcdI a b) := IntWalk.i64_in _ (by omega)
  have hw2 : IntKind.i64.wrap (b.tdiv (gcdI a b)) = b.tdiv (gcdI a b) := IntWalk.i64_in _ (by omega)
  have hq : ¬ gcdI a b = 0 := by omega
  by_cases ha : 0 ≤ a
  · have hm : -a ≤ a := by omega
    go_enter Tryd.func30, Tryd.ntmps30
    go_wp2_with (go_at_call 45; refine (iDivisor_int _ _ _ (by omega) (by omega)).mono ?_; rintro e w1 ⟨rfl, hb⟩; have hB := hide hb; clear hb)
    have hcell := hide (cell_later2 hB.out)
    have hB3 := below_alloc2 hB.out
    go_still_tail 6, (by kernel_rfl)
    change wpList _ _ _ _ _ w1.drew
    obtain ⟨k0, k1, z0, z1, hlt⟩ := hcell.out
    go_wp2
    exact bodyPost_ret (v := .agg #[.int .i64 (a.tdiv (gcdI a b)), .int .i64 (b.tdiv (gcdI a b))]) (by simp [results, Tryd.results30, go_sem, k0, k1]) rfl ⟨by rw [hN.out, hD.out], by go_grown⟩
  · have hm : a < -a := by omega
    have hc := fun W => hide (iDivisor_int (-a) b W (by omega) (by omega))
    simp only [gcdI_neg] at hc
    have hC := hide hc
    clear hc
    go_enter Tryd.func30, Tryd.ntmps30
    go_wp2_with (go_at_call 45; refine (hC.out _).out.mono ?_; rintro e w1 ⟨rfl, hb⟩; have hB := hide hb; clear hb)
    have hcell := hide (cell_later2 hB.out)
    have hB3 := below_alloc2 hB.out
    go_still_tail 6, (by kernel_rfl)
    change wpList _ _ _ _ _ w1.drew
    obtain ⟨k0, k1, z0, z1, hlt⟩ := hcell.out
    go_wp2
    exact bodyPost_ret (v := .agg #[.int .i64 (a.tdiv (gcdI a b)), .int .i64 (b.tdiv (gcdI a b))]) (by simp [results, Tryd.results30, go_sem, k0, k1]) rfl ⟨by rw [hN.out, hD.out], by go_grown⟩
theorem sMake_any (a b : Int) (w : World) (h1 : -4000000000000000 ≤ a) (h2 : a ≤ 4000000000000000) (h3 : 1 ≤ b) (h4 : b ≤ 4000000000000000) :
    Calls Tryd.prog 32 #[.int .i64 a, .int .i64 b] w fun e w' => e = .returned (.agg #[.int .i64 (lowN a b), .int .i64 (lowD a b)]) ∧ Below w.heap.size w w' := by
  have hg := gcdI_pos (a := a) (b := b) (by omega)
  have hN : Hid (lowN a b = a.tdiv (gcdI a b)) := hide rfl
  have hD : Hid (lowD a b = b.tdiv (gcdI a b)) := hide rfl
  have hnb := tdiv_bound (b := gcdI a b) (M := 4000000000000000) h1 h2
  have hdb := tdiv_bound (b := gcdI a b) (a := b) (M := 4000000000000000) (by omega) h4
  have hw1 : IntKind.i64.wrap (a.tdiv (gcdI a b)) = a.tdiv (gcdI a b) := IntWalk.i64_in _ (by omega)
  have hw2 : IntKind.i64.wrap (b.tdiv (gcdI a b)) = b.tdiv (gcdI a b) := IntWalk.i64_in _ (by omega)
  have hq : ¬ gcdI a b = 0 := by omega
  have hab : (a.natAbs : Int) ≤ 4000000000000000 := by omega
  have hc := fun W => hide (sGcd_int (a.natAbs : Int) b W (by omega) (by omega))
  simp only [gcdI_abs] at hc
  have hC := hide hc
  clear hc
  go_enter Tryd.func32, Tryd.ntmps32
  go_wp2_with (first | (go_at_call 47; refine (sSize_any _ _ (by omega) (by omega)).mono ?_; rintro e w1 ⟨rfl, rfl⟩) | (go_at_call 46; refine (hC.out _).out.mono ?_; rintro e w1 ⟨rfl, hb⟩; have hB := hide hb; clear hb))
  have hcell := hide (cell_later2 hB.out)
  have hB3 := below_alloc2 hB.out
  go_still_tail 6, (by kernel_rfl)
  change wpList _ _ _ _ _ w1.drew
  obtain ⟨k0, k1, z0, z1, hlt⟩ := hcell.out
  go_wp2
  exact bodyPost_ret (v := .agg #[.int .i64 (a.tdiv (gcdI a b)), .int .i64 (b.tdiv (gcdI a b))]) (by simp [results, Tryd.results32, go_sem, k0, k1]) rfl ⟨by rw [hN.out, hD.out], by go_grown⟩

end Go.Proofs.YtnfbeobdoieeiaaDoor
