/- Decimals read back from their own texts, texts cut at a byte; no program in sight. No statement is proved here. -/
import Derived.Test.YtpnbnhhifgcklaaDoorDig
namespace Go.Proofs.YtpnbnhhifgcklaaDoor
open Go.ChangeShapes Go.WideShapes Go.ChangeAt Go.RowKit Go.Deep
theorem decDigits_dig (u : Nat) : (Lib.decDigits u).all isDig = true := by
  induction u using Nat.strongRecOn with
  | _ u ih =>
    by_cases h : u < 10
    · rw [Lib.decDigits_one h]
      simp [isDig]; omega
    · rw [Lib.decDigits, dif_neg h, List.all_append, ih (u / 10) (by omega)]
      simp [isDig]; omega
theorem decDigits_val (u : Nat) : valOf (Lib.decDigits u) = u := by
  induction u using Nat.strongRecOn with
  | _ u ih =>
    by_cases h : u < 10
    · rw [Lib.decDigits_one h]
      simp [valOf, UInt8.toNat_ofNat']; omega
    · rw [Lib.decDigits, dif_neg h, valOf_snoc, ih (u / 10) (by omega), UInt8.toNat_ofNat']; omega
theorem decDigits_len (f : Nat) : ∀ u : Nat, u < 10 ^ (f + 1) → 1 ≤ (Lib.decDigits u).length ∧ (Lib.decDigits u).length ≤ f + 1 := by
  induction f with
  | zero =>
    intro u hu
    rw [Lib.decDigits_one (by simpa using hu)]; simp
  | succ f ih =>
    intro u hu
    by_cases h : u < 10
    · rw [Lib.decDigits_one h]; simp
    · rw [Lib.decDigits, dif_neg h, List.length_append]
      have := ih (u / 10) (by rw [Nat.pow_succ] at hu; omega)
      simp; omega
theorem isDig_ne {c : UInt8} (h : isDig c = true) : c ≠ 10 ∧ c ≠ 32 ∧ c ≠ 45 := by
  simp [isDig] at h
  refine ⟨?_, ?_, ?_⟩ <;> (intro e; subst e; revert h; decide)
theorem bare_dec (u : Nat) : bare (Lib.decDigits u) = Lib.decDigits u := by
  refine bare_other fun r h => ?_
  have := decDigits_dig u
  rw [h, List.all_cons, Bool.and_eq_true] at this
  exact (isDig_ne this.1).2.2 rfl
theorem signed_itoa (n : Int) : rdSigned (Lib.itoa n) = n ∧ ∃ u : Nat, bare (Lib.itoa n) = Lib.decDigits u ∧ (u : Int) = n.natAbs := by
  unfold Lib.itoa
  by_cases h : n < 0
  · rw [if_pos h]
    refine ⟨?_, n.natAbs, bare_minus _, rfl⟩
    unfold rdSigned
    rw [bare_minus, if_pos (by simp), decDigits_val]; omega
  · rw [if_neg h]
    refine ⟨?_, n.toNat, bare_dec _, by omega⟩
    unfold rdSigned
    rw [bare_dec, if_neg (by omega), decDigits_val]; omega
/-- The text of a number of at most 18 digits reads as that number. -/
theorem rd_itoa {n : Int} (h0 : -1000000000000000000 < n) (h1 : n < 1000000000000000000) : rdOk (Lib.itoa n) = true ∧ rdNum (Lib.itoa n) = n := by
  obtain ⟨hs, u, hb, hu⟩ := signed_itoa n
  have hl := decDigits_len 17 u (by have : (10 : Nat) ^ (17 + 1) = 1000000000000000000 := by decide
                                    omega)
  have hk : rdOk (Lib.itoa n) = true := by
    unfold rdOk
    rw [hs, hb, decDigits_dig, decide_eq_true hl.1, decide_eq_true (p := _ ≤ 18) (by omega), decide_eq_true rfl]; rfl
  exact ⟨hk, by unfold rdNum; rw [if_pos hk, hs]⟩
theorem itoa_chars (n : Int) : ∀ c ∈ Lib.itoa n, c ≠ 10 ∧ c ≠ 32 := by
  intro c hc
  have hd : ∀ u : Nat, c ∈ Lib.decDigits u → c ≠ 10 ∧ c ≠ 32 := fun u h => by
    have := isDig_ne (List.all_eq_true.1 (decDigits_dig u) c h)
    exact ⟨this.1, this.2.1⟩
  unfold Lib.itoa at hc
  split at hc
  · rcases List.mem_cons.1 hc with e | e
    · subst e; decide
    · exact hd _ e
  · exact hd _ hc
/-! ### pieces -/
theorem spl_no {c : UInt8} : ∀ (l cur : List UInt8), ¬ c ∈ l → spl c cur l = [cur ++ l]
  | [], cur, _ => by simp [spl]
  | b :: r, cur, h => by
    rw [spl, if_neg (fun e => h (by rw [e]; exact List.mem_cons_self)), spl_no r _ (fun e => h (List.mem_cons_of_mem _ e)), List.append_assoc]; rfl
theorem spl_to {c : UInt8} (r : List UInt8) : ∀ (l cur : List UInt8), ¬ c ∈ l → spl c cur (l ++ c :: r) = (cur ++ l) :: spl c [] r
  | [], cur, _ => by simp [spl]
  | b :: l, cur, h => by
    rw [List.cons_append, spl, if_neg (fun e => h (by rw [e]; exact List.mem_cons_self)), spl_to r l _ (fun e => h (List.mem_cons_of_mem _ e)), List.append_assoc]; rfl
end Go.Proofs.YtpnbnhhifgcklaaDoor
