/- Plain words for decimals and for texts cut at a byte: no program in sight. No statement is proved here. -/
import Derived.Test.YtpnbnhhifgcklaaDoorKit
import Derived.Lib.ItoaNum
import Derived.Lib.ItoaLen
import Derived.Lib.SplitLaws
namespace Go.Proofs.YtpnbnhhifgcklaaDoor
open Go.ChangeShapes Go.WideShapes Go.ChangeAt Go.RowKit Go.Deep

/-! ### decimals -/
/-- The digits of k laid ahead of some bytes, at most f of them. -/
def dgs : Nat → Nat → List UInt8 → List UInt8
  | 0, _, out => out
  | f + 1, k, out => if k = 0 then out else dgs f (k / 10) (UInt8.ofNat (48 + k % 10) :: out)
theorem dgs_zero (f : Nat) (out : List UInt8) : dgs f 0 out = out := by cases f <;> simp [dgs]
theorem dgs_step {f x : Nat} {out : List UInt8} (h : 0 < x) : dgs (f + 1) x out = dgs f (x / 10) (UInt8.ofNat (48 + x % 10) :: out) := by
  rw [dgs, if_neg (by omega)]
theorem dgs_dec : ∀ (f k : Nat) (out : List UInt8), k < 10 ^ f → 0 < k → dgs f k out = Lib.decDigits k ++ out
  | 0, k, out, h, h0 => by simp at h; omega
  | f + 1, k, out, h, h0 => by
    rw [dgs_step h0]
    by_cases h1 : k < 10
    · rw [show k / 10 = 0 by omega, dgs_zero, Lib.decDigits_one h1, show k % 10 = k by omega]; rfl
    · rw [Nat.pow_succ] at h
      rw [dgs_dec f (k / 10) _ (by omega) (by omega), Lib.decDigits.eq_1 k, dif_neg h1, List.append_assoc]; rfl
/-- A number as a text. -/
def decB (n : Int) : ByteArray := ⟨(Lib.itoa n).toArray⟩
theorem decB_size (n : Int) (h0 : -9223372036854775808 ≤ n) (h1 : n ≤ 9223372036854775807) : (decB n).size ≤ 21 := by
  have := Lib.itoa_length_le n h0 h1
  simpa [decB, ByteArray.size] using this
theorem decDigits_cons (u : Nat) : ∃ c r, Lib.decDigits u = c :: r ∧ 48 ≤ c.toNat ∧ c.toNat ≤ 57 := by
  induction u using Nat.strongRecOn with
  | _ u ih =>
    by_cases h : u < 10
    · refine ⟨UInt8.ofNat (48 + u), [], Lib.decDigits_one h, ?_, ?_⟩ <;> (rw [UInt8.toNat_ofNat']; omega)
    · obtain ⟨c, r, e, h1, h2⟩ := ih (u / 10) (by omega)
      exact ⟨c, r ++ [UInt8.ofNat (48 + u % 10)], by rw [Lib.decDigits, dif_neg h, e]; rfl, h1, h2⟩

/-! ### a decimal read -/
/-- Without a minus ahead. -/
def bare (l : List UInt8) : List UInt8 := match l with
  | 45 :: r => r
  | l => l
def isDig (c : UInt8) : Bool := decide (48 ≤ c.toNat) && decide (c.toNat ≤ 57)
def valOf (l : List UInt8) : Nat := l.foldl (fun n c => 10 * n + (c.toNat - 48)) 0
def rdSigned (l : List UInt8) : Int := if (bare l).length < l.length then -(valOf (bare l) : Int) else valOf (bare l)
def rdOk (l : List UInt8) : Bool := decide (1 ≤ (bare l).length) && decide ((bare l).length ≤ 18) && (bare l).all isDig && decide (Lib.itoa (rdSigned l) = l)
/-- The number that is read, 0 where there is none. -/
def rdNum (l : List UInt8) : Int := if rdOk l = true then rdSigned l else 0
theorem valOf_snoc (l : List UInt8) (c : UInt8) : valOf (l ++ [c]) = 10 * valOf l + (c.toNat - 48) := by simp [valOf, List.foldl_append]
theorem fold_lt : ∀ (l : List UInt8) (n : Nat), l.all isDig = true → l.foldl (fun n c => 10 * n + (c.toNat - 48)) n < (n + 1) * 10 ^ l.length
  | [], n, _ => by simp
  | c :: l, n, h => by
    rw [List.all_cons, Bool.and_eq_true] at h
    have h2 := h.1
    simp [isDig] at h2
    have := fold_lt l (10 * n + (c.toNat - 48)) h.2
    rw [List.foldl_cons]
    refine Nat.lt_of_lt_of_le this ?_
    rw [List.length_cons, Nat.pow_succ, Nat.mul_comm (10 ^ l.length) 10, ← Nat.mul_assoc]
    exact Nat.mul_le_mul_right _ (by omega)
theorem valOf_lt (l : List UInt8) (h : l.all isDig = true) : valOf l < 10 ^ l.length := by
  have := fold_lt l 0 h
  simpa [valOf] using this
theorem bare_le (l : List UInt8) : (bare l).length ≤ l.length ∧ l.length ≤ (bare l).length + 1 := by
  unfold bare; split <;> simp
theorem bare_minus (r : List UInt8) : bare (45 :: r) = r := rfl
theorem bare_other {l : List UInt8} (h : ∀ r, l ≠ 45 :: r) : bare l = l := by
  unfold bare; split
  · exact absurd rfl (h _)
  · rfl
theorem trimPrefix_minus (l : List UInt8) : Lib.trimPrefix l [45] = bare l := by
  unfold Lib.trimPrefix bare
  cases l with
  | nil => simp [Lib.hasPrefix]
  | cons c r =>
    by_cases h : c = 45
    · subst h; simp [Lib.hasPrefix]
    · have : Lib.hasPrefix (c :: r) [45] = false := by simp [Lib.hasPrefix, List.isPrefixOf, Ne.symm h]
      rw [this]
      simp only [Bool.false_eq_true, if_false]
      split
      · rename_i e; injection e with e _; exact absurd e h
      · rfl

/-! ### a text cut at a byte -/
/-- The pieces of a text between bytes c; 'cur' is what has been read of the first piece. -/
def spl (c : UInt8) : List UInt8 → List UInt8 → List (List UInt8)
  | cur, [] => [cur]
  | cur, b :: r => if b = c then cur :: spl c [] r else spl c (cur ++ [b]) r
/-- The pieces as texts. -/
def words (c : UInt8) (s : ByteArray) : List ByteArray := (spl c [] s.data.toList).map fun l => ⟨l.toArray⟩
theorem spl_ne (c : UInt8) (cur l : List UInt8) : spl c cur l ≠ [] := by
  induction l generalizing cur with
  | nil => simp [spl]
  | cons b r ih => unfold spl; split <;> simp [ih]
theorem spl_cons (c b : UInt8) : ∀ (cur r : List UInt8), ∀ x t, spl c cur r = x :: t → spl c (b :: cur) r = (b :: x) :: t := by
  intro cur r
  induction r generalizing cur with
  | nil =>
    intro x t h
    rw [spl, List.cons.injEq] at h
    obtain ⟨rfl, rfl⟩ := h
    rfl
  | cons a r ih =>
    intro x t h
    unfold spl at h ⊢
    by_cases e : a = c
    · rw [if_pos e] at h ⊢
      injection h with h1 h2
      rw [h1, h2]
    · rw [if_neg e] at h ⊢
      have := ih (cur ++ [a]) x t h
      simpa using this
theorem splitK_spl (c : UInt8) : ∀ l : List UInt8, Lib.splitK [c] 0 (Lib.count l [c]) l = spl c [] l
  | [] => by rw [Lib.count_one]; simp [Lib.splitK, spl]
  | b :: l => by
    have ih := splitK_spl c l
    by_cases h : b = c
    · subst h
      rw [Lib.count_cons_eq, Nat.add_comm]
      have hix : Lib.index (b :: l) [b] = 0 := by rw [Lib.index]; simp [List.isPrefixOf]
      have : Lib.splitK [b] 0 (Lib.count l [b] + 1) (b :: l) = [] :: Lib.splitK [b] 0 (Lib.count l [b]) l := by
        rw [Lib.splitK, hix]; simp
      rw [this, ih, spl, if_pos rfl]
    · rw [Lib.count_cons_ne b c l h]
      have hp : ([c] : List UInt8).isPrefixOf (b :: l) = false := by simp [List.isPrefixOf, Ne.symm h]
      have hix : Lib.index (b :: l) [c] = if Lib.index l [c] == -1 then -1 else Lib.index l [c] + 1 := by rw [Lib.index, hp]; simp
      rw [spl, if_neg h]
      have key : ∃ x t, spl c [] l = x :: t ∧ Lib.splitK [c] 0 (Lib.count l [c]) (b :: l) = (b :: x) :: t := by
        rw [← ih]
        by_cases hm : Lib.index l [c] = -1
        · have h2 : Lib.index (b :: l) [c] = -1 := by rw [hix, if_pos (beq_iff_eq.2 hm)]
          cases hk : Lib.count l [c] with
          | zero => exact ⟨l, [], rfl, rfl⟩
          | succ k => exact ⟨l, [], by rw [Lib.splitK, if_pos (beq_iff_eq.2 hm)], by rw [Lib.splitK, if_pos (beq_iff_eq.2 h2)]⟩
        · have hge := Lib.index_ge l [c]
          obtain ⟨j, hj⟩ : ∃ j : Nat, Lib.index l [c] = j := ⟨(Lib.index l [c]).toNat, by omega⟩
          have h2 : Lib.index (b :: l) [c] = ((j + 1 : Nat) : Int) := by rw [hix, if_neg (fun e => hm (beq_iff_eq.1 e)), hj]; omega
          cases hk : Lib.count l [c] with
          | zero => rw [Lib.count_hit (by simp) hj] at hk; omega
          | succ k =>
            refine ⟨l.take j, Lib.splitK [c] 0 k (l.drop (j + 1)), ?_, ?_⟩
            · rw [Lib.splitK, if_neg (fun e => hm (beq_iff_eq.1 e)), hj]; simp
            · rw [Lib.splitK, if_neg (fun e => by have := beq_iff_eq.1 e; omega), h2]; simp
      obtain ⟨x, t, h1, h2⟩ := key
      rw [h2]
      exact (spl_cons c b [] l x t h1).symm
theorem mk_data (s : ByteArray) : (⟨s.data.toList.toArray⟩ : ByteArray) = s := by obtain ⟨⟨l⟩⟩ := s; rfl
theorem splitB_words (c : UInt8) (s : ByteArray) : Lib.splitB ⟨#[c]⟩ 0 (Lib.countB s ⟨#[c]⟩) s = words c s := by
  have h1 := Lib.splitB_data ⟨#[c]⟩ 0 (Lib.countB s ⟨#[c]⟩) s
  have h2 : Lib.countB s ⟨#[c]⟩ = Lib.count s.data.toList [c] := rfl
  rw [h2] at h1 ⊢
  have h3 : (⟨#[c]⟩ : ByteArray).data.toList = [c] := rfl
  rw [h3, splitK_spl] at h1
  unfold words
  rw [← h1, List.map_map]
  have : ((fun l : List UInt8 => (⟨l.toArray⟩ : ByteArray)) ∘ fun x : ByteArray => x.data.toList) = id := by funext x; exact mk_data x
  rw [this, List.map_id]
theorem words_len (c : UInt8) (s : ByteArray) : (words c s).length = Lib.countB s ⟨#[c]⟩ + 1 := by
  rw [← splitB_words]
  exact Lib.splitB_all ⟨#[c]⟩ (by simp [ByteArray.size]) 0 _ s rfl
theorem spl_bound (c : UInt8) : ∀ (cur l : List UInt8), ∀ x ∈ spl c cur l, x.length ≤ cur.length + l.length
  | cur, [], x, h => by simp [spl] at h; subst h; simp
  | cur, b :: r, x, h => by
    unfold spl at h
    split at h
    · rcases List.mem_cons.1 h with rfl | h
      · simp
      · have := spl_bound c [] r x h; simp at this ⊢; omega
    · have := spl_bound c (cur ++ [b]) r x h; simp at this ⊢; omega
theorem words_size (c : UInt8) (s : ByteArray) {x : ByteArray} (h : x ∈ words c s) : x.size ≤ s.size := by
  obtain ⟨l, hl, rfl⟩ := List.mem_map.1 h
  have := spl_bound c [] s.data.toList l hl
  have e : s.data.toList.length = s.size := by rw [Array.length_toList]; rfl
  show l.toArray.size ≤ s.size
  rw [List.size_toArray, ← e]
  simpa using this
end Go.Proofs.YtpnbnhhifgcklaaDoor
