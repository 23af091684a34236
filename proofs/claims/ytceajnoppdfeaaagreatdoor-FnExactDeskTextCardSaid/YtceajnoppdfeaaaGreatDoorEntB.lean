/- Contracts: an entry's words, its stamp and its line, the program's and the reference's. -/
import Derived.Test.YtceajnoppdfeaaaGreatDoorEntA
import Derived.Test.YtceajnoppdfeaaaGreatDoorNum
import Derived.Test.YtceajnoppdfeaaaGreatDoorWrd
namespace Go.Proofs.YtceajnoppdfeaaaGreatDoor
open Go.ChangeShapes Go.WideShapes Go.ChangeAt Go.RowKit Go.Deep
set_option maxRecDepth 100000
/-- A cell keeps what it holds behind a call. -/
theorem keepc {w w' : World} {p : Addr} {u : Value} (hb : Below w.heap.size w w') (hp : p.block < w.heap.size) (d : w.cell? p = some u) : w'.cell? p = some u := (hb.cell hp).trans d
theorem Entry.ok_iff {x : Entry} : x.ok = true ↔ (0 ≤ x.fDay ∧ x.fDay ≤ 100000) ∧ isName x.fWhat = true ∧ (-1000000 ≤ x.fValue ∧ x.fValue ≤ 1000000) := by
  simp [Entry.ok, inB_true, and_assoc]
theorem one_size (c : UInt8) : (⟨#[c]⟩ : ByteArray).size = 1 := rfl
theorem cat_run (a b : ByteArray) (h : a.size + b.size ≤ 9223372036854775807) : ∀ W : World, (Op.stringOp .add a b).run Tryz.prog W = .ok (.string (a ++ b)) W := fun W => run_string_add_sum W a b h
theorem name_size {s : ByteArray} (h : isName s = true) : s.size ≤ 12 := by
  simp [isName] at h; exact h.1.2
def entB (x : Entry) : ByteArray := decB x.fDay ++ ⟨#[32]⟩ ++ x.fWhat ++ ⟨#[32]⟩ ++ decB x.fValue
theorem entB_size {x : Entry} (hk : x.ok = true) : (entB x).size ≤ 1048576 := by
  obtain ⟨⟨b1, b2⟩, hn, b3, b4⟩ := Entry.ok_iff.1 hk
  have s1 := decB_size x.fDay (by omega) (by omega)
  have s2 := name_size hn
  have s3 := decB_size x.fValue (by omega) (by omega)
  unfold entB
  simp only [ByteArray.size_append, one_size]; omega
set_option maxHeartbeats 1000000 in
theorem iWords_any (x : Entry) (w : World) (hk : x.ok = true) (hG : Gl w) :
    Calls Tryz.prog 73 #[.agg #[.int .i64 x.fDay, .string x.fWhat, .int .i64 x.fValue]] w fun e w' => e = .returned (.string (entB x)) ∧ Below w.heap.size w w' := by
  obtain ⟨⟨b1, b2⟩, hn, b3, b4⟩ := Entry.ok_iff.1 hk
  have s1 := decB_size x.fDay (by omega) (by omega)
  have s2 := name_size hn
  have s3 := decB_size x.fValue (by omega) (by omega)
  clear hn
  have j1 := cat_run (decB x.fDay) ⟨#[32]⟩ (by simp only [one_size]; omega)
  have j2 := cat_run (decB x.fDay ++ ⟨#[32]⟩) x.fWhat (by simp only [ByteArray.size_append, one_size]; omega)
  have j3 := cat_run (decB x.fDay ++ ⟨#[32]⟩ ++ x.fWhat) ⟨#[32]⟩ (by simp only [ByteArray.size_append, one_size]; omega)
  have j4 := cat_run (decB x.fDay ++ ⟨#[32]⟩ ++ x.fWhat ++ ⟨#[32]⟩) (decB x.fValue) (by simp only [ByteArray.size_append, one_size]; omega)
  have hGh := hide hG
  clear hG hk
  have k0 : (w.alloc (.cells #[.int .i64 x.fDay, .string x.fWhat, .int .i64 x.fValue] 90)).cell? ⟨w.heap.size, 0, none⟩ = some (.int .i64 x.fDay) := by rw [cell_of_row _ _ _ _ _ _ (heap_alloc_new w _)]; rfl
  have k1 : (w.alloc (.cells #[.int .i64 x.fDay, .string x.fWhat, .int .i64 x.fValue] 90)).cell? ⟨w.heap.size, 1, none⟩ = some (.string x.fWhat) := by rw [cell_of_row _ _ _ _ _ _ (heap_alloc_new w _)]; rfl
  have k2 : (w.alloc (.cells #[.int .i64 x.fDay, .string x.fWhat, .int .i64 x.fValue] 90)).cell? ⟨w.heap.size, 2, none⟩ = some (.int .i64 x.fValue) := by rw [cell_of_row _ _ _ _ _ _ (heap_alloc_new w _)]; rfl
  have hB := hide ((Below.refl w.heap.size w).alloc (Nat.le_refl _) (.cells #[.int .i64 x.fDay, .string x.fWhat, .int .i64 x.fValue] 90))
  have hz : w.heap.size < (w.alloc (.cells #[.int .i64 x.fDay, .string x.fWhat, .int .i64 x.fValue] 90)).heap.size := by simp
  go_enter Tryz.func73, Tryz.ntmps73
  go_wp2_with fail
  obtain ⟨W1, hW1⟩ : ∃ W1, W1 = w.alloc (.cells #[.int .i64 x.fDay, .string x.fWhat, .int .i64 x.fValue] 90) := ⟨_, rfl⟩
  rw [← hW1] at k0 k1 k2 hB hz ⊢
  clear hW1
  have hd : Below W1.heap.size W1 W1.drew := below_drewN (Below.refl _ _) 1
  have hC := hide (Below.refl W1.heap.size W1)
  replace hC := hide (Below.up hC.out hd)
  replace hB := hide (Below.up hB.out hd)
  have q0 := hide k0
  have q1 := hide k1
  have q2 := hide k2
  clear hd
  go_region_held3 (fun w' => w'.cell? ⟨w.heap.size, 0, none⟩ = some (.int .i64 x.fDay) ∧ w'.cell? ⟨w.heap.size, 1, none⟩ = some (.string x.fWhat) ∧ w'.cell? ⟨w.heap.size, 2, none⟩ = some (.int .i64 x.fValue)) (first | go_keep | exact ⟨keepc hC.out hz q0.out, keepc hC.out hz q1.out, keepc hC.out hz q2.out⟩)
    (first | (go_at_call 25; refine (iDec_any _ _ (by omega) (by omega) (hGh.out.below hB.out)).mono ?_; rintro e w2 ⟨rfl, hb⟩; replace hB := hide (Below.up hB.out hb); replace hC := hide (Below.up hC.out hb); clear hb) | fail)
  all_goals go_wp2
  all_goals go_ret
  all_goals exact ⟨rfl, hB.out⟩
set_option maxHeartbeats 1000000 in
theorem sWords_any (b o : Nat) (x : Entry) (w : World) (hk : x.ok = true) (hlt : b < w.heap.size) (d0 : w.cell? ⟨b, o, none⟩ = some (.int .i64 x.fDay)) (d1 : w.cell? ⟨b, o + 1, none⟩ = some (.string x.fWhat)) (d2 : w.cell? ⟨b, o + 2, none⟩ = some (.int .i64 x.fValue)) :
    Calls Tryz.prog 83 #[.pointer (some ⟨b, o, none⟩)] w fun e w' => e = .returned (.string (entB x)) ∧ Below w.heap.size w w' := by
  obtain ⟨⟨b1, b2⟩, hn, b3, b4⟩ := Entry.ok_iff.1 hk
  have s1 := decB_size x.fDay (by omega) (by omega)
  have s2 := name_size hn
  have s3 := decB_size x.fValue (by omega) (by omega)
  clear hn hk
  have j1 := cat_run (decB x.fDay) ⟨#[32]⟩ (by simp only [one_size]; omega)
  have j2 := cat_run (decB x.fDay ++ ⟨#[32]⟩) x.fWhat (by simp only [ByteArray.size_append, one_size]; omega)
  have j3 := cat_run (decB x.fDay ++ ⟨#[32]⟩ ++ x.fWhat) ⟨#[32]⟩ (by simp only [ByteArray.size_append, one_size]; omega)
  have j4 := cat_run (decB x.fDay ++ ⟨#[32]⟩ ++ x.fWhat ++ ⟨#[32]⟩) (decB x.fValue) (by simp only [ByteArray.size_append, one_size]; omega)
  have q0 := hide d0
  have q1 := hide d1
  have q2 := hide d2
  go_enter Tryz.func83, Tryz.ntmps83
  go_wp2_with fail
  have hC := hide (below_drewN (Below.refl w.heap.size w) 1)
  go_region_held3 (fun w' => w'.cell? ⟨b, o, none⟩ = some (.int .i64 x.fDay) ∧ w'.cell? ⟨b, o + 1, none⟩ = some (.string x.fWhat) ∧ w'.cell? ⟨b, o + 2, none⟩ = some (.int .i64 x.fValue)) (first | go_keep | exact ⟨keepc hC.out hlt q0.out, keepc hC.out hlt q1.out, keepc hC.out hlt q2.out⟩)
    (first | (go_at_call 41; refine (sDec_any _ _ (by omega) (by omega)).mono ?_; rintro e w2 ⟨rfl, hb⟩; replace hC := hide (Below.up hC.out hb); clear hb) | fail)
  all_goals go_wp2
  all_goals go_ret
  all_goals exact ⟨rfl, hC.out⟩
def stF (sum : Int) (c : UInt8) : Int := (37 * sum + (c.toNat : Int)) % 65519
def stampL (before : Int) (l : List UInt8) : Int := l.foldl stF ((before + 29) % 65519)
def stampB (before : Int) (s : ByteArray) : Int := stampL before s.data.toList
theorem stampL_snoc (before : Int) (l : List UInt8) (c : UInt8) : stampL before (l ++ [c]) = (37 * stampL before l + (c.toNat : Int)) % 65519 := by simp [stampL, List.foldl_append, stF]
theorem foldl_stF (l : List UInt8) : ∀ x : Int, 0 ≤ x → x ≤ 65518 → 0 ≤ l.foldl stF x ∧ l.foldl stF x ≤ 65518 := by
  induction l with
  | nil => intro x h1 h2; exact ⟨h1, h2⟩
  | cons c l ih => intro x _ _; exact ih _ (by unfold stF; omega) (by unfold stF; omega)
theorem stampL_range (before : Int) (l : List UInt8) : 0 ≤ stampL before l ∧ stampL before l ≤ 65518 := foldl_stF l _ (by omega) (by omega)
theorem stampB_range (before : Int) (s : ByteArray) : 0 ≤ stampB before s ∧ stampB before s ≤ 65518 := stampL_range _ _
theorem stamp_take (before : Int) (s : ByteArray) {k : Nat} (h : k < s.size) : stampL before (s.data.toList.take (k + 1)) = (37 * stampL before (s.data.toList.take k) + (s[k].toNat : Int)) % 65519 := by
  rw [take_snoc (get_list s k h), stampL_snoc]
theorem stamp_all (before : Int) (s : ByteArray) : stampL before (s.data.toList.take s.size) = stampB before s := by
  rw [List.take_of_length_le (by rw [size_list]; exact Nat.le_refl _)]; rfl
set_option maxHeartbeats 1000000 in
theorem sStamp_any (before : Int) (s : ByteArray) (w : World) (h0 : 0 ≤ before) (h1 : before ≤ 65518) (hs : s.size ≤ 1048576) :
    Calls Tryz.prog 82 #[.int .i64 before, .string s] w fun e w' => e = .returned (.int .i64 (stampB before s)) ∧ w = w' := by
  go_enter Tryz.func82, Tryz.ntmps82
  go_wp2
  go_loopw [5, 6] (fun m i wr => ∃ k : Nat, k ≤ s.size ∧ i = .int .i64 k ∧ m = .int .i64 (stampL before (s.data.toList.take k)) ∧ w = wr) (fun _ i _ => s.size - (intOf i).toNat)
  case atStart => exact ⟨0, Nat.zero_le _, rfl, rfl, rfl⟩
  case round =>
    obtain ⟨k, hk, rfl, rfl, rfl⟩ := hrel
    obtain ⟨r1, r2⟩ := stampL_range before (s.data.toList.take k)
    by_cases hlt : k < s.size
    · have hS := hide (stamp_take before s hlt)
      obtain ⟨X, hX⟩ : ∃ X, X = stampL before (s.data.toList.take k) := ⟨_, rfl⟩
      rw [← hX] at hS r1 r2 ⊢
      clear hX
      have hu : (s[k].toNat : Int) ≤ 255 := by have := s[k].toNat_lt; omega
      go_wp2
      go_round
      case rel => exact ⟨k + 1, by omega, by go_num, by rw [hS.out], trivial⟩
      case measure => simp [intOf]; omega
    · have hkn : k = s.size := by omega
      subst hkn
      have hA := hide (stamp_all before s)
      go_wp2
      go_ret
      exact ⟨ret1 hA.out, rfl⟩
set_option maxHeartbeats 1000000 in
theorem iStamp_any (before : Int) (x : Entry) (w : World) (h0 : 0 ≤ before) (h1 : before ≤ 65518) (hk : x.ok = true) (hG : Gl w) :
    Calls Tryz.prog 60 #[.int .i64 before, .agg #[.int .i64 x.fDay, .string x.fWhat, .int .i64 x.fValue]] w fun e w' => e = .returned (.int .i64 (stampB before (entB x))) ∧ Below w.heap.size w w' := by
  have hs : (entB x).size ≤ 1048576 := entB_size hk
  have hB := hide ((Below.refl w.heap.size w).alloc (Nat.le_refl _) (.cells #[.int .i64 x.fDay, .string x.fWhat, .int .i64 x.fValue] 90))
  have hc := hide (iWords_any x _ hk (hG.below hB.out))
  clear hG hk
  go_enter Tryz.func60, Tryz.ntmps60
  go_wp2_with (go_at_call 73; refine hc.out.mono ?_; rintro e w1 ⟨rfl, hb⟩; replace hB := hide (Below.up hB.out hb); clear hb hc)
  obtain ⟨s, hss⟩ : ∃ s, s = entB x := ⟨_, rfl⟩
  rw [← hss] at hs ⊢
  have hSS := hide hss
  clear hss
  go_loopw [6, 15] (fun m i wr => ∃ k : Nat, k ≤ s.size ∧ i = .int .i64 k ∧ m = .int .i64 (stampL before (s.data.toList.take k)) ∧ w1 = wr) (fun _ i _ => s.size - (intOf i).toNat)
  case atStart => exact ⟨0, Nat.zero_le _, rfl, rfl, rfl⟩
  case round =>
    obtain ⟨k, hk, rfl, rfl, rfl⟩ := hrel
    obtain ⟨r1, r2⟩ := stampL_range before (s.data.toList.take k)
    by_cases hlt : k < s.size
    · have hS := hide (stamp_take before s hlt)
      obtain ⟨X, hX⟩ : ∃ X, X = stampL before (s.data.toList.take k) := ⟨_, rfl⟩
      rw [← hX] at hS r1 r2 ⊢
      clear hX
      have hu : (s[k].toNat : Int) ≤ 255 := by have := s[k].toNat_lt; omega
      go_wp2
      go_round
      case rel => exact ⟨k + 1, by omega, by go_num, by rw [hS.out], trivial⟩
      case measure => simp [intOf]; omega
    · have hkn : k = s.size := by omega
      subst hkn
      have hA := hide (stamp_all before s)
      go_wp2
      go_ret
      exact ⟨ret1 (by rw [← hSS.out]; exact hA.out), hB.out⟩
def lineB (st : Int) (x : Entry) : ByteArray := entB x ++ ⟨#[32]⟩ ++ decB st ++ ⟨#[10]⟩
theorem lineB_size {st : Int} {x : Entry} (h0 : 0 ≤ st) (h1 : st ≤ 65518) (hk : x.ok = true) : (lineB st x).size ≤ 2000000 := by
  have s1 := decB_size st (by omega) (by omega)
  have s2 := entB_size hk
  unfold lineB
  simp only [ByteArray.size_append, one_size]; omega
set_option maxHeartbeats 1000000 in
theorem iLine_any (before : Int) (x : Entry) (w : World) (h0 : 0 ≤ before) (h1 : before ≤ 65518) (hk : x.ok = true) (hG : Gl w) :
    Calls Tryz.prog 59 #[.int .i64 before, .agg #[.int .i64 x.fDay, .string x.fWhat, .int .i64 x.fValue]] w fun e w' => e = .returned (.string (lineB (stampB before (entB x)) x)) ∧ Below w.heap.size w w' := by
  obtain ⟨r1, r2⟩ := stampB_range before (entB x)
  have s1 := entB_size hk
  have hst := hide (rfl : stampB before (entB x) = _)
  have hi := fun W hg => hide (iStamp_any before x W h0 h1 hk hg)
  have hw := fun W hg => hide (iWords_any x W hk hg)
  have hI := hide hi
  have hW := hide hw
  clear hi hw hst
  obtain ⟨st, hs0⟩ : ∃ st, st = stampB before (entB x) := ⟨_, rfl⟩
  rw [← hs0] at r1 r2 hI ⊢
  clear hs0
  have s2 := decB_size st (by omega) (by omega)
  obtain ⟨E, hE⟩ : ∃ E, E = entB x := ⟨_, rfl⟩
  unfold lineB
  rw [← hE] at s1 hW ⊢
  clear hE hk
  have j1 := cat_run E ⟨#[32]⟩ (by simp only [one_size]; omega)
  have j2 := cat_run (E ++ ⟨#[32]⟩) (decB st) (by simp only [ByteArray.size_append, one_size]; omega)
  have j3 := cat_run (E ++ ⟨#[32]⟩ ++ decB st) ⟨#[10]⟩ (by simp only [ByteArray.size_append, one_size]; omega)
  have hGh := hide hG
  clear hG
  have k0 : (w.alloc (.cells #[.int .i64 x.fDay, .string x.fWhat, .int .i64 x.fValue] 90)).cell? ⟨w.heap.size, 0, none⟩ = some (.int .i64 x.fDay) := by rw [cell_of_row _ _ _ _ _ _ (heap_alloc_new w _)]; rfl
  have k1 : (w.alloc (.cells #[.int .i64 x.fDay, .string x.fWhat, .int .i64 x.fValue] 90)).cell? ⟨w.heap.size, 1, none⟩ = some (.string x.fWhat) := by rw [cell_of_row _ _ _ _ _ _ (heap_alloc_new w _)]; rfl
  have k2 : (w.alloc (.cells #[.int .i64 x.fDay, .string x.fWhat, .int .i64 x.fValue] 90)).cell? ⟨w.heap.size, 2, none⟩ = some (.int .i64 x.fValue) := by rw [cell_of_row _ _ _ _ _ _ (heap_alloc_new w _)]; rfl
  have hB := hide ((Below.refl w.heap.size w).alloc (Nat.le_refl _) (.cells #[.int .i64 x.fDay, .string x.fWhat, .int .i64 x.fValue] 90))
  have hz : w.heap.size < (w.alloc (.cells #[.int .i64 x.fDay, .string x.fWhat, .int .i64 x.fValue] 90)).heap.size := by simp
  go_enter Tryz.func59, Tryz.ntmps59
  go_wp2_with fail
  obtain ⟨W1, hW1⟩ : ∃ W1, W1 = w.alloc (.cells #[.int .i64 x.fDay, .string x.fWhat, .int .i64 x.fValue] 90) := ⟨_, rfl⟩
  rw [← hW1] at k0 k1 k2 hB hz ⊢
  clear hW1
  have hd : Below W1.heap.size W1 W1.drew := below_drewN (Below.refl _ _) 1
  have hC := hide (Below.refl W1.heap.size W1)
  replace hC := hide (Below.up hC.out hd)
  replace hB := hide (Below.up hB.out hd)
  have q0 := hide k0
  have q1 := hide k1
  have q2 := hide k2
  clear hd
  go_region_held3 (fun w' => w'.cell? ⟨w.heap.size, 0, none⟩ = some (.int .i64 x.fDay) ∧ w'.cell? ⟨w.heap.size, 1, none⟩ = some (.string x.fWhat) ∧ w'.cell? ⟨w.heap.size, 2, none⟩ = some (.int .i64 x.fValue)) (first | go_keep | exact ⟨keepc hC.out hz q0.out, keepc hC.out hz q1.out, keepc hC.out hz q2.out⟩)
    (first | (go_at_call 73; refine (hW.out _ (hGh.out.below hB.out)).out.mono ?_; rintro e w2 ⟨rfl, hb⟩; replace hB := hide (Below.up hB.out hb); replace hC := hide (Below.up hC.out hb); clear hb) | (go_at_call 60; refine (hI.out _ (hGh.out.below hB.out)).out.mono ?_; rintro e w2 ⟨rfl, hb⟩; replace hB := hide (Below.up hB.out hb); replace hC := hide (Below.up hC.out hb); clear hb) | (go_at_call 25; refine (iDec_any _ _ (by omega) (by omega) (hGh.out.below hB.out)).mono ?_; rintro e w2 ⟨rfl, hb⟩; replace hB := hide (Below.up hB.out hb); replace hC := hide (Below.up hC.out hb); clear hb) | fail)
  all_goals go_wp2
  all_goals go_ret
  all_goals exact ⟨rfl, hB.out⟩
set_option maxHeartbeats 1000000 in
theorem sLine_any (st : Int) (b o : Nat) (x : Entry) (w : World) (r1 : 0 ≤ st) (r2 : st ≤ 65518) (hk : x.ok = true) (hlt : b < w.heap.size) (d0 : w.cell? ⟨b, o, none⟩ = some (.int .i64 x.fDay)) (d1 : w.cell? ⟨b, o + 1, none⟩ = some (.string x.fWhat)) (d2 : w.cell? ⟨b, o + 2, none⟩ = some (.int .i64 x.fValue)) :
    Calls Tryz.prog 84 #[.int .i64 st, .pointer (some ⟨b, o, none⟩)] w fun e w' => e = .returned (.string (lineB st x)) ∧ Below w.heap.size w w' := by
  have s1 := entB_size hk
  have hw := hide (sWords_any b o x w hk hlt d0 d1 d2)
  have s2 := decB_size st (by omega) (by omega)
  obtain ⟨E, hE⟩ : ∃ E, E = entB x := ⟨_, rfl⟩
  unfold lineB
  rw [← hE] at s1 hw ⊢
  clear hE hk d0 d1 d2
  have j1 := cat_run E ⟨#[32]⟩ (by simp only [one_size]; omega)
  have j2 := cat_run (E ++ ⟨#[32]⟩) (decB st) (by simp only [ByteArray.size_append, one_size]; omega)
  have j3 := cat_run (E ++ ⟨#[32]⟩ ++ decB st) ⟨#[10]⟩ (by simp only [ByteArray.size_append, one_size]; omega)
  go_enter Tryz.func84, Tryz.ntmps84
  go_wp2_with (first | (go_at_call 83; refine hw.out.mono ?_; rintro e w2 ⟨rfl, hb⟩; have hB := hide hb; clear hb) | (go_at_call 41; refine (sDec_any _ _ (by omega) (by omega)).mono ?_; rintro e w3 ⟨rfl, hb⟩; have hB2 := hide (Below.up hB.out hb); clear hb))
  go_ret
  exact ⟨rfl, hB2.out⟩
end Go.Proofs.YtceajnoppdfeaaaGreatDoor
