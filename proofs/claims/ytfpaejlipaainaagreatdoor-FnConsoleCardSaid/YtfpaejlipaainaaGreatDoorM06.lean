/- Texts that belong together, joined: contracts and plain laws. No statement is proved here. -/
import Derived.Test.YtfpaejlipaainaaGreatDoorM05
import Derived.Deep.RegionWith
namespace Go.Proofs.YtfpaejlipaainaaGreatDoor
open Go.ChangeShapes Go.WideShapes Go.ChangeAt Go.RowKit Go.Deep
set_option maxRecDepth 100000
theorem keepc {w w' : World} {p : Addr} {u : Value} (hb : Below w.heap.size w w') (hp : p.block < w.heap.size) (d : w.cell? p = some u) : w'.cell? p = some u := (hb.cell hp).trans d
theorem Entry.ok_iff {x : Entry} : x.ok = true ↔ (0 ≤ x.fDay ∧ x.fDay ≤ 100000) ∧ isName x.fWhat = true ∧ (-1000000 ≤ x.fValue ∧ x.fValue ≤ 1000000) := by
  simp [Entry.ok, inB_true, and_assoc]
theorem one_size (c : UInt8) : (⟨#[c]⟩ : ByteArray).size = 1 := rfl
theorem cat_run (a b : ByteArray) (h : a.size + b.size ≤ 9223372036854775807) : ∀ W : World, (Op.stringOp .add a b).run Tryz.prog W = .ok (.string (a ++ b)) W := fun W => run_string_add_sum W a b h
theorem name_size {s : ByteArray} (h : isName s = true) : s.size ≤ 12 := by
  simp [isName] at h; exact h.1.2
def entB (x : Entry) : ByteArray := decB x.fDay ++ ⟨#[32]⟩ ++ x.fWhat ++ ⟨#[32]⟩ ++ decB x.fValue
theorem entB_size {x : Entry} (hk : x.ok = true) : (entB x).size ≤ 1048576 := by
  obtain ⟨⟨b1, b2⟩, hn, b3, b4⟩ := Entry.ok_iff.1 hk
  have s1 := decB_size x.fDay (by omega) (by omega)
  have s2 := name_size hn
  have s3 := decB_size x.fValue (by omega) (by omega)
  unfold entB
  simp only [ByteArray.size_append, one_size]; omega
set_option maxHeartbeats 1000000 in
theorem iWords_any (x : Entry) (w : World) (hk : x.ok = true) (hG : Gl w) :
    Calls Tryz.prog 72 #[.agg #[.int .i64 x.fDay, .string x.fWhat, .int .i64 x.fValue]] w fun e w' => e = .returned (.string (entB x)) ∧ Below w.heap.size w w' := by
  obtain ⟨⟨b1, b2⟩, hn, b3, b4⟩ := Entry.ok_iff.1 hk
  have s1 := decB_size x.fDay (by omega) (by omega)
  have s2 := name_size hn
  have s3 := decB_size x.fValue (by omega) (by omega)
  clear hn
  have j1 := cat_run (decB x.fDay) ⟨#[32]⟩ (by simp only [one_size]; omega)
  have j2 := cat_run (decB x.fDay ++ ⟨#[32]⟩) x.fWhat (by simp only [ByteArray.size_append, one_size]; omega)
  have j3 := cat_run (decB x.fDay ++ ⟨#[32]⟩ ++ x.fWhat) ⟨#[32]⟩ (by simp only [ByteArray.size_append, one_size]; omega)
  have j4 := cat_run (decB x.fDay ++ ⟨#[32]⟩ ++ x.fWhat ++ ⟨#[32]⟩) (decB x.fValue) (by simp only [ByteArray.size_append, one_size]; omega)
  have hGh := hide hG
  clear hG hk
  have k0 : (w.alloc (.cells #[.int .i64 x.fDay, .string x.fWhat, .int .i64 x.fValue] 116)).cell? ⟨w.heap.size, 0, none⟩ = some (.int .i64 x.fDay) := by rw [cell_of_row _ _ _ _ _ _ (heap_alloc_new w _)]; rfl
  have k1 : (w.alloc (.cells #[.int .i64 x.fDay, .string x.fWhat, .int .i64 x.fValue] 116)).cell? ⟨w.heap.size, 1, none⟩ = some (.string x.fWhat) := by rw [cell_of_row _ _ _ _ _ _ (heap_alloc_new w _)]; rfl
  have k2 : (w.alloc (.cells #[.int .i64 x.fDay, .string x.fWhat, .int .i64 x.fValue] 116)).cell? ⟨w.heap.size, 2, none⟩ = some (.int .i64 x.fValue) := by rw [cell_of_row _ _ _ _ _ _ (heap_alloc_new w _)]; rfl
  have hB := hide ((Below.refl w.heap.size w).alloc (Nat.le_refl _) (.cells #[.int .i64 x.fDay, .string x.fWhat, .int .i64 x.fValue] 116))
  have hz : w.heap.size < (w.alloc (.cells #[.int .i64 x.fDay, .string x.fWhat, .int .i64 x.fValue] 116)).heap.size := by simp
  go_enter Tryz.func72, Tryz.ntmps72
  go_wp2_with fail
  obtain ⟨W1, hW1⟩ : ∃ W1, W1 = w.alloc (.cells #[.int .i64 x.fDay, .string x.fWhat, .int .i64 x.fValue] 116) := ⟨_, rfl⟩
  rw [← hW1] at k0 k1 k2 hB hz ⊢
  clear hW1
  have hd : Below W1.heap.size W1 W1.drew := below_drewN (Below.refl _ _) 1
  have hC := hide (Below.refl W1.heap.size W1)
  replace hC := hide (Below.up hC.out hd)
  replace hB := hide (Below.up hB.out hd)
  have q0 := hide k0
  have q1 := hide k1
  have q2 := hide k2
  clear hd
  go_region_held3 (fun w' => w'.cell? ⟨w.heap.size, 0, none⟩ = some (.int .i64 x.fDay) ∧ w'.cell? ⟨w.heap.size, 1, none⟩ = some (.string x.fWhat) ∧ w'.cell? ⟨w.heap.size, 2, none⟩ = some (.int .i64 x.fValue)) (first | go_keep | exact ⟨keepc hC.out hz q0.out, keepc hC.out hz q1.out, keepc hC.out hz q2.out⟩)
    (first | (go_at_call 36; refine (iDec_any _ _ (by omega) (by omega) (hGh.out.below hB.out)).mono ?_; rintro e w2 ⟨rfl, hb⟩; replace hB := hide (Below.up hB.out hb); replace hC := hide (Below.up hC.out hb); clear hb) | fail)
  all_goals go_wp2
  all_goals go_ret
  all_goals exact ⟨rfl, hB.out⟩
set_option maxHeartbeats 1000000 in
theorem sWords_any (b o : Nat) (x : Entry) (w : World) (hk : x.ok = true) (hlt : b < w.heap.size) (d0 : w.cell? ⟨b, o, none⟩ = some (.int .i64 x.fDay)) (d1 : w.cell? ⟨b, o + 1, none⟩ = some (.string x.fWhat)) (d2 : w.cell? ⟨b, o + 2, none⟩ = some (.int .i64 x.fValue)) :
    Calls Tryz.prog 157 #[.pointer (some ⟨b, o, none⟩)] w fun e w' => e = .returned (.string (entB x)) ∧ Below w.heap.size w w' := by
  obtain ⟨⟨b1, b2⟩, hn, b3, b4⟩ := Entry.ok_iff.1 hk
  have s1 := decB_size x.fDay (by omega) (by omega)
  have s2 := name_size hn
  have s3 := decB_size x.fValue (by omega) (by omega)
  clear hn hk
  have j1 := cat_run (decB x.fDay) ⟨#[32]⟩ (by simp only [one_size]; omega)
  have j2 := cat_run (decB x.fDay ++ ⟨#[32]⟩) x.fWhat (by simp only [ByteArray.size_append, one_size]; omega)
  have j3 := cat_run (decB x.fDay ++ ⟨#[32]⟩ ++ x.fWhat) ⟨#[32]⟩ (by simp only [ByteArray.size_append, one_size]; omega)
  have j4 := cat_run (decB x.fDay ++ ⟨#[32]⟩ ++ x.fWhat ++ ⟨#[32]⟩) (decB x.fValue) (by simp only [ByteArray.size_append, one_size]; omega)
  have q0 := hide d0
  have q1 := hide d1
  have q2 := hide d2
  go_enter Tryz.func157, Tryz.ntmps157
  go_wp2_with fail
  have hC := hide (below_drewN (Below.refl w.heap.size w) 1)
  go_region_held3 (fun w' => w'.cell? ⟨b, o, none⟩ = some (.int .i64 x.fDay) ∧ w'.cell? ⟨b, o + 1, none⟩ = some (.string x.fWhat) ∧ w'.cell? ⟨b, o + 2, none⟩ = some (.int .i64 x.fValue)) (first | go_keep | exact ⟨keepc hC.out hlt q0.out, keepc hC.out hlt q1.out, keepc hC.out hlt q2.out⟩)
    (first | (go_at_call 148; refine (sDec_any _ _ (by omega) (by omega)).mono ?_; rintro e w2 ⟨rfl, hb⟩; replace hC := hide (Below.up hC.out hb); clear hb) | fail)
  all_goals go_wp2
  all_goals go_ret
  all_goals exact ⟨rfl, hC.out⟩
def stF (sum : Int) (c : UInt8) : Int := (37 * sum + (c.toNat : Int)) % 65519
def stampL (before : Int) (l : List UInt8) : Int := l.foldl stF ((before + 29) % 65519)
def stampB (before : Int) (s : ByteArray) : Int := stampL before s.data.toList
theorem stampL_snoc (before : Int) (l : List UInt8) (c : UInt8) : stampL before (l ++ [c]) = (37 * stampL before l + (c.toNat : Int)) % 65519 := by simp [stampL, List.foldl_append, stF]
theorem foldl_stF (l : List UInt8) : ∀ x : Int, 0 ≤ x → x ≤ 65518 → 0 ≤ l.foldl stF x ∧ l.foldl stF x ≤ 65518 := by
  induction l with
  | nil => intro x h1 h2; exact ⟨h1, h2⟩
  | cons c l ih => intro x _ _; exact ih _ (by unfold stF; omega) (by unfold stF; omega)
theorem stampL_range (before : Int) (l : List UInt8) : 0 ≤ stampL before l ∧ stampL before l ≤ 65518 := foldl_stF l _ (by omega) (by omega)
theorem stampB_range (before : Int) (s : ByteArray) : 0 ≤ stampB before s ∧ stampB before s ≤ 65518 := stampL_range _ _
theorem stamp_take (before : Int) (s : ByteArray) {k : Nat} (h : k < s.size) : stampL before (s.data.toList.take (k + 1)) = (37 * stampL before (s.data.toList.take k) + (s[k].toNat : Int)) % 65519 := by
  rw [take_snoc (get_list s k h), stampL_snoc]
theorem stamp_all (before : Int) (s : ByteArray) : stampL before (s.data.toList.take s.size) = stampB before s := by
  rw [List.take_of_length_le (by rw [size_list]; exact Nat.le_refl _)]; rfl
set_option maxHeartbeats 1000000 in
theorem sStamp_any (before : Int) (s : ByteArray) (w : World) (h0 : 0 ≤ before) (h1 : before ≤ 65518) (hs : s.size ≤ 1048576) :
    Calls Tryz.prog 210 #[.int .i64 before, .string s] w fun e w' => e = .returned (.int .i64 (stampB before s)) ∧ w = w' := by
  go_enter Tryz.func210, Tryz.ntmps210
  go_wp2
  go_loopw [5, 6] (fun m i wr => ∃ k : Nat, k ≤ s.size ∧ i = .int .i64 k ∧ m = .int .i64 (stampL before (s.data.toList.take k)) ∧ w = wr) (fun _ i _ => s.size - (intOf i).toNat)
  case atStart => exact ⟨0, Nat.zero_le _, rfl, rfl, rfl⟩
  case round =>
    obtain ⟨k, hk, rfl, rfl, rfl⟩ := hrel
    obtain ⟨r1, r2⟩ := stampL_range before (s.data.toList.take k)
    by_cases hlt : k < s.size
    · have hS := hide (stamp_take before s hlt)
      obtain ⟨X, hX⟩ : ∃ X, X = stampL before (s.data.toList.take k) := ⟨_, rfl⟩
      rw [← hX] at hS r1 r2 ⊢
      clear hX
      have hu : (s[k].toNat : Int) ≤ 255 := by have := s[k].toNat_lt; omega
      go_wp2
      go_round
      case rel => exact ⟨k + 1, by omega, by go_num, by rw [hS.out], trivial⟩
      case measure => simp [intOf]; omega
    · have hkn : k = s.size := by omega
      subst hkn
      have hA := hide (stamp_all before s)
      go_wp2
      go_ret
      exact ⟨ret1 hA.out, rfl⟩
set_option maxHeartbeats 1000000 in
theorem iStamp_any (before : Int) (x : Entry) (w : World) (h0 : 0 ≤ before) (h1 : before ≤ 65518) (hk : x.ok = true) (hG : Gl w) :
    Calls Tryz.prog 173 #[.int .i64 before, .agg #[.int .i64 x.fDay, .string x.fWhat, .int .i64 x.fValue]] w fun e w' => e = .returned (.int .i64 (stampB before (entB x))) ∧ Below w.heap.size w w' := by
  have hs : (entB x).size ≤ 1048576 := entB_size hk
  have hB := hide ((Below.refl w.heap.size w).alloc (Nat.le_refl _) (.cells #[.int .i64 x.fDay, .string x.fWhat, .int .i64 x.fValue] 116))
  have hc := hide (iWords_any x _ hk (hG.below hB.out))
  clear hG hk
  go_enter Tryz.func173, Tryz.ntmps173
  go_wp2_with (go_at_call 72; refine hc.out.mono ?_; rintro e w1 ⟨rfl, hb⟩; replace hB := hide (Below.up hB.out hb); clear hb hc)
  obtain ⟨s, hss⟩ : ∃ s, s = entB x := ⟨_, rfl⟩
  rw [← hss] at hs ⊢
  have hSS := hide hss
  clear hss
  go_loopw [6, 15] (fun m i wr => ∃ k : Nat, k ≤ s.size ∧ i = .int .i64 k ∧ m = .int .i64 (stampL before (s.data.toList.take k)) ∧ w1 = wr) (fun _ i _ => s.size - (intOf i).toNat)
  case atStart => exact ⟨0, Nat.zero_le _, rfl, rfl, rfl⟩
  case round =>
    obtain ⟨k, hk, rfl, rfl, rfl⟩ := hrel
    obtain ⟨r1, r2⟩ := stampL_range before (s.data.toList.take k)
    by_cases hlt : k < s.size
    · have hS := hide (stamp_take before s hlt)
      obtain ⟨X, hX⟩ : ∃ X, X = stampL before (s.data.toList.take k) := ⟨_, rfl⟩
      rw [← hX] at hS r1 r2 ⊢
      clear hX
      have hu : (s[k].toNat : Int) ≤ 255 := by have := s[k].toNat_lt; omega
      go_wp2
      go_round
      case rel => exact ⟨k + 1, by omega, by go_num, by rw [hS.out], trivial⟩
      case measure => simp [intOf]; omega
    · have hkn : k = s.size := by omega
      subst hkn
      have hA := hide (stamp_all before s)
      go_wp2
      go_ret
      exact ⟨ret1 (by rw [← hSS.out]; exact hA.out), hB.out⟩
def lineB (st : Int) (x : Entry) : ByteArray := entB x ++ ⟨#[32]⟩ ++ decB st ++ ⟨#[10]⟩
theorem lineB_size {st : Int} {x : Entry} (h0 : 0 ≤ st) (h1 : st ≤ 65518) (hk : x.ok = true) : (lineB st x).size ≤ 2000000 := by
  have s1 := decB_size st (by omega) (by omega)
  have s2 := entB_size hk
  unfold lineB
  simp only [ByteArray.size_append, one_size]; omega
set_option maxHeartbeats 1000000 in
theorem iLine_any (before : Int) (x : Entry) (w : World) (h0 : 0 ≤ before) (h1 : before ≤ 65518) (hk : x.ok = true) (hG : Gl w) :
    Calls Tryz.prog 125 #[.int .i64 before, .agg #[.int .i64 x.fDay, .string x.fWhat, .int .i64 x.fValue]] w fun e w' => e = .returned (.string (lineB (stampB before (entB x)) x)) ∧ Below w.heap.size w w' := by
  obtain ⟨r1, r2⟩ := stampB_range before (entB x)
  have s1 := entB_size hk
  have hst := hide (rfl : stampB before (entB x) = _)
  have hi := fun W hg => hide (iStamp_any before x W h0 h1 hk hg)
  have hw := fun W hg => hide (iWords_any x W hk hg)
  have hI := hide hi
  have hW := hide hw
  clear hi hw hst
  obtain ⟨st, hs0⟩ : ∃ st, st = stampB before (entB x) := ⟨_, rfl⟩
  rw [← hs0] at r1 r2 hI ⊢
  clear hs0
  have s2 := decB_size st (by omega) (by omega)
  obtain ⟨E, hE⟩ : ∃ E, E = entB x := ⟨_, rfl⟩
  unfold lineB
  rw [← hE] at s1 hW ⊢
  clear hE hk
  have j1 := cat_run E ⟨#[32]⟩ (by simp only [one_size]; omega)
  have j2 := cat_run (E ++ ⟨#[32]⟩) (decB st) (by simp only [ByteArray.size_append, one_size]; omega)
  have j3 := cat_run (E ++ ⟨#[32]⟩ ++ decB st) ⟨#[10]⟩ (by simp only [ByteArray.size_append, one_size]; omega)
  have hGh := hide hG
  clear hG
  have k0 : (w.alloc (.cells #[.int .i64 x.fDay, .string x.fWhat, .int .i64 x.fValue] 116)).cell? ⟨w.heap.size, 0, none⟩ = some (.int .i64 x.fDay) := by rw [cell_of_row _ _ _ _ _ _ (heap_alloc_new w _)]; rfl
  have k1 : (w.alloc (.cells #[.int .i64 x.fDay, .string x.fWhat, .int .i64 x.fValue] 116)).cell? ⟨w.heap.size, 1, none⟩ = some (.string x.fWhat) := by rw [cell_of_row _ _ _ _ _ _ (heap_alloc_new w _)]; rfl
  have k2 : (w.alloc (.cells #[.int .i64 x.fDay, .string x.fWhat, .int .i64 x.fValue] 116)).cell? ⟨w.heap.size, 2, none⟩ = some (.int .i64 x.fValue) := by rw [cell_of_row _ _ _ _ _ _ (heap_alloc_new w _)]; rfl
  have hB := hide ((Below.refl w.heap.size w).alloc (Nat.le_refl _) (.cells #[.int .i64 x.fDay, .string x.fWhat, .int .i64 x.fValue] 116))
  have hz : w.heap.size < (w.alloc (.cells #[.int .i64 x.fDay, .string x.fWhat, .int .i64 x.fValue] 116)).heap.size := by simp
  go_enter Tryz.func125, Tryz.ntmps125
  go_wp2_with fail
  obtain ⟨W1, hW1⟩ : ∃ W1, W1 = w.alloc (.cells #[.int .i64 x.fDay, .string x.fWhat, .int .i64 x.fValue] 116) := ⟨_, rfl⟩
  rw [← hW1] at k0 k1 k2 hB hz ⊢
  clear hW1
  have hd : Below W1.heap.size W1 W1.drew := below_drewN (Below.refl _ _) 1
  have hC := hide (Below.refl W1.heap.size W1)
  replace hC := hide (Below.up hC.out hd)
  replace hB := hide (Below.up hB.out hd)
  have q0 := hide k0
  have q1 := hide k1
  have q2 := hide k2
  clear hd
  go_region_held3 (fun w' => w'.cell? ⟨w.heap.size, 0, none⟩ = some (.int .i64 x.fDay) ∧ w'.cell? ⟨w.heap.size, 1, none⟩ = some (.string x.fWhat) ∧ w'.cell? ⟨w.heap.size, 2, none⟩ = some (.int .i64 x.fValue)) (first | go_keep | exact ⟨keepc hC.out hz q0.out, keepc hC.out hz q1.out, keepc hC.out hz q2.out⟩)
    (first | (go_at_call 72; refine (hW.out _ (hGh.out.below hB.out)).out.mono ?_; rintro e w2 ⟨rfl, hb⟩; replace hB := hide (Below.up hB.out hb); replace hC := hide (Below.up hC.out hb); clear hb) | (go_at_call 173; refine (hI.out _ (hGh.out.below hB.out)).out.mono ?_; rintro e w2 ⟨rfl, hb⟩; replace hB := hide (Below.up hB.out hb); replace hC := hide (Below.up hC.out hb); clear hb) | (go_at_call 36; refine (iDec_any _ _ (by omega) (by omega) (hGh.out.below hB.out)).mono ?_; rintro e w2 ⟨rfl, hb⟩; replace hB := hide (Below.up hB.out hb); replace hC := hide (Below.up hC.out hb); clear hb) | fail)
  all_goals go_wp2
  all_goals go_ret
  all_goals exact ⟨rfl, hB.out⟩
set_option maxHeartbeats 1000000 in
theorem sLine_any (st : Int) (b o : Nat) (x : Entry) (w : World) (r1 : 0 ≤ st) (r2 : st ≤ 65518) (hk : x.ok = true) (hlt : b < w.heap.size) (d0 : w.cell? ⟨b, o, none⟩ = some (.int .i64 x.fDay)) (d1 : w.cell? ⟨b, o + 1, none⟩ = some (.string x.fWhat)) (d2 : w.cell? ⟨b, o + 2, none⟩ = some (.int .i64 x.fValue)) :
    Calls Tryz.prog 209 #[.int .i64 st, .pointer (some ⟨b, o, none⟩)] w fun e w' => e = .returned (.string (lineB st x)) ∧ Below w.heap.size w w' := by
  have s1 := entB_size hk
  have hw := hide (sWords_any b o x w hk hlt d0 d1 d2)
  have s2 := decB_size st (by omega) (by omega)
  obtain ⟨E, hE⟩ : ∃ E, E = entB x := ⟨_, rfl⟩
  unfold lineB
  rw [← hE] at s1 hw ⊢
  clear hE hk d0 d1 d2
  have j1 := cat_run E ⟨#[32]⟩ (by simp only [one_size]; omega)
  have j2 := cat_run (E ++ ⟨#[32]⟩) (decB st) (by simp only [ByteArray.size_append, one_size]; omega)
  have j3 := cat_run (E ++ ⟨#[32]⟩ ++ decB st) ⟨#[10]⟩ (by simp only [ByteArray.size_append, one_size]; omega)
  go_enter Tryz.func209, Tryz.ntmps209
  go_wp2_with (first | (go_at_call 157; refine hw.out.mono ?_; rintro e w2 ⟨rfl, hb⟩; have hB := hide hb; clear hb) | (go_at_call 148; refine (sDec_any _ _ (by omega) (by omega)).mono ?_; rintro e w3 ⟨rfl, hb⟩; have hB2 := hide (Below.up hB.out hb); clear hb))
  go_ret
  exact ⟨rfl, hB2.out⟩
end Go.Proofs.YtfpaejlipaainaaGreatDoor
namespace Go.Proofs.YtfpaejlipaainaaGreatDoor
open Go.ChangeShapes Go.WideShapes Go.ChangeAt Go.RowKit Go.Deep
def wdEnt (a b c : List UInt8) : Entry := ⟨rdNum a, ⟨b.toArray⟩, rdNum c⟩
def entOf (l : List UInt8) : Option Entry := match spl 32 [] l with
  | [a, b, c, _] => if rdOk a = true ∧ rdOk c = true ∧ (wdEnt a b c).ok = true then some (wdEnt a b c) else none
  | _ => none
def lineOf (l : List UInt8) : Option (List UInt8) := if 10 ∈ l then some (l.takeWhile (· ≠ 10)) else none
def okLine (st day : Int) (l : List UInt8) (e : Entry) : Bool := decide (day ≤ e.fDay) && decide (lineB (stampB st (entB e)) e = ⟨(l ++ [10]).toArray⟩)
def stepOf (st day : Int) (rest : List UInt8) : Option (Entry × List UInt8) := match lineOf rest with
  | none => none
  | some l => match entOf l with
    | none => none
    | some e => if okLine st day l e = true then some (e, l) else none
def readK : Nat → List UInt8 → Int → Int → List Entry × Nat × Int
  | 0, _, st, _ => ([], 0, st)
  | f + 1, rest, st, day => match stepOf st day rest with
    | none => ([], 0, st)
    | some (e, l) =>
      let r := readK f (rest.drop (l.length + 1)) (stampB st (entB e)) e.fDay
      (e :: r.1, l.length + 1 + r.2.1, r.2.2)
def rdLog (s : ByteArray) : List Entry × Nat × Int := readK (s.size + 1) s.data.toList 0 0
def LogInv (s : ByteArray) (done : List Entry) (at_ : Nat) (st day : Int) : Prop :=
  at_ ≤ s.size ∧ ∃ f, s.size - at_ < f ∧ rdLog s = (done ++ (readK f (s.data.toList.drop at_) st day).1, at_ + (readK f (s.data.toList.drop at_) st day).2.1, (readK f (s.data.toList.drop at_) st day).2.2)
theorem log_start (s : ByteArray) : LogInv s [] 0 0 0 := ⟨Nat.zero_le _, s.size + 1, by omega, by simp [rdLog]⟩
theorem lineOf_len {l x : List UInt8} (h : lineOf l = some x) : x.length + 1 ≤ l.length := by
  unfold lineOf at h
  split at h
  · rename_i hm
    injection h with h
    subst h
    induction l with
    | nil => cases hm
    | cons c r ih =>
      rw [List.takeWhile_cons]
      by_cases hc : c = 10
      · subst hc; simp
      · have : decide (c ≠ 10) = true := decide_eq_true hc
        rw [if_pos this]
        have hr : 10 ∈ r := by
          rcases List.mem_cons.1 hm with e | e
          · exact absurd e.symm hc
          · exact e
        have := ih hr
        simp only [List.length_cons]; omega
  · cases h
theorem log_step {s : ByteArray} {done : List Entry} {at_ : Nat} {st day : Int} {e : Entry} {l : List UInt8} (h : LogInv s done at_ st day) (hs : stepOf st day (s.data.toList.drop at_) = some (e, l)) :
    LogInv s (done ++ [e]) (at_ + (l.length + 1)) (stampB st (entB e)) e.fDay := by
  obtain ⟨h1, f, h2, h3⟩ := h
  have hl : l.length + 1 ≤ s.size - at_ := by
    unfold stepOf at hs
    split at hs
    · cases hs
    · rename_i x hx
      have := lineOf_len hx
      rw [List.length_drop, size_list] at this
      split at hs
      · cases hs
      · split at hs
        · injection hs with hs; injection hs with _ hs; subst hs; exact this
        · cases hs
  obtain ⟨g, rfl⟩ : ∃ g, f = g + 1 := ⟨f - 1, by omega⟩
  refine ⟨by omega, g, by omega, ?_⟩
  rw [h3]
  simp only [readK, hs]
  rw [List.drop_drop]
  simp [Nat.add_assoc]
theorem log_end {s : ByteArray} {done : List Entry} {at_ : Nat} {st day : Int} (h : LogInv s done at_ st day) (hs : stepOf st day (s.data.toList.drop at_) = none) : rdLog s = (done, at_, st) := by
  obtain ⟨h1, f, h2, h3⟩ := h
  obtain ⟨g, rfl⟩ : ∃ g, f = g + 1 := ⟨f - 1, by omega⟩
  rw [h3]
  simp only [readK, hs]
  simp
theorem step_noline {st day : Int} {rest : List UInt8} (h : lineOf rest = none) : stepOf st day rest = none := by unfold stepOf; rw [h]
theorem step_noent {st day : Int} {rest l : List UInt8} (h : lineOf rest = some l) (he : entOf l = none) : stepOf st day rest = none := by unfold stepOf; rw [h]; simp only [he]
theorem step_bad {st day : Int} {rest l : List UInt8} {e : Entry} (h : lineOf rest = some l) (he : entOf l = some e) (hk : okLine st day l e = false) : stepOf st day rest = none := by unfold stepOf; rw [h]; simp only [he, hk]; rfl
theorem step_good {st day : Int} {rest l : List UInt8} {e : Entry} (h : lineOf rest = some l) (he : entOf l = some e) (hk : okLine st day l e = true) : stepOf st day rest = some (e, l) := by unfold stepOf; rw [h]; simp only [he, hk]; rfl
theorem entOf_ok {l : List UInt8} {e : Entry} (h : entOf l = some e) : e.ok = true := by
  unfold entOf at h
  split at h
  · split at h
    · rename_i hk; injection h with h; subst h; exact hk.2.2
    · cases h
  · cases h
end Go.Proofs.YtfpaejlipaainaaGreatDoor
namespace Go.Proofs.YtfpaejlipaainaaGreatDoor
open Go.ChangeShapes Go.WideShapes Go.ChangeAt Go.RowKit Go.Deep
set_option maxRecDepth 100000
def RB (w : World) (base g : Nat) (s : ByteArray) (done : List Entry) (at_ : Nat) (st : Int) : Prop :=
  ∃ v, w.heap[g]? = some (.cells #[.string s, .int .i64 at_, .int .i64 st, v] 166 (0, 0)) ∧ Own Entry.cells 116 3 w base v done.length done
def lastDay (l : List Entry) : Int := match l.getLast? with
  | some e => e.fDay
  | none => 0
theorem lastDay_snoc (l : List Entry) (e : Entry) : lastDay (l ++ [e]) = e.fDay := by simp [lastDay]
theorem lastDay_at {l : List Entry} {k : Nat} {e : Entry} (h : l[k]? = some e) (hk : k + 1 = l.length) : lastDay l = e.fDay := by
  unfold lastDay
  rw [List.getLast?_eq_getElem?, show l.length - 1 = k by omega, h]
theorem sDay_any (g : Nat) (w : World) (base at_ : Nat) (s : ByteArray) (st : Int) (v : Value) (done : List Entry) (hm : done.length ≤ 1048576)
    (hb : w.heap[g]? = some (.cells #[.string s, .int .i64 at_, .int .i64 st, v] 166 (0, 0))) (ho : Own Entry.cells 116 3 w base v done.length done) :
    Calls Tryz.prog 208 #[.pointer (some ⟨g, 0, none⟩)] w fun e w' => e = .returned (.int .i64 (lastDay done)) ∧ ∃ n, w' = w.drewN n := by
  obtain ⟨A, c, rfl, _⟩ := ho.slice
  have hr := ho.arr Entry.len
  have c3 : w.cell? ⟨g, 3, none⟩ = some (.slice A done.length c) := by rw [cell_of_row _ _ _ _ _ _ hb]; rfl
  clear hb ho
  obtain ⟨n, hn⟩ : ∃ n, n = done.length := ⟨_, rfl⟩
  rw [← hn] at hr c3 hm
  have hN := hide hn
  clear hn
  rcases Nat.eq_zero_or_pos n with h0 | h0
  · subst h0
    have hd : Hid (lastDay done = 0) := hide (by rw [List.eq_nil_of_length_eq_zero hN.out.symm]; rfl)
    go_enter Tryz.func208, Tryz.ntmps208
    go_wp2
    go_ret
    exact ⟨ret1 hd.out.symm, 0, rfl⟩
  · obtain ⟨b, o, x, rfl, _, hx, d0, d1, d2⟩ := hr.Entry (k := n - 1) (by omega)
    have hd : Hid (lastDay done = x.fDay) := hide (lastDay_at hx (by rw [← hN.out]; omega))
    have e0 : ((n : Int) == 0) = false := by simp; omega
    have hi0 : (0 : Int) ≤ (n : Int) - 1 := by omega
    have hi1 : (n : Int) - 1 < (n : Int) := by omega
    have hw : IntKind.i64.wrap ((n : Int) - 1) = (n : Int) - 1 := IntWalk.i64_in _ (by omega)
    have hi2 : ((n : Int) - 1).toNat = n - 1 := by omega
    have hi3 : (1 : Int) ≤ (n : Int) := by omega
    clear hx
    go_enter Tryz.func208, Tryz.ntmps208
    go_wp2
    go_quiet (fail)
    go_wp2
    go_ret
    exact ⟨ret1 hd.out.symm, _, rfl⟩
end Go.Proofs.YtfpaejlipaainaaGreatDoor
