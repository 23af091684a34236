/- Contracts of the best price: the first one of those with the most profit. -/
import Derived.Test.YtldnnlgekhjebaaPriceF
import Derived.Test.YtldnnlgekhjebaaSInts
namespace Go.Proofs.Ytldnnlgekhjebaa
open Go.ChangeShapes Go.WideShapes Go.ChangeAt Go.RowKit Go.Deep

def allIn (l : List Int) (lo hi : Int) : Bool := l.all fun x => inB x lo hi
theorem allIn_at {l : List Int} {lo hi : Int} (h : allIn l lo hi = true) {k : Nat} {x : Int} (hx : l[k]? = some x) : lo ≤ x ∧ x ≤ hi := by
  unfold allIn at h
  rw [List.all_eq_true] at h
  exact inB_true.1 (h x (List.mem_of_getElem? hx))
theorem iEach_any (A : Option Addr) (n c : Nat) (l : List Int) (m lo hi : Int) (w : World) (hn : n ≤ 1048576) (hr : Arr i64c 1 w w.heap.size A n l) :
    Calls Try.prog 40 #[.slice A n c, .int .i64 m, .int .i64 lo, .int .i64 hi] w fun e w' => e = .returned (.bool (allIn l lo hi && ((n : Int) == m))) ∧ Below w.heap.size w w' := by
  have hl := hide hr.len
  go_enter Try.func40, Try.ntmps40
  go_wp2
  go_loopw [13] (fun i wr => ∃ k : Nat, k ≤ n ∧ i = .int .i64 k ∧ Below w.heap.size w wr ∧ Hid ((l.take k).all (fun x => inB x lo hi) = true)) (fun i _ => n - (intOf i).toNat)
  case atStart => exact ⟨0, Nat.zero_le _, rfl, Below.refl _ _, hide (by simp)⟩
  case round =>
    obtain ⟨k, hk, rfl, hb, hall⟩ := hrel
    by_cases hlt : k < n
    · obtain ⟨b, o, x, rfl, hbl, hx, c0⟩ := hr.int hlt
      have d0 : wr.cell? ⟨b, o + k, none⟩ = some (.int .i64 x) := (hb.cell (p := ⟨b, o + k, none⟩) hbl).trans c0
      have hX := hide hx
      clear hx c0
      have hB := hide hb
      clear hr hb
      cases h1 : inB x lo hi
      · have hd : Hid ((allIn l lo hi && ((n : Int) == m)) = false) := hide (by unfold allIn; rw [all_not hX.out h1]; rfl)
        go_wp2_with (go_at_call 36; refine (within_any _ _ _ _).mono ?_; rintro e w' ⟨rfl, rfl⟩)
        go_ret
        exact ⟨retB hd.out.symm, hB.out⟩
      · go_wp2_with (go_at_call 36; refine (within_any _ _ _ _).mono ?_; rintro e w' ⟨rfl, rfl⟩)
        go_roundw
        case rel => exact ⟨k + 1, by omega, by go_num, hB.out, hide (by rw [take_snoc hX.out, List.all_append, hall.out]; simp [h1])⟩
        case measure => simp [intOf]; omega
    · have hkn : k = n := by omega
      subst hkn
      have hB := hide hb
      clear hb
      have hd : Hid (allIn l lo hi = true) := hide (by have e := hall.out; rw [List.take_of_length_le (by rw [hl.out]; exact Nat.le_refl _)] at e; exact e)
      go_wp2
      go_ret
      exact ⟨retB (by rw [hd.out, Bool.true_and]), hB.out⟩

def profAt (ps ss : List Int) (c : Int) (i : Nat) : Int := match ps[i]?, ss[i]? with | some p, some s => (p - c) * s | _, _ => 0
theorem profAt_eq {ps ss : List Int} {c : Int} {i : Nat} {p s : Int} (h : ps[i]? = some p) (h' : ss[i]? = some s) : profAt ps ss c i = (p - c) * s := by unfold profAt; rw [h, h']
def bestOk (ps ss : List Int) (c : Int) : Bool := decide (ps.length ≤ 12) && allIn ps 0 10000000 && allIn ss 0 10000 && decide (ss.length = ps.length) && inB c 0 10000000
def mBest (ps ss : List Int) (c : Int) : Int × Int × Int :=
  if bestOk ps ss c then (if ps.length = 0 then (0, 0, 3) else ((bestTo (profAt ps ss c) ps.length : Int), profAt ps ss c (bestTo (profAt ps ss c) ps.length), 0)) else (0, 0, 2)
theorem prof_bound {p s c : Int} (h1 : 0 ≤ p ∧ p ≤ 10000000) (h2 : 0 ≤ s ∧ s ≤ 10000) (h3 : 0 ≤ c ∧ c ≤ 10000000) : -100000000000 ≤ (p - c) * s ∧ (p - c) * s ≤ 100000000000 := by
  rcases Int.le_total c p with h | h
  · exact ⟨Int.le_trans (by omega) (Int.mul_nonneg (show 0 ≤ p - c by omega) h2.1), Int.le_trans (Int.mul_le_mul (show p - c ≤ 10000000 by omega) h2.2 h2.1 (by omega)) (by omega)⟩
  · have e : (p - c) * s = -((c - p) * s) := by rw [← Int.neg_mul]; congr 1; omega
    have k1 := Int.mul_nonneg (show 0 ≤ c - p by omega) h2.1
    have k2 : (c - p) * s ≤ 10000000 * 10000 := Int.mul_le_mul (show c - p ≤ 10000000 by omega) h2.2 h2.1 (by omega)
    omega
theorem bestOk_iff {ps ss : List Int} {c : Int} : bestOk ps ss c = true ↔ ps.length ≤ 12 ∧ allIn ps 0 10000000 = true ∧ allIn ss 0 10000 = true ∧ ss.length = ps.length ∧ inB c 0 10000000 = true := by
  simp [bestOk, and_assoc]
end Go.Proofs.Ytldnnlgekhjebaa
