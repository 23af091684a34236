/- Contracts of the heaps' tests: a valid heap, the order of heaps, valid heaps. -/
import Derived.Test.YtpnbnhhifgcklaaDoorName
import Derived.Test.YtpnbnhhifgcklaaDoorSHeap
import Derived.Test.YtpnbnhhifgcklaaDoorStr
import Derived.Test.YtpnbnhhifgcklaaDoorApp
import Derived.Test.YtpnbnhhifgcklaaDoorShelf
namespace Go.Proofs.YtpnbnhhifgcklaaDoor
open Go.ChangeShapes Go.WideShapes Go.ChangeAt Go.RowKit Go.Deep
set_option maxRecDepth 100000
theorem quiet_left2 {P : Program} {f : FuncId} {args : Array Value} {w : World} {n : Nat} {v : Value}
    (h : Calls P f args (w.drewN n) fun e w' => e = .returned v ∧ ∃ m, w' = (w.drewN n).drewN m) : Calls P f args (w.drewN n) fun e w'' => e = .returned v ∧ ∃ m, w'' = w.drewN m :=
  h.mono fun _ _ ⟨he, m, hm⟩ => ⟨he, n + m, by rw [hm]; simp [World.drewN, Nat.add_assoc]⟩
/-- A cell keeps what it holds behind a call. -/
theorem keepc {w w' : World} {p : Addr} {u : Value} (hb : Below w.heap.size w w') (hp : p.block < w.heap.size) (d : w.cell? p = some u) : w'.cell? p = some u := (hb.cell hp).trans d
def Heap.ok (x : Heap) : Bool := isName x.fSort && inB x.fYear 1800 2100 && inB x.fBundles 1 1000
theorem Heap.ok_iff {x : Heap} : x.ok = true ↔ isName x.fSort = true ∧ (1800 ≤ x.fYear ∧ x.fYear ≤ 2100) ∧ (1 ≤ x.fBundles ∧ x.fBundles ≤ 1000) := by
  simp [Heap.ok, inB_true, and_assoc]
def hLt (a b : Heap) : Bool := strLt a.fSort b.fSort || (decide (a.fSort = b.fSort) && decide (a.fYear < b.fYear))
def hCmp (a b : Heap) : Int := if a.fSort = b.fSort then a.fYear - b.fYear else strCmp a.fSort b.fSort
theorem hCmp_neg {a b : Heap} : hCmp a b < 0 ↔ hLt a b = true := by
  unfold hCmp hLt
  by_cases h : a.fSort = b.fSort
  · rw [if_pos h, h, strLt_irrefl]; simp; omega
  · rw [if_neg h, strCmp_of, if_neg h]
    cases strLt a.fSort b.fSort <;> simp [h]
theorem hCmp_zero {a b : Heap} : hCmp a b = 0 ↔ a.fSort = b.fSort ∧ a.fYear = b.fYear := by
  unfold hCmp
  by_cases h : a.fSort = b.fSort
  · rw [if_pos h]; simp [h]; omega
  · rw [if_neg h, strCmp_of, if_neg h]
    cases strLt a.fSort b.fSort <;> simp [h]
theorem hCmp_bound {a b : Heap} (h1 : 1800 ≤ a.fYear) (h2 : a.fYear ≤ 2100) (h3 : 1800 ≤ b.fYear) (h4 : b.fYear ≤ 2100) : -1000 ≤ hCmp a b ∧ hCmp a b ≤ 1000 := by
  unfold hCmp
  split
  · omega
  · rw [strCmp_of]
    split
    · omega
    · omega
theorem iYear_any (n : Int) (w : World) :
    Calls Tryd.prog 35 #[.int .i64 n] w fun e w' => e = .returned (.bool (inB n 1800 2100)) ∧ w = w' := by
  go_enter Tryd.func35, Tryd.ntmps35
  go_wp2_with (go_at_call 30; refine (within_any _ _ _ _).mono ?_; rintro e w' ⟨rfl, rfl⟩)
  go_ret; exact ⟨rfl, rfl⟩
theorem iHeap_any (x : Heap) (w : World) (hx : x.fits) :
    Calls Tryd.prog 20 #[.agg #[.string x.fSort, .int .i64 x.fYear, .int .i64 x.fBundles]] w fun e w' => e = .returned (.bool x.ok) ∧ Below w.heap.size w w' := by
  cases k0 : isName x.fSort
  · have ck : Hid (x.ok = false) := hide (by simp [Heap.ok, k0])
    go_enter Tryd.func20, Tryd.ntmps20
    go_wp2_with (first | (go_at_call 24; refine (iName_any _ _ hx).mono ?_; rintro e w' ⟨rfl, rfl⟩) | (go_at_call 35; refine (iYear_any _ _).mono ?_; rintro e w' ⟨rfl, rfl⟩) | (go_at_call 30; refine (within_any _ _ _ _).mono ?_; rintro e w' ⟨rfl, rfl⟩))
    go_ret
    exact ⟨retB ck.out.symm, by go_grown⟩
  · cases k1 : inB x.fYear 1800 2100
    · have ck : Hid (x.ok = false) := hide (by simp [Heap.ok, k1])
      go_enter Tryd.func20, Tryd.ntmps20
      go_wp2_with (first | (go_at_call 24; refine (iName_any _ _ hx).mono ?_; rintro e w' ⟨rfl, rfl⟩) | (go_at_call 35; refine (iYear_any _ _).mono ?_; rintro e w' ⟨rfl, rfl⟩) | (go_at_call 30; refine (within_any _ _ _ _).mono ?_; rintro e w' ⟨rfl, rfl⟩))
      go_ret
      exact ⟨retB ck.out.symm, by go_grown⟩
    · have ck : Hid (x.ok = inB x.fBundles 1 1000) := hide (by simp [Heap.ok, k0, k1])
      go_enter Tryd.func20, Tryd.ntmps20
      go_wp2_with (first | (go_at_call 24; refine (iName_any _ _ hx).mono ?_; rintro e w' ⟨rfl, rfl⟩) | (go_at_call 35; refine (iYear_any _ _).mono ?_; rintro e w' ⟨rfl, rfl⟩) | (go_at_call 30; refine (within_any _ _ _ _).mono ?_; rintro e w' ⟨rfl, rfl⟩))
      go_ret
      exact ⟨retB ck.out.symm, by go_grown⟩
theorem iCmp_any (x y : Heap) (w : World) (h1 : 1800 ≤ x.fYear) (h2 : x.fYear ≤ 2100) (h3 : 1800 ≤ y.fYear) (h4 : y.fYear ≤ 2100) :
    Calls Tryd.prog 34 #[.agg #[.string x.fSort, .int .i64 x.fYear, .int .i64 x.fBundles], .agg #[.string y.fSort, .int .i64 y.fYear, .int .i64 y.fBundles]] w fun e w' => e = .returned (.int .i64 (hCmp x y)) ∧ Below w.heap.size w w' := by
  by_cases h : x.fSort = y.fSort
  · have e1 := str_eq h
    have e2 : (x.fSort.toList != y.fSort.toList) = false := by rw [bne, e1]; rfl
    have ck : Hid (hCmp x y = x.fYear - y.fYear) := hide (by unfold hCmp; rw [if_pos h])
    clear h
    go_enter Tryd.func34, Tryd.ntmps34
    go_wp2
    go_ret
    exact ⟨ret1 ck.out.symm, by go_grown⟩
  · have e1 := str_ne h
    have e2 : (x.fSort.toList != y.fSort.toList) = true := by rw [bne, e1]; rfl
    have ck : Hid (hCmp x y = strCmp x.fSort y.fSort) := hide (by unfold hCmp; rw [if_neg h])
    clear h
    go_enter Tryd.func34, Tryd.ntmps34
    go_wp2_with (go_at_call 46; refine (Tryd.strings_Compare _ _ _).mono ?_; rintro e w' ⟨rfl, rfl⟩)
    go_ret
    exact ⟨ret1 ck.out.symm, by go_grown⟩
theorem sOne_any (b o : Nat) (x : Heap) (w : World) (hx : x.fits) (d0 : w.cell? ⟨b, o, none⟩ = some (.string x.fSort)) (d1 : w.cell? ⟨b, o + 1, none⟩ = some (.int .i64 x.fYear)) (d2 : w.cell? ⟨b, o + 2, none⟩ = some (.int .i64 x.fBundles)) :
    Calls Tryd.prog 43 #[.pointer (some ⟨b, o, none⟩)] w fun e w' => e = .returned (.bool x.ok) ∧ w = w' := by
  cases k0 : isName x.fSort
  · have ck : Hid (x.ok = false) := hide (by simp [Heap.ok, k0])
    go_enter Tryd.func43, Tryd.ntmps43
    go_wp2_with (first | (go_at_call 39; refine (sName_any _ _ hx).mono ?_; rintro e w' ⟨rfl, rfl⟩) | (go_at_call 56; refine (in_any _ _ _ _).mono ?_; rintro e w' ⟨rfl, rfl⟩))
    go_ret
    exact ⟨retB ck.out.symm, rfl⟩
  · cases k1 : inB x.fYear 1800 2100
    · have ck : Hid (x.ok = false) := hide (by simp [Heap.ok, k1])
      go_enter Tryd.func43, Tryd.ntmps43
      go_wp2_with (first | (go_at_call 39; refine (sName_any _ _ hx).mono ?_; rintro e w' ⟨rfl, rfl⟩) | (go_at_call 56; refine (in_any _ _ _ _).mono ?_; rintro e w' ⟨rfl, rfl⟩))
      go_ret
      exact ⟨retB ck.out.symm, rfl⟩
    · have ck : Hid (x.ok = inB x.fBundles 1 1000) := hide (by simp [Heap.ok, k0, k1])
      go_enter Tryd.func43, Tryd.ntmps43
      go_wp2_with (first | (go_at_call 39; refine (sName_any _ _ hx).mono ?_; rintro e w' ⟨rfl, rfl⟩) | (go_at_call 56; refine (in_any _ _ _ _).mono ?_; rintro e w' ⟨rfl, rfl⟩))
      go_ret
      exact ⟨retB ck.out.symm, rfl⟩
theorem sBefore_any (b o b' o' : Nat) (x y : Heap) (w : World) (d0 : w.cell? ⟨b, o, none⟩ = some (.string x.fSort)) (d1 : w.cell? ⟨b, o + 1, none⟩ = some (.int .i64 x.fYear)) (f0 : w.cell? ⟨b', o', none⟩ = some (.string y.fSort)) (f1 : w.cell? ⟨b', o' + 1, none⟩ = some (.int .i64 y.fYear)) :
    Calls Tryd.prog 44 #[.pointer (some ⟨b, o, none⟩), .pointer (some ⟨b', o', none⟩)] w fun e w' => e = .returned (.bool (hLt x y)) ∧ ∃ n, w' = w.drewN n := by
  cases h1 : Op.bytesLess x.fSort.toList y.fSort.toList
  · by_cases h : x.fSort = y.fSort
    · have e1 := str_eq h
      have ck : Hid (hLt x y = decide (x.fYear < y.fYear)) := hide (by unfold hLt strLt; rw [h1, decide_eq_true h]; simp)
      clear h
      by_cases h2 : x.fYear < y.fYear
      · have ck2 : Hid (hLt x y = true) := hide (by rw [ck.out]; exact decide_eq_true h2)
        have e3 : decide (x.fYear < y.fYear) = true := decide_eq_true h2
        go_enter Tryd.func44, Tryd.ntmps44
        go_wp2
        go_quiet (fail)
        go_wp2
        go_ret
        exact ⟨retB ck2.out.symm, _, rfl⟩
      · have ck2 : Hid (hLt x y = false) := hide (by rw [ck.out]; exact decide_eq_false h2)
        have e3 : decide (x.fYear < y.fYear) = false := decide_eq_false h2
        go_enter Tryd.func44, Tryd.ntmps44
        go_wp2
        go_quiet (fail)
        go_wp2
        go_ret
        exact ⟨retB ck2.out.symm, _, rfl⟩
    · have e1 := str_ne h
      have ck : Hid (hLt x y = false) := hide (by unfold hLt strLt; rw [h1, decide_eq_false h]; rfl)
      clear h
      go_enter Tryd.func44, Tryd.ntmps44
      go_wp2
      go_quiet (fail)
      go_wp2
      go_ret
      exact ⟨retB ck.out.symm, _, rfl⟩
  · have ck : Hid (hLt x y = true) := hide (by unfold hLt strLt; rw [h1]; rfl)
    go_enter Tryd.func44, Tryd.ntmps44
    go_wp2
    go_quiet (fail)
    go_wp2
    go_ret
    exact ⟨retB ck.out.symm, _, rfl⟩
end Go.Proofs.YtpnbnhhifgcklaaDoor
