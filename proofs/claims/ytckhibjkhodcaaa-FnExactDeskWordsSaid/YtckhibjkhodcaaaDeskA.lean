/- Contracts: the first words of the console's commands; a valid entry. -/
import Derived.Test.YtckhibjkhodcaaaName
import Derived.Test.YtckhibjkhodcaaaSEntry
namespace Go.Proofs.Ytckhibjkhodcaaa
open Go.ChangeShapes Go.WideShapes Go.ChangeAt Go.RowKit Go.Deep
set_option maxRecDepth 100000
def dkWords : List ByteArray := [⟨#[97, 100, 100]⟩, ⟨#[98, 114, 111, 107, 101, 110]⟩, ⟨#[101, 110, 116, 101, 114]⟩, ⟨#[102, 101, 119]⟩, ⟨#[104, 101, 97, 112]⟩, ⟨#[104, 101, 97, 112, 115]⟩, ⟨#[106, 111, 105, 110, 115]⟩, ⟨#[107, 105, 110, 100, 115]⟩, ⟨#[108, 111, 103]⟩, ⟨#[114, 111, 117, 110, 100]⟩, ⟨#[115, 111, 117, 110, 100]⟩, ⟨#[115, 116, 97, 107, 101, 115]⟩, ⟨#[115, 116, 114, 111, 107, 101]⟩, ⟨#[119, 111, 114, 100]⟩]
theorem iWords_any (w : World) : Calls Try.prog 8 #[] w fun e w' => ∃ v, e = .returned v ∧ Res strc 9 1 w' w.heap.size v dkWords.length dkWords ∧ Below w.heap.size w w' := by
  have hown : Hid (∀ cur : Array Value, cur.toList = dkWords.flatMap strc → cur.size = 14 → Own strc 9 1 (w.alloc (.cells cur 9)) w.heap.size (.slice (some ⟨w.heap.size, 0, none⟩) 14 14) dkWords.length dkWords) := hide (fun cur hc hs =>
    ⟨rfl, rfl, .inr ⟨w.heap.size, 14, cur, rfl, Nat.le_refl _, heap_alloc_new w _, by decide, by unfold maxLen; omega, by rw [hs], by rw [hc]; rfl⟩⟩)
  go_enter Try.func8, Try.ntmps8
  go_wp2
  go_ret
  exact ⟨_, rfl, (hown.out _ rfl rfl).res, by go_grown⟩
theorem sl28Words_any (w : World) : Calls Try.prog 25 #[] w fun e w' => ∃ v, e = .returned v ∧ Res strc 9 1 w' w.heap.size v dkWords.length dkWords ∧ Below w.heap.size w w' := by
  have hown : Hid (∀ cur : Array Value, cur.toList = dkWords.flatMap strc → cur.size = 14 → Own strc 9 1 (w.alloc (.cells cur 9)) w.heap.size (.slice (some ⟨w.heap.size, 0, none⟩) 14 14) dkWords.length dkWords) := hide (fun cur hc hs =>
    ⟨rfl, rfl, .inr ⟨w.heap.size, 14, cur, rfl, Nat.le_refl _, heap_alloc_new w _, by decide, by unfold maxLen; omega, by rw [hs], by rw [hc]; rfl⟩⟩)
  go_enter Try.func25, Try.ntmps25
  go_wp2
  go_ret
  exact ⟨_, rfl, (hown.out _ rfl rfl).res, by go_grown⟩
theorem sWords_any (w : World) : Calls Try.prog 7 #[] w fun e w' => ∃ v, e = .returned v ∧ Res strc 9 1 w' w.heap.size v dkWords.length dkWords ∧ Below w.heap.size w w' := by
  go_enter Try.func7, Try.ntmps7
  go_wp2_with fail
  refine (sl28Words_any _).mono ?_
  rintro e w1 ⟨v1, rfl, ho, hb⟩
  have hO := hide ho
  clear ho
  go_wp2
  go_ret
  exact ⟨_, rfl, hO.out, hb⟩
/-! ### a valid entry -/
def Entry.ok (x : Entry) : Bool := inB x.fDay 0 100000 && isName x.fWhat && inB x.fValue (-1000000) 1000000
theorem iEntry_any (x : Entry) (w : World) (hx : x.fits) :
    Calls Try.prog 24 #[.agg #[.int .i64 x.fDay, .string x.fWhat, .int .i64 x.fValue]] w fun e w' => e = .returned (.bool x.ok) ∧ Below w.heap.size w w' := by
  cases k0 : inB x.fDay 0 100000
  · have ck : Hid (x.ok = false) := hide (by simp [Entry.ok, k0])
    go_enter Try.func24, Try.ntmps24
    go_wp2_with (first | (go_at_call 44; refine (iName_any _ _ hx).mono ?_; rintro e w' ⟨rfl, rfl⟩) | (go_at_call 43; refine (within_any _ _ _ _).mono ?_; rintro e w' ⟨rfl, rfl⟩))
    go_ret
    exact ⟨retB ck.out.symm, by go_grown⟩
  · cases k1 : isName x.fWhat
    · have ck : Hid (x.ok = false) := hide (by simp [Entry.ok, k1])
      go_enter Try.func24, Try.ntmps24
      go_wp2_with (first | (go_at_call 44; refine (iName_any _ _ hx).mono ?_; rintro e w' ⟨rfl, rfl⟩) | (go_at_call 43; refine (within_any _ _ _ _).mono ?_; rintro e w' ⟨rfl, rfl⟩))
      go_ret
      exact ⟨retB ck.out.symm, by go_grown⟩
    · have ck : Hid (x.ok = inB x.fValue (-1000000) 1000000) := hide (by simp [Entry.ok, k0, k1])
      go_enter Try.func24, Try.ntmps24
      go_wp2_with (first | (go_at_call 44; refine (iName_any _ _ hx).mono ?_; rintro e w' ⟨rfl, rfl⟩) | (go_at_call 43; refine (within_any _ _ _ _).mono ?_; rintro e w' ⟨rfl, rfl⟩))
      go_ret
      exact ⟨retB ck.out.symm, by go_grown⟩
theorem day_any (n : Int) (w : World) :
    Calls Try.prog 50 #[.int .i64 n] w fun e w' => e = .returned (.bool (inB n 0 100000)) ∧ w = w' := by
  go_enter Try.func50, Try.ntmps50
  go_wp2_with (go_at_call 52; refine (in_any _ _ _ _).mono ?_; rintro e w' ⟨rfl, rfl⟩)
  go_ret; exact ⟨rfl, rfl⟩
theorem sEntry_any (b o : Nat) (x : Entry) (w : World) (hx : x.fits) (d0 : w.cell? ⟨b, o, none⟩ = some (.int .i64 x.fDay)) (d1 : w.cell? ⟨b, o + 1, none⟩ = some (.string x.fWhat)) (d2 : w.cell? ⟨b, o + 2, none⟩ = some (.int .i64 x.fValue)) :
    Calls Try.prog 42 #[.pointer (some ⟨b, o, none⟩)] w fun e w' => e = .returned (.bool x.ok) ∧ w = w' := by
  cases k0 : inB x.fDay 0 100000
  · have ck : Hid (x.ok = false) := hide (by simp [Entry.ok, k0])
    go_enter Try.func42, Try.ntmps42
    go_wp2_with (first | (go_at_call 51; refine (sName_any _ _ hx).mono ?_; rintro e w' ⟨rfl, rfl⟩) | (go_at_call 50; refine (day_any _ _).mono ?_; rintro e w' ⟨rfl, rfl⟩) | (go_at_call 52; refine (in_any _ _ _ _).mono ?_; rintro e w' ⟨rfl, rfl⟩))
    go_ret
    exact ⟨retB ck.out.symm, rfl⟩
  · cases k1 : isName x.fWhat
    · have ck : Hid (x.ok = false) := hide (by simp [Entry.ok, k1])
      go_enter Try.func42, Try.ntmps42
      go_wp2_with (first | (go_at_call 51; refine (sName_any _ _ hx).mono ?_; rintro e w' ⟨rfl, rfl⟩) | (go_at_call 50; refine (day_any _ _).mono ?_; rintro e w' ⟨rfl, rfl⟩) | (go_at_call 52; refine (in_any _ _ _ _).mono ?_; rintro e w' ⟨rfl, rfl⟩))
      go_ret
      exact ⟨retB ck.out.symm, rfl⟩
    · have ck : Hid (x.ok = inB x.fValue (-1000000) 1000000) := hide (by simp [Entry.ok, k0, k1])
      go_enter Try.func42, Try.ntmps42
      go_wp2_with (first | (go_at_call 51; refine (sName_any _ _ hx).mono ?_; rintro e w' ⟨rfl, rfl⟩) | (go_at_call 50; refine (day_any _ _).mono ?_; rintro e w' ⟨rfl, rfl⟩) | (go_at_call 52; refine (in_any _ _ _ _).mono ?_; rintro e w' ⟨rfl, rfl⟩))
      go_ret
      exact ⟨retB ck.out.symm, rfl⟩
theorem sValidEntry_any (x : Entry) (w : World) (hx : x.fits) :
    Calls Try.prog 22 #[.agg #[.int .i64 x.fDay, .string x.fWhat, .int .i64 x.fValue]] w fun e w' => e = .returned (.bool x.ok) ∧ Below w.heap.size w w' := by
  have k0 : (w.alloc (.cells #[.int .i64 x.fDay, .string x.fWhat, .int .i64 x.fValue] 45)).cell? ⟨w.heap.size, 0, none⟩ = some (.int .i64 x.fDay) := by rw [cell_of_row _ _ _ _ _ _ (heap_alloc_new w _)]; rfl
  have k1 : (w.alloc (.cells #[.int .i64 x.fDay, .string x.fWhat, .int .i64 x.fValue] 45)).cell? ⟨w.heap.size, 1, none⟩ = some (.string x.fWhat) := by rw [cell_of_row _ _ _ _ _ _ (heap_alloc_new w _)]; rfl
  have k2 : (w.alloc (.cells #[.int .i64 x.fDay, .string x.fWhat, .int .i64 x.fValue] 45)).cell? ⟨w.heap.size, 2, none⟩ = some (.int .i64 x.fValue) := by rw [cell_of_row _ _ _ _ _ _ (heap_alloc_new w _)]; rfl
  have hc := hide (sEntry_any w.heap.size 0 x _ hx k0 k1 k2)
  clear k0 k1 k2
  go_enter Try.func22, Try.ntmps22
  go_wp2_with (go_at_call 42; refine hc.out.mono ?_; rintro e w' ⟨rfl, rfl⟩)
  go_ret
  exact ⟨rfl, by go_grown⟩
end Go.Proofs.Ytckhibjkhodcaaa
