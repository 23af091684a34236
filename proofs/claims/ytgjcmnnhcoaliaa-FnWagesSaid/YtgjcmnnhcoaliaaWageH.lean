/- Contracts: the names of pieces, in ascending order, each once. -/
import Derived.Test.YtgjcmnnhcoaliaaWageA
import Derived.Test.YtgjcmnnhcoaliaaNames
namespace Go.Proofs.Ytgjcmnnhcoaliaa
open Go.ChangeShapes Go.WideShapes Go.ChangeAt Go.RowKit Go.Deep
set_option maxRecDepth 100000
theorem info_string' : (Try.prog.info? 9).map (fun i => (i.zero, i.size, i.bytes)) = some (some (.string ByteArray.empty), 1, 16) := by kernel_rfl
theorem Own.alloc2 {α : Type} {cells : α → List Value} {e s : Nat} {w : World} {base : Nat} {v : Value} {n : Nat} {l : List α} (h : Own cells e s w base v n l) (o : Obj) : Own cells e s (w.alloc o) base v n l := ⟨h.1, h.2.alloc o⟩
def nmTo (l : List PieceW) (k : Nat) : List ByteArray := (l.take k).map (·.fName)
theorem nmTo_snoc {l : List PieceW} {k : Nat} {x : PieceW} (h : l[k]? = some x) : nmTo l (k + 1) = nmTo l k ++ [x.fName] := by
  unfold nmTo; rw [take_snoc h, List.map_append]; rfl
def mNames (l : List PieceW) : List ByteArray := dedup (sortB (l.map (·.fName)))
theorem mNames_len (l : List PieceW) : (mNames l).length ≤ l.length := by
  unfold mNames
  have := dedup_len (sortB (l.map (·.fName)))
  rw [sortB_len, List.length_map] at this
  exact this
theorem iNames_any (A : Option Addr) (n c : Nat) (l : List PieceW) (w : World) (hn : n ≤ 1048576) (hr : Arr PieceW.cells 4 w w.heap.size A n l) :
    Calls Try.prog 23 #[.slice A n c] w fun e w' => ∃ v, e = .returned v ∧ Own strc 9 1 w' w.heap.size v (mNames l).length (mNames l) ∧ Below w.heap.size w w' := by
  have hl := hide hr.len
  go_enter Try.func23, Try.ntmps23
  go_wp2
  go_loopw [3, 9] (fun v i wr => ∃ k : Nat, k ≤ n ∧ i = .int .i64 k ∧ Below w.heap.size w wr ∧ Own strc 9 1 wr w.heap.size v k (nmTo l k)) (fun _ i _ => n - (intOf i).toNat)
  case atStart => exact ⟨0, Nat.zero_le _, rfl, (Below.refl _ _).alloc (Nat.le_refl _) _, Own.none_made _ (Nat.le_refl _)⟩
  case round =>
    obtain ⟨k, hk, rfl, hb, hown⟩ := hrel
    have hO := hide hown
    clear hown
    by_cases hlt : k < n
    · obtain ⟨b, o, x, rfl, hbl, hx, c0, c1, c2, c3⟩ := hr.PieceW hlt
      have d0 : wr.cell? ⟨b, o + k * 4, none⟩ = some (.string x.fName) := (hb.cell (p := ⟨b, o + k * 4, none⟩) hbl).trans c0
      have d1 : wr.cell? ⟨b, o + k * 4 + 1, none⟩ = some (.string x.fSort) := (hb.cell (p := ⟨b, o + k * 4 + 1, none⟩) hbl).trans c1
      have d2 : wr.cell? ⟨b, o + k * 4 + 2, none⟩ = some (.int .i64 x.fDay) := (hb.cell (p := ⟨b, o + k * 4 + 2, none⟩) hbl).trans c2
      have d3 : wr.cell? ⟨b, o + k * 4 + 3, none⟩ = some (.int .i64 x.fMade) := (hb.cell (p := ⟨b, o + k * 4 + 3, none⟩) hbl).trans c3
      have hX := hide hx
      clear hx c0 c1 c2 c3
      have hB := hide hb
      clear hr hb
      have hu := hide (nmTo_snoc hX.out)
      go_wp2_with (at_builtin; refine wpl_app1H (wr.heap.size + 1) (by simp) rfl (.tmp 13) (.tmp 16) rfl Try.underlying28 info_string' rfl (by omega) (by omega) strc_len strc_one rfl (hO.out.alloc2 _) x.fName _ rfl rfl (by omega) (hB.out.alloc hB.out.size _).size ?_; intro v2 w2 ho2 hg2 _)
      go_roundw
      case rel => exact ⟨k + 1, by omega, by go_num, (hO.out.alloc2 _).grown (hB.out.alloc hB.out.size _) hg2, by rw [hu.out]; exact ho2⟩
      case measure => simp [intOf]; omega
    · have hkn : k = n := by omega
      subst hkn
      have hB := hide hb
      clear hb
      have hall : Hid (nmTo l k = l.map (·.fName)) := hide (by unfold nmTo; rw [List.take_of_length_le (by rw [hl.out]; exact Nat.le_refl _)])
      go_wp2_with fail
      refine (sort_own k _ _ (nmTo l k) _ hn hO.out).mono ?_
      rintro e w3 ⟨rfl, ho3, hg3⟩
      have hB3 := hide (hO.out.grown hB.out hg3)
      have hO3 := hide ho3
      clear ho3 hg3
      go_wp2_with fail
      refine (compact_own k _ _ (sortB (nmTo l k)) _ hO3.out).mono ?_
      rintro e w4 ⟨v4, rfl, ho4, hg4⟩
      have hB4 := hide (hO3.out.grown hB3.out hg4)
      have hO4 := hide ho4
      clear ho4 hg4
      go_wp2
      go_ret
      exact ⟨_, rfl, by unfold mNames; rw [← hall.out]; exact hO4.out, hB4.out⟩
end Go.Proofs.Ytgjcmnnhcoaliaa
