/- The source of choices: texts. No statement is proved here. -/
import Derived.Test.YtpnbnhhifgcklaaDoorSrc
namespace Go.Proofs.YtpnbnhhifgcklaaDoor
open Go.ChangeShapes Go.WideShapes Go.ChangeAt Go.RowKit Go.Deep
set_option maxRecDepth 100000
theorem text_any (w : World) (g m k n c : Nat) (l : List ByteArray) (hs : Src w g m) (hm : m ≤ 999999999) (hn : 0 < n) (hn' : n ≤ 1000000) (hk : k ≠ g) (hr : Arr strc 1 w w.heap.size (some ⟨k, 0, none⟩) n l) :
    Calls Tryd.prog 33 #[.pointer (some ⟨g, 0, none⟩), .slice (some ⟨k, 0, none⟩) n c] w fun e w' => ∃ x, e = .returned (.string x) ∧ x ∈ l ∧ w.grownBy w' (some g) ∧ Src w' g (m + 2) := by
  go_enter Tryd.func33, Tryd.ntmps33
  go_wp2_with fail
  refine (pick_any w g m n hs hm).mono ?_
  rintro e w1 ⟨i, rfl, hx0, hx1, hx2, hg1, hs1⟩
  have hi : i.toNat < n := by
    rcases Nat.lt_or_ge 1 n with h | h
    · have := hx2 (by omega); omega
    · have := hx1 (by omega); omega
  have hi' : i < (n : Int) := by omega
  obtain ⟨b, o, x, hbo, hb, hx, d0⟩ := hr.str hi
  obtain ⟨rfl, rfl⟩ : b = k ∧ o = 0 := by cases hbo; exact ⟨rfl, rfl⟩
  have d1 : w1.cell? ⟨b, 0 + i.toNat, none⟩ = some (.string x) := (World.cell?_of_block (hg1.block b hb (fun e => hk (by injection e)))).trans d0
  have hM := hide (List.mem_of_getElem? hx)
  have hG1 := hide hg1
  clear hg1 hx1 hx2 hbo hb hx d0 hr
  rw [Nat.zero_add] at d1
  go_wp2
  go_ret
  exact ⟨x, rfl, hM.out, hG1.out, hs1⟩
theorem lit_strs (w : World) (cs : Array Value) (T : TypeId) (l : List ByteArray) (n : Nat) (h : cs.toList = l.map Value.string) (hn : l.length = n) : Arr strc 1 (w.alloc (.cells cs T)) (w.alloc (.cells cs T)).heap.size (some ⟨w.heap.size, 0, none⟩) n l := by
  refine ⟨hn, fun _ => ⟨_, _, rfl, by simp, fun i x hx j u hu => ?_⟩⟩
  have hj : j = 0 := by have := lt_of_get hu; simp [strc] at this; exact this
  subst hj
  have hu' : u = .string x := by simpa [strc] using hu.symm
  subst hu'
  rw [cell_of_row _ _ _ _ _ _ (heap_alloc_new w _)]
  rw [← Array.getElem?_toList, h, List.getElem?_map]
  simp [hx]
end Go.Proofs.YtpnbnhhifgcklaaDoor
