/- slices.IsSortedFunc at entries, by their days. No statement is proved here. -/
import Derived.Test.YtgjhibkljpjdhaaDoorLgA
namespace Go.Proofs.YtgjhibkljpjdhaaDoor
open Go.ChangeShapes Go.WideShapes Go.ChangeAt Go.RowKit Go.Deep
set_option maxRecDepth 100000
theorem dayCmp_any (x y : Entry) (w : World) (hx : 0 ≤ x.fDay ∧ x.fDay ≤ 100000) (hy : 0 ≤ y.fDay ∧ y.fDay ≤ 100000) :
    Calls Tryd.prog 30 #[.agg #[.int .i64 x.fDay, .string x.fWhat, .int .i64 x.fValue], .agg #[.int .i64 y.fDay, .string y.fWhat, .int .i64 y.fValue]] w fun e w' => e = .returned (.int .i64 (x.fDay - y.fDay)) ∧ Below w.heap.size w w' := by
  obtain ⟨x0, x1⟩ := hx
  obtain ⟨y0, y1⟩ := hy
  have hw1 : IntKind.i64.wrap (x.fDay - y.fDay) = x.fDay - y.fDay := IntWalk.i64_in _ (by omega)
  go_enter Tryd.func30, Tryd.ntmps30
  go_wp2
  go_ret
  exact ⟨rfl, by go_grown⟩
set_option maxHeartbeats 1000000 in
theorem isSrt_any (A : Option Addr) (n c : Nat) (l : List Entry) (w : World) (hn : n ≤ 1048576) (hr0 : Arr Entry.cells 3 w w.heap.size A n l) (hok : ∀ x ∈ l, 0 ≤ x.fDay ∧ x.fDay ≤ 100000) :
    Calls Tryd.prog 29 #[.slice A n c, .func (.func 30) #[] #[]] w fun e w' => e = .returned (.bool (inOrd l)) ∧ Below w.heap.size w w' := by
  have hl := hr0.len
  rcases Nat.eq_zero_or_pos n with h0 | h0
  · subst h0
    have hm : Hid (inOrd l = true) := hide (inOrd_true fun j _ hj => by omega)
    clear hr0 hok hl
    go_enter Tryd.func29, Tryd.ntmps29
    go_wp2
    go_loopw [5] (fun i wr => i = .int .i64 (-1) ∧ w = wr) (fun i _ => 0)
    case atStart => exact ⟨rfl, rfl⟩
    case round =>
      obtain ⟨rfl, rfl⟩ := hrel
      go_wp2
      go_ret
      exact ⟨retB hm.out.symm, Below.refl _ _⟩
  · have hL := hide hl
    have hr := hide hr0
    have hO := hide hok
    clear hl hr0 hok
    have hw0 : IntKind.i64.wrap ((n : Int) - 1) = (n : Int) - 1 := IntWalk.i64_in _ (by omega)
    have hcast : ((n - 1 : Nat) : Int) = (n : Int) - 1 := by omega
    have hC := hide hcast
    clear hcast
    go_enter Tryd.func29, Tryd.ntmps29
    go_wp2
    clear hw0
    go_loopw [5] (fun i wr => ∃ k : Nat, k < n ∧ i = .int .i64 k ∧ Below w.heap.size w wr ∧ Hid (∀ j, k < j → j < n → lateAt l j = false)) (fun i _ => (intOf i).toNat)
    case atStart => exact ⟨n - 1, by omega, by rw [hC.out], Below.refl _ _, hide fun j h1 h2 => by omega⟩
    case round =>
      obtain ⟨k, hk, rfl, hb, hI⟩ := hrel
      have hE := hide hb
      clear hb
      by_cases hlt : 0 < k
      · obtain ⟨b, o, x, rfl, hbl, hx, c0, c1, c2⟩ := hr.out.Entry (k := k) hk
        obtain ⟨b2, o2, y, hA2, _, hy, e0, e1, e2⟩ := hr.out.Entry (k := k - 1) (by omega)
        cases hA2
        have hxo := hO.out x (List.mem_of_getElem? hx)
        have hyo := hO.out y (List.mem_of_getElem? hy)
        have hla := lateAt_eq hx hy
        have key : ∀ w' : World, Below w.heap.size w w' → (w'.cell? ⟨b, o + k * 3, none⟩ = some (.int .i64 x.fDay) ∧ w'.cell? ⟨b, o + k * 3 + 1, none⟩ = some (.string x.fWhat) ∧ w'.cell? ⟨b, o + k * 3 + 2, none⟩ = some (.int .i64 x.fValue) ∧ w'.cell? ⟨b, o + (k - 1) * 3, none⟩ = some (.int .i64 y.fDay) ∧ w'.cell? ⟨b, o + (k - 1) * 3 + 1, none⟩ = some (.string y.fWhat) ∧ w'.cell? ⟨b, o + (k - 1) * 3 + 2, none⟩ = some (.int .i64 y.fValue)) := fun W h => ⟨(h.cell (p := ⟨b, o + k * 3, none⟩) hbl).trans c0, (h.cell (p := ⟨b, o + k * 3 + 1, none⟩) hbl).trans c1, (h.cell (p := ⟨b, o + k * 3 + 2, none⟩) hbl).trans c2, (h.cell (p := ⟨b, o + (k - 1) * 3, none⟩) hbl).trans e0, (h.cell (p := ⟨b, o + (k - 1) * 3 + 1, none⟩) hbl).trans e1, (h.cell (p := ⟨b, o + (k - 1) * 3 + 2, none⟩) hbl).trans e2⟩
        have hkey := hide key
        have hdr : Below wr.heap.size wr wr.drew := below_drewN (Below.refl _ _) 1
        have hE2 := hide (Below.up hE.out hdr)
        obtain ⟨g0, g1, g2, g3, g4, g5⟩ := key _ hE2.out
        have hLA := hide hla
        clear key c0 c1 c2 e0 e1 e2 hx hy hdr hla
        have hi0 : (0 : Int) ≤ (k : Int) - 1 := by omega
        have hi1 : (k : Int) - 1 < (n : Int) := by omega
        have hw : IntKind.i64.wrap ((k : Int) - 1) = (k : Int) - 1 := IntWalk.i64_in _ (by omega)
        have hi2 : ((k : Int) - 1).toNat = k - 1 := by omega
        have hi3 : (1 : Int) ≤ (k : Int) := by omega
        have hk0 : (0 : Int) < (k : Int) := by omega
        have hkn : (k : Int) < (n : Int) := by omega
        have hkk : (0 : Int) ≤ (k : Int) := by omega
        by_cases hd : x.fDay < y.fDay
        · have hm : Hid (inOrd l = false) := hide (inOrd_false (j := k) (by omega) (by rw [hL.out]; exact hk) (by rw [hLA.out, decide_eq_true hd]))
          have hd2 : x.fDay - y.fDay < 0 := by omega
          clear hd
          go_wp2_with fail
          go_region_held3 (fun w' => w'.cell? ⟨b, o + k * 3, none⟩ = some (.int .i64 x.fDay) ∧ w'.cell? ⟨b, o + k * 3 + 1, none⟩ = some (.string x.fWhat) ∧ w'.cell? ⟨b, o + k * 3 + 2, none⟩ = some (.int .i64 x.fValue) ∧ w'.cell? ⟨b, o + (k - 1) * 3, none⟩ = some (.int .i64 y.fDay) ∧ w'.cell? ⟨b, o + (k - 1) * 3 + 1, none⟩ = some (.string y.fWhat) ∧ w'.cell? ⟨b, o + (k - 1) * 3 + 2, none⟩ = some (.int .i64 y.fValue)) (first | go_keep | exact hkey.out _ hE2.out) (first | (go_at_call 30; refine (dayCmp_any x y _ hxo hyo).mono ?_; rintro e w4 ⟨rfl, hb4⟩; replace hE2 := hide (Below.up hE2.out hb4); clear hb4 g0 g1 g2 g3 g4 g5) | fail)
          clear hw hi2
          go_wp2
          go_ret
          exact ⟨retB hm.out.symm, hE2.out⟩
        · have hI2 : Hid (∀ j, k - 1 < j → j < n → lateAt l j = false) := hide fun j h1 h2 => by
            by_cases he : j = k
            · subst he; rw [hLA.out, decide_eq_false hd]
            · exact hI.out j (by omega) h2
          have hd2 : ¬ x.fDay - y.fDay < 0 := by omega
          have hd3 : y.fDay ≤ x.fDay := by omega
          have hC2 : Hid (((k - 1 : Nat) : Int) = (k : Int) - 1) := hide (by omega)
          clear hd
          go_wp2_with fail
          go_region_held3 (fun w' => w'.cell? ⟨b, o + k * 3, none⟩ = some (.int .i64 x.fDay) ∧ w'.cell? ⟨b, o + k * 3 + 1, none⟩ = some (.string x.fWhat) ∧ w'.cell? ⟨b, o + k * 3 + 2, none⟩ = some (.int .i64 x.fValue) ∧ w'.cell? ⟨b, o + (k - 1) * 3, none⟩ = some (.int .i64 y.fDay) ∧ w'.cell? ⟨b, o + (k - 1) * 3 + 1, none⟩ = some (.string y.fWhat) ∧ w'.cell? ⟨b, o + (k - 1) * 3 + 2, none⟩ = some (.int .i64 y.fValue)) (first | go_keep | exact hkey.out _ hE2.out) (first | (go_at_call 30; refine (dayCmp_any x y _ hxo hyo).mono ?_; rintro e w4 ⟨rfl, hb4⟩; replace hE2 := hide (Below.up hE2.out hb4); clear hb4 g0 g1 g2 g3 g4 g5) | fail)
          clear hi2
          go_wp2
          go_roundw
          case rel => exact ⟨k - 1, by omega, by rw [hC2.out], hE2.out, hI2⟩
          case measure => simp [intOf]; omega
      · have hm : Hid (inOrd l = true) := hide (inOrd_true fun j h1 h2 => hI.out j (by omega) (by rw [← hL.out]; exact h2))
        have hk0 : k = 0 := by omega
        subst hk0
        go_wp2
        go_ret
        exact ⟨retB hm.out.symm, hE.out⟩
end Go.Proofs.YtgjhibkljpjdhaaDoor
