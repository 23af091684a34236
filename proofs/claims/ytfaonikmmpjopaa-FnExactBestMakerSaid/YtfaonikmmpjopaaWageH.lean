/- Contracts: the names of pieces, in ascending order, each once. -/
import Derived.Test.YtfaonikmmpjopaaWageA
import Derived.Test.YtfaonikmmpjopaaNames
namespace Go.Proofs.Ytfaonikmmpjopaa
open Go.ChangeShapes Go.WideShapes Go.ChangeAt Go.RowKit Go.Deep
set_option maxRecDepth 100000
theorem info_string' : (Try.prog.info? 9).map (fun i => (i.zero, i.size, i.bytes)) = some (some (.string ByteArray.empty), 1, 16) := by kernel_rfl
theorem Own.alloc2 {α : Type} {cells : α → List Value} {e s : Nat} {w : World} {base : Nat} {v : Value} {n : Nat} {l : List α} (h : Own cells e s w base v n l) (o : Obj) : Own cells e s (w.alloc o) base v n l := ⟨h.1, h.2.alloc o⟩
def nmTo (l : List PieceW) (k : Nat) : List ByteArray := (l.take k).map (·.fName)
theorem nmTo_snoc {l : List PieceW} {k : Nat} {x : PieceW} (h : l[k]? = some x) : nmTo l (k + 1) = nmTo l k ++ [x.fName] := by
  unfold nmTo; rw [take_snoc h, List.map_append]; rfl
def mNames (l : List PieceW) : List ByteArray := dedup (sortB (l.map (·.fName)))
theorem mNames_len (l : List PieceW) : (mNames l).length ≤ l.length := by
  unfold mNames
  have := dedup_len (sortB (l.map (·.fName)))
  rw [sortB_len, List.length_map] at this
  exact this
theorem iNames_any (A : Option Addr) (n c : Nat) (l : List PieceW) (w : World) (hn : n ≤ 1048576) (hr : Arr PieceW.cells 4 w w.heap.size A n l) :
    Calls Try.prog 75 #[.slice A n c] w fun e w' => ∃ v, e = .returned v ∧ Own strc 9 1 w' w.heap.size v (mNames l).length (mNames l) ∧ Below w.heap.size w w' := by
  have hl := hide hr.len
  go_enter Try.func75, Try.ntmps75
  go_wp2
  go_loopw [3, 9] (fun v i wr => ∃ k : Nat, k ≤ n ∧ i = .int .i64 k ∧ Below w.heap.size w wr ∧ Own strc 9 1 wr w.heap.size v k (nmTo l k)) (fun _ i _ => n - (intOf i).toNat)
  case atStart => exact ⟨0, Nat.zero_le _, rfl, (Below.refl _ _).alloc (Nat.le_refl _) _, Own.none_made _ (Nat.le_refl _)⟩
  case round =>
    obtain ⟨k, hk, rfl, hb, hown⟩ := hrel
    have hO := hide hown
    clear hown
    by_cases hlt : k < n
    · obtain ⟨b, o, x, rfl, hbl, hx, c0, c1, c2, c3⟩ := hr.PieceW hlt
      have d0 : wr.cell? ⟨b, o + k * 4, none⟩ = some (.string x.fName) := (hb.cell (p := ⟨b, o + k * 4, none⟩) hbl).trans c0
      have d1 : wr.cell? ⟨b, o + k * 4 + 1, none⟩ = some (.string x.fSort) := (hb.cell (p := ⟨b, o + k * 4 + 1, none⟩) hbl).trans c1
      have d2 : wr.cell? ⟨b, o + k * 4 + 2, none⟩ = some (.int .i64 x.fDay) := (hb.cell (p := ⟨b, o + k * 4 + 2, none⟩) hbl).trans c2
      have d3 : wr.cell? ⟨b, o + k * 4 + 3, none⟩ = some (.int .i64 x.fMade) := (hb.cell (p := ⟨b, o + k * 4 + 3, none⟩) hbl).trans c3
      have hX := hide hx
      clear hx c0 c1 c2 c3
      have hB := hide hb
      clear hr hb
      have hu := hide (nmTo_snoc hX.out)
      go_wp2_with (at_builtin; refine wpl_app1H (wr.heap.size + 1) (by simp) rfl (.tmp 13) (.tmp 16) rfl Try.underlying56 info_string' rfl (by omega) (by omega) strc_len strc_one rfl (hO.out.alloc2 _) x.fName _ rfl rfl (by omega) (hB.out.alloc hB.out.size _).size ?_; intro v2 w2 ho2 hg2 _)
      go_roundw
      case rel => exact ⟨k + 1, by omega, by go_num, (hO.out.alloc2 _).grown (hB.out.alloc hB.out.size _) hg2, by rw [hu.out]; exact ho2⟩
      case measure => simp [intOf]; omega
    · have hkn : k = n := by omega
      subst hkn
      have hB := hide hb
      clear hb
      have hall : Hid (nmTo l k = l.map (·.fName)) := hide (by unfold nmTo; rw [List.take_of_length_le (by rw [hl.out]; exact Nat.le_refl _)])
      go_wp2_with fail
      refine (sort_own k _ _ (nmTo l k) _ hn hO.out).mono ?_
      rintro e w3 ⟨rfl, ho3, hg3⟩
      have hB3 := hide (hO.out.grown hB.out hg3)
      have hO3 := hide ho3
      clear ho3 hg3
      go_wp2_with fail
      refine (compact_own k _ _ (sortB (nmTo l k)) _ hO3.out).mono ?_
      rintro e w4 ⟨v4, rfl, ho4, hg4⟩
      have hB4 := hide (hO3.out.grown hB3.out hg4)
      have hO4 := hide ho4
      clear ho4 hg4
      go_wp2
      go_ret
      exact ⟨_, rfl, by unfold mNames; rw [← hall.out]; exact hO4.out, hB4.out⟩
set_option maxHeartbeats 2000000 in
theorem sNames_any (A : Option Addr) (n c : Nat) (l : List PieceW) (w : World) (hn : n ≤ 1048576) (hr : Arr PieceW.cells 4 w w.heap.size A n l) :
    Calls Try.prog 74 #[.slice A n c] w fun e w' => ∃ v, e = .returned v ∧ Own strc 9 1 w' w.heap.size v (mNames l).length (mNames l) ∧ Below w.heap.size w w' := by
  have hl := hide hr.len
  have hNl : Hid (∀ k, (namesTo (l.map (·.fName)) k).length ≤ k) := hide (namesTo_len _)
  obtain ⟨N, hN⟩ : ∃ N : Nat → List ByteArray, Hid (N = namesTo (l.map (·.fName))) := ⟨_, hide rfl⟩
  rw [← hN.out] at hNl
  have hN0 : Hid (N 0 = []) := hide (by rw [hN.out]; rfl)
  go_enter Try.func74, Try.ntmps74
  go_wp2
  go_loopw [3, 4] (fun v i wr => ∃ k : Nat, k ≤ n ∧ i = .int .i64 k ∧ Below w.heap.size w wr ∧ Own strc 9 1 wr w.heap.size v (N k).length (N k) ∧ v.ownBlock.isSome = true) (fun _ i _ => n - (intOf i).toNat)
  case atStart => exact ⟨0, Nat.zero_le _, rfl, (Below.refl _ _).alloc (Nat.le_refl _) _, by rw [hN0.out]; exact Own.none_made _ (Nat.le_refl _), rfl⟩
  case round =>
    obtain ⟨k, hk, rfl, hb, hown, hsome⟩ := hrel
    by_cases hlt : k < n
    · obtain ⟨b, o, x, rfl, hbl, hx, c0, c1, c2, c3⟩ := hr.PieceW hlt
      have d0 : wr.cell? ⟨b, o + k * 4, none⟩ = some (.string x.fName) := (hb.cell (p := ⟨b, o + k * 4, none⟩) hbl).trans c0
      have d1 : wr.cell? ⟨b, o + k * 4 + 1, none⟩ = some (.string x.fSort) := (hb.cell (p := ⟨b, o + k * 4 + 1, none⟩) hbl).trans c1
      have d2 : wr.cell? ⟨b, o + k * 4 + 2, none⟩ = some (.int .i64 x.fDay) := (hb.cell (p := ⟨b, o + k * 4 + 2, none⟩) hbl).trans c2
      have d3 : wr.cell? ⟨b, o + k * 4 + 3, none⟩ = some (.int .i64 x.fMade) := (hb.cell (p := ⟨b, o + k * 4 + 3, none⟩) hbl).trans c3
      have hX := hide hx
      clear hx c0 c1 c2 c3
      have hXs : Hid ((l.map (·.fName))[k]? = some x.fName) := hide (by rw [List.getElem?_map, hX.out]; rfl)
      obtain ⟨L, hL⟩ : ∃ L, Hid (L = N k) := ⟨_, hide rfl⟩
      have hLn : Hid (N (k + 1) = ins1 L x.fName) := hide (by rw [hL.out, hN.out]; exact namesTo_step hXs.out)
      have hLl := hNl.out k
      rw [← hL.out] at hown hLl
      obtain ⟨m, hm⟩ : ∃ m, Hid (L.length = m) := ⟨_, hide rfl⟩
      rw [hm.out] at hown hLl
      obtain ⟨g, cap, hv, hge, hgl, hmc, hcm⟩ := hown.formS hsome
      subst hv
      have hO := hide hown
      have hAr := hide (hown.arr strc_len)
      have hB := hide hb
      clear hr hb hown hsome
      have i0 : (0 : Int) ≤ (k : Int) := by omega
      have i1 : (k : Int) < (n : Int) := by omega
      have i2 : (0 : Int) ≤ (m : Int) := by omega
      go_wp2
      go_loopw [5] (fun q w5 => ∃ j : Nat, j ≤ m ∧ q = .int .i64 j ∧ (∃ d, w5 = wr.drewN d) ∧ Hid (j ≤ lowN L x.fName)) (fun q _ => m - (intOf q).toNat)
      case atStart => exact ⟨0, Nat.zero_le _, rfl, ⟨0, rfl⟩, hide (Nat.zero_le _)⟩
      case round =>
        obtain ⟨j, hj, rfl, ⟨d, rfl⟩, hlow⟩ := hrel
        have j0 : (0 : Int) ≤ (j : Int) := by omega
        by_cases hjm : j < m
        · obtain ⟨_, _, y, hA2, _, hy, hcy⟩ := hAr.out.str (k := j) hjm
          cases hA2
          rw [Nat.zero_add] at hcy
          have j1 : (j : Int) < (m : Int) := by omega
          have j2 : decide ((j : Int) < (m : Int)) = true := decide_eq_true j1
          have j3 : decide (j < m) = true := decide_eq_true hjm
          cases hlt2 : Op.bytesLess y.toList x.fName.toList
          · have hst := hide (lowN_stop hlow.out hy hlt2)
            by_cases he : y = x.fName
            · have s1 := str_eq he
              have hold : Hid (N (k + 1) = L) := hide (by rw [hLn.out]; exact ins1_old hst.out (by rw [hy, he]))
              have hY := hide hy
              clear hy he
              go_wp2_with fail
              go_quiet (fail)
              go_wp2
              go_quiet (fail)
              go_wp2
              go_roundw
              case rel => exact ⟨k + 1, by omega, by go_num, below_drewN hB.out _, by rw [hold.out, hm.out]; exact hO.out.below (below_drewN (Below.refl _ _) _), rfl⟩
              case measure => simp [intOf]; omega
            · have s1 := str_ne he
              have hnew : Hid (N (k + 1) = L.take j ++ [x.fName] ++ L.drop j) := hide (by rw [hLn.out]; exact ins1_new hst.out (by rw [hy]; exact fun e => he (Option.some.inj e)))
              have hY := hide hy
              clear hy he
              go_wp2_with fail
              go_quiet (fail)
              go_wp2
              go_quiet (fail)
              have hcut := fun W => run_cut (P := Try.prog) Try.underlying56 info_string' (some ⟨g, 0, none⟩) m cap j hj W
              have hhead := fun W => run_head (P := Try.prog) Try.underlying56 info_string' g 0 m cap j (by omega) W
              have hA1 := hide (fun D => (hAr.out.head hj).below ((below_drewN (Below.refl wr.heap.size wr) D).alloc (Nat.le_refl _) (.cells #[] 9)))
              have hB1 := hide (fun D => (below_drewN (Below.refl wr.heap.size wr) D).alloc (Nat.le_refl _) (.cells #[] 9))
              have hO1 := hide (fun D => Own.none_made (cells := strc) (e := 9) (s := 1) (wr.drewN D) (Nat.le_refl wr.heap.size))
              have hC := hide (hAr.out.cut (cap := cap) hj hmc)
              clear d1 d2 d3
              go_wp2_with (first | (at_builtin; refine wpl_appN rfl (.tmp 48) (.tmp 51) rfl Try.underlying56 info_string' rfl (by omega) (by omega) strc_len strc_one rfl (hO1.out _) rfl (hA1.out _) (by omega) (hB1.out _).size ?_; intro v6 w6 ho6 hg6 hat6; have hB6 := hide (grown_below (hB1.out _) (hO1.out _) hg6 (hB1.out _).size); have hs6 := some_of_at hat6 rfl; have d6 := keep_cell (p := ⟨b, o + k * 4, none⟩) hbl hB.out (Below.up hB.out hB6.out) d0; rw [Nat.zero_add, List.nil_append] at ho6; have hO6 := hide ho6; clear ho6 hg6 hat6) | (at_builtin; refine wpl_app1H w6.heap.size rfl rfl (.tmp 53) (.tmp 59) rfl Try.underlying56 info_string' rfl (by omega) (by omega) strc_len strc_one rfl hO6.out x.fName _ rfl rfl (by omega) hB6.out.size ?_; intro v7 w7 ho7 hg7 hat7; have hB7 := hide (grown_below hB6.out hO6.out hg7 hB6.out.size); have hs7 := some_of_at hat7 hs6; have hO7 := hide ho7; clear ho7 hg7 hat7) | (at_builtin; refine wpl_appN rfl (.tmp 61) (.tmp 64) rfl Try.underlying56 info_string' rfl (by omega) (by omega) strc_len strc_one rfl hO7.out rfl (hC.out.below hB7.out) (by omega) hB7.out.size ?_; intro v8 w8 ho8 hg8 hat8; have hB8 := hide (grown_below hB7.out hO7.out hg8 hB7.out.size); have hs8 := some_of_at hat8 hs7; have hO8 := hide ho8; clear ho8 hg8 hat8))
              have hlen : Hid ((N (k + 1)).length = j + 1 + (m - j)) := hide (by rw [hnew.out]; simp [hm.out]; omega)
              go_roundw
              case rel => exact ⟨k + 1, by omega, by go_num, Below.up hB.out hB8.out, by rw [hlen.out, hnew.out]; exact hO8.out.less hB.out.size, hs8⟩
              case measure => simp [intOf]; omega
          · have hst := hide (lowN_step hlow.out hy hlt2)
            have hY := hide hy
            clear hy
            go_wp2_with fail
            go_quiet (fail)
            go_wp2
            go_roundw
            case rel => exact ⟨j + 1, by omega, by go_num, ⟨_, rfl⟩, hst⟩
            case measure => simp [intOf]; omega
        · have hjm2 : j = m := by omega
          subst hjm2
          have j2 : decide ((j : Int) < (j : Int)) = false := by simp
          have j3 : decide (j < j) = false := by simp
          have hst := hide (lowN_end (l := L) hlow.out (by rw [hm.out]; exact Nat.le_refl _))
          have hnew : Hid (N (k + 1) = L.take j ++ [x.fName] ++ L.drop j) := hide (by rw [hLn.out]; exact ins1_new hst.out (by rw [List.getElem?_eq_none (by rw [hm.out]; exact Nat.le_refl _)]; intro h; cases h))
          go_wp2_with fail
          go_quiet (fail)
          go_wp2
          go_quiet (fail)
          have hcut := fun W => run_cut (P := Try.prog) Try.underlying56 info_string' (some ⟨g, 0, none⟩) j cap j hj W
          have hhead := fun W => run_head (P := Try.prog) Try.underlying56 info_string' g 0 j cap j (by omega) W
          have hA1 := hide (fun D => (hAr.out.head hj).below ((below_drewN (Below.refl wr.heap.size wr) D).alloc (Nat.le_refl _) (.cells #[] 9)))
          have hB1 := hide (fun D => (below_drewN (Below.refl wr.heap.size wr) D).alloc (Nat.le_refl _) (.cells #[] 9))
          have hO1 := hide (fun D => Own.none_made (cells := strc) (e := 9) (s := 1) (wr.drewN D) (Nat.le_refl wr.heap.size))
          have hC := hide (by have := hAr.out.cut (cap := cap) hj hmc; rw [Nat.sub_self] at this; exact this)
          clear d1 d2 d3
          go_wp2_with (first | (at_builtin; refine wpl_appN rfl (.tmp 48) (.tmp 51) rfl Try.underlying56 info_string' rfl (by omega) (by omega) strc_len strc_one rfl (hO1.out _) rfl (hA1.out _) (by omega) (hB1.out _).size ?_; intro v6 w6 ho6 hg6 hat6; have hB6 := hide (grown_below (hB1.out _) (hO1.out _) hg6 (hB1.out _).size); have hs6 := some_of_at hat6 rfl; have d6 := keep_cell (p := ⟨b, o + k * 4, none⟩) hbl hB.out (Below.up hB.out hB6.out) d0; rw [Nat.zero_add, List.nil_append] at ho6; have hO6 := hide ho6; clear ho6 hg6 hat6) | (at_builtin; refine wpl_app1H w6.heap.size rfl rfl (.tmp 53) (.tmp 59) rfl Try.underlying56 info_string' rfl (by omega) (by omega) strc_len strc_one rfl hO6.out x.fName _ rfl rfl (by omega) hB6.out.size ?_; intro v7 w7 ho7 hg7 hat7; have hB7 := hide (grown_below hB6.out hO6.out hg7 hB6.out.size); have hs7 := some_of_at hat7 hs6; have hO7 := hide ho7; clear ho7 hg7 hat7) | (at_builtin; refine wpl_appN rfl (.tmp 61) (.tmp 64) rfl Try.underlying56 info_string' rfl (by omega) (by omega) strc_len strc_one rfl hO7.out rfl (hC.out.below hB7.out) (by omega) hB7.out.size ?_; intro v8 w8 ho8 hg8 hat8; have hB8 := hide (grown_below hB7.out hO7.out hg8 hB7.out.size); have hs8 := some_of_at hat8 hs7; have hO8 := hide ho8; clear ho8 hg8 hat8))
          have hlen : Hid ((N (k + 1)).length = j + 1 + 0) := hide (by rw [hnew.out]; simp [hm.out])
          go_roundw
          case rel => exact ⟨k + 1, by omega, by go_num, Below.up hB.out hB8.out, by rw [hlen.out, hnew.out]; exact hO8.out.less hB.out.size, hs8⟩
          case measure => simp [intOf]; omega
    · have hkn : k = n := by omega
      subst hkn
      have hB := hide hb
      have hO := hide hown
      clear hb hown
      have hall : Hid (N k = mNames l) := hide (by rw [hN.out]; exact names_eq _ (by rw [List.length_map]; exact hl.out))
      go_wp2
      go_ret
      exact ⟨_, rfl, by rw [← hall.out]; exact hO.out, hB.out⟩
end Go.Proofs.Ytfaonikmmpjopaa
