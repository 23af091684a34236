/- Texts that belong together, joined: contracts and plain laws. No statement is proved here. -/
import Derived.Test.YtfpaejlipaainaaGreatDoorM01
import Derived.Test.YtfpaejlipaainaaGreatDoorM02
import Derived.Test.YtfpaejlipaainaaGreatDoorM03
import Derived.Test.YtfpaejlipaainaaGreatDoorM04
namespace Go.Proofs.YtfpaejlipaainaaGreatDoor
open Go.ChangeShapes Go.WideShapes Go.ChangeAt Go.RowKit Go.Deep
set_option maxRecDepth 100000
set_option maxHeartbeats 1000000 in
theorem iSumG_any (A : Option Addr) (n c : Nat) (l : List Int) (w : World) (hn : n ≤ 1048576) (hbnd : ∀ k, -4611686018427387904 ≤ sumOf id (l.take k) ∧ sumOf id (l.take k) ≤ 4611686018427387904) (hr : Arr i64c 1 w w.heap.size A n l) :
    Calls Tryz.prog 79 #[.slice A n c] w fun e w' => e = .returned (.int .i64 (sumOf id l)) ∧ Below w.heap.size w w' := by
  have hl := hide hr.len
  have hbh := hide hbnd
  clear hbnd
  go_enter Tryz.func79, Tryz.ntmps79
  go_wp2
  go_loopw [3, 8] (fun q i wr => ∃ (k : Nat) (z : Int), k ≤ n ∧ i = .int .i64 k ∧ q = .int .i64 z ∧ Below w.heap.size w wr ∧ Hid (z = sumOf id (l.take k))) (fun _ i _ => n - (intOf i).toNat)
  case atStart => exact ⟨0, 0, Nat.zero_le _, rfl, rfl, Below.refl _ _, hide rfl⟩
  case round =>
    obtain ⟨k, z, hk, rfl, rfl, hb, hz2⟩ := hrel
    by_cases hlt : k < n
    · obtain ⟨b, o, x, rfl, hbl, hx, c0⟩ := hr.int hlt
      have g0 : wr.cell? ⟨b, o + k, none⟩ = some (.int .i64 x) := (hb.cell (p := ⟨b, o + k, none⟩) hbl).trans c0
      have hnx : Hid (z + x = sumOf id (l.take (k + 1))) := hide (by rw [sumOf_snoc hx, ← hz2.out]; rfl)
      have hB := hide hb
      have hzb : -4611686018427387904 ≤ z + x ∧ z + x ≤ 4611686018427387904 := by rw [hnx.out]; exact hbh.out (k + 1)
      clear hr hb hx c0
      go_wp2
      go_roundw
      case rel => exact ⟨k + 1, z + x, by omega, by go_num, rfl, hB.out, hnx⟩
      case measure => simp [intOf]; omega
    · have hkn : k = n := by omega
      subst hkn
      have hB := hide hb
      clear hb
      go_wp2
      go_ret
      exact ⟨by rw [hz2.out, List.take_of_length_le (by rw [hl.out]; exact Nat.le_refl _)]; rfl, hB.out⟩
end Go.Proofs.YtfpaejlipaainaaGreatDoor
namespace Go.Proofs.YtfpaejlipaainaaGreatDoor
open Go.ChangeShapes Go.WideShapes Go.ChangeAt Go.RowKit Go.Deep
set_option maxRecDepth 100000
def KB (l : List Kind) : Prop := ∀ x ∈ l, (0 ≤ x.fReach ∧ x.fReach ≤ 200) ∧ 0 ≤ x.fHave ∧ x.fHave ≤ 12
def TB (t : List Int) : Prop := ∀ x ∈ t, 0 ≤ x ∧ x ≤ 12
def rF (p : Kind × Int) : Int := p.2 * p.1.fReach
theorem zip_get {l : List Kind} {t : List Int} {k : Nat} {x : Kind} {y : Int} (hx : l[k]? = some x) (hy : t[k]? = some y) : (l.zip t)[k]? = some (x, y) := by
  rw [List.getElem?_zip_eq_some]; exact ⟨hx, hy⟩
theorem reach_bound {l : List Kind} {t : List Int} (hl : KB l) (ht : TB t) (hn : l.length ≤ 4) (k : Nat) : 0 ≤ sumOf rF ((l.zip t).take k) ∧ sumOf rF ((l.zip t).take k) ≤ 9600 := by
  refine sumOf_take_bound (M := 2400) (N := 4) (f := rF) ?_ (by rw [List.length_zip]; omega) (by omega) k
  rintro ⟨x, y⟩ hp
  have h1 := hl x (List.of_mem_zip hp).1
  have h2 := ht y (List.of_mem_zip hp).2
  unfold rF
  refine ⟨Int.mul_nonneg h2.1 h1.1.1, ?_⟩
  calc y * x.fReach ≤ 12 * x.fReach := Int.mul_le_mul_of_nonneg_right h2.2 h1.1.1
    _ ≤ 12 * 200 := Int.mul_le_mul_of_nonneg_left h1.1.2 (by omega)
    _ = 2400 := by omega
set_option maxHeartbeats 1000000 in
theorem iReach_any (A : Option Addr) (n c : Nat) (l : List Kind) (B : Option Addr) (d : Nat) (t : List Int) (w : World) (hn : n ≤ 4) (hl : KB l) (ht : TB t) (hr : Arr Kind.cells 2 w w.heap.size A n l) (hrt : Arr i64c 1 w w.heap.size B n t) :
    Calls Tryz.prog 246 #[.slice A n c, .slice B n d] w fun e w' => e = .returned (.int .i64 (reachL l t)) ∧ Below w.heap.size w w' := by
  have hlen := hide hr.len
  have hlen2 := hide hrt.len
  have hbh := hide (fun k => reach_bound hl ht (by rw [hr.len]; exact hn) k)
  have hlh := hide hl
  have hth := hide ht
  clear hl ht
  go_enter Tryz.func246, Tryz.ntmps246
  go_wp2
  go_loopw [5, 10] (fun q i wr => ∃ (k : Nat) (z : Int), k ≤ n ∧ i = .int .i64 k ∧ q = .int .i64 z ∧ Below w.heap.size w wr ∧ Hid (z = sumOf rF ((l.zip t).take k))) (fun _ i _ => n - (intOf i).toNat)
  case atStart => exact ⟨0, 0, Nat.zero_le _, rfl, rfl, Below.refl _ _, hide rfl⟩
  case round =>
    obtain ⟨k, z, hk, rfl, rfl, hb, hz⟩ := hrel
    by_cases hlt : k < n
    · obtain ⟨b, o, x, rfl, hbl, hx, c0, c1⟩ := hr.Kind hlt
      have d0 : wr.cell? ⟨b, o + k * 2, none⟩ = some (.int .i64 x.fReach) := (hb.cell (p := ⟨b, o + k * 2, none⟩) hbl).trans c0
      have d1 : wr.cell? ⟨b, o + k * 2 + 1, none⟩ = some (.int .i64 x.fHave) := (hb.cell (p := ⟨b, o + k * 2 + 1, none⟩) hbl).trans c1
      have hX := hide hx
      clear hx c0 c1
      obtain ⟨bY, oY, y, rfl, hblY, hxY, c0Y⟩ := hrt.int hlt
      have d0Y : wr.cell? ⟨bY, oY + k, none⟩ = some (.int .i64 y) := (hb.cell (p := ⟨bY, oY + k, none⟩) hblY).trans c0Y
      have hXY := hide hxY
      clear hxY c0Y
      have hB := hide hb
      obtain ⟨p, hp⟩ : ∃ p, p = y * x.fReach := ⟨_, rfl⟩
      have hx2 := hlh.out x (List.mem_of_getElem? hX.out)
      have hy2 := hth.out y (List.mem_of_getElem? hXY.out)
      have hnx : Hid (z + p = sumOf rF ((l.zip t).take (k + 1))) := hide (by rw [sumOf_snoc (zip_get hX.out hXY.out), ← hz.out, hp]; rfl)
      have hpb : 0 ≤ p ∧ p ≤ 2400 := by
        rw [hp]
        refine ⟨Int.mul_nonneg hy2.1 hx2.1.1, ?_⟩
        calc y * x.fReach ≤ 12 * x.fReach := Int.mul_le_mul_of_nonneg_right hy2.2 hx2.1.1
          _ ≤ 12 * 200 := Int.mul_le_mul_of_nonneg_left hx2.1.2 (by omega)
          _ = 2400 := by omega
      have hw1 : IntKind.i64.wrap (y * x.fReach) = p := by rw [← hp]; exact IntWalk.i64_in _ (by omega)
      have hzb : 0 ≤ z + p ∧ z + p ≤ 9600 := by rw [hnx.out]; exact hbh.out (k + 1)
      have hx3 := hide hx2
      clear hr hrt hb hp hx2
      go_wp2
      go_roundw
      case rel => exact ⟨k + 1, z + p, by omega, by go_num, rfl, hB.out, hnx⟩
      case measure => simp [intOf]; omega
    · have hkn : k = n := by omega
      have hB := hide hb
      have hfin : Hid (z = reachL l t) := hide (by
        have h := hz.out
        rw [hkn, List.take_of_length_le (by rw [List.length_zip, hlen.out, hlen2.out]; omega)] at h
        exact h)
      subst hkn
      clear hb
      go_wp2
      go_ret
      exact ⟨by rw [hfin.out]; rfl, hB.out⟩
theorem next_none : ∀ {hs t : List Int}, (∀ p ∈ hs.zip t, ¬ p.2 < p.1) → nextT hs t = none
  | [], _, _ => by simp [nextT]
  | _ :: _, [], _ => by simp [nextT]
  | h :: hs, x :: xs, H => by
    rw [nextT, next_none (hs := hs) (t := xs) fun p hp => H p (by rw [List.zip_cons_cons]; exact List.mem_cons_of_mem _ hp)]
    exact if_neg (H (h, x) (by rw [List.zip_cons_cons]; exact List.mem_cons_self))
theorem next_some : ∀ {hs t : List Int} (k : Nat) {h x : Int}, hs[k]? = some h → t[k]? = some x → hs.length = t.length → x < h → (∀ p ∈ (hs.zip t).drop (k + 1), ¬ p.2 < p.1) →
    nextT hs t = some (t.take k ++ (x + 1) :: List.replicate (t.length - (k + 1)) 0)
  | [], _, _, _, _, h1, _, _, _, _ => by simp at h1
  | _ :: _, [], _, _, _, _, h2, _, _, _ => by simp at h2
  | h :: hs, x :: xs, 0, h', x', h1, h2, hl, hlt, H => by
    simp only [List.getElem?_cons_zero, Option.some.injEq] at h1 h2
    subst h1 h2
    rw [nextT, next_none (hs := hs) (t := xs) fun p hp => H p (by simpa using hp)]
    show (if x < h then _ else _) = _
    rw [if_pos hlt]
    have : hs.length = xs.length := by simpa using hl
    have e : hs.map (fun _ => (0 : Int)) = List.replicate xs.length 0 := by rw [← this, List.map_const']
    rw [e]; simp
  | h :: hs, x :: xs, k + 1, h', x', h1, h2, hl, hlt, H => by
    simp only [List.getElem?_cons_succ] at h1 h2
    rw [nextT, next_some k h1 h2 (by simpa using hl) hlt fun p hp => H p (by simpa using hp)]
    simp
def nextRow (hs t : List Int) : List Int := (nextT hs t).getD (List.replicate t.length 0)
set_option maxHeartbeats 2000000 in
theorem iNext_any (A : Option Addr) (n c : Nat) (l : List Kind) (g cp base : Nat) (t : List Int) (w : World) (hn : n ≤ 4) (hl : KB l) (ht : TB t) (hbs : base ≤ w.heap.size) (hr : Arr Kind.cells 2 w base A n l) (ho : Own i64c 2 1 w base (.slice (some ⟨g, 0, none⟩) n cp) n t) :
    Calls Tryz.prog 245 #[.slice A n c, .slice (some ⟨g, 0, none⟩) n cp] w fun e w' => e = .returned (.bool (nextT (l.map (·.fHave)) t).isSome) ∧ Own i64c 2 1 w' base (.slice (some ⟨g, 0, none⟩) n cp) n (nextRow (l.map (·.fHave)) t) ∧ w.grownBy w' (some g) := by
  have hlen := hide hr.len
  have hlen2 := hide ho.len
  have hlh := hide hl
  have hth := hide ht
  have hgb : base ≤ g := by
    rcases ho.form with ⟨h, _⟩ | ⟨g', cap, h, hb, _⟩
    · cases h
    · injection h with h1; injection h1 with h1; injection h1 with h1; omega
  have hR := hide hr
  have hz0 : Hid (t = t.take n ++ List.replicate (n - n) 0) := hide (by rw [Nat.sub_self, List.replicate_zero, List.append_nil, List.take_of_length_le (by rw [hlen2.out]; exact Nat.le_refl _)])
  have ho0 := hide (Eq.mp (congrArg (fun q => Own i64c 2 1 w base (.slice (some ⟨g, 0, none⟩) n cp) n q) hz0.out) ho)
  clear hl ht ho hr
  go_enter Tryz.func245, Tryz.ntmps245
  go_wp2
  go_loopw [5] (fun i wr => ∃ (m : Nat) (z : Int), m ≤ n ∧ z = (m : Int) - 1 ∧ i = .int .i64 z ∧ w.grownBy wr (some g) ∧ Own i64c 2 1 wr base (.slice (some ⟨g, 0, none⟩) n cp) n (t.take m ++ List.replicate (n - m) 0) ∧ Hid (∀ p ∈ ((l.map (·.fHave)).zip t).drop m, p.1 ≤ p.2)) (fun i _ => (intOf i + 1).toNat)
  case atStart =>
    exact ⟨n, (n : Int) - 1, Nat.le_refl _, rfl, rfl, World.grownBy.refl w _, ho0.out, hide (by intro p hp; rw [List.drop_of_length_le (by rw [List.length_zip, List.length_map, hlen.out]; omega)] at hp; cases hp)⟩
  case round =>
    obtain ⟨m, z, hm, hz, rfl, hg, hown, hinv⟩ := hrel
    clear hz0
    by_cases h0 : m = 0
    · subst h0
      have hz1 : z = -1 := by omega
      subst hz1
      have hno : Hid ((nextT (l.map (·.fHave)) t).isSome = false ∧ nextRow (l.map (·.fHave)) t = List.replicate n 0) := hide (by
        have h := next_none (hs := l.map (·.fHave)) (t := t) (fun p hp => by have := hinv.out p (by simpa using hp); omega)
        unfold nextRow
        rw [h, hlen2.out]; exact ⟨rfl, rfl⟩)
      rw [List.take_zero, List.nil_append, Nat.sub_zero] at hown
      have hO := hide hown
      have hG := hide hg
      clear hown hg hz
      go_wp2
      go_ret
      exact ⟨retB hno.out.1.symm, by rw [hno.out.2]; exact hO.out, hG.out⟩
    · obtain ⟨k, rfl⟩ : ∃ k, m = k + 1 := ⟨m - 1, by omega⟩
      have hzk : z = (k : Int) := by omega
      subst hzk
      have hlt : k < n := by omega
      have hrw := hR.out.grown hg hbs (fun q e => by cases e; exact hgb)
      obtain ⟨b, o, x, rfl, hbl, hx, c0, c1⟩ := hrw.Kind hlt
      obtain ⟨y, hy, e0, ef⟩ := hown.int_at hlt
      have hyt : t[k]? = some y := by
        rw [List.getElem?_append_left (by rw [List.length_take, hlen2.out]; omega), List.getElem?_take, if_pos (by omega)] at hy
        exact hy
      have hO := hide hown
      have hG := hide hg
      have hX := hide hx
      have hY := hide hyt
      have hyb := hth.out y (List.mem_of_getElem? hyt)
      have hxb := (hlh.out x (List.mem_of_getElem? hx)).2
      have hk0 : (0 : Int) ≤ (k : Int) := by omega
      have hkn : (k : Int) < (n : Int) := by omega
      have hkk : (k : Int).toNat = k := by omega
      clear hown hg hx hy hyt hrw hz h0 c0
      by_cases hc : y < x.fHave
      · have hres : Hid ((nextT (l.map (·.fHave)) t).isSome = true ∧ nextRow (l.map (·.fHave)) t = (t.take (k + 1) ++ List.replicate (n - (k + 1)) 0).set k (y + 1)) := hide (by
          have h := next_some (hs := l.map (·.fHave)) (t := t) k (h := x.fHave) (by rw [List.getElem?_map, hX.out]; rfl) hY.out (by rw [List.length_map, hlen.out, hlen2.out]) hc (fun p hp => by have := hinv.out p hp; omega)
          unfold nextRow
          rw [h, hlen2.out]
          refine ⟨rfl, ?_⟩
          show t.take k ++ (y + 1) :: _ = _
          rw [take_snoc hY.out, List.append_assoc, List.set_append, if_neg (by rw [List.length_take, hlen2.out]; omega), List.length_take, hlen2.out, Nat.min_eq_left (by omega), Nat.sub_self]; rfl)
        have hd : decide (y < x.fHave) = true := decide_eq_true hc
        have hst : Hid (∀ q, Own i64c 2 1 ((wr.drewN q).setCell ⟨g, k, none⟩ (.int .i64 (y + 1))) base (.slice (some ⟨g, 0, none⟩) n cp) n ((t.take (k + 1) ++ List.replicate (n - (k + 1)) 0).set k (y + 1))) := hide fun q => (hO.out.kept (row := none) (grown_drewN wr q none) (.inr (by simp [Value.ownBlock]))).int_store hlt (y + 1)
        have hgw : Hid (∀ q, w.grownBy ((wr.drewN q).setCell ⟨g, k, none⟩ (.int .i64 (y + 1))) (some g)) := hide fun q => grown_two (grown_two hG.out (grown_drewN wr q _)) (grown_set _ _ _ _)
        go_wp2
        go_quiet (fail)
        go_wp2
        go_ret
        exact ⟨retB hres.out.1.symm, by rw [hres.out.2]; exact hst.out _, hgw.out _⟩
      · have hd : decide (y < x.fHave) = false := decide_eq_false hc
        have hnx : Hid (∀ p ∈ ((l.map (·.fHave)).zip t).drop k, p.1 ≤ p.2) := hide (by
          have e : ((l.map (·.fHave)).zip t)[k]? = some (x.fHave, y) := by rw [List.getElem?_zip_eq_some]; exact ⟨by rw [List.getElem?_map, hX.out]; rfl, hY.out⟩
          intro p hp
          rw [List.drop_eq_getElem_cons (lt_of_get e)] at hp
          rcases List.mem_cons.1 hp with hp | hp
          · rw [(List.getElem?_eq_some_iff.1 e).2] at hp
            subst hp; exact Int.not_lt.1 hc
          · exact hinv.out p hp)
        have hst : Hid (∀ q, Own i64c 2 1 ((wr.drewN q).setCell ⟨g, k, none⟩ (.int .i64 0)) base (.slice (some ⟨g, 0, none⟩) n cp) n (t.take k ++ List.replicate (n - k) 0)) := hide fun q => by
          have h := (hO.out.kept (row := none) (grown_drewN wr q none) (.inr (by simp [Value.ownBlock]))).int_store hlt 0
          rw [take_snoc hY.out, List.append_assoc, List.set_append, if_neg (by rw [List.length_take, hlen2.out]; omega), List.length_take, hlen2.out, Nat.min_eq_left (by omega), Nat.sub_self] at h
          rw [show n - k = (n - (k + 1)) + 1 by omega, List.replicate_succ]
          exact h
        have hgw : Hid (∀ q, w.grownBy ((wr.drewN q).setCell ⟨g, k, none⟩ (.int .i64 0)) (some g)) := hide fun q => grown_two (grown_two hG.out (grown_drewN wr q _)) (grown_set _ _ _ _)
        go_wp2
        go_quiet (fail)
        go_wp2
        go_roundw
        case rel => exact ⟨k, (k : Int) - 1, by omega, rfl, by go_num, hgw.out _, hst.out _, hnx⟩
        case measure => simp [intOf]
end Go.Proofs.YtfpaejlipaainaaGreatDoor
namespace Go.Proofs.YtfpaejlipaainaaGreatDoor
open Go.ChangeShapes Go.WideShapes Go.ChangeAt Go.RowKit Go.Deep
set_option maxRecDepth 100000
theorem iBetter_any (r a r' a' : Int) (w : World) : Calls Tryz.prog 194 #[.int .i64 r, .int .i64 a, .int .i64 r', .int .i64 a'] w fun e w' => e = .returned (.bool (betterF r a r' a')) ∧ w = w' := by
  by_cases h1 : r < r'
  · have hm : Hid (betterF r a r' a' = true) := hide (by unfold betterF; simp [h1])
    go_enter Tryz.func194, Tryz.ntmps194
    go_wp2
    go_ret
    exact ⟨retB hm.out.symm, rfl⟩
  by_cases h2 : r = r'
  · have hm : Hid (betterF r a r' a' = decide (a < a')) := hide (by unfold betterF; simp [h2])
    have h3 : (r == r') = true := by simp [h2]
    have h4 : decide (r < r') = false := decide_eq_false h1
    clear h2
    go_enter Tryz.func194, Tryz.ntmps194
    go_wp2
    go_ret
    exact ⟨retB hm.out.symm, rfl⟩
  · have hm : Hid (betterF r a r' a' = false) := hide (by unfold betterF; simp [h1, h2])
    have h3 : (r == r') = false := by simp [h2]
    have h4 : decide (r < r') = false := decide_eq_false h1
    go_enter Tryz.func194, Tryz.ntmps194
    go_wp2
    go_ret
    exact ⟨retB hm.out.symm, rfl⟩
def BV (w : World) (base : Nat) (v : Value) (n : Nat) : Option (List Int) → Prop
  | none => v = .slice none 0 0
  | some u => ∃ g cp, v = .slice (some ⟨g, 0, none⟩) n cp ∧ n ≤ cp ∧ Own i64c 2 1 w base v n u
theorem BV.grown {w w' : World} {base : Nat} {v : Value} {n : Nat} {b : Option (List Int)} {row : Option Nat} (h : BV w base v n b) (hg : w.grownBy w' row) (hne : v.ownBlock = none ∨ v.ownBlock ≠ row) : BV w' base v n b := by
  cases b with
  | none => exact h
  | some u =>
    obtain ⟨g, cp, h1, h2, h3⟩ := h
    exact ⟨g, cp, h1, h2, h3.kept hg hne⟩
theorem taken_all {hs : List Int} (h0 : ∀ h ∈ hs, 0 ≤ h) : ∀ t ∈ allT hs, ∀ p ∈ hs.zip t, 0 ≤ p.2 ∧ p.2 ≤ p.1 := by
  induction hs with
  | nil => intro t _ p hp; simp at hp
  | cons h hs ih =>
    have ih2 := ih fun y hy => h0 y (List.mem_cons_of_mem _ hy)
    have hh := h0 h List.mem_cons_self
    have key : ∀ n : Nat, (n : Int) ≤ h + 1 → ∀ t ∈ allTo (allT hs) n, ∀ p ∈ (h :: hs).zip t, 0 ≤ p.2 ∧ p.2 ≤ p.1 := by
      intro n
      induction n with
      | zero => intro _ t ht; cases ht
      | succ n ihn =>
        intro hn t ht
        rw [allTo, List.mem_append] at ht
        rcases ht with ht | ht
        · exact ihn (by omega) t ht
        · obtain ⟨u, hu, rfl⟩ := List.mem_map.1 ht
          intro p hp
          rw [List.zip_cons_cons] at hp
          rcases List.mem_cons.1 hp with hp | hp
          · subst hp; simp only; omega
          · exact ih2 u hu p hp
    exact key _ (by omega)
theorem taken_TB {l : List Kind} (hl : KB l) : ∀ t ∈ allT (l.map (·.fHave)), TB t := by
  have h0 : ∀ h ∈ l.map (·.fHave), 0 ≤ h := by
    intro h hh
    obtain ⟨x, hx, rfl⟩ := List.mem_map.1 hh
    exact (hl x hx).2.1
  intro t ht x hx
  obtain ⟨i, hi⟩ := List.mem_iff_getElem?.1 hx
  have hlen := allT_len h0 t ht
  have hi2 : i < (l.map (·.fHave)).length := by rw [← hlen]; exact lt_of_get hi
  have hz : ((l.map (·.fHave)).zip t)[i]? = some ((l.map (·.fHave))[i], x) := by rw [List.getElem?_zip_eq_some]; exact ⟨List.getElem?_eq_getElem hi2, hi⟩
  have h1 := taken_all h0 t ht _ (List.mem_of_getElem? hz)
  have h2 := List.getElem_mem hi2
  obtain ⟨y, hy, e⟩ := List.mem_map.1 h2
  have h3 := hl y hy
  simp only at h1
  rw [← e] at h1
  exact ⟨h1.1, Int.le_trans h1.2 h3.2.2⟩
theorem lnk_at {hs : List Int} {t : List Int} {R : List (List Int)} : ∀ {P : List (List Int)}, LnkTo hs none (P ++ t :: R) → nextT hs t = R.head?
  | [], h => by
    cases R with
    | nil => exact h
    | cons u R => exact h.1
  | [p], h => lnk_at (P := []) h.2
  | p :: q :: P, h => lnk_at (P := q :: P) h.2
theorem sum_TB {t : List Int} (h : TB t) (hn : t.length ≤ 4) (k : Nat) : -4611686018427387904 ≤ sumOf id (t.take k) ∧ sumOf id (t.take k) ≤ 4611686018427387904 := by
  have := sumOf_take_bound (M := 12) (N := 4) (f := id) h hn (by omega) k
  omega
theorem best_or (l : List Kind) (q : Int) (b : Option (List Int)) (t : List Int) : bestS l q b t = some t ∨ bestS l q b t = b := by
  show (if _ then _ else _) = _ ∨ (if _ then _ else _) = _
  by_cases h : q ≤ reachL l t ∧ (match b with | none => true | some u => betterF (sumOf id t) (reachL l t) (sumOf id u) (reachL l u)) = true
  · exact .inl (if_pos h)
  · exact .inr (if_neg h)
theorem nil_yes (W : World) : Sem.run Tryz.prog (binOp BinOp.eql 60 (.slice none 0 0) (.slice none 0 0)) W = .ok (.bool true) W := rfl
theorem nil_no (a : Addr) (n c : Nat) (W : World) : Sem.run Tryz.prog (binOp BinOp.eql 60 (.slice (some a) n c) (.slice none 0 0)) W = .ok (.bool false) W := rfl
theorem bv_new {w W w5 : World} {v5 : Value} {n cp : Nat} {t : List Int} (hT : Own i64c 2 1 W w.heap.size (.slice (some ⟨w.heap.size, 0, none⟩) n cp) n t) (hB : Below w.heap.size w W)
    (ho : Own i64c 2 1 w5 w.heap.size v5 n t) (hg : (W.alloc (.cells #[] 2)).grownBy w5 (some W.heap.size)) (hat : v5.ownBlock = some W.heap.size ∨ v5.ownBlock = some (W.alloc (.cells #[] 2)).heap.size) :
    BV w5 w.heap.size v5 n (some t) ∧ v5.ownBlock ≠ some w.heap.size ∧ Own i64c 2 1 w5 w.heap.size (.slice (some ⟨w.heap.size, 0, none⟩) n cp) n t ∧ Below w.heap.size w w5 := by
  have hlt : w.heap.size < W.heap.size := (hT.2.lt _ rfl).2
  have hal := (Below.refl W.heap.size W).alloc (Nat.le_refl _) (.cells #[] 2)
  refine ⟨?_, ?_, (hT.below hal).kept hg (.inr (by simp [Value.ownBlock]; omega)), (Below.up hB hal).grown hg (Nat.le_trans hB.size hal.size) (fun k e => by cases e; omega)⟩
  · have hs : v5.ownBlock.isSome = true := by rcases hat with h | h <;> rw [h] <;> rfl
    obtain ⟨g, cp, h1, _, _, h4, _⟩ := ho.formS hs
    exact ⟨g, cp, h1, h4, ho⟩
  · rcases hat with h | h
    · rw [h]; intro e; injection e with e; omega
    · rw [h, World.size_alloc]; intro e; injection e with e; omega
theorem info_i64s : (Tryz.prog.info? 2).map (fun i => (i.zero, i.size, i.bytes)) = some (some (.int .i64 0), 1, 8) := by kernel_rfl
set_option maxHeartbeats 4000000 in
theorem iBest_any (A : Option Addr) (n c : Nat) (l : List Kind) (q : Int) (w : World) (hn : n ≤ 4) (hl : KB l) (hr0 : Arr Kind.cells 2 w w.heap.size A n l) :
    Calls Tryz.prog 193 #[.slice A n c, .int .i64 q, .func (.func 194) #[] #[]] w fun e w' => ∃ v, e = .returned v ∧ BV w' w.heap.size v n (mFew l q) ∧ Below w.heap.size w w' := by
  have hlen := hide hr0.len
  have hlh := hide hl
  have hr := hide hr0
  have h0 : ∀ h ∈ l.map (·.fHave), 0 ≤ h := by
    intro h hh
    obtain ⟨x, hx, rfl⟩ := List.mem_map.1 hh
    exact (hl x hx).2.1
  obtain ⟨⟨R0, hR0⟩, hlnk0⟩ := allT_all (l.map (·.fHave)) h0
  have hhs : (l.map (·.fHave)).map (fun _ => (0 : Int)) = List.replicate n 0 := by rw [List.map_const', List.length_map, hr0.len]
  rw [hhs] at hR0
  obtain ⟨AT, hAT⟩ : ∃ AT, AT = allT (l.map (·.fHave)) := ⟨_, rfl⟩
  rw [← hAT] at hR0 hlnk0
  have hlnk := hide hlnk0
  have hR := hide hR0
  have hF : Hid (mFew l q = AT.foldl (bestS l q) none) := hide (by rw [hAT]; rfl)
  have hTB : Hid (∀ t ∈ AT, TB t ∧ t.length = n) := hide (fun t ht => by
    rw [hAT] at ht
    exact ⟨taken_TB hl t ht, by rw [allT_len h0 t ht, List.length_map, hr0.len]⟩)
  clear hAT hhs h0 hlnk0 hR0 hl hr0
  obtain ⟨i0, hi0, hz0, hz1, hz2⟩ := info_parts info_i64s
  have hmk := fun W => run_make_rowN (P := Tryz.prog) 60 2 i0 _ Tryz.underlying60 hi0 hz0 .i64 .i64 n n (Nat.le_refl _) (by rw [hz2]; omega) (by omega) W
  rw [hz1] at hmk
  obtain ⟨cur, hcur⟩ : ∃ cur, cur = madeCells (Value.int .i64 0).cells (n * 1) := ⟨_, rfl⟩
  rw [← hcur] at hmk
  have hcl : cur.toList = (List.replicate n (0 : Int)).flatMap i64c := by rw [hcur]; exact made_flat i64c_len (by omega) #[.int .i64 0] 0 rfl n
  clear hcur
  have hmade : Hid (Own i64c 2 1 (w.alloc (.cells cur 2)) w.heap.size (.slice (some ⟨w.heap.size, 0, none⟩) n n) n (List.replicate n (0 : Int))) :=
    hide (Own.made w (Nat.le_refl _) (by unfold maxLen; omega) _ i64c_len cur hcl)
  clear hcl
  go_enter Tryz.func193, Tryz.ntmps193
  go_wp2
  go_loopg [7, 9] (R0.length + 1) (fun gk vb mo wr => ∃ (P R : List (List Int)), AT = P ++ R ∧ gk = R.length ∧ mo = .bool (!R.isEmpty) ∧ BV wr w.heap.size vb n (P.foldl (bestS l q) none) ∧ vb.ownBlock ≠ some w.heap.size ∧ Own i64c 2 1 wr w.heap.size (.slice (some ⟨w.heap.size, 0, none⟩) n n) n (R.headD (List.replicate n 0)) ∧ Below w.heap.size w wr)
  case atStart => exact ⟨[], AT, rfl, by rw [hR.out]; rfl, by rw [hR.out]; rfl, rfl, by simp [Value.ownBlock], by rw [hR.out]; exact hmade.out, (Below.refl w.heap.size w).alloc (Nat.le_refl _) _⟩
  case round =>
    clear hmade hmk
    obtain ⟨P, R, hPR, rfl, rfl, hv, hfar, hrow, hb⟩ := hrel
    have hB := hide hb
    have hV := hide hv
    have hT := hide hrow
    have hfr := hide hfar
    clear hb hv hrow hfar
    cases R with
    | nil =>
      have hfin : Hid (P.foldl (bestS l q) none = mFew l q) := hide (by rw [hF.out, hPR, List.append_nil])
      clear hPR
      have hV2 := hide (Eq.mp (congrArg (BV wr w.heap.size u7 n) hfin.out) hV.out)
      go_wp2
      go_ret
      exact ⟨_, rfl, hV2.out, hB.out⟩
    | cons t R =>
      have htb := hide (hTB.out t (by rw [hPR]; simp)).1
      have htl := hide (hTB.out t (by rw [hPR]; simp)).2
      have hPR' : Hid (AT = (P ++ [t]) ++ R) := hide (by rw [hPR]; simp)
      have hnb : Hid ((nextT (l.map (·.fHave)) t).isSome = !R.isEmpty ∧ nextRow (l.map (·.fHave)) t = R.headD (List.replicate n 0)) := hide (by
        have h := hlnk.out
        rw [hPR] at h
        have h1 := lnk_at h
        unfold nextRow
        rw [h1, htl.out]
        cases R with
        | nil => exact ⟨rfl, rfl⟩
        | cons u R => exact ⟨rfl, rfl⟩)
      have hst : Hid ((P ++ [t]).foldl (bestS l q) none = bestS l q (P.foldl (bestS l q) none) t) := hide (by rw [List.foldl_append]; rfl)
      have huT : Hid (∀ u, P.foldl (bestS l q) none = some u → TB u ∧ u.length = n) := hide (by
        have key : ∀ (Q : List (List Int)) (b : Option (List Int)), (∀ x ∈ Q, TB x ∧ x.length = n) → (∀ u, b = some u → TB u ∧ u.length = n) → ∀ u, Q.foldl (bestS l q) b = some u → TB u ∧ u.length = n := by
          intro Q
          induction Q with
          | nil => intro b _ hb u hu; exact hb u hu
          | cons x Q ih =>
            intro b hQ hb u hu
            rw [List.foldl_cons] at hu
            refine ih _ (fun y hy => hQ y (List.mem_cons_of_mem _ hy)) ?_ u hu
            intro v hv
            rcases best_or l q b x with e | e
            · rw [e] at hv; rw [← Option.some.inj hv]; exact hQ _ List.mem_cons_self
            · rw [e] at hv; exact hb v hv
        exact key P none (fun x hx => hTB.out x (by rw [hPR]; simp [hx])) (fun u hu => by cases hu))
      clear hPR
      obtain ⟨b, hbb⟩ : ∃ b, b = P.foldl (bestS l q) none := ⟨_, rfl⟩
      rw [← hbb] at hV hst huT
      clear hbb
      have hT1 : Hid (Own i64c 2 1 wr w.heap.size (.slice (some ⟨w.heap.size, 0, none⟩) n n) n t) := hide hT.out
      clear hT
      have hgr : Hid (∀ {w1 : World}, Below wr.heap.size wr w1 → Own i64c 2 1 w1 w.heap.size (.slice (some ⟨w.heap.size, 0, none⟩) n n) n t) := hide fun hb => hT1.out.below hb
      obtain ⟨z, hz⟩ : ∃ z, z = reachL l t := ⟨_, rfl⟩
      have hzz := hide hz
      clear hz
      by_cases hq : q ≤ z
      case neg =>
        have hbs : Hid (bestS l q b t = b) := hide (by unfold bestS; rw [if_neg]; rw [← hzz.out]; exact fun h => hq h.1)
        have hqd : decide (q ≤ z) = false := decide_eq_false hq
        go_wp2_with (first | (go_at_call 246; refine (iReach_any A n c l _ n t _ hn hlh.out htb.out (hr.out.go hB.out) (hT1.out.arr i64c_len)).mono ?_; rw [← hzz.out]; rintro e w1 ⟨rfl, hb⟩; have hT2 := hide (hT1.out.below hb); have hV2 := hide (BV.grown hV.out (row := none) (grown_of_below hb) (by cases u7.ownBlock <;> simp)); have hB2 := hide (Below.up hB.out hb); clear hb) | (go_at_call 245; refine (iNext_any A n c l w.heap.size n w.heap.size t _ hn hlh.out htb.out hB2.out.size (hr.out.below hB2.out) hT2.out).mono ?_; rintro e w9 ⟨rfl, ho9, hg9⟩; rw [hnb.out.1]; rw [hnb.out.2] at ho9; have hT9 := hide ho9; have hB9 := hide (hB2.out.grown hg9 hB2.out.size (fun k e => by cases e; exact Nat.le_refl _)); have hV9 := hide (BV.grown hV2.out hg9 (.inr hfr.out)); clear ho9 hg9) | fail)
        go_roundg R.length
        case measure => simp
        case rel => exact ⟨P ++ [t], R, hPR'.out, rfl, rfl, by rw [hst.out, hbs.out]; exact hV9.out, hfr.out, hT9.out, hB9.out⟩
      case pos =>
        have hqd : decide (q ≤ z) = true := decide_eq_true hq
        cases b with
        | none =>
          have hbs : Hid (bestS l q none t = some t) := hide (by unfold bestS; rw [if_pos]; rw [← hzz.out]; exact ⟨hq, rfl⟩)
          have hvn := hV.out
          unfold BV at hvn
          subst hvn
          have hni := nil_yes
          go_wp2_with (first | (go_at_call 246; refine (iReach_any A n c l _ n t _ hn hlh.out htb.out (hr.out.go hB.out) (hT1.out.arr i64c_len)).mono ?_; rw [← hzz.out]; rintro e w1 ⟨rfl, hb⟩; have hT2 := hide (hT1.out.below hb); have hB2 := hide (Below.up hB.out hb); clear hb) | (at_builtin; refine wpl_appN rfl (.tmp 40) (.tmp 41) rfl Tryz.underlying60 info_i64s rfl (by omega) (by omega) i64c_len i64c_one rfl (Own.none_made (base := w.heap.size) w1 hB2.out.size) rfl ((hT2.out.below ((Below.refl _ _).alloc (Nat.le_refl _) _)).arr i64c_len) (by omega) (by have := hB2.out.size; simp; omega) ?_; intro v5 w5 ho5 hg5 hat5; rw [Nat.zero_add, List.nil_append] at ho5; have hQ5 := hide (bv_new hT2.out hB2.out ho5 hg5 hat5); clear ho5 hg5 hat5; have hV5 := hide hQ5.out.1; have hF5 := hide hQ5.out.2.1; have hT5 := hide hQ5.out.2.2.1; have hB5 := hide hQ5.out.2.2.2; clear hQ5) | (go_at_call 245; refine (iNext_any A n c l w.heap.size n w.heap.size t _ hn hlh.out htb.out hB5.out.size (hr.out.below hB5.out) hT5.out).mono ?_; rintro e w9 ⟨rfl, ho9, hg9⟩; rw [hnb.out.1]; rw [hnb.out.2] at ho9; have hT9 := hide ho9; have hB9 := hide (hB5.out.grown hg9 hB5.out.size (fun k e => by cases e; exact Nat.le_refl _)); have hV9 := hide (BV.grown hV5.out hg9 (.inr hF5.out)); clear ho9 hg9) | fail)
          go_roundg R.length
          case measure => simp
          case rel => exact ⟨P ++ [t], R, hPR'.out, rfl, rfl, by rw [hst.out, hbs.out]; exact hV9.out, hF5.out, hT9.out, hB9.out⟩
        | some u =>
          obtain ⟨g7, c7, hv7, hc7, ho7⟩ := hV.out
          subst hv7
          have hni := nil_no ⟨g7, 0, none⟩ n c7
          have huu := hide (huT.out u rfl)
          have hut := hide huu.out.1
          have hul := hide huu.out.2
          clear huu
          obtain ⟨y, hy⟩ : ∃ y, y = reachL l u := ⟨_, rfl⟩
          have hyy := hide hy
          obtain ⟨r1, hr1⟩ : ∃ r, r = sumOf id t := ⟨_, rfl⟩
          have hrr1 := hide hr1
          obtain ⟨r2, hr2⟩ : ∃ r, r = sumOf id u := ⟨_, rfl⟩
          have hrr2 := hide hr2
          have hO7 := hide ho7
          clear hy hr1 hr2 ho7
          go_wp2_with (first | (go_at_call 246; refine (iReach_any A n c l _ n t _ hn hlh.out htb.out (hr.out.go hB.out) (hT1.out.arr i64c_len)).mono ?_; rw [← hzz.out]; rintro e w1 ⟨rfl, hb⟩; have hT2 := hide (hT1.out.below hb); have hV2 := hide (BV.grown (b := some u) (base := w.heap.size) (n := n) ⟨g7, c7, rfl, hc7, hO7.out⟩ (row := none) (grown_of_below hb) (by simp [Value.ownBlock])); have hB2 := hide (Below.up hB.out hb); clear hb) | fail)
          refine (iSumG_any _ n n t _ (by omega) (sum_TB htb.out (by rw [htl.out]; exact hn)) (hT2.out.arr i64c_len)).mono ?_
          rw [← hrr1.out]
          rintro e w2 ⟨rfl, hb⟩
          replace hT2 := hide (hT2.out.below hb)
          have hO8 := hide ((hV2.out.choose_spec.choose_spec.2.2).below hb)
          clear hV2
          replace hB2 := hide (Below.up hB2.out hb)
          clear hb
          go_wp2_with fail
          refine (iSumG_any _ n c7 u _ (by omega) (sum_TB hut.out (by rw [hul.out]; exact hn)) (hO8.out.arr i64c_len)).mono ?_
          rw [← hrr2.out]
          rintro e w3 ⟨rfl, hb⟩
          replace hT2 := hide (hT2.out.below hb)
          replace hO8 := hide (hO8.out.below hb)
          replace hB2 := hide (Below.up hB2.out hb)
          clear hb
          go_wp2_with fail
          refine (iReach_any A n c l _ c7 u _ hn hlh.out hut.out (hr.out.go hB2.out) (hO8.out.arr i64c_len)).mono ?_
          rw [← hyy.out]
          rintro e w4 ⟨rfl, hb⟩
          replace hT2 := hide (hT2.out.below hb)
          replace hO8 := hide (hO8.out.below hb)
          replace hB2 := hide (Below.up hB2.out hb)
          clear hb
          go_wp2_with fail
          refine (iBetter_any r1 z r2 y _).mono ?_
          rintro e w6 ⟨rfl, rfl⟩
          cases hbt : betterF r1 z r2 y
          · have hbs : Hid (bestS l q (some u) t = some u) := hide (by unfold bestS; rw [if_neg]; simp only; rw [← hzz.out, ← hyy.out, ← hrr1.out, ← hrr2.out, hbt]; simp)
            have hV5 : Hid (BV w4 w.heap.size (.slice (some ⟨g7, 0, none⟩) n c7) n (some u)) := hide ⟨g7, c7, rfl, hc7, hO8.out⟩
            clear hbt
            go_wp2_with (first | (go_at_call 245; refine (iNext_any A n c l w.heap.size n w.heap.size t _ hn hlh.out htb.out hB2.out.size (hr.out.below hB2.out) hT2.out).mono ?_; rintro e w9 ⟨rfl, ho9, hg9⟩; rw [hnb.out.1]; rw [hnb.out.2] at ho9; have hT9 := hide ho9; have hB9 := hide (hB2.out.grown hg9 hB2.out.size (fun k e => by cases e; exact Nat.le_refl _)); have hV9 := hide (BV.grown hV5.out hg9 (.inr hfr.out)); clear ho9 hg9) | fail)
            go_roundg R.length
            case measure => simp
            case rel => exact ⟨P ++ [t], R, hPR'.out, rfl, rfl, by rw [hst.out, hbs.out]; exact hV9.out, hfr.out, hT9.out, hB9.out⟩
          · have hbs : Hid (bestS l q (some u) t = some t) := hide (by unfold bestS; rw [if_pos]; simp only; rw [← hzz.out, ← hyy.out, ← hrr1.out, ← hrr2.out, hbt]; exact ⟨hq, rfl⟩)
            clear hbt
            go_wp2_with (first | (at_builtin; refine wpl_appN rfl (.tmp 40) (.tmp 41) rfl Tryz.underlying60 info_i64s rfl (by omega) (by omega) i64c_len i64c_one rfl (Own.none_made (base := w.heap.size) w4 hB2.out.size) rfl ((hT2.out.below ((Below.refl _ _).alloc (Nat.le_refl _) _)).arr i64c_len) (by omega) (by have := hB2.out.size; simp; omega) ?_; intro v5 w5 ho5 hg5 hat5; rw [Nat.zero_add, List.nil_append] at ho5; have hQ5 := hide (bv_new hT2.out hB2.out ho5 hg5 hat5); clear ho5 hg5 hat5; have hV5 := hide hQ5.out.1; have hF5 := hide hQ5.out.2.1; have hT5 := hide hQ5.out.2.2.1; have hB5 := hide hQ5.out.2.2.2; clear hQ5) | (go_at_call 245; refine (iNext_any A n c l w.heap.size n w.heap.size t _ hn hlh.out htb.out hB5.out.size (hr.out.below hB5.out) hT5.out).mono ?_; rintro e w9 ⟨rfl, ho9, hg9⟩; rw [hnb.out.1]; rw [hnb.out.2] at ho9; have hT9 := hide ho9; have hB9 := hide (hB5.out.grown hg9 hB5.out.size (fun k e => by cases e; exact Nat.le_refl _)); have hV9 := hide (BV.grown hV5.out hg9 (.inr hF5.out)); clear ho9 hg9) | fail)
            go_roundg R.length
            case measure => simp
            case rel => exact ⟨P ++ [t], R, hPR'.out, rfl, rfl, by rw [hst.out, hbs.out]; exact hV9.out, hF5.out, hT9.out, hB9.out⟩
theorem kinds_KB {l : List Kind} (h : kindsOk l = true) : KB l ∧ l.length ≤ 4 := by
  unfold kindsOk at h
  rw [Bool.and_eq_true] at h
  refine ⟨fun x hx => ?_, of_decide_eq_true h.2⟩
  obtain ⟨i, hi⟩ := List.mem_iff_getElem?.1 hx
  have h1 := List.all_eq_true.1 h.1 i (List.mem_range.2 (lt_of_get hi))
  have hok : x.ok = true := by
    unfold kindPair at h1
    rw [hi] at h1
    simp only [Bool.and_eq_true] at h1
    exact h1.1
  unfold Kind.ok at hok
  rw [Bool.and_eq_true] at hok
  have h2 := inB_true.1 hok.1
  have h3 := inB_true.1 hok.2
  omega
theorem iFew_any (A : Option Addr) (n c : Nat) (l : List Kind) (q : Int) (w : World) (hk : kindsOk l = true) (hr : Arr Kind.cells 2 w w.heap.size A n l) :
    Calls Tryz.prog 133 #[.slice A n c, .int .i64 q] w fun e w' => ∃ v s, e = .returned (.tuple #[v, .int .i64 s, .int .i64 (fewC l q)]) ∧ Res i64c 2 1 w' w.heap.size v (fewL l q).length (fewL l q) ∧ Below w.heap.size w w' := by
  obtain ⟨hKB, hl4⟩ := kinds_KB hk
  have hn : n ≤ 4 := by rw [← hr.len]; exact hl4
  have hcode : ∀ W, Arr Kind.cells 2 W W.heap.size A n l → Calls Tryz.prog 192 #[.slice A n c, .int .i64 q] W fun e w' => e = .returned (.int .i64 (if inB q 0 5000 then 0 else 2)) ∧ Below W.heap.size W w' := by
    intro W hrW
    cases h1 : inB q 0 5000
    · go_enter Tryz.func192, Tryz.ntmps192
      go_wp2_with fail
      refine (iKinds_any A n c l _ (by omega) hrW).mono ?_
      rw [hk]
      rintro e w1 ⟨rfl, hb⟩
      have hB := hide hb
      clear hb
      go_wp2_with (go_at_call 113; refine (within_any _ _ _ _).mono ?_; rintro e w' ⟨rfl, rfl⟩)
      go_ret
      exact ⟨rfl, hB.out⟩
    · go_enter Tryz.func192, Tryz.ntmps192
      go_wp2_with fail
      refine (iKinds_any A n c l _ (by omega) hrW).mono ?_
      rw [hk]
      rintro e w1 ⟨rfl, hb⟩
      have hB := hide hb
      clear hb
      go_wp2_with (go_at_call 113; refine (within_any _ _ _ _).mono ?_; rintro e w' ⟨rfl, rfl⟩)
      go_ret
      exact ⟨rfl, hB.out⟩
  have hC := hide hcode
  have hR := hide hr
  have hKh := hide hKB
  clear hcode hr hKB
  cases h1 : inB q 0 5000
  · have hM : Hid (fewC l q = 2 ∧ fewL l q = []) := hide (by unfold fewC fewL; rw [h1]; exact ⟨rfl, rfl⟩)
    go_enter Tryz.func133, Tryz.ntmps133
    go_wp2_with fail
    refine (hC.out _ hR.out).mono ?_
    rw [h1]
    rintro e w1 ⟨rfl, hb⟩
    have hB := hide hb
    clear hb
    go_wp2
    go_ret3
    exact ⟨_, _, by rw [hM.out.1]; rfl, by rw [hM.out.2]; exact Res.empty (Nat.zero_le _), hB.out⟩
  cases h2 : mFew l q with
  | none =>
    have hM : Hid (fewC l q = 3 ∧ fewL l q = []) := hide (by unfold fewC fewL; rw [h1, h2]; exact ⟨rfl, rfl⟩)
    have hni := nil_yes
    go_enter Tryz.func133, Tryz.ntmps133
    go_wp2_with fail
    refine (hC.out _ hR.out).mono ?_
    rw [h1]
    rintro e w1 ⟨rfl, hb⟩
    have hB := hide hb
    clear hb
    go_wp2_with fail
    refine (iBest_any A n c l q _ hn hKh.out (hR.out.go hB.out)).mono ?_
    rw [h2]
    rintro e w2 ⟨v, rfl, hv, hb⟩
    unfold BV at hv
    subst hv
    replace hB := hide (Below.up hB.out hb)
    clear hb
    go_wp2
    go_ret3
    exact ⟨_, _, by rw [hM.out.1]; rfl, by rw [hM.out.2]; exact Res.empty (Nat.zero_le _), hB.out⟩
  | some u =>
    have hM : Hid (fewC l q = 0 ∧ fewL l q = u) := hide (by unfold fewC fewL; rw [h1, h2]; exact ⟨rfl, rfl⟩)
    have hU : Hid (TB u ∧ u.length = n) := hide (by
      have h0 : ∀ h ∈ l.map (·.fHave), 0 ≤ h := by
        intro h hh
        obtain ⟨x, hx, rfl⟩ := List.mem_map.1 hh
        exact (hKh.out x hx).2.1
      have key : ∀ (Q : List (List Int)) (b : Option (List Int)), (∀ x ∈ Q, TB x ∧ x.length = n) → (∀ u, b = some u → TB u ∧ u.length = n) → ∀ u, Q.foldl (bestS l q) b = some u → TB u ∧ u.length = n := by
        intro Q
        induction Q with
        | nil => intro b _ hb u hu; exact hb u hu
        | cons x Q ih =>
          intro b hQ hb u hu
          rw [List.foldl_cons] at hu
          refine ih _ (fun y hy => hQ y (List.mem_cons_of_mem _ hy)) ?_ u hu
          intro v hv
          rcases best_or l q b x with e | e
          · rw [e] at hv; rw [← Option.some.inj hv]; exact hQ _ List.mem_cons_self
          · rw [e] at hv; exact hb v hv
      exact key _ none (fun t ht => ⟨taken_TB hKh.out t ht, by rw [allT_len h0 t ht, List.length_map, hR.out.len]⟩) (fun u hu => by cases hu) u h2)
    go_enter Tryz.func133, Tryz.ntmps133
    go_wp2_with fail
    refine (hC.out _ hR.out).mono ?_
    rw [h1]
    rintro e w1 ⟨rfl, hb⟩
    have hB := hide hb
    clear hb
    go_wp2_with fail
    refine (iBest_any A n c l q _ hn hKh.out (hR.out.go hB.out)).mono ?_
    rw [h2]
    rintro e w2 ⟨v, rfl, hv, hb⟩
    obtain ⟨g7, c7, rfl, hc7, ho7⟩ := hv
    have hni := nil_no ⟨g7, 0, none⟩ n c7
    have hO := hide (ho7.less hB.out.size)
    replace hB := hide (Below.up hB.out hb)
    clear hb ho7
    go_wp2_with fail
    refine (iSumG_any _ n c7 u _ (by omega) (sum_TB hU.out.1 (by rw [hU.out.2]; exact hn)) (hO.out.arr i64c_len)).mono ?_
    rintro e w3 ⟨rfl, hb⟩
    have hO2 := hide (hO.out.below hb)
    replace hB := hide (Below.up hB.out hb)
    clear hb hO
    go_wp2
    go_ret3
    exact ⟨_, _, by rw [hM.out.1]; rfl, by rw [hM.out.2, hU.out.2]; exact hO2.out.res, hB.out⟩
end Go.Proofs.YtfpaejlipaainaaGreatDoor
namespace Go.Proofs.YtfpaejlipaainaaGreatDoor
open Go.ChangeShapes Go.WideShapes Go.ChangeAt Go.RowKit Go.Deep
set_option maxRecDepth 100000
def partc (x : Nat × Int × Int) : List Value := [.slice (some ⟨x.1, 0, none⟩) 2 2]
theorem partc_len (x : Nat × Int × Int) : (partc x).length = 1 := rfl
theorem partc_one : ∀ x, ∀ u ∈ partc x, u.oneCell' = true := by intro x u hu; simp [partc] at hu; subst hu; rfl
theorem info_row : (Tryz.prog.info? 60).map (fun i => (i.zero, i.size, i.bytes)) = some (some (.slice none 0 0), 1, 24) := by kernel_rfl
structure PR (w : World) (base : Nat) (v : Value) (R : List (Nat × Int × Int)) : Prop where
  row : Own partc 60 1 w base v R.length R
  two : ∀ r ∈ R, base ≤ r.1 ∧ w.heap[r.1]? = some (.cells #[.int .i64 r.2.1, .int .i64 r.2.2] 2 (0, 0))
theorem PR.below {w w' : World} {base : Nat} {v : Value} {R : List (Nat × Int × Int)} (h : PR w base v R) (hb : Below w.heap.size w w') : PR w' base v R :=
  ⟨h.row.below hb, fun r hr => ⟨(h.two r hr).1, (hb.block r.1 (Array.getElem?_eq_some_iff.1 (h.two r hr).2).1).trans (h.two r hr).2⟩⟩
theorem PR.app {w w' : World} {base g : Nat} {v v' : Value} {R : List (Nat × Int × Int)} {f m : Int} (h : PR w base v R) (hg : base ≤ g) (hh : w.heap[g]? = some (.cells #[.int .i64 f, .int .i64 m] 2 (0, 0))) (ho : Own partc 60 1 w' base v' (R.length + 1) (R ++ [(g, f, m)])) (hgr : w.grownBy w' v.ownBlock) :
    PR w' base v' (R ++ [(g, f, m)]) := by
  refine ⟨by rw [List.length_append]; exact ho, fun r hr => ?_⟩
  have k : ∀ (b : Nat) (cs : Array Value), w.heap[b]? = some (.cells cs 2 (0, 0)) → w'.heap[b]? = some (.cells cs 2 (0, 0)) := fun b cs hb =>
    (hgr.block b (Array.getElem?_eq_some_iff.1 hb).1 (fun e => own_ty h.row hb (by decide) e.symm)).trans hb
  rcases List.mem_append.1 hr with hr | hr
  · exact ⟨(h.two r hr).1, k _ _ (h.two r hr).2⟩
  · rw [List.mem_singleton.1 hr]; exact ⟨hg, k _ _ hh⟩
theorem part_no {S : Nat} {br : List Int} {f : Int} (h : br.contains ((f + (S : Int) - 1) % (S : Int)) = false) : partAt S br f = true := by unfold partAt; rw [h]; rfl
theorem part_yes {S : Nat} {br : List Int} {f : Int} (h : br.contains ((f + (S : Int) - 1) % (S : Int)) = true) : partAt S br f = !(decide (br.length < S) || decide (0 < f)) := by unfold partAt; rw [h, Bool.true_and]
set_option maxHeartbeats 4000000 in
theorem iParts_any (S : Nat) (A : Option Addr) (n c : Nat) (br : List Int) (w : World) (hS : 3 ≤ S ∧ S ≤ 60) (hbr : risesB br 0 ((S : Int) - 1) = true) (hr : Arr i64c 1 w w.heap.size A n br) :
    Calls Tryz.prog 243 #[.int .i64 (S : Int), .slice A n c] w fun e w' => ∃ v R, e = .returned v ∧ PR w' w.heap.size v R ∧ R.map Prod.snd = partsL S br ∧ Below w.heap.size w w' := by
  have hlen := hide hr.len
  have hbd := hide (rises_bound hbr)
  have hn : n ≤ 60 := by have := rises_len hbr (by omega); rw [hr.len] at this; omega
  have hR := hide hr
  clear hbr
  go_enter Tryz.func243, Tryz.ntmps243
  go_wp2
  go_loopw [5, 12] (fun v i wr => ∃ (k : Nat) (R : List (Nat × Int × Int)), k ≤ n ∧ i = .int .i64 k ∧ PR wr w.heap.size v R ∧ R.map Prod.snd = partsTo S br k ∧ Below w.heap.size w wr) (fun _ i _ => n - (intOf i).toNat)
  case atStart => exact ⟨0, [], Nat.zero_le _, rfl, ⟨Own.none_made w (Nat.le_refl _), by intro r hr; cases hr⟩, rfl, (Below.refl w.heap.size w).alloc (Nat.le_refl _) _⟩
  case round =>
    obtain ⟨k, R, hk, rfl, hpr, hRm, hb⟩ := hrel
    have hP := hide hpr
    have hM := hide hRm
    have hRl : R.length ≤ k := by
      have := congrArg List.length hRm
      rw [List.length_map] at this
      rw [this]; exact partsTo_len S br k
    clear hpr hRm
    by_cases hlt : k < n
    · obtain ⟨b, o, f, rfl, hbl, hx, c0⟩ := hr.int hlt
      have d0 : wr.cell? ⟨b, o + k, none⟩ = some (.int .i64 f) := (hb.cell (p := ⟨b, o + k, none⟩) hbl).trans c0
      have hX := hide hx
      clear hx c0
      have hB := hide hb
      have hfb := hbd.out f (List.mem_of_getElem? hX.out)
      have w1 : IntKind.i64.wrap (f + (S : Int)) = f + (S : Int) := IntWalk.i64_in _ (by omega)
      have w2 : IntKind.i64.wrap (f + (S : Int) - 1) = f + (S : Int) - 1 := IntWalk.i64_in _ (by omega)
      obtain ⟨z, hz⟩ : ∃ z, z = (f + (S : Int) - 1) % (S : Int) := ⟨_, rfl⟩
      have hzz : (f + (S : Int) - 1) % (S : Int) = z := hz.symm
      have hzh := hide hz
      have h0 : 0 ≤ f + (S : Int) - 1 := by omega
      have hS0 : (0 : Int) < (S : Int) := by omega
      clear hr hb hz
      have hlS : ((n : Int) < (S : Int)) ↔ br.length < S := by rw [hlen.out]; omega
      go_upto_region 5 with fail
      go_cut [33] (fun v wx => v = .bool (!(partAt S br f)) ∧ Below wr.heap.size wr wx)
      case first =>
        cases hc1 : br.contains z
        · have hp := hide (part_no (S := S) (f := f) (by rw [hzz]; exact hc1))
          go_wp2_with fail
          refine (iIndexI_any _ n c br z _ (by omega) (hR.out.go hB.out)).mono ?_
          rw [hc1]
          rintro e w5 ⟨rfl, hb⟩
          have hB5 := hide hb
          clear hb
          go_wp2_with fail
          go_meet
          exact ⟨by rw [hp.out]; rfl, hB5.out⟩
        · have hp := hide (part_yes (S := S) (f := f) (by rw [hzz]; exact hc1))
          by_cases h1 : br.length < S
          · have h2 : decide ((n : Int) < (S : Int)) = true := decide_eq_true (hlS.2 h1)
            have h3 : n < S := by rw [hlen.out] at h1; exact h1
            have hq : Hid (partAt S br f = false) := hide (by rw [hp.out, decide_eq_true h1]; rfl)
            clear hlS h1
            go_wp2_with fail
            refine (iIndexI_any _ n c br z _ (by omega) (hR.out.go hB.out)).mono ?_
            rw [hc1]
            rintro e w5 ⟨rfl, hb⟩
            have hB5 := hide hb
            clear hb
            go_wp2_with fail
            go_meet
            exact ⟨by rw [hq.out]; rfl, hB5.out⟩
          · have h2 : decide ((n : Int) < (S : Int)) = false := decide_eq_false (fun h => h1 (hlS.1 h))
            have h3 : ¬ n < S := by rw [hlen.out] at h1; exact h1
            have hq : Hid (partAt S br f = !decide (0 < f)) := hide (by rw [hp.out, decide_eq_false h1]; rfl)
            clear hlS h1
            go_wp2_with fail
            refine (iIndexI_any _ n c br z _ (by omega) (hR.out.go hB.out)).mono ?_
            rw [hc1]
            rintro e w5 ⟨rfl, hb⟩
            have hB5 := hide hb
            clear hb
            go_wp2_with fail
            go_meet
            exact ⟨by rw [hq.out, Bool.not_not], hB5.out⟩
      case rest =>
        obtain ⟨rfl, hb2⟩ := hcut
        have hB2 := hide (Below.up hB.out hb2)
        have hP2 := hide (hP.out.below hb2)
        clear hb2 hlS w1 w2 hzz h0
        cases hp : partAt S br f
        · have hu := hide (partsTo_no hX.out hp)
          clear hp
          go_wp2
          go_roundw
          case rel => exact ⟨k + 1, R, by omega, by go_num, hP2.out, by rw [hu.out]; exact hM.out, hB2.out⟩
          case measure => simp [intOf]; omega
        · have hu := hide (partsTo_yes hX.out hp)
          clear hp hP hB
          obtain ⟨wo, hwo⟩ : ∃ wo : World, wo = wr := ⟨_, rfl⟩
          clear hwo
          obtain ⟨wa, hwa⟩ : ∃ wa : World, wa = wc := ⟨_, rfl⟩
          rw [← hwa] at hB2 hP2 ⊢
          clear hwa
          go_wp2
          go_loopw [8] (fun q wx => ∃ j : Nat, 1 ≤ j ∧ j ≤ S ∧ q = .int .i64 (j : Int) ∧ Below wa.heap.size wa wx ∧ Hid (∀ i, 1 ≤ i → i < j → br.contains ((f + (i : Int)) % (S : Int)) = true)) (fun q _ => S - (intOf q).toNat)
          case atStart => exact ⟨1, Nat.le_refl _, by omega, rfl, Below.refl _ _, hide (by intro i h1 h2; omega)⟩
          case round =>
            obtain ⟨j, hj1, hjS, rfl, hb3, hall⟩ := hrel
            have hB3 := hide (Below.up hB2.out hb3)
            have hP3 := hide (hP2.out.below hb3)
            have hC3 := hide hb3
            clear hb3
            have v1 : IntKind.i64.wrap (f + (j : Int)) = f + (j : Int) := IntWalk.i64_in _ (by omega)
            obtain ⟨y, hy⟩ : ∃ y, y = (f + (j : Int)) % (S : Int) := ⟨_, rfl⟩
            have hyy : (f + (j : Int)) % (S : Int) = y := hy.symm
            have hyh := hide hy
            have hj0 : 0 ≤ f + (j : Int) := by omega
            clear hy
            by_cases hjl : j < S
            · have hjd : decide (j < S) = true := decide_eq_true hjl
              have hjd2 : decide ((j : Int) < (S : Int)) = true := decide_eq_true (by omega)
              cases hc : br.contains y
              · have hm : Hid (manyOf S br f = j) := hide (manyOf_eq hj1 hjS hall.out (.inr (by rw [hyy]; exact hc)))
                go_wp2_with fail
                refine (iIndexI_any _ n c br y _ (by omega) (hR.out.go hB3.out)).mono ?_
                rw [hc]
                rintro e w6 ⟨rfl, hb⟩
                replace hB3 := hide (Below.up hB3.out hb)
                replace hP3 := hide (hP3.out.below hb)
                clear hb
                go_wp2_with ((at_builtin; refine wpl_app1H (w6.heap.size + 1) (by simp) rfl (.tmp 48) (.tmp 52) rfl Tryz.underlying242 info_row rfl (by omega) (by omega) partc_len partc_one rfl (hP3.out.row.below ((Below.refl _ _).alloc (Nat.le_refl _) _)) ((w6.heap.size, f, (j : Int)) : Nat × Int × Int) _ rfl rfl (by omega) (by have := hB3.out.size; simp; omega) ?_; intro v5 w5 ho5 hg5 _; have hP5 := hide (PR.app (hP3.out.below ((Below.refl _ _).alloc (Nat.le_refl _) _)) hB3.out.size (heap_alloc_new _ _) ho5 hg5); have hB5 := hide (grown_below (hB3.out.alloc hB3.out.size _) (hP3.out.row.below ((Below.refl _ _).alloc (Nat.le_refl _) _)) hg5 (by have := hB3.out.size; simp; omega)); clear ho5 hg5))
                go_roundw
                case rel => exact ⟨k + 1, R ++ [(w6.heap.size, f, (j : Int))], by omega, by go_num, hP5.out, by rw [List.map_append, hM.out, hu.out, hm.out]; rfl, hB5.out⟩
                case measure => simp [intOf]; omega
              · have hnx : Hid (∀ i, 1 ≤ i → i < j + 1 → br.contains ((f + (i : Int)) % (S : Int)) = true) := hide (by
                  intro i h1 h2
                  by_cases hij : i = j
                  · subst hij; rw [hyy]; exact hc
                  · exact hall.out i h1 (by omega))
                go_wp2_with fail
                refine (iIndexI_any _ n c br y _ (by omega) (hR.out.go hB3.out)).mono ?_
                rw [hc]
                rintro e w6 ⟨rfl, hb⟩
                replace hC3 := hide (Below.up hC3.out hb)
                clear hb
                go_wp2
                go_roundw
                case rel => exact ⟨_, _, _, _, _, _, _, _, _, _, _, _, _, _, _, ⟨j + 1, by omega, by omega, by go_num, hC3.out, hnx⟩, rfl⟩
                case measure => simp [intOf]; omega
            · have hjd : decide (j < S) = false := decide_eq_false hjl
              have hjd2 : decide ((j : Int) < (S : Int)) = false := decide_eq_false (by omega)
              have hm : Hid (manyOf S br f = j) := hide (manyOf_eq hj1 hjS hall.out (.inl (by omega)))
              go_wp2_with ((at_builtin; refine wpl_app1H (wr.heap.size + 1) (by simp) rfl (.tmp 48) (.tmp 52) rfl Tryz.underlying242 info_row rfl (by omega) (by omega) partc_len partc_one rfl (hP3.out.row.below ((Below.refl _ _).alloc (Nat.le_refl _) _)) ((wr.heap.size, f, (j : Int)) : Nat × Int × Int) _ rfl rfl (by omega) (by have := hB3.out.size; simp; omega) ?_; intro v5 w5 ho5 hg5 _; have hP5 := hide (PR.app (hP3.out.below ((Below.refl _ _).alloc (Nat.le_refl _) _)) hB3.out.size (heap_alloc_new _ _) ho5 hg5); have hB5 := hide (grown_below (hB3.out.alloc hB3.out.size _) (hP3.out.row.below ((Below.refl _ _).alloc (Nat.le_refl _) _)) hg5 (by have := hB3.out.size; simp; omega)); clear ho5 hg5))
              go_roundw
              case rel => exact ⟨k + 1, R ++ [(wr.heap.size, f, (j : Int))], by omega, by go_num, hP5.out, by rw [List.map_append, hM.out, hu.out, hm.out]; rfl, hB5.out⟩
              case measure => simp [intOf]; omega
    · have hkn : k = n := by omega
      have hB := hide hb
      have hfin : Hid (R.map Prod.snd = partsL S br) := hide (by rw [hM.out, hkn, ← hlen.out]; rfl)
      subst hkn
      clear hb
      go_wp2
      go_ret
      exact ⟨_, _, rfl, hP.out, hfin.out, hB.out⟩
end Go.Proofs.YtfpaejlipaainaaGreatDoor
