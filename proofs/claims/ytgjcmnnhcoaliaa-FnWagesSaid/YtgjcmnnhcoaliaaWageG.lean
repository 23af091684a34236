/- Contracts: slices.Clone of rates; rates that are raised by some percent. -/
import Derived.Test.YtgjcmnnhcoaliaaWageD
import Derived.Test.YtgjcmnnhcoaliaaApp
namespace Go.Proofs.Ytgjcmnnhcoaliaa
open Go.ChangeShapes Go.WideShapes Go.ChangeAt Go.RowKit Go.Deep
set_option maxRecDepth 100000
theorem Rate.one : ∀ x, ∀ u ∈ Rate.cells x, u.oneCell' = true := by intro x u hu; simp [Rate.cells] at hu; rcases hu with rfl | rfl <;> rfl
theorem info_Rate' : (Try.prog.info? 49).map (fun i => (i.zero, i.size, i.bytes)) = some (some (.agg #[.string ByteArray.empty, .int .i64 0]), 2, 24) := by kernel_rfl
theorem cloneRate_any (A : Option Addr) (n c : Nat) (l : List Rate) (w : World) (hn : n ≤ 1048576) (hr : Arr Rate.cells 2 w w.heap.size A n l) :
    Calls Try.prog 31 #[.slice A n c] w fun e w' => ∃ v, e = .returned v ∧ Res Rate.cells 49 2 w' w.heap.size v n l ∧ Below w.heap.size w w' := by
  cases A with
  | none =>
    have hn0 : n = 0 := by
      rcases Nat.eq_zero_or_pos n with h | h
      · exact h
      · obtain ⟨b, o, hA, _⟩ := hr.2 h
        cases hA
    subst hn0
    obtain rfl : l = [] := List.eq_nil_of_length_eq_zero hr.1
    have hq : ∀ W, (binOp .eql 35 (.slice none 0 c) (.slice none 0 0)).run Try.prog W = .ok (.bool true) W := fun W => Lib.run_eql_slice_nil (P := Try.prog) W 35 49 none 0 c 0 0 Try.underlying35
    clear hr
    go_enter Try.func31, Try.ntmps31
    go_wp2
    go_ret
    exact ⟨_, rfl, Res.empty (Nat.zero_le _), Below.refl _ _⟩
  | some ad =>
    have hq : ∀ W, (binOp .eql 35 (.slice (some ad) n c) (.slice none 0 0)).run Try.prog W = .ok (.bool false) W := fun W => Lib.run_eql_slice_nil (P := Try.prog) W 35 49 (some ad) n c 0 0 Try.underlying35
    have hB := hide ((Below.refl w.heap.size w).alloc (Nat.le_refl _) (.cells #[] 49))
    have hO := hide (Own.none_made (cells := Rate.cells) (e := 49) (s := 2) w (Nat.le_refl _))
    go_enter Try.func31, Try.ntmps31
    go_wp2_with (at_builtin; refine wpl_appN rfl (.tmp 5) (.tmp 6) rfl Try.underlying35 info_Rate' rfl (by omega) (by omega) Rate.len Rate.one rfl hO.out rfl (hr.below hB.out) (by omega) hB.out.size ?_; intro v2 w2 ho2 hg2 _)
    go_ret
    rw [Nat.zero_add, List.nil_append] at ho2
    exact ⟨v2, rfl, ho2.res, grown_below hB.out hO.out hg2 hB.out.size⟩

theorem map_get {α : Type} {f : α → α} {l : List α} {k : Nat} : ((l.take k).map f ++ l.drop k)[k]? = l[k]? := by
  rcases Nat.lt_or_ge k l.length with h | h
  · have e : ((l.take k).map f).length = k := by simp; omega
    rw [List.getElem?_append_right (by omega), e, Nat.sub_self, List.getElem?_drop, Nat.add_zero]
  · rw [List.getElem?_eq_none h, List.getElem?_eq_none (by simp; omega)]
theorem map_set {α : Type} {f : α → α} {l : List α} {k : Nat} {x : α} (h : l[k]? = some x) : ((l.take k).map f ++ l.drop k).set k (f x) = (l.take (k + 1)).map f ++ l.drop (k + 1) := by
  have hk := lt_of_get h
  have e : ((l.take k).map f).length = k := by simp; omega
  have hd : l.drop k = x :: l.drop (k + 1) := by
    obtain ⟨_, rfl⟩ := List.getElem?_eq_some_iff.1 h
    exact List.drop_eq_getElem_cons hk
  rw [List.set_append, if_neg (by omega), e, Nat.sub_self, hd, List.set_cons_zero, take_snoc h, List.map_append, List.append_assoc]; rfl
def raise (p : Int) (x : Rate) : Rate := ⟨x.fSort, x.fCents * (100 + p) / 100⟩
def mRaise (l : List Rate) (p : Int) : List Rate := if ratesOk l && inB p 0 100 && ratesOk (l.map (raise p)) then l.map (raise p) else []
def mRaiseC (l : List Rate) (p : Int) : Int := if ratesOk l then (if inB p 0 100 then (if ratesOk (l.map (raise p)) then 0 else 5) else 2) else 1
theorem mRaise_len (l : List Rate) (p : Int) {n : Nat} (h : l.length = n) (hn : n ≤ 1048576) : (mRaise l p).length ≤ 1048576 := by
  unfold mRaise
  split
  · simp; omega
  · simp
theorem raise_fits {l : List Rate} {p : Int} (h : ∀ x ∈ l, x.fits) : ∀ x ∈ l.map (raise p), x.fits := by
  intro x hx
  obtain ⟨y, hy, rfl⟩ := List.mem_map.1 hx
  exact h y hy
theorem raise_bound {c p : Int} (h0 : 0 ≤ c) (h1 : c ≤ 10000) (h2 : 0 ≤ p) (h3 : p ≤ 100) : 0 ≤ c * (100 + p) ∧ c * (100 + p) ≤ 2000000 :=
  ⟨Int.mul_nonneg h0 (by omega), by have := Int.mul_le_mul h1 (show 100 + p ≤ 200 by omega) (by omega) (by omega : (0 : Int) ≤ 10000); omega⟩
theorem iRaise_any (A : Option Addr) (n c : Nat) (l : List Rate) (p : Int) (w : World) (hn : n ≤ 1048576) (hf : ∀ x ∈ l, x.fits) (hr : Arr Rate.cells 2 w w.heap.size A n l) :
    Calls Try.prog 19 #[.slice A n c, .int .i64 p] w fun e w' => ∃ v, e = .returned (.tuple #[v, .int .i64 (mRaiseC l p)]) ∧ Res Rate.cells 49 2 w' w.heap.size v (mRaise l p).length (mRaise l p) ∧ Below w.heap.size w w' := by
  have hl := hide hr.len
  cases hok : ratesOk l
  · have hm : Hid (mRaise l p = [] ∧ mRaiseC l p = 1) := hide (by simp [mRaise, mRaiseC, hok])
    go_enter Try.func19, Try.ntmps19
    go_wp2_with (go_at_call 28; refine (iRates_any A n c l _ hn hf hr).mono ?_; rintro e whB ⟨rfl, hb⟩; have hB := hide (hb); clear hb)
    go_ret2; exact ⟨_, by rw [hm.out.2]; rfl, by rw [hm.out.1]; exact Res.empty (Nat.zero_le _), hB.out⟩
  · cases hp : inB p 0 100
    · have hm : Hid (mRaise l p = [] ∧ mRaiseC l p = 2) := hide (by simp [mRaise, mRaiseC, hok, hp])
      go_enter Try.func19, Try.ntmps19
      go_wp2_with (first | (go_at_call 28; refine (iRates_any A n c l _ hn hf hr).mono ?_; rintro e whB ⟨rfl, hb⟩; have hB := hide (hb); clear hb) | (go_at_call 25; refine (within_any _ _ _ _).mono ?_; rintro e w' ⟨rfl, rfl⟩))
      go_ret2; exact ⟨_, by rw [hm.out.2]; rfl, by rw [hm.out.1]; exact Res.empty (Nat.zero_le _), hB.out⟩
    · have hpb := inB_true.1 hp
      have hrb := hide (fun (x : Rate) (hx : x ∈ l) => rates_at hok hx)
      have hf2 := hide (raise_fits (p := p) hf)
      have hlm : (l.map (raise p)).length = n := by rw [List.length_map]; exact hl.out
      cases hok2 : ratesOk (l.map (raise p))
      · have hm : Hid (mRaise l p = [] ∧ mRaiseC l p = 5) := hide (by simp [mRaise, mRaiseC, hok, hp, hok2])
        go_enter Try.func19, Try.ntmps19
        go_wp2_with fail
        refine (iRates_any A n c l _ hn hf hr).mono ?_
        rintro e w1 ⟨rfl, hb⟩
        have hB1 := hide hb
        clear hb
        have hok9 := hide hok2
        go_wp2_with (go_at_call 25; refine (within_any _ _ _ _).mono ?_; rintro e w' ⟨rfl, rfl⟩)
        refine (cloneRate_any A n c l _ hn (hr.go hB1.out)).mono ?_
        rintro e w2 ⟨v, rfl, ho, hb⟩
        have hR := hide (ho.less hB1.out.size)
        have hB2 := hide (Below.up hB1.out hb)
        obtain ⟨A1, c1, rfl, _⟩ := hR.out.slice
        clear hb ho hB1 hok hp
        have hlm9 := hide hlm
        clear hlm
        go_wp2
        go_loopw [18] (fun i wr => ∃ k : Nat, k ≤ n ∧ i = .int .i64 k ∧ Below w.heap.size w wr ∧ Res Rate.cells 49 2 wr w.heap.size (.slice A1 n c1) n ((l.take k).map (raise p) ++ l.drop k)) (fun i _ => n - (intOf i).toNat)
        case atStart => exact ⟨0, Nat.zero_le _, rfl, hB2.out, hR.out⟩
        case round =>
          obtain ⟨k, hk, rfl, hb, hres⟩ := hrel
          clear hB2
          by_cases hlt : k < n
          · have hown := hres.2.2 (by omega)
            rcases hown.form with ⟨_, h0, _⟩ | ⟨g, cap, hv, hge, _, _, _⟩
            · omega
            injection hv with hv1 _ hv3
            subst hv1
            clear hres hR hv3
            obtain ⟨x, hx, c0, c1', f0, f1⟩ := hown.Rate_at hlt
            have hx2 := hx
            rw [map_get] at hx2
            have hxb := hrb.out x (List.mem_of_getElem? hx2)
            have hmb := raise_bound hxb.1 hxb.2 hpb.1 hpb.2
            have w1 : IntKind.i64.wrap (x.fCents * (100 + p)) = x.fCents * (100 + p) := IntWalk.i64_in _ (by omega)
            have hO := hide (hown.cell (k := k) (j := 1) (x := x) (x' := raise p x) (u := .int .i64 (x.fCents * (100 + p) / 100)) Rate.len hx (by omega) rfl)
            have hS := hide (map_set (f := raise p) hx2)
            have hB := hide hb
            clear hown hx hx2 hb hr
            have k0 : (0 : Int) ≤ (k : Int) := by omega
            have k1 : (k : Int) < (n : Int) := by omega
            go_wp2
            go_roundw
            case rel => exact ⟨k + 1, by omega, by go_num, hB.out.setCell hge _, by rw [← hS.out]; exact hO.out.res⟩
            case measure => simp [intOf]; omega
          · have hkn : k = n := by omega
            subst hkn
            have hlm := hlm9.out
            rw [List.take_of_length_le (by rw [hl.out]; exact Nat.le_refl _), List.drop_of_length_le (by rw [hl.out]; exact Nat.le_refl _), List.append_nil] at hres
            have hR8 := hide hres
            have hB := hide hb
            clear hb hres hlm
            have hok2 := hok9.out
            go_wp2_with fail
            refine (iRates_any A1 k c1 (l.map (raise p)) _ hn hf2.out (hR8.out.arr Rate.len)).mono ?_
            rintro e w3 ⟨rfl, hb⟩
            have hB9 := hide (Below.up hB.out hb)
            have hR9 := hide (hR8.out.below hb)
            clear hb
            go_wp2
            go_ret2
            exact ⟨_, by rw [hm.out.2]; rfl, by rw [hm.out.1]; exact Res.empty (Nat.zero_le _), hB9.out⟩
      · have hm : Hid (mRaise l p = l.map (raise p) ∧ mRaiseC l p = 0) := hide (by simp [mRaise, mRaiseC, hok, hp, hok2])
        go_enter Try.func19, Try.ntmps19
        go_wp2_with fail
        refine (iRates_any A n c l _ hn hf hr).mono ?_
        rintro e w1 ⟨rfl, hb⟩
        have hB1 := hide hb
        clear hb
        have hok9 := hide hok2
        go_wp2_with (go_at_call 25; refine (within_any _ _ _ _).mono ?_; rintro e w' ⟨rfl, rfl⟩)
        refine (cloneRate_any A n c l _ hn (hr.go hB1.out)).mono ?_
        rintro e w2 ⟨v, rfl, ho, hb⟩
        have hR := hide (ho.less hB1.out.size)
        have hB2 := hide (Below.up hB1.out hb)
        obtain ⟨A1, c1, rfl, _⟩ := hR.out.slice
        clear hb ho hB1 hok hp
        have hlm9 := hide hlm
        clear hlm
        go_wp2
        go_loopw [18] (fun i wr => ∃ k : Nat, k ≤ n ∧ i = .int .i64 k ∧ Below w.heap.size w wr ∧ Res Rate.cells 49 2 wr w.heap.size (.slice A1 n c1) n ((l.take k).map (raise p) ++ l.drop k)) (fun i _ => n - (intOf i).toNat)
        case atStart => exact ⟨0, Nat.zero_le _, rfl, hB2.out, hR.out⟩
        case round =>
          obtain ⟨k, hk, rfl, hb, hres⟩ := hrel
          clear hB2
          by_cases hlt : k < n
          · have hown := hres.2.2 (by omega)
            rcases hown.form with ⟨_, h0, _⟩ | ⟨g, cap, hv, hge, _, _, _⟩
            · omega
            injection hv with hv1 _ hv3
            subst hv1
            clear hres hR hv3
            obtain ⟨x, hx, c0, c1', f0, f1⟩ := hown.Rate_at hlt
            have hx2 := hx
            rw [map_get] at hx2
            have hxb := hrb.out x (List.mem_of_getElem? hx2)
            have hmb := raise_bound hxb.1 hxb.2 hpb.1 hpb.2
            have w1 : IntKind.i64.wrap (x.fCents * (100 + p)) = x.fCents * (100 + p) := IntWalk.i64_in _ (by omega)
            have hO := hide (hown.cell (k := k) (j := 1) (x := x) (x' := raise p x) (u := .int .i64 (x.fCents * (100 + p) / 100)) Rate.len hx (by omega) rfl)
            have hS := hide (map_set (f := raise p) hx2)
            have hB := hide hb
            clear hown hx hx2 hb hr
            have k0 : (0 : Int) ≤ (k : Int) := by omega
            have k1 : (k : Int) < (n : Int) := by omega
            go_wp2
            go_roundw
            case rel => exact ⟨k + 1, by omega, by go_num, hB.out.setCell hge _, by rw [← hS.out]; exact hO.out.res⟩
            case measure => simp [intOf]; omega
          · have hkn : k = n := by omega
            subst hkn
            have hlm := hlm9.out
            rw [List.take_of_length_le (by rw [hl.out]; exact Nat.le_refl _), List.drop_of_length_le (by rw [hl.out]; exact Nat.le_refl _), List.append_nil] at hres
            have hR8 := hide hres
            have hB := hide hb
            clear hb hres hlm
            have hok2 := hok9.out
            go_wp2_with fail
            refine (iRates_any A1 k c1 (l.map (raise p)) _ hn hf2.out (hR8.out.arr Rate.len)).mono ?_
            rintro e w3 ⟨rfl, hb⟩
            have hB9 := hide (Below.up hB.out hb)
            have hR9 := hide (hR8.out.below hb)
            clear hb
            go_wp2
            go_ret2
            exact ⟨_, by rw [hm.out.2]; rfl, by rw [hm.out.1, hlm9.out]; exact hR9.out, hB9.out⟩
end Go.Proofs.Ytgjcmnnhcoaliaa
