/- FnHeapSums: the helpers and the plain facts. No statement is proved here. -/
import Derived.Test.YtpmldpegjnpoaaaHpO
import Derived.Test.YtpmldpegjnpoaaaNames
namespace Go.Proofs.Ytpmldpegjnpoaaa
open Go.ChangeShapes Go.WideShapes Go.ChangeAt Go.RowKit Go.Deep
set_option maxRecDepth 100000
theorem neqHeap_fields (a0 b0 : ByteArray) (a1 b1 a2 b2 : Int) (w : World) : (binOp .neq 31 (.agg #[.string a0, .int .i64 a1, .int .i64 a2]) (.agg #[.string b0, .int .i64 b1, .int .i64 b2])).run Try.prog w = .ok (.bool (!Heap.same ⟨a0, a1, a2⟩ ⟨b0, b1, b2⟩)) w := by
  by_cases g0 : a0 = b0
  · subst g0
    by_cases g1 : a1 = b1
    · subst g1
      by_cases g2 : a2 = b2
      · subst g2
        rw [Heap.same_true.2 rfl]
        rw [run_neq_struct, show 10000 = 9999 + 1 from rfl, run_equalIn_struct _ _ _ _ _ (by simp [Program.fieldsOf, Try.underlying31]) (by kernel_rfl)]
        simp [Program.fieldsOf, Try.underlying31, Op.eqFields, go_sem]
      · have e1 := (show (a2 == b2) = false by simp [g2])
        rw [Heap.same_false.2 (by intro h; injection h; contradiction)]
        clear g2
        rw [run_neq_struct, show 10000 = 9999 + 1 from rfl, run_equalIn_struct _ _ _ _ _ (by simp [Program.fieldsOf, Try.underlying31]) (by kernel_rfl)]
        simp [Program.fieldsOf, Try.underlying31, Op.eqFields, go_sem, e1]
    · have e1 := (show (a1 == b1) = false by simp [g1])
      rw [Heap.same_false.2 (by intro h; injection h; contradiction)]
      clear g1
      rw [run_neq_struct, show 10000 = 9999 + 1 from rfl, run_equalIn_struct _ _ _ _ _ (by simp [Program.fieldsOf, Try.underlying31]) (by kernel_rfl)]
      simp [Program.fieldsOf, Try.underlying31, Op.eqFields, go_sem, e1]
  · have e1 := str_ne g0
    rw [Heap.same_false.2 (by intro h; injection h; contradiction)]
    clear g0
    rw [run_neq_struct, show 10000 = 9999 + 1 from rfl, run_equalIn_struct _ _ _ _ _ (by simp [Program.fieldsOf, Try.underlying31]) (by kernel_rfl)]
    simp [Program.fieldsOf, Try.underlying31, Op.eqFields, go_sem, e1]
theorem neqHeap (x y : Heap) (w : World) : (binOp .neq 31 (.agg #[.string x.fSort, .int .i64 x.fYear, .int .i64 x.fBundles]) (.agg #[.string y.fSort, .int .i64 y.fYear, .int .i64 y.fBundles])).run Try.prog w = .ok (.bool (!x.same y)) w := neqHeap_fields _ _ _ _ _ _ w
theorem sSame_any (A : Option Addr) (n c : Nat) (l : List Heap) (A' : Option Addr) (n' c' : Nat) (l' : List Heap) (w : World) (hn : n ≤ 1048576) (hn' : n' ≤ 1048576) (_hf : ∀ x ∈ l, x.fits) (_hf' : ∀ x ∈ l', x.fits) (hr : Arr Heap.cells 3 w w.heap.size A n l) (hr' : Arr Heap.cells 3 w w.heap.size A' n' l') :
    Calls Try.prog 23 #[.slice A n c, .slice A' n' c'] w fun e w' => e = .returned (.bool (decide (l = l'))) ∧ Below w.heap.size w w' := by
  have hl := hide hr.len
  have hl' := hide hr'.len

  by_cases hne : n = n'
  · subst hne
    have hpost : Hid (l = l' ↔ l.take n = l'.take n) := by
      have h1 := hl.out; have h2 := hl'.out
      show _ ↔ _
      rw [List.take_of_length_le (by omega), List.take_of_length_le (by omega)]
    go_enter Try.func23, Try.ntmps23
    go_wp2
    go_loopw [5] (fun i wr => ∃ k : Nat, k ≤ n ∧ i = .int .i64 k ∧ Below w.heap.size w wr ∧ Hid (l.take k = l'.take k)) (fun i _ => n - (intOf i).toNat)
    case atStart => exact ⟨0, Nat.zero_le _, rfl, Below.refl _ _, hide (by simp)⟩
    case round =>
      obtain ⟨k, hk, rfl, hb, hpre⟩ := hrel
      by_cases hlt : k < n
      · obtain ⟨b, o, x, rfl, hbl, hx, c0, c1, c2⟩ := hr.Heap hlt
        obtain ⟨b', o', y, rfl, hbl', hy, f0, f1, f2⟩ := hr'.Heap hlt
        have d0 : wr.cell? ⟨b, o + k * 3, none⟩ = some (.string x.fSort) := (hb.cell (p := ⟨b, o + k * 3, none⟩) hbl).trans c0
        have g0 : wr.cell? ⟨b', o' + k * 3, none⟩ = some (.string y.fSort) := (hb.cell (p := ⟨b', o' + k * 3, none⟩) hbl').trans f0
        have d1 : wr.cell? ⟨b, o + k * 3 + 1, none⟩ = some (.int .i64 x.fYear) := (hb.cell (p := ⟨b, o + k * 3 + 1, none⟩) hbl).trans c1
        have g1 : wr.cell? ⟨b', o' + k * 3 + 1, none⟩ = some (.int .i64 y.fYear) := (hb.cell (p := ⟨b', o' + k * 3 + 1, none⟩) hbl').trans f1
        have d2 : wr.cell? ⟨b, o + k * 3 + 2, none⟩ = some (.int .i64 x.fBundles) := (hb.cell (p := ⟨b, o + k * 3 + 2, none⟩) hbl).trans c2
        have g2 : wr.cell? ⟨b', o' + k * 3 + 2, none⟩ = some (.int .i64 y.fBundles) := (hb.cell (p := ⟨b', o' + k * 3 + 2, none⟩) hbl').trans f2
        have hX := hide hx
        have hY := hide hy
        have hB := hide hb
        clear c0 f0 c1 f1 c2 f2 hr hr' hx hy hb
        have hlt' : (k : Int) < (n : Int) := by omega
        have hk0 : (0 : Int) ≤ (k : Int) := by omega
        cases hxy : x.same y
        · have hneq : ∀ W, (binOp .neq 31 (.agg #[.string x.fSort, .int .i64 x.fYear, .int .i64 x.fBundles]) (.agg #[.string y.fSort, .int .i64 y.fYear, .int .i64 y.fBundles])).run Try.prog W = .ok (.bool true) W := fun W => by rw [neqHeap, hxy]; rfl
          go_wp2_with fail
          go_quiet (fail)
          go_wp2
          go_ret
          refine ⟨retB (Eq.symm (decide_eq_false fun he => ?_)), below_drewN hB.out _⟩
          subst he
          rw [hX.out] at hY
          have := Option.some.inj hY.out
          subst this
          exact Heap.same_false.1 hxy rfl
        · have hneq : ∀ W, (binOp .neq 31 (.agg #[.string x.fSort, .int .i64 x.fYear, .int .i64 x.fBundles]) (.agg #[.string y.fSort, .int .i64 y.fYear, .int .i64 y.fBundles])).run Try.prog W = .ok (.bool false) W := fun W => by rw [neqHeap, hxy]; rfl
          go_wp2_with fail
          go_quiet (fail)
          go_wp2
          go_roundw
          case rel => exact ⟨k + 1, by omega, by go_num, below_drewN hB.out _, hide (by rw [take_snoc hX.out, take_snoc hY.out, hpre.out, Heap.same_true.1 hxy])⟩
          case measure => simp [intOf]; omega
      · have hkn : k = n := by omega
        subst hkn
        have hB := hide hb
        clear hb
        go_wp2
        go_ret
        exact ⟨retB (Eq.symm (decide_eq_true (hpost.out.2 hpre.out))), hB.out⟩
  · have e1 : ((n : Int) != (n' : Int)) = true := by simp; omega
    have hd : Hid (decide (l = l') = false) := decide_eq_false fun he => hne (by rw [← hl.out, ← hl'.out, he])
    clear hne
    go_enter Try.func23, Try.ntmps23
    go_wp2
    go_ret
    exact ⟨retB hd.out.symm, Below.refl _ _⟩

theorem sumOf_take_bound20 {l : List Heap} (hb : ∀ z ∈ l, 0 ≤ bunF z ∧ bunF z ≤ 1000) (hn : l.length ≤ 20) (k : Nat) : 0 ≤ sumOf bunF (l.take k) ∧ sumOf bunF (l.take k) ≤ 20000 := by
  have key : ∀ m : List Heap, (∀ z ∈ m, 0 ≤ bunF z ∧ bunF z ≤ 1000) → 0 ≤ sumOf bunF m ∧ sumOf bunF m ≤ 1000 * (m.length : Int) := by
    intro m
    induction m with
    | nil => intro _; exact ⟨Int.le_refl _, Int.le_refl _⟩
    | cons a m ih =>
      intro h
      have h1 := h a List.mem_cons_self
      have h2 := ih fun z hz => h z (List.mem_cons_of_mem _ hz)
      rw [sumOf_cons, List.length_cons]
      omega
  have h1 := key (l.take k) fun z hz => hb z (List.mem_of_mem_take hz)
  have h2 : (l.take k).length ≤ 20 := by rw [List.length_take]; omega
  omega
theorem bun_sum {l : List Heap} (hb : ∀ z ∈ l, 0 ≤ z.fBundles ∧ z.fBundles ≤ 1000) (hn : l.length ≤ 20) (k : Nat) : 0 ≤ sumOf bunF (l.take k) ∧ sumOf bunF (l.take k) ≤ 20000 :=
  sumOf_take_bound20 (fun z hz => hb z hz) hn k
theorem bundles_any (A : Option Addr) (n c : Nat) (l : List Heap) (w : World) (hb : ∀ z ∈ l, 0 ≤ z.fBundles ∧ z.fBundles ≤ 1000) (hn : l.length ≤ 20) (hr : Arr Heap.cells 3 w w.heap.size A n l) :
    Calls Try.prog 24 #[.slice A n c] w fun e w' => e = .returned (.int .i64 (sumOf bunF l)) ∧ Below w.heap.size w w' := by
  have hl := hide hr.len
  have hs := hide (bun_sum hb hn)
  have hn20 : n ≤ 20 := by rw [← hl.out]; exact hn
  go_enter Try.func24, Try.ntmps24
  go_wp2
  go_loopw [3, 4] (fun q i wr => ∃ (k : Nat) (z : Int), k ≤ n ∧ i = .int .i64 k ∧ q = .int .i64 z ∧ Below w.heap.size w wr ∧ Hid (z = sumOf bunF (l.take k))) (fun _ i _ => n - (intOf i).toNat)
  case atStart => exact ⟨0, 0, Nat.zero_le _, rfl, rfl, Below.refl _ _, hide rfl⟩
  case round =>
    obtain ⟨k, z, hk, rfl, rfl, hB, hz2⟩ := hrel
    by_cases hlt : k < n
    · obtain ⟨b, o, x, rfl, hbl, hx, c0, c1, c2⟩ := hr.Heap hlt
      have g2 : wr.cell? ⟨b, o + k * 3 + 2, none⟩ = some (.int .i64 x.fBundles) := (hB.cell (p := ⟨b, o + k * 3 + 2, none⟩) hbl).trans c2
      have hX := hide hx
      have hBh := hide hB
      have hzb : 0 ≤ z ∧ z ≤ 20000 := by rw [hz2.out]; exact hs.out k
      have hxb := hb x (List.mem_of_getElem? hx)
      have hlt' : (k : Int) < (n : Int) := by omega
      have hk0 : (0 : Int) ≤ (k : Int) := by omega
      have hw : IntKind.i64.wrap (z + x.fBundles) = z + x.fBundles := IntWalk.i64_in _ (by omega)
      clear hr hB hx c0 c1 c2
      go_wp2
      go_roundw
      case rel => exact ⟨k + 1, z + x.fBundles, by omega, by go_num, rfl, hBh.out, hide (by rw [sumOf_snoc hX.out, ← hz2.out]; rfl)⟩
      case measure => simp [intOf]; omega
    · have hkn : Hid (l.take k = l) := hide (List.take_of_length_le (by rw [hl.out]; omega))
      have hlt' : ¬ (k : Int) < (n : Int) := by omega
      have hBh := hide hB
      clear hB
      go_wp2
      go_ret
      exact ⟨ret1 (by rw [hz2.out, hkn.out]), hBh.out⟩
theorem at_any (A : Option Addr) (n c : Nat) (l : List Int) (k : Int) (w : World) (hk : 1 ≤ k) (hl : byteL l) (hr : Arr u8c 1 w w.heap.size A n l) :
    Calls Try.prog 19 #[.slice A n c, .int .i64 0, .int .i64 k] w fun e w' => (∃ x : Int, e = .returned (.int .i64 x) ∧ 0 ≤ x ∧ x < k) ∧ w = w' := by
  by_cases hn : 0 < n
  · obtain ⟨b, o, x, rfl, hbl, hx, d0⟩ := hr.u8 hn
    obtain ⟨x0, x1⟩ := hl x (List.mem_of_getElem? hx)
    have hw : IntKind.i64.wrap x = x := IntWalk.i64_in _ (by omega)
    have h1 : decide ((n : Int) ≤ 0) = false := decide_eq_false (by omega)
    have h2 : decide (k < 1) = false := decide_eq_false (by omega)
    have h3 : (0 : Int) < (n : Int) := by omega
    have h4 : ¬ k = 0 := by omega
    rw [Nat.add_zero] at d0
    clear hx hr
    go_enter Try.func19, Try.ntmps19
    go_wp2
    go_ret
    exact ⟨⟨_, rfl, Int.emod_nonneg _ h4, Int.emod_lt_of_pos _ (by omega)⟩, rfl⟩
  · have h1 : n = 0 := by omega
    subst h1
    clear hr
    go_enter Try.func19, Try.ntmps19
    go_wp2
    go_ret
    exact ⟨⟨0, rfl, by omega, by omega⟩, rfl⟩
theorem long_any (A : Option Addr) (n c : Nat) (A' : Option Addr) (n' c' : Nat) (w : World) :
    Calls Try.prog 17 #[.slice A n c, .slice A' n' c'] w fun e w' => e = .returned (.bool (decide (3000 < (n : Int)) || decide (3000 < (n' : Int)))) ∧ w = w' := by
  by_cases h : 3000 < (n : Int)
  · have h1 : decide (3000 < (n : Int)) = true := decide_eq_true h
    rw [h1]
    go_enter Try.func17, Try.ntmps17
    go_wp2
    go_ret
    exact ⟨rfl, rfl⟩
  · have h1 : decide (3000 < (n : Int)) = false := decide_eq_false h
    rw [h1]
    by_cases h' : 3000 < (n' : Int)
    · have h2 : decide (3000 < (n' : Int)) = true := decide_eq_true h'
      rw [h2]
      go_enter Try.func17, Try.ntmps17
      go_wp2
      go_ret
      exact ⟨rfl, rfl⟩
    · have h2 : decide (3000 < (n' : Int)) = false := decide_eq_false h'
      rw [h2]
      go_enter Try.func17, Try.ntmps17
      go_wp2
      go_ret
      exact ⟨rfl, rfl⟩
theorem bytes_ok {l : List Int} (h : ∀ x ∈ l, (Lit.int .u8 x).wf = true) : byteL l := fun x hx => by
  have h1 := h x hx
  unfold Lit.wf at h1
  rw [Bool.and_eq_true, decide_eq_true_eq, decide_eq_true_eq] at h1
  have e1 : IntKind.u8.min = 0 := by decide
  have e2 : IntKind.u8.max = 255 := by decide
  rw [e1, e2] at h1
  exact h1
theorem kept_facts {q : List Heap} (hq : DInv q 7) {y : Int} (hy : 1800 ≤ y ∧ y ≤ 2100) : ∃ (K : List Heap) (dN : Int), mDrop q y = K ∧ mDropN q y = dN ∧ mDropC q y = 0 ∧ heapsOk K = true ∧ (∀ z ∈ K, z.fits) ∧ (∀ z ∈ K, y ≤ z.fYear) ∧ (∀ z ∈ K, 0 ≤ z.fBundles ∧ z.fBundles ≤ 1000) ∧ K.length ≤ 7 ∧ sumOf bunF K + dN = sumOf bunF q ∧ 0 ≤ dN ∧ dN ≤ 20000 ∧ K = keptTo q y q.length := by
  have hok := hq.ok (Nat.le_refl _)
  have hm : mDropOk q y = true := by unfold mDropOk; rw [hok, Bool.true_and]; unfold inB; exact decide_eq_true hy
  have hC : mDropC q y = 0 := by unfold mDropC; rw [hok, if_pos rfl]; unfold inB; rw [decide_eq_true hy]; rfl
  have hK : mDrop q y = keptTo q y q.length := by unfold mDrop; rw [hm]; rfl
  have hN : mDropN q y = sumOf (dropF y) q := by unfold mDropN; rw [hm]; rfl
  have hf : keptTo q y q.length = q.filter fun x => decide (y ≤ x.fYear) := by unfold keptTo; rw [List.take_length]
  have hmem : ∀ z ∈ keptTo q y q.length, z ∈ q ∧ y ≤ z.fYear := by
    intro z hz
    rw [hf, List.mem_filter] at hz
    exact ⟨hz.1, of_decide_eq_true hz.2⟩
  have hlen : (keptTo q y q.length).length ≤ 7 := Nat.le_trans (keptTo_len q y q.length) hq.len
  have hsum : ∀ l : List Heap, sumOf bunF (l.filter fun x => decide (y ≤ x.fYear)) + sumOf (dropF y) l = sumOf bunF l := by
    intro l
    induction l with
    | nil => rfl
    | cons a l ih =>
      rw [sumOf_cons, sumOf_cons]
      by_cases h : y ≤ a.fYear
      · rw [List.filter_cons_of_pos (by simpa using h), sumOf_cons]
        unfold dropF at ih ⊢
        rw [if_pos h]; omega
      · rw [List.filter_cons_of_neg (by simpa using h)]
        unfold dropF at ih ⊢
        rw [if_neg h]
        unfold bunF at ih ⊢
        omega
  have hs := hsum q
  rw [← hf] at hs
  have hb := bun_sum (fun z hz => by have := hq.bun z hz; omega) (Nat.le_trans hq.len (by omega)) q.length
  rw [List.take_length] at hb
  have hb2 := bun_sum (l := keptTo q y q.length) (fun z hz => by have := hq.bun z (hmem z hz).1; omega) (by omega) (keptTo q y q.length).length
  rw [List.take_length] at hb2
  have hdn : 0 ≤ sumOf (dropF y) q := by
    have key : ∀ l : List Heap, (∀ z ∈ l, 0 ≤ dropF y z) → 0 ≤ sumOf (dropF y) l := by
      intro l
      induction l with
      | nil => intro _; exact Int.le_refl _
      | cons a l ih => intro h; rw [sumOf_cons]; have := h a List.mem_cons_self; have := ih (fun z hz => h z (List.mem_cons_of_mem _ hz)); omega
    exact key q fun z hz => (dropF_bound hok y z hz).1
  refine ⟨keptTo q y q.length, sumOf (dropF y) q, hK, hN, hC, ?_, fun z hz => hq.fits z (hmem z hz).1, fun z hz => (hmem z hz).2, fun z hz => by have := hq.bun z (hmem z hz).1; omega, hlen, hs, hdn, by omega, rfl⟩
  refine ok_of_srt ?_ (fun z hz => ?_) (by omega)
  · unfold Srt; rw [hf]; exact List.Pairwise.filter _ hq.srt
  · have hz2 := (hmem z hz).1
    rw [Heap.ok_iff]
    refine ⟨?_, by have := hq.year z hz2; omega, by have := hq.bun z hz2; omega⟩
    rcases hq.sort z hz2 with h | h | h | h <;> rw [h] <;> decide
theorem sorts_facts {q : List Heap} (hq : DInv q 7) : ∃ S : List ByteArray, mSorts q = S ∧ mSortsC q = 0 ∧ S.length ≤ q.length ∧ Asc S ∧ ∀ z ∈ q, z.fSort ∈ S := by
  have hok := hq.ok (Nat.le_refl _)
  have hS : mSorts q = dedup (q.map (·.fSort)) := by unfold mSorts; rw [hok]; rfl
  have hp : (q.map (·.fSort)).Pairwise fun a b => strLt b a = false := by
    rw [List.pairwise_map]
    refine hq.srt.imp fun {a b} h => ?_
    rcases hLt_iff.1 h with h1 | ⟨h1, _⟩
    · exact strLt_asymm h1
    · rw [h1]; exact strLt_irrefl _
  have hg := ddTo_good hp (q.map (·.fSort)).length (Nat.le_refl _)
  rw [ddTo_all _ rfl] at hg
  refine ⟨_, hS, by unfold mSortsC; rw [hok]; rfl, by have := dedup_len (q.map (·.fSort)); simpa using this, hg.1, fun z hz => ?_⟩
  rw [hg.2, List.take_length]
  exact List.mem_map_of_mem hz
theorem join_facts {a b : List Heap} (ha : DInv a 7) (hb : DInv b 7) : mJoinC a b = 0 ∧ mJoinL a b = joinAll a b := by
  have hj := (join_drawn ha hb).ok
  have h0 : mJoinC a b = 0 := by unfold mJoinC; rw [ha.ok (Nat.le_refl _), hb.ok (Nat.le_refl _), hj]; rfl
  exact ⟨h0, by unfold mJoinL; rw [h0]; rfl⟩

end Go.Proofs.Ytpmldpegjnpoaaa
