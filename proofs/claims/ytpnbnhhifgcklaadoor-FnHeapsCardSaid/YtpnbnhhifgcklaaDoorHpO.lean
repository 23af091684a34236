/- Stores joined, as plain Lean: what each sort and year holds, and that the order of joining does not matter. No statement is proved here. -/
import Derived.Test.YtpnbnhhifgcklaaDoorHpN
namespace Go.Proofs.YtpnbnhhifgcklaaDoor
open Go.ChangeShapes Go.WideShapes Go.ChangeAt Go.RowKit Go.Deep
def keyF (s : ByteArray) (y : Int) (z : Heap) : Int := if z.fSort = s ∧ z.fYear = y then z.fBundles else 0
def val (l : List Heap) (s : ByteArray) (y : Int) : Int := sumOf (keyF s y) l
theorem sumOf_app {α : Type} (f : α → Int) (a b : List α) : sumOf f (a ++ b) = sumOf f a + sumOf f b := by simp [sumOf]
theorem sumOf_cons {α : Type} (f : α → Int) (x : α) (b : List α) : sumOf f (x :: b) = f x + sumOf f b := by simp [sumOf]
theorem sumOf_split {α : Type} (f : α → Int) (l : List α) (k : Nat) : sumOf f l = sumOf f (l.take k) + sumOf f (l.drop k) := by rw [← sumOf_app, List.take_append_drop]
/-- Whatever adds the bundles of one key, adds a heap that is put. -/
theorem sum_put (f : Heap → Int) (l : List Heap) (x : Heap) (hf : ∀ y : Heap, y.fSort = x.fSort → y.fYear = x.fYear → f ⟨x.fSort, x.fYear, x.fBundles + y.fBundles⟩ = f x + f y) : sumOf f (hPut l x) = sumOf f l + f x := by
  unfold hPut
  rw [sumOf_split f l (putK l x)]
  split
  · rename_i h
    obtain ⟨y, hy, e1, e2, hlt, hat⟩ := found_at h
    have hd : l.drop (putK l x) = y :: l.drop (putK l x + 1) := by
      rw [List.drop_eq_getElem_cons hlt]
      rw [List.getElem?_eq_getElem hlt] at hy
      rw [Option.some.inj hy]
    rw [hd, sumOf_app, sumOf_cons, sumOf_cons, hat, hf y e1 e2]
    omega
  · rw [sumOf_app, sumOf_cons]; omega
theorem val_put (l : List Heap) (x : Heap) (s : ByteArray) (y : Int) : val (hPut l x) s y = val l s y + keyF s y x := by
  refine sum_put _ l x fun z h1 h2 => ?_
  unfold keyF
  rw [h1, h2]
  by_cases h : x.fSort = s ∧ x.fYear = y
  · rw [if_pos h, if_pos h, if_pos h]
  · rw [if_neg h, if_neg h, if_neg h]; rfl
def bunF (z : Heap) : Int := z.fBundles
theorem bun_put (l : List Heap) (x : Heap) : sumOf bunF (hPut l x) = sumOf bunF l + x.fBundles := sum_put bunF l x fun _ _ _ => rfl
theorem val_join (a b : List Heap) (s : ByteArray) (y : Int) : ∀ j, j ≤ b.length → val (joinTo a b j) s y = val a s y + val (b.take j) s y := by
  intro j
  induction j with
  | zero => intro _; simp [joinTo_zero, val, sumOf]
  | succ j ih =>
    intro hj
    have hx : b[j]? = some b[j] := List.getElem?_eq_getElem (by omega)
    rw [joinTo_step hx, val_put, ih (by omega), take_snoc hx]
    unfold val
    rw [sumOf_app, sumOf_cons]
    simp [sumOf]
    omega
theorem bun_join (a b : List Heap) : ∀ j, j ≤ b.length → sumOf bunF (joinTo a b j) = sumOf bunF a + sumOf bunF (b.take j) := by
  intro j
  induction j with
  | zero => intro _; simp [joinTo_zero, sumOf]
  | succ j ih =>
    intro hj
    have hx : b[j]? = some b[j] := List.getElem?_eq_getElem (by omega)
    rw [joinTo_step hx, bun_put, ih (by omega), take_snoc hx, sumOf_app, sumOf_cons]
    simp [sumOf, bunF]
    omega
theorem val_join_all (a b : List Heap) (s : ByteArray) (y : Int) : val (joinAll a b) s y = val a s y + val b s y := by
  have := val_join a b s y b.length (Nat.le_refl _)
  rwa [List.take_length] at this
theorem bun_join_all (a b : List Heap) : sumOf bunF (joinAll a b) = sumOf bunF a + sumOf bunF b := by
  have := bun_join a b b.length (Nat.le_refl _)
  rwa [List.take_length] at this
theorem hLt_same {a b : Heap} (h1 : a.fSort = b.fSort) (h2 : a.fYear = b.fYear) : hLt a b = false := by rw [hLt_key h1 h2 rfl rfl]; exact hLt_irrefl b
/-- In a strictly rising list a key stands once. -/
theorem val_at {l : List Heap} (h : Srt l) {z : Heap} (hz : z ∈ l) : val l z.fSort z.fYear = z.fBundles := by
  induction l with
  | nil => cases hz
  | cons a l ih =>
    obtain ⟨h1, h2⟩ := List.pairwise_cons.1 h
    have none : ∀ (m : List Heap) (c : Heap), (∀ b ∈ m, ¬ (b.fSort = c.fSort ∧ b.fYear = c.fYear)) → sumOf (keyF c.fSort c.fYear) m = 0 := by
      intro m c hm
      induction m with
      | nil => rfl
      | cons b m ih2 =>
        rw [sumOf_cons, ih2 (fun q hq => hm q (List.mem_cons_of_mem _ hq))]
        unfold keyF
        rw [if_neg (hm b (List.mem_cons_self))]; rfl
    rcases List.mem_cons.1 hz with rfl | hz
    · unfold val
      rw [sumOf_cons, none l z (fun b hb e => by have := h1 b hb; rw [hLt_same e.1.symm e.2.symm] at this; cases this)]
      unfold keyF
      rw [if_pos ⟨rfl, rfl⟩]; omega
    · unfold val
      rw [sumOf_cons]
      have h3 : ¬ (a.fSort = z.fSort ∧ a.fYear = z.fYear) := fun e => by have := h1 z hz; rw [hLt_same e.1 e.2] at this; cases this
      have h4 := ih h2 hz
      unfold val at h4
      rw [h4]
      unfold keyF
      rw [if_neg h3]; omega
theorem val_pos {l : List Heap} {s : ByteArray} {y : Int} (h : ¬ val l s y = 0) : ∃ z ∈ l, z.fSort = s ∧ z.fYear = y := by
  induction l with
  | nil => exact absurd rfl h
  | cons a l ih =>
    by_cases ha : a.fSort = s ∧ a.fYear = y
    · exact ⟨a, List.mem_cons_self, ha⟩
    · have : val (a :: l) s y = val l s y := by
        unfold val; rw [sumOf_cons]; unfold keyF; rw [if_neg ha]; omega
      rw [this] at h
      obtain ⟨z, hz, h2⟩ := ih h
      exact ⟨z, List.mem_cons_of_mem _ hz, h2⟩
theorem val_range {l : List Heap} (h : Srt l) {M : Int} (hM : 0 ≤ M) (hb : ∀ z ∈ l, 0 ≤ z.fBundles ∧ z.fBundles ≤ M) (s : ByteArray) (y : Int) : 0 ≤ val l s y ∧ val l s y ≤ M := by
  by_cases h0 : val l s y = 0
  · omega
  · obtain ⟨z, hz, rfl, rfl⟩ := val_pos h0
    rw [val_at h hz]; exact hb z hz
theorem srt_mem_ext : ∀ {l l' : List Heap}, Srt l → Srt l' → (∀ z, z ∈ l ↔ z ∈ l') → l = l'
  | [], [], _, _, _ => rfl
  | [], b :: l', _, _, h => by have := (h b).2 List.mem_cons_self; cases this
  | a :: l, [], _, _, h => by have := (h a).1 List.mem_cons_self; cases this
  | a :: l, b :: l', h1, h2, h => by
    obtain ⟨p1, p2⟩ := List.pairwise_cons.1 h1
    obtain ⟨q1, q2⟩ := List.pairwise_cons.1 h2
    have hab : a = b := by
      rcases List.mem_cons.1 ((h a).1 List.mem_cons_self) with e | e
      · exact e
      · rcases List.mem_cons.1 ((h b).2 List.mem_cons_self) with e' | e'
        · exact e'.symm
        · have := hLt_trans (q1 a e) (p1 b e'); rw [hLt_irrefl] at this; cases this
    subst hab
    have : l = l' := srt_mem_ext p2 q2 fun z => by
      constructor
      · intro hz
        rcases List.mem_cons.1 ((h z).1 (List.mem_cons_of_mem _ hz)) with e | e
        · subst e; have := p1 z hz; rw [hLt_irrefl] at this; cases this
        · exact e
      · intro hz
        rcases List.mem_cons.1 ((h z).2 (List.mem_cons_of_mem _ hz)) with e | e
        · subst e; have := q1 z hz; rw [hLt_irrefl] at this; cases this
        · exact e
    rw [this]
theorem srt_ext {l l' : List Heap} (h : Srt l) (h' : Srt l') (hb : ∀ z ∈ l, 1 ≤ z.fBundles) (hb' : ∀ z ∈ l', 1 ≤ z.fBundles) (hv : ∀ s y, val l s y = val l' s y) : l = l' := by
  have half : ∀ {m m' : List Heap}, Srt m → Srt m' → (∀ z ∈ m, 1 ≤ z.fBundles) → (∀ s y, val m s y = val m' s y) → ∀ z ∈ m, z ∈ m' := by
    intro m m' hm hm' hb hv z hz
    have h1 := val_at hm hz
    have h2 := hb z hz
    obtain ⟨z', hz', e1, e2⟩ := val_pos (l := m') (s := z.fSort) (y := z.fYear) (by rw [← hv, h1]; omega)
    have h3 := val_at hm' hz'
    rw [e1, e2, ← hv, h1] at h3
    have : z' = z := by
      cases z; cases z'
      simp only at e1 e2 h3
      subst e1 e2 h3; rfl
    rw [← this]; exact hz'
  exact srt_mem_ext h h' fun z => ⟨half h h' hb hv z, half h' h hb' (fun s y => (hv s y).symm) z⟩
/-- Two drawn stores joined. -/
structure Joined (l : List Heap) : Prop where
  srt : Srt l
  low : ∀ z ∈ l, 1 ≤ z.fBundles
  ok : heapsOk l = true
  fit : ∀ z ∈ l, z.fits
theorem join_drawn {a b : List Heap} (ha : DInv a 7) (hb : DInv b 7) : Joined (joinAll a b) := by
  have hoa := ha.ok (Nat.le_refl _)
  have hob := hb.ok (Nat.le_refl _)
  have I := join_inv hoa hob ha.fits hb.fits b.length (Nat.le_refl _)
  have key : ∀ j, j ≤ b.length → (∀ z ∈ joinTo a b j, z.fSort = ⟨#[98, 114, 111, 119, 110]⟩ ∨ z.fSort = ⟨#[98, 117, 102, 102]⟩ ∨ z.fSort = ⟨#[103, 114, 101, 101, 110, 45, 50]⟩ ∨ z.fSort = ⟨#[119, 104, 105, 116, 101]⟩) ∧ (joinTo a b j).length ≤ 7 + j ∧ (∀ z ∈ joinTo a b j, 1 ≤ z.fBundles) := by
    intro j
    induction j with
    | zero => intro _; exact ⟨ha.sort, ha.len, fun z hz => (ha.bun z hz).1⟩
    | succ j ih =>
      intro hj
      have hx : b[j]? = some b[j] := List.getElem?_eq_getElem (by omega)
      have hm := List.mem_of_getElem? hx
      obtain ⟨i1, i2, i3⟩ := ih (by omega)
      rw [joinTo_step hx]
      refine ⟨fun z hz => ?_, ?_, fun z hz => ?_⟩
      · rcases put_mem hz with h | ⟨h, _⟩
        · exact i1 z h
        · rw [h]; exact hb.sort _ hm
      · have := hPut_len (joinTo a b j) b[j]; omega
      · have hxb := hb.bun _ hm
        unfold hPut at hz
        split at hz
        · rename_i hf
          obtain ⟨y, hy, _, _, _, hat⟩ := found_at hf
          have hyb := i3 y (List.mem_of_getElem? hy)
          rcases List.mem_append.1 hz with hz | hz
          · exact i3 z (List.mem_of_mem_take hz)
          · rcases List.mem_cons.1 hz with rfl | hz
            · rw [hat]; show 1 ≤ b[j].fBundles + y.fBundles; omega
            · exact i3 z (List.mem_of_mem_drop hz)
        · rcases List.mem_append.1 hz with hz | hz
          · exact i3 z (List.mem_of_mem_take hz)
          · rcases List.mem_cons.1 hz with rfl | hz
            · omega
            · exact i3 z (List.mem_of_mem_drop hz)
  obtain ⟨k1, k2, k3⟩ := key b.length (Nat.le_refl _)
  have hbl := hb.len
  refine ⟨I.srt, k3, ok_of_srt I.srt (fun z hz => ?_) (by show (joinTo a b b.length).length ≤ 20; omega), I.fit⟩
  rw [Heap.ok_iff]
  refine ⟨?_, I.year z hz, k3 z hz, ?_⟩
  · rcases k1 z hz with h | h | h | h <;> rw [h] <;> decide
  · have h1 := val_at I.srt hz
    have h2 := val_join_all a b z.fSort z.fYear
    have h3 := val_range ha.srt (M := 140) (by omega) (fun q hq => by have := ha.bun q hq; omega) z.fSort z.fYear
    have h4 := val_range hb.srt (M := 140) (by omega) (fun q hq => by have := hb.bun q hq; omega) z.fSort z.fYear
    unfold joinAll at h2
    omega
theorem join_comm {a b : List Heap} (ha : DInv a 7) (hb : DInv b 7) : joinAll a b = joinAll b a := by
  have h1 := join_drawn ha hb
  have h2 := join_drawn hb ha
  exact srt_ext h1.srt h2.srt h1.low h2.low fun s y => by rw [val_join_all, val_join_all]; omega
end Go.Proofs.YtpnbnhhifgcklaaDoor
