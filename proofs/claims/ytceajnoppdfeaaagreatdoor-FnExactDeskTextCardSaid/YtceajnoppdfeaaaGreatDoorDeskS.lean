/- A desk as an argument: reading it, measuring it, copying it. -/
import Derived.Test.YtceajnoppdfeaaaGreatDoorDeskB
namespace Go.Proofs.YtceajnoppdfeaaaGreatDoor
open Go.ChangeShapes Go.WideShapes Go.ChangeAt Go.RowKit Go.Deep
set_option maxRecDepth 100000
theorem read_cells {H : Type} {enc : TypeId × Value → H} {P : Program} {α : Type} (cells : α → List Value) (s : Nat) (Q : α → Prop) {W : World} {sp : Nat → Bool} {held : Bool} {t e : TypeId} {u : Value} {fuel : Nat} {x : DataW H × List MemPlace}
    (ht : P.underlying t = some (.slice e)) (hC : P.cellsOf e = s) (hs0 : 0 < s)
    (hdec : ∀ (n : Nat) (cs : List Value) (x : DataW H × List MemPlace), DataW.trod enc P W 0 sp held n e cs = some x → ∃ y : α, Q y ∧ cells y = cs)
    (hf : DataW.trod enc P W 0 sp held fuel t [u] = some x) :
    ∃ (A : Option Addr) (n c : Nat) (l : List α), u = .slice A n c ∧ n ≤ c ∧ c ≤ maxLen ∧ (∀ x ∈ l, Q x) ∧ Arr cells s W W.heap.size A n l := by
  rcases open_slice ht hf with ⟨hz, _⟩ | ⟨a, n, c, m, k, D, Pl, hz, _, hl, hm, hmm, _, hi⟩
  · simp only [List.cons.injEq, and_true] at hz
    subst hz
    exact ⟨none, 0, 0, [], rfl, Nat.le_refl _, Nat.zero_le _, by simp, Arr.nil_ _⟩
  · simp only [List.cons.injEq, and_true] at hz
    subst hz
    have hnm : n ≤ m := by rw [hmm]; split <;> omega
    rcases Nat.eq_zero_or_pos n with rfl | hn
    · exact ⟨some a, 0, c, [], rfl, hl, hm, by simp, Arr.nil_ _⟩
    have one : ∀ i, i < n → ∃ x : α, Q x ∧ ∀ j u, (cells x)[j]? = some u → W.cell? (a.add (i * s + j)) = some u := by
      intro i hin
      obtain ⟨cs', hc, htr⟩ := hi i (by omega)
      rw [hC] at hc
      obtain ⟨_, hcl, hat⟩ := World.cells?_some hc
      obtain ⟨y, hQ, rfl⟩ := hdec _ _ _ htr
      refine ⟨y, hQ, fun j u hu => ?_⟩
      rw [← Go.Deep.add_add, hat j (by rw [← hcl]; exact lt_of_get hu), hu]
    have hadd : a = ⟨a.block, a.off, none⟩ ∧ a.block < W.heap.size := by
      obtain ⟨cs', hc, htr⟩ := hi 0 (by omega)
      rw [hC] at hc
      obtain ⟨_, hcl, hat⟩ := World.cells?_some hc
      obtain ⟨u, hu⟩ : ∃ u, cs'[0]? = some u := ⟨_, List.getElem?_eq_getElem (by omega)⟩
      have h0 := hat 0 hs0
      rw [hu] at h0
      simp only [Nat.zero_mul, Addr.add_zero'] at h0
      exact ⟨spot_of_cell h0, World.block_lt_of_cell? _ _ h0⟩
    obtain ⟨hsp, hlt⟩ := hadd
    obtain ⟨b, o, sp'⟩ := a
    obtain rfl : sp' = none := by injection hsp
    obtain ⟨l, hQ, hA⟩ := Arr.of_cells (cells := cells) (s := s) (w := W) (B := W.heap.size) (n := n) (b := b) (o := o) (Q := Q) (fun _ => hlt) (fun i hin => by
      obtain ⟨x, hx, hc⟩ := one i hin
      refine ⟨x, hx, fun j u hu => ?_⟩
      have := hc j u hu
      rw [Addr.add_lit, ← Nat.add_assoc] at this
      exact this)
    exact ⟨_, n, c, l, rfl, hl, hm, hQ, hA⟩
structure DeskV.fits (x : DeskV) (w : World) : Prop where
  kinds : Arr Kind.cells 2 w w.heap.size x.A x.n x.kinds
  heaps : Arr Heap.cells 3 w w.heap.size x.A' x.n' x.heaps
  nk : x.n ≤ maxLen
  nh : x.n' ≤ maxLen
  kfit : ∀ h ∈ x.kinds, h.fits
  fit : ∀ h ∈ x.heaps, h.fits
  s0 : x.fStroke.size ≤ maxLen
  s4 : x.fLog.size ≤ maxLen
def DeskV.val (x : DeskV) : Value := .agg #[.string x.fStroke, .int .i64 x.fStakes, .slice x.A x.n x.c, .slice x.A' x.n' x.c', .string x.fLog]
theorem read_VDesk {H : Type} {enc : TypeId × Value → H} {W : World} {r : Reach} {b0 : Nat} {sp : Nat → Bool} {held : Bool} {v : Value} {d : DataW H} {ps : List MemPlace}
    (hval : Value.okWide Tryz.prog W r b0 25 v) (h : DataW.Trod enc Tryz.prog W 0 sp held 25 v d ps) : ∃ x : DeskV, v = .agg #[.string x.fStroke, .int .i64 x.fStakes, .slice x.A x.n x.c, .slice x.A' x.n' x.c', .string x.fLog] ∧ x.fits W := by
  obtain ⟨cs, rfl, hsz⟩ := okWide_struct Tryz.underlying25 hval
  obtain ⟨fuel, hx⟩ := h
  obtain ⟨hlen, hf⟩ := field_one (by kernel_rfl) Tryz.underlying25 hx
  obtain ⟨l⟩ := cs
  have hl : l.length = 5 := hsz.trans (by kernel_rfl)
  clear hlen hsz hx hval
  match l, hl with
  | [u0, u1, u2, u3, u4], _ =>
    obtain ⟨_, _, t0⟩ := hf 0 _ rfl u0 rfl
    obtain ⟨y0, e0, _, z0⟩ := DataW.trod_string Tryz.underlying9 t0
    obtain rfl : u0 = _ := by simpa using e0
    obtain ⟨_, _, t1⟩ := hf 1 _ rfl u1 rfl
    obtain ⟨y1, e1, _, _⟩ := DataW.trod_int Tryz.underlying2 t1
    obtain rfl : u1 = _ := by simpa using e1
    obtain ⟨_, _, t2⟩ := hf 2 _ rfl u2 rfl
    obtain ⟨A, n, c, kl, rfl, hnc, hcm, hkf, hk⟩ := read_cells Kind.cells 2 Kind.fits Tryz.underlying22 (by kernel_rfl) (by omega) (fun n cs x hx => by
      obtain ⟨hlen, hf⟩ := field_one (by kernel_rfl) Tryz.underlying60 hx
      have hl : cs.length = 2 := hlen.trans (by kernel_rfl)
      match cs, hl with
      | [u0, u1], _ =>
        obtain ⟨_, _, t0⟩ := hf 0 _ rfl u0 rfl
        obtain ⟨y0, e0, _, _⟩ := DataW.trod_int Tryz.underlying2 t0
        obtain rfl : u0 = _ := by simpa using e0
        obtain ⟨_, _, t1⟩ := hf 1 _ rfl u1 rfl
        obtain ⟨y1, e1, _, _⟩ := DataW.trod_int Tryz.underlying2 t1
        obtain rfl : u1 = _ := by simpa using e1
        exact ⟨⟨y0, y1⟩, trivial, rfl⟩) t2
    obtain ⟨_, _, t3⟩ := hf 3 _ rfl u3 rfl
    obtain ⟨A', n', c', hl', rfl, hnc', hcm', hhf, hh⟩ := read_cells Heap.cells 3 Heap.fits Tryz.underlying23 (by kernel_rfl) (by omega) (fun n cs x hx => by
      obtain ⟨hlen, hf⟩ := field_one (by kernel_rfl) Tryz.underlying53 hx
      have hl : cs.length = 3 := hlen.trans (by kernel_rfl)
      match cs, hl with
      | [u0, u1, u2], _ =>
        obtain ⟨_, _, t0⟩ := hf 0 _ rfl u0 rfl
        obtain ⟨y0, e0, _, z0⟩ := DataW.trod_string Tryz.underlying9 t0
        obtain rfl : u0 = _ := by simpa using e0
        obtain ⟨_, _, t1⟩ := hf 1 _ rfl u1 rfl
        obtain ⟨y1, e1, _, _⟩ := DataW.trod_int Tryz.underlying2 t1
        obtain rfl : u1 = _ := by simpa using e1
        obtain ⟨_, _, t2⟩ := hf 2 _ rfl u2 rfl
        obtain ⟨y2, e2, _, _⟩ := DataW.trod_int Tryz.underlying2 t2
        obtain rfl : u2 = _ := by simpa using e2
        exact ⟨⟨y0, y1, y2⟩, z0, rfl⟩) t3
    obtain ⟨_, _, t4⟩ := hf 4 _ rfl u4 rfl
    obtain ⟨y4, e4, _, z4⟩ := DataW.trod_string Tryz.underlying9 t4
    obtain rfl : u4 = _ := by simpa using e4
    exact ⟨⟨y0, y1, A, n, c, kl, A', n', c', hl', y4⟩, rfl, hk, hh, Nat.le_trans hnc hcm, Nat.le_trans hnc' hcm', hkf, hhf, z0, z4⟩
end Go.Proofs.YtceajnoppdfeaaaGreatDoor
