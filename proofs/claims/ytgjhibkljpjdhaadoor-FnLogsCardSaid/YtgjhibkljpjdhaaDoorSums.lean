/- Sums over lists, in plain words. No statement is proved here. -/
import Derived.Test.YtgjhibkljpjdhaaDoorKit
namespace Go.Proofs.YtgjhibkljpjdhaaDoor
open Go.ChangeShapes Go.WideShapes Go.ChangeAt Go.RowKit Go.Deep
theorem sumOf_cons' {α : Type} (f : α → Int) (a : α) (l : List α) : sumOf f (a :: l) = f a + sumOf f l := by simp [sumOf]
theorem sumOf_zero {α : Type} {f : α → Int} {l : List α} (h : ∀ x ∈ l, f x = 0) : sumOf f l = 0 := by
  induction l with
  | nil => rfl
  | cons a l ih => rw [sumOf_cons', h a List.mem_cons_self, ih fun x hx => h x (List.mem_cons_of_mem _ hx)]; rfl
theorem sumOf_congr {α : Type} {f g : α → Int} {l : List α} (h : ∀ x ∈ l, f x = g x) : sumOf f l = sumOf g l := by
  induction l with
  | nil => rfl
  | cons a l ih => rw [sumOf_cons', sumOf_cons', h a List.mem_cons_self, ih fun x hx => h x (List.mem_cons_of_mem _ hx)]
theorem sumOf_add {α : Type} (f g : α → Int) (l : List α) : sumOf (fun x => f x + g x) l = sumOf f l + sumOf g l := by
  induction l with
  | nil => rfl
  | cons a l ih => rw [sumOf_cons', sumOf_cons', sumOf_cons', ih]; omega
theorem sumOf_swap {α β : Type} (F : β → α → Int) (l : List α) (N : List β) : sumOf (fun y => sumOf (F y) l) N = sumOf (fun x => sumOf (fun y => F y x) N) l := by
  induction N with
  | nil => exact (sumOf_zero fun x _ => rfl).symm
  | cons b N ih =>
    rw [sumOf_cons', ih, ← sumOf_add]
    exact sumOf_congr fun x _ => (sumOf_cons' (fun y => F y x) b N).symm
theorem sumOf_one {N : List ByteArray} (hN : N.Nodup) {v : ByteArray} (hv : v ∈ N) (m : Int) : sumOf (fun y => if v = y then m else 0) N = m := by
  induction N with
  | nil => cases hv
  | cons b N ih =>
    rw [List.nodup_cons] at hN
    rw [sumOf_cons']
    by_cases h : v = b
    · subst h
      rw [if_pos rfl, sumOf_zero fun y hy => if_neg (fun e => hN.1 (by rw [e]; exact hy))]; omega
    · rw [if_neg h, ih hN.2 (by rcases List.mem_cons.1 hv with e | e; exact absurd e h; exact e)]; omega
end Go.Proofs.YtgjhibkljpjdhaaDoor
