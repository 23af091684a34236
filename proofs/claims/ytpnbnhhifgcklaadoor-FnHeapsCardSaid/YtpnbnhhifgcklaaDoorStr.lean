/- The order of strings, byte by byte: irreflexive, transitive, total; what a comparison in three ways says of it. Plain words; no statement is proved here. -/
import Derived.Test.YtpnbnhhifgcklaaDoorKit
import Derived.Lib.Bytealg
namespace Go.Proofs.YtpnbnhhifgcklaaDoor
open Go.ChangeShapes Go.WideShapes Go.ChangeAt Go.RowKit Go.Deep
def strLt (a b : ByteArray) : Bool := Op.bytesLess a.toList b.toList
theorem bl_irrefl : ∀ x : List UInt8, Op.bytesLess x x = false
  | [] => rfl
  | a :: x => by
    have h : ¬ a < a := by rw [UInt8.lt_iff_toNat_lt]; omega
    simp [Op.bytesLess, bl_irrefl x, h]
theorem bl_trans : ∀ x y z : List UInt8, Op.bytesLess x y = true → Op.bytesLess y z = true → Op.bytesLess x z = true
  | _, [], _ => by intro h; cases ‹List UInt8› <;> simp [Op.bytesLess] at h
  | _, _ :: _, [] => by intro _ h; simp [Op.bytesLess] at h
  | [], _ :: _, _ :: _ => by intro _ _; rfl
  | a :: x, b :: y, c :: z => by
    intro h1 h2
    simp only [Op.bytesLess, Bool.or_eq_true, Bool.and_eq_true, decide_eq_true_eq, beq_iff_eq, UInt8.lt_iff_toNat_lt] at h1 h2 ⊢
    rcases h1 with h1 | ⟨rfl, h1⟩
    · rcases h2 with h2 | ⟨rfl, _⟩
      · exact .inl (by omega)
      · exact .inl h1
    · rcases h2 with h2 | ⟨rfl, h2⟩
      · exact .inl h2
      · exact .inr ⟨rfl, bl_trans x y z h1 h2⟩
theorem bl_total : ∀ x y : List UInt8, Op.bytesLess x y = false → Op.bytesLess y x = false → x = y
  | [], [] => fun _ _ => rfl
  | [], _ :: _ => by intro h _; simp [Op.bytesLess] at h
  | _ :: _, [] => by intro _ h; simp [Op.bytesLess] at h
  | a :: x, b :: y => by
    intro h1 h2
    simp only [Op.bytesLess, Bool.or_eq_false_iff, Bool.and_eq_false_iff, decide_eq_false_iff_not, beq_eq_false_iff_ne, UInt8.lt_iff_toNat_lt] at h1 h2
    have hab : a = b := UInt8.toNat_inj.1 (by omega)
    subst hab
    rw [bl_total x y (by rcases h1.2 with h | h; exact absurd rfl h; exact h) (by rcases h2.2 with h | h; exact absurd rfl h; exact h)]
theorem bl_asymm {x y : List UInt8} (h : Op.bytesLess x y = true) : Op.bytesLess y x = false := by
  cases h2 : Op.bytesLess y x
  · rfl
  · have := bl_trans x y x h h2; rw [bl_irrefl] at this; cases this
theorem cmp_of : ∀ x y : List UInt8, Lib.compareBytes x y = if Op.bytesLess x y then -1 else if x = y then 0 else 1
  | [], [] => rfl
  | [], _ :: _ => rfl
  | _ :: _, [] => rfl
  | a :: x, b :: y => by
    rw [Lib.compareBytes, cmp_of x y]
    simp only [Op.bytesLess, UInt8.lt_iff_toNat_lt]
    by_cases h1 : a.toNat < b.toNat
    · simp [h1]
    · by_cases h2 : b.toNat < a.toNat
      · have hab : ¬ a = b := by rintro rfl; omega
        have hb : (a == b) = false := by simp [hab]
        simp [h1, h2, hab]
      · have hab : a = b := UInt8.toNat_inj.1 (by omega)
        subst hab
        simp
theorem data_toList (a : ByteArray) : a.data.toList = a.toList := (ByteArray.toList_eq a).symm
theorem strLt_irrefl (a : ByteArray) : strLt a a = false := bl_irrefl _
theorem strLt_trans {a b c : ByteArray} (h : strLt a b = true) (h' : strLt b c = true) : strLt a c = true := bl_trans _ _ _ h h'
theorem strLt_total {a b : ByteArray} (h : strLt a b = false) (h' : strLt b a = false) : a = b := toList_inj (bl_total _ _ h h')
theorem strLt_asymm {a b : ByteArray} (h : strLt a b = true) : strLt b a = false := bl_asymm h
def strCmp (a b : ByteArray) : Int := Lib.compareBytes a.data.toList b.data.toList
theorem strCmp_of (a b : ByteArray) : strCmp a b = if strLt a b then -1 else if a = b then 0 else 1 := by
  unfold strCmp strLt
  rw [data_toList, data_toList, cmp_of]
  by_cases h : a = b
  · subst h; simp
  · have : ¬ a.toList = b.toList := fun e => h (toList_inj e)
    simp [h, this]
end Go.Proofs.YtpnbnhhifgcklaaDoor
