/- What a call over the library's tables keeps: the table of powers of ten, and the library's own variables. No statement is proved here. -/
import Derived.Test.YtpnbnhhifgcklaaDoorKit
import Derived.Lib.LaidTab
import Derived.Lib.ItoaNum
import Derived.ChangeAgain
import Derived.MakeChecks
namespace Go.Proofs.YtpnbnhhifgcklaaDoor
open Go.ChangeShapes Go.WideShapes Go.ChangeAt Go.RowKit Go.Deep
def Gl (w : World) : Prop := Lib.TabIs Tryd.prog w "internal/strconv.uint64pow10" .u64 Lib.pow10Tab ∧ w.ShapedOpen Tryd.prog
theorem var_below {P : Program} {w w' : World} {n : String} {cs : Array Value} (h : w.var? P n = some cs) (hb : Below w.heap.size w w') : w'.var? P n = some cs := by
  unfold World.var? at h ⊢
  cases hg : P.globalNamed n with
  | none => rw [hg] at h; cases h
  | some g =>
    rw [hg] at h
    simp only [Option.bind_some] at h ⊢
    have hlt : g < w.heap.size := by
      rcases Nat.lt_or_ge g w.heap.size with h1 | h1
      · exact h1
      · rw [Array.getElem?_eq_none h1] at h; cases h
    rw [hb.block g hlt]; exact h
theorem Gl.below {w w' : World} (h : Gl w) (hb : Below w.heap.size w w') : Gl w' :=
  ⟨var_below h.1 hb, h.2.keptBut (hb.frame (fun _ => False)) (fun _ h => h.elim)⟩
theorem reads_of {P : Program} {w : World} {n : String} {d : DataW Unit} : ∀ {l : List (String × DataW Unit)} {ps : List MemPlace}, DataW.LaidVars P w l ps → (n, d) ∈ l →
    ∃ g t cs fuel p, P.globalNamed n = some g ∧ (P.globals[g]?).map (·.type) = some t ∧ w.var? P n = some cs ∧ DataW.trod (fun _ => ()) P w 0 (fun _ => true) false fuel t cs.toList = some (d, p)
  | [], _, _, h => by cases h
  | (_, _) :: _, _, ⟨g, t, cs, fuel, p, _, h1, h2, h3, h4, h5, _⟩, h => by
    rcases List.mem_cons.1 h with e | e
    · cases e; exact ⟨g, t, cs, fuel, p, h1, h2, h3, h4⟩
    · exact reads_of h5 e
theorem gl_of {W : World} {l : List (String × DataW Unit)} (hL : laidMet Tryd.prog l W) (hm : ("internal/strconv.uint64pow10", Lib.tabData .u64 Lib.pow10Tab) ∈ l) (hsh : W.ShapedOpen Tryd.prog) : Gl W := by
  refine ⟨?_, hsh⟩
  obtain ⟨ps, hvars, _⟩ := hL
  obtain ⟨g, t, cs, fuel, p, hg, ht, hv, hd⟩ := reads_of hvars hm
  have e1 : Tryd.prog.globalNamed "internal/strconv.uint64pow10" = some (Tryd.prog.globalNamed "internal/strconv.uint64pow10").get! := by kernel_rfl
  have e2 : (Tryd.prog.globals[(Tryd.prog.globalNamed "internal/strconv.uint64pow10").get!]?).map (·.type) = some 93 := by kernel_rfl
  obtain rfl := Option.some.inj (e1.symm.trans hg)
  obtain rfl := Option.some.inj (e2.symm.trans ht)
  unfold Lib.TabIs
  rw [hv, ← Lib.cells_of_tab Tryd.underlying93 Tryd.underlying56 (by kernel_rfl) (by kernel_rfl) hd]
end Go.Proofs.YtpnbnhhifgcklaaDoor
