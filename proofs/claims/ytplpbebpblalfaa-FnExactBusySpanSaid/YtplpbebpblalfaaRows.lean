/-
  No cell of these rows narrows 'for every input' (looked for: loops, veiled, ifaces, maps, wideKeys, modest, calm, conditions, laid).
  DERIVED. THE GIVEN ROWS OF THIS SEAT. 6 by the template 'for every input the law returns true; each argument reads behind the call as it read before'; 0 by the template 'total and deterministic' (their statements: YtplpbebpblalfaaTotals.lean).
  GIVEN WITH THE SEED: the statements are not yours to turn. If you find one false, say at which input.
  Laid BY PROGRAM, IN A SANDBOX (cutbox-rows.mjs): the forced cells as the released guide's own fill.sh prints them over the translation fb86fcb6e643c0e2… (all of the seat's roots in one cut). By AI agents, Wed Nov 11 2026. No macro, syntax, notation, axiom, sorry.
-/
import Derived.Test.YtplpbebpblalfaaChecked
import GoSem.Claim
import GoSem.ClaimJoined
import GoSem.ClaimMapViews
import Derived.JoinedTies
import Derived.KernelRfl
namespace Go.Proofs.Ytplpbebpblalfaa
/- THE CELL 'sum', in the pinned program and in every row, IS THE sha256 OF THE DUMP (.gsa) THAT YtplpbebpblalfaaProg.lean LOADS. Nothing in Lean hashes anything: it is a label: what it is worth is what the hold of that sum in a sandbox is worth. -/
noncomputable def Try.pinned : Pinned := { name := "ytplpbebpblalfaa", sum := "fb86fcb6e643c0e20cbc5a2cb28c8bbffa35be7bbad95189fcc3b6a75060dde1", checked := Try.checked }
namespace Rows
def none {H : Type} : Left H := { results := [], args := [] }

/-- 'laws.FnExactCanDoAll': WHATEVER THE INPUT: true; the input reads as it did. -/
def fnExactCanDoAllSpec : ChangeSpec := { name := "fnExactCanDoAll", fn := fun _ => fun
  | [d] => { results := [.lit (.bool true)], args := [d] }
  | _ => none }
def fnExactCanDoAllRow : OpenClaim := { program := "ytplpbebpblalfaa", sum := "fb86fcb6e643c0e20cbc5a2cb28c8bbffa35be7bbad95189fcc3b6a75060dde1", func := "loop.example/g01064/laws.FnExactCanDoAll", spec := "fnExactCanDoAll", apart := false }
def FnExactCanDoAllSaid : Prop := fnExactCanDoAllRow.holds Try.pinned (OpenSpec.ofChange fnExactCanDoAllSpec)

/-- ITS FALSE NEIGHBOUR: 'it returns false'. Refute it at one input. -/
def fnExactCanDoAllWrong : ChangeSpec := { name := "fnExactCanDoAll", fn := fun _ => fun
  | [d] => { results := [.lit (.bool false)], args := [d] }
  | _ => none }
def FnExactCanDoAllWrongFalsely : Prop := fnExactCanDoAllRow.holds Try.pinned (OpenSpec.ofChange fnExactCanDoAllWrong)

/-- 'laws.FnExactFirstLate': WHATEVER THE INPUT: true; the input reads as it did. -/
def fnExactFirstLateSpec : ChangeSpec := { name := "fnExactFirstLate", fn := fun _ => fun
  | [d] => { results := [.lit (.bool true)], args := [d] }
  | _ => none }
def fnExactFirstLateRow : OpenClaim := { program := "ytplpbebpblalfaa", sum := "fb86fcb6e643c0e20cbc5a2cb28c8bbffa35be7bbad95189fcc3b6a75060dde1", func := "loop.example/g01064/laws.FnExactFirstLate", spec := "fnExactFirstLate", apart := false }
def FnExactFirstLateSaid : Prop := fnExactFirstLateRow.holds Try.pinned (OpenSpec.ofChange fnExactFirstLateSpec)

/-- ITS FALSE NEIGHBOUR: 'it returns false'. Refute it at one input. -/
def fnExactFirstLateWrong : ChangeSpec := { name := "fnExactFirstLate", fn := fun _ => fun
  | [d] => { results := [.lit (.bool false)], args := [d] }
  | _ => none }
def FnExactFirstLateWrongFalsely : Prop := fnExactFirstLateRow.holds Try.pinned (OpenSpec.ofChange fnExactFirstLateWrong)

/-- 'laws.FnExactBusySpan': WHATEVER THE INPUT: true; the input reads as it did. -/
def fnExactBusySpanSpec : ChangeSpec := { name := "fnExactBusySpan", fn := fun _ => fun
  | [d] => { results := [.lit (.bool true)], args := [d] }
  | _ => none }
def fnExactBusySpanRow : OpenClaim := { program := "ytplpbebpblalfaa", sum := "fb86fcb6e643c0e20cbc5a2cb28c8bbffa35be7bbad95189fcc3b6a75060dde1", func := "loop.example/g01064/laws.FnExactBusySpan", spec := "fnExactBusySpan", apart := false }
def FnExactBusySpanSaid : Prop := fnExactBusySpanRow.holds Try.pinned (OpenSpec.ofChange fnExactBusySpanSpec)

/-- ITS FALSE NEIGHBOUR: 'it returns false'. Refute it at one input. -/
def fnExactBusySpanWrong : ChangeSpec := { name := "fnExactBusySpan", fn := fun _ => fun
  | [d] => { results := [.lit (.bool false)], args := [d] }
  | _ => none }
def FnExactBusySpanWrongFalsely : Prop := fnExactBusySpanRow.holds Try.pinned (OpenSpec.ofChange fnExactBusySpanWrong)

/-- 'laws.FnWorkDays': WHATEVER THE INPUT: true; the input reads as it did. -/
def fnWorkDaysSpec : ChangeSpec := { name := "fnWorkDays", fn := fun _ => fun
  | [d] => { results := [.lit (.bool true)], args := [d] }
  | _ => none }
def fnWorkDaysRow : OpenClaim := { program := "ytplpbebpblalfaa", sum := "fb86fcb6e643c0e20cbc5a2cb28c8bbffa35be7bbad95189fcc3b6a75060dde1", func := "loop.example/g01064/laws.FnWorkDays", spec := "fnWorkDays", apart := false }
def FnWorkDaysSaid : Prop := fnWorkDaysRow.holds Try.pinned (OpenSpec.ofChange fnWorkDaysSpec)

/-- ITS FALSE NEIGHBOUR: 'it returns false'. Refute it at one input. -/
def fnWorkDaysWrong : ChangeSpec := { name := "fnWorkDays", fn := fun _ => fun
  | [d] => { results := [.lit (.bool false)], args := [d] }
  | _ => none }
def FnWorkDaysWrongFalsely : Prop := fnWorkDaysRow.holds Try.pinned (OpenSpec.ofChange fnWorkDaysWrong)

/-- 'laws.FnExactWorkOn': WHATEVER THE INPUT: true; the input reads as it did. -/
def fnExactWorkOnSpec : ChangeSpec := { name := "fnExactWorkOn", fn := fun _ => fun
  | [d] => { results := [.lit (.bool true)], args := [d] }
  | _ => none }
def fnExactWorkOnRow : OpenClaim := { program := "ytplpbebpblalfaa", sum := "fb86fcb6e643c0e20cbc5a2cb28c8bbffa35be7bbad95189fcc3b6a75060dde1", func := "loop.example/g01064/laws.FnExactWorkOn", spec := "fnExactWorkOn", apart := false }
def FnExactWorkOnSaid : Prop := fnExactWorkOnRow.holds Try.pinned (OpenSpec.ofChange fnExactWorkOnSpec)

/-- ITS FALSE NEIGHBOUR: 'it returns false'. Refute it at one input. -/
def fnExactWorkOnWrong : ChangeSpec := { name := "fnExactWorkOn", fn := fun _ => fun
  | [d] => { results := [.lit (.bool false)], args := [d] }
  | _ => none }
def FnExactWorkOnWrongFalsely : Prop := fnExactWorkOnRow.holds Try.pinned (OpenSpec.ofChange fnExactWorkOnWrong)

/-- 'laws.FnExactTakeOrder': WHATEVER THE INPUT: true; the input reads as it did. -/
def fnExactTakeOrderSpec : ChangeSpec := { name := "fnExactTakeOrder", fn := fun _ => fun
  | [d1, d2] => { results := [.lit (.bool true)], args := [d1, d2] }
  | _ => none }
def fnExactTakeOrderRow : OpenClaim := { program := "ytplpbebpblalfaa", sum := "fb86fcb6e643c0e20cbc5a2cb28c8bbffa35be7bbad95189fcc3b6a75060dde1", func := "loop.example/g01064/laws.FnExactTakeOrder", spec := "fnExactTakeOrder", apart := false }
def FnExactTakeOrderSaid : Prop := fnExactTakeOrderRow.holds Try.pinned (OpenSpec.ofChange fnExactTakeOrderSpec)

/-- ITS FALSE NEIGHBOUR: 'it returns false'. Refute it at one input. -/
def fnExactTakeOrderWrong : ChangeSpec := { name := "fnExactTakeOrder", fn := fun _ => fun
  | [d1, d2] => { results := [.lit (.bool false)], args := [d1, d2] }
  | _ => none }
def FnExactTakeOrderWrongFalsely : Prop := fnExactTakeOrderRow.holds Try.pinned (OpenSpec.ofChange fnExactTakeOrderWrong)

/- THE SECOND FORM. 'bulk': how many values and letters a reading holds, each counted each time it is reached (what is shared counts as often as it is met; a slice's spare places count too). A statement '..UptoSaid' is the law's where the arguments, and the package variables that the reading takes, are together of bulk at most 1048576: NARROWER than '..Said'. Prove '..Said' where nothing that the law and all that it calls make is longer than what came in: it says more and counts as full. Else prove '..UptoSaid'. A law counts once. -/
mutual
def uptoBulk {H : Type} : DataW H → Nat
  | .lit (.string bytes) => bytes.length + 1
  | .lit _ => 1
  | .nil => 1
  | .ptr d => uptoBulk d + 1
  | .slice elems spare => uptoBulkAll elems + uptoBulkAll spare + 1
  | .agg parts => uptoBulkAll parts + 1
  | .iface _ d => uptoBulk d + 1
  | .map entries => uptoBulkEntries entries + 1
  | .held _ => 1
def uptoBulkAll {H : Type} : List (DataW H) → Nat
  | [] => 0
  | d :: r => uptoBulk d + uptoBulkAll r
def uptoBulkEntries {H : Type} : List (Lit × DataW H) → Nat
  | [] => 0
  | x :: r => uptoBulkEntry x + uptoBulkEntries r
def uptoBulkEntry {H : Type} : Lit × DataW H → Nat
  | (.string bytes, d) => bytes.length + uptoBulk d + 1
  | (_, d) => uptoBulk d + 1
 end
def uptoSmall : (H : Type) → List (DataW H) → Bool := fun _ ds => decide (uptoBulkAll ds ≤ 1048576)
def OpenSpec.upto (s : _root_.Go.ChangeSpec) : _root_.Go.OpenSpec := { _root_.Go.OpenSpec.ofChange s with cond := some uptoSmall }

/-- 'laws.FnExactCanDoAll', WHERE WHAT IT READS IS OF BULK AT MOST 1048576: true; the input reads as it did. -/
def fnExactCanDoAllUptoRow : OpenClaim := { program := "ytplpbebpblalfaa", sum := "fb86fcb6e643c0e20cbc5a2cb28c8bbffa35be7bbad95189fcc3b6a75060dde1", func := "loop.example/g01064/laws.FnExactCanDoAll", spec := "fnExactCanDoAll", apart := false, narrowed := true }
def FnExactCanDoAllUptoSaid : Prop := fnExactCanDoAllUptoRow.holds Try.pinned (OpenSpec.upto fnExactCanDoAllSpec)

/-- 'laws.FnExactFirstLate', WHERE WHAT IT READS IS OF BULK AT MOST 1048576: true; the input reads as it did. -/
def fnExactFirstLateUptoRow : OpenClaim := { program := "ytplpbebpblalfaa", sum := "fb86fcb6e643c0e20cbc5a2cb28c8bbffa35be7bbad95189fcc3b6a75060dde1", func := "loop.example/g01064/laws.FnExactFirstLate", spec := "fnExactFirstLate", apart := false, narrowed := true }
def FnExactFirstLateUptoSaid : Prop := fnExactFirstLateUptoRow.holds Try.pinned (OpenSpec.upto fnExactFirstLateSpec)

/-- 'laws.FnExactBusySpan', WHERE WHAT IT READS IS OF BULK AT MOST 1048576: true; the input reads as it did. -/
def fnExactBusySpanUptoRow : OpenClaim := { program := "ytplpbebpblalfaa", sum := "fb86fcb6e643c0e20cbc5a2cb28c8bbffa35be7bbad95189fcc3b6a75060dde1", func := "loop.example/g01064/laws.FnExactBusySpan", spec := "fnExactBusySpan", apart := false, narrowed := true }
def FnExactBusySpanUptoSaid : Prop := fnExactBusySpanUptoRow.holds Try.pinned (OpenSpec.upto fnExactBusySpanSpec)

/-- 'laws.FnWorkDays', WHERE WHAT IT READS IS OF BULK AT MOST 1048576: true; the input reads as it did. -/
def fnWorkDaysUptoRow : OpenClaim := { program := "ytplpbebpblalfaa", sum := "fb86fcb6e643c0e20cbc5a2cb28c8bbffa35be7bbad95189fcc3b6a75060dde1", func := "loop.example/g01064/laws.FnWorkDays", spec := "fnWorkDays", apart := false, narrowed := true }
def FnWorkDaysUptoSaid : Prop := fnWorkDaysUptoRow.holds Try.pinned (OpenSpec.upto fnWorkDaysSpec)

/-- 'laws.FnExactWorkOn', WHERE WHAT IT READS IS OF BULK AT MOST 1048576: true; the input reads as it did. -/
def fnExactWorkOnUptoRow : OpenClaim := { program := "ytplpbebpblalfaa", sum := "fb86fcb6e643c0e20cbc5a2cb28c8bbffa35be7bbad95189fcc3b6a75060dde1", func := "loop.example/g01064/laws.FnExactWorkOn", spec := "fnExactWorkOn", apart := false, narrowed := true }
def FnExactWorkOnUptoSaid : Prop := fnExactWorkOnUptoRow.holds Try.pinned (OpenSpec.upto fnExactWorkOnSpec)

/-- 'laws.FnExactTakeOrder', WHERE WHAT IT READS IS OF BULK AT MOST 1048576: true; the input reads as it did. -/
def fnExactTakeOrderUptoRow : OpenClaim := { program := "ytplpbebpblalfaa", sum := "fb86fcb6e643c0e20cbc5a2cb28c8bbffa35be7bbad95189fcc3b6a75060dde1", func := "loop.example/g01064/laws.FnExactTakeOrder", spec := "fnExactTakeOrder", apart := false, narrowed := true }
def FnExactTakeOrderUptoSaid : Prop := fnExactTakeOrderUptoRow.holds Try.pinned (OpenSpec.upto fnExactTakeOrderSpec)

end Rows
end Go.Proofs.Ytplpbebpblalfaa
