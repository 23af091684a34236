/-
  No cell of these rows narrows 'for every input' (looked for: loops, veiled, ifaces, maps, wideKeys, modest, calm, conditions, laid).
  DERIVED. THE GIVEN ROWS OF THIS SEAT. 3 by the template 'for every input the law returns true; each argument reads behind the call as it read before'; 0 by the template 'total and deterministic' (their statements: YtpmldpegjnpoaaaTotals.lean).
  GIVEN WITH THE SEED: the statements are not yours to turn. If you find one false, say at which input.
  Laid BY PROGRAM, IN A SANDBOX (cutbox-rows.mjs): the forced cells as the released guide's own fill.sh prints them over the translation cbec670cd1e96949… (all of the seat's roots in one cut). By AI agents, Wed Nov 11 2026. No macro, syntax, notation, axiom, sorry.
-/
import Derived.Test.YtpmldpegjnpoaaaChecked
import GoSem.Claim
import GoSem.ClaimJoined
import GoSem.ClaimMapViews
import Derived.JoinedTies
import Derived.KernelRfl
namespace Go.Proofs.Ytpmldpegjnpoaaa
/- THE CELL 'sum', in the pinned program and in every row, IS THE sha256 OF THE DUMP (.gsa) THAT YtpmldpegjnpoaaaProg.lean LOADS. Nothing in Lean hashes anything: it is a label: what it is worth is what the hold of that sum in a sandbox is worth. -/
noncomputable def Try.pinned : Pinned := { name := "ytpmldpegjnpoaaa", sum := "cbec670cd1e96949e2e698c76e0ad70b1b9c1c776b76d9dd37f5a8ab30b850ca", checked := Try.checked }
namespace Rows
def none {H : Type} : Left H := { results := [], args := [] }

/-- 'laws.FnExactPutHeap': WHATEVER THE INPUT: true; the input reads as it did. -/
def fnExactPutHeapSpec : ChangeSpec := { name := "fnExactPutHeap", fn := fun _ => fun
  | [d1, d2] => { results := [.lit (.bool true)], args := [d1, d2] }
  | _ => none }
def fnExactPutHeapRow : OpenClaim := { program := "ytpmldpegjnpoaaa", sum := "cbec670cd1e96949e2e698c76e0ad70b1b9c1c776b76d9dd37f5a8ab30b850ca", func := "loop.example/g01064/laws.FnExactPutHeap", spec := "fnExactPutHeap", inPlace := ["internal/bytealg.abigen_runtime_cmpstring", "slices.overlaps[loop.example/g01064/impl.Heap]"], unfollowed := true, recurses := true, apart := false }
def FnExactPutHeapSaid : Prop := fnExactPutHeapRow.holds Try.pinned (OpenSpec.ofChange fnExactPutHeapSpec)

/-- ITS FALSE NEIGHBOUR: 'it returns false'. Refute it at one input. -/
def fnExactPutHeapWrong : ChangeSpec := { name := "fnExactPutHeap", fn := fun _ => fun
  | [d1, d2] => { results := [.lit (.bool false)], args := [d1, d2] }
  | _ => none }
def FnExactPutHeapWrongFalsely : Prop := fnExactPutHeapRow.holds Try.pinned (OpenSpec.ofChange fnExactPutHeapWrong)

/-- 'laws.FnExactJoinHeaps': WHATEVER THE INPUT: true; the input reads as it did. -/
def fnExactJoinHeapsSpec : ChangeSpec := { name := "fnExactJoinHeaps", fn := fun _ => fun
  | [d1, d2] => { results := [.lit (.bool true)], args := [d1, d2] }
  | _ => none }
def fnExactJoinHeapsRow : OpenClaim := { program := "ytpmldpegjnpoaaa", sum := "cbec670cd1e96949e2e698c76e0ad70b1b9c1c776b76d9dd37f5a8ab30b850ca", func := "loop.example/g01064/laws.FnExactJoinHeaps", spec := "fnExactJoinHeaps", inPlace := ["internal/bytealg.abigen_runtime_cmpstring", "slices.overlaps[loop.example/g01064/impl.Heap]"], unfollowed := true, recurses := true, apart := false }
def FnExactJoinHeapsSaid : Prop := fnExactJoinHeapsRow.holds Try.pinned (OpenSpec.ofChange fnExactJoinHeapsSpec)

/-- ITS FALSE NEIGHBOUR: 'it returns false'. Refute it at one input. -/
def fnExactJoinHeapsWrong : ChangeSpec := { name := "fnExactJoinHeaps", fn := fun _ => fun
  | [d1, d2] => { results := [.lit (.bool false)], args := [d1, d2] }
  | _ => none }
def FnExactJoinHeapsWrongFalsely : Prop := fnExactJoinHeapsRow.holds Try.pinned (OpenSpec.ofChange fnExactJoinHeapsWrong)

/-- 'laws.FnHeapSums': WHATEVER THE INPUT: true; the input reads as it did. -/
def fnHeapSumsSpec : ChangeSpec := { name := "fnHeapSums", fn := fun _ => fun
  | [d1, d2] => { results := [.lit (.bool true)], args := [d1, d2] }
  | _ => none }
def fnHeapSumsRow : OpenClaim := { program := "ytpmldpegjnpoaaa", sum := "cbec670cd1e96949e2e698c76e0ad70b1b9c1c776b76d9dd37f5a8ab30b850ca", func := "loop.example/g01064/laws.FnHeapSums", spec := "fnHeapSums", inPlace := ["internal/bytealg.abigen_runtime_cmpstring", "slices.overlaps[loop.example/g01064/impl.Heap]"], unfollowed := true, recurses := true, apart := false }
def FnHeapSumsSaid : Prop := fnHeapSumsRow.holds Try.pinned (OpenSpec.ofChange fnHeapSumsSpec)

/-- ITS FALSE NEIGHBOUR: 'it returns false'. Refute it at one input. -/
def fnHeapSumsWrong : ChangeSpec := { name := "fnHeapSums", fn := fun _ => fun
  | [d1, d2] => { results := [.lit (.bool false)], args := [d1, d2] }
  | _ => none }
def FnHeapSumsWrongFalsely : Prop := fnHeapSumsRow.holds Try.pinned (OpenSpec.ofChange fnHeapSumsWrong)

/- THE SECOND FORM. 'bulk': how many values and letters a reading holds, each counted each time it is reached (what is shared counts as often as it is met; a slice's spare places count too). A statement '..UptoSaid' is the law's where the arguments, and the package variables that the reading takes, are together of bulk at most 1048576: NARROWER than '..Said'. Prove '..Said' where nothing that the law and all that it calls make is longer than what came in: it says more and counts as full. Else prove '..UptoSaid'. A law counts once. -/
mutual
def uptoBulk {H : Type} : DataW H → Nat
  | .lit (.string bytes) => bytes.length + 1
  | .lit _ => 1
  | .nil => 1
  | .ptr d => uptoBulk d + 1
  | .slice elems spare => uptoBulkAll elems + uptoBulkAll spare + 1
  | .agg parts => uptoBulkAll parts + 1
  | .iface _ d => uptoBulk d + 1
  | .map entries => uptoBulkEntries entries + 1
  | .held _ => 1
def uptoBulkAll {H : Type} : List (DataW H) → Nat
  | [] => 0
  | d :: r => uptoBulk d + uptoBulkAll r
def uptoBulkEntries {H : Type} : List (Lit × DataW H) → Nat
  | [] => 0
  | x :: r => uptoBulkEntry x + uptoBulkEntries r
def uptoBulkEntry {H : Type} : Lit × DataW H → Nat
  | (.string bytes, d) => bytes.length + uptoBulk d + 1
  | (_, d) => uptoBulk d + 1
 end
def uptoSmall : (H : Type) → List (DataW H) → Bool := fun _ ds => decide (uptoBulkAll ds ≤ 1048576)
def OpenSpec.upto (s : _root_.Go.ChangeSpec) : _root_.Go.OpenSpec := { _root_.Go.OpenSpec.ofChange s with cond := some uptoSmall }

/-- 'laws.FnExactPutHeap', WHERE WHAT IT READS IS OF BULK AT MOST 1048576: true; the input reads as it did. -/
def fnExactPutHeapUptoRow : OpenClaim := { program := "ytpmldpegjnpoaaa", sum := "cbec670cd1e96949e2e698c76e0ad70b1b9c1c776b76d9dd37f5a8ab30b850ca", func := "loop.example/g01064/laws.FnExactPutHeap", spec := "fnExactPutHeap", inPlace := ["internal/bytealg.abigen_runtime_cmpstring", "slices.overlaps[loop.example/g01064/impl.Heap]"], unfollowed := true, recurses := true, apart := false, narrowed := true }
def FnExactPutHeapUptoSaid : Prop := fnExactPutHeapUptoRow.holds Try.pinned (OpenSpec.upto fnExactPutHeapSpec)

/-- 'laws.FnExactJoinHeaps', WHERE WHAT IT READS IS OF BULK AT MOST 1048576: true; the input reads as it did. -/
def fnExactJoinHeapsUptoRow : OpenClaim := { program := "ytpmldpegjnpoaaa", sum := "cbec670cd1e96949e2e698c76e0ad70b1b9c1c776b76d9dd37f5a8ab30b850ca", func := "loop.example/g01064/laws.FnExactJoinHeaps", spec := "fnExactJoinHeaps", inPlace := ["internal/bytealg.abigen_runtime_cmpstring", "slices.overlaps[loop.example/g01064/impl.Heap]"], unfollowed := true, recurses := true, apart := false, narrowed := true }
def FnExactJoinHeapsUptoSaid : Prop := fnExactJoinHeapsUptoRow.holds Try.pinned (OpenSpec.upto fnExactJoinHeapsSpec)

/-- 'laws.FnHeapSums', WHERE WHAT IT READS IS OF BULK AT MOST 1048576: true; the input reads as it did. -/
def fnHeapSumsUptoRow : OpenClaim := { program := "ytpmldpegjnpoaaa", sum := "cbec670cd1e96949e2e698c76e0ad70b1b9c1c776b76d9dd37f5a8ab30b850ca", func := "loop.example/g01064/laws.FnHeapSums", spec := "fnHeapSums", inPlace := ["internal/bytealg.abigen_runtime_cmpstring", "slices.overlaps[loop.example/g01064/impl.Heap]"], unfollowed := true, recurses := true, apart := false, narrowed := true }
def FnHeapSumsUptoSaid : Prop := fnHeapSumsUptoRow.holds Try.pinned (OpenSpec.upto fnHeapSumsSpec)

end Rows
end Go.Proofs.Ytpmldpegjnpoaaa
