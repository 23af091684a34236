/-
  No cell of these rows narrows 'for every input' (looked for: loops, veiled, ifaces, maps, wideKeys, modest, calm, conditions, laid).
  DERIVED. THE GIVEN ROWS OF THIS SEAT. 6 by the template 'for every input the law returns true; each argument reads behind the call as it read before'; 0 by the template 'total and deterministic' (their statements: YtcmcolgbkfadfaaTotals.lean).
  GIVEN WITH THE SEED: the statements are not yours to turn. If you find one false, say at which input.
  Laid BY PROGRAM, IN A SANDBOX (cutbox-rows.mjs): the forced cells as the released guide's own fill.sh prints them over the translation 8fba615f78a1d662… (all of the seat's roots in one cut). By AI agents, Wed Nov 11 2026. No macro, syntax, notation, axiom, sorry.
-/
import Derived.Test.YtcmcolgbkfadfaaChecked
import GoSem.Claim
import GoSem.ClaimJoined
import GoSem.ClaimMapViews
import Derived.JoinedTies
import Derived.KernelRfl
namespace Go.Proofs.Ytcmcolgbkfadfaa
/- THE CELL 'sum', in the pinned program and in every row, IS THE sha256 OF THE DUMP (.gsa) THAT YtcmcolgbkfadfaaProg.lean LOADS. Nothing in Lean hashes anything: it is a label: what it is worth is what the hold of that sum in a sandbox is worth. -/
noncomputable def Try.pinned : Pinned := { name := "ytcmcolgbkfadfaa", sum := "8fba615f78a1d662207881092f4042bf416f8c2534921b7a74df113351033798", checked := Try.checked }
namespace Rows
def none {H : Type} : Left H := { results := [], args := [] }

/-- 'laws.FnExactDropOlder': WHATEVER THE INPUT: true; the input reads as it did. -/
def fnExactDropOlderSpec : ChangeSpec := { name := "fnExactDropOlder", fn := fun _ => fun
  | [d1, d2] => { results := [.lit (.bool true)], args := [d1, d2] }
  | _ => none }
def fnExactDropOlderRow : OpenClaim := { program := "ytcmcolgbkfadfaa", sum := "8fba615f78a1d662207881092f4042bf416f8c2534921b7a74df113351033798", func := "loop.example/g01064/laws.FnExactDropOlder", spec := "fnExactDropOlder", inPlace := ["internal/bytealg.abigen_runtime_cmpstring"], apart := false }
def FnExactDropOlderSaid : Prop := fnExactDropOlderRow.holds Try.pinned (OpenSpec.ofChange fnExactDropOlderSpec)

/-- ITS FALSE NEIGHBOUR: 'it returns false'. Refute it at one input. -/
def fnExactDropOlderWrong : ChangeSpec := { name := "fnExactDropOlder", fn := fun _ => fun
  | [d1, d2] => { results := [.lit (.bool false)], args := [d1, d2] }
  | _ => none }
def FnExactDropOlderWrongFalsely : Prop := fnExactDropOlderRow.holds Try.pinned (OpenSpec.ofChange fnExactDropOlderWrong)

/-- 'laws.FnExactSortsOf': WHATEVER THE INPUT: true; the input reads as it did. -/
def fnExactSortsOfSpec : ChangeSpec := { name := "fnExactSortsOf", fn := fun _ => fun
  | [d] => { results := [.lit (.bool true)], args := [d] }
  | _ => none }
def fnExactSortsOfRow : OpenClaim := { program := "ytcmcolgbkfadfaa", sum := "8fba615f78a1d662207881092f4042bf416f8c2534921b7a74df113351033798", func := "loop.example/g01064/laws.FnExactSortsOf", spec := "fnExactSortsOf", inPlace := ["internal/bytealg.abigen_runtime_cmpstring"], apart := false }
def FnExactSortsOfSaid : Prop := fnExactSortsOfRow.holds Try.pinned (OpenSpec.ofChange fnExactSortsOfSpec)

/-- ITS FALSE NEIGHBOUR: 'it returns false'. Refute it at one input. -/
def fnExactSortsOfWrong : ChangeSpec := { name := "fnExactSortsOf", fn := fun _ => fun
  | [d] => { results := [.lit (.bool false)], args := [d] }
  | _ => none }
def FnExactSortsOfWrongFalsely : Prop := fnExactSortsOfRow.holds Try.pinned (OpenSpec.ofChange fnExactSortsOfWrong)

/-- 'laws.FnExactTakeOldest': WHATEVER THE INPUT: true; the input reads as it did. -/
def fnExactTakeOldestSpec : ChangeSpec := { name := "fnExactTakeOldest", fn := fun _ => fun
  | [d1, d2, d3] => { results := [.lit (.bool true)], args := [d1, d2, d3] }
  | _ => none }
def fnExactTakeOldestRow : OpenClaim := { program := "ytcmcolgbkfadfaa", sum := "8fba615f78a1d662207881092f4042bf416f8c2534921b7a74df113351033798", func := "loop.example/g01064/laws.FnExactTakeOldest", spec := "fnExactTakeOldest", inPlace := ["internal/bytealg.abigen_runtime_cmpstring"], apart := false }
def FnExactTakeOldestSaid : Prop := fnExactTakeOldestRow.holds Try.pinned (OpenSpec.ofChange fnExactTakeOldestSpec)

/-- ITS FALSE NEIGHBOUR: 'it returns false'. Refute it at one input. -/
def fnExactTakeOldestWrong : ChangeSpec := { name := "fnExactTakeOldest", fn := fun _ => fun
  | [d1, d2, d3] => { results := [.lit (.bool false)], args := [d1, d2, d3] }
  | _ => none }
def FnExactTakeOldestWrongFalsely : Prop := fnExactTakeOldestRow.holds Try.pinned (OpenSpec.ofChange fnExactTakeOldestWrong)

/-- 'laws.FnExactJoinHeaps': WHATEVER THE INPUT: true; the input reads as it did. -/
def fnExactJoinHeapsSpec : ChangeSpec := { name := "fnExactJoinHeaps", fn := fun _ => fun
  | [d1, d2] => { results := [.lit (.bool true)], args := [d1, d2] }
  | _ => none }
def fnExactJoinHeapsRow : OpenClaim := { program := "ytcmcolgbkfadfaa", sum := "8fba615f78a1d662207881092f4042bf416f8c2534921b7a74df113351033798", func := "loop.example/g01064/laws.FnExactJoinHeaps", spec := "fnExactJoinHeaps", inPlace := ["internal/bytealg.abigen_runtime_cmpstring", "slices.overlaps[loop.example/g01064/impl.Heap]"], unfollowed := true, recurses := true, apart := false }
def FnExactJoinHeapsSaid : Prop := fnExactJoinHeapsRow.holds Try.pinned (OpenSpec.ofChange fnExactJoinHeapsSpec)

/-- ITS FALSE NEIGHBOUR: 'it returns false'. Refute it at one input. -/
def fnExactJoinHeapsWrong : ChangeSpec := { name := "fnExactJoinHeaps", fn := fun _ => fun
  | [d1, d2] => { results := [.lit (.bool false)], args := [d1, d2] }
  | _ => none }
def FnExactJoinHeapsWrongFalsely : Prop := fnExactJoinHeapsRow.holds Try.pinned (OpenSpec.ofChange fnExactJoinHeapsWrong)

/-- 'laws.FnExactPutHeap': WHATEVER THE INPUT: true; the input reads as it did. -/
def fnExactPutHeapSpec : ChangeSpec := { name := "fnExactPutHeap", fn := fun _ => fun
  | [d1, d2] => { results := [.lit (.bool true)], args := [d1, d2] }
  | _ => none }
def fnExactPutHeapRow : OpenClaim := { program := "ytcmcolgbkfadfaa", sum := "8fba615f78a1d662207881092f4042bf416f8c2534921b7a74df113351033798", func := "loop.example/g01064/laws.FnExactPutHeap", spec := "fnExactPutHeap", inPlace := ["internal/bytealg.abigen_runtime_cmpstring", "slices.overlaps[loop.example/g01064/impl.Heap]"], unfollowed := true, recurses := true, apart := false }
def FnExactPutHeapSaid : Prop := fnExactPutHeapRow.holds Try.pinned (OpenSpec.ofChange fnExactPutHeapSpec)

/-- ITS FALSE NEIGHBOUR: 'it returns false'. Refute it at one input. -/
def fnExactPutHeapWrong : ChangeSpec := { name := "fnExactPutHeap", fn := fun _ => fun
  | [d1, d2] => { results := [.lit (.bool false)], args := [d1, d2] }
  | _ => none }
def FnExactPutHeapWrongFalsely : Prop := fnExactPutHeapRow.holds Try.pinned (OpenSpec.ofChange fnExactPutHeapWrong)

/-- 'laws.FnHeapSums': WHATEVER THE INPUT: true; the input reads as it did. -/
def fnHeapSumsSpec : ChangeSpec := { name := "fnHeapSums", fn := fun _ => fun
  | [d1, d2] => { results := [.lit (.bool true)], args := [d1, d2] }
  | _ => none }
def fnHeapSumsRow : OpenClaim := { program := "ytcmcolgbkfadfaa", sum := "8fba615f78a1d662207881092f4042bf416f8c2534921b7a74df113351033798", func := "loop.example/g01064/laws.FnHeapSums", spec := "fnHeapSums", inPlace := ["internal/bytealg.abigen_runtime_cmpstring", "slices.overlaps[loop.example/g01064/impl.Heap]"], unfollowed := true, recurses := true, apart := false }
def FnHeapSumsSaid : Prop := fnHeapSumsRow.holds Try.pinned (OpenSpec.ofChange fnHeapSumsSpec)

/-- ITS FALSE NEIGHBOUR: 'it returns false'. Refute it at one input. -/
def fnHeapSumsWrong : ChangeSpec := { name := "fnHeapSums", fn := fun _ => fun
  | [d1, d2] => { results := [.lit (.bool false)], args := [d1, d2] }
  | _ => none }
def FnHeapSumsWrongFalsely : Prop := fnHeapSumsRow.holds Try.pinned (OpenSpec.ofChange fnHeapSumsWrong)

/- THE SECOND FORM. 'bulk': how many values and letters a reading holds, each counted each time it is reached (what is shared counts as often as it is met; a slice's spare places count too). A statement '..UptoSaid' is the law's where the arguments, and the package variables that the reading takes, are together of bulk at most 1048576: NARROWER than '..Said'. Prove '..Said' where nothing that the law and all that it calls make is longer than what came in: it says more and counts as full. Else prove '..UptoSaid'. A law counts once. -/
mutual
def uptoBulk {H : Type} : DataW H → Nat
  | .lit (.string bytes) => bytes.length + 1
  | .lit _ => 1
  | .nil => 1
  | .ptr d => uptoBulk d + 1
  | .slice elems spare => uptoBulkAll elems + uptoBulkAll spare + 1
  | .agg parts => uptoBulkAll parts + 1
  | .iface _ d => uptoBulk d + 1
  | .map entries => uptoBulkEntries entries + 1
  | .held _ => 1
def uptoBulkAll {H : Type} : List (DataW H) → Nat
  | [] => 0
  | d :: r => uptoBulk d + uptoBulkAll r
def uptoBulkEntries {H : Type} : List (Lit × DataW H) → Nat
  | [] => 0
  | x :: r => uptoBulkEntry x + uptoBulkEntries r
def uptoBulkEntry {H : Type} : Lit × DataW H → Nat
  | (.string bytes, d) => bytes.length + uptoBulk d + 1
  | (_, d) => uptoBulk d + 1
 end
def uptoSmall : (H : Type) → List (DataW H) → Bool := fun _ ds => decide (uptoBulkAll ds ≤ 1048576)
def OpenSpec.upto (s : _root_.Go.ChangeSpec) : _root_.Go.OpenSpec := { _root_.Go.OpenSpec.ofChange s with cond := some uptoSmall }

/-- 'laws.FnExactDropOlder', WHERE WHAT IT READS IS OF BULK AT MOST 1048576: true; the input reads as it did. -/
def fnExactDropOlderUptoRow : OpenClaim := { program := "ytcmcolgbkfadfaa", sum := "8fba615f78a1d662207881092f4042bf416f8c2534921b7a74df113351033798", func := "loop.example/g01064/laws.FnExactDropOlder", spec := "fnExactDropOlder", inPlace := ["internal/bytealg.abigen_runtime_cmpstring"], apart := false, narrowed := true }
def FnExactDropOlderUptoSaid : Prop := fnExactDropOlderUptoRow.holds Try.pinned (OpenSpec.upto fnExactDropOlderSpec)

/-- 'laws.FnExactSortsOf', WHERE WHAT IT READS IS OF BULK AT MOST 1048576: true; the input reads as it did. -/
def fnExactSortsOfUptoRow : OpenClaim := { program := "ytcmcolgbkfadfaa", sum := "8fba615f78a1d662207881092f4042bf416f8c2534921b7a74df113351033798", func := "loop.example/g01064/laws.FnExactSortsOf", spec := "fnExactSortsOf", inPlace := ["internal/bytealg.abigen_runtime_cmpstring"], apart := false, narrowed := true }
def FnExactSortsOfUptoSaid : Prop := fnExactSortsOfUptoRow.holds Try.pinned (OpenSpec.upto fnExactSortsOfSpec)

/-- 'laws.FnExactTakeOldest', WHERE WHAT IT READS IS OF BULK AT MOST 1048576: true; the input reads as it did. -/
def fnExactTakeOldestUptoRow : OpenClaim := { program := "ytcmcolgbkfadfaa", sum := "8fba615f78a1d662207881092f4042bf416f8c2534921b7a74df113351033798", func := "loop.example/g01064/laws.FnExactTakeOldest", spec := "fnExactTakeOldest", inPlace := ["internal/bytealg.abigen_runtime_cmpstring"], apart := false, narrowed := true }
def FnExactTakeOldestUptoSaid : Prop := fnExactTakeOldestUptoRow.holds Try.pinned (OpenSpec.upto fnExactTakeOldestSpec)

/-- 'laws.FnExactJoinHeaps', WHERE WHAT IT READS IS OF BULK AT MOST 1048576: true; the input reads as it did. -/
def fnExactJoinHeapsUptoRow : OpenClaim := { program := "ytcmcolgbkfadfaa", sum := "8fba615f78a1d662207881092f4042bf416f8c2534921b7a74df113351033798", func := "loop.example/g01064/laws.FnExactJoinHeaps", spec := "fnExactJoinHeaps", inPlace := ["internal/bytealg.abigen_runtime_cmpstring", "slices.overlaps[loop.example/g01064/impl.Heap]"], unfollowed := true, recurses := true, apart := false, narrowed := true }
def FnExactJoinHeapsUptoSaid : Prop := fnExactJoinHeapsUptoRow.holds Try.pinned (OpenSpec.upto fnExactJoinHeapsSpec)

/-- 'laws.FnExactPutHeap', WHERE WHAT IT READS IS OF BULK AT MOST 1048576: true; the input reads as it did. -/
def fnExactPutHeapUptoRow : OpenClaim := { program := "ytcmcolgbkfadfaa", sum := "8fba615f78a1d662207881092f4042bf416f8c2534921b7a74df113351033798", func := "loop.example/g01064/laws.FnExactPutHeap", spec := "fnExactPutHeap", inPlace := ["internal/bytealg.abigen_runtime_cmpstring", "slices.overlaps[loop.example/g01064/impl.Heap]"], unfollowed := true, recurses := true, apart := false, narrowed := true }
def FnExactPutHeapUptoSaid : Prop := fnExactPutHeapUptoRow.holds Try.pinned (OpenSpec.upto fnExactPutHeapSpec)

/-- 'laws.FnHeapSums', WHERE WHAT IT READS IS OF BULK AT MOST 1048576: true; the input reads as it did. -/
def fnHeapSumsUptoRow : OpenClaim := { program := "ytcmcolgbkfadfaa", sum := "8fba615f78a1d662207881092f4042bf416f8c2534921b7a74df113351033798", func := "loop.example/g01064/laws.FnHeapSums", spec := "fnHeapSums", inPlace := ["internal/bytealg.abigen_runtime_cmpstring", "slices.overlaps[loop.example/g01064/impl.Heap]"], unfollowed := true, recurses := true, apart := false, narrowed := true }
def FnHeapSumsUptoSaid : Prop := fnHeapSumsUptoRow.holds Try.pinned (OpenSpec.upto fnHeapSumsSpec)

end Rows
end Go.Proofs.Ytcmcolgbkfadfaa
