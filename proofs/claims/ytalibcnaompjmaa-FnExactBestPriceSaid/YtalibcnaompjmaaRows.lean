/-
  No cell of these rows narrows 'for every input' (looked for: loops, veiled, ifaces, maps, wideKeys, modest, calm, conditions, laid).
  DERIVED. THE GIVEN ROWS OF THIS SEAT. 11 by the template 'for every input the law returns true; each argument reads behind the call as it read before'; 0 by the template 'total and deterministic' (their statements: YtalibcnaompjmaaTotals.lean).
  GIVEN WITH THE SEED: the statements are not yours to turn. If you find one false, say at which input.
  Laid BY PROGRAM, IN A SANDBOX (cutbox-rows.mjs): the forced cells as the released guide's own fill.sh prints them over the translation fd7aa4df9c1c50dc… (all of the seat's roots in one cut). By AI agents, Wed Nov 11 2026. No macro, syntax, notation, axiom, sorry.
-/
import Derived.Test.YtalibcnaompjmaaChecked
import GoSem.Claim
import GoSem.ClaimJoined
import GoSem.ClaimMapViews
import Derived.JoinedTies
import Derived.KernelRfl
namespace Go.Proofs.Ytalibcnaompjmaa
/- THE CELL 'sum', in the pinned program and in every row, IS THE sha256 OF THE DUMP (.gsa) THAT YtalibcnaompjmaaProg.lean LOADS. Nothing in Lean hashes anything: it is a label: what it is worth is what the hold of that sum in a sandbox is worth. -/
noncomputable def Try.pinned : Pinned := { name := "ytalibcnaompjmaa", sum := "fd7aa4df9c1c50dc6e249740558e43088e35c48318ae2a071ec34778733e8236", checked := Try.checked }
namespace Rows
def none {H : Type} : Left H := { results := [], args := [] }

/-- 'laws.FnExactDozenPrice': WHATEVER THE INPUT: true; the input reads as it did. -/
def fnExactDozenPriceSpec : ChangeSpec := { name := "fnExactDozenPrice", fn := fun _ => fun
  | [d1, d2] => { results := [.lit (.bool true)], args := [d1, d2] }
  | _ => none }
def fnExactDozenPriceRow : OpenClaim := { program := "ytalibcnaompjmaa", sum := "fd7aa4df9c1c50dc6e249740558e43088e35c48318ae2a071ec34778733e8236", func := "loop.example/g01064/laws.FnExactDozenPrice", spec := "fnExactDozenPrice", apart := false }
def FnExactDozenPriceSaid : Prop := fnExactDozenPriceRow.holds Try.pinned (OpenSpec.ofChange fnExactDozenPriceSpec)

/-- ITS FALSE NEIGHBOUR: 'it returns false'. Refute it at one input. -/
def fnExactDozenPriceWrong : ChangeSpec := { name := "fnExactDozenPrice", fn := fun _ => fun
  | [d1, d2] => { results := [.lit (.bool false)], args := [d1, d2] }
  | _ => none }
def FnExactDozenPriceWrongFalsely : Prop := fnExactDozenPriceRow.holds Try.pinned (OpenSpec.ofChange fnExactDozenPriceWrong)

/-- 'laws.FnExactRoundPrice': WHATEVER THE INPUT: true; the input reads as it did. -/
def fnExactRoundPriceSpec : ChangeSpec := { name := "fnExactRoundPrice", fn := fun _ => fun
  | [d1, d2] => { results := [.lit (.bool true)], args := [d1, d2] }
  | _ => none }
def fnExactRoundPriceRow : OpenClaim := { program := "ytalibcnaompjmaa", sum := "fd7aa4df9c1c50dc6e249740558e43088e35c48318ae2a071ec34778733e8236", func := "loop.example/g01064/laws.FnExactRoundPrice", spec := "fnExactRoundPrice", apart := false }
def FnExactRoundPriceSaid : Prop := fnExactRoundPriceRow.holds Try.pinned (OpenSpec.ofChange fnExactRoundPriceSpec)

/-- ITS FALSE NEIGHBOUR: 'it returns false'. Refute it at one input. -/
def fnExactRoundPriceWrong : ChangeSpec := { name := "fnExactRoundPrice", fn := fun _ => fun
  | [d1, d2] => { results := [.lit (.bool false)], args := [d1, d2] }
  | _ => none }
def FnExactRoundPriceWrongFalsely : Prop := fnExactRoundPriceRow.holds Try.pinned (OpenSpec.ofChange fnExactRoundPriceWrong)

/-- 'laws.FnExactBreakEven': WHATEVER THE INPUT: true; the input reads as it did. -/
def fnExactBreakEvenSpec : ChangeSpec := { name := "fnExactBreakEven", fn := fun _ => fun
  | [d1, d2, d3] => { results := [.lit (.bool true)], args := [d1, d2, d3] }
  | _ => none }
def fnExactBreakEvenRow : OpenClaim := { program := "ytalibcnaompjmaa", sum := "fd7aa4df9c1c50dc6e249740558e43088e35c48318ae2a071ec34778733e8236", func := "loop.example/g01064/laws.FnExactBreakEven", spec := "fnExactBreakEven", apart := false }
def FnExactBreakEvenSaid : Prop := fnExactBreakEvenRow.holds Try.pinned (OpenSpec.ofChange fnExactBreakEvenSpec)

/-- ITS FALSE NEIGHBOUR: 'it returns false'. Refute it at one input. -/
def fnExactBreakEvenWrong : ChangeSpec := { name := "fnExactBreakEven", fn := fun _ => fun
  | [d1, d2, d3] => { results := [.lit (.bool false)], args := [d1, d2, d3] }
  | _ => none }
def FnExactBreakEvenWrongFalsely : Prop := fnExactBreakEvenRow.holds Try.pinned (OpenSpec.ofChange fnExactBreakEvenWrong)

/-- 'laws.FnExactValidCosts': WHATEVER THE INPUT: true; the input reads as it did. -/
def fnExactValidCostsSpec : ChangeSpec := { name := "fnExactValidCosts", fn := fun _ => fun
  | [d] => { results := [.lit (.bool true)], args := [d] }
  | _ => none }
def fnExactValidCostsRow : OpenClaim := { program := "ytalibcnaompjmaa", sum := "fd7aa4df9c1c50dc6e249740558e43088e35c48318ae2a071ec34778733e8236", func := "loop.example/g01064/laws.FnExactValidCosts", spec := "fnExactValidCosts", apart := false }
def FnExactValidCostsSaid : Prop := fnExactValidCostsRow.holds Try.pinned (OpenSpec.ofChange fnExactValidCostsSpec)

/-- ITS FALSE NEIGHBOUR: 'it returns false'. Refute it at one input. -/
def fnExactValidCostsWrong : ChangeSpec := { name := "fnExactValidCosts", fn := fun _ => fun
  | [d] => { results := [.lit (.bool false)], args := [d] }
  | _ => none }
def FnExactValidCostsWrongFalsely : Prop := fnExactValidCostsRow.holds Try.pinned (OpenSpec.ofChange fnExactValidCostsWrong)

/-- 'laws.FnExactBestPrice': WHATEVER THE INPUT: true; the input reads as it did. -/
def fnExactBestPriceSpec : ChangeSpec := { name := "fnExactBestPrice", fn := fun _ => fun
  | [d1, d2, d3] => { results := [.lit (.bool true)], args := [d1, d2, d3] }
  | _ => none }
def fnExactBestPriceRow : OpenClaim := { program := "ytalibcnaompjmaa", sum := "fd7aa4df9c1c50dc6e249740558e43088e35c48318ae2a071ec34778733e8236", func := "loop.example/g01064/laws.FnExactBestPrice", spec := "fnExactBestPrice", apart := false }
def FnExactBestPriceSaid : Prop := fnExactBestPriceRow.holds Try.pinned (OpenSpec.ofChange fnExactBestPriceSpec)

/-- ITS FALSE NEIGHBOUR: 'it returns false'. Refute it at one input. -/
def fnExactBestPriceWrong : ChangeSpec := { name := "fnExactBestPrice", fn := fun _ => fun
  | [d1, d2, d3] => { results := [.lit (.bool false)], args := [d1, d2, d3] }
  | _ => none }
def FnExactBestPriceWrongFalsely : Prop := fnExactBestPriceRow.holds Try.pinned (OpenSpec.ofChange fnExactBestPriceWrong)

/-- 'laws.FnExactDearestCost': WHATEVER THE INPUT: true; the input reads as it did. -/
def fnExactDearestCostSpec : ChangeSpec := { name := "fnExactDearestCost", fn := fun _ => fun
  | [d] => { results := [.lit (.bool true)], args := [d] }
  | _ => none }
def fnExactDearestCostRow : OpenClaim := { program := "ytalibcnaompjmaa", sum := "fd7aa4df9c1c50dc6e249740558e43088e35c48318ae2a071ec34778733e8236", func := "loop.example/g01064/laws.FnExactDearestCost", spec := "fnExactDearestCost", apart := false }
def FnExactDearestCostSaid : Prop := fnExactDearestCostRow.holds Try.pinned (OpenSpec.ofChange fnExactDearestCostSpec)

/-- ITS FALSE NEIGHBOUR: 'it returns false'. Refute it at one input. -/
def fnExactDearestCostWrong : ChangeSpec := { name := "fnExactDearestCost", fn := fun _ => fun
  | [d] => { results := [.lit (.bool false)], args := [d] }
  | _ => none }
def FnExactDearestCostWrongFalsely : Prop := fnExactDearestCostRow.holds Try.pinned (OpenSpec.ofChange fnExactDearestCostWrong)

/-- 'laws.FnExactCostOf': WHATEVER THE INPUT: true; the input reads as it did. -/
def fnExactCostOfSpec : ChangeSpec := { name := "fnExactCostOf", fn := fun _ => fun
  | [d] => { results := [.lit (.bool true)], args := [d] }
  | _ => none }
def fnExactCostOfRow : OpenClaim := { program := "ytalibcnaompjmaa", sum := "fd7aa4df9c1c50dc6e249740558e43088e35c48318ae2a071ec34778733e8236", func := "loop.example/g01064/laws.FnExactCostOf", spec := "fnExactCostOf", apart := false }
def FnExactCostOfSaid : Prop := fnExactCostOfRow.holds Try.pinned (OpenSpec.ofChange fnExactCostOfSpec)

/-- ITS FALSE NEIGHBOUR: 'it returns false'. Refute it at one input. -/
def fnExactCostOfWrong : ChangeSpec := { name := "fnExactCostOf", fn := fun _ => fun
  | [d] => { results := [.lit (.bool false)], args := [d] }
  | _ => none }
def FnExactCostOfWrongFalsely : Prop := fnExactCostOfRow.holds Try.pinned (OpenSpec.ofChange fnExactCostOfWrong)

/-- 'laws.FnExactPriceWith': WHATEVER THE INPUT: true; the input reads as it did. -/
def fnExactPriceWithSpec : ChangeSpec := { name := "fnExactPriceWith", fn := fun _ => fun
  | [d1, d2] => { results := [.lit (.bool true)], args := [d1, d2] }
  | _ => none }
def fnExactPriceWithRow : OpenClaim := { program := "ytalibcnaompjmaa", sum := "fd7aa4df9c1c50dc6e249740558e43088e35c48318ae2a071ec34778733e8236", func := "loop.example/g01064/laws.FnExactPriceWith", spec := "fnExactPriceWith", apart := false }
def FnExactPriceWithSaid : Prop := fnExactPriceWithRow.holds Try.pinned (OpenSpec.ofChange fnExactPriceWithSpec)

/-- ITS FALSE NEIGHBOUR: 'it returns false'. Refute it at one input. -/
def fnExactPriceWithWrong : ChangeSpec := { name := "fnExactPriceWith", fn := fun _ => fun
  | [d1, d2] => { results := [.lit (.bool false)], args := [d1, d2] }
  | _ => none }
def FnExactPriceWithWrongFalsely : Prop := fnExactPriceWithRow.holds Try.pinned (OpenSpec.ofChange fnExactPriceWithWrong)

/-- 'laws.FnExactProfitOf': WHATEVER THE INPUT: true; the input reads as it did. -/
def fnExactProfitOfSpec : ChangeSpec := { name := "fnExactProfitOf", fn := fun _ => fun
  | [d1, d2] => { results := [.lit (.bool true)], args := [d1, d2] }
  | _ => none }
def fnExactProfitOfRow : OpenClaim := { program := "ytalibcnaompjmaa", sum := "fd7aa4df9c1c50dc6e249740558e43088e35c48318ae2a071ec34778733e8236", func := "loop.example/g01064/laws.FnExactProfitOf", spec := "fnExactProfitOf", apart := false }
def FnExactProfitOfSaid : Prop := fnExactProfitOfRow.holds Try.pinned (OpenSpec.ofChange fnExactProfitOfSpec)

/-- ITS FALSE NEIGHBOUR: 'it returns false'. Refute it at one input. -/
def fnExactProfitOfWrong : ChangeSpec := { name := "fnExactProfitOf", fn := fun _ => fun
  | [d1, d2] => { results := [.lit (.bool false)], args := [d1, d2] }
  | _ => none }
def FnExactProfitOfWrongFalsely : Prop := fnExactProfitOfRow.holds Try.pinned (OpenSpec.ofChange fnExactProfitOfWrong)

/-- 'laws.FnSales': WHATEVER THE INPUT: true; the input reads as it did. -/
def fnSalesSpec : ChangeSpec := { name := "fnSales", fn := fun _ => fun
  | [d] => { results := [.lit (.bool true)], args := [d] }
  | _ => none }
def fnSalesRow : OpenClaim := { program := "ytalibcnaompjmaa", sum := "fd7aa4df9c1c50dc6e249740558e43088e35c48318ae2a071ec34778733e8236", func := "loop.example/g01064/laws.FnSales", spec := "fnSales", apart := false }
def FnSalesSaid : Prop := fnSalesRow.holds Try.pinned (OpenSpec.ofChange fnSalesSpec)

/-- ITS FALSE NEIGHBOUR: 'it returns false'. Refute it at one input. -/
def fnSalesWrong : ChangeSpec := { name := "fnSales", fn := fun _ => fun
  | [d] => { results := [.lit (.bool false)], args := [d] }
  | _ => none }
def FnSalesWrongFalsely : Prop := fnSalesRow.holds Try.pinned (OpenSpec.ofChange fnSalesWrong)

/-- 'laws.FnCosts': WHATEVER THE INPUT: true; the input reads as it did. -/
def fnCostsSpec : ChangeSpec := { name := "fnCosts", fn := fun _ => fun
  | [d] => { results := [.lit (.bool true)], args := [d] }
  | _ => none }
def fnCostsRow : OpenClaim := { program := "ytalibcnaompjmaa", sum := "fd7aa4df9c1c50dc6e249740558e43088e35c48318ae2a071ec34778733e8236", func := "loop.example/g01064/laws.FnCosts", spec := "fnCosts", apart := false }
def FnCostsSaid : Prop := fnCostsRow.holds Try.pinned (OpenSpec.ofChange fnCostsSpec)

/-- ITS FALSE NEIGHBOUR: 'it returns false'. Refute it at one input. -/
def fnCostsWrong : ChangeSpec := { name := "fnCosts", fn := fun _ => fun
  | [d] => { results := [.lit (.bool false)], args := [d] }
  | _ => none }
def FnCostsWrongFalsely : Prop := fnCostsRow.holds Try.pinned (OpenSpec.ofChange fnCostsWrong)

/- THE SECOND FORM. 'bulk': how many values and letters a reading holds, each counted each time it is reached (what is shared counts as often as it is met; a slice's spare places count too). A statement '..UptoSaid' is the law's where the arguments, and the package variables that the reading takes, are together of bulk at most 1048576: NARROWER than '..Said'. Prove '..Said' where nothing that the law and all that it calls make is longer than what came in: it says more and counts as full. Else prove '..UptoSaid'. A law counts once. -/
mutual
def uptoBulk {H : Type} : DataW H → Nat
  | .lit (.string bytes) => bytes.length + 1
  | .lit _ => 1
  | .nil => 1
  | .ptr d => uptoBulk d + 1
  | .slice elems spare => uptoBulkAll elems + uptoBulkAll spare + 1
  | .agg parts => uptoBulkAll parts + 1
  | .iface _ d => uptoBulk d + 1
  | .map entries => uptoBulkEntries entries + 1
  | .held _ => 1
def uptoBulkAll {H : Type} : List (DataW H) → Nat
  | [] => 0
  | d :: r => uptoBulk d + uptoBulkAll r
def uptoBulkEntries {H : Type} : List (Lit × DataW H) → Nat
  | [] => 0
  | x :: r => uptoBulkEntry x + uptoBulkEntries r
def uptoBulkEntry {H : Type} : Lit × DataW H → Nat
  | (.string bytes, d) => bytes.length + uptoBulk d + 1
  | (_, d) => uptoBulk d + 1
 end
def uptoSmall : (H : Type) → List (DataW H) → Bool := fun _ ds => decide (uptoBulkAll ds ≤ 1048576)
def OpenSpec.upto (s : _root_.Go.ChangeSpec) : _root_.Go.OpenSpec := { _root_.Go.OpenSpec.ofChange s with cond := some uptoSmall }

/-- 'laws.FnExactDozenPrice', WHERE WHAT IT READS IS OF BULK AT MOST 1048576: true; the input reads as it did. -/
def fnExactDozenPriceUptoRow : OpenClaim := { program := "ytalibcnaompjmaa", sum := "fd7aa4df9c1c50dc6e249740558e43088e35c48318ae2a071ec34778733e8236", func := "loop.example/g01064/laws.FnExactDozenPrice", spec := "fnExactDozenPrice", apart := false, narrowed := true }
def FnExactDozenPriceUptoSaid : Prop := fnExactDozenPriceUptoRow.holds Try.pinned (OpenSpec.upto fnExactDozenPriceSpec)

/-- 'laws.FnExactRoundPrice', WHERE WHAT IT READS IS OF BULK AT MOST 1048576: true; the input reads as it did. -/
def fnExactRoundPriceUptoRow : OpenClaim := { program := "ytalibcnaompjmaa", sum := "fd7aa4df9c1c50dc6e249740558e43088e35c48318ae2a071ec34778733e8236", func := "loop.example/g01064/laws.FnExactRoundPrice", spec := "fnExactRoundPrice", apart := false, narrowed := true }
def FnExactRoundPriceUptoSaid : Prop := fnExactRoundPriceUptoRow.holds Try.pinned (OpenSpec.upto fnExactRoundPriceSpec)

/-- 'laws.FnExactBreakEven', WHERE WHAT IT READS IS OF BULK AT MOST 1048576: true; the input reads as it did. -/
def fnExactBreakEvenUptoRow : OpenClaim := { program := "ytalibcnaompjmaa", sum := "fd7aa4df9c1c50dc6e249740558e43088e35c48318ae2a071ec34778733e8236", func := "loop.example/g01064/laws.FnExactBreakEven", spec := "fnExactBreakEven", apart := false, narrowed := true }
def FnExactBreakEvenUptoSaid : Prop := fnExactBreakEvenUptoRow.holds Try.pinned (OpenSpec.upto fnExactBreakEvenSpec)

/-- 'laws.FnExactValidCosts', WHERE WHAT IT READS IS OF BULK AT MOST 1048576: true; the input reads as it did. -/
def fnExactValidCostsUptoRow : OpenClaim := { program := "ytalibcnaompjmaa", sum := "fd7aa4df9c1c50dc6e249740558e43088e35c48318ae2a071ec34778733e8236", func := "loop.example/g01064/laws.FnExactValidCosts", spec := "fnExactValidCosts", apart := false, narrowed := true }
def FnExactValidCostsUptoSaid : Prop := fnExactValidCostsUptoRow.holds Try.pinned (OpenSpec.upto fnExactValidCostsSpec)

/-- 'laws.FnExactBestPrice', WHERE WHAT IT READS IS OF BULK AT MOST 1048576: true; the input reads as it did. -/
def fnExactBestPriceUptoRow : OpenClaim := { program := "ytalibcnaompjmaa", sum := "fd7aa4df9c1c50dc6e249740558e43088e35c48318ae2a071ec34778733e8236", func := "loop.example/g01064/laws.FnExactBestPrice", spec := "fnExactBestPrice", apart := false, narrowed := true }
def FnExactBestPriceUptoSaid : Prop := fnExactBestPriceUptoRow.holds Try.pinned (OpenSpec.upto fnExactBestPriceSpec)

/-- 'laws.FnExactDearestCost', WHERE WHAT IT READS IS OF BULK AT MOST 1048576: true; the input reads as it did. -/
def fnExactDearestCostUptoRow : OpenClaim := { program := "ytalibcnaompjmaa", sum := "fd7aa4df9c1c50dc6e249740558e43088e35c48318ae2a071ec34778733e8236", func := "loop.example/g01064/laws.FnExactDearestCost", spec := "fnExactDearestCost", apart := false, narrowed := true }
def FnExactDearestCostUptoSaid : Prop := fnExactDearestCostUptoRow.holds Try.pinned (OpenSpec.upto fnExactDearestCostSpec)

/-- 'laws.FnExactCostOf', WHERE WHAT IT READS IS OF BULK AT MOST 1048576: true; the input reads as it did. -/
def fnExactCostOfUptoRow : OpenClaim := { program := "ytalibcnaompjmaa", sum := "fd7aa4df9c1c50dc6e249740558e43088e35c48318ae2a071ec34778733e8236", func := "loop.example/g01064/laws.FnExactCostOf", spec := "fnExactCostOf", apart := false, narrowed := true }
def FnExactCostOfUptoSaid : Prop := fnExactCostOfUptoRow.holds Try.pinned (OpenSpec.upto fnExactCostOfSpec)

/-- 'laws.FnExactPriceWith', WHERE WHAT IT READS IS OF BULK AT MOST 1048576: true; the input reads as it did. -/
def fnExactPriceWithUptoRow : OpenClaim := { program := "ytalibcnaompjmaa", sum := "fd7aa4df9c1c50dc6e249740558e43088e35c48318ae2a071ec34778733e8236", func := "loop.example/g01064/laws.FnExactPriceWith", spec := "fnExactPriceWith", apart := false, narrowed := true }
def FnExactPriceWithUptoSaid : Prop := fnExactPriceWithUptoRow.holds Try.pinned (OpenSpec.upto fnExactPriceWithSpec)

/-- 'laws.FnExactProfitOf', WHERE WHAT IT READS IS OF BULK AT MOST 1048576: true; the input reads as it did. -/
def fnExactProfitOfUptoRow : OpenClaim := { program := "ytalibcnaompjmaa", sum := "fd7aa4df9c1c50dc6e249740558e43088e35c48318ae2a071ec34778733e8236", func := "loop.example/g01064/laws.FnExactProfitOf", spec := "fnExactProfitOf", apart := false, narrowed := true }
def FnExactProfitOfUptoSaid : Prop := fnExactProfitOfUptoRow.holds Try.pinned (OpenSpec.upto fnExactProfitOfSpec)

/-- 'laws.FnSales', WHERE WHAT IT READS IS OF BULK AT MOST 1048576: true; the input reads as it did. -/
def fnSalesUptoRow : OpenClaim := { program := "ytalibcnaompjmaa", sum := "fd7aa4df9c1c50dc6e249740558e43088e35c48318ae2a071ec34778733e8236", func := "loop.example/g01064/laws.FnSales", spec := "fnSales", apart := false, narrowed := true }
def FnSalesUptoSaid : Prop := fnSalesUptoRow.holds Try.pinned (OpenSpec.upto fnSalesSpec)

/-- 'laws.FnCosts', WHERE WHAT IT READS IS OF BULK AT MOST 1048576: true; the input reads as it did. -/
def fnCostsUptoRow : OpenClaim := { program := "ytalibcnaompjmaa", sum := "fd7aa4df9c1c50dc6e249740558e43088e35c48318ae2a071ec34778733e8236", func := "loop.example/g01064/laws.FnCosts", spec := "fnCosts", apart := false, narrowed := true }
def FnCostsUptoSaid : Prop := fnCostsUptoRow.holds Try.pinned (OpenSpec.upto fnCostsSpec)

end Rows
end Go.Proofs.Ytalibcnaompjmaa
