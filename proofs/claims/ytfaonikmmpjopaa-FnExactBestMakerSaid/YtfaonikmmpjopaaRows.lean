/-
  No cell of these rows narrows 'for every input' (looked for: loops, veiled, ifaces, maps, wideKeys, modest, calm, conditions, laid).
  DERIVED. THE GIVEN ROWS OF THIS SEAT. 11 by the template 'for every input the law returns true; each argument reads behind the call as it read before'; 0 by the template 'total and deterministic' (their statements: YtfaonikmmpjopaaTotals.lean).
  GIVEN WITH THE SEED: the statements are not yours to turn. If you find one false, say at which input.
  Laid BY PROGRAM, IN A SANDBOX (cutbox-rows.mjs): the forced cells as the released guide's own fill.sh prints them over the translation bb50f2d9f586c4a8… (all of the seat's roots in one cut). By AI agents, Wed Nov 11 2026. No macro, syntax, notation, axiom, sorry.
-/
import Derived.Test.YtfaonikmmpjopaaChecked
import GoSem.Claim
import GoSem.ClaimJoined
import GoSem.ClaimMapViews
import Derived.JoinedTies
import Derived.KernelRfl
namespace Go.Proofs.Ytfaonikmmpjopaa
/- THE CELL 'sum', in the pinned program and in every row, IS THE sha256 OF THE DUMP (.gsa) THAT YtfaonikmmpjopaaProg.lean LOADS. Nothing in Lean hashes anything: it is a label: what it is worth is what the hold of that sum in a sandbox is worth. -/
noncomputable def Try.pinned : Pinned := { name := "ytfaonikmmpjopaa", sum := "bb50f2d9f586c4a8aed6f59210306b118db03fc3f745d039ffe26e97f0df2226", checked := Try.checked }
namespace Rows
def none {H : Type} : Left H := { results := [], args := [] }

/-- 'laws.FnExactValidRates': WHATEVER THE INPUT: true; the input reads as it did. -/
def fnExactValidRatesSpec : ChangeSpec := { name := "fnExactValidRates", fn := fun _ => fun
  | [d] => { results := [.lit (.bool true)], args := [d] }
  | _ => none }
def fnExactValidRatesRow : OpenClaim := { program := "ytfaonikmmpjopaa", sum := "bb50f2d9f586c4a8aed6f59210306b118db03fc3f745d039ffe26e97f0df2226", func := "loop.example/g01064/laws.FnExactValidRates", spec := "fnExactValidRates", apart := false }
def FnExactValidRatesSaid : Prop := fnExactValidRatesRow.holds Try.pinned (OpenSpec.ofChange fnExactValidRatesSpec)

/-- ITS FALSE NEIGHBOUR: 'it returns false'. Refute it at one input. -/
def fnExactValidRatesWrong : ChangeSpec := { name := "fnExactValidRates", fn := fun _ => fun
  | [d] => { results := [.lit (.bool false)], args := [d] }
  | _ => none }
def FnExactValidRatesWrongFalsely : Prop := fnExactValidRatesRow.holds Try.pinned (OpenSpec.ofChange fnExactValidRatesWrong)

/-- 'laws.FnExactValidPieces': WHATEVER THE INPUT: true; the input reads as it did. -/
def fnExactValidPiecesSpec : ChangeSpec := { name := "fnExactValidPieces", fn := fun _ => fun
  | [d] => { results := [.lit (.bool true)], args := [d] }
  | _ => none }
def fnExactValidPiecesRow : OpenClaim := { program := "ytfaonikmmpjopaa", sum := "bb50f2d9f586c4a8aed6f59210306b118db03fc3f745d039ffe26e97f0df2226", func := "loop.example/g01064/laws.FnExactValidPieces", spec := "fnExactValidPieces", apart := false }
def FnExactValidPiecesSaid : Prop := fnExactValidPiecesRow.holds Try.pinned (OpenSpec.ofChange fnExactValidPiecesSpec)

/-- ITS FALSE NEIGHBOUR: 'it returns false'. Refute it at one input. -/
def fnExactValidPiecesWrong : ChangeSpec := { name := "fnExactValidPieces", fn := fun _ => fun
  | [d] => { results := [.lit (.bool false)], args := [d] }
  | _ => none }
def FnExactValidPiecesWrongFalsely : Prop := fnExactValidPiecesRow.holds Try.pinned (OpenSpec.ofChange fnExactValidPiecesWrong)

/-- 'laws.FnExactMadeOf': WHATEVER THE INPUT: true; the input reads as it did. -/
def fnExactMadeOfSpec : ChangeSpec := { name := "fnExactMadeOf", fn := fun _ => fun
  | [d1, d2] => { results := [.lit (.bool true)], args := [d1, d2] }
  | _ => none }
def fnExactMadeOfRow : OpenClaim := { program := "ytfaonikmmpjopaa", sum := "bb50f2d9f586c4a8aed6f59210306b118db03fc3f745d039ffe26e97f0df2226", func := "loop.example/g01064/laws.FnExactMadeOf", spec := "fnExactMadeOf", apart := false }
def FnExactMadeOfSaid : Prop := fnExactMadeOfRow.holds Try.pinned (OpenSpec.ofChange fnExactMadeOfSpec)

/-- ITS FALSE NEIGHBOUR: 'it returns false'. Refute it at one input. -/
def fnExactMadeOfWrong : ChangeSpec := { name := "fnExactMadeOf", fn := fun _ => fun
  | [d1, d2] => { results := [.lit (.bool false)], args := [d1, d2] }
  | _ => none }
def FnExactMadeOfWrongFalsely : Prop := fnExactMadeOfRow.holds Try.pinned (OpenSpec.ofChange fnExactMadeOfWrong)

/-- 'laws.FnExactBonusOf': WHATEVER THE INPUT: true; the input reads as it did. -/
def fnExactBonusOfSpec : ChangeSpec := { name := "fnExactBonusOf", fn := fun _ => fun
  | [d1, d2, d3, d4] => { results := [.lit (.bool true)], args := [d1, d2, d3, d4] }
  | _ => none }
def fnExactBonusOfRow : OpenClaim := { program := "ytfaonikmmpjopaa", sum := "bb50f2d9f586c4a8aed6f59210306b118db03fc3f745d039ffe26e97f0df2226", func := "loop.example/g01064/laws.FnExactBonusOf", spec := "fnExactBonusOf", apart := false }
def FnExactBonusOfSaid : Prop := fnExactBonusOfRow.holds Try.pinned (OpenSpec.ofChange fnExactBonusOfSpec)

/-- ITS FALSE NEIGHBOUR: 'it returns false'. Refute it at one input. -/
def fnExactBonusOfWrong : ChangeSpec := { name := "fnExactBonusOf", fn := fun _ => fun
  | [d1, d2, d3, d4] => { results := [.lit (.bool false)], args := [d1, d2, d3, d4] }
  | _ => none }
def FnExactBonusOfWrongFalsely : Prop := fnExactBonusOfRow.holds Try.pinned (OpenSpec.ofChange fnExactBonusOfWrong)

/-- 'laws.FnExactRaiseRates': WHATEVER THE INPUT: true; the input reads as it did. -/
def fnExactRaiseRatesSpec : ChangeSpec := { name := "fnExactRaiseRates", fn := fun _ => fun
  | [d1, d2] => { results := [.lit (.bool true)], args := [d1, d2] }
  | _ => none }
def fnExactRaiseRatesRow : OpenClaim := { program := "ytfaonikmmpjopaa", sum := "bb50f2d9f586c4a8aed6f59210306b118db03fc3f745d039ffe26e97f0df2226", func := "loop.example/g01064/laws.FnExactRaiseRates", spec := "fnExactRaiseRates", apart := false }
def FnExactRaiseRatesSaid : Prop := fnExactRaiseRatesRow.holds Try.pinned (OpenSpec.ofChange fnExactRaiseRatesSpec)

/-- ITS FALSE NEIGHBOUR: 'it returns false'. Refute it at one input. -/
def fnExactRaiseRatesWrong : ChangeSpec := { name := "fnExactRaiseRates", fn := fun _ => fun
  | [d1, d2] => { results := [.lit (.bool false)], args := [d1, d2] }
  | _ => none }
def FnExactRaiseRatesWrongFalsely : Prop := fnExactRaiseRatesRow.holds Try.pinned (OpenSpec.ofChange fnExactRaiseRatesWrong)

/-- 'laws.FnExactWageOf': WHATEVER THE INPUT: true; the input reads as it did. -/
def fnExactWageOfSpec : ChangeSpec := { name := "fnExactWageOf", fn := fun _ => fun
  | [d1, d2, d3] => { results := [.lit (.bool true)], args := [d1, d2, d3] }
  | _ => none }
def fnExactWageOfRow : OpenClaim := { program := "ytfaonikmmpjopaa", sum := "bb50f2d9f586c4a8aed6f59210306b118db03fc3f745d039ffe26e97f0df2226", func := "loop.example/g01064/laws.FnExactWageOf", spec := "fnExactWageOf", apart := false }
def FnExactWageOfSaid : Prop := fnExactWageOfRow.holds Try.pinned (OpenSpec.ofChange fnExactWageOfSpec)

/-- ITS FALSE NEIGHBOUR: 'it returns false'. Refute it at one input. -/
def fnExactWageOfWrong : ChangeSpec := { name := "fnExactWageOf", fn := fun _ => fun
  | [d1, d2, d3] => { results := [.lit (.bool false)], args := [d1, d2, d3] }
  | _ => none }
def FnExactWageOfWrongFalsely : Prop := fnExactWageOfRow.holds Try.pinned (OpenSpec.ofChange fnExactWageOfWrong)

/-- 'laws.FnExactUnknownSorts': WHATEVER THE INPUT: true; the input reads as it did. -/
def fnExactUnknownSortsSpec : ChangeSpec := { name := "fnExactUnknownSorts", fn := fun _ => fun
  | [d1, d2] => { results := [.lit (.bool true)], args := [d1, d2] }
  | _ => none }
def fnExactUnknownSortsRow : OpenClaim := { program := "ytfaonikmmpjopaa", sum := "bb50f2d9f586c4a8aed6f59210306b118db03fc3f745d039ffe26e97f0df2226", func := "loop.example/g01064/laws.FnExactUnknownSorts", spec := "fnExactUnknownSorts", apart := false }
def FnExactUnknownSortsSaid : Prop := fnExactUnknownSortsRow.holds Try.pinned (OpenSpec.ofChange fnExactUnknownSortsSpec)

/-- ITS FALSE NEIGHBOUR: 'it returns false'. Refute it at one input. -/
def fnExactUnknownSortsWrong : ChangeSpec := { name := "fnExactUnknownSorts", fn := fun _ => fun
  | [d1, d2] => { results := [.lit (.bool false)], args := [d1, d2] }
  | _ => none }
def FnExactUnknownSortsWrongFalsely : Prop := fnExactUnknownSortsRow.holds Try.pinned (OpenSpec.ofChange fnExactUnknownSortsWrong)

/-- 'laws.FnExactBestMaker': WHATEVER THE INPUT: true; the input reads as it did. -/
def fnExactBestMakerSpec : ChangeSpec := { name := "fnExactBestMaker", fn := fun _ => fun
  | [d] => { results := [.lit (.bool true)], args := [d] }
  | _ => none }
def fnExactBestMakerRow : OpenClaim := { program := "ytfaonikmmpjopaa", sum := "bb50f2d9f586c4a8aed6f59210306b118db03fc3f745d039ffe26e97f0df2226", func := "loop.example/g01064/laws.FnExactBestMaker", spec := "fnExactBestMaker", recurses := true, apart := false }
def FnExactBestMakerSaid : Prop := fnExactBestMakerRow.holds Try.pinned (OpenSpec.ofChange fnExactBestMakerSpec)

/-- ITS FALSE NEIGHBOUR: 'it returns false'. Refute it at one input. -/
def fnExactBestMakerWrong : ChangeSpec := { name := "fnExactBestMaker", fn := fun _ => fun
  | [d] => { results := [.lit (.bool false)], args := [d] }
  | _ => none }
def FnExactBestMakerWrongFalsely : Prop := fnExactBestMakerRow.holds Try.pinned (OpenSpec.ofChange fnExactBestMakerWrong)

/-- 'laws.FnExactWagesOf': WHATEVER THE INPUT: true; the input reads as it did. -/
def fnExactWagesOfSpec : ChangeSpec := { name := "fnExactWagesOf", fn := fun _ => fun
  | [d1, d2] => { results := [.lit (.bool true)], args := [d1, d2] }
  | _ => none }
def fnExactWagesOfRow : OpenClaim := { program := "ytfaonikmmpjopaa", sum := "bb50f2d9f586c4a8aed6f59210306b118db03fc3f745d039ffe26e97f0df2226", func := "loop.example/g01064/laws.FnExactWagesOf", spec := "fnExactWagesOf", recurses := true, apart := false }
def FnExactWagesOfSaid : Prop := fnExactWagesOfRow.holds Try.pinned (OpenSpec.ofChange fnExactWagesOfSpec)

/-- ITS FALSE NEIGHBOUR: 'it returns false'. Refute it at one input. -/
def fnExactWagesOfWrong : ChangeSpec := { name := "fnExactWagesOf", fn := fun _ => fun
  | [d1, d2] => { results := [.lit (.bool false)], args := [d1, d2] }
  | _ => none }
def FnExactWagesOfWrongFalsely : Prop := fnExactWagesOfRow.holds Try.pinned (OpenSpec.ofChange fnExactWagesOfWrong)

/-- 'laws.FnMakers': WHATEVER THE INPUT: true; the input reads as it did. -/
def fnMakersSpec : ChangeSpec := { name := "fnMakers", fn := fun _ => fun
  | [d1, d2] => { results := [.lit (.bool true)], args := [d1, d2] }
  | _ => none }
def fnMakersRow : OpenClaim := { program := "ytfaonikmmpjopaa", sum := "bb50f2d9f586c4a8aed6f59210306b118db03fc3f745d039ffe26e97f0df2226", func := "loop.example/g01064/laws.FnMakers", spec := "fnMakers", recurses := true, apart := false }
def FnMakersSaid : Prop := fnMakersRow.holds Try.pinned (OpenSpec.ofChange fnMakersSpec)

/-- ITS FALSE NEIGHBOUR: 'it returns false'. Refute it at one input. -/
def fnMakersWrong : ChangeSpec := { name := "fnMakers", fn := fun _ => fun
  | [d1, d2] => { results := [.lit (.bool false)], args := [d1, d2] }
  | _ => none }
def FnMakersWrongFalsely : Prop := fnMakersRow.holds Try.pinned (OpenSpec.ofChange fnMakersWrong)

/-- 'laws.FnWages': WHATEVER THE INPUT: true; the input reads as it did. -/
def fnWagesSpec : ChangeSpec := { name := "fnWages", fn := fun _ => fun
  | [d1, d2] => { results := [.lit (.bool true)], args := [d1, d2] }
  | _ => none }
def fnWagesRow : OpenClaim := { program := "ytfaonikmmpjopaa", sum := "bb50f2d9f586c4a8aed6f59210306b118db03fc3f745d039ffe26e97f0df2226", func := "loop.example/g01064/laws.FnWages", spec := "fnWages", recurses := true, apart := false }
def FnWagesSaid : Prop := fnWagesRow.holds Try.pinned (OpenSpec.ofChange fnWagesSpec)

/-- ITS FALSE NEIGHBOUR: 'it returns false'. Refute it at one input. -/
def fnWagesWrong : ChangeSpec := { name := "fnWages", fn := fun _ => fun
  | [d1, d2] => { results := [.lit (.bool false)], args := [d1, d2] }
  | _ => none }
def FnWagesWrongFalsely : Prop := fnWagesRow.holds Try.pinned (OpenSpec.ofChange fnWagesWrong)

/- THE SECOND FORM. 'bulk': how many values and letters a reading holds, each counted each time it is reached (what is shared counts as often as it is met; a slice's spare places count too). A statement '..UptoSaid' is the law's where the arguments, and the package variables that the reading takes, are together of bulk at most 1048576: NARROWER than '..Said'. Prove '..Said' where nothing that the law and all that it calls make is longer than what came in: it says more and counts as full. Else prove '..UptoSaid'. A law counts once. -/
mutual
def uptoBulk {H : Type} : DataW H → Nat
  | .lit (.string bytes) => bytes.length + 1
  | .lit _ => 1
  | .nil => 1
  | .ptr d => uptoBulk d + 1
  | .slice elems spare => uptoBulkAll elems + uptoBulkAll spare + 1
  | .agg parts => uptoBulkAll parts + 1
  | .iface _ d => uptoBulk d + 1
  | .map entries => uptoBulkEntries entries + 1
  | .held _ => 1
def uptoBulkAll {H : Type} : List (DataW H) → Nat
  | [] => 0
  | d :: r => uptoBulk d + uptoBulkAll r
def uptoBulkEntries {H : Type} : List (Lit × DataW H) → Nat
  | [] => 0
  | x :: r => uptoBulkEntry x + uptoBulkEntries r
def uptoBulkEntry {H : Type} : Lit × DataW H → Nat
  | (.string bytes, d) => bytes.length + uptoBulk d + 1
  | (_, d) => uptoBulk d + 1
 end
def uptoSmall : (H : Type) → List (DataW H) → Bool := fun _ ds => decide (uptoBulkAll ds ≤ 1048576)
def OpenSpec.upto (s : _root_.Go.ChangeSpec) : _root_.Go.OpenSpec := { _root_.Go.OpenSpec.ofChange s with cond := some uptoSmall }

/-- 'laws.FnExactValidRates', WHERE WHAT IT READS IS OF BULK AT MOST 1048576: true; the input reads as it did. -/
def fnExactValidRatesUptoRow : OpenClaim := { program := "ytfaonikmmpjopaa", sum := "bb50f2d9f586c4a8aed6f59210306b118db03fc3f745d039ffe26e97f0df2226", func := "loop.example/g01064/laws.FnExactValidRates", spec := "fnExactValidRates", apart := false, narrowed := true }
def FnExactValidRatesUptoSaid : Prop := fnExactValidRatesUptoRow.holds Try.pinned (OpenSpec.upto fnExactValidRatesSpec)

/-- 'laws.FnExactValidPieces', WHERE WHAT IT READS IS OF BULK AT MOST 1048576: true; the input reads as it did. -/
def fnExactValidPiecesUptoRow : OpenClaim := { program := "ytfaonikmmpjopaa", sum := "bb50f2d9f586c4a8aed6f59210306b118db03fc3f745d039ffe26e97f0df2226", func := "loop.example/g01064/laws.FnExactValidPieces", spec := "fnExactValidPieces", apart := false, narrowed := true }
def FnExactValidPiecesUptoSaid : Prop := fnExactValidPiecesUptoRow.holds Try.pinned (OpenSpec.upto fnExactValidPiecesSpec)

/-- 'laws.FnExactMadeOf', WHERE WHAT IT READS IS OF BULK AT MOST 1048576: true; the input reads as it did. -/
def fnExactMadeOfUptoRow : OpenClaim := { program := "ytfaonikmmpjopaa", sum := "bb50f2d9f586c4a8aed6f59210306b118db03fc3f745d039ffe26e97f0df2226", func := "loop.example/g01064/laws.FnExactMadeOf", spec := "fnExactMadeOf", apart := false, narrowed := true }
def FnExactMadeOfUptoSaid : Prop := fnExactMadeOfUptoRow.holds Try.pinned (OpenSpec.upto fnExactMadeOfSpec)

/-- 'laws.FnExactBonusOf', WHERE WHAT IT READS IS OF BULK AT MOST 1048576: true; the input reads as it did. -/
def fnExactBonusOfUptoRow : OpenClaim := { program := "ytfaonikmmpjopaa", sum := "bb50f2d9f586c4a8aed6f59210306b118db03fc3f745d039ffe26e97f0df2226", func := "loop.example/g01064/laws.FnExactBonusOf", spec := "fnExactBonusOf", apart := false, narrowed := true }
def FnExactBonusOfUptoSaid : Prop := fnExactBonusOfUptoRow.holds Try.pinned (OpenSpec.upto fnExactBonusOfSpec)

/-- 'laws.FnExactRaiseRates', WHERE WHAT IT READS IS OF BULK AT MOST 1048576: true; the input reads as it did. -/
def fnExactRaiseRatesUptoRow : OpenClaim := { program := "ytfaonikmmpjopaa", sum := "bb50f2d9f586c4a8aed6f59210306b118db03fc3f745d039ffe26e97f0df2226", func := "loop.example/g01064/laws.FnExactRaiseRates", spec := "fnExactRaiseRates", apart := false, narrowed := true }
def FnExactRaiseRatesUptoSaid : Prop := fnExactRaiseRatesUptoRow.holds Try.pinned (OpenSpec.upto fnExactRaiseRatesSpec)

/-- 'laws.FnExactWageOf', WHERE WHAT IT READS IS OF BULK AT MOST 1048576: true; the input reads as it did. -/
def fnExactWageOfUptoRow : OpenClaim := { program := "ytfaonikmmpjopaa", sum := "bb50f2d9f586c4a8aed6f59210306b118db03fc3f745d039ffe26e97f0df2226", func := "loop.example/g01064/laws.FnExactWageOf", spec := "fnExactWageOf", apart := false, narrowed := true }
def FnExactWageOfUptoSaid : Prop := fnExactWageOfUptoRow.holds Try.pinned (OpenSpec.upto fnExactWageOfSpec)

/-- 'laws.FnExactUnknownSorts', WHERE WHAT IT READS IS OF BULK AT MOST 1048576: true; the input reads as it did. -/
def fnExactUnknownSortsUptoRow : OpenClaim := { program := "ytfaonikmmpjopaa", sum := "bb50f2d9f586c4a8aed6f59210306b118db03fc3f745d039ffe26e97f0df2226", func := "loop.example/g01064/laws.FnExactUnknownSorts", spec := "fnExactUnknownSorts", apart := false, narrowed := true }
def FnExactUnknownSortsUptoSaid : Prop := fnExactUnknownSortsUptoRow.holds Try.pinned (OpenSpec.upto fnExactUnknownSortsSpec)

/-- 'laws.FnExactBestMaker', WHERE WHAT IT READS IS OF BULK AT MOST 1048576: true; the input reads as it did. -/
def fnExactBestMakerUptoRow : OpenClaim := { program := "ytfaonikmmpjopaa", sum := "bb50f2d9f586c4a8aed6f59210306b118db03fc3f745d039ffe26e97f0df2226", func := "loop.example/g01064/laws.FnExactBestMaker", spec := "fnExactBestMaker", recurses := true, apart := false, narrowed := true }
def FnExactBestMakerUptoSaid : Prop := fnExactBestMakerUptoRow.holds Try.pinned (OpenSpec.upto fnExactBestMakerSpec)

/-- 'laws.FnExactWagesOf', WHERE WHAT IT READS IS OF BULK AT MOST 1048576: true; the input reads as it did. -/
def fnExactWagesOfUptoRow : OpenClaim := { program := "ytfaonikmmpjopaa", sum := "bb50f2d9f586c4a8aed6f59210306b118db03fc3f745d039ffe26e97f0df2226", func := "loop.example/g01064/laws.FnExactWagesOf", spec := "fnExactWagesOf", recurses := true, apart := false, narrowed := true }
def FnExactWagesOfUptoSaid : Prop := fnExactWagesOfUptoRow.holds Try.pinned (OpenSpec.upto fnExactWagesOfSpec)

/-- 'laws.FnMakers', WHERE WHAT IT READS IS OF BULK AT MOST 1048576: true; the input reads as it did. -/
def fnMakersUptoRow : OpenClaim := { program := "ytfaonikmmpjopaa", sum := "bb50f2d9f586c4a8aed6f59210306b118db03fc3f745d039ffe26e97f0df2226", func := "loop.example/g01064/laws.FnMakers", spec := "fnMakers", recurses := true, apart := false, narrowed := true }
def FnMakersUptoSaid : Prop := fnMakersUptoRow.holds Try.pinned (OpenSpec.upto fnMakersSpec)

/-- 'laws.FnWages', WHERE WHAT IT READS IS OF BULK AT MOST 1048576: true; the input reads as it did. -/
def fnWagesUptoRow : OpenClaim := { program := "ytfaonikmmpjopaa", sum := "bb50f2d9f586c4a8aed6f59210306b118db03fc3f745d039ffe26e97f0df2226", func := "loop.example/g01064/laws.FnWages", spec := "fnWages", recurses := true, apart := false, narrowed := true }
def FnWagesUptoSaid : Prop := fnWagesUptoRow.holds Try.pinned (OpenSpec.upto fnWagesSpec)

end Rows
end Go.Proofs.Ytfaonikmmpjopaa
