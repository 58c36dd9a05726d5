/-
  No cell of these rows narrows 'for every input' (looked for: loops, veiled, ifaces, maps, wideKeys, modest, calm, conditions, laid).
  DERIVED. THE GIVEN ROWS OF THIS SEAT. 12 by the template 'for every input the law returns true; each argument reads behind the call as it read before'; 0 by the template 'total and deterministic' (their statements: YtcehboknhdmmfaaTotals.lean).
  GIVEN WITH THE SEED: the statements are not yours to turn. If you find one false, say at which input.
  Laid BY PROGRAM, IN A SANDBOX (cutbox-rows.mjs): the forced cells as the released guide's own fill.sh prints them over the translation 831532ff77ca0781… (all of the seat's roots in one cut). By AI agents, Wed Nov 11 2026. No macro, syntax, notation, axiom, sorry.
-/
import Derived.Test.YtcehboknhdmmfaaChecked
import GoSem.Claim
import GoSem.ClaimJoined
import GoSem.ClaimMapViews
import Derived.JoinedTies
import Derived.KernelRfl
namespace Go.Proofs.Ytcehboknhdmmfaa
/- THE CELL 'sum', in the pinned program and in every row, IS THE sha256 OF THE DUMP (.gsa) THAT YtcehboknhdmmfaaProg.lean LOADS. Nothing in Lean hashes anything: it is a label: what it is worth is what the hold of that sum in a sandbox is worth. -/
noncomputable def Try.pinned : Pinned := { name := "ytcehboknhdmmfaa", sum := "831532ff77ca078186e579495a215261e382480ab8a939377a9e819cc3730ff0", checked := Try.checked }
namespace Rows
def none {H : Type} : Left H := { results := [], args := [] }

/-- 'laws.FnExactGoodBig': WHATEVER THE INPUT: true; the input reads as it did. -/
def fnExactGoodBigSpec : ChangeSpec := { name := "fnExactGoodBig", fn := fun _ => fun
  | [d] => { results := [.lit (.bool true)], args := [d] }
  | _ => none }
def fnExactGoodBigRow : OpenClaim := { program := "ytcehboknhdmmfaa", sum := "831532ff77ca078186e579495a215261e382480ab8a939377a9e819cc3730ff0", func := "loop.example/g00549/laws.FnExactGoodBig", spec := "fnExactGoodBig", apart := false }
def FnExactGoodBigSaid : Prop := fnExactGoodBigRow.holds Try.pinned (OpenSpec.ofChange fnExactGoodBigSpec)

/-- ITS FALSE NEIGHBOUR: 'it returns false'. Refute it at one input. -/
def fnExactGoodBigWrong : ChangeSpec := { name := "fnExactGoodBig", fn := fun _ => fun
  | [d] => { results := [.lit (.bool false)], args := [d] }
  | _ => none }
def FnExactGoodBigWrongFalsely : Prop := fnExactGoodBigRow.holds Try.pinned (OpenSpec.ofChange fnExactGoodBigWrong)

/-- 'laws.FnExactBigOf': WHATEVER THE INPUT: true; the input reads as it did. -/
def fnExactBigOfSpec : ChangeSpec := { name := "fnExactBigOf", fn := fun _ => fun
  | [d] => { results := [.lit (.bool true)], args := [d] }
  | _ => none }
def fnExactBigOfRow : OpenClaim := { program := "ytcehboknhdmmfaa", sum := "831532ff77ca078186e579495a215261e382480ab8a939377a9e819cc3730ff0", func := "loop.example/g00549/laws.FnExactBigOf", spec := "fnExactBigOf", apart := false }
def FnExactBigOfSaid : Prop := fnExactBigOfRow.holds Try.pinned (OpenSpec.ofChange fnExactBigOfSpec)

/-- ITS FALSE NEIGHBOUR: 'it returns false'. Refute it at one input. -/
def fnExactBigOfWrong : ChangeSpec := { name := "fnExactBigOf", fn := fun _ => fun
  | [d] => { results := [.lit (.bool false)], args := [d] }
  | _ => none }
def FnExactBigOfWrongFalsely : Prop := fnExactBigOfRow.holds Try.pinned (OpenSpec.ofChange fnExactBigOfWrong)

/-- 'laws.FnExactAddBig': WHATEVER THE INPUT: true; the input reads as it did. -/
def fnExactAddBigSpec : ChangeSpec := { name := "fnExactAddBig", fn := fun _ => fun
  | [d1, d2] => { results := [.lit (.bool true)], args := [d1, d2] }
  | _ => none }
def fnExactAddBigRow : OpenClaim := { program := "ytcehboknhdmmfaa", sum := "831532ff77ca078186e579495a215261e382480ab8a939377a9e819cc3730ff0", func := "loop.example/g00549/laws.FnExactAddBig", spec := "fnExactAddBig", apart := false }
def FnExactAddBigSaid : Prop := fnExactAddBigRow.holds Try.pinned (OpenSpec.ofChange fnExactAddBigSpec)

/-- ITS FALSE NEIGHBOUR: 'it returns false'. Refute it at one input. -/
def fnExactAddBigWrong : ChangeSpec := { name := "fnExactAddBig", fn := fun _ => fun
  | [d1, d2] => { results := [.lit (.bool false)], args := [d1, d2] }
  | _ => none }
def FnExactAddBigWrongFalsely : Prop := fnExactAddBigRow.holds Try.pinned (OpenSpec.ofChange fnExactAddBigWrong)

/-- 'laws.FnExactLessBig': WHATEVER THE INPUT: true; the input reads as it did. -/
def fnExactLessBigSpec : ChangeSpec := { name := "fnExactLessBig", fn := fun _ => fun
  | [d1, d2] => { results := [.lit (.bool true)], args := [d1, d2] }
  | _ => none }
def fnExactLessBigRow : OpenClaim := { program := "ytcehboknhdmmfaa", sum := "831532ff77ca078186e579495a215261e382480ab8a939377a9e819cc3730ff0", func := "loop.example/g00549/laws.FnExactLessBig", spec := "fnExactLessBig", apart := false }
def FnExactLessBigSaid : Prop := fnExactLessBigRow.holds Try.pinned (OpenSpec.ofChange fnExactLessBigSpec)

/-- ITS FALSE NEIGHBOUR: 'it returns false'. Refute it at one input. -/
def fnExactLessBigWrong : ChangeSpec := { name := "fnExactLessBig", fn := fun _ => fun
  | [d1, d2] => { results := [.lit (.bool false)], args := [d1, d2] }
  | _ => none }
def FnExactLessBigWrongFalsely : Prop := fnExactLessBigRow.holds Try.pinned (OpenSpec.ofChange fnExactLessBigWrong)

/-- 'laws.FnExactCompareBig': WHATEVER THE INPUT: true; the input reads as it did. -/
def fnExactCompareBigSpec : ChangeSpec := { name := "fnExactCompareBig", fn := fun _ => fun
  | [d1, d2] => { results := [.lit (.bool true)], args := [d1, d2] }
  | _ => none }
def fnExactCompareBigRow : OpenClaim := { program := "ytcehboknhdmmfaa", sum := "831532ff77ca078186e579495a215261e382480ab8a939377a9e819cc3730ff0", func := "loop.example/g00549/laws.FnExactCompareBig", spec := "fnExactCompareBig", apart := false }
def FnExactCompareBigSaid : Prop := fnExactCompareBigRow.holds Try.pinned (OpenSpec.ofChange fnExactCompareBigSpec)

/-- ITS FALSE NEIGHBOUR: 'it returns false'. Refute it at one input. -/
def fnExactCompareBigWrong : ChangeSpec := { name := "fnExactCompareBig", fn := fun _ => fun
  | [d1, d2] => { results := [.lit (.bool false)], args := [d1, d2] }
  | _ => none }
def FnExactCompareBigWrongFalsely : Prop := fnExactCompareBigRow.holds Try.pinned (OpenSpec.ofChange fnExactCompareBigWrong)

/-- 'laws.FnExactTimesBig': WHATEVER THE INPUT: true; the input reads as it did. -/
def fnExactTimesBigSpec : ChangeSpec := { name := "fnExactTimesBig", fn := fun _ => fun
  | [d1, d2] => { results := [.lit (.bool true)], args := [d1, d2] }
  | _ => none }
def fnExactTimesBigRow : OpenClaim := { program := "ytcehboknhdmmfaa", sum := "831532ff77ca078186e579495a215261e382480ab8a939377a9e819cc3730ff0", func := "loop.example/g00549/laws.FnExactTimesBig", spec := "fnExactTimesBig", apart := false }
def FnExactTimesBigSaid : Prop := fnExactTimesBigRow.holds Try.pinned (OpenSpec.ofChange fnExactTimesBigSpec)

/-- ITS FALSE NEIGHBOUR: 'it returns false'. Refute it at one input. -/
def fnExactTimesBigWrong : ChangeSpec := { name := "fnExactTimesBig", fn := fun _ => fun
  | [d1, d2] => { results := [.lit (.bool false)], args := [d1, d2] }
  | _ => none }
def FnExactTimesBigWrongFalsely : Prop := fnExactTimesBigRow.holds Try.pinned (OpenSpec.ofChange fnExactTimesBigWrong)

/-- 'laws.FnExactDivBig': WHATEVER THE INPUT: true; the input reads as it did. -/
def fnExactDivBigSpec : ChangeSpec := { name := "fnExactDivBig", fn := fun _ => fun
  | [d1, d2] => { results := [.lit (.bool true)], args := [d1, d2] }
  | _ => none }
def fnExactDivBigRow : OpenClaim := { program := "ytcehboknhdmmfaa", sum := "831532ff77ca078186e579495a215261e382480ab8a939377a9e819cc3730ff0", func := "loop.example/g00549/laws.FnExactDivBig", spec := "fnExactDivBig", apart := false }
def FnExactDivBigSaid : Prop := fnExactDivBigRow.holds Try.pinned (OpenSpec.ofChange fnExactDivBigSpec)

/-- ITS FALSE NEIGHBOUR: 'it returns false'. Refute it at one input. -/
def fnExactDivBigWrong : ChangeSpec := { name := "fnExactDivBig", fn := fun _ => fun
  | [d1, d2] => { results := [.lit (.bool false)], args := [d1, d2] }
  | _ => none }
def FnExactDivBigWrongFalsely : Prop := fnExactDivBigRow.holds Try.pinned (OpenSpec.ofChange fnExactDivBigWrong)

/-- 'laws.FnExactShiftBig': WHATEVER THE INPUT: true; the input reads as it did. -/
def fnExactShiftBigSpec : ChangeSpec := { name := "fnExactShiftBig", fn := fun _ => fun
  | [d1, d2] => { results := [.lit (.bool true)], args := [d1, d2] }
  | _ => none }
def fnExactShiftBigRow : OpenClaim := { program := "ytcehboknhdmmfaa", sum := "831532ff77ca078186e579495a215261e382480ab8a939377a9e819cc3730ff0", func := "loop.example/g00549/laws.FnExactShiftBig", spec := "fnExactShiftBig", apart := false }
def FnExactShiftBigSaid : Prop := fnExactShiftBigRow.holds Try.pinned (OpenSpec.ofChange fnExactShiftBigSpec)

/-- ITS FALSE NEIGHBOUR: 'it returns false'. Refute it at one input. -/
def fnExactShiftBigWrong : ChangeSpec := { name := "fnExactShiftBig", fn := fun _ => fun
  | [d1, d2] => { results := [.lit (.bool false)], args := [d1, d2] }
  | _ => none }
def FnExactShiftBigWrongFalsely : Prop := fnExactShiftBigRow.holds Try.pinned (OpenSpec.ofChange fnExactShiftBigWrong)

/-- 'laws.FnExactDigitsOf': WHATEVER THE INPUT: true; the input reads as it did. -/
def fnExactDigitsOfSpec : ChangeSpec := { name := "fnExactDigitsOf", fn := fun _ => fun
  | [d] => { results := [.lit (.bool true)], args := [d] }
  | _ => none }
def fnExactDigitsOfRow : OpenClaim := { program := "ytcehboknhdmmfaa", sum := "831532ff77ca078186e579495a215261e382480ab8a939377a9e819cc3730ff0", func := "loop.example/g00549/laws.FnExactDigitsOf", spec := "fnExactDigitsOf", recurses := true, apart := false }
def FnExactDigitsOfSaid : Prop := fnExactDigitsOfRow.holds Try.pinned (OpenSpec.ofChange fnExactDigitsOfSpec)

/-- ITS FALSE NEIGHBOUR: 'it returns false'. Refute it at one input. -/
def fnExactDigitsOfWrong : ChangeSpec := { name := "fnExactDigitsOf", fn := fun _ => fun
  | [d] => { results := [.lit (.bool false)], args := [d] }
  | _ => none }
def FnExactDigitsOfWrongFalsely : Prop := fnExactDigitsOfRow.holds Try.pinned (OpenSpec.ofChange fnExactDigitsOfWrong)

/-- 'laws.FnExactOfDigits': WHATEVER THE INPUT: true; the input reads as it did. -/
def fnExactOfDigitsSpec : ChangeSpec := { name := "fnExactOfDigits", fn := fun _ => fun
  | [d] => { results := [.lit (.bool true)], args := [d] }
  | _ => none }
def fnExactOfDigitsRow : OpenClaim := { program := "ytcehboknhdmmfaa", sum := "831532ff77ca078186e579495a215261e382480ab8a939377a9e819cc3730ff0", func := "loop.example/g00549/laws.FnExactOfDigits", spec := "fnExactOfDigits", apart := false }
def FnExactOfDigitsSaid : Prop := fnExactOfDigitsRow.holds Try.pinned (OpenSpec.ofChange fnExactOfDigitsSpec)

/-- ITS FALSE NEIGHBOUR: 'it returns false'. Refute it at one input. -/
def fnExactOfDigitsWrong : ChangeSpec := { name := "fnExactOfDigits", fn := fun _ => fun
  | [d] => { results := [.lit (.bool false)], args := [d] }
  | _ => none }
def FnExactOfDigitsWrongFalsely : Prop := fnExactOfDigitsRow.holds Try.pinned (OpenSpec.ofChange fnExactOfDigitsWrong)

/-- 'laws.FnExactHalvesTimes': WHATEVER THE INPUT: true; the input reads as it did. -/
def fnExactHalvesTimesSpec : ChangeSpec := { name := "fnExactHalvesTimes", fn := fun _ => fun
  | [d1, d2] => { results := [.lit (.bool true)], args := [d1, d2] }
  | _ => none }
def fnExactHalvesTimesRow : OpenClaim := { program := "ytcehboknhdmmfaa", sum := "831532ff77ca078186e579495a215261e382480ab8a939377a9e819cc3730ff0", func := "loop.example/g00549/laws.FnExactHalvesTimes", spec := "fnExactHalvesTimes", apart := false }
def FnExactHalvesTimesSaid : Prop := fnExactHalvesTimesRow.holds Try.pinned (OpenSpec.ofChange fnExactHalvesTimesSpec)

/-- ITS FALSE NEIGHBOUR: 'it returns false'. Refute it at one input. -/
def fnExactHalvesTimesWrong : ChangeSpec := { name := "fnExactHalvesTimes", fn := fun _ => fun
  | [d1, d2] => { results := [.lit (.bool false)], args := [d1, d2] }
  | _ => none }
def FnExactHalvesTimesWrongFalsely : Prop := fnExactHalvesTimesRow.holds Try.pinned (OpenSpec.ofChange fnExactHalvesTimesWrong)

/-- 'laws.FnExactReduceBig': WHATEVER THE INPUT: true; the input reads as it did. -/
def fnExactReduceBigSpec : ChangeSpec := { name := "fnExactReduceBig", fn := fun _ => fun
  | [d1, d2] => { results := [.lit (.bool true)], args := [d1, d2] }
  | _ => none }
def fnExactReduceBigRow : OpenClaim := { program := "ytcehboknhdmmfaa", sum := "831532ff77ca078186e579495a215261e382480ab8a939377a9e819cc3730ff0", func := "loop.example/g00549/laws.FnExactReduceBig", spec := "fnExactReduceBig", apart := false }
def FnExactReduceBigSaid : Prop := fnExactReduceBigRow.holds Try.pinned (OpenSpec.ofChange fnExactReduceBigSpec)

/-- ITS FALSE NEIGHBOUR: 'it returns false'. Refute it at one input. -/
def fnExactReduceBigWrong : ChangeSpec := { name := "fnExactReduceBig", fn := fun _ => fun
  | [d1, d2] => { results := [.lit (.bool false)], args := [d1, d2] }
  | _ => none }
def FnExactReduceBigWrongFalsely : Prop := fnExactReduceBigRow.holds Try.pinned (OpenSpec.ofChange fnExactReduceBigWrong)

/- THE SECOND FORM. 'bulk': how many values and letters a reading holds, each counted each time it is reached (what is shared counts as often as it is met; a slice's spare places count too). A statement '..UptoSaid' is the law's where the arguments, and the package variables that the reading takes, are together of bulk at most 1048576: NARROWER than '..Said'. Prove '..Said' where nothing that the law and all that it calls make is longer than what came in: it says more and counts as full. Else prove '..UptoSaid'. A law counts once. -/
mutual
def uptoBulk {H : Type} : DataW H → Nat
  | .lit (.string bytes) => bytes.length + 1
  | .lit _ => 1
  | .nil => 1
  | .ptr d => uptoBulk d + 1
  | .slice elems spare => uptoBulkAll elems + uptoBulkAll spare + 1
  | .agg parts => uptoBulkAll parts + 1
  | .iface _ d => uptoBulk d + 1
  | .map entries => uptoBulkEntries entries + 1
  | .held _ => 1
def uptoBulkAll {H : Type} : List (DataW H) → Nat
  | [] => 0
  | d :: r => uptoBulk d + uptoBulkAll r
def uptoBulkEntries {H : Type} : List (Lit × DataW H) → Nat
  | [] => 0
  | x :: r => uptoBulkEntry x + uptoBulkEntries r
def uptoBulkEntry {H : Type} : Lit × DataW H → Nat
  | (.string bytes, d) => bytes.length + uptoBulk d + 1
  | (_, d) => uptoBulk d + 1
 end
def uptoSmall : (H : Type) → List (DataW H) → Bool := fun _ ds => decide (uptoBulkAll ds ≤ 1048576)
def OpenSpec.upto (s : _root_.Go.ChangeSpec) : _root_.Go.OpenSpec := { _root_.Go.OpenSpec.ofChange s with cond := some uptoSmall }

/-- 'laws.FnExactGoodBig', WHERE WHAT IT READS IS OF BULK AT MOST 1048576: true; the input reads as it did. -/
def fnExactGoodBigUptoRow : OpenClaim := { program := "ytcehboknhdmmfaa", sum := "831532ff77ca078186e579495a215261e382480ab8a939377a9e819cc3730ff0", func := "loop.example/g00549/laws.FnExactGoodBig", spec := "fnExactGoodBig", apart := false, narrowed := true }
def FnExactGoodBigUptoSaid : Prop := fnExactGoodBigUptoRow.holds Try.pinned (OpenSpec.upto fnExactGoodBigSpec)

/-- 'laws.FnExactBigOf', WHERE WHAT IT READS IS OF BULK AT MOST 1048576: true; the input reads as it did. -/
def fnExactBigOfUptoRow : OpenClaim := { program := "ytcehboknhdmmfaa", sum := "831532ff77ca078186e579495a215261e382480ab8a939377a9e819cc3730ff0", func := "loop.example/g00549/laws.FnExactBigOf", spec := "fnExactBigOf", apart := false, narrowed := true }
def FnExactBigOfUptoSaid : Prop := fnExactBigOfUptoRow.holds Try.pinned (OpenSpec.upto fnExactBigOfSpec)

/-- 'laws.FnExactAddBig', WHERE WHAT IT READS IS OF BULK AT MOST 1048576: true; the input reads as it did. -/
def fnExactAddBigUptoRow : OpenClaim := { program := "ytcehboknhdmmfaa", sum := "831532ff77ca078186e579495a215261e382480ab8a939377a9e819cc3730ff0", func := "loop.example/g00549/laws.FnExactAddBig", spec := "fnExactAddBig", apart := false, narrowed := true }
def FnExactAddBigUptoSaid : Prop := fnExactAddBigUptoRow.holds Try.pinned (OpenSpec.upto fnExactAddBigSpec)

/-- 'laws.FnExactLessBig', WHERE WHAT IT READS IS OF BULK AT MOST 1048576: true; the input reads as it did. -/
def fnExactLessBigUptoRow : OpenClaim := { program := "ytcehboknhdmmfaa", sum := "831532ff77ca078186e579495a215261e382480ab8a939377a9e819cc3730ff0", func := "loop.example/g00549/laws.FnExactLessBig", spec := "fnExactLessBig", apart := false, narrowed := true }
def FnExactLessBigUptoSaid : Prop := fnExactLessBigUptoRow.holds Try.pinned (OpenSpec.upto fnExactLessBigSpec)

/-- 'laws.FnExactCompareBig', WHERE WHAT IT READS IS OF BULK AT MOST 1048576: true; the input reads as it did. -/
def fnExactCompareBigUptoRow : OpenClaim := { program := "ytcehboknhdmmfaa", sum := "831532ff77ca078186e579495a215261e382480ab8a939377a9e819cc3730ff0", func := "loop.example/g00549/laws.FnExactCompareBig", spec := "fnExactCompareBig", apart := false, narrowed := true }
def FnExactCompareBigUptoSaid : Prop := fnExactCompareBigUptoRow.holds Try.pinned (OpenSpec.upto fnExactCompareBigSpec)

/-- 'laws.FnExactTimesBig', WHERE WHAT IT READS IS OF BULK AT MOST 1048576: true; the input reads as it did. -/
def fnExactTimesBigUptoRow : OpenClaim := { program := "ytcehboknhdmmfaa", sum := "831532ff77ca078186e579495a215261e382480ab8a939377a9e819cc3730ff0", func := "loop.example/g00549/laws.FnExactTimesBig", spec := "fnExactTimesBig", apart := false, narrowed := true }
def FnExactTimesBigUptoSaid : Prop := fnExactTimesBigUptoRow.holds Try.pinned (OpenSpec.upto fnExactTimesBigSpec)

/-- 'laws.FnExactDivBig', WHERE WHAT IT READS IS OF BULK AT MOST 1048576: true; the input reads as it did. -/
def fnExactDivBigUptoRow : OpenClaim := { program := "ytcehboknhdmmfaa", sum := "831532ff77ca078186e579495a215261e382480ab8a939377a9e819cc3730ff0", func := "loop.example/g00549/laws.FnExactDivBig", spec := "fnExactDivBig", apart := false, narrowed := true }
def FnExactDivBigUptoSaid : Prop := fnExactDivBigUptoRow.holds Try.pinned (OpenSpec.upto fnExactDivBigSpec)

/-- 'laws.FnExactShiftBig', WHERE WHAT IT READS IS OF BULK AT MOST 1048576: true; the input reads as it did. -/
def fnExactShiftBigUptoRow : OpenClaim := { program := "ytcehboknhdmmfaa", sum := "831532ff77ca078186e579495a215261e382480ab8a939377a9e819cc3730ff0", func := "loop.example/g00549/laws.FnExactShiftBig", spec := "fnExactShiftBig", apart := false, narrowed := true }
def FnExactShiftBigUptoSaid : Prop := fnExactShiftBigUptoRow.holds Try.pinned (OpenSpec.upto fnExactShiftBigSpec)

/-- 'laws.FnExactDigitsOf', WHERE WHAT IT READS IS OF BULK AT MOST 1048576: true; the input reads as it did. -/
def fnExactDigitsOfUptoRow : OpenClaim := { program := "ytcehboknhdmmfaa", sum := "831532ff77ca078186e579495a215261e382480ab8a939377a9e819cc3730ff0", func := "loop.example/g00549/laws.FnExactDigitsOf", spec := "fnExactDigitsOf", recurses := true, apart := false, narrowed := true }
def FnExactDigitsOfUptoSaid : Prop := fnExactDigitsOfUptoRow.holds Try.pinned (OpenSpec.upto fnExactDigitsOfSpec)

/-- 'laws.FnExactOfDigits', WHERE WHAT IT READS IS OF BULK AT MOST 1048576: true; the input reads as it did. -/
def fnExactOfDigitsUptoRow : OpenClaim := { program := "ytcehboknhdmmfaa", sum := "831532ff77ca078186e579495a215261e382480ab8a939377a9e819cc3730ff0", func := "loop.example/g00549/laws.FnExactOfDigits", spec := "fnExactOfDigits", apart := false, narrowed := true }
def FnExactOfDigitsUptoSaid : Prop := fnExactOfDigitsUptoRow.holds Try.pinned (OpenSpec.upto fnExactOfDigitsSpec)

/-- 'laws.FnExactHalvesTimes', WHERE WHAT IT READS IS OF BULK AT MOST 1048576: true; the input reads as it did. -/
def fnExactHalvesTimesUptoRow : OpenClaim := { program := "ytcehboknhdmmfaa", sum := "831532ff77ca078186e579495a215261e382480ab8a939377a9e819cc3730ff0", func := "loop.example/g00549/laws.FnExactHalvesTimes", spec := "fnExactHalvesTimes", apart := false, narrowed := true }
def FnExactHalvesTimesUptoSaid : Prop := fnExactHalvesTimesUptoRow.holds Try.pinned (OpenSpec.upto fnExactHalvesTimesSpec)

/-- 'laws.FnExactReduceBig', WHERE WHAT IT READS IS OF BULK AT MOST 1048576: true; the input reads as it did. -/
def fnExactReduceBigUptoRow : OpenClaim := { program := "ytcehboknhdmmfaa", sum := "831532ff77ca078186e579495a215261e382480ab8a939377a9e819cc3730ff0", func := "loop.example/g00549/laws.FnExactReduceBig", spec := "fnExactReduceBig", apart := false, narrowed := true }
def FnExactReduceBigUptoSaid : Prop := fnExactReduceBigUptoRow.holds Try.pinned (OpenSpec.upto fnExactReduceBigSpec)

end Rows
end Go.Proofs.Ytcehboknhdmmfaa
