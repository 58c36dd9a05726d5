/-
  No cell of these rows narrows 'for every input' (looked for: loops, veiled, ifaces, maps, wideKeys, modest, calm, conditions, laid).
  DERIVED. THE GIVEN ROWS OF THIS SEAT. 12 by the template 'for every input the law returns true; each argument reads behind the call as it read before'; 0 by the template 'total and deterministic' (their statements: YtoigapileicelaaTotals.lean).
  GIVEN WITH THE SEED: the statements are not yours to turn. If you find one false, say at which input.
  Laid BY PROGRAM, IN A SANDBOX (cutbox-rows.mjs): the forced cells as the released guide's own fill.sh prints them over the translation 374c8190a094109c… (all of the seat's roots in one cut). By AI agents, Wed Nov 11 2026. No macro, syntax, notation, axiom, sorry.
-/
import Derived.Test.YtoigapileicelaaChecked
import GoSem.Claim
import GoSem.ClaimJoined
import GoSem.ClaimMapViews
import Derived.JoinedTies
import Derived.KernelRfl
namespace Go.Proofs.Ytoigapileicelaa
/- THE CELL 'sum', in the pinned program and in every row, IS THE sha256 OF THE DUMP (.gsa) THAT YtoigapileicelaaProg.lean LOADS. Nothing in Lean hashes anything: it is a label: what it is worth is what the hold of that sum in a sandbox is worth. -/
noncomputable def Try.pinned : Pinned := { name := "ytoigapileicelaa", sum := "374c8190a094109c644d0043284656e7270c0f2599dcb2ce4ce43fc312ebf196", checked := Try.checked }
namespace Rows
def none {H : Type} : Left H := { results := [], args := [] }

/-- 'laws.FnExactRoundOf': WHATEVER THE INPUT: true; the input reads as it did. -/
def fnExactRoundOfSpec : ChangeSpec := { name := "fnExactRoundOf", fn := fun _ => fun
  | [d1, d2] => { results := [.lit (.bool true)], args := [d1, d2] }
  | _ => none }
def fnExactRoundOfRow : OpenClaim := { program := "ytoigapileicelaa", sum := "374c8190a094109c644d0043284656e7270c0f2599dcb2ce4ce43fc312ebf196", func := "loop.example/g00549/laws.FnExactRoundOf", spec := "fnExactRoundOf", apart := false }
def FnExactRoundOfSaid : Prop := fnExactRoundOfRow.holds Try.pinned (OpenSpec.ofChange fnExactRoundOfSpec)

/-- ITS FALSE NEIGHBOUR: 'it returns false'. Refute it at one input. -/
def fnExactRoundOfWrong : ChangeSpec := { name := "fnExactRoundOf", fn := fun _ => fun
  | [d1, d2] => { results := [.lit (.bool false)], args := [d1, d2] }
  | _ => none }
def FnExactRoundOfWrongFalsely : Prop := fnExactRoundOfRow.holds Try.pinned (OpenSpec.ofChange fnExactRoundOfWrong)

/-- 'laws.FnExactOrdersOf': WHATEVER THE INPUT: true; the input reads as it did. -/
def fnExactOrdersOfSpec : ChangeSpec := { name := "fnExactOrdersOf", fn := fun _ => fun
  | [d] => { results := [.lit (.bool true)], args := [d] }
  | _ => none }
def fnExactOrdersOfRow : OpenClaim := { program := "ytoigapileicelaa", sum := "374c8190a094109c644d0043284656e7270c0f2599dcb2ce4ce43fc312ebf196", func := "loop.example/g00549/laws.FnExactOrdersOf", spec := "fnExactOrdersOf", apart := false }
def FnExactOrdersOfSaid : Prop := fnExactOrdersOfRow.holds Try.pinned (OpenSpec.ofChange fnExactOrdersOfSpec)

/-- ITS FALSE NEIGHBOUR: 'it returns false'. Refute it at one input. -/
def fnExactOrdersOfWrong : ChangeSpec := { name := "fnExactOrdersOf", fn := fun _ => fun
  | [d] => { results := [.lit (.bool false)], args := [d] }
  | _ => none }
def FnExactOrdersOfWrongFalsely : Prop := fnExactOrdersOfRow.holds Try.pinned (OpenSpec.ofChange fnExactOrdersOfWrong)

/-- 'laws.FnExactMixBlock': WHATEVER THE INPUT: true; the input reads as it did. -/
def fnExactMixBlockSpec : ChangeSpec := { name := "fnExactMixBlock", fn := fun _ => fun
  | [d1, d2] => { results := [.lit (.bool true)], args := [d1, d2] }
  | _ => none }
def fnExactMixBlockRow : OpenClaim := { program := "ytoigapileicelaa", sum := "374c8190a094109c644d0043284656e7270c0f2599dcb2ce4ce43fc312ebf196", func := "loop.example/g00549/laws.FnExactMixBlock", spec := "fnExactMixBlock", apart := false }
def FnExactMixBlockSaid : Prop := fnExactMixBlockRow.holds Try.pinned (OpenSpec.ofChange fnExactMixBlockSpec)

/-- ITS FALSE NEIGHBOUR: 'it returns false'. Refute it at one input. -/
def fnExactMixBlockWrong : ChangeSpec := { name := "fnExactMixBlock", fn := fun _ => fun
  | [d1, d2] => { results := [.lit (.bool false)], args := [d1, d2] }
  | _ => none }
def FnExactMixBlockWrongFalsely : Prop := fnExactMixBlockRow.holds Try.pinned (OpenSpec.ofChange fnExactMixBlockWrong)

/-- 'laws.FnExactUnmixBlock': WHATEVER THE INPUT: true; the input reads as it did. -/
def fnExactUnmixBlockSpec : ChangeSpec := { name := "fnExactUnmixBlock", fn := fun _ => fun
  | [d1, d2] => { results := [.lit (.bool true)], args := [d1, d2] }
  | _ => none }
def fnExactUnmixBlockRow : OpenClaim := { program := "ytoigapileicelaa", sum := "374c8190a094109c644d0043284656e7270c0f2599dcb2ce4ce43fc312ebf196", func := "loop.example/g00549/laws.FnExactUnmixBlock", spec := "fnExactUnmixBlock", apart := false }
def FnExactUnmixBlockSaid : Prop := fnExactUnmixBlockRow.holds Try.pinned (OpenSpec.ofChange fnExactUnmixBlockSpec)

/-- ITS FALSE NEIGHBOUR: 'it returns false'. Refute it at one input. -/
def fnExactUnmixBlockWrong : ChangeSpec := { name := "fnExactUnmixBlock", fn := fun _ => fun
  | [d1, d2] => { results := [.lit (.bool false)], args := [d1, d2] }
  | _ => none }
def FnExactUnmixBlockWrongFalsely : Prop := fnExactUnmixBlockRow.holds Try.pinned (OpenSpec.ofChange fnExactUnmixBlockWrong)

/-- 'laws.FnExactOrderAt': WHATEVER THE INPUT: true; the input reads as it did. -/
def fnExactOrderAtSpec : ChangeSpec := { name := "fnExactOrderAt", fn := fun _ => fun
  | [d1, d2] => { results := [.lit (.bool true)], args := [d1, d2] }
  | _ => none }
def fnExactOrderAtRow : OpenClaim := { program := "ytoigapileicelaa", sum := "374c8190a094109c644d0043284656e7270c0f2599dcb2ce4ce43fc312ebf196", func := "loop.example/g00549/laws.FnExactOrderAt", spec := "fnExactOrderAt", apart := false }
def FnExactOrderAtSaid : Prop := fnExactOrderAtRow.holds Try.pinned (OpenSpec.ofChange fnExactOrderAtSpec)

/-- ITS FALSE NEIGHBOUR: 'it returns false'. Refute it at one input. -/
def fnExactOrderAtWrong : ChangeSpec := { name := "fnExactOrderAt", fn := fun _ => fun
  | [d1, d2] => { results := [.lit (.bool false)], args := [d1, d2] }
  | _ => none }
def FnExactOrderAtWrongFalsely : Prop := fnExactOrderAtRow.holds Try.pinned (OpenSpec.ofChange fnExactOrderAtWrong)

/-- 'laws.FnExactMixText': WHATEVER THE INPUT: true; the input reads as it did. -/
def fnExactMixTextSpec : ChangeSpec := { name := "fnExactMixText", fn := fun _ => fun
  | [d1, d2, d3] => { results := [.lit (.bool true)], args := [d1, d2, d3] }
  | _ => none }
def fnExactMixTextRow : OpenClaim := { program := "ytoigapileicelaa", sum := "374c8190a094109c644d0043284656e7270c0f2599dcb2ce4ce43fc312ebf196", func := "loop.example/g00549/laws.FnExactMixText", spec := "fnExactMixText", apart := false }
def FnExactMixTextSaid : Prop := fnExactMixTextRow.holds Try.pinned (OpenSpec.ofChange fnExactMixTextSpec)

/-- ITS FALSE NEIGHBOUR: 'it returns false'. Refute it at one input. -/
def fnExactMixTextWrong : ChangeSpec := { name := "fnExactMixText", fn := fun _ => fun
  | [d1, d2, d3] => { results := [.lit (.bool false)], args := [d1, d2, d3] }
  | _ => none }
def FnExactMixTextWrongFalsely : Prop := fnExactMixTextRow.holds Try.pinned (OpenSpec.ofChange fnExactMixTextWrong)

/-- 'laws.FnExactUnmixText': WHATEVER THE INPUT: true; the input reads as it did. -/
def fnExactUnmixTextSpec : ChangeSpec := { name := "fnExactUnmixText", fn := fun _ => fun
  | [d1, d2, d3] => { results := [.lit (.bool true)], args := [d1, d2, d3] }
  | _ => none }
def fnExactUnmixTextRow : OpenClaim := { program := "ytoigapileicelaa", sum := "374c8190a094109c644d0043284656e7270c0f2599dcb2ce4ce43fc312ebf196", func := "loop.example/g00549/laws.FnExactUnmixText", spec := "fnExactUnmixText", apart := false }
def FnExactUnmixTextSaid : Prop := fnExactUnmixTextRow.holds Try.pinned (OpenSpec.ofChange fnExactUnmixTextSpec)

/-- ITS FALSE NEIGHBOUR: 'it returns false'. Refute it at one input. -/
def fnExactUnmixTextWrong : ChangeSpec := { name := "fnExactUnmixText", fn := fun _ => fun
  | [d1, d2, d3] => { results := [.lit (.bool false)], args := [d1, d2, d3] }
  | _ => none }
def FnExactUnmixTextWrongFalsely : Prop := fnExactUnmixTextRow.holds Try.pinned (OpenSpec.ofChange fnExactUnmixTextWrong)

/-- 'laws.FnExactShuffleBy': WHATEVER THE INPUT: true; the input reads as it did. -/
def fnExactShuffleBySpec : ChangeSpec := { name := "fnExactShuffleBy", fn := fun _ => fun
  | [d1, d2] => { results := [.lit (.bool true)], args := [d1, d2] }
  | _ => none }
def fnExactShuffleByRow : OpenClaim := { program := "ytoigapileicelaa", sum := "374c8190a094109c644d0043284656e7270c0f2599dcb2ce4ce43fc312ebf196", func := "loop.example/g00549/laws.FnExactShuffleBy", spec := "fnExactShuffleBy", apart := false }
def FnExactShuffleBySaid : Prop := fnExactShuffleByRow.holds Try.pinned (OpenSpec.ofChange fnExactShuffleBySpec)

/-- ITS FALSE NEIGHBOUR: 'it returns false'. Refute it at one input. -/
def fnExactShuffleByWrong : ChangeSpec := { name := "fnExactShuffleBy", fn := fun _ => fun
  | [d1, d2] => { results := [.lit (.bool false)], args := [d1, d2] }
  | _ => none }
def FnExactShuffleByWrongFalsely : Prop := fnExactShuffleByRow.holds Try.pinned (OpenSpec.ofChange fnExactShuffleByWrong)

/-- 'laws.FnMixed': WHATEVER THE INPUT: true; the input reads as it did. -/
def fnMixedSpec : ChangeSpec := { name := "fnMixed", fn := fun _ => fun
  | [d1, d2] => { results := [.lit (.bool true)], args := [d1, d2] }
  | _ => none }
def fnMixedRow : OpenClaim := { program := "ytoigapileicelaa", sum := "374c8190a094109c644d0043284656e7270c0f2599dcb2ce4ce43fc312ebf196", func := "loop.example/g00549/laws.FnMixed", spec := "fnMixed", apart := false }
def FnMixedSaid : Prop := fnMixedRow.holds Try.pinned (OpenSpec.ofChange fnMixedSpec)

/-- ITS FALSE NEIGHBOUR: 'it returns false'. Refute it at one input. -/
def fnMixedWrong : ChangeSpec := { name := "fnMixed", fn := fun _ => fun
  | [d1, d2] => { results := [.lit (.bool false)], args := [d1, d2] }
  | _ => none }
def FnMixedWrongFalsely : Prop := fnMixedRow.holds Try.pinned (OpenSpec.ofChange fnMixedWrong)

/-- 'laws.FnExactSealAgain': WHATEVER THE INPUT: true; the input reads as it did. -/
def fnExactSealAgainSpec : ChangeSpec := { name := "fnExactSealAgain", fn := fun _ => fun
  | [d1, d2, d3] => { results := [.lit (.bool true)], args := [d1, d2, d3] }
  | _ => none }
def fnExactSealAgainRow : OpenClaim := { program := "ytoigapileicelaa", sum := "374c8190a094109c644d0043284656e7270c0f2599dcb2ce4ce43fc312ebf196", func := "loop.example/g00549/laws.FnExactSealAgain", spec := "fnExactSealAgain", apart := false }
def FnExactSealAgainSaid : Prop := fnExactSealAgainRow.holds Try.pinned (OpenSpec.ofChange fnExactSealAgainSpec)

/-- ITS FALSE NEIGHBOUR: 'it returns false'. Refute it at one input. -/
def fnExactSealAgainWrong : ChangeSpec := { name := "fnExactSealAgain", fn := fun _ => fun
  | [d1, d2, d3] => { results := [.lit (.bool false)], args := [d1, d2, d3] }
  | _ => none }
def FnExactSealAgainWrongFalsely : Prop := fnExactSealAgainRow.holds Try.pinned (OpenSpec.ofChange fnExactSealAgainWrong)

/-- 'laws.FnExactKeyOf': WHATEVER THE INPUT: true; the input reads as it did. -/
def fnExactKeyOfSpec : ChangeSpec := { name := "fnExactKeyOf", fn := fun _ => fun
  | [d] => { results := [.lit (.bool true)], args := [d] }
  | _ => none }
def fnExactKeyOfRow : OpenClaim := { program := "ytoigapileicelaa", sum := "374c8190a094109c644d0043284656e7270c0f2599dcb2ce4ce43fc312ebf196", func := "loop.example/g00549/laws.FnExactKeyOf", spec := "fnExactKeyOf", apart := false }
def FnExactKeyOfSaid : Prop := fnExactKeyOfRow.holds Try.pinned (OpenSpec.ofChange fnExactKeyOfSpec)

/-- ITS FALSE NEIGHBOUR: 'it returns false'. Refute it at one input. -/
def fnExactKeyOfWrong : ChangeSpec := { name := "fnExactKeyOf", fn := fun _ => fun
  | [d] => { results := [.lit (.bool false)], args := [d] }
  | _ => none }
def FnExactKeyOfWrongFalsely : Prop := fnExactKeyOfRow.holds Try.pinned (OpenSpec.ofChange fnExactKeyOfWrong)

/-- 'laws.FnShared': WHATEVER THE INPUT: true; the input reads as it did. -/
def fnSharedSpec : ChangeSpec := { name := "fnShared", fn := fun _ => fun
  | [d1, d2] => { results := [.lit (.bool true)], args := [d1, d2] }
  | _ => none }
def fnSharedRow : OpenClaim := { program := "ytoigapileicelaa", sum := "374c8190a094109c644d0043284656e7270c0f2599dcb2ce4ce43fc312ebf196", func := "loop.example/g00549/laws.FnShared", spec := "fnShared", apart := false }
def FnSharedSaid : Prop := fnSharedRow.holds Try.pinned (OpenSpec.ofChange fnSharedSpec)

/-- ITS FALSE NEIGHBOUR: 'it returns false'. Refute it at one input. -/
def fnSharedWrong : ChangeSpec := { name := "fnShared", fn := fun _ => fun
  | [d1, d2] => { results := [.lit (.bool false)], args := [d1, d2] }
  | _ => none }
def FnSharedWrongFalsely : Prop := fnSharedRow.holds Try.pinned (OpenSpec.ofChange fnSharedWrong)

/- THE SECOND FORM. 'bulk': how many values and letters a reading holds, each counted each time it is reached (what is shared counts as often as it is met; a slice's spare places count too). A statement '..UptoSaid' is the law's where the arguments, and the package variables that the reading takes, are together of bulk at most 1048576: NARROWER than '..Said'. Prove '..Said' where nothing that the law and all that it calls make is longer than what came in: it says more and counts as full. Else prove '..UptoSaid'. A law counts once. -/
mutual
def uptoBulk {H : Type} : DataW H → Nat
  | .lit (.string bytes) => bytes.length + 1
  | .lit _ => 1
  | .nil => 1
  | .ptr d => uptoBulk d + 1
  | .slice elems spare => uptoBulkAll elems + uptoBulkAll spare + 1
  | .agg parts => uptoBulkAll parts + 1
  | .iface _ d => uptoBulk d + 1
  | .map entries => uptoBulkEntries entries + 1
  | .held _ => 1
def uptoBulkAll {H : Type} : List (DataW H) → Nat
  | [] => 0
  | d :: r => uptoBulk d + uptoBulkAll r
def uptoBulkEntries {H : Type} : List (Lit × DataW H) → Nat
  | [] => 0
  | x :: r => uptoBulkEntry x + uptoBulkEntries r
def uptoBulkEntry {H : Type} : Lit × DataW H → Nat
  | (.string bytes, d) => bytes.length + uptoBulk d + 1
  | (_, d) => uptoBulk d + 1
 end
def uptoSmall : (H : Type) → List (DataW H) → Bool := fun _ ds => decide (uptoBulkAll ds ≤ 1048576)
def OpenSpec.upto (s : _root_.Go.ChangeSpec) : _root_.Go.OpenSpec := { _root_.Go.OpenSpec.ofChange s with cond := some uptoSmall }

/-- 'laws.FnExactRoundOf', WHERE WHAT IT READS IS OF BULK AT MOST 1048576: true; the input reads as it did. -/
def fnExactRoundOfUptoRow : OpenClaim := { program := "ytoigapileicelaa", sum := "374c8190a094109c644d0043284656e7270c0f2599dcb2ce4ce43fc312ebf196", func := "loop.example/g00549/laws.FnExactRoundOf", spec := "fnExactRoundOf", apart := false, narrowed := true }
def FnExactRoundOfUptoSaid : Prop := fnExactRoundOfUptoRow.holds Try.pinned (OpenSpec.upto fnExactRoundOfSpec)

/-- 'laws.FnExactOrdersOf', WHERE WHAT IT READS IS OF BULK AT MOST 1048576: true; the input reads as it did. -/
def fnExactOrdersOfUptoRow : OpenClaim := { program := "ytoigapileicelaa", sum := "374c8190a094109c644d0043284656e7270c0f2599dcb2ce4ce43fc312ebf196", func := "loop.example/g00549/laws.FnExactOrdersOf", spec := "fnExactOrdersOf", apart := false, narrowed := true }
def FnExactOrdersOfUptoSaid : Prop := fnExactOrdersOfUptoRow.holds Try.pinned (OpenSpec.upto fnExactOrdersOfSpec)

/-- 'laws.FnExactMixBlock', WHERE WHAT IT READS IS OF BULK AT MOST 1048576: true; the input reads as it did. -/
def fnExactMixBlockUptoRow : OpenClaim := { program := "ytoigapileicelaa", sum := "374c8190a094109c644d0043284656e7270c0f2599dcb2ce4ce43fc312ebf196", func := "loop.example/g00549/laws.FnExactMixBlock", spec := "fnExactMixBlock", apart := false, narrowed := true }
def FnExactMixBlockUptoSaid : Prop := fnExactMixBlockUptoRow.holds Try.pinned (OpenSpec.upto fnExactMixBlockSpec)

/-- 'laws.FnExactUnmixBlock', WHERE WHAT IT READS IS OF BULK AT MOST 1048576: true; the input reads as it did. -/
def fnExactUnmixBlockUptoRow : OpenClaim := { program := "ytoigapileicelaa", sum := "374c8190a094109c644d0043284656e7270c0f2599dcb2ce4ce43fc312ebf196", func := "loop.example/g00549/laws.FnExactUnmixBlock", spec := "fnExactUnmixBlock", apart := false, narrowed := true }
def FnExactUnmixBlockUptoSaid : Prop := fnExactUnmixBlockUptoRow.holds Try.pinned (OpenSpec.upto fnExactUnmixBlockSpec)

/-- 'laws.FnExactOrderAt', WHERE WHAT IT READS IS OF BULK AT MOST 1048576: true; the input reads as it did. -/
def fnExactOrderAtUptoRow : OpenClaim := { program := "ytoigapileicelaa", sum := "374c8190a094109c644d0043284656e7270c0f2599dcb2ce4ce43fc312ebf196", func := "loop.example/g00549/laws.FnExactOrderAt", spec := "fnExactOrderAt", apart := false, narrowed := true }
def FnExactOrderAtUptoSaid : Prop := fnExactOrderAtUptoRow.holds Try.pinned (OpenSpec.upto fnExactOrderAtSpec)

/-- 'laws.FnExactMixText', WHERE WHAT IT READS IS OF BULK AT MOST 1048576: true; the input reads as it did. -/
def fnExactMixTextUptoRow : OpenClaim := { program := "ytoigapileicelaa", sum := "374c8190a094109c644d0043284656e7270c0f2599dcb2ce4ce43fc312ebf196", func := "loop.example/g00549/laws.FnExactMixText", spec := "fnExactMixText", apart := false, narrowed := true }
def FnExactMixTextUptoSaid : Prop := fnExactMixTextUptoRow.holds Try.pinned (OpenSpec.upto fnExactMixTextSpec)

/-- 'laws.FnExactUnmixText', WHERE WHAT IT READS IS OF BULK AT MOST 1048576: true; the input reads as it did. -/
def fnExactUnmixTextUptoRow : OpenClaim := { program := "ytoigapileicelaa", sum := "374c8190a094109c644d0043284656e7270c0f2599dcb2ce4ce43fc312ebf196", func := "loop.example/g00549/laws.FnExactUnmixText", spec := "fnExactUnmixText", apart := false, narrowed := true }
def FnExactUnmixTextUptoSaid : Prop := fnExactUnmixTextUptoRow.holds Try.pinned (OpenSpec.upto fnExactUnmixTextSpec)

/-- 'laws.FnExactShuffleBy', WHERE WHAT IT READS IS OF BULK AT MOST 1048576: true; the input reads as it did. -/
def fnExactShuffleByUptoRow : OpenClaim := { program := "ytoigapileicelaa", sum := "374c8190a094109c644d0043284656e7270c0f2599dcb2ce4ce43fc312ebf196", func := "loop.example/g00549/laws.FnExactShuffleBy", spec := "fnExactShuffleBy", apart := false, narrowed := true }
def FnExactShuffleByUptoSaid : Prop := fnExactShuffleByUptoRow.holds Try.pinned (OpenSpec.upto fnExactShuffleBySpec)

/-- 'laws.FnMixed', WHERE WHAT IT READS IS OF BULK AT MOST 1048576: true; the input reads as it did. -/
def fnMixedUptoRow : OpenClaim := { program := "ytoigapileicelaa", sum := "374c8190a094109c644d0043284656e7270c0f2599dcb2ce4ce43fc312ebf196", func := "loop.example/g00549/laws.FnMixed", spec := "fnMixed", apart := false, narrowed := true }
def FnMixedUptoSaid : Prop := fnMixedUptoRow.holds Try.pinned (OpenSpec.upto fnMixedSpec)

/-- 'laws.FnExactSealAgain', WHERE WHAT IT READS IS OF BULK AT MOST 1048576: true; the input reads as it did. -/
def fnExactSealAgainUptoRow : OpenClaim := { program := "ytoigapileicelaa", sum := "374c8190a094109c644d0043284656e7270c0f2599dcb2ce4ce43fc312ebf196", func := "loop.example/g00549/laws.FnExactSealAgain", spec := "fnExactSealAgain", apart := false, narrowed := true }
def FnExactSealAgainUptoSaid : Prop := fnExactSealAgainUptoRow.holds Try.pinned (OpenSpec.upto fnExactSealAgainSpec)

/-- 'laws.FnExactKeyOf', WHERE WHAT IT READS IS OF BULK AT MOST 1048576: true; the input reads as it did. -/
def fnExactKeyOfUptoRow : OpenClaim := { program := "ytoigapileicelaa", sum := "374c8190a094109c644d0043284656e7270c0f2599dcb2ce4ce43fc312ebf196", func := "loop.example/g00549/laws.FnExactKeyOf", spec := "fnExactKeyOf", apart := false, narrowed := true }
def FnExactKeyOfUptoSaid : Prop := fnExactKeyOfUptoRow.holds Try.pinned (OpenSpec.upto fnExactKeyOfSpec)

/-- 'laws.FnShared', WHERE WHAT IT READS IS OF BULK AT MOST 1048576: true; the input reads as it did. -/
def fnSharedUptoRow : OpenClaim := { program := "ytoigapileicelaa", sum := "374c8190a094109c644d0043284656e7270c0f2599dcb2ce4ce43fc312ebf196", func := "loop.example/g00549/laws.FnShared", spec := "fnShared", apart := false, narrowed := true }
def FnSharedUptoSaid : Prop := fnSharedUptoRow.holds Try.pinned (OpenSpec.upto fnSharedSpec)

end Rows
end Go.Proofs.Ytoigapileicelaa
