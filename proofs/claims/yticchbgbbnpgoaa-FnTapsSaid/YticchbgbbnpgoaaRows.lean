/-
  No cell of these rows narrows 'for every input' (looked for: loops, veiled, ifaces, maps, wideKeys, modest, calm, conditions, laid).
  DERIVED. THE GIVEN ROWS OF THIS SEAT. 11 by the template 'for every input the law returns true; each argument reads behind the call as it read before'; 0 by the template 'total and deterministic' (their statements: YticchbgbbnpgoaaTotals.lean).
  GIVEN WITH THE SEED: the statements are not yours to turn. If you find one false, say at which input.
  Laid BY PROGRAM, IN A SANDBOX (cutbox-rows.mjs): the forced cells as the released guide's own fill.sh prints them over the translation a644d1c52e958829… (all of the seat's roots in one cut). By AI agents, Wed Nov 11 2026. No macro, syntax, notation, axiom, sorry.
-/
import Derived.Test.YticchbgbbnpgoaaChecked
import GoSem.Claim
import GoSem.ClaimJoined
import GoSem.ClaimMapViews
import Derived.JoinedTies
import Derived.KernelRfl
namespace Go.Proofs.Yticchbgbbnpgoaa
/- THE CELL 'sum', in the pinned program and in every row, IS THE sha256 OF THE DUMP (.gsa) THAT YticchbgbbnpgoaaProg.lean LOADS. Nothing in Lean hashes anything: it is a label: what it is worth is what the hold of that sum in a sandbox is worth. -/
noncomputable def Try.pinned : Pinned := { name := "yticchbgbbnpgoaa", sum := "a644d1c52e958829f7d1b4d5558aa092fdc8b7eee50a802680f16097164cb4ff", checked := Try.checked }
namespace Rows
def none {H : Type} : Left H := { results := [], args := [] }

/-- 'laws.FnExactTextOf': WHATEVER THE INPUT: true; the input reads as it did. -/
def fnExactTextOfSpec : ChangeSpec := { name := "fnExactTextOf", fn := fun _ => fun
  | [d] => { results := [.lit (.bool true)], args := [d] }
  | _ => none }
def fnExactTextOfRow : OpenClaim := { program := "yticchbgbbnpgoaa", sum := "a644d1c52e958829f7d1b4d5558aa092fdc8b7eee50a802680f16097164cb4ff", func := "loop.example/g00549/laws.FnExactTextOf", spec := "fnExactTextOf", apart := false }
def FnExactTextOfSaid : Prop := fnExactTextOfRow.holds Try.pinned (OpenSpec.ofChange fnExactTextOfSpec)

/-- ITS FALSE NEIGHBOUR: 'it returns false'. Refute it at one input. -/
def fnExactTextOfWrong : ChangeSpec := { name := "fnExactTextOf", fn := fun _ => fun
  | [d] => { results := [.lit (.bool false)], args := [d] }
  | _ => none }
def FnExactTextOfWrongFalsely : Prop := fnExactTextOfRow.holds Try.pinned (OpenSpec.ofChange fnExactTextOfWrong)

/-- 'laws.FnExactGoodTaps': WHATEVER THE INPUT: true; the input reads as it did. -/
def fnExactGoodTapsSpec : ChangeSpec := { name := "fnExactGoodTaps", fn := fun _ => fun
  | [d] => { results := [.lit (.bool true)], args := [d] }
  | _ => none }
def fnExactGoodTapsRow : OpenClaim := { program := "yticchbgbbnpgoaa", sum := "a644d1c52e958829f7d1b4d5558aa092fdc8b7eee50a802680f16097164cb4ff", func := "loop.example/g00549/laws.FnExactGoodTaps", spec := "fnExactGoodTaps", apart := false }
def FnExactGoodTapsSaid : Prop := fnExactGoodTapsRow.holds Try.pinned (OpenSpec.ofChange fnExactGoodTapsSpec)

/-- ITS FALSE NEIGHBOUR: 'it returns false'. Refute it at one input. -/
def fnExactGoodTapsWrong : ChangeSpec := { name := "fnExactGoodTaps", fn := fun _ => fun
  | [d] => { results := [.lit (.bool false)], args := [d] }
  | _ => none }
def FnExactGoodTapsWrongFalsely : Prop := fnExactGoodTapsRow.holds Try.pinned (OpenSpec.ofChange fnExactGoodTapsWrong)

/-- 'laws.FnExactBitsOf': WHATEVER THE INPUT: true; the input reads as it did. -/
def fnExactBitsOfSpec : ChangeSpec := { name := "fnExactBitsOf", fn := fun _ => fun
  | [d] => { results := [.lit (.bool true)], args := [d] }
  | _ => none }
def fnExactBitsOfRow : OpenClaim := { program := "yticchbgbbnpgoaa", sum := "a644d1c52e958829f7d1b4d5558aa092fdc8b7eee50a802680f16097164cb4ff", func := "loop.example/g00549/laws.FnExactBitsOf", spec := "fnExactBitsOf", apart := false }
def FnExactBitsOfSaid : Prop := fnExactBitsOfRow.holds Try.pinned (OpenSpec.ofChange fnExactBitsOfSpec)

/-- ITS FALSE NEIGHBOUR: 'it returns false'. Refute it at one input. -/
def fnExactBitsOfWrong : ChangeSpec := { name := "fnExactBitsOf", fn := fun _ => fun
  | [d] => { results := [.lit (.bool false)], args := [d] }
  | _ => none }
def FnExactBitsOfWrongFalsely : Prop := fnExactBitsOfRow.holds Try.pinned (OpenSpec.ofChange fnExactBitsOfWrong)

/-- 'laws.FnExactShortestTaps': WHATEVER THE INPUT: true; the input reads as it did. -/
def fnExactShortestTapsSpec : ChangeSpec := { name := "fnExactShortestTaps", fn := fun _ => fun
  | [d] => { results := [.lit (.bool true)], args := [d] }
  | _ => none }
def fnExactShortestTapsRow : OpenClaim := { program := "yticchbgbbnpgoaa", sum := "a644d1c52e958829f7d1b4d5558aa092fdc8b7eee50a802680f16097164cb4ff", func := "loop.example/g00549/laws.FnExactShortestTaps", spec := "fnExactShortestTaps", recurses := true, apart := false }
def FnExactShortestTapsSaid : Prop := fnExactShortestTapsRow.holds Try.pinned (OpenSpec.ofChange fnExactShortestTapsSpec)

/-- ITS FALSE NEIGHBOUR: 'it returns false'. Refute it at one input. -/
def fnExactShortestTapsWrong : ChangeSpec := { name := "fnExactShortestTaps", fn := fun _ => fun
  | [d] => { results := [.lit (.bool false)], args := [d] }
  | _ => none }
def FnExactShortestTapsWrongFalsely : Prop := fnExactShortestTapsRow.holds Try.pinned (OpenSpec.ofChange fnExactShortestTapsWrong)

/-- 'laws.FnExactUnlikeBits': WHATEVER THE INPUT: true; the input reads as it did. -/
def fnExactUnlikeBitsSpec : ChangeSpec := { name := "fnExactUnlikeBits", fn := fun _ => fun
  | [d1, d2] => { results := [.lit (.bool true)], args := [d1, d2] }
  | _ => none }
def fnExactUnlikeBitsRow : OpenClaim := { program := "yticchbgbbnpgoaa", sum := "a644d1c52e958829f7d1b4d5558aa092fdc8b7eee50a802680f16097164cb4ff", func := "loop.example/g00549/laws.FnExactUnlikeBits", spec := "fnExactUnlikeBits", apart := false }
def FnExactUnlikeBitsSaid : Prop := fnExactUnlikeBitsRow.holds Try.pinned (OpenSpec.ofChange fnExactUnlikeBitsSpec)

/-- ITS FALSE NEIGHBOUR: 'it returns false'. Refute it at one input. -/
def fnExactUnlikeBitsWrong : ChangeSpec := { name := "fnExactUnlikeBits", fn := fun _ => fun
  | [d1, d2] => { results := [.lit (.bool false)], args := [d1, d2] }
  | _ => none }
def FnExactUnlikeBitsWrongFalsely : Prop := fnExactUnlikeBitsRow.holds Try.pinned (OpenSpec.ofChange fnExactUnlikeBitsWrong)

/-- 'laws.FnTaps': WHATEVER THE INPUT: true; the input reads as it did. -/
def fnTapsSpec : ChangeSpec := { name := "fnTaps", fn := fun _ => fun
  | [d1, d2] => { results := [.lit (.bool true)], args := [d1, d2] }
  | _ => none }
def fnTapsRow : OpenClaim := { program := "yticchbgbbnpgoaa", sum := "a644d1c52e958829f7d1b4d5558aa092fdc8b7eee50a802680f16097164cb4ff", func := "loop.example/g00549/laws.FnTaps", spec := "fnTaps", recurses := true, apart := false }
def FnTapsSaid : Prop := fnTapsRow.holds Try.pinned (OpenSpec.ofChange fnTapsSpec)

/-- ITS FALSE NEIGHBOUR: 'it returns false'. Refute it at one input. -/
def fnTapsWrong : ChangeSpec := { name := "fnTaps", fn := fun _ => fun
  | [d1, d2] => { results := [.lit (.bool false)], args := [d1, d2] }
  | _ => none }
def FnTapsWrongFalsely : Prop := fnTapsRow.holds Try.pinned (OpenSpec.ofChange fnTapsWrong)

/-- 'laws.FnExactRunsOf': WHATEVER THE INPUT: true; the input reads as it did. -/
def fnExactRunsOfSpec : ChangeSpec := { name := "fnExactRunsOf", fn := fun _ => fun
  | [d] => { results := [.lit (.bool true)], args := [d] }
  | _ => none }
def fnExactRunsOfRow : OpenClaim := { program := "yticchbgbbnpgoaa", sum := "a644d1c52e958829f7d1b4d5558aa092fdc8b7eee50a802680f16097164cb4ff", func := "loop.example/g00549/laws.FnExactRunsOf", spec := "fnExactRunsOf", apart := false }
def FnExactRunsOfSaid : Prop := fnExactRunsOfRow.holds Try.pinned (OpenSpec.ofChange fnExactRunsOfSpec)

/-- ITS FALSE NEIGHBOUR: 'it returns false'. Refute it at one input. -/
def fnExactRunsOfWrong : ChangeSpec := { name := "fnExactRunsOf", fn := fun _ => fun
  | [d] => { results := [.lit (.bool false)], args := [d] }
  | _ => none }
def FnExactRunsOfWrongFalsely : Prop := fnExactRunsOfRow.holds Try.pinned (OpenSpec.ofChange fnExactRunsOfWrong)

/-- 'laws.FnExactMakesBits': WHATEVER THE INPUT: true; the input reads as it did. -/
def fnExactMakesBitsSpec : ChangeSpec := { name := "fnExactMakesBits", fn := fun _ => fun
  | [d1, d2, d3] => { results := [.lit (.bool true)], args := [d1, d2, d3] }
  | _ => none }
def fnExactMakesBitsRow : OpenClaim := { program := "yticchbgbbnpgoaa", sum := "a644d1c52e958829f7d1b4d5558aa092fdc8b7eee50a802680f16097164cb4ff", func := "loop.example/g00549/laws.FnExactMakesBits", spec := "fnExactMakesBits", apart := false }
def FnExactMakesBitsSaid : Prop := fnExactMakesBitsRow.holds Try.pinned (OpenSpec.ofChange fnExactMakesBitsSpec)

/-- ITS FALSE NEIGHBOUR: 'it returns false'. Refute it at one input. -/
def fnExactMakesBitsWrong : ChangeSpec := { name := "fnExactMakesBits", fn := fun _ => fun
  | [d1, d2, d3] => { results := [.lit (.bool false)], args := [d1, d2, d3] }
  | _ => none }
def FnExactMakesBitsWrongFalsely : Prop := fnExactMakesBitsRow.holds Try.pinned (OpenSpec.ofChange fnExactMakesBitsWrong)

/-- 'laws.FnExactStreamOf': WHATEVER THE INPUT: true; the input reads as it did. -/
def fnExactStreamOfSpec : ChangeSpec := { name := "fnExactStreamOf", fn := fun _ => fun
  | [d1, d2, d3] => { results := [.lit (.bool true)], args := [d1, d2, d3] }
  | _ => none }
def fnExactStreamOfRow : OpenClaim := { program := "yticchbgbbnpgoaa", sum := "a644d1c52e958829f7d1b4d5558aa092fdc8b7eee50a802680f16097164cb4ff", func := "loop.example/g00549/laws.FnExactStreamOf", spec := "fnExactStreamOf", apart := false }
def FnExactStreamOfSaid : Prop := fnExactStreamOfRow.holds Try.pinned (OpenSpec.ofChange fnExactStreamOfSpec)

/-- ITS FALSE NEIGHBOUR: 'it returns false'. Refute it at one input. -/
def fnExactStreamOfWrong : ChangeSpec := { name := "fnExactStreamOf", fn := fun _ => fun
  | [d1, d2, d3] => { results := [.lit (.bool false)], args := [d1, d2, d3] }
  | _ => none }
def FnExactStreamOfWrongFalsely : Prop := fnExactStreamOfRow.holds Try.pinned (OpenSpec.ofChange fnExactStreamOfWrong)

/-- 'laws.FnExactPeriodOf': WHATEVER THE INPUT: true; the input reads as it did. -/
def fnExactPeriodOfSpec : ChangeSpec := { name := "fnExactPeriodOf", fn := fun _ => fun
  | [d1, d2] => { results := [.lit (.bool true)], args := [d1, d2] }
  | _ => none }
def fnExactPeriodOfRow : OpenClaim := { program := "yticchbgbbnpgoaa", sum := "a644d1c52e958829f7d1b4d5558aa092fdc8b7eee50a802680f16097164cb4ff", func := "loop.example/g00549/laws.FnExactPeriodOf", spec := "fnExactPeriodOf", apart := false }
def FnExactPeriodOfSaid : Prop := fnExactPeriodOfRow.holds Try.pinned (OpenSpec.ofChange fnExactPeriodOfSpec)

/-- ITS FALSE NEIGHBOUR: 'it returns false'. Refute it at one input. -/
def fnExactPeriodOfWrong : ChangeSpec := { name := "fnExactPeriodOf", fn := fun _ => fun
  | [d1, d2] => { results := [.lit (.bool false)], args := [d1, d2] }
  | _ => none }
def FnExactPeriodOfWrongFalsely : Prop := fnExactPeriodOfRow.holds Try.pinned (OpenSpec.ofChange fnExactPeriodOfWrong)

/-- 'laws.FnStreams': WHATEVER THE INPUT: true; the input reads as it did. -/
def fnStreamsSpec : ChangeSpec := { name := "fnStreams", fn := fun _ => fun
  | [d1, d2] => { results := [.lit (.bool true)], args := [d1, d2] }
  | _ => none }
def fnStreamsRow : OpenClaim := { program := "yticchbgbbnpgoaa", sum := "a644d1c52e958829f7d1b4d5558aa092fdc8b7eee50a802680f16097164cb4ff", func := "loop.example/g00549/laws.FnStreams", spec := "fnStreams", apart := false }
def FnStreamsSaid : Prop := fnStreamsRow.holds Try.pinned (OpenSpec.ofChange fnStreamsSpec)

/-- ITS FALSE NEIGHBOUR: 'it returns false'. Refute it at one input. -/
def fnStreamsWrong : ChangeSpec := { name := "fnStreams", fn := fun _ => fun
  | [d1, d2] => { results := [.lit (.bool false)], args := [d1, d2] }
  | _ => none }
def FnStreamsWrongFalsely : Prop := fnStreamsRow.holds Try.pinned (OpenSpec.ofChange fnStreamsWrong)

/- THE SECOND FORM. 'bulk': how many values and letters a reading holds, each counted each time it is reached (what is shared counts as often as it is met; a slice's spare places count too). A statement '..UptoSaid' is the law's where the arguments, and the package variables that the reading takes, are together of bulk at most 1048576: NARROWER than '..Said'. Prove '..Said' where nothing that the law and all that it calls make is longer than what came in: it says more and counts as full. Else prove '..UptoSaid'. A law counts once. -/
mutual
def uptoBulk {H : Type} : DataW H → Nat
  | .lit (.string bytes) => bytes.length + 1
  | .lit _ => 1
  | .nil => 1
  | .ptr d => uptoBulk d + 1
  | .slice elems spare => uptoBulkAll elems + uptoBulkAll spare + 1
  | .agg parts => uptoBulkAll parts + 1
  | .iface _ d => uptoBulk d + 1
  | .map entries => uptoBulkEntries entries + 1
  | .held _ => 1
def uptoBulkAll {H : Type} : List (DataW H) → Nat
  | [] => 0
  | d :: r => uptoBulk d + uptoBulkAll r
def uptoBulkEntries {H : Type} : List (Lit × DataW H) → Nat
  | [] => 0
  | x :: r => uptoBulkEntry x + uptoBulkEntries r
def uptoBulkEntry {H : Type} : Lit × DataW H → Nat
  | (.string bytes, d) => bytes.length + uptoBulk d + 1
  | (_, d) => uptoBulk d + 1
 end
def uptoSmall : (H : Type) → List (DataW H) → Bool := fun _ ds => decide (uptoBulkAll ds ≤ 1048576)
def OpenSpec.upto (s : _root_.Go.ChangeSpec) : _root_.Go.OpenSpec := { _root_.Go.OpenSpec.ofChange s with cond := some uptoSmall }

/-- 'laws.FnExactTextOf', WHERE WHAT IT READS IS OF BULK AT MOST 1048576: true; the input reads as it did. -/
def fnExactTextOfUptoRow : OpenClaim := { program := "yticchbgbbnpgoaa", sum := "a644d1c52e958829f7d1b4d5558aa092fdc8b7eee50a802680f16097164cb4ff", func := "loop.example/g00549/laws.FnExactTextOf", spec := "fnExactTextOf", apart := false, narrowed := true }
def FnExactTextOfUptoSaid : Prop := fnExactTextOfUptoRow.holds Try.pinned (OpenSpec.upto fnExactTextOfSpec)

/-- 'laws.FnExactGoodTaps', WHERE WHAT IT READS IS OF BULK AT MOST 1048576: true; the input reads as it did. -/
def fnExactGoodTapsUptoRow : OpenClaim := { program := "yticchbgbbnpgoaa", sum := "a644d1c52e958829f7d1b4d5558aa092fdc8b7eee50a802680f16097164cb4ff", func := "loop.example/g00549/laws.FnExactGoodTaps", spec := "fnExactGoodTaps", apart := false, narrowed := true }
def FnExactGoodTapsUptoSaid : Prop := fnExactGoodTapsUptoRow.holds Try.pinned (OpenSpec.upto fnExactGoodTapsSpec)

/-- 'laws.FnExactBitsOf', WHERE WHAT IT READS IS OF BULK AT MOST 1048576: true; the input reads as it did. -/
def fnExactBitsOfUptoRow : OpenClaim := { program := "yticchbgbbnpgoaa", sum := "a644d1c52e958829f7d1b4d5558aa092fdc8b7eee50a802680f16097164cb4ff", func := "loop.example/g00549/laws.FnExactBitsOf", spec := "fnExactBitsOf", apart := false, narrowed := true }
def FnExactBitsOfUptoSaid : Prop := fnExactBitsOfUptoRow.holds Try.pinned (OpenSpec.upto fnExactBitsOfSpec)

/-- 'laws.FnExactShortestTaps', WHERE WHAT IT READS IS OF BULK AT MOST 1048576: true; the input reads as it did. -/
def fnExactShortestTapsUptoRow : OpenClaim := { program := "yticchbgbbnpgoaa", sum := "a644d1c52e958829f7d1b4d5558aa092fdc8b7eee50a802680f16097164cb4ff", func := "loop.example/g00549/laws.FnExactShortestTaps", spec := "fnExactShortestTaps", recurses := true, apart := false, narrowed := true }
def FnExactShortestTapsUptoSaid : Prop := fnExactShortestTapsUptoRow.holds Try.pinned (OpenSpec.upto fnExactShortestTapsSpec)

/-- 'laws.FnExactUnlikeBits', WHERE WHAT IT READS IS OF BULK AT MOST 1048576: true; the input reads as it did. -/
def fnExactUnlikeBitsUptoRow : OpenClaim := { program := "yticchbgbbnpgoaa", sum := "a644d1c52e958829f7d1b4d5558aa092fdc8b7eee50a802680f16097164cb4ff", func := "loop.example/g00549/laws.FnExactUnlikeBits", spec := "fnExactUnlikeBits", apart := false, narrowed := true }
def FnExactUnlikeBitsUptoSaid : Prop := fnExactUnlikeBitsUptoRow.holds Try.pinned (OpenSpec.upto fnExactUnlikeBitsSpec)

/-- 'laws.FnTaps', WHERE WHAT IT READS IS OF BULK AT MOST 1048576: true; the input reads as it did. -/
def fnTapsUptoRow : OpenClaim := { program := "yticchbgbbnpgoaa", sum := "a644d1c52e958829f7d1b4d5558aa092fdc8b7eee50a802680f16097164cb4ff", func := "loop.example/g00549/laws.FnTaps", spec := "fnTaps", recurses := true, apart := false, narrowed := true }
def FnTapsUptoSaid : Prop := fnTapsUptoRow.holds Try.pinned (OpenSpec.upto fnTapsSpec)

/-- 'laws.FnExactRunsOf', WHERE WHAT IT READS IS OF BULK AT MOST 1048576: true; the input reads as it did. -/
def fnExactRunsOfUptoRow : OpenClaim := { program := "yticchbgbbnpgoaa", sum := "a644d1c52e958829f7d1b4d5558aa092fdc8b7eee50a802680f16097164cb4ff", func := "loop.example/g00549/laws.FnExactRunsOf", spec := "fnExactRunsOf", apart := false, narrowed := true }
def FnExactRunsOfUptoSaid : Prop := fnExactRunsOfUptoRow.holds Try.pinned (OpenSpec.upto fnExactRunsOfSpec)

/-- 'laws.FnExactMakesBits', WHERE WHAT IT READS IS OF BULK AT MOST 1048576: true; the input reads as it did. -/
def fnExactMakesBitsUptoRow : OpenClaim := { program := "yticchbgbbnpgoaa", sum := "a644d1c52e958829f7d1b4d5558aa092fdc8b7eee50a802680f16097164cb4ff", func := "loop.example/g00549/laws.FnExactMakesBits", spec := "fnExactMakesBits", apart := false, narrowed := true }
def FnExactMakesBitsUptoSaid : Prop := fnExactMakesBitsUptoRow.holds Try.pinned (OpenSpec.upto fnExactMakesBitsSpec)

/-- 'laws.FnExactStreamOf', WHERE WHAT IT READS IS OF BULK AT MOST 1048576: true; the input reads as it did. -/
def fnExactStreamOfUptoRow : OpenClaim := { program := "yticchbgbbnpgoaa", sum := "a644d1c52e958829f7d1b4d5558aa092fdc8b7eee50a802680f16097164cb4ff", func := "loop.example/g00549/laws.FnExactStreamOf", spec := "fnExactStreamOf", apart := false, narrowed := true }
def FnExactStreamOfUptoSaid : Prop := fnExactStreamOfUptoRow.holds Try.pinned (OpenSpec.upto fnExactStreamOfSpec)

/-- 'laws.FnExactPeriodOf', WHERE WHAT IT READS IS OF BULK AT MOST 1048576: true; the input reads as it did. -/
def fnExactPeriodOfUptoRow : OpenClaim := { program := "yticchbgbbnpgoaa", sum := "a644d1c52e958829f7d1b4d5558aa092fdc8b7eee50a802680f16097164cb4ff", func := "loop.example/g00549/laws.FnExactPeriodOf", spec := "fnExactPeriodOf", apart := false, narrowed := true }
def FnExactPeriodOfUptoSaid : Prop := fnExactPeriodOfUptoRow.holds Try.pinned (OpenSpec.upto fnExactPeriodOfSpec)

/-- 'laws.FnStreams', WHERE WHAT IT READS IS OF BULK AT MOST 1048576: true; the input reads as it did. -/
def fnStreamsUptoRow : OpenClaim := { program := "yticchbgbbnpgoaa", sum := "a644d1c52e958829f7d1b4d5558aa092fdc8b7eee50a802680f16097164cb4ff", func := "loop.example/g00549/laws.FnStreams", spec := "fnStreams", apart := false, narrowed := true }
def FnStreamsUptoSaid : Prop := fnStreamsUptoRow.holds Try.pinned (OpenSpec.upto fnStreamsSpec)

end Rows
end Go.Proofs.Yticchbgbbnpgoaa
