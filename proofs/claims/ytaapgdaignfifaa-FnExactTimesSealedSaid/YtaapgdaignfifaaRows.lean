/-
  No cell of these rows narrows 'for every input' (looked for: loops, veiled, ifaces, maps, wideKeys, modest, calm, conditions, laid).
  DERIVED. THE GIVEN ROWS OF THIS SEAT. 12 by the template 'for every input the law returns true; each argument reads behind the call as it read before'; 0 by the template 'total and deterministic' (their statements: YtaapgdaignfifaaTotals.lean).
  GIVEN WITH THE SEED: the statements are not yours to turn. If you find one false, say at which input.
  Laid BY PROGRAM, IN A SANDBOX (cutbox-rows.mjs): the forced cells as the released guide's own fill.sh prints them over the translation ba92c82d012e0810… (all of the seat's roots in one cut). By AI agents, Wed Nov 11 2026. No macro, syntax, notation, axiom, sorry.
-/
import Derived.Test.YtaapgdaignfifaaChecked
import GoSem.Claim
import GoSem.ClaimJoined
import GoSem.ClaimMapViews
import Derived.JoinedTies
import Derived.KernelRfl
namespace Go.Proofs.Ytaapgdaignfifaa
/- THE CELL 'sum', in the pinned program and in every row, IS THE sha256 OF THE DUMP (.gsa) THAT YtaapgdaignfifaaProg.lean LOADS. Nothing in Lean hashes anything: it is a label: what it is worth is what the hold of that sum in a sandbox is worth. -/
noncomputable def Try.pinned : Pinned := { name := "ytaapgdaignfifaa", sum := "ba92c82d012e0810a444c28111c50c55b1cd4594c9cd987e5ae2920ec1ba16ce", checked := Try.checked }
namespace Rows
def none {H : Type} : Left H := { results := [], args := [] }

/-- 'laws.FnExactConstants': WHATEVER THE INPUT: true; the input reads as it did. -/
def fnExactConstantsSpec : ChangeSpec := { name := "fnExactConstants", fn := fun _ => fun
  | [] => { results := [.lit (.bool true)], args := [] }
  | _ => none }
def fnExactConstantsRow : OpenClaim := { program := "ytaapgdaignfifaa", sum := "ba92c82d012e0810a444c28111c50c55b1cd4594c9cd987e5ae2920ec1ba16ce", func := "loop.example/g00549/laws.FnExactConstants", spec := "fnExactConstants", apart := false }
def FnExactConstantsSaid : Prop := fnExactConstantsRow.holds Try.pinned (OpenSpec.ofChange fnExactConstantsSpec)

/-- ITS FALSE NEIGHBOUR: 'it returns false'. Refute it at one input. -/
def fnExactConstantsWrong : ChangeSpec := { name := "fnExactConstants", fn := fun _ => fun
  | [] => { results := [.lit (.bool false)], args := [] }
  | _ => none }
def FnExactConstantsWrongFalsely : Prop := fnExactConstantsRow.holds Try.pinned (OpenSpec.ofChange fnExactConstantsWrong)

/-- 'laws.FnExactIsMember': WHATEVER THE INPUT: true; the input reads as it did. -/
def fnExactIsMemberSpec : ChangeSpec := { name := "fnExactIsMember", fn := fun _ => fun
  | [d] => { results := [.lit (.bool true)], args := [d] }
  | _ => none }
def fnExactIsMemberRow : OpenClaim := { program := "ytaapgdaignfifaa", sum := "ba92c82d012e0810a444c28111c50c55b1cd4594c9cd987e5ae2920ec1ba16ce", func := "loop.example/g00549/laws.FnExactIsMember", spec := "fnExactIsMember", apart := false }
def FnExactIsMemberSaid : Prop := fnExactIsMemberRow.holds Try.pinned (OpenSpec.ofChange fnExactIsMemberSpec)

/-- ITS FALSE NEIGHBOUR: 'it returns false'. Refute it at one input. -/
def fnExactIsMemberWrong : ChangeSpec := { name := "fnExactIsMember", fn := fun _ => fun
  | [d] => { results := [.lit (.bool false)], args := [d] }
  | _ => none }
def FnExactIsMemberWrongFalsely : Prop := fnExactIsMemberRow.holds Try.pinned (OpenSpec.ofChange fnExactIsMemberWrong)

/-- 'laws.FnExactPowerOf': WHATEVER THE INPUT: true; the input reads as it did. -/
def fnExactPowerOfSpec : ChangeSpec := { name := "fnExactPowerOf", fn := fun _ => fun
  | [d1, d2] => { results := [.lit (.bool true)], args := [d1, d2] }
  | _ => none }
def fnExactPowerOfRow : OpenClaim := { program := "ytaapgdaignfifaa", sum := "ba92c82d012e0810a444c28111c50c55b1cd4594c9cd987e5ae2920ec1ba16ce", func := "loop.example/g00549/laws.FnExactPowerOf", spec := "fnExactPowerOf", apart := false }
def FnExactPowerOfSaid : Prop := fnExactPowerOfRow.holds Try.pinned (OpenSpec.ofChange fnExactPowerOfSpec)

/-- ITS FALSE NEIGHBOUR: 'it returns false'. Refute it at one input. -/
def fnExactPowerOfWrong : ChangeSpec := { name := "fnExactPowerOf", fn := fun _ => fun
  | [d1, d2] => { results := [.lit (.bool false)], args := [d1, d2] }
  | _ => none }
def FnExactPowerOfWrongFalsely : Prop := fnExactPowerOfRow.holds Try.pinned (OpenSpec.ofChange fnExactPowerOfWrong)

/-- 'laws.FnExactPublicFor': WHATEVER THE INPUT: true; the input reads as it did. -/
def fnExactPublicForSpec : ChangeSpec := { name := "fnExactPublicFor", fn := fun _ => fun
  | [d] => { results := [.lit (.bool true)], args := [d] }
  | _ => none }
def fnExactPublicForRow : OpenClaim := { program := "ytaapgdaignfifaa", sum := "ba92c82d012e0810a444c28111c50c55b1cd4594c9cd987e5ae2920ec1ba16ce", func := "loop.example/g00549/laws.FnExactPublicFor", spec := "fnExactPublicFor", apart := false }
def FnExactPublicForSaid : Prop := fnExactPublicForRow.holds Try.pinned (OpenSpec.ofChange fnExactPublicForSpec)

/-- ITS FALSE NEIGHBOUR: 'it returns false'. Refute it at one input. -/
def fnExactPublicForWrong : ChangeSpec := { name := "fnExactPublicFor", fn := fun _ => fun
  | [d] => { results := [.lit (.bool false)], args := [d] }
  | _ => none }
def FnExactPublicForWrongFalsely : Prop := fnExactPublicForRow.holds Try.pinned (OpenSpec.ofChange fnExactPublicForWrong)

/-- 'laws.FnExactInverseOf': WHATEVER THE INPUT: true; the input reads as it did. -/
def fnExactInverseOfSpec : ChangeSpec := { name := "fnExactInverseOf", fn := fun _ => fun
  | [d] => { results := [.lit (.bool true)], args := [d] }
  | _ => none }
def fnExactInverseOfRow : OpenClaim := { program := "ytaapgdaignfifaa", sum := "ba92c82d012e0810a444c28111c50c55b1cd4594c9cd987e5ae2920ec1ba16ce", func := "loop.example/g00549/laws.FnExactInverseOf", spec := "fnExactInverseOf", apart := false }
def FnExactInverseOfSaid : Prop := fnExactInverseOfRow.holds Try.pinned (OpenSpec.ofChange fnExactInverseOfSpec)

/-- ITS FALSE NEIGHBOUR: 'it returns false'. Refute it at one input. -/
def fnExactInverseOfWrong : ChangeSpec := { name := "fnExactInverseOf", fn := fun _ => fun
  | [d] => { results := [.lit (.bool false)], args := [d] }
  | _ => none }
def FnExactInverseOfWrongFalsely : Prop := fnExactInverseOfRow.holds Try.pinned (OpenSpec.ofChange fnExactInverseOfWrong)

/-- 'laws.FnExactSharedOf': WHATEVER THE INPUT: true; the input reads as it did. -/
def fnExactSharedOfSpec : ChangeSpec := { name := "fnExactSharedOf", fn := fun _ => fun
  | [d1, d2] => { results := [.lit (.bool true)], args := [d1, d2] }
  | _ => none }
def fnExactSharedOfRow : OpenClaim := { program := "ytaapgdaignfifaa", sum := "ba92c82d012e0810a444c28111c50c55b1cd4594c9cd987e5ae2920ec1ba16ce", func := "loop.example/g00549/laws.FnExactSharedOf", spec := "fnExactSharedOf", apart := false }
def FnExactSharedOfSaid : Prop := fnExactSharedOfRow.holds Try.pinned (OpenSpec.ofChange fnExactSharedOfSpec)

/-- ITS FALSE NEIGHBOUR: 'it returns false'. Refute it at one input. -/
def fnExactSharedOfWrong : ChangeSpec := { name := "fnExactSharedOf", fn := fun _ => fun
  | [d1, d2] => { results := [.lit (.bool false)], args := [d1, d2] }
  | _ => none }
def FnExactSharedOfWrongFalsely : Prop := fnExactSharedOfRow.holds Try.pinned (OpenSpec.ofChange fnExactSharedOfWrong)

/-- 'laws.FnExactOpenPart': WHATEVER THE INPUT: true; the input reads as it did. -/
def fnExactOpenPartSpec : ChangeSpec := { name := "fnExactOpenPart", fn := fun _ => fun
  | [d1, d2] => { results := [.lit (.bool true)], args := [d1, d2] }
  | _ => none }
def fnExactOpenPartRow : OpenClaim := { program := "ytaapgdaignfifaa", sum := "ba92c82d012e0810a444c28111c50c55b1cd4594c9cd987e5ae2920ec1ba16ce", func := "loop.example/g00549/laws.FnExactOpenPart", spec := "fnExactOpenPart", apart := false }
def FnExactOpenPartSaid : Prop := fnExactOpenPartRow.holds Try.pinned (OpenSpec.ofChange fnExactOpenPartSpec)

/-- ITS FALSE NEIGHBOUR: 'it returns false'. Refute it at one input. -/
def fnExactOpenPartWrong : ChangeSpec := { name := "fnExactOpenPart", fn := fun _ => fun
  | [d1, d2] => { results := [.lit (.bool false)], args := [d1, d2] }
  | _ => none }
def FnExactOpenPartWrongFalsely : Prop := fnExactOpenPartRow.holds Try.pinned (OpenSpec.ofChange fnExactOpenPartWrong)

/-- 'laws.FnExactOpenNumber': WHATEVER THE INPUT: true; the input reads as it did. -/
def fnExactOpenNumberSpec : ChangeSpec := { name := "fnExactOpenNumber", fn := fun _ => fun
  | [d1, d2] => { results := [.lit (.bool true)], args := [d1, d2] }
  | _ => none }
def fnExactOpenNumberRow : OpenClaim := { program := "ytaapgdaignfifaa", sum := "ba92c82d012e0810a444c28111c50c55b1cd4594c9cd987e5ae2920ec1ba16ce", func := "loop.example/g00549/laws.FnExactOpenNumber", spec := "fnExactOpenNumber", apart := false }
def FnExactOpenNumberSaid : Prop := fnExactOpenNumberRow.holds Try.pinned (OpenSpec.ofChange fnExactOpenNumberSpec)

/-- ITS FALSE NEIGHBOUR: 'it returns false'. Refute it at one input. -/
def fnExactOpenNumberWrong : ChangeSpec := { name := "fnExactOpenNumber", fn := fun _ => fun
  | [d1, d2] => { results := [.lit (.bool false)], args := [d1, d2] }
  | _ => none }
def FnExactOpenNumberWrongFalsely : Prop := fnExactOpenNumberRow.holds Try.pinned (OpenSpec.ofChange fnExactOpenNumberWrong)

/-- 'laws.FnExactLogOf': WHATEVER THE INPUT: true; the input reads as it did. -/
def fnExactLogOfSpec : ChangeSpec := { name := "fnExactLogOf", fn := fun _ => fun
  | [d1, d2] => { results := [.lit (.bool true)], args := [d1, d2] }
  | _ => none }
def fnExactLogOfRow : OpenClaim := { program := "ytaapgdaignfifaa", sum := "ba92c82d012e0810a444c28111c50c55b1cd4594c9cd987e5ae2920ec1ba16ce", func := "loop.example/g00549/laws.FnExactLogOf", spec := "fnExactLogOf", apart := false }
def FnExactLogOfSaid : Prop := fnExactLogOfRow.holds Try.pinned (OpenSpec.ofChange fnExactLogOfSpec)

/-- ITS FALSE NEIGHBOUR: 'it returns false'. Refute it at one input. -/
def fnExactLogOfWrong : ChangeSpec := { name := "fnExactLogOf", fn := fun _ => fun
  | [d1, d2] => { results := [.lit (.bool false)], args := [d1, d2] }
  | _ => none }
def FnExactLogOfWrongFalsely : Prop := fnExactLogOfRow.holds Try.pinned (OpenSpec.ofChange fnExactLogOfWrong)

/-- 'laws.FnExactSealNumber': WHATEVER THE INPUT: true; the input reads as it did. -/
def fnExactSealNumberSpec : ChangeSpec := { name := "fnExactSealNumber", fn := fun _ => fun
  | [d1, d2, d3] => { results := [.lit (.bool true)], args := [d1, d2, d3] }
  | _ => none }
def fnExactSealNumberRow : OpenClaim := { program := "ytaapgdaignfifaa", sum := "ba92c82d012e0810a444c28111c50c55b1cd4594c9cd987e5ae2920ec1ba16ce", func := "loop.example/g00549/laws.FnExactSealNumber", spec := "fnExactSealNumber", apart := false }
def FnExactSealNumberSaid : Prop := fnExactSealNumberRow.holds Try.pinned (OpenSpec.ofChange fnExactSealNumberSpec)

/-- ITS FALSE NEIGHBOUR: 'it returns false'. Refute it at one input. -/
def fnExactSealNumberWrong : ChangeSpec := { name := "fnExactSealNumber", fn := fun _ => fun
  | [d1, d2, d3] => { results := [.lit (.bool false)], args := [d1, d2, d3] }
  | _ => none }
def FnExactSealNumberWrongFalsely : Prop := fnExactSealNumberRow.holds Try.pinned (OpenSpec.ofChange fnExactSealNumberWrong)

/-- 'laws.FnExactTimesSealed': WHATEVER THE INPUT: true; the input reads as it did. -/
def fnExactTimesSealedSpec : ChangeSpec := { name := "fnExactTimesSealed", fn := fun _ => fun
  | [d1, d2] => { results := [.lit (.bool true)], args := [d1, d2] }
  | _ => none }
def fnExactTimesSealedRow : OpenClaim := { program := "ytaapgdaignfifaa", sum := "ba92c82d012e0810a444c28111c50c55b1cd4594c9cd987e5ae2920ec1ba16ce", func := "loop.example/g00549/laws.FnExactTimesSealed", spec := "fnExactTimesSealed", apart := false }
def FnExactTimesSealedSaid : Prop := fnExactTimesSealedRow.holds Try.pinned (OpenSpec.ofChange fnExactTimesSealedSpec)

/-- ITS FALSE NEIGHBOUR: 'it returns false'. Refute it at one input. -/
def fnExactTimesSealedWrong : ChangeSpec := { name := "fnExactTimesSealed", fn := fun _ => fun
  | [d1, d2] => { results := [.lit (.bool false)], args := [d1, d2] }
  | _ => none }
def FnExactTimesSealedWrongFalsely : Prop := fnExactTimesSealedRow.holds Try.pinned (OpenSpec.ofChange fnExactTimesSealedWrong)

/-- 'laws.FnExactCastVote': WHATEVER THE INPUT: true; the input reads as it did. -/
def fnExactCastVoteSpec : ChangeSpec := { name := "fnExactCastVote", fn := fun _ => fun
  | [d1, d2, d3] => { results := [.lit (.bool true)], args := [d1, d2, d3] }
  | _ => none }
def fnExactCastVoteRow : OpenClaim := { program := "ytaapgdaignfifaa", sum := "ba92c82d012e0810a444c28111c50c55b1cd4594c9cd987e5ae2920ec1ba16ce", func := "loop.example/g00549/laws.FnExactCastVote", spec := "fnExactCastVote", apart := false }
def FnExactCastVoteSaid : Prop := fnExactCastVoteRow.holds Try.pinned (OpenSpec.ofChange fnExactCastVoteSpec)

/-- ITS FALSE NEIGHBOUR: 'it returns false'. Refute it at one input. -/
def fnExactCastVoteWrong : ChangeSpec := { name := "fnExactCastVote", fn := fun _ => fun
  | [d1, d2, d3] => { results := [.lit (.bool false)], args := [d1, d2, d3] }
  | _ => none }
def FnExactCastVoteWrongFalsely : Prop := fnExactCastVoteRow.holds Try.pinned (OpenSpec.ofChange fnExactCastVoteWrong)

/- THE SECOND FORM. 'bulk': how many values and letters a reading holds, each counted each time it is reached (what is shared counts as often as it is met; a slice's spare places count too). A statement '..UptoSaid' is the law's where the arguments, and the package variables that the reading takes, are together of bulk at most 1048576: NARROWER than '..Said'. Prove '..Said' where nothing that the law and all that it calls make is longer than what came in: it says more and counts as full. Else prove '..UptoSaid'. A law counts once. -/
mutual
def uptoBulk {H : Type} : DataW H → Nat
  | .lit (.string bytes) => bytes.length + 1
  | .lit _ => 1
  | .nil => 1
  | .ptr d => uptoBulk d + 1
  | .slice elems spare => uptoBulkAll elems + uptoBulkAll spare + 1
  | .agg parts => uptoBulkAll parts + 1
  | .iface _ d => uptoBulk d + 1
  | .map entries => uptoBulkEntries entries + 1
  | .held _ => 1
def uptoBulkAll {H : Type} : List (DataW H) → Nat
  | [] => 0
  | d :: r => uptoBulk d + uptoBulkAll r
def uptoBulkEntries {H : Type} : List (Lit × DataW H) → Nat
  | [] => 0
  | x :: r => uptoBulkEntry x + uptoBulkEntries r
def uptoBulkEntry {H : Type} : Lit × DataW H → Nat
  | (.string bytes, d) => bytes.length + uptoBulk d + 1
  | (_, d) => uptoBulk d + 1
 end
def uptoSmall : (H : Type) → List (DataW H) → Bool := fun _ ds => decide (uptoBulkAll ds ≤ 1048576)
def OpenSpec.upto (s : _root_.Go.ChangeSpec) : _root_.Go.OpenSpec := { _root_.Go.OpenSpec.ofChange s with cond := some uptoSmall }

/-- 'laws.FnExactConstants', WHERE WHAT IT READS IS OF BULK AT MOST 1048576: true; the input reads as it did. -/
def fnExactConstantsUptoRow : OpenClaim := { program := "ytaapgdaignfifaa", sum := "ba92c82d012e0810a444c28111c50c55b1cd4594c9cd987e5ae2920ec1ba16ce", func := "loop.example/g00549/laws.FnExactConstants", spec := "fnExactConstants", apart := false, narrowed := true }
def FnExactConstantsUptoSaid : Prop := fnExactConstantsUptoRow.holds Try.pinned (OpenSpec.upto fnExactConstantsSpec)

/-- 'laws.FnExactIsMember', WHERE WHAT IT READS IS OF BULK AT MOST 1048576: true; the input reads as it did. -/
def fnExactIsMemberUptoRow : OpenClaim := { program := "ytaapgdaignfifaa", sum := "ba92c82d012e0810a444c28111c50c55b1cd4594c9cd987e5ae2920ec1ba16ce", func := "loop.example/g00549/laws.FnExactIsMember", spec := "fnExactIsMember", apart := false, narrowed := true }
def FnExactIsMemberUptoSaid : Prop := fnExactIsMemberUptoRow.holds Try.pinned (OpenSpec.upto fnExactIsMemberSpec)

/-- 'laws.FnExactPowerOf', WHERE WHAT IT READS IS OF BULK AT MOST 1048576: true; the input reads as it did. -/
def fnExactPowerOfUptoRow : OpenClaim := { program := "ytaapgdaignfifaa", sum := "ba92c82d012e0810a444c28111c50c55b1cd4594c9cd987e5ae2920ec1ba16ce", func := "loop.example/g00549/laws.FnExactPowerOf", spec := "fnExactPowerOf", apart := false, narrowed := true }
def FnExactPowerOfUptoSaid : Prop := fnExactPowerOfUptoRow.holds Try.pinned (OpenSpec.upto fnExactPowerOfSpec)

/-- 'laws.FnExactPublicFor', WHERE WHAT IT READS IS OF BULK AT MOST 1048576: true; the input reads as it did. -/
def fnExactPublicForUptoRow : OpenClaim := { program := "ytaapgdaignfifaa", sum := "ba92c82d012e0810a444c28111c50c55b1cd4594c9cd987e5ae2920ec1ba16ce", func := "loop.example/g00549/laws.FnExactPublicFor", spec := "fnExactPublicFor", apart := false, narrowed := true }
def FnExactPublicForUptoSaid : Prop := fnExactPublicForUptoRow.holds Try.pinned (OpenSpec.upto fnExactPublicForSpec)

/-- 'laws.FnExactInverseOf', WHERE WHAT IT READS IS OF BULK AT MOST 1048576: true; the input reads as it did. -/
def fnExactInverseOfUptoRow : OpenClaim := { program := "ytaapgdaignfifaa", sum := "ba92c82d012e0810a444c28111c50c55b1cd4594c9cd987e5ae2920ec1ba16ce", func := "loop.example/g00549/laws.FnExactInverseOf", spec := "fnExactInverseOf", apart := false, narrowed := true }
def FnExactInverseOfUptoSaid : Prop := fnExactInverseOfUptoRow.holds Try.pinned (OpenSpec.upto fnExactInverseOfSpec)

/-- 'laws.FnExactSharedOf', WHERE WHAT IT READS IS OF BULK AT MOST 1048576: true; the input reads as it did. -/
def fnExactSharedOfUptoRow : OpenClaim := { program := "ytaapgdaignfifaa", sum := "ba92c82d012e0810a444c28111c50c55b1cd4594c9cd987e5ae2920ec1ba16ce", func := "loop.example/g00549/laws.FnExactSharedOf", spec := "fnExactSharedOf", apart := false, narrowed := true }
def FnExactSharedOfUptoSaid : Prop := fnExactSharedOfUptoRow.holds Try.pinned (OpenSpec.upto fnExactSharedOfSpec)

/-- 'laws.FnExactOpenPart', WHERE WHAT IT READS IS OF BULK AT MOST 1048576: true; the input reads as it did. -/
def fnExactOpenPartUptoRow : OpenClaim := { program := "ytaapgdaignfifaa", sum := "ba92c82d012e0810a444c28111c50c55b1cd4594c9cd987e5ae2920ec1ba16ce", func := "loop.example/g00549/laws.FnExactOpenPart", spec := "fnExactOpenPart", apart := false, narrowed := true }
def FnExactOpenPartUptoSaid : Prop := fnExactOpenPartUptoRow.holds Try.pinned (OpenSpec.upto fnExactOpenPartSpec)

/-- 'laws.FnExactOpenNumber', WHERE WHAT IT READS IS OF BULK AT MOST 1048576: true; the input reads as it did. -/
def fnExactOpenNumberUptoRow : OpenClaim := { program := "ytaapgdaignfifaa", sum := "ba92c82d012e0810a444c28111c50c55b1cd4594c9cd987e5ae2920ec1ba16ce", func := "loop.example/g00549/laws.FnExactOpenNumber", spec := "fnExactOpenNumber", apart := false, narrowed := true }
def FnExactOpenNumberUptoSaid : Prop := fnExactOpenNumberUptoRow.holds Try.pinned (OpenSpec.upto fnExactOpenNumberSpec)

/-- 'laws.FnExactLogOf', WHERE WHAT IT READS IS OF BULK AT MOST 1048576: true; the input reads as it did. -/
def fnExactLogOfUptoRow : OpenClaim := { program := "ytaapgdaignfifaa", sum := "ba92c82d012e0810a444c28111c50c55b1cd4594c9cd987e5ae2920ec1ba16ce", func := "loop.example/g00549/laws.FnExactLogOf", spec := "fnExactLogOf", apart := false, narrowed := true }
def FnExactLogOfUptoSaid : Prop := fnExactLogOfUptoRow.holds Try.pinned (OpenSpec.upto fnExactLogOfSpec)

/-- 'laws.FnExactSealNumber', WHERE WHAT IT READS IS OF BULK AT MOST 1048576: true; the input reads as it did. -/
def fnExactSealNumberUptoRow : OpenClaim := { program := "ytaapgdaignfifaa", sum := "ba92c82d012e0810a444c28111c50c55b1cd4594c9cd987e5ae2920ec1ba16ce", func := "loop.example/g00549/laws.FnExactSealNumber", spec := "fnExactSealNumber", apart := false, narrowed := true }
def FnExactSealNumberUptoSaid : Prop := fnExactSealNumberUptoRow.holds Try.pinned (OpenSpec.upto fnExactSealNumberSpec)

/-- 'laws.FnExactTimesSealed', WHERE WHAT IT READS IS OF BULK AT MOST 1048576: true; the input reads as it did. -/
def fnExactTimesSealedUptoRow : OpenClaim := { program := "ytaapgdaignfifaa", sum := "ba92c82d012e0810a444c28111c50c55b1cd4594c9cd987e5ae2920ec1ba16ce", func := "loop.example/g00549/laws.FnExactTimesSealed", spec := "fnExactTimesSealed", apart := false, narrowed := true }
def FnExactTimesSealedUptoSaid : Prop := fnExactTimesSealedUptoRow.holds Try.pinned (OpenSpec.upto fnExactTimesSealedSpec)

/-- 'laws.FnExactCastVote', WHERE WHAT IT READS IS OF BULK AT MOST 1048576: true; the input reads as it did. -/
def fnExactCastVoteUptoRow : OpenClaim := { program := "ytaapgdaignfifaa", sum := "ba92c82d012e0810a444c28111c50c55b1cd4594c9cd987e5ae2920ec1ba16ce", func := "loop.example/g00549/laws.FnExactCastVote", spec := "fnExactCastVote", apart := false, narrowed := true }
def FnExactCastVoteUptoSaid : Prop := fnExactCastVoteUptoRow.holds Try.pinned (OpenSpec.upto fnExactCastVoteSpec)

end Rows
end Go.Proofs.Ytaapgdaignfifaa
