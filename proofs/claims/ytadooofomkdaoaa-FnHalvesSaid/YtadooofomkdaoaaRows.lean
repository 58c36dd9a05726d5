/-
  No cell of these rows narrows 'for every input' (looked for: loops, veiled, ifaces, maps, wideKeys, modest, calm, conditions, laid).
  DERIVED. THE GIVEN ROWS OF THIS SEAT. 10 by the template 'for every input the law returns true; each argument reads behind the call as it read before'; 0 by the template 'total and deterministic' (their statements: YtadooofomkdaoaaTotals.lean).
  GIVEN WITH THE SEED: the statements are not yours to turn. If you find one false, say at which input.
  Laid BY PROGRAM, IN A SANDBOX (cutbox-rows.mjs): the forced cells as the released guide's own fill.sh prints them over the translation 44b478f4b0e177ef… (all of the seat's roots in one cut). By AI agents, Wed Nov 11 2026. No macro, syntax, notation, axiom, sorry.
-/
import Derived.Test.YtadooofomkdaoaaChecked
import GoSem.Claim
import GoSem.ClaimJoined
import GoSem.ClaimMapViews
import Derived.JoinedTies
import Derived.KernelRfl
namespace Go.Proofs.Ytadooofomkdaoaa
/- THE CELL 'sum', in the pinned program and in every row, IS THE sha256 OF THE DUMP (.gsa) THAT YtadooofomkdaoaaProg.lean LOADS. Nothing in Lean hashes anything: it is a label: what it is worth is what the hold of that sum in a sandbox is worth. -/
noncomputable def Try.pinned : Pinned := { name := "ytadooofomkdaoaa", sum := "44b478f4b0e177efe926efb38371d31bf784824801aa31662d74b2af5cadfd50", checked := Try.checked }
namespace Rows
def none {H : Type} : Left H := { results := [], args := [] }

/-- 'laws.FnLimbs': WHATEVER THE INPUT: true; the input reads as it did. -/
def fnLimbsSpec : ChangeSpec := { name := "fnLimbs", fn := fun _ => fun
  | [d1, d2] => { results := [.lit (.bool true)], args := [d1, d2] }
  | _ => none }
def fnLimbsRow : OpenClaim := { program := "ytadooofomkdaoaa", sum := "44b478f4b0e177efe926efb38371d31bf784824801aa31662d74b2af5cadfd50", func := "loop.example/g00549/laws.FnLimbs", spec := "fnLimbs", recurses := true, apart := false }
def FnLimbsSaid : Prop := fnLimbsRow.holds Try.pinned (OpenSpec.ofChange fnLimbsSpec)

/-- ITS FALSE NEIGHBOUR: 'it returns false'. Refute it at one input. -/
def fnLimbsWrong : ChangeSpec := { name := "fnLimbs", fn := fun _ => fun
  | [d1, d2] => { results := [.lit (.bool false)], args := [d1, d2] }
  | _ => none }
def FnLimbsWrongFalsely : Prop := fnLimbsRow.holds Try.pinned (OpenSpec.ofChange fnLimbsWrong)

/-- 'laws.FnHalves': WHATEVER THE INPUT: true; the input reads as it did. -/
def fnHalvesSpec : ChangeSpec := { name := "fnHalves", fn := fun _ => fun
  | [d1, d2] => { results := [.lit (.bool true)], args := [d1, d2] }
  | _ => none }
def fnHalvesRow : OpenClaim := { program := "ytadooofomkdaoaa", sum := "44b478f4b0e177efe926efb38371d31bf784824801aa31662d74b2af5cadfd50", func := "loop.example/g00549/laws.FnHalves", spec := "fnHalves", apart := false }
def FnHalvesSaid : Prop := fnHalvesRow.holds Try.pinned (OpenSpec.ofChange fnHalvesSpec)

/-- ITS FALSE NEIGHBOUR: 'it returns false'. Refute it at one input. -/
def fnHalvesWrong : ChangeSpec := { name := "fnHalves", fn := fun _ => fun
  | [d1, d2] => { results := [.lit (.bool false)], args := [d1, d2] }
  | _ => none }
def FnHalvesWrongFalsely : Prop := fnHalvesRow.holds Try.pinned (OpenSpec.ofChange fnHalvesWrong)

/-- 'laws.FnExactValueAt': WHATEVER THE INPUT: true; the input reads as it did. -/
def fnExactValueAtSpec : ChangeSpec := { name := "fnExactValueAt", fn := fun _ => fun
  | [d1, d2] => { results := [.lit (.bool true)], args := [d1, d2] }
  | _ => none }
def fnExactValueAtRow : OpenClaim := { program := "ytadooofomkdaoaa", sum := "44b478f4b0e177efe926efb38371d31bf784824801aa31662d74b2af5cadfd50", func := "loop.example/g00549/laws.FnExactValueAt", spec := "fnExactValueAt", apart := false }
def FnExactValueAtSaid : Prop := fnExactValueAtRow.holds Try.pinned (OpenSpec.ofChange fnExactValueAtSpec)

/-- ITS FALSE NEIGHBOUR: 'it returns false'. Refute it at one input. -/
def fnExactValueAtWrong : ChangeSpec := { name := "fnExactValueAt", fn := fun _ => fun
  | [d1, d2] => { results := [.lit (.bool false)], args := [d1, d2] }
  | _ => none }
def FnExactValueAtWrongFalsely : Prop := fnExactValueAtRow.holds Try.pinned (OpenSpec.ofChange fnExactValueAtWrong)

/-- 'laws.FnExactSplitSecret': WHATEVER THE INPUT: true; the input reads as it did. -/
def fnExactSplitSecretSpec : ChangeSpec := { name := "fnExactSplitSecret", fn := fun _ => fun
  | [d1, d2] => { results := [.lit (.bool true)], args := [d1, d2] }
  | _ => none }
def fnExactSplitSecretRow : OpenClaim := { program := "ytadooofomkdaoaa", sum := "44b478f4b0e177efe926efb38371d31bf784824801aa31662d74b2af5cadfd50", func := "loop.example/g00549/laws.FnExactSplitSecret", spec := "fnExactSplitSecret", apart := false }
def FnExactSplitSecretSaid : Prop := fnExactSplitSecretRow.holds Try.pinned (OpenSpec.ofChange fnExactSplitSecretSpec)

/-- ITS FALSE NEIGHBOUR: 'it returns false'. Refute it at one input. -/
def fnExactSplitSecretWrong : ChangeSpec := { name := "fnExactSplitSecret", fn := fun _ => fun
  | [d1, d2] => { results := [.lit (.bool false)], args := [d1, d2] }
  | _ => none }
def FnExactSplitSecretWrongFalsely : Prop := fnExactSplitSecretRow.holds Try.pinned (OpenSpec.ofChange fnExactSplitSecretWrong)

/-- 'laws.FnExactWeightsOf': WHATEVER THE INPUT: true; the input reads as it did. -/
def fnExactWeightsOfSpec : ChangeSpec := { name := "fnExactWeightsOf", fn := fun _ => fun
  | [d] => { results := [.lit (.bool true)], args := [d] }
  | _ => none }
def fnExactWeightsOfRow : OpenClaim := { program := "ytadooofomkdaoaa", sum := "44b478f4b0e177efe926efb38371d31bf784824801aa31662d74b2af5cadfd50", func := "loop.example/g00549/laws.FnExactWeightsOf", spec := "fnExactWeightsOf", apart := false }
def FnExactWeightsOfSaid : Prop := fnExactWeightsOfRow.holds Try.pinned (OpenSpec.ofChange fnExactWeightsOfSpec)

/-- ITS FALSE NEIGHBOUR: 'it returns false'. Refute it at one input. -/
def fnExactWeightsOfWrong : ChangeSpec := { name := "fnExactWeightsOf", fn := fun _ => fun
  | [d] => { results := [.lit (.bool false)], args := [d] }
  | _ => none }
def FnExactWeightsOfWrongFalsely : Prop := fnExactWeightsOfRow.holds Try.pinned (OpenSpec.ofChange fnExactWeightsOfWrong)

/-- 'laws.FnExactAddParts': WHATEVER THE INPUT: true; the input reads as it did. -/
def fnExactAddPartsSpec : ChangeSpec := { name := "fnExactAddParts", fn := fun _ => fun
  | [d1, d2] => { results := [.lit (.bool true)], args := [d1, d2] }
  | _ => none }
def fnExactAddPartsRow : OpenClaim := { program := "ytadooofomkdaoaa", sum := "44b478f4b0e177efe926efb38371d31bf784824801aa31662d74b2af5cadfd50", func := "loop.example/g00549/laws.FnExactAddParts", spec := "fnExactAddParts", unfollowed := true, recurses := true, apart := false }
def FnExactAddPartsSaid : Prop := fnExactAddPartsRow.holds Try.pinned (OpenSpec.ofChange fnExactAddPartsSpec)

/-- ITS FALSE NEIGHBOUR: 'it returns false'. Refute it at one input. -/
def fnExactAddPartsWrong : ChangeSpec := { name := "fnExactAddParts", fn := fun _ => fun
  | [d1, d2] => { results := [.lit (.bool false)], args := [d1, d2] }
  | _ => none }
def FnExactAddPartsWrongFalsely : Prop := fnExactAddPartsRow.holds Try.pinned (OpenSpec.ofChange fnExactAddPartsWrong)

/-- 'laws.FnExactThroughParts': WHATEVER THE INPUT: true; the input reads as it did. -/
def fnExactThroughPartsSpec : ChangeSpec := { name := "fnExactThroughParts", fn := fun _ => fun
  | [d1, d2] => { results := [.lit (.bool true)], args := [d1, d2] }
  | _ => none }
def fnExactThroughPartsRow : OpenClaim := { program := "ytadooofomkdaoaa", sum := "44b478f4b0e177efe926efb38371d31bf784824801aa31662d74b2af5cadfd50", func := "loop.example/g00549/laws.FnExactThroughParts", spec := "fnExactThroughParts", unfollowed := true, recurses := true, apart := false }
def FnExactThroughPartsSaid : Prop := fnExactThroughPartsRow.holds Try.pinned (OpenSpec.ofChange fnExactThroughPartsSpec)

/-- ITS FALSE NEIGHBOUR: 'it returns false'. Refute it at one input. -/
def fnExactThroughPartsWrong : ChangeSpec := { name := "fnExactThroughParts", fn := fun _ => fun
  | [d1, d2] => { results := [.lit (.bool false)], args := [d1, d2] }
  | _ => none }
def FnExactThroughPartsWrongFalsely : Prop := fnExactThroughPartsRow.holds Try.pinned (OpenSpec.ofChange fnExactThroughPartsWrong)

/-- 'laws.FnExactJoinParts': WHATEVER THE INPUT: true; the input reads as it did. -/
def fnExactJoinPartsSpec : ChangeSpec := { name := "fnExactJoinParts", fn := fun _ => fun
  | [d] => { results := [.lit (.bool true)], args := [d] }
  | _ => none }
def fnExactJoinPartsRow : OpenClaim := { program := "ytadooofomkdaoaa", sum := "44b478f4b0e177efe926efb38371d31bf784824801aa31662d74b2af5cadfd50", func := "loop.example/g00549/laws.FnExactJoinParts", spec := "fnExactJoinParts", unfollowed := true, recurses := true, apart := false }
def FnExactJoinPartsSaid : Prop := fnExactJoinPartsRow.holds Try.pinned (OpenSpec.ofChange fnExactJoinPartsSpec)

/-- ITS FALSE NEIGHBOUR: 'it returns false'. Refute it at one input. -/
def fnExactJoinPartsWrong : ChangeSpec := { name := "fnExactJoinParts", fn := fun _ => fun
  | [d] => { results := [.lit (.bool false)], args := [d] }
  | _ => none }
def FnExactJoinPartsWrongFalsely : Prop := fnExactJoinPartsRow.holds Try.pinned (OpenSpec.ofChange fnExactJoinPartsWrong)

/-- 'laws.FnExactSecretFits': WHATEVER THE INPUT: true; the input reads as it did. -/
def fnExactSecretFitsSpec : ChangeSpec := { name := "fnExactSecretFits", fn := fun _ => fun
  | [d1, d2] => { results := [.lit (.bool true)], args := [d1, d2] }
  | _ => none }
def fnExactSecretFitsRow : OpenClaim := { program := "ytadooofomkdaoaa", sum := "44b478f4b0e177efe926efb38371d31bf784824801aa31662d74b2af5cadfd50", func := "loop.example/g00549/laws.FnExactSecretFits", spec := "fnExactSecretFits", unfollowed := true, recurses := true, apart := false }
def FnExactSecretFitsSaid : Prop := fnExactSecretFitsRow.holds Try.pinned (OpenSpec.ofChange fnExactSecretFitsSpec)

/-- ITS FALSE NEIGHBOUR: 'it returns false'. Refute it at one input. -/
def fnExactSecretFitsWrong : ChangeSpec := { name := "fnExactSecretFits", fn := fun _ => fun
  | [d1, d2] => { results := [.lit (.bool false)], args := [d1, d2] }
  | _ => none }
def FnExactSecretFitsWrongFalsely : Prop := fnExactSecretFitsRow.holds Try.pinned (OpenSpec.ofChange fnExactSecretFitsWrong)

/-- 'laws.FnExactPolyThrough': WHATEVER THE INPUT: true; the input reads as it did. -/
def fnExactPolyThroughSpec : ChangeSpec := { name := "fnExactPolyThrough", fn := fun _ => fun
  | [d] => { results := [.lit (.bool true)], args := [d] }
  | _ => none }
def fnExactPolyThroughRow : OpenClaim := { program := "ytadooofomkdaoaa", sum := "44b478f4b0e177efe926efb38371d31bf784824801aa31662d74b2af5cadfd50", func := "loop.example/g00549/laws.FnExactPolyThrough", spec := "fnExactPolyThrough", unfollowed := true, recurses := true, apart := false }
def FnExactPolyThroughSaid : Prop := fnExactPolyThroughRow.holds Try.pinned (OpenSpec.ofChange fnExactPolyThroughSpec)

/-- ITS FALSE NEIGHBOUR: 'it returns false'. Refute it at one input. -/
def fnExactPolyThroughWrong : ChangeSpec := { name := "fnExactPolyThrough", fn := fun _ => fun
  | [d] => { results := [.lit (.bool false)], args := [d] }
  | _ => none }
def FnExactPolyThroughWrongFalsely : Prop := fnExactPolyThroughRow.holds Try.pinned (OpenSpec.ofChange fnExactPolyThroughWrong)

/- THE SECOND FORM. 'bulk': how many values and letters a reading holds, each counted each time it is reached (what is shared counts as often as it is met; a slice's spare places count too). A statement '..UptoSaid' is the law's where the arguments, and the package variables that the reading takes, are together of bulk at most 1048576: NARROWER than '..Said'. Prove '..Said' where nothing that the law and all that it calls make is longer than what came in: it says more and counts as full. Else prove '..UptoSaid'. A law counts once. -/
mutual
def uptoBulk {H : Type} : DataW H → Nat
  | .lit (.string bytes) => bytes.length + 1
  | .lit _ => 1
  | .nil => 1
  | .ptr d => uptoBulk d + 1
  | .slice elems spare => uptoBulkAll elems + uptoBulkAll spare + 1
  | .agg parts => uptoBulkAll parts + 1
  | .iface _ d => uptoBulk d + 1
  | .map entries => uptoBulkEntries entries + 1
  | .held _ => 1
def uptoBulkAll {H : Type} : List (DataW H) → Nat
  | [] => 0
  | d :: r => uptoBulk d + uptoBulkAll r
def uptoBulkEntries {H : Type} : List (Lit × DataW H) → Nat
  | [] => 0
  | x :: r => uptoBulkEntry x + uptoBulkEntries r
def uptoBulkEntry {H : Type} : Lit × DataW H → Nat
  | (.string bytes, d) => bytes.length + uptoBulk d + 1
  | (_, d) => uptoBulk d + 1
 end
def uptoSmall : (H : Type) → List (DataW H) → Bool := fun _ ds => decide (uptoBulkAll ds ≤ 1048576)
def OpenSpec.upto (s : _root_.Go.ChangeSpec) : _root_.Go.OpenSpec := { _root_.Go.OpenSpec.ofChange s with cond := some uptoSmall }

/-- 'laws.FnLimbs', WHERE WHAT IT READS IS OF BULK AT MOST 1048576: true; the input reads as it did. -/
def fnLimbsUptoRow : OpenClaim := { program := "ytadooofomkdaoaa", sum := "44b478f4b0e177efe926efb38371d31bf784824801aa31662d74b2af5cadfd50", func := "loop.example/g00549/laws.FnLimbs", spec := "fnLimbs", recurses := true, apart := false, narrowed := true }
def FnLimbsUptoSaid : Prop := fnLimbsUptoRow.holds Try.pinned (OpenSpec.upto fnLimbsSpec)

/-- 'laws.FnHalves', WHERE WHAT IT READS IS OF BULK AT MOST 1048576: true; the input reads as it did. -/
def fnHalvesUptoRow : OpenClaim := { program := "ytadooofomkdaoaa", sum := "44b478f4b0e177efe926efb38371d31bf784824801aa31662d74b2af5cadfd50", func := "loop.example/g00549/laws.FnHalves", spec := "fnHalves", apart := false, narrowed := true }
def FnHalvesUptoSaid : Prop := fnHalvesUptoRow.holds Try.pinned (OpenSpec.upto fnHalvesSpec)

/-- 'laws.FnExactValueAt', WHERE WHAT IT READS IS OF BULK AT MOST 1048576: true; the input reads as it did. -/
def fnExactValueAtUptoRow : OpenClaim := { program := "ytadooofomkdaoaa", sum := "44b478f4b0e177efe926efb38371d31bf784824801aa31662d74b2af5cadfd50", func := "loop.example/g00549/laws.FnExactValueAt", spec := "fnExactValueAt", apart := false, narrowed := true }
def FnExactValueAtUptoSaid : Prop := fnExactValueAtUptoRow.holds Try.pinned (OpenSpec.upto fnExactValueAtSpec)

/-- 'laws.FnExactSplitSecret', WHERE WHAT IT READS IS OF BULK AT MOST 1048576: true; the input reads as it did. -/
def fnExactSplitSecretUptoRow : OpenClaim := { program := "ytadooofomkdaoaa", sum := "44b478f4b0e177efe926efb38371d31bf784824801aa31662d74b2af5cadfd50", func := "loop.example/g00549/laws.FnExactSplitSecret", spec := "fnExactSplitSecret", apart := false, narrowed := true }
def FnExactSplitSecretUptoSaid : Prop := fnExactSplitSecretUptoRow.holds Try.pinned (OpenSpec.upto fnExactSplitSecretSpec)

/-- 'laws.FnExactWeightsOf', WHERE WHAT IT READS IS OF BULK AT MOST 1048576: true; the input reads as it did. -/
def fnExactWeightsOfUptoRow : OpenClaim := { program := "ytadooofomkdaoaa", sum := "44b478f4b0e177efe926efb38371d31bf784824801aa31662d74b2af5cadfd50", func := "loop.example/g00549/laws.FnExactWeightsOf", spec := "fnExactWeightsOf", apart := false, narrowed := true }
def FnExactWeightsOfUptoSaid : Prop := fnExactWeightsOfUptoRow.holds Try.pinned (OpenSpec.upto fnExactWeightsOfSpec)

/-- 'laws.FnExactAddParts', WHERE WHAT IT READS IS OF BULK AT MOST 1048576: true; the input reads as it did. -/
def fnExactAddPartsUptoRow : OpenClaim := { program := "ytadooofomkdaoaa", sum := "44b478f4b0e177efe926efb38371d31bf784824801aa31662d74b2af5cadfd50", func := "loop.example/g00549/laws.FnExactAddParts", spec := "fnExactAddParts", unfollowed := true, recurses := true, apart := false, narrowed := true }
def FnExactAddPartsUptoSaid : Prop := fnExactAddPartsUptoRow.holds Try.pinned (OpenSpec.upto fnExactAddPartsSpec)

/-- 'laws.FnExactThroughParts', WHERE WHAT IT READS IS OF BULK AT MOST 1048576: true; the input reads as it did. -/
def fnExactThroughPartsUptoRow : OpenClaim := { program := "ytadooofomkdaoaa", sum := "44b478f4b0e177efe926efb38371d31bf784824801aa31662d74b2af5cadfd50", func := "loop.example/g00549/laws.FnExactThroughParts", spec := "fnExactThroughParts", unfollowed := true, recurses := true, apart := false, narrowed := true }
def FnExactThroughPartsUptoSaid : Prop := fnExactThroughPartsUptoRow.holds Try.pinned (OpenSpec.upto fnExactThroughPartsSpec)

/-- 'laws.FnExactJoinParts', WHERE WHAT IT READS IS OF BULK AT MOST 1048576: true; the input reads as it did. -/
def fnExactJoinPartsUptoRow : OpenClaim := { program := "ytadooofomkdaoaa", sum := "44b478f4b0e177efe926efb38371d31bf784824801aa31662d74b2af5cadfd50", func := "loop.example/g00549/laws.FnExactJoinParts", spec := "fnExactJoinParts", unfollowed := true, recurses := true, apart := false, narrowed := true }
def FnExactJoinPartsUptoSaid : Prop := fnExactJoinPartsUptoRow.holds Try.pinned (OpenSpec.upto fnExactJoinPartsSpec)

/-- 'laws.FnExactSecretFits', WHERE WHAT IT READS IS OF BULK AT MOST 1048576: true; the input reads as it did. -/
def fnExactSecretFitsUptoRow : OpenClaim := { program := "ytadooofomkdaoaa", sum := "44b478f4b0e177efe926efb38371d31bf784824801aa31662d74b2af5cadfd50", func := "loop.example/g00549/laws.FnExactSecretFits", spec := "fnExactSecretFits", unfollowed := true, recurses := true, apart := false, narrowed := true }
def FnExactSecretFitsUptoSaid : Prop := fnExactSecretFitsUptoRow.holds Try.pinned (OpenSpec.upto fnExactSecretFitsSpec)

/-- 'laws.FnExactPolyThrough', WHERE WHAT IT READS IS OF BULK AT MOST 1048576: true; the input reads as it did. -/
def fnExactPolyThroughUptoRow : OpenClaim := { program := "ytadooofomkdaoaa", sum := "44b478f4b0e177efe926efb38371d31bf784824801aa31662d74b2af5cadfd50", func := "loop.example/g00549/laws.FnExactPolyThrough", spec := "fnExactPolyThrough", unfollowed := true, recurses := true, apart := false, narrowed := true }
def FnExactPolyThroughUptoSaid : Prop := fnExactPolyThroughUptoRow.holds Try.pinned (OpenSpec.upto fnExactPolyThroughSpec)

end Rows
end Go.Proofs.Ytadooofomkdaoaa
