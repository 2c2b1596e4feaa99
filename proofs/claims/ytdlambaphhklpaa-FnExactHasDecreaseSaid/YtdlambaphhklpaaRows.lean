/-
  No cell of these rows narrows 'for every input' (looked for: loops, veiled, ifaces, maps, wideKeys, modest, calm, conditions, laid).
  DERIVED. THE GIVEN ROWS OF THIS SEAT. 9 by the template 'for every input the law returns true; each argument reads behind the call as it read before'; 0 by the template 'total and deterministic' (their statements: YtdlambaphhklpaaTotals.lean).
  GIVEN WITH THE SEED: the statements are not yours to turn. If you find one false, say at which input.
  Laid BY PROGRAM, IN A SANDBOX (cutbox-rows.mjs): the forced cells as the released guide's own fill.sh prints them over the translation 43e83365a42f1169… (all of the seat's roots in one cut). By AI agents, Wed Nov 11 2026. No macro, syntax, notation, axiom, sorry.
-/
import Derived.Test.YtdlambaphhklpaaChecked
import GoSem.Claim
import GoSem.ClaimJoined
import GoSem.ClaimMapViews
import Derived.JoinedTies
import Derived.KernelRfl
namespace Go.Proofs.Ytdlambaphhklpaa
/- THE CELL 'sum', in the pinned program and in every row, IS THE sha256 OF THE DUMP (.gsa) THAT YtdlambaphhklpaaProg.lean LOADS. Nothing in Lean hashes anything: it is a label: what it is worth is what the hold of that sum in a sandbox is worth. -/
noncomputable def Try.pinned : Pinned := { name := "ytdlambaphhklpaa", sum := "43e83365a42f1169e4900c8bab784c78008911c804222369a2ab8367a4d685e9", checked := Try.checked }
namespace Rows
def none {H : Type} : Left H := { results := [], args := [] }

/-- 'laws.FnExactExampleProgram': WHATEVER THE INPUT: true; the input reads as it did. -/
def fnExactExampleProgramSpec : ChangeSpec := { name := "fnExactExampleProgram", fn := fun _ => fun
  | [d] => { results := [.lit (.bool true)], args := [d] }
  | _ => none }
def fnExactExampleProgramRow : OpenClaim := { program := "ytdlambaphhklpaa", sum := "43e83365a42f1169e4900c8bab784c78008911c804222369a2ab8367a4d685e9", func := "loop.example/g00515/laws.FnExactExampleProgram", spec := "fnExactExampleProgram", apart := false }
def FnExactExampleProgramSaid : Prop := fnExactExampleProgramRow.holds Try.pinned (OpenSpec.ofChange fnExactExampleProgramSpec)

/-- ITS FALSE NEIGHBOUR: 'it returns false'. Refute it at one input. -/
def fnExactExampleProgramWrong : ChangeSpec := { name := "fnExactExampleProgram", fn := fun _ => fun
  | [d] => { results := [.lit (.bool false)], args := [d] }
  | _ => none }
def FnExactExampleProgramWrongFalsely : Prop := fnExactExampleProgramRow.holds Try.pinned (OpenSpec.ofChange fnExactExampleProgramWrong)

/-- 'laws.FnExactTotalCost': WHATEVER THE INPUT: true; the input reads as it did. -/
def fnExactTotalCostSpec : ChangeSpec := { name := "fnExactTotalCost", fn := fun _ => fun
  | [d1, d2] => { results := [.lit (.bool true)], args := [d1, d2] }
  | _ => none }
def fnExactTotalCostRow : OpenClaim := { program := "ytdlambaphhklpaa", sum := "43e83365a42f1169e4900c8bab784c78008911c804222369a2ab8367a4d685e9", func := "loop.example/g00515/laws.FnExactTotalCost", spec := "fnExactTotalCost", apart := false }
def FnExactTotalCostSaid : Prop := fnExactTotalCostRow.holds Try.pinned (OpenSpec.ofChange fnExactTotalCostSpec)

/-- ITS FALSE NEIGHBOUR: 'it returns false'. Refute it at one input. -/
def fnExactTotalCostWrong : ChangeSpec := { name := "fnExactTotalCost", fn := fun _ => fun
  | [d1, d2] => { results := [.lit (.bool false)], args := [d1, d2] }
  | _ => none }
def FnExactTotalCostWrongFalsely : Prop := fnExactTotalCostRow.holds Try.pinned (OpenSpec.ofChange fnExactTotalCostWrong)

/-- 'laws.FnExactHasDecrease': WHATEVER THE INPUT: true; the input reads as it did. -/
def fnExactHasDecreaseSpec : ChangeSpec := { name := "fnExactHasDecrease", fn := fun _ => fun
  | [d] => { results := [.lit (.bool true)], args := [d] }
  | _ => none }
def fnExactHasDecreaseRow : OpenClaim := { program := "ytdlambaphhklpaa", sum := "43e83365a42f1169e4900c8bab784c78008911c804222369a2ab8367a4d685e9", func := "loop.example/g00515/laws.FnExactHasDecrease", spec := "fnExactHasDecrease", apart := false }
def FnExactHasDecreaseSaid : Prop := fnExactHasDecreaseRow.holds Try.pinned (OpenSpec.ofChange fnExactHasDecreaseSpec)

/-- ITS FALSE NEIGHBOUR: 'it returns false'. Refute it at one input. -/
def fnExactHasDecreaseWrong : ChangeSpec := { name := "fnExactHasDecrease", fn := fun _ => fun
  | [d] => { results := [.lit (.bool false)], args := [d] }
  | _ => none }
def FnExactHasDecreaseWrongFalsely : Prop := fnExactHasDecreaseRow.holds Try.pinned (OpenSpec.ofChange fnExactHasDecreaseWrong)

/-- 'laws.FnExactBelowGraph': WHATEVER THE INPUT: true; the input reads as it did. -/
def fnExactBelowGraphSpec : ChangeSpec := { name := "fnExactBelowGraph", fn := fun _ => fun
  | [d1, d2] => { results := [.lit (.bool true)], args := [d1, d2] }
  | _ => none }
def fnExactBelowGraphRow : OpenClaim := { program := "ytdlambaphhklpaa", sum := "43e83365a42f1169e4900c8bab784c78008911c804222369a2ab8367a4d685e9", func := "loop.example/g00515/laws.FnExactBelowGraph", spec := "fnExactBelowGraph", unfollowed := true, recurses := true, apart := false }
def FnExactBelowGraphSaid : Prop := fnExactBelowGraphRow.holds Try.pinned (OpenSpec.ofChange fnExactBelowGraphSpec)

/-- ITS FALSE NEIGHBOUR: 'it returns false'. Refute it at one input. -/
def fnExactBelowGraphWrong : ChangeSpec := { name := "fnExactBelowGraph", fn := fun _ => fun
  | [d1, d2] => { results := [.lit (.bool false)], args := [d1, d2] }
  | _ => none }
def FnExactBelowGraphWrongFalsely : Prop := fnExactBelowGraphRow.holds Try.pinned (OpenSpec.ofChange fnExactBelowGraphWrong)

/-- 'laws.FnExactCandidateConditions': WHATEVER THE INPUT: true; the input reads as it did. -/
def fnExactCandidateConditionsSpec : ChangeSpec := { name := "fnExactCandidateConditions", fn := fun _ => fun
  | [d] => { results := [.lit (.bool true)], args := [d] }
  | _ => none }
def fnExactCandidateConditionsRow : OpenClaim := { program := "ytdlambaphhklpaa", sum := "43e83365a42f1169e4900c8bab784c78008911c804222369a2ab8367a4d685e9", func := "loop.example/g00515/laws.FnExactCandidateConditions", spec := "fnExactCandidateConditions", apart := false }
def FnExactCandidateConditionsSaid : Prop := fnExactCandidateConditionsRow.holds Try.pinned (OpenSpec.ofChange fnExactCandidateConditionsSpec)

/-- ITS FALSE NEIGHBOUR: 'it returns false'. Refute it at one input. -/
def fnExactCandidateConditionsWrong : ChangeSpec := { name := "fnExactCandidateConditions", fn := fun _ => fun
  | [d] => { results := [.lit (.bool false)], args := [d] }
  | _ => none }
def FnExactCandidateConditionsWrongFalsely : Prop := fnExactCandidateConditionsRow.holds Try.pinned (OpenSpec.ofChange fnExactCandidateConditionsWrong)

/-- 'laws.FnExactEqualGraph': WHATEVER THE INPUT: true; the input reads as it did. -/
def fnExactEqualGraphSpec : ChangeSpec := { name := "fnExactEqualGraph", fn := fun _ => fun
  | [d1, d2] => { results := [.lit (.bool true)], args := [d1, d2] }
  | _ => none }
def fnExactEqualGraphRow : OpenClaim := { program := "ytdlambaphhklpaa", sum := "43e83365a42f1169e4900c8bab784c78008911c804222369a2ab8367a4d685e9", func := "loop.example/g00515/laws.FnExactEqualGraph", spec := "fnExactEqualGraph", unfollowed := true, recurses := true, apart := false }
def FnExactEqualGraphSaid : Prop := fnExactEqualGraphRow.holds Try.pinned (OpenSpec.ofChange fnExactEqualGraphSpec)

/-- ITS FALSE NEIGHBOUR: 'it returns false'. Refute it at one input. -/
def fnExactEqualGraphWrong : ChangeSpec := { name := "fnExactEqualGraph", fn := fun _ => fun
  | [d1, d2] => { results := [.lit (.bool false)], args := [d1, d2] }
  | _ => none }
def FnExactEqualGraphWrongFalsely : Prop := fnExactEqualGraphRow.holds Try.pinned (OpenSpec.ofChange fnExactEqualGraphWrong)

/-- 'laws.FnIdempotent': WHATEVER THE INPUT: true; the input reads as it did. -/
def fnIdempotentSpec : ChangeSpec := { name := "fnIdempotent", fn := fun _ => fun
  | [d] => { results := [.lit (.bool true)], args := [d] }
  | _ => none }
def fnIdempotentRow : OpenClaim := { program := "ytdlambaphhklpaa", sum := "43e83365a42f1169e4900c8bab784c78008911c804222369a2ab8367a4d685e9", func := "loop.example/g00515/laws.FnIdempotent", spec := "fnIdempotent", unfollowed := true, recurses := true, apart := false }
def FnIdempotentSaid : Prop := fnIdempotentRow.holds Try.pinned (OpenSpec.ofChange fnIdempotentSpec)

/-- ITS FALSE NEIGHBOUR: 'it returns false'. Refute it at one input. -/
def fnIdempotentWrong : ChangeSpec := { name := "fnIdempotent", fn := fun _ => fun
  | [d] => { results := [.lit (.bool false)], args := [d] }
  | _ => none }
def FnIdempotentWrongFalsely : Prop := fnIdempotentRow.holds Try.pinned (OpenSpec.ofChange fnIdempotentWrong)

/-- 'laws.FnExactComposeGraphs': WHATEVER THE INPUT: true; the input reads as it did. -/
def fnExactComposeGraphsSpec : ChangeSpec := { name := "fnExactComposeGraphs", fn := fun _ => fun
  | [d1, d2] => { results := [.lit (.bool true)], args := [d1, d2] }
  | _ => none }
def fnExactComposeGraphsRow : OpenClaim := { program := "ytdlambaphhklpaa", sum := "43e83365a42f1169e4900c8bab784c78008911c804222369a2ab8367a4d685e9", func := "loop.example/g00515/laws.FnExactComposeGraphs", spec := "fnExactComposeGraphs", apart := false }
def FnExactComposeGraphsSaid : Prop := fnExactComposeGraphsRow.holds Try.pinned (OpenSpec.ofChange fnExactComposeGraphsSpec)

/-- ITS FALSE NEIGHBOUR: 'it returns false'. Refute it at one input. -/
def fnExactComposeGraphsWrong : ChangeSpec := { name := "fnExactComposeGraphs", fn := fun _ => fun
  | [d1, d2] => { results := [.lit (.bool false)], args := [d1, d2] }
  | _ => none }
def FnExactComposeGraphsWrongFalsely : Prop := fnExactComposeGraphsRow.holds Try.pinned (OpenSpec.ofChange fnExactComposeGraphsWrong)

/-- 'laws.FnExactIsIdempotent': WHATEVER THE INPUT: true; the input reads as it did. -/
def fnExactIsIdempotentSpec : ChangeSpec := { name := "fnExactIsIdempotent", fn := fun _ => fun
  | [d] => { results := [.lit (.bool true)], args := [d] }
  | _ => none }
def fnExactIsIdempotentRow : OpenClaim := { program := "ytdlambaphhklpaa", sum := "43e83365a42f1169e4900c8bab784c78008911c804222369a2ab8367a4d685e9", func := "loop.example/g00515/laws.FnExactIsIdempotent", spec := "fnExactIsIdempotent", unfollowed := true, recurses := true, apart := false }
def FnExactIsIdempotentSaid : Prop := fnExactIsIdempotentRow.holds Try.pinned (OpenSpec.ofChange fnExactIsIdempotentSpec)

/-- ITS FALSE NEIGHBOUR: 'it returns false'. Refute it at one input. -/
def fnExactIsIdempotentWrong : ChangeSpec := { name := "fnExactIsIdempotent", fn := fun _ => fun
  | [d] => { results := [.lit (.bool false)], args := [d] }
  | _ => none }
def FnExactIsIdempotentWrongFalsely : Prop := fnExactIsIdempotentRow.holds Try.pinned (OpenSpec.ofChange fnExactIsIdempotentWrong)

/- THE SECOND FORM. 'bulk': how many values and letters a reading holds, each counted each time it is reached (what is shared counts as often as it is met; a slice's spare places count too). A statement '..UptoSaid' is the law's where the arguments, and the package variables that the reading takes, are together of bulk at most 1048576: NARROWER than '..Said'. Prove '..Said' where nothing that the law and all that it calls make is longer than what came in: it says more and counts as full. Else prove '..UptoSaid'. A law counts once. -/
mutual
def uptoBulk {H : Type} : DataW H → Nat
  | .lit (.string bytes) => bytes.length + 1
  | .lit _ => 1
  | .nil => 1
  | .ptr d => uptoBulk d + 1
  | .slice elems spare => uptoBulkAll elems + uptoBulkAll spare + 1
  | .agg parts => uptoBulkAll parts + 1
  | .iface _ d => uptoBulk d + 1
  | .map entries => uptoBulkEntries entries + 1
  | .held _ => 1
def uptoBulkAll {H : Type} : List (DataW H) → Nat
  | [] => 0
  | d :: r => uptoBulk d + uptoBulkAll r
def uptoBulkEntries {H : Type} : List (Lit × DataW H) → Nat
  | [] => 0
  | x :: r => uptoBulkEntry x + uptoBulkEntries r
def uptoBulkEntry {H : Type} : Lit × DataW H → Nat
  | (.string bytes, d) => bytes.length + uptoBulk d + 1
  | (_, d) => uptoBulk d + 1
 end
def uptoSmall : (H : Type) → List (DataW H) → Bool := fun _ ds => decide (uptoBulkAll ds ≤ 1048576)
def OpenSpec.upto (s : _root_.Go.ChangeSpec) : _root_.Go.OpenSpec := { _root_.Go.OpenSpec.ofChange s with cond := some uptoSmall }

/-- 'laws.FnExactExampleProgram', WHERE WHAT IT READS IS OF BULK AT MOST 1048576: true; the input reads as it did. -/
def fnExactExampleProgramUptoRow : OpenClaim := { program := "ytdlambaphhklpaa", sum := "43e83365a42f1169e4900c8bab784c78008911c804222369a2ab8367a4d685e9", func := "loop.example/g00515/laws.FnExactExampleProgram", spec := "fnExactExampleProgram", apart := false, narrowed := true }
def FnExactExampleProgramUptoSaid : Prop := fnExactExampleProgramUptoRow.holds Try.pinned (OpenSpec.upto fnExactExampleProgramSpec)

/-- 'laws.FnExactTotalCost', WHERE WHAT IT READS IS OF BULK AT MOST 1048576: true; the input reads as it did. -/
def fnExactTotalCostUptoRow : OpenClaim := { program := "ytdlambaphhklpaa", sum := "43e83365a42f1169e4900c8bab784c78008911c804222369a2ab8367a4d685e9", func := "loop.example/g00515/laws.FnExactTotalCost", spec := "fnExactTotalCost", apart := false, narrowed := true }
def FnExactTotalCostUptoSaid : Prop := fnExactTotalCostUptoRow.holds Try.pinned (OpenSpec.upto fnExactTotalCostSpec)

/-- 'laws.FnExactHasDecrease', WHERE WHAT IT READS IS OF BULK AT MOST 1048576: true; the input reads as it did. -/
def fnExactHasDecreaseUptoRow : OpenClaim := { program := "ytdlambaphhklpaa", sum := "43e83365a42f1169e4900c8bab784c78008911c804222369a2ab8367a4d685e9", func := "loop.example/g00515/laws.FnExactHasDecrease", spec := "fnExactHasDecrease", apart := false, narrowed := true }
def FnExactHasDecreaseUptoSaid : Prop := fnExactHasDecreaseUptoRow.holds Try.pinned (OpenSpec.upto fnExactHasDecreaseSpec)

/-- 'laws.FnExactBelowGraph', WHERE WHAT IT READS IS OF BULK AT MOST 1048576: true; the input reads as it did. -/
def fnExactBelowGraphUptoRow : OpenClaim := { program := "ytdlambaphhklpaa", sum := "43e83365a42f1169e4900c8bab784c78008911c804222369a2ab8367a4d685e9", func := "loop.example/g00515/laws.FnExactBelowGraph", spec := "fnExactBelowGraph", unfollowed := true, recurses := true, apart := false, narrowed := true }
def FnExactBelowGraphUptoSaid : Prop := fnExactBelowGraphUptoRow.holds Try.pinned (OpenSpec.upto fnExactBelowGraphSpec)

/-- 'laws.FnExactCandidateConditions', WHERE WHAT IT READS IS OF BULK AT MOST 1048576: true; the input reads as it did. -/
def fnExactCandidateConditionsUptoRow : OpenClaim := { program := "ytdlambaphhklpaa", sum := "43e83365a42f1169e4900c8bab784c78008911c804222369a2ab8367a4d685e9", func := "loop.example/g00515/laws.FnExactCandidateConditions", spec := "fnExactCandidateConditions", apart := false, narrowed := true }
def FnExactCandidateConditionsUptoSaid : Prop := fnExactCandidateConditionsUptoRow.holds Try.pinned (OpenSpec.upto fnExactCandidateConditionsSpec)

/-- 'laws.FnExactEqualGraph', WHERE WHAT IT READS IS OF BULK AT MOST 1048576: true; the input reads as it did. -/
def fnExactEqualGraphUptoRow : OpenClaim := { program := "ytdlambaphhklpaa", sum := "43e83365a42f1169e4900c8bab784c78008911c804222369a2ab8367a4d685e9", func := "loop.example/g00515/laws.FnExactEqualGraph", spec := "fnExactEqualGraph", unfollowed := true, recurses := true, apart := false, narrowed := true }
def FnExactEqualGraphUptoSaid : Prop := fnExactEqualGraphUptoRow.holds Try.pinned (OpenSpec.upto fnExactEqualGraphSpec)

/-- 'laws.FnIdempotent', WHERE WHAT IT READS IS OF BULK AT MOST 1048576: true; the input reads as it did. -/
def fnIdempotentUptoRow : OpenClaim := { program := "ytdlambaphhklpaa", sum := "43e83365a42f1169e4900c8bab784c78008911c804222369a2ab8367a4d685e9", func := "loop.example/g00515/laws.FnIdempotent", spec := "fnIdempotent", unfollowed := true, recurses := true, apart := false, narrowed := true }
def FnIdempotentUptoSaid : Prop := fnIdempotentUptoRow.holds Try.pinned (OpenSpec.upto fnIdempotentSpec)

/-- 'laws.FnExactComposeGraphs', WHERE WHAT IT READS IS OF BULK AT MOST 1048576: true; the input reads as it did. -/
def fnExactComposeGraphsUptoRow : OpenClaim := { program := "ytdlambaphhklpaa", sum := "43e83365a42f1169e4900c8bab784c78008911c804222369a2ab8367a4d685e9", func := "loop.example/g00515/laws.FnExactComposeGraphs", spec := "fnExactComposeGraphs", apart := false, narrowed := true }
def FnExactComposeGraphsUptoSaid : Prop := fnExactComposeGraphsUptoRow.holds Try.pinned (OpenSpec.upto fnExactComposeGraphsSpec)

/-- 'laws.FnExactIsIdempotent', WHERE WHAT IT READS IS OF BULK AT MOST 1048576: true; the input reads as it did. -/
def fnExactIsIdempotentUptoRow : OpenClaim := { program := "ytdlambaphhklpaa", sum := "43e83365a42f1169e4900c8bab784c78008911c804222369a2ab8367a4d685e9", func := "loop.example/g00515/laws.FnExactIsIdempotent", spec := "fnExactIsIdempotent", unfollowed := true, recurses := true, apart := false, narrowed := true }
def FnExactIsIdempotentUptoSaid : Prop := fnExactIsIdempotentUptoRow.holds Try.pinned (OpenSpec.upto fnExactIsIdempotentSpec)

end Rows
end Go.Proofs.Ytdlambaphhklpaa
