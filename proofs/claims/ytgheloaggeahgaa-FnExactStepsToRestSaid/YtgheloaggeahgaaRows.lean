/-
  No cell of these rows narrows 'for every input' (looked for: loops, veiled, ifaces, maps, wideKeys, modest, calm, conditions, laid).
  DERIVED. THE GIVEN ROWS OF THIS SEAT. 14 by the template 'for every input the law returns true; each argument reads behind the call as it read before'; 0 by the template 'total and deterministic' (their statements: YtgheloaggeahgaaTotals.lean).
  GIVEN WITH THE SEED: the statements are not yours to turn. If you find one false, say at which input.
  Laid BY PROGRAM, IN A SANDBOX (cutbox-rows.mjs): the forced cells as the released guide's own fill.sh prints them over the translation c92b81bec5b3d316… (all of the seat's roots in one cut). By AI agents, Wed Nov 11 2026. No macro, syntax, notation, axiom, sorry.
-/
import Derived.Test.YtgheloaggeahgaaChecked
import GoSem.Claim
import GoSem.ClaimJoined
import GoSem.ClaimMapViews
import Derived.JoinedTies
import Derived.KernelRfl
namespace Go.Proofs.Ytgheloaggeahgaa
/- THE CELL 'sum', in the pinned program and in every row, IS THE sha256 OF THE DUMP (.gsa) THAT YtgheloaggeahgaaProg.lean LOADS. Nothing in Lean hashes anything: it is a label: what it is worth is what the hold of that sum in a sandbox is worth. -/
noncomputable def Try.pinned : Pinned := { name := "ytgheloaggeahgaa", sum := "c92b81bec5b3d3168b7212753dcd343f2fea228c61dc802fd14fce3923bb5d6d", checked := Try.checked }
namespace Rows
def none {H : Type} : Left H := { results := [], args := [] }

/-- 'laws.FnExactIsResting': WHATEVER THE INPUT: true; the input reads as it did. -/
def fnExactIsRestingSpec : ChangeSpec := { name := "fnExactIsResting", fn := fun _ => fun
  | [d] => { results := [.lit (.bool true)], args := [d] }
  | _ => none }
def fnExactIsRestingRow : OpenClaim := { program := "ytgheloaggeahgaa", sum := "c92b81bec5b3d3168b7212753dcd343f2fea228c61dc802fd14fce3923bb5d6d", func := "loop.example/g01333/laws.FnExactIsResting", spec := "fnExactIsResting", unfollowed := true, recurses := true, apart := false }
def FnExactIsRestingSaid : Prop := fnExactIsRestingRow.holds Try.pinned (OpenSpec.ofChange fnExactIsRestingSpec)

/-- ITS FALSE NEIGHBOUR: 'it returns false'. Refute it at one input. -/
def fnExactIsRestingWrong : ChangeSpec := { name := "fnExactIsResting", fn := fun _ => fun
  | [d] => { results := [.lit (.bool false)], args := [d] }
  | _ => none }
def FnExactIsRestingWrongFalsely : Prop := fnExactIsRestingRow.holds Try.pinned (OpenSpec.ofChange fnExactIsRestingWrong)

/-- 'laws.FnExactPassLeft': WHATEVER THE INPUT: true; the input reads as it did. -/
def fnExactPassLeftSpec : ChangeSpec := { name := "fnExactPassLeft", fn := fun _ => fun
  | [d] => { results := [.lit (.bool true)], args := [d] }
  | _ => none }
def fnExactPassLeftRow : OpenClaim := { program := "ytgheloaggeahgaa", sum := "c92b81bec5b3d3168b7212753dcd343f2fea228c61dc802fd14fce3923bb5d6d", func := "loop.example/g01333/laws.FnExactPassLeft", spec := "fnExactPassLeft", unfollowed := true, recurses := true, apart := false }
def FnExactPassLeftSaid : Prop := fnExactPassLeftRow.holds Try.pinned (OpenSpec.ofChange fnExactPassLeftSpec)

/-- ITS FALSE NEIGHBOUR: 'it returns false'. Refute it at one input. -/
def fnExactPassLeftWrong : ChangeSpec := { name := "fnExactPassLeft", fn := fun _ => fun
  | [d] => { results := [.lit (.bool false)], args := [d] }
  | _ => none }
def FnExactPassLeftWrongFalsely : Prop := fnExactPassLeftRow.holds Try.pinned (OpenSpec.ofChange fnExactPassLeftWrong)

/-- 'laws.FnExactCountByRest': WHATEVER THE INPUT: true; the input reads as it did. -/
def fnExactCountByRestSpec : ChangeSpec := { name := "fnExactCountByRest", fn := fun _ => fun
  | [d1, d2, d3] => { results := [.lit (.bool true)], args := [d1, d2, d3] }
  | _ => none }
def fnExactCountByRestRow : OpenClaim := { program := "ytgheloaggeahgaa", sum := "c92b81bec5b3d3168b7212753dcd343f2fea228c61dc802fd14fce3923bb5d6d", func := "loop.example/g01333/laws.FnExactCountByRest", spec := "fnExactCountByRest", unfollowed := true, recurses := true, apart := false }
def FnExactCountByRestSaid : Prop := fnExactCountByRestRow.holds Try.pinned (OpenSpec.ofChange fnExactCountByRestSpec)

/-- ITS FALSE NEIGHBOUR: 'it returns false'. Refute it at one input. -/
def fnExactCountByRestWrong : ChangeSpec := { name := "fnExactCountByRest", fn := fun _ => fun
  | [d1, d2, d3] => { results := [.lit (.bool false)], args := [d1, d2, d3] }
  | _ => none }
def FnExactCountByRestWrongFalsely : Prop := fnExactCountByRestRow.holds Try.pinned (OpenSpec.ofChange fnExactCountByRestWrong)

/-- 'laws.FnExactFirstLevel': WHATEVER THE INPUT: true; the input reads as it did. -/
def fnExactFirstLevelSpec : ChangeSpec := { name := "fnExactFirstLevel", fn := fun _ => fun
  | [d] => { results := [.lit (.bool true)], args := [d] }
  | _ => none }
def fnExactFirstLevelRow : OpenClaim := { program := "ytgheloaggeahgaa", sum := "c92b81bec5b3d3168b7212753dcd343f2fea228c61dc802fd14fce3923bb5d6d", func := "loop.example/g01333/laws.FnExactFirstLevel", spec := "fnExactFirstLevel", unfollowed := true, recurses := true, apart := false }
def FnExactFirstLevelSaid : Prop := fnExactFirstLevelRow.holds Try.pinned (OpenSpec.ofChange fnExactFirstLevelSpec)

/-- ITS FALSE NEIGHBOUR: 'it returns false'. Refute it at one input. -/
def fnExactFirstLevelWrong : ChangeSpec := { name := "fnExactFirstLevel", fn := fun _ => fun
  | [d] => { results := [.lit (.bool false)], args := [d] }
  | _ => none }
def FnExactFirstLevelWrongFalsely : Prop := fnExactFirstLevelRow.holds Try.pinned (OpenSpec.ofChange fnExactFirstLevelWrong)

/-- 'laws.FnExactRestOfCandies': WHATEVER THE INPUT: true; the input reads as it did. -/
def fnExactRestOfCandiesSpec : ChangeSpec := { name := "fnExactRestOfCandies", fn := fun _ => fun
  | [d] => { results := [.lit (.bool true)], args := [d] }
  | _ => none }
def fnExactRestOfCandiesRow : OpenClaim := { program := "ytgheloaggeahgaa", sum := "c92b81bec5b3d3168b7212753dcd343f2fea228c61dc802fd14fce3923bb5d6d", func := "loop.example/g01333/laws.FnExactRestOfCandies", spec := "fnExactRestOfCandies", unfollowed := true, recurses := true, apart := false }
def FnExactRestOfCandiesSaid : Prop := fnExactRestOfCandiesRow.holds Try.pinned (OpenSpec.ofChange fnExactRestOfCandiesSpec)

/-- ITS FALSE NEIGHBOUR: 'it returns false'. Refute it at one input. -/
def fnExactRestOfCandiesWrong : ChangeSpec := { name := "fnExactRestOfCandies", fn := fun _ => fun
  | [d] => { results := [.lit (.bool false)], args := [d] }
  | _ => none }
def FnExactRestOfCandiesWrongFalsely : Prop := fnExactRestOfCandiesRow.holds Try.pinned (OpenSpec.ofChange fnExactRestOfCandiesWrong)

/-- 'laws.FnExactStepsToRest': WHATEVER THE INPUT: true; the input reads as it did. -/
def fnExactStepsToRestSpec : ChangeSpec := { name := "fnExactStepsToRest", fn := fun _ => fun
  | [d] => { results := [.lit (.bool true)], args := [d] }
  | _ => none }
def fnExactStepsToRestRow : OpenClaim := { program := "ytgheloaggeahgaa", sum := "c92b81bec5b3d3168b7212753dcd343f2fea228c61dc802fd14fce3923bb5d6d", func := "loop.example/g01333/laws.FnExactStepsToRest", spec := "fnExactStepsToRest", unfollowed := true, recurses := true, apart := false }
def FnExactStepsToRestSaid : Prop := fnExactStepsToRestRow.holds Try.pinned (OpenSpec.ofChange fnExactStepsToRestSpec)

/-- ITS FALSE NEIGHBOUR: 'it returns false'. Refute it at one input. -/
def fnExactStepsToRestWrong : ChangeSpec := { name := "fnExactStepsToRest", fn := fun _ => fun
  | [d] => { results := [.lit (.bool false)], args := [d] }
  | _ => none }
def FnExactStepsToRestWrongFalsely : Prop := fnExactStepsToRestRow.holds Try.pinned (OpenSpec.ofChange fnExactStepsToRestWrong)

/-- 'laws.FnExactCandiesAfter': WHATEVER THE INPUT: true; the input reads as it did. -/
def fnExactCandiesAfterSpec : ChangeSpec := { name := "fnExactCandiesAfter", fn := fun _ => fun
  | [d1, d2] => { results := [.lit (.bool true)], args := [d1, d2] }
  | _ => none }
def fnExactCandiesAfterRow : OpenClaim := { program := "ytgheloaggeahgaa", sum := "c92b81bec5b3d3168b7212753dcd343f2fea228c61dc802fd14fce3923bb5d6d", func := "loop.example/g01333/laws.FnExactCandiesAfter", spec := "fnExactCandiesAfter", unfollowed := true, recurses := true, apart := false }
def FnExactCandiesAfterSaid : Prop := fnExactCandiesAfterRow.holds Try.pinned (OpenSpec.ofChange fnExactCandiesAfterSpec)

/-- ITS FALSE NEIGHBOUR: 'it returns false'. Refute it at one input. -/
def fnExactCandiesAfterWrong : ChangeSpec := { name := "fnExactCandiesAfter", fn := fun _ => fun
  | [d1, d2] => { results := [.lit (.bool false)], args := [d1, d2] }
  | _ => none }
def FnExactCandiesAfterWrongFalsely : Prop := fnExactCandiesAfterRow.holds Try.pinned (OpenSpec.ofChange fnExactCandiesAfterWrong)

/-- 'laws.FnExactGivenTo': WHATEVER THE INPUT: true; the input reads as it did. -/
def fnExactGivenToSpec : ChangeSpec := { name := "fnExactGivenTo", fn := fun _ => fun
  | [d] => { results := [.lit (.bool true)], args := [d] }
  | _ => none }
def fnExactGivenToRow : OpenClaim := { program := "ytgheloaggeahgaa", sum := "c92b81bec5b3d3168b7212753dcd343f2fea228c61dc802fd14fce3923bb5d6d", func := "loop.example/g01333/laws.FnExactGivenTo", spec := "fnExactGivenTo", unfollowed := true, recurses := true, apart := false }
def FnExactGivenToSaid : Prop := fnExactGivenToRow.holds Try.pinned (OpenSpec.ofChange fnExactGivenToSpec)

/-- ITS FALSE NEIGHBOUR: 'it returns false'. Refute it at one input. -/
def fnExactGivenToWrong : ChangeSpec := { name := "fnExactGivenTo", fn := fun _ => fun
  | [d] => { results := [.lit (.bool false)], args := [d] }
  | _ => none }
def FnExactGivenToWrongFalsely : Prop := fnExactGivenToRow.holds Try.pinned (OpenSpec.ofChange fnExactGivenToWrong)

/-- 'laws.FnExactFromTeacher': WHATEVER THE INPUT: true; the input reads as it did. -/
def fnExactFromTeacherSpec : ChangeSpec := { name := "fnExactFromTeacher", fn := fun _ => fun
  | [d] => { results := [.lit (.bool true)], args := [d] }
  | _ => none }
def fnExactFromTeacherRow : OpenClaim := { program := "ytgheloaggeahgaa", sum := "c92b81bec5b3d3168b7212753dcd343f2fea228c61dc802fd14fce3923bb5d6d", func := "loop.example/g01333/laws.FnExactFromTeacher", spec := "fnExactFromTeacher", unfollowed := true, recurses := true, apart := false }
def FnExactFromTeacherSaid : Prop := fnExactFromTeacherRow.holds Try.pinned (OpenSpec.ofChange fnExactFromTeacherSpec)

/-- ITS FALSE NEIGHBOUR: 'it returns false'. Refute it at one input. -/
def fnExactFromTeacherWrong : ChangeSpec := { name := "fnExactFromTeacher", fn := fun _ => fun
  | [d] => { results := [.lit (.bool false)], args := [d] }
  | _ => none }
def FnExactFromTeacherWrongFalsely : Prop := fnExactFromTeacherRow.holds Try.pinned (OpenSpec.ofChange fnExactFromTeacherWrong)

/-- 'laws.FnExactSlowestCircle': WHATEVER THE INPUT: true; the input reads as it did. -/
def fnExactSlowestCircleSpec : ChangeSpec := { name := "fnExactSlowestCircle", fn := fun _ => fun
  | [d1, d2] => { results := [.lit (.bool true)], args := [d1, d2] }
  | _ => none }
def fnExactSlowestCircleRow : OpenClaim := { program := "ytgheloaggeahgaa", sum := "c92b81bec5b3d3168b7212753dcd343f2fea228c61dc802fd14fce3923bb5d6d", func := "loop.example/g01333/laws.FnExactSlowestCircle", spec := "fnExactSlowestCircle", unfollowed := true, recurses := true, apart := false }
def FnExactSlowestCircleSaid : Prop := fnExactSlowestCircleRow.holds Try.pinned (OpenSpec.ofChange fnExactSlowestCircleSpec)

/-- ITS FALSE NEIGHBOUR: 'it returns false'. Refute it at one input. -/
def fnExactSlowestCircleWrong : ChangeSpec := { name := "fnExactSlowestCircle", fn := fun _ => fun
  | [d1, d2] => { results := [.lit (.bool false)], args := [d1, d2] }
  | _ => none }
def FnExactSlowestCircleWrongFalsely : Prop := fnExactSlowestCircleRow.holds Try.pinned (OpenSpec.ofChange fnExactSlowestCircleWrong)

/-- 'laws.FnExactCandyTrace': WHATEVER THE INPUT: true; the input reads as it did. -/
def fnExactCandyTraceSpec : ChangeSpec := { name := "fnExactCandyTrace", fn := fun _ => fun
  | [d] => { results := [.lit (.bool true)], args := [d] }
  | _ => none }
def fnExactCandyTraceRow : OpenClaim := { program := "ytgheloaggeahgaa", sum := "c92b81bec5b3d3168b7212753dcd343f2fea228c61dc802fd14fce3923bb5d6d", func := "loop.example/g01333/laws.FnExactCandyTrace", spec := "fnExactCandyTrace", unfollowed := true, recurses := true, apart := false }
def FnExactCandyTraceSaid : Prop := fnExactCandyTraceRow.holds Try.pinned (OpenSpec.ofChange fnExactCandyTraceSpec)

/-- ITS FALSE NEIGHBOUR: 'it returns false'. Refute it at one input. -/
def fnExactCandyTraceWrong : ChangeSpec := { name := "fnExactCandyTrace", fn := fun _ => fun
  | [d] => { results := [.lit (.bool false)], args := [d] }
  | _ => none }
def FnExactCandyTraceWrongFalsely : Prop := fnExactCandyTraceRow.holds Try.pinned (OpenSpec.ofChange fnExactCandyTraceWrong)

/-- 'laws.FnExactSpreadTrace': WHATEVER THE INPUT: true; the input reads as it did. -/
def fnExactSpreadTraceSpec : ChangeSpec := { name := "fnExactSpreadTrace", fn := fun _ => fun
  | [d] => { results := [.lit (.bool true)], args := [d] }
  | _ => none }
def fnExactSpreadTraceRow : OpenClaim := { program := "ytgheloaggeahgaa", sum := "c92b81bec5b3d3168b7212753dcd343f2fea228c61dc802fd14fce3923bb5d6d", func := "loop.example/g01333/laws.FnExactSpreadTrace", spec := "fnExactSpreadTrace", unfollowed := true, recurses := true, apart := false }
def FnExactSpreadTraceSaid : Prop := fnExactSpreadTraceRow.holds Try.pinned (OpenSpec.ofChange fnExactSpreadTraceSpec)

/-- ITS FALSE NEIGHBOUR: 'it returns false'. Refute it at one input. -/
def fnExactSpreadTraceWrong : ChangeSpec := { name := "fnExactSpreadTrace", fn := fun _ => fun
  | [d] => { results := [.lit (.bool false)], args := [d] }
  | _ => none }
def FnExactSpreadTraceWrongFalsely : Prop := fnExactSpreadTraceRow.holds Try.pinned (OpenSpec.ofChange fnExactSpreadTraceWrong)

/-- 'laws.FnCandiesTurn': WHATEVER THE INPUT: true; the input reads as it did. -/
def fnCandiesTurnSpec : ChangeSpec := { name := "fnCandiesTurn", fn := fun _ => fun
  | [d1, d2] => { results := [.lit (.bool true)], args := [d1, d2] }
  | _ => none }
def fnCandiesTurnRow : OpenClaim := { program := "ytgheloaggeahgaa", sum := "c92b81bec5b3d3168b7212753dcd343f2fea228c61dc802fd14fce3923bb5d6d", func := "loop.example/g01333/laws.FnCandiesTurn", spec := "fnCandiesTurn", unfollowed := true, recurses := true, apart := false }
def FnCandiesTurnSaid : Prop := fnCandiesTurnRow.holds Try.pinned (OpenSpec.ofChange fnCandiesTurnSpec)

/-- ITS FALSE NEIGHBOUR: 'it returns false'. Refute it at one input. -/
def fnCandiesTurnWrong : ChangeSpec := { name := "fnCandiesTurn", fn := fun _ => fun
  | [d1, d2] => { results := [.lit (.bool false)], args := [d1, d2] }
  | _ => none }
def FnCandiesTurnWrongFalsely : Prop := fnCandiesTurnRow.holds Try.pinned (OpenSpec.ofChange fnCandiesTurnWrong)

/-- 'laws.FnCandiesRest': WHATEVER THE INPUT: true; the input reads as it did. -/
def fnCandiesRestSpec : ChangeSpec := { name := "fnCandiesRest", fn := fun _ => fun
  | [d1, d2] => { results := [.lit (.bool true)], args := [d1, d2] }
  | _ => none }
def fnCandiesRestRow : OpenClaim := { program := "ytgheloaggeahgaa", sum := "c92b81bec5b3d3168b7212753dcd343f2fea228c61dc802fd14fce3923bb5d6d", func := "loop.example/g01333/laws.FnCandiesRest", spec := "fnCandiesRest", unfollowed := true, recurses := true, apart := false }
def FnCandiesRestSaid : Prop := fnCandiesRestRow.holds Try.pinned (OpenSpec.ofChange fnCandiesRestSpec)

/-- ITS FALSE NEIGHBOUR: 'it returns false'. Refute it at one input. -/
def fnCandiesRestWrong : ChangeSpec := { name := "fnCandiesRest", fn := fun _ => fun
  | [d1, d2] => { results := [.lit (.bool false)], args := [d1, d2] }
  | _ => none }
def FnCandiesRestWrongFalsely : Prop := fnCandiesRestRow.holds Try.pinned (OpenSpec.ofChange fnCandiesRestWrong)

/- THE SECOND FORM. 'bulk': how many values and letters a reading holds, each counted each time it is reached (what is shared counts as often as it is met; a slice's spare places count too). A statement '..UptoSaid' is the law's where the arguments, and the package variables that the reading takes, are together of bulk at most 1048576: NARROWER than '..Said'. Prove '..Said' where nothing that the law and all that it calls make is longer than what came in: it says more and counts as full. Else prove '..UptoSaid'. A law counts once. -/
mutual
def uptoBulk {H : Type} : DataW H → Nat
  | .lit (.string bytes) => bytes.length + 1
  | .lit _ => 1
  | .nil => 1
  | .ptr d => uptoBulk d + 1
  | .slice elems spare => uptoBulkAll elems + uptoBulkAll spare + 1
  | .agg parts => uptoBulkAll parts + 1
  | .iface _ d => uptoBulk d + 1
  | .map entries => uptoBulkEntries entries + 1
  | .held _ => 1
def uptoBulkAll {H : Type} : List (DataW H) → Nat
  | [] => 0
  | d :: r => uptoBulk d + uptoBulkAll r
def uptoBulkEntries {H : Type} : List (Lit × DataW H) → Nat
  | [] => 0
  | x :: r => uptoBulkEntry x + uptoBulkEntries r
def uptoBulkEntry {H : Type} : Lit × DataW H → Nat
  | (.string bytes, d) => bytes.length + uptoBulk d + 1
  | (_, d) => uptoBulk d + 1
 end
def uptoSmall : (H : Type) → List (DataW H) → Bool := fun _ ds => decide (uptoBulkAll ds ≤ 1048576)
def OpenSpec.upto (s : _root_.Go.ChangeSpec) : _root_.Go.OpenSpec := { _root_.Go.OpenSpec.ofChange s with cond := some uptoSmall }

/-- 'laws.FnExactIsResting', WHERE WHAT IT READS IS OF BULK AT MOST 1048576: true; the input reads as it did. -/
def fnExactIsRestingUptoRow : OpenClaim := { program := "ytgheloaggeahgaa", sum := "c92b81bec5b3d3168b7212753dcd343f2fea228c61dc802fd14fce3923bb5d6d", func := "loop.example/g01333/laws.FnExactIsResting", spec := "fnExactIsResting", unfollowed := true, recurses := true, apart := false, narrowed := true }
def FnExactIsRestingUptoSaid : Prop := fnExactIsRestingUptoRow.holds Try.pinned (OpenSpec.upto fnExactIsRestingSpec)

/-- 'laws.FnExactPassLeft', WHERE WHAT IT READS IS OF BULK AT MOST 1048576: true; the input reads as it did. -/
def fnExactPassLeftUptoRow : OpenClaim := { program := "ytgheloaggeahgaa", sum := "c92b81bec5b3d3168b7212753dcd343f2fea228c61dc802fd14fce3923bb5d6d", func := "loop.example/g01333/laws.FnExactPassLeft", spec := "fnExactPassLeft", unfollowed := true, recurses := true, apart := false, narrowed := true }
def FnExactPassLeftUptoSaid : Prop := fnExactPassLeftUptoRow.holds Try.pinned (OpenSpec.upto fnExactPassLeftSpec)

/-- 'laws.FnExactCountByRest', WHERE WHAT IT READS IS OF BULK AT MOST 1048576: true; the input reads as it did. -/
def fnExactCountByRestUptoRow : OpenClaim := { program := "ytgheloaggeahgaa", sum := "c92b81bec5b3d3168b7212753dcd343f2fea228c61dc802fd14fce3923bb5d6d", func := "loop.example/g01333/laws.FnExactCountByRest", spec := "fnExactCountByRest", unfollowed := true, recurses := true, apart := false, narrowed := true }
def FnExactCountByRestUptoSaid : Prop := fnExactCountByRestUptoRow.holds Try.pinned (OpenSpec.upto fnExactCountByRestSpec)

/-- 'laws.FnExactFirstLevel', WHERE WHAT IT READS IS OF BULK AT MOST 1048576: true; the input reads as it did. -/
def fnExactFirstLevelUptoRow : OpenClaim := { program := "ytgheloaggeahgaa", sum := "c92b81bec5b3d3168b7212753dcd343f2fea228c61dc802fd14fce3923bb5d6d", func := "loop.example/g01333/laws.FnExactFirstLevel", spec := "fnExactFirstLevel", unfollowed := true, recurses := true, apart := false, narrowed := true }
def FnExactFirstLevelUptoSaid : Prop := fnExactFirstLevelUptoRow.holds Try.pinned (OpenSpec.upto fnExactFirstLevelSpec)

/-- 'laws.FnExactRestOfCandies', WHERE WHAT IT READS IS OF BULK AT MOST 1048576: true; the input reads as it did. -/
def fnExactRestOfCandiesUptoRow : OpenClaim := { program := "ytgheloaggeahgaa", sum := "c92b81bec5b3d3168b7212753dcd343f2fea228c61dc802fd14fce3923bb5d6d", func := "loop.example/g01333/laws.FnExactRestOfCandies", spec := "fnExactRestOfCandies", unfollowed := true, recurses := true, apart := false, narrowed := true }
def FnExactRestOfCandiesUptoSaid : Prop := fnExactRestOfCandiesUptoRow.holds Try.pinned (OpenSpec.upto fnExactRestOfCandiesSpec)

/-- 'laws.FnExactStepsToRest', WHERE WHAT IT READS IS OF BULK AT MOST 1048576: true; the input reads as it did. -/
def fnExactStepsToRestUptoRow : OpenClaim := { program := "ytgheloaggeahgaa", sum := "c92b81bec5b3d3168b7212753dcd343f2fea228c61dc802fd14fce3923bb5d6d", func := "loop.example/g01333/laws.FnExactStepsToRest", spec := "fnExactStepsToRest", unfollowed := true, recurses := true, apart := false, narrowed := true }
def FnExactStepsToRestUptoSaid : Prop := fnExactStepsToRestUptoRow.holds Try.pinned (OpenSpec.upto fnExactStepsToRestSpec)

/-- 'laws.FnExactCandiesAfter', WHERE WHAT IT READS IS OF BULK AT MOST 1048576: true; the input reads as it did. -/
def fnExactCandiesAfterUptoRow : OpenClaim := { program := "ytgheloaggeahgaa", sum := "c92b81bec5b3d3168b7212753dcd343f2fea228c61dc802fd14fce3923bb5d6d", func := "loop.example/g01333/laws.FnExactCandiesAfter", spec := "fnExactCandiesAfter", unfollowed := true, recurses := true, apart := false, narrowed := true }
def FnExactCandiesAfterUptoSaid : Prop := fnExactCandiesAfterUptoRow.holds Try.pinned (OpenSpec.upto fnExactCandiesAfterSpec)

/-- 'laws.FnExactGivenTo', WHERE WHAT IT READS IS OF BULK AT MOST 1048576: true; the input reads as it did. -/
def fnExactGivenToUptoRow : OpenClaim := { program := "ytgheloaggeahgaa", sum := "c92b81bec5b3d3168b7212753dcd343f2fea228c61dc802fd14fce3923bb5d6d", func := "loop.example/g01333/laws.FnExactGivenTo", spec := "fnExactGivenTo", unfollowed := true, recurses := true, apart := false, narrowed := true }
def FnExactGivenToUptoSaid : Prop := fnExactGivenToUptoRow.holds Try.pinned (OpenSpec.upto fnExactGivenToSpec)

/-- 'laws.FnExactFromTeacher', WHERE WHAT IT READS IS OF BULK AT MOST 1048576: true; the input reads as it did. -/
def fnExactFromTeacherUptoRow : OpenClaim := { program := "ytgheloaggeahgaa", sum := "c92b81bec5b3d3168b7212753dcd343f2fea228c61dc802fd14fce3923bb5d6d", func := "loop.example/g01333/laws.FnExactFromTeacher", spec := "fnExactFromTeacher", unfollowed := true, recurses := true, apart := false, narrowed := true }
def FnExactFromTeacherUptoSaid : Prop := fnExactFromTeacherUptoRow.holds Try.pinned (OpenSpec.upto fnExactFromTeacherSpec)

/-- 'laws.FnExactSlowestCircle', WHERE WHAT IT READS IS OF BULK AT MOST 1048576: true; the input reads as it did. -/
def fnExactSlowestCircleUptoRow : OpenClaim := { program := "ytgheloaggeahgaa", sum := "c92b81bec5b3d3168b7212753dcd343f2fea228c61dc802fd14fce3923bb5d6d", func := "loop.example/g01333/laws.FnExactSlowestCircle", spec := "fnExactSlowestCircle", unfollowed := true, recurses := true, apart := false, narrowed := true }
def FnExactSlowestCircleUptoSaid : Prop := fnExactSlowestCircleUptoRow.holds Try.pinned (OpenSpec.upto fnExactSlowestCircleSpec)

/-- 'laws.FnExactCandyTrace', WHERE WHAT IT READS IS OF BULK AT MOST 1048576: true; the input reads as it did. -/
def fnExactCandyTraceUptoRow : OpenClaim := { program := "ytgheloaggeahgaa", sum := "c92b81bec5b3d3168b7212753dcd343f2fea228c61dc802fd14fce3923bb5d6d", func := "loop.example/g01333/laws.FnExactCandyTrace", spec := "fnExactCandyTrace", unfollowed := true, recurses := true, apart := false, narrowed := true }
def FnExactCandyTraceUptoSaid : Prop := fnExactCandyTraceUptoRow.holds Try.pinned (OpenSpec.upto fnExactCandyTraceSpec)

/-- 'laws.FnExactSpreadTrace', WHERE WHAT IT READS IS OF BULK AT MOST 1048576: true; the input reads as it did. -/
def fnExactSpreadTraceUptoRow : OpenClaim := { program := "ytgheloaggeahgaa", sum := "c92b81bec5b3d3168b7212753dcd343f2fea228c61dc802fd14fce3923bb5d6d", func := "loop.example/g01333/laws.FnExactSpreadTrace", spec := "fnExactSpreadTrace", unfollowed := true, recurses := true, apart := false, narrowed := true }
def FnExactSpreadTraceUptoSaid : Prop := fnExactSpreadTraceUptoRow.holds Try.pinned (OpenSpec.upto fnExactSpreadTraceSpec)

/-- 'laws.FnCandiesTurn', WHERE WHAT IT READS IS OF BULK AT MOST 1048576: true; the input reads as it did. -/
def fnCandiesTurnUptoRow : OpenClaim := { program := "ytgheloaggeahgaa", sum := "c92b81bec5b3d3168b7212753dcd343f2fea228c61dc802fd14fce3923bb5d6d", func := "loop.example/g01333/laws.FnCandiesTurn", spec := "fnCandiesTurn", unfollowed := true, recurses := true, apart := false, narrowed := true }
def FnCandiesTurnUptoSaid : Prop := fnCandiesTurnUptoRow.holds Try.pinned (OpenSpec.upto fnCandiesTurnSpec)

/-- 'laws.FnCandiesRest', WHERE WHAT IT READS IS OF BULK AT MOST 1048576: true; the input reads as it did. -/
def fnCandiesRestUptoRow : OpenClaim := { program := "ytgheloaggeahgaa", sum := "c92b81bec5b3d3168b7212753dcd343f2fea228c61dc802fd14fce3923bb5d6d", func := "loop.example/g01333/laws.FnCandiesRest", spec := "fnCandiesRest", unfollowed := true, recurses := true, apart := false, narrowed := true }
def FnCandiesRestUptoSaid : Prop := fnCandiesRestUptoRow.holds Try.pinned (OpenSpec.upto fnCandiesRestSpec)

end Rows
end Go.Proofs.Ytgheloaggeahgaa
