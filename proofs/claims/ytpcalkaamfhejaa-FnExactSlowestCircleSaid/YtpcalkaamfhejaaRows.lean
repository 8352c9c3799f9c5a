/-
  No cell of these rows narrows 'for every input' (looked for: loops, veiled, ifaces, maps, wideKeys, modest, calm, conditions, laid).
  DERIVED. THE GIVEN ROWS OF THIS SEAT. 6 by the template 'for every input the law returns true; each argument reads behind the call as it read before'; 0 by the template 'total and deterministic' (their statements: YtpcalkaamfhejaaTotals.lean).
  GIVEN WITH THE SEED: the statements are not yours to turn. If you find one false, say at which input.
  Laid BY PROGRAM, IN A SANDBOX (cutbox-rows.mjs): the forced cells as the released guide's own fill.sh prints them over the translation c53847b453d5f5ab… (all of the seat's roots in one cut). By AI agents, Wed Nov 11 2026. No macro, syntax, notation, axiom, sorry.
-/
import Derived.Test.YtpcalkaamfhejaaChecked
import GoSem.Claim
import GoSem.ClaimJoined
import GoSem.ClaimMapViews
import Derived.JoinedTies
import Derived.KernelRfl
namespace Go.Proofs.Ytpcalkaamfhejaa
/- THE CELL 'sum', in the pinned program and in every row, IS THE sha256 OF THE DUMP (.gsa) THAT YtpcalkaamfhejaaProg.lean LOADS. Nothing in Lean hashes anything: it is a label: what it is worth is what the hold of that sum in a sandbox is worth. -/
noncomputable def Try.pinned : Pinned := { name := "ytpcalkaamfhejaa", sum := "c53847b453d5f5abd92587e336ad069b7e0a5382a64939b25b0d18a3a42ba532", checked := Try.checked }
namespace Rows
def none {H : Type} : Left H := { results := [], args := [] }

/-- 'laws.FnExactCountByRest': WHATEVER THE INPUT: true; the input reads as it did. -/
def fnExactCountByRestSpec : ChangeSpec := { name := "fnExactCountByRest", fn := fun _ => fun
  | [d1, d2, d3] => { results := [.lit (.bool true)], args := [d1, d2, d3] }
  | _ => none }
def fnExactCountByRestRow : OpenClaim := { program := "ytpcalkaamfhejaa", sum := "c53847b453d5f5abd92587e336ad069b7e0a5382a64939b25b0d18a3a42ba532", func := "loop.example/g01333/laws.FnExactCountByRest", spec := "fnExactCountByRest", unfollowed := true, recurses := true, apart := false }
def FnExactCountByRestSaid : Prop := fnExactCountByRestRow.holds Try.pinned (OpenSpec.ofChange fnExactCountByRestSpec)

/-- ITS FALSE NEIGHBOUR: 'it returns false'. Refute it at one input. -/
def fnExactCountByRestWrong : ChangeSpec := { name := "fnExactCountByRest", fn := fun _ => fun
  | [d1, d2, d3] => { results := [.lit (.bool false)], args := [d1, d2, d3] }
  | _ => none }
def FnExactCountByRestWrongFalsely : Prop := fnExactCountByRestRow.holds Try.pinned (OpenSpec.ofChange fnExactCountByRestWrong)

/-- 'laws.FnExactSlowestCircle': WHATEVER THE INPUT: true; the input reads as it did. -/
def fnExactSlowestCircleSpec : ChangeSpec := { name := "fnExactSlowestCircle", fn := fun _ => fun
  | [d1, d2] => { results := [.lit (.bool true)], args := [d1, d2] }
  | _ => none }
def fnExactSlowestCircleRow : OpenClaim := { program := "ytpcalkaamfhejaa", sum := "c53847b453d5f5abd92587e336ad069b7e0a5382a64939b25b0d18a3a42ba532", func := "loop.example/g01333/laws.FnExactSlowestCircle", spec := "fnExactSlowestCircle", unfollowed := true, recurses := true, apart := false }
def FnExactSlowestCircleSaid : Prop := fnExactSlowestCircleRow.holds Try.pinned (OpenSpec.ofChange fnExactSlowestCircleSpec)

/-- ITS FALSE NEIGHBOUR: 'it returns false'. Refute it at one input. -/
def fnExactSlowestCircleWrong : ChangeSpec := { name := "fnExactSlowestCircle", fn := fun _ => fun
  | [d1, d2] => { results := [.lit (.bool false)], args := [d1, d2] }
  | _ => none }
def FnExactSlowestCircleWrongFalsely : Prop := fnExactSlowestCircleRow.holds Try.pinned (OpenSpec.ofChange fnExactSlowestCircleWrong)

/-- 'laws.FnExactCandyTrace': WHATEVER THE INPUT: true; the input reads as it did. -/
def fnExactCandyTraceSpec : ChangeSpec := { name := "fnExactCandyTrace", fn := fun _ => fun
  | [d] => { results := [.lit (.bool true)], args := [d] }
  | _ => none }
def fnExactCandyTraceRow : OpenClaim := { program := "ytpcalkaamfhejaa", sum := "c53847b453d5f5abd92587e336ad069b7e0a5382a64939b25b0d18a3a42ba532", func := "loop.example/g01333/laws.FnExactCandyTrace", spec := "fnExactCandyTrace", unfollowed := true, recurses := true, apart := false }
def FnExactCandyTraceSaid : Prop := fnExactCandyTraceRow.holds Try.pinned (OpenSpec.ofChange fnExactCandyTraceSpec)

/-- ITS FALSE NEIGHBOUR: 'it returns false'. Refute it at one input. -/
def fnExactCandyTraceWrong : ChangeSpec := { name := "fnExactCandyTrace", fn := fun _ => fun
  | [d] => { results := [.lit (.bool false)], args := [d] }
  | _ => none }
def FnExactCandyTraceWrongFalsely : Prop := fnExactCandyTraceRow.holds Try.pinned (OpenSpec.ofChange fnExactCandyTraceWrong)

/-- 'laws.FnExactSpreadTrace': WHATEVER THE INPUT: true; the input reads as it did. -/
def fnExactSpreadTraceSpec : ChangeSpec := { name := "fnExactSpreadTrace", fn := fun _ => fun
  | [d] => { results := [.lit (.bool true)], args := [d] }
  | _ => none }
def fnExactSpreadTraceRow : OpenClaim := { program := "ytpcalkaamfhejaa", sum := "c53847b453d5f5abd92587e336ad069b7e0a5382a64939b25b0d18a3a42ba532", func := "loop.example/g01333/laws.FnExactSpreadTrace", spec := "fnExactSpreadTrace", unfollowed := true, recurses := true, apart := false }
def FnExactSpreadTraceSaid : Prop := fnExactSpreadTraceRow.holds Try.pinned (OpenSpec.ofChange fnExactSpreadTraceSpec)

/-- ITS FALSE NEIGHBOUR: 'it returns false'. Refute it at one input. -/
def fnExactSpreadTraceWrong : ChangeSpec := { name := "fnExactSpreadTrace", fn := fun _ => fun
  | [d] => { results := [.lit (.bool false)], args := [d] }
  | _ => none }
def FnExactSpreadTraceWrongFalsely : Prop := fnExactSpreadTraceRow.holds Try.pinned (OpenSpec.ofChange fnExactSpreadTraceWrong)

/-- 'laws.FnCandiesTurn': WHATEVER THE INPUT: true; the input reads as it did. -/
def fnCandiesTurnSpec : ChangeSpec := { name := "fnCandiesTurn", fn := fun _ => fun
  | [d1, d2] => { results := [.lit (.bool true)], args := [d1, d2] }
  | _ => none }
def fnCandiesTurnRow : OpenClaim := { program := "ytpcalkaamfhejaa", sum := "c53847b453d5f5abd92587e336ad069b7e0a5382a64939b25b0d18a3a42ba532", func := "loop.example/g01333/laws.FnCandiesTurn", spec := "fnCandiesTurn", unfollowed := true, recurses := true, apart := false }
def FnCandiesTurnSaid : Prop := fnCandiesTurnRow.holds Try.pinned (OpenSpec.ofChange fnCandiesTurnSpec)

/-- ITS FALSE NEIGHBOUR: 'it returns false'. Refute it at one input. -/
def fnCandiesTurnWrong : ChangeSpec := { name := "fnCandiesTurn", fn := fun _ => fun
  | [d1, d2] => { results := [.lit (.bool false)], args := [d1, d2] }
  | _ => none }
def FnCandiesTurnWrongFalsely : Prop := fnCandiesTurnRow.holds Try.pinned (OpenSpec.ofChange fnCandiesTurnWrong)

/-- 'laws.FnCandiesRest': WHATEVER THE INPUT: true; the input reads as it did. -/
def fnCandiesRestSpec : ChangeSpec := { name := "fnCandiesRest", fn := fun _ => fun
  | [d1, d2] => { results := [.lit (.bool true)], args := [d1, d2] }
  | _ => none }
def fnCandiesRestRow : OpenClaim := { program := "ytpcalkaamfhejaa", sum := "c53847b453d5f5abd92587e336ad069b7e0a5382a64939b25b0d18a3a42ba532", func := "loop.example/g01333/laws.FnCandiesRest", spec := "fnCandiesRest", unfollowed := true, recurses := true, apart := false }
def FnCandiesRestSaid : Prop := fnCandiesRestRow.holds Try.pinned (OpenSpec.ofChange fnCandiesRestSpec)

/-- ITS FALSE NEIGHBOUR: 'it returns false'. Refute it at one input. -/
def fnCandiesRestWrong : ChangeSpec := { name := "fnCandiesRest", fn := fun _ => fun
  | [d1, d2] => { results := [.lit (.bool false)], args := [d1, d2] }
  | _ => none }
def FnCandiesRestWrongFalsely : Prop := fnCandiesRestRow.holds Try.pinned (OpenSpec.ofChange fnCandiesRestWrong)

/- THE SECOND FORM. 'bulk': how many values and letters a reading holds, each counted each time it is reached (what is shared counts as often as it is met; a slice's spare places count too). A statement '..UptoSaid' is the law's where the arguments, and the package variables that the reading takes, are together of bulk at most 1048576: NARROWER than '..Said'. Prove '..Said' where nothing that the law and all that it calls make is longer than what came in: it says more and counts as full. Else prove '..UptoSaid'. A law counts once. -/
mutual
def uptoBulk {H : Type} : DataW H → Nat
  | .lit (.string bytes) => bytes.length + 1
  | .lit _ => 1
  | .nil => 1
  | .ptr d => uptoBulk d + 1
  | .slice elems spare => uptoBulkAll elems + uptoBulkAll spare + 1
  | .agg parts => uptoBulkAll parts + 1
  | .iface _ d => uptoBulk d + 1
  | .map entries => uptoBulkEntries entries + 1
  | .held _ => 1
def uptoBulkAll {H : Type} : List (DataW H) → Nat
  | [] => 0
  | d :: r => uptoBulk d + uptoBulkAll r
def uptoBulkEntries {H : Type} : List (Lit × DataW H) → Nat
  | [] => 0
  | x :: r => uptoBulkEntry x + uptoBulkEntries r
def uptoBulkEntry {H : Type} : Lit × DataW H → Nat
  | (.string bytes, d) => bytes.length + uptoBulk d + 1
  | (_, d) => uptoBulk d + 1
 end
def uptoSmall : (H : Type) → List (DataW H) → Bool := fun _ ds => decide (uptoBulkAll ds ≤ 1048576)
def OpenSpec.upto (s : _root_.Go.ChangeSpec) : _root_.Go.OpenSpec := { _root_.Go.OpenSpec.ofChange s with cond := some uptoSmall }

/-- 'laws.FnExactCountByRest', WHERE WHAT IT READS IS OF BULK AT MOST 1048576: true; the input reads as it did. -/
def fnExactCountByRestUptoRow : OpenClaim := { program := "ytpcalkaamfhejaa", sum := "c53847b453d5f5abd92587e336ad069b7e0a5382a64939b25b0d18a3a42ba532", func := "loop.example/g01333/laws.FnExactCountByRest", spec := "fnExactCountByRest", unfollowed := true, recurses := true, apart := false, narrowed := true }
def FnExactCountByRestUptoSaid : Prop := fnExactCountByRestUptoRow.holds Try.pinned (OpenSpec.upto fnExactCountByRestSpec)

/-- 'laws.FnExactSlowestCircle', WHERE WHAT IT READS IS OF BULK AT MOST 1048576: true; the input reads as it did. -/
def fnExactSlowestCircleUptoRow : OpenClaim := { program := "ytpcalkaamfhejaa", sum := "c53847b453d5f5abd92587e336ad069b7e0a5382a64939b25b0d18a3a42ba532", func := "loop.example/g01333/laws.FnExactSlowestCircle", spec := "fnExactSlowestCircle", unfollowed := true, recurses := true, apart := false, narrowed := true }
def FnExactSlowestCircleUptoSaid : Prop := fnExactSlowestCircleUptoRow.holds Try.pinned (OpenSpec.upto fnExactSlowestCircleSpec)

/-- 'laws.FnExactCandyTrace', WHERE WHAT IT READS IS OF BULK AT MOST 1048576: true; the input reads as it did. -/
def fnExactCandyTraceUptoRow : OpenClaim := { program := "ytpcalkaamfhejaa", sum := "c53847b453d5f5abd92587e336ad069b7e0a5382a64939b25b0d18a3a42ba532", func := "loop.example/g01333/laws.FnExactCandyTrace", spec := "fnExactCandyTrace", unfollowed := true, recurses := true, apart := false, narrowed := true }
def FnExactCandyTraceUptoSaid : Prop := fnExactCandyTraceUptoRow.holds Try.pinned (OpenSpec.upto fnExactCandyTraceSpec)

/-- 'laws.FnExactSpreadTrace', WHERE WHAT IT READS IS OF BULK AT MOST 1048576: true; the input reads as it did. -/
def fnExactSpreadTraceUptoRow : OpenClaim := { program := "ytpcalkaamfhejaa", sum := "c53847b453d5f5abd92587e336ad069b7e0a5382a64939b25b0d18a3a42ba532", func := "loop.example/g01333/laws.FnExactSpreadTrace", spec := "fnExactSpreadTrace", unfollowed := true, recurses := true, apart := false, narrowed := true }
def FnExactSpreadTraceUptoSaid : Prop := fnExactSpreadTraceUptoRow.holds Try.pinned (OpenSpec.upto fnExactSpreadTraceSpec)

/-- 'laws.FnCandiesTurn', WHERE WHAT IT READS IS OF BULK AT MOST 1048576: true; the input reads as it did. -/
def fnCandiesTurnUptoRow : OpenClaim := { program := "ytpcalkaamfhejaa", sum := "c53847b453d5f5abd92587e336ad069b7e0a5382a64939b25b0d18a3a42ba532", func := "loop.example/g01333/laws.FnCandiesTurn", spec := "fnCandiesTurn", unfollowed := true, recurses := true, apart := false, narrowed := true }
def FnCandiesTurnUptoSaid : Prop := fnCandiesTurnUptoRow.holds Try.pinned (OpenSpec.upto fnCandiesTurnSpec)

/-- 'laws.FnCandiesRest', WHERE WHAT IT READS IS OF BULK AT MOST 1048576: true; the input reads as it did. -/
def fnCandiesRestUptoRow : OpenClaim := { program := "ytpcalkaamfhejaa", sum := "c53847b453d5f5abd92587e336ad069b7e0a5382a64939b25b0d18a3a42ba532", func := "loop.example/g01333/laws.FnCandiesRest", spec := "fnCandiesRest", unfollowed := true, recurses := true, apart := false, narrowed := true }
def FnCandiesRestUptoSaid : Prop := fnCandiesRestUptoRow.holds Try.pinned (OpenSpec.upto fnCandiesRestSpec)

end Rows
end Go.Proofs.Ytpcalkaamfhejaa
