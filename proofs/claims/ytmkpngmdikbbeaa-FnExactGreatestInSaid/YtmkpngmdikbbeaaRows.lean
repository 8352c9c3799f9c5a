/-
  No cell of these rows narrows 'for every input' (looked for: loops, veiled, ifaces, maps, wideKeys, modest, calm, conditions, laid).
  DERIVED. THE GIVEN ROWS OF THIS SEAT. 5 by the template 'for every input the law returns true; each argument reads behind the call as it read before'; 0 by the template 'total and deterministic' (their statements: YtmkpngmdikbbeaaTotals.lean).
  GIVEN WITH THE SEED: the statements are not yours to turn. If you find one false, say at which input.
  Laid BY PROGRAM, IN A SANDBOX (cutbox-rows.mjs): the forced cells as the released guide's own fill.sh prints them over the translation 40ec6eb07c20dbb6… (all of the seat's roots in one cut). By AI agents, Wed Nov 11 2026. No macro, syntax, notation, axiom, sorry.
-/
import Derived.Test.YtmkpngmdikbbeaaChecked
import GoSem.Claim
import GoSem.ClaimJoined
import GoSem.ClaimMapViews
import Derived.JoinedTies
import Derived.KernelRfl
namespace Go.Proofs.Ytmkpngmdikbbeaa
/- THE CELL 'sum', in the pinned program and in every row, IS THE sha256 OF THE DUMP (.gsa) THAT YtmkpngmdikbbeaaProg.lean LOADS. Nothing in Lean hashes anything: it is a label: what it is worth is what the hold of that sum in a sandbox is worth. -/
noncomputable def Try.pinned : Pinned := { name := "ytmkpngmdikbbeaa", sum := "40ec6eb07c20dbb6f7211230bb89c9705d0c7c5fb8cd4e5aed447cffa472eef9", checked := Try.checked }
namespace Rows
def none {H : Type} : Left H := { results := [], args := [] }

/-- 'laws.FnExactIdleMixes': WHATEVER THE INPUT: true; the input reads as it did. -/
def fnExactIdleMixesSpec : ChangeSpec := { name := "fnExactIdleMixes", fn := fun _ => fun
  | [d] => { results := [.lit (.bool true)], args := [d] }
  | _ => none }
def fnExactIdleMixesRow : OpenClaim := { program := "ytmkpngmdikbbeaa", sum := "40ec6eb07c20dbb6f7211230bb89c9705d0c7c5fb8cd4e5aed447cffa472eef9", func := "loop.example/g01333/laws.FnExactIdleMixes", spec := "fnExactIdleMixes", unfollowed := true, recurses := true, apart := false }
def FnExactIdleMixesSaid : Prop := fnExactIdleMixesRow.holds Try.pinned (OpenSpec.ofChange fnExactIdleMixesSpec)

/-- ITS FALSE NEIGHBOUR: 'it returns false'. Refute it at one input. -/
def fnExactIdleMixesWrong : ChangeSpec := { name := "fnExactIdleMixes", fn := fun _ => fun
  | [d] => { results := [.lit (.bool false)], args := [d] }
  | _ => none }
def FnExactIdleMixesWrongFalsely : Prop := fnExactIdleMixesRow.holds Try.pinned (OpenSpec.ofChange fnExactIdleMixesWrong)

/-- 'laws.FnExactPlayMixes': WHATEVER THE INPUT: true; the input reads as it did. -/
def fnExactPlayMixesSpec : ChangeSpec := { name := "fnExactPlayMixes", fn := fun _ => fun
  | [d1, d2] => { results := [.lit (.bool true)], args := [d1, d2] }
  | _ => none }
def fnExactPlayMixesRow : OpenClaim := { program := "ytmkpngmdikbbeaa", sum := "40ec6eb07c20dbb6f7211230bb89c9705d0c7c5fb8cd4e5aed447cffa472eef9", func := "loop.example/g01333/laws.FnExactPlayMixes", spec := "fnExactPlayMixes", unfollowed := true, recurses := true, apart := false }
def FnExactPlayMixesSaid : Prop := fnExactPlayMixesRow.holds Try.pinned (OpenSpec.ofChange fnExactPlayMixesSpec)

/-- ITS FALSE NEIGHBOUR: 'it returns false'. Refute it at one input. -/
def fnExactPlayMixesWrong : ChangeSpec := { name := "fnExactPlayMixes", fn := fun _ => fun
  | [d1, d2] => { results := [.lit (.bool false)], args := [d1, d2] }
  | _ => none }
def FnExactPlayMixesWrongFalsely : Prop := fnExactPlayMixesRow.holds Try.pinned (OpenSpec.ofChange fnExactPlayMixesWrong)

/-- 'laws.FnExactGreatestIn': WHATEVER THE INPUT: true; the input reads as it did. -/
def fnExactGreatestInSpec : ChangeSpec := { name := "fnExactGreatestIn", fn := fun _ => fun
  | [d1, d2, d3] => { results := [.lit (.bool true)], args := [d1, d2, d3] }
  | _ => none }
def fnExactGreatestInRow : OpenClaim := { program := "ytmkpngmdikbbeaa", sum := "40ec6eb07c20dbb6f7211230bb89c9705d0c7c5fb8cd4e5aed447cffa472eef9", func := "loop.example/g01333/laws.FnExactGreatestIn", spec := "fnExactGreatestIn", unfollowed := true, recurses := true, apart := false }
def FnExactGreatestInSaid : Prop := fnExactGreatestInRow.holds Try.pinned (OpenSpec.ofChange fnExactGreatestInSpec)

/-- ITS FALSE NEIGHBOUR: 'it returns false'. Refute it at one input. -/
def fnExactGreatestInWrong : ChangeSpec := { name := "fnExactGreatestIn", fn := fun _ => fun
  | [d1, d2, d3] => { results := [.lit (.bool false)], args := [d1, d2, d3] }
  | _ => none }
def FnExactGreatestInWrongFalsely : Prop := fnExactGreatestInRow.holds Try.pinned (OpenSpec.ofChange fnExactGreatestInWrong)

/-- 'laws.FnExactLeastIn': WHATEVER THE INPUT: true; the input reads as it did. -/
def fnExactLeastInSpec : ChangeSpec := { name := "fnExactLeastIn", fn := fun _ => fun
  | [d1, d2, d3] => { results := [.lit (.bool true)], args := [d1, d2, d3] }
  | _ => none }
def fnExactLeastInRow : OpenClaim := { program := "ytmkpngmdikbbeaa", sum := "40ec6eb07c20dbb6f7211230bb89c9705d0c7c5fb8cd4e5aed447cffa472eef9", func := "loop.example/g01333/laws.FnExactLeastIn", spec := "fnExactLeastIn", unfollowed := true, recurses := true, apart := false }
def FnExactLeastInSaid : Prop := fnExactLeastInRow.holds Try.pinned (OpenSpec.ofChange fnExactLeastInSpec)

/-- ITS FALSE NEIGHBOUR: 'it returns false'. Refute it at one input. -/
def fnExactLeastInWrong : ChangeSpec := { name := "fnExactLeastIn", fn := fun _ => fun
  | [d1, d2, d3] => { results := [.lit (.bool false)], args := [d1, d2, d3] }
  | _ => none }
def FnExactLeastInWrongFalsely : Prop := fnExactLeastInRow.holds Try.pinned (OpenSpec.ofChange fnExactLeastInWrong)

/-- 'laws.FnExactFewestToAlike': WHATEVER THE INPUT: true; the input reads as it did. -/
def fnExactFewestToAlikeSpec : ChangeSpec := { name := "fnExactFewestToAlike", fn := fun _ => fun
  | [d1, d2] => { results := [.lit (.bool true)], args := [d1, d2] }
  | _ => none }
def fnExactFewestToAlikeRow : OpenClaim := { program := "ytmkpngmdikbbeaa", sum := "40ec6eb07c20dbb6f7211230bb89c9705d0c7c5fb8cd4e5aed447cffa472eef9", func := "loop.example/g01333/laws.FnExactFewestToAlike", spec := "fnExactFewestToAlike", unfollowed := true, recurses := true, apart := false }
def FnExactFewestToAlikeSaid : Prop := fnExactFewestToAlikeRow.holds Try.pinned (OpenSpec.ofChange fnExactFewestToAlikeSpec)

/-- ITS FALSE NEIGHBOUR: 'it returns false'. Refute it at one input. -/
def fnExactFewestToAlikeWrong : ChangeSpec := { name := "fnExactFewestToAlike", fn := fun _ => fun
  | [d1, d2] => { results := [.lit (.bool false)], args := [d1, d2] }
  | _ => none }
def FnExactFewestToAlikeWrongFalsely : Prop := fnExactFewestToAlikeRow.holds Try.pinned (OpenSpec.ofChange fnExactFewestToAlikeWrong)

/- THE SECOND FORM. 'bulk': how many values and letters a reading holds, each counted each time it is reached (what is shared counts as often as it is met; a slice's spare places count too). A statement '..UptoSaid' is the law's where the arguments, and the package variables that the reading takes, are together of bulk at most 1048576: NARROWER than '..Said'. Prove '..Said' where nothing that the law and all that it calls make is longer than what came in: it says more and counts as full. Else prove '..UptoSaid'. A law counts once. -/
mutual
def uptoBulk {H : Type} : DataW H → Nat
  | .lit (.string bytes) => bytes.length + 1
  | .lit _ => 1
  | .nil => 1
  | .ptr d => uptoBulk d + 1
  | .slice elems spare => uptoBulkAll elems + uptoBulkAll spare + 1
  | .agg parts => uptoBulkAll parts + 1
  | .iface _ d => uptoBulk d + 1
  | .map entries => uptoBulkEntries entries + 1
  | .held _ => 1
def uptoBulkAll {H : Type} : List (DataW H) → Nat
  | [] => 0
  | d :: r => uptoBulk d + uptoBulkAll r
def uptoBulkEntries {H : Type} : List (Lit × DataW H) → Nat
  | [] => 0
  | x :: r => uptoBulkEntry x + uptoBulkEntries r
def uptoBulkEntry {H : Type} : Lit × DataW H → Nat
  | (.string bytes, d) => bytes.length + uptoBulk d + 1
  | (_, d) => uptoBulk d + 1
 end
def uptoSmall : (H : Type) → List (DataW H) → Bool := fun _ ds => decide (uptoBulkAll ds ≤ 1048576)
def OpenSpec.upto (s : _root_.Go.ChangeSpec) : _root_.Go.OpenSpec := { _root_.Go.OpenSpec.ofChange s with cond := some uptoSmall }

/-- 'laws.FnExactIdleMixes', WHERE WHAT IT READS IS OF BULK AT MOST 1048576: true; the input reads as it did. -/
def fnExactIdleMixesUptoRow : OpenClaim := { program := "ytmkpngmdikbbeaa", sum := "40ec6eb07c20dbb6f7211230bb89c9705d0c7c5fb8cd4e5aed447cffa472eef9", func := "loop.example/g01333/laws.FnExactIdleMixes", spec := "fnExactIdleMixes", unfollowed := true, recurses := true, apart := false, narrowed := true }
def FnExactIdleMixesUptoSaid : Prop := fnExactIdleMixesUptoRow.holds Try.pinned (OpenSpec.upto fnExactIdleMixesSpec)

/-- 'laws.FnExactPlayMixes', WHERE WHAT IT READS IS OF BULK AT MOST 1048576: true; the input reads as it did. -/
def fnExactPlayMixesUptoRow : OpenClaim := { program := "ytmkpngmdikbbeaa", sum := "40ec6eb07c20dbb6f7211230bb89c9705d0c7c5fb8cd4e5aed447cffa472eef9", func := "loop.example/g01333/laws.FnExactPlayMixes", spec := "fnExactPlayMixes", unfollowed := true, recurses := true, apart := false, narrowed := true }
def FnExactPlayMixesUptoSaid : Prop := fnExactPlayMixesUptoRow.holds Try.pinned (OpenSpec.upto fnExactPlayMixesSpec)

/-- 'laws.FnExactGreatestIn', WHERE WHAT IT READS IS OF BULK AT MOST 1048576: true; the input reads as it did. -/
def fnExactGreatestInUptoRow : OpenClaim := { program := "ytmkpngmdikbbeaa", sum := "40ec6eb07c20dbb6f7211230bb89c9705d0c7c5fb8cd4e5aed447cffa472eef9", func := "loop.example/g01333/laws.FnExactGreatestIn", spec := "fnExactGreatestIn", unfollowed := true, recurses := true, apart := false, narrowed := true }
def FnExactGreatestInUptoSaid : Prop := fnExactGreatestInUptoRow.holds Try.pinned (OpenSpec.upto fnExactGreatestInSpec)

/-- 'laws.FnExactLeastIn', WHERE WHAT IT READS IS OF BULK AT MOST 1048576: true; the input reads as it did. -/
def fnExactLeastInUptoRow : OpenClaim := { program := "ytmkpngmdikbbeaa", sum := "40ec6eb07c20dbb6f7211230bb89c9705d0c7c5fb8cd4e5aed447cffa472eef9", func := "loop.example/g01333/laws.FnExactLeastIn", spec := "fnExactLeastIn", unfollowed := true, recurses := true, apart := false, narrowed := true }
def FnExactLeastInUptoSaid : Prop := fnExactLeastInUptoRow.holds Try.pinned (OpenSpec.upto fnExactLeastInSpec)

/-- 'laws.FnExactFewestToAlike', WHERE WHAT IT READS IS OF BULK AT MOST 1048576: true; the input reads as it did. -/
def fnExactFewestToAlikeUptoRow : OpenClaim := { program := "ytmkpngmdikbbeaa", sum := "40ec6eb07c20dbb6f7211230bb89c9705d0c7c5fb8cd4e5aed447cffa472eef9", func := "loop.example/g01333/laws.FnExactFewestToAlike", spec := "fnExactFewestToAlike", unfollowed := true, recurses := true, apart := false, narrowed := true }
def FnExactFewestToAlikeUptoSaid : Prop := fnExactFewestToAlikeUptoRow.holds Try.pinned (OpenSpec.upto fnExactFewestToAlikeSpec)

end Rows
end Go.Proofs.Ytmkpngmdikbbeaa
