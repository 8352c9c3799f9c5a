/-
  No cell of these rows narrows 'for every input' (looked for: loops, veiled, ifaces, maps, wideKeys, modest, calm, conditions, laid).
  DERIVED. THE GIVEN ROWS OF THIS SEAT. 13 by the template 'for every input the law returns true; each argument reads behind the call as it read before'; 0 by the template 'total and deterministic' (their statements: YtidlipobpgfooaaTotals.lean).
  GIVEN WITH THE SEED: the statements are not yours to turn. If you find one false, say at which input.
  Laid BY PROGRAM, IN A SANDBOX (cutbox-rows.mjs): the forced cells as the released guide's own fill.sh prints them over the translation 86dc842a24dac5b1… (all of the seat's roots in one cut). By AI agents, Wed Nov 11 2026. No macro, syntax, notation, axiom, sorry.
-/
import Derived.Test.YtidlipobpgfooaaChecked
import GoSem.Claim
import GoSem.ClaimJoined
import GoSem.ClaimMapViews
import Derived.JoinedTies
import Derived.KernelRfl
namespace Go.Proofs.Ytidlipobpgfooaa
/- THE CELL 'sum', in the pinned program and in every row, IS THE sha256 OF THE DUMP (.gsa) THAT YtidlipobpgfooaaProg.lean LOADS. Nothing in Lean hashes anything: it is a label: what it is worth is what the hold of that sum in a sandbox is worth. -/
noncomputable def Try.pinned : Pinned := { name := "ytidlipobpgfooaa", sum := "86dc842a24dac5b14dbf2176d2e7a337e1774a63185430c6eca241a6aecfe37e", checked := Try.checked }
namespace Rows
def none {H : Type} : Left H := { results := [], args := [] }

/-- 'laws.FnExactAreCups': WHATEVER THE INPUT: true; the input reads as it did. -/
def fnExactAreCupsSpec : ChangeSpec := { name := "fnExactAreCups", fn := fun _ => fun
  | [d] => { results := [.lit (.bool true)], args := [d] }
  | _ => none }
def fnExactAreCupsRow : OpenClaim := { program := "ytidlipobpgfooaa", sum := "86dc842a24dac5b14dbf2176d2e7a337e1774a63185430c6eca241a6aecfe37e", func := "loop.example/g01333/laws.FnExactAreCups", spec := "fnExactAreCups", unfollowed := true, recurses := true, apart := false }
def FnExactAreCupsSaid : Prop := fnExactAreCupsRow.holds Try.pinned (OpenSpec.ofChange fnExactAreCupsSpec)

/-- ITS FALSE NEIGHBOUR: 'it returns false'. Refute it at one input. -/
def fnExactAreCupsWrong : ChangeSpec := { name := "fnExactAreCups", fn := fun _ => fun
  | [d] => { results := [.lit (.bool false)], args := [d] }
  | _ => none }
def FnExactAreCupsWrongFalsely : Prop := fnExactAreCupsRow.holds Try.pinned (OpenSpec.ofChange fnExactAreCupsWrong)

/-- 'laws.FnExactCupsOf': WHATEVER THE INPUT: true; the input reads as it did. -/
def fnExactCupsOfSpec : ChangeSpec := { name := "fnExactCupsOf", fn := fun _ => fun
  | [d] => { results := [.lit (.bool true)], args := [d] }
  | _ => none }
def fnExactCupsOfRow : OpenClaim := { program := "ytidlipobpgfooaa", sum := "86dc842a24dac5b14dbf2176d2e7a337e1774a63185430c6eca241a6aecfe37e", func := "loop.example/g01333/laws.FnExactCupsOf", spec := "fnExactCupsOf", unfollowed := true, recurses := true, apart := false }
def FnExactCupsOfSaid : Prop := fnExactCupsOfRow.holds Try.pinned (OpenSpec.ofChange fnExactCupsOfSpec)

/-- ITS FALSE NEIGHBOUR: 'it returns false'. Refute it at one input. -/
def fnExactCupsOfWrong : ChangeSpec := { name := "fnExactCupsOf", fn := fun _ => fun
  | [d] => { results := [.lit (.bool false)], args := [d] }
  | _ => none }
def FnExactCupsOfWrongFalsely : Prop := fnExactCupsOfRow.holds Try.pinned (OpenSpec.ofChange fnExactCupsOfWrong)

/-- 'laws.FnExactContentOf': WHATEVER THE INPUT: true; the input reads as it did. -/
def fnExactContentOfSpec : ChangeSpec := { name := "fnExactContentOf", fn := fun _ => fun
  | [d1, d2] => { results := [.lit (.bool true)], args := [d1, d2] }
  | _ => none }
def fnExactContentOfRow : OpenClaim := { program := "ytidlipobpgfooaa", sum := "86dc842a24dac5b14dbf2176d2e7a337e1774a63185430c6eca241a6aecfe37e", func := "loop.example/g01333/laws.FnExactContentOf", spec := "fnExactContentOf", unfollowed := true, recurses := true, apart := false }
def FnExactContentOfSaid : Prop := fnExactContentOfRow.holds Try.pinned (OpenSpec.ofChange fnExactContentOfSpec)

/-- ITS FALSE NEIGHBOUR: 'it returns false'. Refute it at one input. -/
def fnExactContentOfWrong : ChangeSpec := { name := "fnExactContentOf", fn := fun _ => fun
  | [d1, d2] => { results := [.lit (.bool false)], args := [d1, d2] }
  | _ => none }
def FnExactContentOfWrongFalsely : Prop := fnExactContentOfRow.holds Try.pinned (OpenSpec.ofChange fnExactContentOfWrong)

/-- 'laws.FnExactMeanOfCups': WHATEVER THE INPUT: true; the input reads as it did. -/
def fnExactMeanOfCupsSpec : ChangeSpec := { name := "fnExactMeanOfCups", fn := fun _ => fun
  | [d] => { results := [.lit (.bool true)], args := [d] }
  | _ => none }
def fnExactMeanOfCupsRow : OpenClaim := { program := "ytidlipobpgfooaa", sum := "86dc842a24dac5b14dbf2176d2e7a337e1774a63185430c6eca241a6aecfe37e", func := "loop.example/g01333/laws.FnExactMeanOfCups", spec := "fnExactMeanOfCups", unfollowed := true, recurses := true, apart := false }
def FnExactMeanOfCupsSaid : Prop := fnExactMeanOfCupsRow.holds Try.pinned (OpenSpec.ofChange fnExactMeanOfCupsSpec)

/-- ITS FALSE NEIGHBOUR: 'it returns false'. Refute it at one input. -/
def fnExactMeanOfCupsWrong : ChangeSpec := { name := "fnExactMeanOfCups", fn := fun _ => fun
  | [d] => { results := [.lit (.bool false)], args := [d] }
  | _ => none }
def FnExactMeanOfCupsWrongFalsely : Prop := fnExactMeanOfCupsRow.holds Try.pinned (OpenSpec.ofChange fnExactMeanOfCupsWrong)

/-- 'laws.FnExactAreAlike': WHATEVER THE INPUT: true; the input reads as it did. -/
def fnExactAreAlikeSpec : ChangeSpec := { name := "fnExactAreAlike", fn := fun _ => fun
  | [d] => { results := [.lit (.bool true)], args := [d] }
  | _ => none }
def fnExactAreAlikeRow : OpenClaim := { program := "ytidlipobpgfooaa", sum := "86dc842a24dac5b14dbf2176d2e7a337e1774a63185430c6eca241a6aecfe37e", func := "loop.example/g01333/laws.FnExactAreAlike", spec := "fnExactAreAlike", unfollowed := true, recurses := true, apart := false }
def FnExactAreAlikeSaid : Prop := fnExactAreAlikeRow.holds Try.pinned (OpenSpec.ofChange fnExactAreAlikeSpec)

/-- ITS FALSE NEIGHBOUR: 'it returns false'. Refute it at one input. -/
def fnExactAreAlikeWrong : ChangeSpec := { name := "fnExactAreAlike", fn := fun _ => fun
  | [d] => { results := [.lit (.bool false)], args := [d] }
  | _ => none }
def FnExactAreAlikeWrongFalsely : Prop := fnExactAreAlikeRow.holds Try.pinned (OpenSpec.ofChange fnExactAreAlikeWrong)

/-- 'laws.FnExactSpreadOfCups': WHATEVER THE INPUT: true; the input reads as it did. -/
def fnExactSpreadOfCupsSpec : ChangeSpec := { name := "fnExactSpreadOfCups", fn := fun _ => fun
  | [d] => { results := [.lit (.bool true)], args := [d] }
  | _ => none }
def fnExactSpreadOfCupsRow : OpenClaim := { program := "ytidlipobpgfooaa", sum := "86dc842a24dac5b14dbf2176d2e7a337e1774a63185430c6eca241a6aecfe37e", func := "loop.example/g01333/laws.FnExactSpreadOfCups", spec := "fnExactSpreadOfCups", unfollowed := true, recurses := true, apart := false }
def FnExactSpreadOfCupsSaid : Prop := fnExactSpreadOfCupsRow.holds Try.pinned (OpenSpec.ofChange fnExactSpreadOfCupsSpec)

/-- ITS FALSE NEIGHBOUR: 'it returns false'. Refute it at one input. -/
def fnExactSpreadOfCupsWrong : ChangeSpec := { name := "fnExactSpreadOfCups", fn := fun _ => fun
  | [d] => { results := [.lit (.bool false)], args := [d] }
  | _ => none }
def FnExactSpreadOfCupsWrongFalsely : Prop := fnExactSpreadOfCupsRow.holds Try.pinned (OpenSpec.ofChange fnExactSpreadOfCupsWrong)

/-- 'laws.FnExactDoubleCups': WHATEVER THE INPUT: true; the input reads as it did. -/
def fnExactDoubleCupsSpec : ChangeSpec := { name := "fnExactDoubleCups", fn := fun _ => fun
  | [d] => { results := [.lit (.bool true)], args := [d] }
  | _ => none }
def fnExactDoubleCupsRow : OpenClaim := { program := "ytidlipobpgfooaa", sum := "86dc842a24dac5b14dbf2176d2e7a337e1774a63185430c6eca241a6aecfe37e", func := "loop.example/g01333/laws.FnExactDoubleCups", spec := "fnExactDoubleCups", unfollowed := true, recurses := true, apart := false }
def FnExactDoubleCupsSaid : Prop := fnExactDoubleCupsRow.holds Try.pinned (OpenSpec.ofChange fnExactDoubleCupsSpec)

/-- ITS FALSE NEIGHBOUR: 'it returns false'. Refute it at one input. -/
def fnExactDoubleCupsWrong : ChangeSpec := { name := "fnExactDoubleCups", fn := fun _ => fun
  | [d] => { results := [.lit (.bool false)], args := [d] }
  | _ => none }
def FnExactDoubleCupsWrongFalsely : Prop := fnExactDoubleCupsRow.holds Try.pinned (OpenSpec.ofChange fnExactDoubleCupsWrong)

/-- 'laws.FnExactIdleMixes': WHATEVER THE INPUT: true; the input reads as it did. -/
def fnExactIdleMixesSpec : ChangeSpec := { name := "fnExactIdleMixes", fn := fun _ => fun
  | [d] => { results := [.lit (.bool true)], args := [d] }
  | _ => none }
def fnExactIdleMixesRow : OpenClaim := { program := "ytidlipobpgfooaa", sum := "86dc842a24dac5b14dbf2176d2e7a337e1774a63185430c6eca241a6aecfe37e", func := "loop.example/g01333/laws.FnExactIdleMixes", spec := "fnExactIdleMixes", unfollowed := true, recurses := true, apart := false }
def FnExactIdleMixesSaid : Prop := fnExactIdleMixesRow.holds Try.pinned (OpenSpec.ofChange fnExactIdleMixesSpec)

/-- ITS FALSE NEIGHBOUR: 'it returns false'. Refute it at one input. -/
def fnExactIdleMixesWrong : ChangeSpec := { name := "fnExactIdleMixes", fn := fun _ => fun
  | [d] => { results := [.lit (.bool false)], args := [d] }
  | _ => none }
def FnExactIdleMixesWrongFalsely : Prop := fnExactIdleMixesRow.holds Try.pinned (OpenSpec.ofChange fnExactIdleMixesWrong)

/-- 'laws.FnExactMixTwo': WHATEVER THE INPUT: true; the input reads as it did. -/
def fnExactMixTwoSpec : ChangeSpec := { name := "fnExactMixTwo", fn := fun _ => fun
  | [d1, d2, d3] => { results := [.lit (.bool true)], args := [d1, d2, d3] }
  | _ => none }
def fnExactMixTwoRow : OpenClaim := { program := "ytidlipobpgfooaa", sum := "86dc842a24dac5b14dbf2176d2e7a337e1774a63185430c6eca241a6aecfe37e", func := "loop.example/g01333/laws.FnExactMixTwo", spec := "fnExactMixTwo", unfollowed := true, recurses := true, apart := false }
def FnExactMixTwoSaid : Prop := fnExactMixTwoRow.holds Try.pinned (OpenSpec.ofChange fnExactMixTwoSpec)

/-- ITS FALSE NEIGHBOUR: 'it returns false'. Refute it at one input. -/
def fnExactMixTwoWrong : ChangeSpec := { name := "fnExactMixTwo", fn := fun _ => fun
  | [d1, d2, d3] => { results := [.lit (.bool false)], args := [d1, d2, d3] }
  | _ => none }
def FnExactMixTwoWrongFalsely : Prop := fnExactMixTwoRow.holds Try.pinned (OpenSpec.ofChange fnExactMixTwoWrong)

/-- 'laws.FnExactPlayMixes': WHATEVER THE INPUT: true; the input reads as it did. -/
def fnExactPlayMixesSpec : ChangeSpec := { name := "fnExactPlayMixes", fn := fun _ => fun
  | [d1, d2] => { results := [.lit (.bool true)], args := [d1, d2] }
  | _ => none }
def fnExactPlayMixesRow : OpenClaim := { program := "ytidlipobpgfooaa", sum := "86dc842a24dac5b14dbf2176d2e7a337e1774a63185430c6eca241a6aecfe37e", func := "loop.example/g01333/laws.FnExactPlayMixes", spec := "fnExactPlayMixes", unfollowed := true, recurses := true, apart := false }
def FnExactPlayMixesSaid : Prop := fnExactPlayMixesRow.holds Try.pinned (OpenSpec.ofChange fnExactPlayMixesSpec)

/-- ITS FALSE NEIGHBOUR: 'it returns false'. Refute it at one input. -/
def fnExactPlayMixesWrong : ChangeSpec := { name := "fnExactPlayMixes", fn := fun _ => fun
  | [d1, d2] => { results := [.lit (.bool false)], args := [d1, d2] }
  | _ => none }
def FnExactPlayMixesWrongFalsely : Prop := fnExactPlayMixesRow.holds Try.pinned (OpenSpec.ofChange fnExactPlayMixesWrong)

/-- 'laws.FnExactGreatestIn': WHATEVER THE INPUT: true; the input reads as it did. -/
def fnExactGreatestInSpec : ChangeSpec := { name := "fnExactGreatestIn", fn := fun _ => fun
  | [d1, d2, d3] => { results := [.lit (.bool true)], args := [d1, d2, d3] }
  | _ => none }
def fnExactGreatestInRow : OpenClaim := { program := "ytidlipobpgfooaa", sum := "86dc842a24dac5b14dbf2176d2e7a337e1774a63185430c6eca241a6aecfe37e", func := "loop.example/g01333/laws.FnExactGreatestIn", spec := "fnExactGreatestIn", unfollowed := true, recurses := true, apart := false }
def FnExactGreatestInSaid : Prop := fnExactGreatestInRow.holds Try.pinned (OpenSpec.ofChange fnExactGreatestInSpec)

/-- ITS FALSE NEIGHBOUR: 'it returns false'. Refute it at one input. -/
def fnExactGreatestInWrong : ChangeSpec := { name := "fnExactGreatestIn", fn := fun _ => fun
  | [d1, d2, d3] => { results := [.lit (.bool false)], args := [d1, d2, d3] }
  | _ => none }
def FnExactGreatestInWrongFalsely : Prop := fnExactGreatestInRow.holds Try.pinned (OpenSpec.ofChange fnExactGreatestInWrong)

/-- 'laws.FnExactLeastIn': WHATEVER THE INPUT: true; the input reads as it did. -/
def fnExactLeastInSpec : ChangeSpec := { name := "fnExactLeastIn", fn := fun _ => fun
  | [d1, d2, d3] => { results := [.lit (.bool true)], args := [d1, d2, d3] }
  | _ => none }
def fnExactLeastInRow : OpenClaim := { program := "ytidlipobpgfooaa", sum := "86dc842a24dac5b14dbf2176d2e7a337e1774a63185430c6eca241a6aecfe37e", func := "loop.example/g01333/laws.FnExactLeastIn", spec := "fnExactLeastIn", unfollowed := true, recurses := true, apart := false }
def FnExactLeastInSaid : Prop := fnExactLeastInRow.holds Try.pinned (OpenSpec.ofChange fnExactLeastInSpec)

/-- ITS FALSE NEIGHBOUR: 'it returns false'. Refute it at one input. -/
def fnExactLeastInWrong : ChangeSpec := { name := "fnExactLeastIn", fn := fun _ => fun
  | [d1, d2, d3] => { results := [.lit (.bool false)], args := [d1, d2, d3] }
  | _ => none }
def FnExactLeastInWrongFalsely : Prop := fnExactLeastInRow.holds Try.pinned (OpenSpec.ofChange fnExactLeastInWrong)

/-- 'laws.FnExactFewestToAlike': WHATEVER THE INPUT: true; the input reads as it did. -/
def fnExactFewestToAlikeSpec : ChangeSpec := { name := "fnExactFewestToAlike", fn := fun _ => fun
  | [d1, d2] => { results := [.lit (.bool true)], args := [d1, d2] }
  | _ => none }
def fnExactFewestToAlikeRow : OpenClaim := { program := "ytidlipobpgfooaa", sum := "86dc842a24dac5b14dbf2176d2e7a337e1774a63185430c6eca241a6aecfe37e", func := "loop.example/g01333/laws.FnExactFewestToAlike", spec := "fnExactFewestToAlike", unfollowed := true, recurses := true, apart := false }
def FnExactFewestToAlikeSaid : Prop := fnExactFewestToAlikeRow.holds Try.pinned (OpenSpec.ofChange fnExactFewestToAlikeSpec)

/-- ITS FALSE NEIGHBOUR: 'it returns false'. Refute it at one input. -/
def fnExactFewestToAlikeWrong : ChangeSpec := { name := "fnExactFewestToAlike", fn := fun _ => fun
  | [d1, d2] => { results := [.lit (.bool false)], args := [d1, d2] }
  | _ => none }
def FnExactFewestToAlikeWrongFalsely : Prop := fnExactFewestToAlikeRow.holds Try.pinned (OpenSpec.ofChange fnExactFewestToAlikeWrong)

/- THE SECOND FORM. 'bulk': how many values and letters a reading holds, each counted each time it is reached (what is shared counts as often as it is met; a slice's spare places count too). A statement '..UptoSaid' is the law's where the arguments, and the package variables that the reading takes, are together of bulk at most 1048576: NARROWER than '..Said'. Prove '..Said' where nothing that the law and all that it calls make is longer than what came in: it says more and counts as full. Else prove '..UptoSaid'. A law counts once. -/
mutual
def uptoBulk {H : Type} : DataW H → Nat
  | .lit (.string bytes) => bytes.length + 1
  | .lit _ => 1
  | .nil => 1
  | .ptr d => uptoBulk d + 1
  | .slice elems spare => uptoBulkAll elems + uptoBulkAll spare + 1
  | .agg parts => uptoBulkAll parts + 1
  | .iface _ d => uptoBulk d + 1
  | .map entries => uptoBulkEntries entries + 1
  | .held _ => 1
def uptoBulkAll {H : Type} : List (DataW H) → Nat
  | [] => 0
  | d :: r => uptoBulk d + uptoBulkAll r
def uptoBulkEntries {H : Type} : List (Lit × DataW H) → Nat
  | [] => 0
  | x :: r => uptoBulkEntry x + uptoBulkEntries r
def uptoBulkEntry {H : Type} : Lit × DataW H → Nat
  | (.string bytes, d) => bytes.length + uptoBulk d + 1
  | (_, d) => uptoBulk d + 1
 end
def uptoSmall : (H : Type) → List (DataW H) → Bool := fun _ ds => decide (uptoBulkAll ds ≤ 1048576)
def OpenSpec.upto (s : _root_.Go.ChangeSpec) : _root_.Go.OpenSpec := { _root_.Go.OpenSpec.ofChange s with cond := some uptoSmall }

/-- 'laws.FnExactAreCups', WHERE WHAT IT READS IS OF BULK AT MOST 1048576: true; the input reads as it did. -/
def fnExactAreCupsUptoRow : OpenClaim := { program := "ytidlipobpgfooaa", sum := "86dc842a24dac5b14dbf2176d2e7a337e1774a63185430c6eca241a6aecfe37e", func := "loop.example/g01333/laws.FnExactAreCups", spec := "fnExactAreCups", unfollowed := true, recurses := true, apart := false, narrowed := true }
def FnExactAreCupsUptoSaid : Prop := fnExactAreCupsUptoRow.holds Try.pinned (OpenSpec.upto fnExactAreCupsSpec)

/-- 'laws.FnExactCupsOf', WHERE WHAT IT READS IS OF BULK AT MOST 1048576: true; the input reads as it did. -/
def fnExactCupsOfUptoRow : OpenClaim := { program := "ytidlipobpgfooaa", sum := "86dc842a24dac5b14dbf2176d2e7a337e1774a63185430c6eca241a6aecfe37e", func := "loop.example/g01333/laws.FnExactCupsOf", spec := "fnExactCupsOf", unfollowed := true, recurses := true, apart := false, narrowed := true }
def FnExactCupsOfUptoSaid : Prop := fnExactCupsOfUptoRow.holds Try.pinned (OpenSpec.upto fnExactCupsOfSpec)

/-- 'laws.FnExactContentOf', WHERE WHAT IT READS IS OF BULK AT MOST 1048576: true; the input reads as it did. -/
def fnExactContentOfUptoRow : OpenClaim := { program := "ytidlipobpgfooaa", sum := "86dc842a24dac5b14dbf2176d2e7a337e1774a63185430c6eca241a6aecfe37e", func := "loop.example/g01333/laws.FnExactContentOf", spec := "fnExactContentOf", unfollowed := true, recurses := true, apart := false, narrowed := true }
def FnExactContentOfUptoSaid : Prop := fnExactContentOfUptoRow.holds Try.pinned (OpenSpec.upto fnExactContentOfSpec)

/-- 'laws.FnExactMeanOfCups', WHERE WHAT IT READS IS OF BULK AT MOST 1048576: true; the input reads as it did. -/
def fnExactMeanOfCupsUptoRow : OpenClaim := { program := "ytidlipobpgfooaa", sum := "86dc842a24dac5b14dbf2176d2e7a337e1774a63185430c6eca241a6aecfe37e", func := "loop.example/g01333/laws.FnExactMeanOfCups", spec := "fnExactMeanOfCups", unfollowed := true, recurses := true, apart := false, narrowed := true }
def FnExactMeanOfCupsUptoSaid : Prop := fnExactMeanOfCupsUptoRow.holds Try.pinned (OpenSpec.upto fnExactMeanOfCupsSpec)

/-- 'laws.FnExactAreAlike', WHERE WHAT IT READS IS OF BULK AT MOST 1048576: true; the input reads as it did. -/
def fnExactAreAlikeUptoRow : OpenClaim := { program := "ytidlipobpgfooaa", sum := "86dc842a24dac5b14dbf2176d2e7a337e1774a63185430c6eca241a6aecfe37e", func := "loop.example/g01333/laws.FnExactAreAlike", spec := "fnExactAreAlike", unfollowed := true, recurses := true, apart := false, narrowed := true }
def FnExactAreAlikeUptoSaid : Prop := fnExactAreAlikeUptoRow.holds Try.pinned (OpenSpec.upto fnExactAreAlikeSpec)

/-- 'laws.FnExactSpreadOfCups', WHERE WHAT IT READS IS OF BULK AT MOST 1048576: true; the input reads as it did. -/
def fnExactSpreadOfCupsUptoRow : OpenClaim := { program := "ytidlipobpgfooaa", sum := "86dc842a24dac5b14dbf2176d2e7a337e1774a63185430c6eca241a6aecfe37e", func := "loop.example/g01333/laws.FnExactSpreadOfCups", spec := "fnExactSpreadOfCups", unfollowed := true, recurses := true, apart := false, narrowed := true }
def FnExactSpreadOfCupsUptoSaid : Prop := fnExactSpreadOfCupsUptoRow.holds Try.pinned (OpenSpec.upto fnExactSpreadOfCupsSpec)

/-- 'laws.FnExactDoubleCups', WHERE WHAT IT READS IS OF BULK AT MOST 1048576: true; the input reads as it did. -/
def fnExactDoubleCupsUptoRow : OpenClaim := { program := "ytidlipobpgfooaa", sum := "86dc842a24dac5b14dbf2176d2e7a337e1774a63185430c6eca241a6aecfe37e", func := "loop.example/g01333/laws.FnExactDoubleCups", spec := "fnExactDoubleCups", unfollowed := true, recurses := true, apart := false, narrowed := true }
def FnExactDoubleCupsUptoSaid : Prop := fnExactDoubleCupsUptoRow.holds Try.pinned (OpenSpec.upto fnExactDoubleCupsSpec)

/-- 'laws.FnExactIdleMixes', WHERE WHAT IT READS IS OF BULK AT MOST 1048576: true; the input reads as it did. -/
def fnExactIdleMixesUptoRow : OpenClaim := { program := "ytidlipobpgfooaa", sum := "86dc842a24dac5b14dbf2176d2e7a337e1774a63185430c6eca241a6aecfe37e", func := "loop.example/g01333/laws.FnExactIdleMixes", spec := "fnExactIdleMixes", unfollowed := true, recurses := true, apart := false, narrowed := true }
def FnExactIdleMixesUptoSaid : Prop := fnExactIdleMixesUptoRow.holds Try.pinned (OpenSpec.upto fnExactIdleMixesSpec)

/-- 'laws.FnExactMixTwo', WHERE WHAT IT READS IS OF BULK AT MOST 1048576: true; the input reads as it did. -/
def fnExactMixTwoUptoRow : OpenClaim := { program := "ytidlipobpgfooaa", sum := "86dc842a24dac5b14dbf2176d2e7a337e1774a63185430c6eca241a6aecfe37e", func := "loop.example/g01333/laws.FnExactMixTwo", spec := "fnExactMixTwo", unfollowed := true, recurses := true, apart := false, narrowed := true }
def FnExactMixTwoUptoSaid : Prop := fnExactMixTwoUptoRow.holds Try.pinned (OpenSpec.upto fnExactMixTwoSpec)

/-- 'laws.FnExactPlayMixes', WHERE WHAT IT READS IS OF BULK AT MOST 1048576: true; the input reads as it did. -/
def fnExactPlayMixesUptoRow : OpenClaim := { program := "ytidlipobpgfooaa", sum := "86dc842a24dac5b14dbf2176d2e7a337e1774a63185430c6eca241a6aecfe37e", func := "loop.example/g01333/laws.FnExactPlayMixes", spec := "fnExactPlayMixes", unfollowed := true, recurses := true, apart := false, narrowed := true }
def FnExactPlayMixesUptoSaid : Prop := fnExactPlayMixesUptoRow.holds Try.pinned (OpenSpec.upto fnExactPlayMixesSpec)

/-- 'laws.FnExactGreatestIn', WHERE WHAT IT READS IS OF BULK AT MOST 1048576: true; the input reads as it did. -/
def fnExactGreatestInUptoRow : OpenClaim := { program := "ytidlipobpgfooaa", sum := "86dc842a24dac5b14dbf2176d2e7a337e1774a63185430c6eca241a6aecfe37e", func := "loop.example/g01333/laws.FnExactGreatestIn", spec := "fnExactGreatestIn", unfollowed := true, recurses := true, apart := false, narrowed := true }
def FnExactGreatestInUptoSaid : Prop := fnExactGreatestInUptoRow.holds Try.pinned (OpenSpec.upto fnExactGreatestInSpec)

/-- 'laws.FnExactLeastIn', WHERE WHAT IT READS IS OF BULK AT MOST 1048576: true; the input reads as it did. -/
def fnExactLeastInUptoRow : OpenClaim := { program := "ytidlipobpgfooaa", sum := "86dc842a24dac5b14dbf2176d2e7a337e1774a63185430c6eca241a6aecfe37e", func := "loop.example/g01333/laws.FnExactLeastIn", spec := "fnExactLeastIn", unfollowed := true, recurses := true, apart := false, narrowed := true }
def FnExactLeastInUptoSaid : Prop := fnExactLeastInUptoRow.holds Try.pinned (OpenSpec.upto fnExactLeastInSpec)

/-- 'laws.FnExactFewestToAlike', WHERE WHAT IT READS IS OF BULK AT MOST 1048576: true; the input reads as it did. -/
def fnExactFewestToAlikeUptoRow : OpenClaim := { program := "ytidlipobpgfooaa", sum := "86dc842a24dac5b14dbf2176d2e7a337e1774a63185430c6eca241a6aecfe37e", func := "loop.example/g01333/laws.FnExactFewestToAlike", spec := "fnExactFewestToAlike", unfollowed := true, recurses := true, apart := false, narrowed := true }
def FnExactFewestToAlikeUptoSaid : Prop := fnExactFewestToAlikeUptoRow.holds Try.pinned (OpenSpec.upto fnExactFewestToAlikeSpec)

end Rows
end Go.Proofs.Ytidlipobpgfooaa
