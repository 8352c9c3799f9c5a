/-
  No cell of these rows narrows 'for every input' (looked for: loops, veiled, ifaces, maps, wideKeys, modest, calm, conditions, laid).
  DERIVED. THE GIVEN ROWS OF THIS SEAT. 18 by the template 'for every input the law returns true; each argument reads behind the call as it read before'; 0 by the template 'total and deterministic' (their statements: YtffliklmahedoaaTotals.lean).
  GIVEN WITH THE SEED: the statements are not yours to turn. If you find one false, say at which input.
  Laid BY PROGRAM, IN A SANDBOX (cutbox-rows.mjs): the forced cells as the released guide's own fill.sh prints them over the translation d5e5d83647001dcd… (all of the seat's roots in one cut). By AI agents, Wed Nov 11 2026. No macro, syntax, notation, axiom, sorry.
-/
import Derived.Test.YtffliklmahedoaaChecked
import GoSem.Claim
import GoSem.ClaimJoined
import GoSem.ClaimMapViews
import Derived.JoinedTies
import Derived.KernelRfl
namespace Go.Proofs.Ytffliklmahedoaa
/- THE CELL 'sum', in the pinned program and in every row, IS THE sha256 OF THE DUMP (.gsa) THAT YtffliklmahedoaaProg.lean LOADS. Nothing in Lean hashes anything: it is a label: what it is worth is what the hold of that sum in a sandbox is worth. -/
noncomputable def Try.pinned : Pinned := { name := "ytffliklmahedoaa", sum := "d5e5d83647001dcdca16bdaccdf1794fce03b29c8cb897d2caf0e92106e02200", checked := Try.checked }
namespace Rows
def none {H : Type} : Left H := { results := [], args := [] }

/-- 'laws.FnExactAreChips': WHATEVER THE INPUT: true; the input reads as it did. -/
def fnExactAreChipsSpec : ChangeSpec := { name := "fnExactAreChips", fn := fun _ => fun
  | [d] => { results := [.lit (.bool true)], args := [d] }
  | _ => none }
def fnExactAreChipsRow : OpenClaim := { program := "ytffliklmahedoaa", sum := "d5e5d83647001dcdca16bdaccdf1794fce03b29c8cb897d2caf0e92106e02200", func := "loop.example/g01333/laws.FnExactAreChips", spec := "fnExactAreChips", unfollowed := true, recurses := true, apart := false }
def FnExactAreChipsSaid : Prop := fnExactAreChipsRow.holds Try.pinned (OpenSpec.ofChange fnExactAreChipsSpec)

/-- ITS FALSE NEIGHBOUR: 'it returns false'. Refute it at one input. -/
def fnExactAreChipsWrong : ChangeSpec := { name := "fnExactAreChips", fn := fun _ => fun
  | [d] => { results := [.lit (.bool false)], args := [d] }
  | _ => none }
def FnExactAreChipsWrongFalsely : Prop := fnExactAreChipsRow.holds Try.pinned (OpenSpec.ofChange fnExactAreChipsWrong)

/-- 'laws.FnExactCanFire': WHATEVER THE INPUT: true; the input reads as it did. -/
def fnExactCanFireSpec : ChangeSpec := { name := "fnExactCanFire", fn := fun _ => fun
  | [d1, d2] => { results := [.lit (.bool true)], args := [d1, d2] }
  | _ => none }
def fnExactCanFireRow : OpenClaim := { program := "ytffliklmahedoaa", sum := "d5e5d83647001dcdca16bdaccdf1794fce03b29c8cb897d2caf0e92106e02200", func := "loop.example/g01333/laws.FnExactCanFire", spec := "fnExactCanFire", unfollowed := true, recurses := true, apart := false }
def FnExactCanFireSaid : Prop := fnExactCanFireRow.holds Try.pinned (OpenSpec.ofChange fnExactCanFireSpec)

/-- ITS FALSE NEIGHBOUR: 'it returns false'. Refute it at one input. -/
def fnExactCanFireWrong : ChangeSpec := { name := "fnExactCanFire", fn := fun _ => fun
  | [d1, d2] => { results := [.lit (.bool false)], args := [d1, d2] }
  | _ => none }
def FnExactCanFireWrongFalsely : Prop := fnExactCanFireRow.holds Try.pinned (OpenSpec.ofChange fnExactCanFireWrong)

/-- 'laws.FnExactClassOfChips': WHATEVER THE INPUT: true; the input reads as it did. -/
def fnExactClassOfChipsSpec : ChangeSpec := { name := "fnExactClassOfChips", fn := fun _ => fun
  | [d] => { results := [.lit (.bool true)], args := [d] }
  | _ => none }
def fnExactClassOfChipsRow : OpenClaim := { program := "ytffliklmahedoaa", sum := "d5e5d83647001dcdca16bdaccdf1794fce03b29c8cb897d2caf0e92106e02200", func := "loop.example/g01333/laws.FnExactClassOfChips", spec := "fnExactClassOfChips", unfollowed := true, recurses := true, apart := false }
def FnExactClassOfChipsSaid : Prop := fnExactClassOfChipsRow.holds Try.pinned (OpenSpec.ofChange fnExactClassOfChipsSpec)

/-- ITS FALSE NEIGHBOUR: 'it returns false'. Refute it at one input. -/
def fnExactClassOfChipsWrong : ChangeSpec := { name := "fnExactClassOfChips", fn := fun _ => fun
  | [d] => { results := [.lit (.bool false)], args := [d] }
  | _ => none }
def FnExactClassOfChipsWrongFalsely : Prop := fnExactClassOfChipsRow.holds Try.pinned (OpenSpec.ofChange fnExactClassOfChipsWrong)

/-- 'laws.FnExactAreSameClass': WHATEVER THE INPUT: true; the input reads as it did. -/
def fnExactAreSameClassSpec : ChangeSpec := { name := "fnExactAreSameClass", fn := fun _ => fun
  | [d1, d2] => { results := [.lit (.bool true)], args := [d1, d2] }
  | _ => none }
def fnExactAreSameClassRow : OpenClaim := { program := "ytffliklmahedoaa", sum := "d5e5d83647001dcdca16bdaccdf1794fce03b29c8cb897d2caf0e92106e02200", func := "loop.example/g01333/laws.FnExactAreSameClass", spec := "fnExactAreSameClass", unfollowed := true, recurses := true, apart := false }
def FnExactAreSameClassSaid : Prop := fnExactAreSameClassRow.holds Try.pinned (OpenSpec.ofChange fnExactAreSameClassSpec)

/-- ITS FALSE NEIGHBOUR: 'it returns false'. Refute it at one input. -/
def fnExactAreSameClassWrong : ChangeSpec := { name := "fnExactAreSameClass", fn := fun _ => fun
  | [d1, d2] => { results := [.lit (.bool false)], args := [d1, d2] }
  | _ => none }
def FnExactAreSameClassWrongFalsely : Prop := fnExactAreSameClassRow.holds Try.pinned (OpenSpec.ofChange fnExactAreSameClassWrong)

/-- 'laws.FnExactDoComeAgain': WHATEVER THE INPUT: true; the input reads as it did. -/
def fnExactDoComeAgainSpec : ChangeSpec := { name := "fnExactDoComeAgain", fn := fun _ => fun
  | [d] => { results := [.lit (.bool true)], args := [d] }
  | _ => none }
def fnExactDoComeAgainRow : OpenClaim := { program := "ytffliklmahedoaa", sum := "d5e5d83647001dcdca16bdaccdf1794fce03b29c8cb897d2caf0e92106e02200", func := "loop.example/g01333/laws.FnExactDoComeAgain", spec := "fnExactDoComeAgain", unfollowed := true, recurses := true, apart := false }
def FnExactDoComeAgainSaid : Prop := fnExactDoComeAgainRow.holds Try.pinned (OpenSpec.ofChange fnExactDoComeAgainSpec)

/-- ITS FALSE NEIGHBOUR: 'it returns false'. Refute it at one input. -/
def fnExactDoComeAgainWrong : ChangeSpec := { name := "fnExactDoComeAgain", fn := fun _ => fun
  | [d] => { results := [.lit (.bool false)], args := [d] }
  | _ => none }
def FnExactDoComeAgainWrongFalsely : Prop := fnExactDoComeAgainRow.holds Try.pinned (OpenSpec.ofChange fnExactDoComeAgainWrong)

/-- 'laws.FnExactMirrorChips': WHATEVER THE INPUT: true; the input reads as it did. -/
def fnExactMirrorChipsSpec : ChangeSpec := { name := "fnExactMirrorChips", fn := fun _ => fun
  | [d] => { results := [.lit (.bool true)], args := [d] }
  | _ => none }
def fnExactMirrorChipsRow : OpenClaim := { program := "ytffliklmahedoaa", sum := "d5e5d83647001dcdca16bdaccdf1794fce03b29c8cb897d2caf0e92106e02200", func := "loop.example/g01333/laws.FnExactMirrorChips", spec := "fnExactMirrorChips", unfollowed := true, recurses := true, apart := false }
def FnExactMirrorChipsSaid : Prop := fnExactMirrorChipsRow.holds Try.pinned (OpenSpec.ofChange fnExactMirrorChipsSpec)

/-- ITS FALSE NEIGHBOUR: 'it returns false'. Refute it at one input. -/
def fnExactMirrorChipsWrong : ChangeSpec := { name := "fnExactMirrorChips", fn := fun _ => fun
  | [d] => { results := [.lit (.bool false)], args := [d] }
  | _ => none }
def FnExactMirrorChipsWrongFalsely : Prop := fnExactMirrorChipsRow.holds Try.pinned (OpenSpec.ofChange fnExactMirrorChipsWrong)

/-- 'laws.FnExactComingChips': WHATEVER THE INPUT: true; the input reads as it did. -/
def fnExactComingChipsSpec : ChangeSpec := { name := "fnExactComingChips", fn := fun _ => fun
  | [d1, d2] => { results := [.lit (.bool true)], args := [d1, d2] }
  | _ => none }
def fnExactComingChipsRow : OpenClaim := { program := "ytffliklmahedoaa", sum := "d5e5d83647001dcdca16bdaccdf1794fce03b29c8cb897d2caf0e92106e02200", func := "loop.example/g01333/laws.FnExactComingChips", spec := "fnExactComingChips", apart := false }
def FnExactComingChipsSaid : Prop := fnExactComingChipsRow.holds Try.pinned (OpenSpec.ofChange fnExactComingChipsSpec)

/-- ITS FALSE NEIGHBOUR: 'it returns false'. Refute it at one input. -/
def fnExactComingChipsWrong : ChangeSpec := { name := "fnExactComingChips", fn := fun _ => fun
  | [d1, d2] => { results := [.lit (.bool false)], args := [d1, d2] }
  | _ => none }
def FnExactComingChipsWrongFalsely : Prop := fnExactComingChipsRow.holds Try.pinned (OpenSpec.ofChange fnExactComingChipsWrong)

/-- 'laws.FnExactNeutralChips': WHATEVER THE INPUT: true; the input reads as it did. -/
def fnExactNeutralChipsSpec : ChangeSpec := { name := "fnExactNeutralChips", fn := fun _ => fun
  | [d] => { results := [.lit (.bool true)], args := [d] }
  | _ => none }
def fnExactNeutralChipsRow : OpenClaim := { program := "ytffliklmahedoaa", sum := "d5e5d83647001dcdca16bdaccdf1794fce03b29c8cb897d2caf0e92106e02200", func := "loop.example/g01333/laws.FnExactNeutralChips", spec := "fnExactNeutralChips", apart := false }
def FnExactNeutralChipsSaid : Prop := fnExactNeutralChipsRow.holds Try.pinned (OpenSpec.ofChange fnExactNeutralChipsSpec)

/-- ITS FALSE NEIGHBOUR: 'it returns false'. Refute it at one input. -/
def fnExactNeutralChipsWrong : ChangeSpec := { name := "fnExactNeutralChips", fn := fun _ => fun
  | [d] => { results := [.lit (.bool false)], args := [d] }
  | _ => none }
def FnExactNeutralChipsWrongFalsely : Prop := fnExactNeutralChipsRow.holds Try.pinned (OpenSpec.ofChange fnExactNeutralChipsWrong)

/-- 'laws.FnExactFireAt': WHATEVER THE INPUT: true; the input reads as it did. -/
def fnExactFireAtSpec : ChangeSpec := { name := "fnExactFireAt", fn := fun _ => fun
  | [d1, d2] => { results := [.lit (.bool true)], args := [d1, d2] }
  | _ => none }
def fnExactFireAtRow : OpenClaim := { program := "ytffliklmahedoaa", sum := "d5e5d83647001dcdca16bdaccdf1794fce03b29c8cb897d2caf0e92106e02200", func := "loop.example/g01333/laws.FnExactFireAt", spec := "fnExactFireAt", unfollowed := true, recurses := true, apart := false }
def FnExactFireAtSaid : Prop := fnExactFireAtRow.holds Try.pinned (OpenSpec.ofChange fnExactFireAtSpec)

/-- ITS FALSE NEIGHBOUR: 'it returns false'. Refute it at one input. -/
def fnExactFireAtWrong : ChangeSpec := { name := "fnExactFireAt", fn := fun _ => fun
  | [d1, d2] => { results := [.lit (.bool false)], args := [d1, d2] }
  | _ => none }
def FnExactFireAtWrongFalsely : Prop := fnExactFireAtRow.holds Try.pinned (OpenSpec.ofChange fnExactFireAtWrong)

/-- 'laws.FnExactFireInOrder': WHATEVER THE INPUT: true; the input reads as it did. -/
def fnExactFireInOrderSpec : ChangeSpec := { name := "fnExactFireInOrder", fn := fun _ => fun
  | [d1, d2] => { results := [.lit (.bool true)], args := [d1, d2] }
  | _ => none }
def fnExactFireInOrderRow : OpenClaim := { program := "ytffliklmahedoaa", sum := "d5e5d83647001dcdca16bdaccdf1794fce03b29c8cb897d2caf0e92106e02200", func := "loop.example/g01333/laws.FnExactFireInOrder", spec := "fnExactFireInOrder", unfollowed := true, recurses := true, apart := false }
def FnExactFireInOrderSaid : Prop := fnExactFireInOrderRow.holds Try.pinned (OpenSpec.ofChange fnExactFireInOrderSpec)

/-- ITS FALSE NEIGHBOUR: 'it returns false'. Refute it at one input. -/
def fnExactFireInOrderWrong : ChangeSpec := { name := "fnExactFireInOrder", fn := fun _ => fun
  | [d1, d2] => { results := [.lit (.bool false)], args := [d1, d2] }
  | _ => none }
def FnExactFireInOrderWrongFalsely : Prop := fnExactFireInOrderRow.holds Try.pinned (OpenSpec.ofChange fnExactFireInOrderWrong)

/-- 'laws.FnOneRest': WHATEVER THE INPUT: true; the input reads as it did. -/
def fnOneRestSpec : ChangeSpec := { name := "fnOneRest", fn := fun _ => fun
  | [d1, d2] => { results := [.lit (.bool true)], args := [d1, d2] }
  | _ => none }
def fnOneRestRow : OpenClaim := { program := "ytffliklmahedoaa", sum := "d5e5d83647001dcdca16bdaccdf1794fce03b29c8cb897d2caf0e92106e02200", func := "loop.example/g01333/laws.FnOneRest", spec := "fnOneRest", unfollowed := true, recurses := true, apart := false }
def FnOneRestSaid : Prop := fnOneRestRow.holds Try.pinned (OpenSpec.ofChange fnOneRestSpec)

/-- ITS FALSE NEIGHBOUR: 'it returns false'. Refute it at one input. -/
def fnOneRestWrong : ChangeSpec := { name := "fnOneRest", fn := fun _ => fun
  | [d1, d2] => { results := [.lit (.bool false)], args := [d1, d2] }
  | _ => none }
def FnOneRestWrongFalsely : Prop := fnOneRestRow.holds Try.pinned (OpenSpec.ofChange fnOneRestWrong)

/-- 'laws.FnExactFireAll': WHATEVER THE INPUT: true; the input reads as it did. -/
def fnExactFireAllSpec : ChangeSpec := { name := "fnExactFireAll", fn := fun _ => fun
  | [d] => { results := [.lit (.bool true)], args := [d] }
  | _ => none }
def fnExactFireAllRow : OpenClaim := { program := "ytffliklmahedoaa", sum := "d5e5d83647001dcdca16bdaccdf1794fce03b29c8cb897d2caf0e92106e02200", func := "loop.example/g01333/laws.FnExactFireAll", spec := "fnExactFireAll", unfollowed := true, recurses := true, apart := false }
def FnExactFireAllSaid : Prop := fnExactFireAllRow.holds Try.pinned (OpenSpec.ofChange fnExactFireAllSpec)

/-- ITS FALSE NEIGHBOUR: 'it returns false'. Refute it at one input. -/
def fnExactFireAllWrong : ChangeSpec := { name := "fnExactFireAll", fn := fun _ => fun
  | [d] => { results := [.lit (.bool false)], args := [d] }
  | _ => none }
def FnExactFireAllWrongFalsely : Prop := fnExactFireAllRow.holds Try.pinned (OpenSpec.ofChange fnExactFireAllWrong)

/-- 'laws.FnExactRoundsToRest': WHATEVER THE INPUT: true; the input reads as it did. -/
def fnExactRoundsToRestSpec : ChangeSpec := { name := "fnExactRoundsToRest", fn := fun _ => fun
  | [d] => { results := [.lit (.bool true)], args := [d] }
  | _ => none }
def fnExactRoundsToRestRow : OpenClaim := { program := "ytffliklmahedoaa", sum := "d5e5d83647001dcdca16bdaccdf1794fce03b29c8cb897d2caf0e92106e02200", func := "loop.example/g01333/laws.FnExactRoundsToRest", spec := "fnExactRoundsToRest", unfollowed := true, recurses := true, apart := false }
def FnExactRoundsToRestSaid : Prop := fnExactRoundsToRestRow.holds Try.pinned (OpenSpec.ofChange fnExactRoundsToRestSpec)

/-- ITS FALSE NEIGHBOUR: 'it returns false'. Refute it at one input. -/
def fnExactRoundsToRestWrong : ChangeSpec := { name := "fnExactRoundsToRest", fn := fun _ => fun
  | [d] => { results := [.lit (.bool false)], args := [d] }
  | _ => none }
def FnExactRoundsToRestWrongFalsely : Prop := fnExactRoundsToRestRow.holds Try.pinned (OpenSpec.ofChange fnExactRoundsToRestWrong)

/-- 'laws.FnExactLostChips': WHATEVER THE INPUT: true; the input reads as it did. -/
def fnExactLostChipsSpec : ChangeSpec := { name := "fnExactLostChips", fn := fun _ => fun
  | [d] => { results := [.lit (.bool true)], args := [d] }
  | _ => none }
def fnExactLostChipsRow : OpenClaim := { program := "ytffliklmahedoaa", sum := "d5e5d83647001dcdca16bdaccdf1794fce03b29c8cb897d2caf0e92106e02200", func := "loop.example/g01333/laws.FnExactLostChips", spec := "fnExactLostChips", unfollowed := true, recurses := true, apart := false }
def FnExactLostChipsSaid : Prop := fnExactLostChipsRow.holds Try.pinned (OpenSpec.ofChange fnExactLostChipsSpec)

/-- ITS FALSE NEIGHBOUR: 'it returns false'. Refute it at one input. -/
def fnExactLostChipsWrong : ChangeSpec := { name := "fnExactLostChips", fn := fun _ => fun
  | [d] => { results := [.lit (.bool false)], args := [d] }
  | _ => none }
def FnExactLostChipsWrongFalsely : Prop := fnExactLostChipsRow.holds Try.pinned (OpenSpec.ofChange fnExactLostChipsWrong)

/-- 'laws.FnExactFiringsOf': WHATEVER THE INPUT: true; the input reads as it did. -/
def fnExactFiringsOfSpec : ChangeSpec := { name := "fnExactFiringsOf", fn := fun _ => fun
  | [d] => { results := [.lit (.bool true)], args := [d] }
  | _ => none }
def fnExactFiringsOfRow : OpenClaim := { program := "ytffliklmahedoaa", sum := "d5e5d83647001dcdca16bdaccdf1794fce03b29c8cb897d2caf0e92106e02200", func := "loop.example/g01333/laws.FnExactFiringsOf", spec := "fnExactFiringsOf", unfollowed := true, recurses := true, apart := false }
def FnExactFiringsOfSaid : Prop := fnExactFiringsOfRow.holds Try.pinned (OpenSpec.ofChange fnExactFiringsOfSpec)

/-- ITS FALSE NEIGHBOUR: 'it returns false'. Refute it at one input. -/
def fnExactFiringsOfWrong : ChangeSpec := { name := "fnExactFiringsOf", fn := fun _ => fun
  | [d] => { results := [.lit (.bool false)], args := [d] }
  | _ => none }
def FnExactFiringsOfWrongFalsely : Prop := fnExactFiringsOfRow.holds Try.pinned (OpenSpec.ofChange fnExactFiringsOfWrong)

/-- 'laws.FnExactRestOfChips': WHATEVER THE INPUT: true; the input reads as it did. -/
def fnExactRestOfChipsSpec : ChangeSpec := { name := "fnExactRestOfChips", fn := fun _ => fun
  | [d] => { results := [.lit (.bool true)], args := [d] }
  | _ => none }
def fnExactRestOfChipsRow : OpenClaim := { program := "ytffliklmahedoaa", sum := "d5e5d83647001dcdca16bdaccdf1794fce03b29c8cb897d2caf0e92106e02200", func := "loop.example/g01333/laws.FnExactRestOfChips", spec := "fnExactRestOfChips", unfollowed := true, recurses := true, apart := false }
def FnExactRestOfChipsSaid : Prop := fnExactRestOfChipsRow.holds Try.pinned (OpenSpec.ofChange fnExactRestOfChipsSpec)

/-- ITS FALSE NEIGHBOUR: 'it returns false'. Refute it at one input. -/
def fnExactRestOfChipsWrong : ChangeSpec := { name := "fnExactRestOfChips", fn := fun _ => fun
  | [d] => { results := [.lit (.bool false)], args := [d] }
  | _ => none }
def FnExactRestOfChipsWrongFalsely : Prop := fnExactRestOfChipsRow.holds Try.pinned (OpenSpec.ofChange fnExactRestOfChipsWrong)

/-- 'laws.FnExactAddChip': WHATEVER THE INPUT: true; the input reads as it did. -/
def fnExactAddChipSpec : ChangeSpec := { name := "fnExactAddChip", fn := fun _ => fun
  | [d1, d2] => { results := [.lit (.bool true)], args := [d1, d2] }
  | _ => none }
def fnExactAddChipRow : OpenClaim := { program := "ytffliklmahedoaa", sum := "d5e5d83647001dcdca16bdaccdf1794fce03b29c8cb897d2caf0e92106e02200", func := "loop.example/g01333/laws.FnExactAddChip", spec := "fnExactAddChip", unfollowed := true, recurses := true, apart := false }
def FnExactAddChipSaid : Prop := fnExactAddChipRow.holds Try.pinned (OpenSpec.ofChange fnExactAddChipSpec)

/-- ITS FALSE NEIGHBOUR: 'it returns false'. Refute it at one input. -/
def fnExactAddChipWrong : ChangeSpec := { name := "fnExactAddChip", fn := fun _ => fun
  | [d1, d2] => { results := [.lit (.bool false)], args := [d1, d2] }
  | _ => none }
def FnExactAddChipWrongFalsely : Prop := fnExactAddChipRow.holds Try.pinned (OpenSpec.ofChange fnExactAddChipWrong)

/-- 'laws.FnExactAddComing': WHATEVER THE INPUT: true; the input reads as it did. -/
def fnExactAddComingSpec : ChangeSpec := { name := "fnExactAddComing", fn := fun _ => fun
  | [d1, d2] => { results := [.lit (.bool true)], args := [d1, d2] }
  | _ => none }
def fnExactAddComingRow : OpenClaim := { program := "ytffliklmahedoaa", sum := "d5e5d83647001dcdca16bdaccdf1794fce03b29c8cb897d2caf0e92106e02200", func := "loop.example/g01333/laws.FnExactAddComing", spec := "fnExactAddComing", unfollowed := true, recurses := true, apart := false }
def FnExactAddComingSaid : Prop := fnExactAddComingRow.holds Try.pinned (OpenSpec.ofChange fnExactAddComingSpec)

/-- ITS FALSE NEIGHBOUR: 'it returns false'. Refute it at one input. -/
def fnExactAddComingWrong : ChangeSpec := { name := "fnExactAddComing", fn := fun _ => fun
  | [d1, d2] => { results := [.lit (.bool false)], args := [d1, d2] }
  | _ => none }
def FnExactAddComingWrongFalsely : Prop := fnExactAddComingRow.holds Try.pinned (OpenSpec.ofChange fnExactAddComingWrong)

/- THE SECOND FORM. 'bulk': how many values and letters a reading holds, each counted each time it is reached (what is shared counts as often as it is met; a slice's spare places count too). A statement '..UptoSaid' is the law's where the arguments, and the package variables that the reading takes, are together of bulk at most 1048576: NARROWER than '..Said'. Prove '..Said' where nothing that the law and all that it calls make is longer than what came in: it says more and counts as full. Else prove '..UptoSaid'. A law counts once. -/
mutual
def uptoBulk {H : Type} : DataW H → Nat
  | .lit (.string bytes) => bytes.length + 1
  | .lit _ => 1
  | .nil => 1
  | .ptr d => uptoBulk d + 1
  | .slice elems spare => uptoBulkAll elems + uptoBulkAll spare + 1
  | .agg parts => uptoBulkAll parts + 1
  | .iface _ d => uptoBulk d + 1
  | .map entries => uptoBulkEntries entries + 1
  | .held _ => 1
def uptoBulkAll {H : Type} : List (DataW H) → Nat
  | [] => 0
  | d :: r => uptoBulk d + uptoBulkAll r
def uptoBulkEntries {H : Type} : List (Lit × DataW H) → Nat
  | [] => 0
  | x :: r => uptoBulkEntry x + uptoBulkEntries r
def uptoBulkEntry {H : Type} : Lit × DataW H → Nat
  | (.string bytes, d) => bytes.length + uptoBulk d + 1
  | (_, d) => uptoBulk d + 1
 end
def uptoSmall : (H : Type) → List (DataW H) → Bool := fun _ ds => decide (uptoBulkAll ds ≤ 1048576)
def OpenSpec.upto (s : _root_.Go.ChangeSpec) : _root_.Go.OpenSpec := { _root_.Go.OpenSpec.ofChange s with cond := some uptoSmall }

/-- 'laws.FnExactAreChips', WHERE WHAT IT READS IS OF BULK AT MOST 1048576: true; the input reads as it did. -/
def fnExactAreChipsUptoRow : OpenClaim := { program := "ytffliklmahedoaa", sum := "d5e5d83647001dcdca16bdaccdf1794fce03b29c8cb897d2caf0e92106e02200", func := "loop.example/g01333/laws.FnExactAreChips", spec := "fnExactAreChips", unfollowed := true, recurses := true, apart := false, narrowed := true }
def FnExactAreChipsUptoSaid : Prop := fnExactAreChipsUptoRow.holds Try.pinned (OpenSpec.upto fnExactAreChipsSpec)

/-- 'laws.FnExactCanFire', WHERE WHAT IT READS IS OF BULK AT MOST 1048576: true; the input reads as it did. -/
def fnExactCanFireUptoRow : OpenClaim := { program := "ytffliklmahedoaa", sum := "d5e5d83647001dcdca16bdaccdf1794fce03b29c8cb897d2caf0e92106e02200", func := "loop.example/g01333/laws.FnExactCanFire", spec := "fnExactCanFire", unfollowed := true, recurses := true, apart := false, narrowed := true }
def FnExactCanFireUptoSaid : Prop := fnExactCanFireUptoRow.holds Try.pinned (OpenSpec.upto fnExactCanFireSpec)

/-- 'laws.FnExactClassOfChips', WHERE WHAT IT READS IS OF BULK AT MOST 1048576: true; the input reads as it did. -/
def fnExactClassOfChipsUptoRow : OpenClaim := { program := "ytffliklmahedoaa", sum := "d5e5d83647001dcdca16bdaccdf1794fce03b29c8cb897d2caf0e92106e02200", func := "loop.example/g01333/laws.FnExactClassOfChips", spec := "fnExactClassOfChips", unfollowed := true, recurses := true, apart := false, narrowed := true }
def FnExactClassOfChipsUptoSaid : Prop := fnExactClassOfChipsUptoRow.holds Try.pinned (OpenSpec.upto fnExactClassOfChipsSpec)

/-- 'laws.FnExactAreSameClass', WHERE WHAT IT READS IS OF BULK AT MOST 1048576: true; the input reads as it did. -/
def fnExactAreSameClassUptoRow : OpenClaim := { program := "ytffliklmahedoaa", sum := "d5e5d83647001dcdca16bdaccdf1794fce03b29c8cb897d2caf0e92106e02200", func := "loop.example/g01333/laws.FnExactAreSameClass", spec := "fnExactAreSameClass", unfollowed := true, recurses := true, apart := false, narrowed := true }
def FnExactAreSameClassUptoSaid : Prop := fnExactAreSameClassUptoRow.holds Try.pinned (OpenSpec.upto fnExactAreSameClassSpec)

/-- 'laws.FnExactDoComeAgain', WHERE WHAT IT READS IS OF BULK AT MOST 1048576: true; the input reads as it did. -/
def fnExactDoComeAgainUptoRow : OpenClaim := { program := "ytffliklmahedoaa", sum := "d5e5d83647001dcdca16bdaccdf1794fce03b29c8cb897d2caf0e92106e02200", func := "loop.example/g01333/laws.FnExactDoComeAgain", spec := "fnExactDoComeAgain", unfollowed := true, recurses := true, apart := false, narrowed := true }
def FnExactDoComeAgainUptoSaid : Prop := fnExactDoComeAgainUptoRow.holds Try.pinned (OpenSpec.upto fnExactDoComeAgainSpec)

/-- 'laws.FnExactMirrorChips', WHERE WHAT IT READS IS OF BULK AT MOST 1048576: true; the input reads as it did. -/
def fnExactMirrorChipsUptoRow : OpenClaim := { program := "ytffliklmahedoaa", sum := "d5e5d83647001dcdca16bdaccdf1794fce03b29c8cb897d2caf0e92106e02200", func := "loop.example/g01333/laws.FnExactMirrorChips", spec := "fnExactMirrorChips", unfollowed := true, recurses := true, apart := false, narrowed := true }
def FnExactMirrorChipsUptoSaid : Prop := fnExactMirrorChipsUptoRow.holds Try.pinned (OpenSpec.upto fnExactMirrorChipsSpec)

/-- 'laws.FnExactComingChips', WHERE WHAT IT READS IS OF BULK AT MOST 1048576: true; the input reads as it did. -/
def fnExactComingChipsUptoRow : OpenClaim := { program := "ytffliklmahedoaa", sum := "d5e5d83647001dcdca16bdaccdf1794fce03b29c8cb897d2caf0e92106e02200", func := "loop.example/g01333/laws.FnExactComingChips", spec := "fnExactComingChips", apart := false, narrowed := true }
def FnExactComingChipsUptoSaid : Prop := fnExactComingChipsUptoRow.holds Try.pinned (OpenSpec.upto fnExactComingChipsSpec)

/-- 'laws.FnExactNeutralChips', WHERE WHAT IT READS IS OF BULK AT MOST 1048576: true; the input reads as it did. -/
def fnExactNeutralChipsUptoRow : OpenClaim := { program := "ytffliklmahedoaa", sum := "d5e5d83647001dcdca16bdaccdf1794fce03b29c8cb897d2caf0e92106e02200", func := "loop.example/g01333/laws.FnExactNeutralChips", spec := "fnExactNeutralChips", apart := false, narrowed := true }
def FnExactNeutralChipsUptoSaid : Prop := fnExactNeutralChipsUptoRow.holds Try.pinned (OpenSpec.upto fnExactNeutralChipsSpec)

/-- 'laws.FnExactFireAt', WHERE WHAT IT READS IS OF BULK AT MOST 1048576: true; the input reads as it did. -/
def fnExactFireAtUptoRow : OpenClaim := { program := "ytffliklmahedoaa", sum := "d5e5d83647001dcdca16bdaccdf1794fce03b29c8cb897d2caf0e92106e02200", func := "loop.example/g01333/laws.FnExactFireAt", spec := "fnExactFireAt", unfollowed := true, recurses := true, apart := false, narrowed := true }
def FnExactFireAtUptoSaid : Prop := fnExactFireAtUptoRow.holds Try.pinned (OpenSpec.upto fnExactFireAtSpec)

/-- 'laws.FnExactFireInOrder', WHERE WHAT IT READS IS OF BULK AT MOST 1048576: true; the input reads as it did. -/
def fnExactFireInOrderUptoRow : OpenClaim := { program := "ytffliklmahedoaa", sum := "d5e5d83647001dcdca16bdaccdf1794fce03b29c8cb897d2caf0e92106e02200", func := "loop.example/g01333/laws.FnExactFireInOrder", spec := "fnExactFireInOrder", unfollowed := true, recurses := true, apart := false, narrowed := true }
def FnExactFireInOrderUptoSaid : Prop := fnExactFireInOrderUptoRow.holds Try.pinned (OpenSpec.upto fnExactFireInOrderSpec)

/-- 'laws.FnOneRest', WHERE WHAT IT READS IS OF BULK AT MOST 1048576: true; the input reads as it did. -/
def fnOneRestUptoRow : OpenClaim := { program := "ytffliklmahedoaa", sum := "d5e5d83647001dcdca16bdaccdf1794fce03b29c8cb897d2caf0e92106e02200", func := "loop.example/g01333/laws.FnOneRest", spec := "fnOneRest", unfollowed := true, recurses := true, apart := false, narrowed := true }
def FnOneRestUptoSaid : Prop := fnOneRestUptoRow.holds Try.pinned (OpenSpec.upto fnOneRestSpec)

/-- 'laws.FnExactFireAll', WHERE WHAT IT READS IS OF BULK AT MOST 1048576: true; the input reads as it did. -/
def fnExactFireAllUptoRow : OpenClaim := { program := "ytffliklmahedoaa", sum := "d5e5d83647001dcdca16bdaccdf1794fce03b29c8cb897d2caf0e92106e02200", func := "loop.example/g01333/laws.FnExactFireAll", spec := "fnExactFireAll", unfollowed := true, recurses := true, apart := false, narrowed := true }
def FnExactFireAllUptoSaid : Prop := fnExactFireAllUptoRow.holds Try.pinned (OpenSpec.upto fnExactFireAllSpec)

/-- 'laws.FnExactRoundsToRest', WHERE WHAT IT READS IS OF BULK AT MOST 1048576: true; the input reads as it did. -/
def fnExactRoundsToRestUptoRow : OpenClaim := { program := "ytffliklmahedoaa", sum := "d5e5d83647001dcdca16bdaccdf1794fce03b29c8cb897d2caf0e92106e02200", func := "loop.example/g01333/laws.FnExactRoundsToRest", spec := "fnExactRoundsToRest", unfollowed := true, recurses := true, apart := false, narrowed := true }
def FnExactRoundsToRestUptoSaid : Prop := fnExactRoundsToRestUptoRow.holds Try.pinned (OpenSpec.upto fnExactRoundsToRestSpec)

/-- 'laws.FnExactLostChips', WHERE WHAT IT READS IS OF BULK AT MOST 1048576: true; the input reads as it did. -/
def fnExactLostChipsUptoRow : OpenClaim := { program := "ytffliklmahedoaa", sum := "d5e5d83647001dcdca16bdaccdf1794fce03b29c8cb897d2caf0e92106e02200", func := "loop.example/g01333/laws.FnExactLostChips", spec := "fnExactLostChips", unfollowed := true, recurses := true, apart := false, narrowed := true }
def FnExactLostChipsUptoSaid : Prop := fnExactLostChipsUptoRow.holds Try.pinned (OpenSpec.upto fnExactLostChipsSpec)

/-- 'laws.FnExactFiringsOf', WHERE WHAT IT READS IS OF BULK AT MOST 1048576: true; the input reads as it did. -/
def fnExactFiringsOfUptoRow : OpenClaim := { program := "ytffliklmahedoaa", sum := "d5e5d83647001dcdca16bdaccdf1794fce03b29c8cb897d2caf0e92106e02200", func := "loop.example/g01333/laws.FnExactFiringsOf", spec := "fnExactFiringsOf", unfollowed := true, recurses := true, apart := false, narrowed := true }
def FnExactFiringsOfUptoSaid : Prop := fnExactFiringsOfUptoRow.holds Try.pinned (OpenSpec.upto fnExactFiringsOfSpec)

/-- 'laws.FnExactRestOfChips', WHERE WHAT IT READS IS OF BULK AT MOST 1048576: true; the input reads as it did. -/
def fnExactRestOfChipsUptoRow : OpenClaim := { program := "ytffliklmahedoaa", sum := "d5e5d83647001dcdca16bdaccdf1794fce03b29c8cb897d2caf0e92106e02200", func := "loop.example/g01333/laws.FnExactRestOfChips", spec := "fnExactRestOfChips", unfollowed := true, recurses := true, apart := false, narrowed := true }
def FnExactRestOfChipsUptoSaid : Prop := fnExactRestOfChipsUptoRow.holds Try.pinned (OpenSpec.upto fnExactRestOfChipsSpec)

/-- 'laws.FnExactAddChip', WHERE WHAT IT READS IS OF BULK AT MOST 1048576: true; the input reads as it did. -/
def fnExactAddChipUptoRow : OpenClaim := { program := "ytffliklmahedoaa", sum := "d5e5d83647001dcdca16bdaccdf1794fce03b29c8cb897d2caf0e92106e02200", func := "loop.example/g01333/laws.FnExactAddChip", spec := "fnExactAddChip", unfollowed := true, recurses := true, apart := false, narrowed := true }
def FnExactAddChipUptoSaid : Prop := fnExactAddChipUptoRow.holds Try.pinned (OpenSpec.upto fnExactAddChipSpec)

/-- 'laws.FnExactAddComing', WHERE WHAT IT READS IS OF BULK AT MOST 1048576: true; the input reads as it did. -/
def fnExactAddComingUptoRow : OpenClaim := { program := "ytffliklmahedoaa", sum := "d5e5d83647001dcdca16bdaccdf1794fce03b29c8cb897d2caf0e92106e02200", func := "loop.example/g01333/laws.FnExactAddComing", spec := "fnExactAddComing", unfollowed := true, recurses := true, apart := false, narrowed := true }
def FnExactAddComingUptoSaid : Prop := fnExactAddComingUptoRow.holds Try.pinned (OpenSpec.upto fnExactAddComingSpec)

end Rows
end Go.Proofs.Ytffliklmahedoaa
