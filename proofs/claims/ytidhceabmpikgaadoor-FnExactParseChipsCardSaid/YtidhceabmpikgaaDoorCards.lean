/-
  DERIVED. GIVEN WITH THE SEED: THE CARDS: each row of YtidhceabmpikgaaDoorRows.lean that lists a variable, with what it lists TIED to the program's text (the seventh form; the later family's looks); each row that meets fmt, with fmt's text TOLD by the authors' own Lean function (tested against real Go, not proved from fmt's source: count such statements apart). THE CARD IS WHAT COUNTS. Prove the row's statement (the work); the ties are given (YtidhceabmpikgaaDoorTie.lean); close each card by the builder's one call (the guide's Derived/Test/ToyasCard.lean, 'card_holds'). Laid BY PROGRAM, IN A SANDBOX (cutbox-door.mjs). By AI agents, Wed Nov 11 2026. No macro, syntax, notation, axiom, sorry.
-/
import Derived.Test.YtidhceabmpikgaaDoorRows
import GoSem.ClaimSeven
namespace Go.Proofs.YtidhceabmpikgaaDoor
namespace Rows

/-- THE TIED CARD OF 'laws.FnExactParseChips'. -/
def fnExactParseChipsCard : Claim7 := { stood := { row := fnExactParseChipsRow, standIns := [], harness := (true, "c272e18e2b8828e486e99b5f8a8f84262a97e557f338d20814b3d5553f8b3b02"), looks := true }, kinds := [], alts := [], laidByText := true, laidKinds := [.data, .data, .data, .data, .sentinel, .sentinel, .pinned], laidTests := true, laidLooks := .later }
def FnExactParseChipsCardSaid : Prop := Claim7.holds Tryd.pinned (.plain (OpenSpec.ofChange fnExactParseChipsSpec)) fnExactParseChipsCard

/-- THE TIED CARD OF 'laws.FnExactChipsText'. -/
def fnExactChipsTextCard : Claim7 := { stood := { row := fnExactChipsTextRow, standIns := [], harness := (true, "c272e18e2b8828e486e99b5f8a8f84262a97e557f338d20814b3d5553f8b3b02"), looks := true }, kinds := [], alts := [], laidByText := true, laidKinds := [.data, .data, .data], laidTests := true, laidLooks := .later }
def FnExactChipsTextCardSaid : Prop := Claim7.holds Tryd.pinned (.plain (OpenSpec.ofChange fnExactChipsTextSpec)) fnExactChipsTextCard

/-- THE SECOND FORM's CARD OF 'laws.FnExactParseChips'. -/
def fnExactParseChipsUptoCard : Claim7 := { stood := { row := fnExactParseChipsUptoRow, standIns := [], harness := (true, "c272e18e2b8828e486e99b5f8a8f84262a97e557f338d20814b3d5553f8b3b02"), looks := true }, kinds := [], alts := [], laidByText := true, laidKinds := [.data, .data, .data, .data, .sentinel, .sentinel, .pinned], laidTests := true, laidLooks := .later }
def FnExactParseChipsUptoCardSaid : Prop := Claim7.holds Tryd.pinned (.plain (OpenSpec.upto fnExactParseChipsSpec)) fnExactParseChipsUptoCard

/-- THE SECOND FORM's CARD OF 'laws.FnExactChipsText'. -/
def fnExactChipsTextUptoCard : Claim7 := { stood := { row := fnExactChipsTextUptoRow, standIns := [], harness := (true, "c272e18e2b8828e486e99b5f8a8f84262a97e557f338d20814b3d5553f8b3b02"), looks := true }, kinds := [], alts := [], laidByText := true, laidKinds := [.data, .data, .data], laidTests := true, laidLooks := .later }
def FnExactChipsTextUptoCardSaid : Prop := Claim7.holds Tryd.pinned (.plain (OpenSpec.upto fnExactChipsTextSpec)) fnExactChipsTextUptoCard
end Rows
end Go.Proofs.YtidhceabmpikgaaDoor
