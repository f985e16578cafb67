/-
  DERIVED. GIVEN WITH THE SEED: THE CARDS: each row of YtlkfncmoaclalaaGreatDoorRows.lean that lists a variable, with what it lists TIED to the program's text (the seventh form; the later family's looks); each row that meets fmt, with fmt's text TOLD by the authors' own Lean function (tested against real Go, not proved from fmt's source: count such statements apart). THE CARD IS WHAT COUNTS. Prove the row's statement (the work); the ties are given (YtlkfncmoaclalaaGreatDoorTie.lean); close each card by the builder's one call (the guide's Derived/Test/ToyasCard.lean, 'card_holds'). Laid BY PROGRAM, IN A SANDBOX (cutbox-door.mjs). By AI agents, Wed Nov 11 2026. No macro, syntax, notation, axiom, sorry.
-/
import Derived.Test.YtlkfncmoaclalaaGreatDoorRows
import GoSem.ClaimSeven
namespace Go.Proofs.YtlkfncmoaclalaaGreatDoor
namespace Rows

/-- THE TIED CARD OF 'laws.FnDec'. -/
def fnDecCard : Claim7 := { stood := { row := fnDecRow, standIns := [], harness := (true, "ea9229c03f36800da569d37f7b7f28d54186b47a22b2f46e284e11e5013557d2"), looks := true }, kinds := [], alts := [], laidByText := true, laidKinds := [.data, .data, .data, .sentinel, .sentinel], laidTests := true, laidLooks := .later }
def FnDecCardSaid : Prop := Claim7.holds Tryz.pinned (.plain (OpenSpec.ofChange fnDecSpec)) fnDecCard

/-- THE TIED CARD OF 'laws.FnExactTermNames'. -/
def fnExactTermNamesCard : Claim7 := { stood := { row := fnExactTermNamesRow, standIns := [], harness := (true, "ea9229c03f36800da569d37f7b7f28d54186b47a22b2f46e284e11e5013557d2"), looks := true }, kinds := [], alts := [], laidByText := true, laidKinds := [.data, .data, .data, .sentinel, .sentinel, .widerDeep], laidTests := true, laidLooks := .later }
def FnExactTermNamesCardSaid : Prop := Claim7.holds Tryz.pinned (.plain (OpenSpec.ofChange fnExactTermNamesSpec)) fnExactTermNamesCard

/-- THE SECOND FORM's CARD OF 'laws.FnDec'. -/
def fnDecUptoCard : Claim7 := { stood := { row := fnDecUptoRow, standIns := [], harness := (true, "ea9229c03f36800da569d37f7b7f28d54186b47a22b2f46e284e11e5013557d2"), looks := true }, kinds := [], alts := [], laidByText := true, laidKinds := [.data, .data, .data, .sentinel, .sentinel], laidTests := true, laidLooks := .later }
def FnDecUptoCardSaid : Prop := Claim7.holds Tryz.pinned (.plain (OpenSpec.upto fnDecSpec)) fnDecUptoCard

/-- THE SECOND FORM's CARD OF 'laws.FnExactTermNames'. -/
def fnExactTermNamesUptoCard : Claim7 := { stood := { row := fnExactTermNamesUptoRow, standIns := [], harness := (true, "ea9229c03f36800da569d37f7b7f28d54186b47a22b2f46e284e11e5013557d2"), looks := true }, kinds := [], alts := [], laidByText := true, laidKinds := [.data, .data, .data, .sentinel, .sentinel, .widerDeep], laidTests := true, laidLooks := .later }
def FnExactTermNamesUptoCardSaid : Prop := Claim7.holds Tryz.pinned (.plain (OpenSpec.upto fnExactTermNamesSpec)) fnExactTermNamesUptoCard
end Rows
end Go.Proofs.YtlkfncmoaclalaaGreatDoor
