/-
  DERIVED. GIVEN WITH THE SEED: THE CARDS: each row of YtbodfhbicdciiaaGreatDoorRows.lean that lists a variable, with what it lists TIED to the program's text (the seventh form; the later family's looks); each row that meets fmt, with fmt's text TOLD by the authors' own Lean function (tested against real Go, not proved from fmt's source: count such statements apart). THE CARD IS WHAT COUNTS. Prove the row's statement (the work); the ties are given (YtbodfhbicdciiaaGreatDoorTie.lean); close each card by the builder's one call (the guide's Derived/Test/ToyasCard.lean, 'card_holds'). Laid BY PROGRAM, IN A SANDBOX (cutbox-door.mjs). By AI agents, Wed Nov 11 2026. No macro, syntax, notation, axiom, sorry.
-/
import Derived.Test.YtbodfhbicdciiaaGreatDoorRows
import GoSem.ClaimSeven
namespace Go.Proofs.YtbodfhbicdciiaaGreatDoor
namespace Rows

/-- THE TIED CARD OF 'laws.FnExactTermRead'. -/
def fnExactTermReadCard : Claim7 := { stood := { row := fnExactTermReadRow, standIns := [], harness := (true, "4a89f5e7a8570e22eeb0666524d19a7b4bf47c47c3696f0c53c46eab6cbcf367"), looks := true }, kinds := [], alts := [], laidByText := true, laidKinds := [.data, .data, .data, .sentinel, .sentinel, .widerDeep], laidTests := true, laidLooks := .later }
def FnExactTermReadCardSaid : Prop := Claim7.holds Tryz.pinned (.plain (OpenSpec.ofChange fnExactTermReadSpec)) fnExactTermReadCard

/-- THE TIED CARD OF 'laws.FnExactGraphTerm'. -/
def fnExactGraphTermCard : Claim7 := { stood := { row := fnExactGraphTermRow, standIns := [], harness := (true, "4a89f5e7a8570e22eeb0666524d19a7b4bf47c47c3696f0c53c46eab6cbcf367"), looks := true }, kinds := [], alts := [], laidByText := true, laidKinds := [.data, .data, .data, .sentinel, .sentinel, .widerDeep], laidTests := true, laidLooks := .later }
def FnExactGraphTermCardSaid : Prop := Claim7.holds Tryz.pinned (.plain (OpenSpec.ofChange fnExactGraphTermSpec)) fnExactGraphTermCard

/-- THE TIED CARD OF 'laws.FnExactGraphText'. -/
def fnExactGraphTextCard : Claim7 := { stood := { row := fnExactGraphTextRow, standIns := [], harness := (true, "4a89f5e7a8570e22eeb0666524d19a7b4bf47c47c3696f0c53c46eab6cbcf367"), looks := true }, kinds := [], alts := [], laidByText := true, laidKinds := [.data, .data, .data, .sentinel, .sentinel, .widerDeep, .widerDeep], laidTests := true, laidLooks := .later }
def FnExactGraphTextCardSaid : Prop := Claim7.holds Tryz.pinned (.plain (OpenSpec.ofChange fnExactGraphTextSpec)) fnExactGraphTextCard

/-- THE SECOND FORM's CARD OF 'laws.FnExactTermRead'. -/
def fnExactTermReadUptoCard : Claim7 := { stood := { row := fnExactTermReadUptoRow, standIns := [], harness := (true, "4a89f5e7a8570e22eeb0666524d19a7b4bf47c47c3696f0c53c46eab6cbcf367"), looks := true }, kinds := [], alts := [], laidByText := true, laidKinds := [.data, .data, .data, .sentinel, .sentinel, .widerDeep], laidTests := true, laidLooks := .later }
def FnExactTermReadUptoCardSaid : Prop := Claim7.holds Tryz.pinned (.plain (OpenSpec.upto fnExactTermReadSpec)) fnExactTermReadUptoCard

/-- THE SECOND FORM's CARD OF 'laws.FnExactGraphTerm'. -/
def fnExactGraphTermUptoCard : Claim7 := { stood := { row := fnExactGraphTermUptoRow, standIns := [], harness := (true, "4a89f5e7a8570e22eeb0666524d19a7b4bf47c47c3696f0c53c46eab6cbcf367"), looks := true }, kinds := [], alts := [], laidByText := true, laidKinds := [.data, .data, .data, .sentinel, .sentinel, .widerDeep], laidTests := true, laidLooks := .later }
def FnExactGraphTermUptoCardSaid : Prop := Claim7.holds Tryz.pinned (.plain (OpenSpec.upto fnExactGraphTermSpec)) fnExactGraphTermUptoCard

/-- THE SECOND FORM's CARD OF 'laws.FnExactGraphText'. -/
def fnExactGraphTextUptoCard : Claim7 := { stood := { row := fnExactGraphTextUptoRow, standIns := [], harness := (true, "4a89f5e7a8570e22eeb0666524d19a7b4bf47c47c3696f0c53c46eab6cbcf367"), looks := true }, kinds := [], alts := [], laidByText := true, laidKinds := [.data, .data, .data, .sentinel, .sentinel, .widerDeep, .widerDeep], laidTests := true, laidLooks := .later }
def FnExactGraphTextUptoCardSaid : Prop := Claim7.holds Tryz.pinned (.plain (OpenSpec.upto fnExactGraphTextSpec)) fnExactGraphTextUptoCard
end Rows
end Go.Proofs.YtbodfhbicdciiaaGreatDoor
