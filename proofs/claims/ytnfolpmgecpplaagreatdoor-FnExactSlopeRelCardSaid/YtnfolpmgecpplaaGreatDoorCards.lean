/-
  DERIVED. GIVEN WITH THE SEED: THE CARDS: each row of YtnfolpmgecpplaaGreatDoorRows.lean that lists a variable, with what it lists TIED to the program's text (the seventh form; the later family's looks); each row that meets fmt, with fmt's text TOLD by the authors' own Lean function (tested against real Go, not proved from fmt's source: count such statements apart). THE CARD IS WHAT COUNTS. Prove the row's statement (the work); the ties are given (YtnfolpmgecpplaaGreatDoorTie.lean); close each card by the builder's one call (the guide's Derived/Test/ToyasCard.lean, 'card_holds'). Laid BY PROGRAM, IN A SANDBOX (cutbox-door.mjs). By AI agents, Wed Nov 11 2026. No macro, syntax, notation, axiom, sorry.
-/
import Derived.Test.YtnfolpmgecpplaaGreatDoorRows
import GoSem.ClaimSeven
namespace Go.Proofs.YtnfolpmgecpplaaGreatDoor
namespace Rows

/-- THE TIED CARD OF 'laws.FnExactSlopeMake'. -/
def fnExactSlopeMakeCard : Claim7 := { stood := { row := fnExactSlopeMakeRow, standIns := [], harness := (true, "e5123c0a3c88b8801013fe56d8191f593e8d5bd50e4d8e1a99f445b069de782a"), looks := true }, kinds := [], alts := [], laidByText := true, laidKinds := [.data, .data, .data, .sentinel, .sentinel, .widerDeep], laidTests := true, laidLooks := .later }
def FnExactSlopeMakeCardSaid : Prop := Claim7.holds Tryz.pinned (.plain (OpenSpec.ofChange fnExactSlopeMakeSpec)) fnExactSlopeMakeCard

/-- THE TIED CARD OF 'laws.FnExactSlopeRel'. -/
def fnExactSlopeRelCard : Claim7 := { stood := { row := fnExactSlopeRelRow, standIns := [], harness := (true, "e5123c0a3c88b8801013fe56d8191f593e8d5bd50e4d8e1a99f445b069de782a"), looks := true }, kinds := [], alts := [], laidByText := true, laidKinds := [.data, .data, .data, .sentinel, .sentinel, .widerDeep], laidTests := true, laidLooks := .later }
def FnExactSlopeRelCardSaid : Prop := Claim7.holds Tryz.pinned (.plain (OpenSpec.ofChange fnExactSlopeRelSpec)) fnExactSlopeRelCard

/-- THE SECOND FORM's CARD OF 'laws.FnExactSlopeMake'. -/
def fnExactSlopeMakeUptoCard : Claim7 := { stood := { row := fnExactSlopeMakeUptoRow, standIns := [], harness := (true, "e5123c0a3c88b8801013fe56d8191f593e8d5bd50e4d8e1a99f445b069de782a"), looks := true }, kinds := [], alts := [], laidByText := true, laidKinds := [.data, .data, .data, .sentinel, .sentinel, .widerDeep], laidTests := true, laidLooks := .later }
def FnExactSlopeMakeUptoCardSaid : Prop := Claim7.holds Tryz.pinned (.plain (OpenSpec.upto fnExactSlopeMakeSpec)) fnExactSlopeMakeUptoCard

/-- THE SECOND FORM's CARD OF 'laws.FnExactSlopeRel'. -/
def fnExactSlopeRelUptoCard : Claim7 := { stood := { row := fnExactSlopeRelUptoRow, standIns := [], harness := (true, "e5123c0a3c88b8801013fe56d8191f593e8d5bd50e4d8e1a99f445b069de782a"), looks := true }, kinds := [], alts := [], laidByText := true, laidKinds := [.data, .data, .data, .sentinel, .sentinel, .widerDeep], laidTests := true, laidLooks := .later }
def FnExactSlopeRelUptoCardSaid : Prop := Claim7.holds Tryz.pinned (.plain (OpenSpec.upto fnExactSlopeRelSpec)) fnExactSlopeRelUptoCard
end Rows
end Go.Proofs.YtnfolpmgecpplaaGreatDoor
