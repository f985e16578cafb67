/-
  DERIVED. GIVEN WITH THE SEED: THE CARDS: each row of YtoogebffgniobaaDoorRows.lean that lists a variable, with what it lists TIED to the program's text (the seventh form; the later family's looks); each row that meets fmt, with fmt's text TOLD by the authors' own Lean function (tested against real Go, not proved from fmt's source: count such statements apart). THE CARD IS WHAT COUNTS. Prove the row's statement (the work); the ties are given (YtoogebffgniobaaDoorTie.lean); close each card by the builder's one call (the guide's Derived/Test/ToyasCard.lean, 'card_holds'). Laid BY PROGRAM, IN A SANDBOX (cutbox-door.mjs). By AI agents, Wed Nov 11 2026. No macro, syntax, notation, axiom, sorry.
-/
import Derived.Test.YtoogebffgniobaaDoorRows
import GoSem.ClaimSeven
namespace Go.Proofs.YtoogebffgniobaaDoor
namespace Rows

/-- THE TIED CARD OF 'laws.FnExactTermOk'. -/
def fnExactTermOkCard : Claim7 := { stood := { row := fnExactTermOkRow, standIns := [], harness := (true, "bae426b916195b3234d8158f4ae4dfb50de92d466ba5c12228fc4e9a60fe9efd"), looks := true }, kinds := [], alts := [], laidByText := true, laidKinds := [.data, .data, .data, .sentinel, .sentinel, .widerDeep], laidTests := true, laidLooks := .later }
def FnExactTermOkCardSaid : Prop := Claim7.holds Tryd.pinned (.plain (OpenSpec.ofChange fnExactTermOkSpec)) fnExactTermOkCard

/-- THE TIED CARD OF 'laws.FnExactTermDepth'. -/
def fnExactTermDepthCard : Claim7 := { stood := { row := fnExactTermDepthRow, standIns := [], harness := (true, "bae426b916195b3234d8158f4ae4dfb50de92d466ba5c12228fc4e9a60fe9efd"), looks := true }, kinds := [], alts := [], laidByText := true, laidKinds := [.data, .data, .data, .sentinel, .sentinel, .widerDeep], laidTests := true, laidLooks := .later }
def FnExactTermDepthCardSaid : Prop := Claim7.holds Tryd.pinned (.plain (OpenSpec.ofChange fnExactTermDepthSpec)) fnExactTermDepthCard

/-- THE TIED CARD OF 'laws.FnExactGraphOk'. -/
def fnExactGraphOkCard : Claim7 := { stood := { row := fnExactGraphOkRow, standIns := [], harness := (true, "bae426b916195b3234d8158f4ae4dfb50de92d466ba5c12228fc4e9a60fe9efd"), looks := true }, kinds := [], alts := [], laidByText := true, laidKinds := [.data, .data, .data, .sentinel, .sentinel, .widerDeep], laidTests := true, laidLooks := .later }
def FnExactGraphOkCardSaid : Prop := Claim7.holds Tryd.pinned (.plain (OpenSpec.ofChange fnExactGraphOkSpec)) fnExactGraphOkCard

/-- THE TIED CARD OF 'laws.FnExactSlopeSmooth'. -/
def fnExactSlopeSmoothCard : Claim7 := { stood := { row := fnExactSlopeSmoothRow, standIns := [], harness := (true, "bae426b916195b3234d8158f4ae4dfb50de92d466ba5c12228fc4e9a60fe9efd"), looks := true }, kinds := [], alts := [], laidByText := true, laidKinds := [.data, .data, .data, .sentinel, .sentinel, .widerDeep], laidTests := true, laidLooks := .later }
def FnExactSlopeSmoothCardSaid : Prop := Claim7.holds Tryd.pinned (.plain (OpenSpec.ofChange fnExactSlopeSmoothSpec)) fnExactSlopeSmoothCard

/-- THE TIED CARD OF 'laws.FnExactTermPut'. -/
def fnExactTermPutCard : Claim7 := { stood := { row := fnExactTermPutRow, standIns := [], harness := (true, "bae426b916195b3234d8158f4ae4dfb50de92d466ba5c12228fc4e9a60fe9efd"), looks := true }, kinds := [], alts := [], laidByText := true, laidKinds := [.data, .data, .data, .sentinel, .sentinel, .widerDeep], laidTests := true, laidLooks := .later }
def FnExactTermPutCardSaid : Prop := Claim7.holds Tryd.pinned (.plain (OpenSpec.ofChange fnExactTermPutSpec)) fnExactTermPutCard

/-- THE TIED CARD OF 'laws.FnExactTermText'. -/
def fnExactTermTextCard : Claim7 := { stood := { row := fnExactTermTextRow, standIns := [], harness := (true, "bae426b916195b3234d8158f4ae4dfb50de92d466ba5c12228fc4e9a60fe9efd"), looks := true }, kinds := [], alts := [], laidByText := true, laidKinds := [.data, .data, .data, .sentinel, .sentinel, .widerDeep], laidTests := true, laidLooks := .later }
def FnExactTermTextCardSaid : Prop := Claim7.holds Tryd.pinned (.plain (OpenSpec.ofChange fnExactTermTextSpec)) fnExactTermTextCard

/-- THE SECOND FORM's CARD OF 'laws.FnExactTermOk'. -/
def fnExactTermOkUptoCard : Claim7 := { stood := { row := fnExactTermOkUptoRow, standIns := [], harness := (true, "bae426b916195b3234d8158f4ae4dfb50de92d466ba5c12228fc4e9a60fe9efd"), looks := true }, kinds := [], alts := [], laidByText := true, laidKinds := [.data, .data, .data, .sentinel, .sentinel, .widerDeep], laidTests := true, laidLooks := .later }
def FnExactTermOkUptoCardSaid : Prop := Claim7.holds Tryd.pinned (.plain (OpenSpec.upto fnExactTermOkSpec)) fnExactTermOkUptoCard

/-- THE SECOND FORM's CARD OF 'laws.FnExactTermDepth'. -/
def fnExactTermDepthUptoCard : Claim7 := { stood := { row := fnExactTermDepthUptoRow, standIns := [], harness := (true, "bae426b916195b3234d8158f4ae4dfb50de92d466ba5c12228fc4e9a60fe9efd"), looks := true }, kinds := [], alts := [], laidByText := true, laidKinds := [.data, .data, .data, .sentinel, .sentinel, .widerDeep], laidTests := true, laidLooks := .later }
def FnExactTermDepthUptoCardSaid : Prop := Claim7.holds Tryd.pinned (.plain (OpenSpec.upto fnExactTermDepthSpec)) fnExactTermDepthUptoCard

/-- THE SECOND FORM's CARD OF 'laws.FnExactGraphOk'. -/
def fnExactGraphOkUptoCard : Claim7 := { stood := { row := fnExactGraphOkUptoRow, standIns := [], harness := (true, "bae426b916195b3234d8158f4ae4dfb50de92d466ba5c12228fc4e9a60fe9efd"), looks := true }, kinds := [], alts := [], laidByText := true, laidKinds := [.data, .data, .data, .sentinel, .sentinel, .widerDeep], laidTests := true, laidLooks := .later }
def FnExactGraphOkUptoCardSaid : Prop := Claim7.holds Tryd.pinned (.plain (OpenSpec.upto fnExactGraphOkSpec)) fnExactGraphOkUptoCard

/-- THE SECOND FORM's CARD OF 'laws.FnExactSlopeSmooth'. -/
def fnExactSlopeSmoothUptoCard : Claim7 := { stood := { row := fnExactSlopeSmoothUptoRow, standIns := [], harness := (true, "bae426b916195b3234d8158f4ae4dfb50de92d466ba5c12228fc4e9a60fe9efd"), looks := true }, kinds := [], alts := [], laidByText := true, laidKinds := [.data, .data, .data, .sentinel, .sentinel, .widerDeep], laidTests := true, laidLooks := .later }
def FnExactSlopeSmoothUptoCardSaid : Prop := Claim7.holds Tryd.pinned (.plain (OpenSpec.upto fnExactSlopeSmoothSpec)) fnExactSlopeSmoothUptoCard

/-- THE SECOND FORM's CARD OF 'laws.FnExactTermPut'. -/
def fnExactTermPutUptoCard : Claim7 := { stood := { row := fnExactTermPutUptoRow, standIns := [], harness := (true, "bae426b916195b3234d8158f4ae4dfb50de92d466ba5c12228fc4e9a60fe9efd"), looks := true }, kinds := [], alts := [], laidByText := true, laidKinds := [.data, .data, .data, .sentinel, .sentinel, .widerDeep], laidTests := true, laidLooks := .later }
def FnExactTermPutUptoCardSaid : Prop := Claim7.holds Tryd.pinned (.plain (OpenSpec.upto fnExactTermPutSpec)) fnExactTermPutUptoCard

/-- THE SECOND FORM's CARD OF 'laws.FnExactTermText'. -/
def fnExactTermTextUptoCard : Claim7 := { stood := { row := fnExactTermTextUptoRow, standIns := [], harness := (true, "bae426b916195b3234d8158f4ae4dfb50de92d466ba5c12228fc4e9a60fe9efd"), looks := true }, kinds := [], alts := [], laidByText := true, laidKinds := [.data, .data, .data, .sentinel, .sentinel, .widerDeep], laidTests := true, laidLooks := .later }
def FnExactTermTextUptoCardSaid : Prop := Claim7.holds Tryd.pinned (.plain (OpenSpec.upto fnExactTermTextSpec)) fnExactTermTextUptoCard
end Rows
end Go.Proofs.YtoogebffgniobaaDoor
