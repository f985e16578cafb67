/-
  DERIVED. GIVEN WITH THE SEED: THE CARDS: each row of YtkbfckjhgdgdbaaDoorRows.lean that lists a variable, with what it lists TIED to the program's text (the seventh form; the later family's looks); each row that meets fmt, with fmt's text TOLD by the authors' own Lean function (tested against real Go, not proved from fmt's source: count such statements apart). THE CARD IS WHAT COUNTS. Prove the row's statement (the work); the ties are given (YtkbfckjhgdgdbaaDoorTie.lean); close each card by the builder's one call (the guide's Derived/Test/ToyasCard.lean, 'card_holds'). Laid BY PROGRAM, IN A SANDBOX (cutbox-door.mjs). By AI agents, Wed Nov 11 2026. No macro, syntax, notation, axiom, sorry.
-/
import Derived.Test.YtkbfckjhgdgdbaaDoorRows
import GoSem.ClaimSeven
namespace Go.Proofs.YtkbfckjhgdgdbaaDoor
namespace Rows

/-- THE TIED CARD OF 'laws.FnExactSpanMul'. -/
def fnExactSpanMulCard : Claim7 := { stood := { row := fnExactSpanMulRow, standIns := [], harness := (true, "6619e371fcc1416da7f89e68b6df903c293fd925f28febbc116c6beee395f628"), looks := false }, kinds := [], alts := [], laidByText := true, laidKinds := [.data], laidTests := true, laidLooks := .later }
def FnExactSpanMulCardSaid : Prop := Claim7.holds Tryd.pinned (.plain (OpenSpec.ofChange fnExactSpanMulSpec)) fnExactSpanMulCard

/-- THE TIED CARD OF 'laws.FnExactSpanAdd'. -/
def fnExactSpanAddCard : Claim7 := { stood := { row := fnExactSpanAddRow, standIns := [], harness := (true, "6619e371fcc1416da7f89e68b6df903c293fd925f28febbc116c6beee395f628"), looks := false }, kinds := [], alts := [], laidByText := true, laidKinds := [.data], laidTests := true, laidLooks := .later }
def FnExactSpanAddCardSaid : Prop := Claim7.holds Tryd.pinned (.plain (OpenSpec.ofChange fnExactSpanAddSpec)) fnExactSpanAddCard

/-- THE TIED CARD OF 'laws.FnExactSpanSub'. -/
def fnExactSpanSubCard : Claim7 := { stood := { row := fnExactSpanSubRow, standIns := [], harness := (true, "6619e371fcc1416da7f89e68b6df903c293fd925f28febbc116c6beee395f628"), looks := false }, kinds := [], alts := [], laidByText := true, laidKinds := [.data], laidTests := true, laidLooks := .later }
def FnExactSpanSubCardSaid : Prop := Claim7.holds Tryd.pinned (.plain (OpenSpec.ofChange fnExactSpanSubSpec)) fnExactSpanSubCard

/-- THE TIED CARD OF 'laws.FnExactBackTop'. -/
def fnExactBackTopCard : Claim7 := { stood := { row := fnExactBackTopRow, standIns := [], harness := (true, "6619e371fcc1416da7f89e68b6df903c293fd925f28febbc116c6beee395f628"), looks := false }, kinds := [], alts := [], laidByText := true, laidKinds := [.data], laidTests := true, laidLooks := .later }
def FnExactBackTopCardSaid : Prop := Claim7.holds Tryd.pinned (.plain (OpenSpec.ofChange fnExactBackTopSpec)) fnExactBackTopCard

/-- THE TIED CARD OF 'laws.FnFloatFrac'. -/
def fnFloatFracCard : Claim7 := { stood := { row := fnFloatFracRow, standIns := [], harness := (true, "6619e371fcc1416da7f89e68b6df903c293fd925f28febbc116c6beee395f628"), looks := false }, kinds := [], alts := [], laidByText := true, laidKinds := [.data], laidTests := true, laidLooks := .later }
def FnFloatFracCardSaid : Prop := Claim7.holds Tryd.pinned (.plain (OpenSpec.ofChange fnFloatFracSpec)) fnFloatFracCard

/-- THE TIED CARD OF 'laws.FnExactFloatNear'. -/
def fnExactFloatNearCard : Claim7 := { stood := { row := fnExactFloatNearRow, standIns := [], harness := (true, "6619e371fcc1416da7f89e68b6df903c293fd925f28febbc116c6beee395f628"), looks := false }, kinds := [], alts := [], laidByText := true, laidKinds := [.data], laidTests := true, laidLooks := .later }
def FnExactFloatNearCardSaid : Prop := Claim7.holds Tryd.pinned (.plain (OpenSpec.ofChange fnExactFloatNearSpec)) fnExactFloatNearCard

/-- THE TIED CARD OF 'laws.FnExactSpanDivTwo'. -/
def fnExactSpanDivTwoCard : Claim7 := { stood := { row := fnExactSpanDivTwoRow, standIns := [], harness := (true, "6619e371fcc1416da7f89e68b6df903c293fd925f28febbc116c6beee395f628"), looks := false }, kinds := [], alts := [], laidByText := true, laidKinds := [.data], laidTests := true, laidLooks := .later }
def FnExactSpanDivTwoCardSaid : Prop := Claim7.holds Tryd.pinned (.plain (OpenSpec.ofChange fnExactSpanDivTwoSpec)) fnExactSpanDivTwoCard

/-- THE TIED CARD OF 'laws.FnExactSpanDiv'. -/
def fnExactSpanDivCard : Claim7 := { stood := { row := fnExactSpanDivRow, standIns := [], harness := (true, "6619e371fcc1416da7f89e68b6df903c293fd925f28febbc116c6beee395f628"), looks := false }, kinds := [], alts := [], laidByText := true, laidKinds := [.data], laidTests := true, laidLooks := .later }
def FnExactSpanDivCardSaid : Prop := Claim7.holds Tryd.pinned (.plain (OpenSpec.ofChange fnExactSpanDivSpec)) fnExactSpanDivCard

/-- THE TIED CARD OF 'laws.FnExactBackMulGap'. -/
def fnExactBackMulGapCard : Claim7 := { stood := { row := fnExactBackMulGapRow, standIns := [], harness := (true, "6619e371fcc1416da7f89e68b6df903c293fd925f28febbc116c6beee395f628"), looks := false }, kinds := [], alts := [], laidByText := true, laidKinds := [.data], laidTests := true, laidLooks := .later }
def FnExactBackMulGapCardSaid : Prop := Claim7.holds Tryd.pinned (.plain (OpenSpec.ofChange fnExactBackMulGapSpec)) fnExactBackMulGapCard

/-- THE TIED CARD OF 'laws.FnExactBackMul'. -/
def fnExactBackMulCard : Claim7 := { stood := { row := fnExactBackMulRow, standIns := [], harness := (true, "6619e371fcc1416da7f89e68b6df903c293fd925f28febbc116c6beee395f628"), looks := false }, kinds := [], alts := [], laidByText := true, laidKinds := [.data], laidTests := true, laidLooks := .later }
def FnExactBackMulCardSaid : Prop := Claim7.holds Tryd.pinned (.plain (OpenSpec.ofChange fnExactBackMulSpec)) fnExactBackMulCard

/-- THE TIED CARD OF 'laws.FnExactBackBottom'. -/
def fnExactBackBottomCard : Claim7 := { stood := { row := fnExactBackBottomRow, standIns := [], harness := (true, "6619e371fcc1416da7f89e68b6df903c293fd925f28febbc116c6beee395f628"), looks := false }, kinds := [], alts := [], laidByText := true, laidKinds := [.data], laidTests := true, laidLooks := .later }
def FnExactBackBottomCardSaid : Prop := Claim7.holds Tryd.pinned (.plain (OpenSpec.ofChange fnExactBackBottomSpec)) fnExactBackBottomCard

/-- THE TIED CARD OF 'laws.FnFloatRound'. -/
def fnFloatRoundCard : Claim7 := { stood := { row := fnFloatRoundRow, standIns := [], harness := (true, "6619e371fcc1416da7f89e68b6df903c293fd925f28febbc116c6beee395f628"), looks := false }, kinds := [], alts := [], laidByText := true, laidKinds := [.data], laidTests := true, laidLooks := .later }
def FnFloatRoundCardSaid : Prop := Claim7.holds Tryd.pinned (.plain (OpenSpec.ofChange fnFloatRoundSpec)) fnFloatRoundCard

/-- THE SECOND FORM's CARD OF 'laws.FnExactSpanMul'. -/
def fnExactSpanMulUptoCard : Claim7 := { stood := { row := fnExactSpanMulUptoRow, standIns := [], harness := (true, "6619e371fcc1416da7f89e68b6df903c293fd925f28febbc116c6beee395f628"), looks := false }, kinds := [], alts := [], laidByText := true, laidKinds := [.data], laidTests := true, laidLooks := .later }
def FnExactSpanMulUptoCardSaid : Prop := Claim7.holds Tryd.pinned (.plain (OpenSpec.upto fnExactSpanMulSpec)) fnExactSpanMulUptoCard

/-- THE SECOND FORM's CARD OF 'laws.FnExactSpanAdd'. -/
def fnExactSpanAddUptoCard : Claim7 := { stood := { row := fnExactSpanAddUptoRow, standIns := [], harness := (true, "6619e371fcc1416da7f89e68b6df903c293fd925f28febbc116c6beee395f628"), looks := false }, kinds := [], alts := [], laidByText := true, laidKinds := [.data], laidTests := true, laidLooks := .later }
def FnExactSpanAddUptoCardSaid : Prop := Claim7.holds Tryd.pinned (.plain (OpenSpec.upto fnExactSpanAddSpec)) fnExactSpanAddUptoCard

/-- THE SECOND FORM's CARD OF 'laws.FnExactSpanSub'. -/
def fnExactSpanSubUptoCard : Claim7 := { stood := { row := fnExactSpanSubUptoRow, standIns := [], harness := (true, "6619e371fcc1416da7f89e68b6df903c293fd925f28febbc116c6beee395f628"), looks := false }, kinds := [], alts := [], laidByText := true, laidKinds := [.data], laidTests := true, laidLooks := .later }
def FnExactSpanSubUptoCardSaid : Prop := Claim7.holds Tryd.pinned (.plain (OpenSpec.upto fnExactSpanSubSpec)) fnExactSpanSubUptoCard

/-- THE SECOND FORM's CARD OF 'laws.FnExactBackTop'. -/
def fnExactBackTopUptoCard : Claim7 := { stood := { row := fnExactBackTopUptoRow, standIns := [], harness := (true, "6619e371fcc1416da7f89e68b6df903c293fd925f28febbc116c6beee395f628"), looks := false }, kinds := [], alts := [], laidByText := true, laidKinds := [.data], laidTests := true, laidLooks := .later }
def FnExactBackTopUptoCardSaid : Prop := Claim7.holds Tryd.pinned (.plain (OpenSpec.upto fnExactBackTopSpec)) fnExactBackTopUptoCard

/-- THE SECOND FORM's CARD OF 'laws.FnFloatFrac'. -/
def fnFloatFracUptoCard : Claim7 := { stood := { row := fnFloatFracUptoRow, standIns := [], harness := (true, "6619e371fcc1416da7f89e68b6df903c293fd925f28febbc116c6beee395f628"), looks := false }, kinds := [], alts := [], laidByText := true, laidKinds := [.data], laidTests := true, laidLooks := .later }
def FnFloatFracUptoCardSaid : Prop := Claim7.holds Tryd.pinned (.plain (OpenSpec.upto fnFloatFracSpec)) fnFloatFracUptoCard

/-- THE SECOND FORM's CARD OF 'laws.FnExactFloatNear'. -/
def fnExactFloatNearUptoCard : Claim7 := { stood := { row := fnExactFloatNearUptoRow, standIns := [], harness := (true, "6619e371fcc1416da7f89e68b6df903c293fd925f28febbc116c6beee395f628"), looks := false }, kinds := [], alts := [], laidByText := true, laidKinds := [.data], laidTests := true, laidLooks := .later }
def FnExactFloatNearUptoCardSaid : Prop := Claim7.holds Tryd.pinned (.plain (OpenSpec.upto fnExactFloatNearSpec)) fnExactFloatNearUptoCard

/-- THE SECOND FORM's CARD OF 'laws.FnExactSpanDivTwo'. -/
def fnExactSpanDivTwoUptoCard : Claim7 := { stood := { row := fnExactSpanDivTwoUptoRow, standIns := [], harness := (true, "6619e371fcc1416da7f89e68b6df903c293fd925f28febbc116c6beee395f628"), looks := false }, kinds := [], alts := [], laidByText := true, laidKinds := [.data], laidTests := true, laidLooks := .later }
def FnExactSpanDivTwoUptoCardSaid : Prop := Claim7.holds Tryd.pinned (.plain (OpenSpec.upto fnExactSpanDivTwoSpec)) fnExactSpanDivTwoUptoCard

/-- THE SECOND FORM's CARD OF 'laws.FnExactSpanDiv'. -/
def fnExactSpanDivUptoCard : Claim7 := { stood := { row := fnExactSpanDivUptoRow, standIns := [], harness := (true, "6619e371fcc1416da7f89e68b6df903c293fd925f28febbc116c6beee395f628"), looks := false }, kinds := [], alts := [], laidByText := true, laidKinds := [.data], laidTests := true, laidLooks := .later }
def FnExactSpanDivUptoCardSaid : Prop := Claim7.holds Tryd.pinned (.plain (OpenSpec.upto fnExactSpanDivSpec)) fnExactSpanDivUptoCard

/-- THE SECOND FORM's CARD OF 'laws.FnExactBackMulGap'. -/
def fnExactBackMulGapUptoCard : Claim7 := { stood := { row := fnExactBackMulGapUptoRow, standIns := [], harness := (true, "6619e371fcc1416da7f89e68b6df903c293fd925f28febbc116c6beee395f628"), looks := false }, kinds := [], alts := [], laidByText := true, laidKinds := [.data], laidTests := true, laidLooks := .later }
def FnExactBackMulGapUptoCardSaid : Prop := Claim7.holds Tryd.pinned (.plain (OpenSpec.upto fnExactBackMulGapSpec)) fnExactBackMulGapUptoCard

/-- THE SECOND FORM's CARD OF 'laws.FnExactBackMul'. -/
def fnExactBackMulUptoCard : Claim7 := { stood := { row := fnExactBackMulUptoRow, standIns := [], harness := (true, "6619e371fcc1416da7f89e68b6df903c293fd925f28febbc116c6beee395f628"), looks := false }, kinds := [], alts := [], laidByText := true, laidKinds := [.data], laidTests := true, laidLooks := .later }
def FnExactBackMulUptoCardSaid : Prop := Claim7.holds Tryd.pinned (.plain (OpenSpec.upto fnExactBackMulSpec)) fnExactBackMulUptoCard

/-- THE SECOND FORM's CARD OF 'laws.FnExactBackBottom'. -/
def fnExactBackBottomUptoCard : Claim7 := { stood := { row := fnExactBackBottomUptoRow, standIns := [], harness := (true, "6619e371fcc1416da7f89e68b6df903c293fd925f28febbc116c6beee395f628"), looks := false }, kinds := [], alts := [], laidByText := true, laidKinds := [.data], laidTests := true, laidLooks := .later }
def FnExactBackBottomUptoCardSaid : Prop := Claim7.holds Tryd.pinned (.plain (OpenSpec.upto fnExactBackBottomSpec)) fnExactBackBottomUptoCard

/-- THE SECOND FORM's CARD OF 'laws.FnFloatRound'. -/
def fnFloatRoundUptoCard : Claim7 := { stood := { row := fnFloatRoundUptoRow, standIns := [], harness := (true, "6619e371fcc1416da7f89e68b6df903c293fd925f28febbc116c6beee395f628"), looks := false }, kinds := [], alts := [], laidByText := true, laidKinds := [.data], laidTests := true, laidLooks := .later }
def FnFloatRoundUptoCardSaid : Prop := Claim7.holds Tryd.pinned (.plain (OpenSpec.upto fnFloatRoundSpec)) fnFloatRoundUptoCard
end Rows
end Go.Proofs.YtkbfckjhgdgdbaaDoor
