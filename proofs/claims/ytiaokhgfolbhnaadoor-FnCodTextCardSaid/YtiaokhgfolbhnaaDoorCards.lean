/-
  DERIVED. GIVEN WITH THE SEED: THE CARDS: each row of YtiaokhgfolbhnaaDoorRows.lean that lists a variable, with what it lists TIED to the program's text (the seventh form; the later family's looks); each row that meets fmt, with fmt's text TOLD by the authors' own Lean function (tested against real Go, not proved from fmt's source: count such statements apart). THE CARD IS WHAT COUNTS. Prove the row's statement (the work); the ties are given (YtiaokhgfolbhnaaDoorTie.lean); close each card by the builder's one call (the guide's Derived/Test/ToyasCard.lean, 'card_holds'). Laid BY PROGRAM, IN A SANDBOX (cutbox-door.mjs). By AI agents, Wed Nov 11 2026. No macro, syntax, notation, axiom, sorry.
-/
import Derived.Test.YtiaokhgfolbhnaaDoorRows
import GoSem.ClaimSeven
namespace Go.Proofs.YtiaokhgfolbhnaaDoor
namespace Rows

/-- THE TIED CARD OF 'laws.FnExactFrmTake'. -/
def fnExactFrmTakeCard : Claim7 := { stood := { row := fnExactFrmTakeRow, standIns := [], harness := (true, "dff2ddd84149d6ce70e7e2a6ea0255642617a95026ece83d2e0eb256175b1d2c"), looks := true }, kinds := [], alts := [], laidByText := true, laidKinds := [.handle], laidTests := true, laidLooks := .later }
def FnExactFrmTakeCardSaid : Prop := Claim7.holds Tryd.pinned (.plain (OpenSpec.ofChange fnExactFrmTakeSpec)) fnExactFrmTakeCard

/-- THE TIED CARD OF 'laws.FnFrmBack'. -/
def fnFrmBackCard : Claim7 := { stood := { row := fnFrmBackRow, standIns := [], harness := (true, "dff2ddd84149d6ce70e7e2a6ea0255642617a95026ece83d2e0eb256175b1d2c"), looks := true }, kinds := [], alts := [], laidByText := true, laidKinds := [.handle], laidTests := true, laidLooks := .later }
def FnFrmBackCardSaid : Prop := Claim7.holds Tryd.pinned (.plain (OpenSpec.ofChange fnFrmBackSpec)) fnFrmBackCard

/-- THE TIED CARD OF 'laws.FnFrmOnly'. -/
def fnFrmOnlyCard : Claim7 := { stood := { row := fnFrmOnlyRow, standIns := [], harness := (true, "dff2ddd84149d6ce70e7e2a6ea0255642617a95026ece83d2e0eb256175b1d2c"), looks := true }, kinds := [], alts := [], laidByText := true, laidKinds := [.handle], laidTests := true, laidLooks := .later }
def FnFrmOnlyCardSaid : Prop := Claim7.holds Tryd.pinned (.plain (OpenSpec.ofChange fnFrmOnlySpec)) fnFrmOnlyCard

/-- THE TIED CARD OF 'laws.FnExactLblText'. -/
def fnExactLblTextCard : Claim7 := { stood := { row := fnExactLblTextRow, standIns := [], harness := (true, "dff2ddd84149d6ce70e7e2a6ea0255642617a95026ece83d2e0eb256175b1d2c"), looks := true }, kinds := [], alts := [], laidByText := true, laidKinds := [.data, .data, .data], laidTests := true, laidLooks := .later }
def FnExactLblTextCardSaid : Prop := Claim7.holds Tryd.pinned (.plain (OpenSpec.ofChange fnExactLblTextSpec)) fnExactLblTextCard

/-- THE TIED CARD OF 'laws.FnExactLblRead'. -/
def fnExactLblReadCard : Claim7 := { stood := { row := fnExactLblReadRow, standIns := [], harness := (true, "dff2ddd84149d6ce70e7e2a6ea0255642617a95026ece83d2e0eb256175b1d2c"), looks := true }, kinds := [], alts := [], laidByText := true, laidKinds := [.data, .data, .data], laidTests := true, laidLooks := .later }
def FnExactLblReadCardSaid : Prop := Claim7.holds Tryd.pinned (.plain (OpenSpec.ofChange fnExactLblReadSpec)) fnExactLblReadCard

/-- THE TIED CARD OF 'laws.FnLblText'. -/
def fnLblTextCard : Claim7 := { stood := { row := fnLblTextRow, standIns := [], harness := (true, "dff2ddd84149d6ce70e7e2a6ea0255642617a95026ece83d2e0eb256175b1d2c"), looks := true }, kinds := [], alts := [], laidByText := true, laidKinds := [.data, .data, .data], laidTests := true, laidLooks := .later }
def FnLblTextCardSaid : Prop := Claim7.holds Tryd.pinned (.plain (OpenSpec.ofChange fnLblTextSpec)) fnLblTextCard

/-- THE TIED CARD OF 'laws.FnExactCodLine'. -/
def fnExactCodLineCard : Claim7 := { stood := { row := fnExactCodLineRow, standIns := [], harness := (true, "dff2ddd84149d6ce70e7e2a6ea0255642617a95026ece83d2e0eb256175b1d2c"), looks := true }, kinds := [], alts := [], laidByText := true, laidKinds := [.data, .data, .data], laidTests := true, laidLooks := .later }
def FnExactCodLineCardSaid : Prop := Claim7.holds Tryd.pinned (.plain (OpenSpec.ofChange fnExactCodLineSpec)) fnExactCodLineCard

/-- THE TIED CARD OF 'laws.FnExactCodRead'. -/
def fnExactCodReadCard : Claim7 := { stood := { row := fnExactCodReadRow, standIns := [], harness := (true, "dff2ddd84149d6ce70e7e2a6ea0255642617a95026ece83d2e0eb256175b1d2c"), looks := true }, kinds := [], alts := [], laidByText := true, laidKinds := [.data, .pinned], laidTests := true, laidLooks := .later }
def FnExactCodReadCardSaid : Prop := Claim7.holds Tryd.pinned (.plain (OpenSpec.ofChange fnExactCodReadSpec)) fnExactCodReadCard

/-- THE TIED CARD OF 'laws.FnCodParts'. -/
def fnCodPartsCard : Claim7 := { stood := { row := fnCodPartsRow, standIns := [], harness := (true, "dff2ddd84149d6ce70e7e2a6ea0255642617a95026ece83d2e0eb256175b1d2c"), looks := true }, kinds := [], alts := [], laidByText := true, laidKinds := [.data, .data, .data], laidTests := true, laidLooks := .later }
def FnCodPartsCardSaid : Prop := Claim7.holds Tryd.pinned (.plain (OpenSpec.ofChange fnCodPartsSpec)) fnCodPartsCard

/-- THE TIED CARD OF 'laws.FnCodText'. -/
def fnCodTextCard : Claim7 := { stood := { row := fnCodTextRow, standIns := [], harness := (true, "dff2ddd84149d6ce70e7e2a6ea0255642617a95026ece83d2e0eb256175b1d2c"), looks := true }, kinds := [], alts := [], laidByText := true, laidKinds := [.data, .data, .data, .data, .pinned], laidTests := true, laidLooks := .later }
def FnCodTextCardSaid : Prop := Claim7.holds Tryd.pinned (.plain (OpenSpec.ofChange fnCodTextSpec)) fnCodTextCard

/-- THE SECOND FORM's CARD OF 'laws.FnExactFrmTake'. -/
def fnExactFrmTakeUptoCard : Claim7 := { stood := { row := fnExactFrmTakeUptoRow, standIns := [], harness := (true, "dff2ddd84149d6ce70e7e2a6ea0255642617a95026ece83d2e0eb256175b1d2c"), looks := true }, kinds := [], alts := [], laidByText := true, laidKinds := [.handle], laidTests := true, laidLooks := .later }
def FnExactFrmTakeUptoCardSaid : Prop := Claim7.holds Tryd.pinned (.plain (OpenSpec.upto fnExactFrmTakeSpec)) fnExactFrmTakeUptoCard

/-- THE SECOND FORM's CARD OF 'laws.FnFrmBack'. -/
def fnFrmBackUptoCard : Claim7 := { stood := { row := fnFrmBackUptoRow, standIns := [], harness := (true, "dff2ddd84149d6ce70e7e2a6ea0255642617a95026ece83d2e0eb256175b1d2c"), looks := true }, kinds := [], alts := [], laidByText := true, laidKinds := [.handle], laidTests := true, laidLooks := .later }
def FnFrmBackUptoCardSaid : Prop := Claim7.holds Tryd.pinned (.plain (OpenSpec.upto fnFrmBackSpec)) fnFrmBackUptoCard

/-- THE SECOND FORM's CARD OF 'laws.FnFrmOnly'. -/
def fnFrmOnlyUptoCard : Claim7 := { stood := { row := fnFrmOnlyUptoRow, standIns := [], harness := (true, "dff2ddd84149d6ce70e7e2a6ea0255642617a95026ece83d2e0eb256175b1d2c"), looks := true }, kinds := [], alts := [], laidByText := true, laidKinds := [.handle], laidTests := true, laidLooks := .later }
def FnFrmOnlyUptoCardSaid : Prop := Claim7.holds Tryd.pinned (.plain (OpenSpec.upto fnFrmOnlySpec)) fnFrmOnlyUptoCard

/-- THE SECOND FORM's CARD OF 'laws.FnExactLblText'. -/
def fnExactLblTextUptoCard : Claim7 := { stood := { row := fnExactLblTextUptoRow, standIns := [], harness := (true, "dff2ddd84149d6ce70e7e2a6ea0255642617a95026ece83d2e0eb256175b1d2c"), looks := true }, kinds := [], alts := [], laidByText := true, laidKinds := [.data, .data, .data], laidTests := true, laidLooks := .later }
def FnExactLblTextUptoCardSaid : Prop := Claim7.holds Tryd.pinned (.plain (OpenSpec.upto fnExactLblTextSpec)) fnExactLblTextUptoCard

/-- THE SECOND FORM's CARD OF 'laws.FnExactLblRead'. -/
def fnExactLblReadUptoCard : Claim7 := { stood := { row := fnExactLblReadUptoRow, standIns := [], harness := (true, "dff2ddd84149d6ce70e7e2a6ea0255642617a95026ece83d2e0eb256175b1d2c"), looks := true }, kinds := [], alts := [], laidByText := true, laidKinds := [.data, .data, .data], laidTests := true, laidLooks := .later }
def FnExactLblReadUptoCardSaid : Prop := Claim7.holds Tryd.pinned (.plain (OpenSpec.upto fnExactLblReadSpec)) fnExactLblReadUptoCard

/-- THE SECOND FORM's CARD OF 'laws.FnLblText'. -/
def fnLblTextUptoCard : Claim7 := { stood := { row := fnLblTextUptoRow, standIns := [], harness := (true, "dff2ddd84149d6ce70e7e2a6ea0255642617a95026ece83d2e0eb256175b1d2c"), looks := true }, kinds := [], alts := [], laidByText := true, laidKinds := [.data, .data, .data], laidTests := true, laidLooks := .later }
def FnLblTextUptoCardSaid : Prop := Claim7.holds Tryd.pinned (.plain (OpenSpec.upto fnLblTextSpec)) fnLblTextUptoCard

/-- THE SECOND FORM's CARD OF 'laws.FnExactCodLine'. -/
def fnExactCodLineUptoCard : Claim7 := { stood := { row := fnExactCodLineUptoRow, standIns := [], harness := (true, "dff2ddd84149d6ce70e7e2a6ea0255642617a95026ece83d2e0eb256175b1d2c"), looks := true }, kinds := [], alts := [], laidByText := true, laidKinds := [.data, .data, .data], laidTests := true, laidLooks := .later }
def FnExactCodLineUptoCardSaid : Prop := Claim7.holds Tryd.pinned (.plain (OpenSpec.upto fnExactCodLineSpec)) fnExactCodLineUptoCard

/-- THE SECOND FORM's CARD OF 'laws.FnExactCodRead'. -/
def fnExactCodReadUptoCard : Claim7 := { stood := { row := fnExactCodReadUptoRow, standIns := [], harness := (true, "dff2ddd84149d6ce70e7e2a6ea0255642617a95026ece83d2e0eb256175b1d2c"), looks := true }, kinds := [], alts := [], laidByText := true, laidKinds := [.data, .pinned], laidTests := true, laidLooks := .later }
def FnExactCodReadUptoCardSaid : Prop := Claim7.holds Tryd.pinned (.plain (OpenSpec.upto fnExactCodReadSpec)) fnExactCodReadUptoCard

/-- THE SECOND FORM's CARD OF 'laws.FnCodParts'. -/
def fnCodPartsUptoCard : Claim7 := { stood := { row := fnCodPartsUptoRow, standIns := [], harness := (true, "dff2ddd84149d6ce70e7e2a6ea0255642617a95026ece83d2e0eb256175b1d2c"), looks := true }, kinds := [], alts := [], laidByText := true, laidKinds := [.data, .data, .data], laidTests := true, laidLooks := .later }
def FnCodPartsUptoCardSaid : Prop := Claim7.holds Tryd.pinned (.plain (OpenSpec.upto fnCodPartsSpec)) fnCodPartsUptoCard

/-- THE SECOND FORM's CARD OF 'laws.FnCodText'. -/
def fnCodTextUptoCard : Claim7 := { stood := { row := fnCodTextUptoRow, standIns := [], harness := (true, "dff2ddd84149d6ce70e7e2a6ea0255642617a95026ece83d2e0eb256175b1d2c"), looks := true }, kinds := [], alts := [], laidByText := true, laidKinds := [.data, .data, .data, .data, .pinned], laidTests := true, laidLooks := .later }
def FnCodTextUptoCardSaid : Prop := Claim7.holds Tryd.pinned (.plain (OpenSpec.upto fnCodTextSpec)) fnCodTextUptoCard
end Rows
end Go.Proofs.YtiaokhgfolbhnaaDoor
