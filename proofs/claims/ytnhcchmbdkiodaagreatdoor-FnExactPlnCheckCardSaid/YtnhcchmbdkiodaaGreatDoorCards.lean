/-
  DERIVED. GIVEN WITH THE SEED: THE CARDS: each row of YtnhcchmbdkiodaaGreatDoorRows.lean that lists a variable, with what it lists TIED to the program's text (the seventh form; the later family's looks); each row that meets fmt, with fmt's text TOLD by the authors' own Lean function (tested against real Go, not proved from fmt's source: count such statements apart). THE CARD IS WHAT COUNTS. Prove the row's statement (the work); the ties are given (YtnhcchmbdkiodaaGreatDoorTie.lean); close each card by the builder's one call (the guide's Derived/Test/ToyasCard.lean, 'card_holds'). Laid BY PROGRAM, IN A SANDBOX (cutbox-door.mjs). By AI agents, Wed Nov 11 2026. No macro, syntax, notation, axiom, sorry.
-/
import Derived.Test.YtnhcchmbdkiodaaGreatDoorRows
import GoSem.ClaimSeven
namespace Go.Proofs.YtnhcchmbdkiodaaGreatDoor
namespace Rows

/-- THE TIED CARD OF 'laws.FnPlnTurns'. -/
def fnPlnTurnsCard : Claim7 := { stood := { row := fnPlnTurnsRow, standIns := [], harness := (true, "9fcabbf213877c771369734d2161b69f472e14fbb4fd100678ba1320f4545300"), looks := true }, kinds := [], alts := [], laidByText := true, laidKinds := [.handle], laidTests := true, laidLooks := .later }
def FnPlnTurnsCardSaid : Prop := Claim7.holds Tryz.pinned (.plain (OpenSpec.ofChange fnPlnTurnsSpec)) fnPlnTurnsCard

/-- THE TIED CARD OF 'laws.FnPlnSafe'. -/
def fnPlnSafeCard : Claim7 := { stood := { row := fnPlnSafeRow, standIns := [], harness := (true, "9fcabbf213877c771369734d2161b69f472e14fbb4fd100678ba1320f4545300"), looks := true }, kinds := [], alts := [], laidByText := true, laidKinds := [.handle], laidTests := true, laidLooks := .later }
def FnPlnSafeCardSaid : Prop := Claim7.holds Tryz.pinned (.plain (OpenSpec.ofChange fnPlnSafeSpec)) fnPlnSafeCard

/-- THE TIED CARD OF 'laws.FnExactPlnCheck'. -/
def fnExactPlnCheckCard : Claim7 := { stood := { row := fnExactPlnCheckRow, standIns := [], harness := (true, "9fcabbf213877c771369734d2161b69f472e14fbb4fd100678ba1320f4545300"), looks := true }, kinds := [], alts := [], laidByText := true, laidKinds := [.handle], laidTests := true, laidLooks := .later }
def FnExactPlnCheckCardSaid : Prop := Claim7.holds Tryz.pinned (.plain (OpenSpec.ofChange fnExactPlnCheckSpec)) fnExactPlnCheckCard

/-- THE SECOND FORM's CARD OF 'laws.FnPlnTurns'. -/
def fnPlnTurnsUptoCard : Claim7 := { stood := { row := fnPlnTurnsUptoRow, standIns := [], harness := (true, "9fcabbf213877c771369734d2161b69f472e14fbb4fd100678ba1320f4545300"), looks := true }, kinds := [], alts := [], laidByText := true, laidKinds := [.handle], laidTests := true, laidLooks := .later }
def FnPlnTurnsUptoCardSaid : Prop := Claim7.holds Tryz.pinned (.plain (OpenSpec.upto fnPlnTurnsSpec)) fnPlnTurnsUptoCard

/-- THE SECOND FORM's CARD OF 'laws.FnPlnSafe'. -/
def fnPlnSafeUptoCard : Claim7 := { stood := { row := fnPlnSafeUptoRow, standIns := [], harness := (true, "9fcabbf213877c771369734d2161b69f472e14fbb4fd100678ba1320f4545300"), looks := true }, kinds := [], alts := [], laidByText := true, laidKinds := [.handle], laidTests := true, laidLooks := .later }
def FnPlnSafeUptoCardSaid : Prop := Claim7.holds Tryz.pinned (.plain (OpenSpec.upto fnPlnSafeSpec)) fnPlnSafeUptoCard

/-- THE SECOND FORM's CARD OF 'laws.FnExactPlnCheck'. -/
def fnExactPlnCheckUptoCard : Claim7 := { stood := { row := fnExactPlnCheckUptoRow, standIns := [], harness := (true, "9fcabbf213877c771369734d2161b69f472e14fbb4fd100678ba1320f4545300"), looks := true }, kinds := [], alts := [], laidByText := true, laidKinds := [.handle], laidTests := true, laidLooks := .later }
def FnExactPlnCheckUptoCardSaid : Prop := Claim7.holds Tryz.pinned (.plain (OpenSpec.upto fnExactPlnCheckSpec)) fnExactPlnCheckUptoCard
end Rows
end Go.Proofs.YtnhcchmbdkiodaaGreatDoor
