/-
  DERIVED. GIVEN WITH THE SEED: THE CARDS: each row of YtbmekbhfcngfnaaDoorRows.lean that lists a variable, with what it lists TIED to the program's text (the seventh form; the later family's looks); each row that meets fmt, with fmt's text TOLD by the authors' own Lean function (tested against real Go, not proved from fmt's source: count such statements apart). THE CARD IS WHAT COUNTS. Prove the row's statement (the work); the ties are given (YtbmekbhfcngfnaaDoorTie.lean); close each card by the builder's one call (the guide's Derived/Test/ToyasCard.lean, 'card_holds'). Laid BY PROGRAM, IN A SANDBOX (cutbox-door.mjs). By AI agents, Wed Nov 11 2026. No macro, syntax, notation, axiom, sorry.
-/
import Derived.Test.YtbmekbhfcngfnaaDoorRows
import GoSem.ClaimSeven
namespace Go.Proofs.YtbmekbhfcngfnaaDoor
namespace Rows

/-- THE TIED CARD OF 'laws.FnExactTicketOfNumber'. -/
def fnExactTicketOfNumberCard : Claim7 := { stood := { row := fnExactTicketOfNumberRow, standIns := [], harness := (true, "99929c07b5f9b92cac6e6c573a3b5e2a5fd07c66b7800e2ee64b49e1b3e14c03"), looks := false }, kinds := [], alts := [], laidByText := true, laidKinds := [.data, .data, .data], laidTests := true, laidLooks := .later }
def FnExactTicketOfNumberCardSaid : Prop := Claim7.holds Tryd.pinned (.plain (OpenSpec.ofChange fnExactTicketOfNumberSpec)) fnExactTicketOfNumberCard

/-- THE TIED CARD OF 'laws.FnExactFirstTicketFor'. -/
def fnExactFirstTicketForCard : Claim7 := { stood := { row := fnExactFirstTicketForRow, standIns := [], harness := (true, "99929c07b5f9b92cac6e6c573a3b5e2a5fd07c66b7800e2ee64b49e1b3e14c03"), looks := false }, kinds := [], alts := [], laidByText := true, laidKinds := [.data, .data, .data], laidTests := true, laidLooks := .later }
def FnExactFirstTicketForCardSaid : Prop := Claim7.holds Tryd.pinned (.plain (OpenSpec.ofChange fnExactFirstTicketForSpec)) fnExactFirstTicketForCard

/-- THE SECOND FORM's CARD OF 'laws.FnExactTicketOfNumber'. -/
def fnExactTicketOfNumberUptoCard : Claim7 := { stood := { row := fnExactTicketOfNumberUptoRow, standIns := [], harness := (true, "99929c07b5f9b92cac6e6c573a3b5e2a5fd07c66b7800e2ee64b49e1b3e14c03"), looks := false }, kinds := [], alts := [], laidByText := true, laidKinds := [.data, .data, .data], laidTests := true, laidLooks := .later }
def FnExactTicketOfNumberUptoCardSaid : Prop := Claim7.holds Tryd.pinned (.plain (OpenSpec.upto fnExactTicketOfNumberSpec)) fnExactTicketOfNumberUptoCard

/-- THE SECOND FORM's CARD OF 'laws.FnExactFirstTicketFor'. -/
def fnExactFirstTicketForUptoCard : Claim7 := { stood := { row := fnExactFirstTicketForUptoRow, standIns := [], harness := (true, "99929c07b5f9b92cac6e6c573a3b5e2a5fd07c66b7800e2ee64b49e1b3e14c03"), looks := false }, kinds := [], alts := [], laidByText := true, laidKinds := [.data, .data, .data], laidTests := true, laidLooks := .later }
def FnExactFirstTicketForUptoCardSaid : Prop := Claim7.holds Tryd.pinned (.plain (OpenSpec.upto fnExactFirstTicketForSpec)) fnExactFirstTicketForUptoCard
end Rows
end Go.Proofs.YtbmekbhfcngfnaaDoor
