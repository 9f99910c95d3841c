/-
  DERIVED. GIVEN WITH THE SEED: THE CARDS: each row of YtbmlikkofegdeaaGreatDoorRows.lean that lists a variable, with what it lists TIED to the program's text (the seventh form; the later family's looks); each row that meets fmt, with fmt's text TOLD by the authors' own Lean function (tested against real Go, not proved from fmt's source: count such statements apart). THE CARD IS WHAT COUNTS. Prove the row's statement (the work); the ties are given (YtbmlikkofegdeaaGreatDoorTie.lean); close each card by the builder's one call (the guide's Derived/Test/ToyasCard.lean, 'card_holds'). Laid BY PROGRAM, IN A SANDBOX (cutbox-door.mjs). By AI agents, Wed Nov 11 2026. No macro, syntax, notation, axiom, sorry.
-/
import Derived.Test.YtbmlikkofegdeaaGreatDoorRows
import GoSem.ClaimSeven
namespace Go.Proofs.YtbmlikkofegdeaaGreatDoor
namespace Rows

/-- THE TIED CARD OF 'cofferdamlaw16.SnapDoes'. -/
def snapDoesCard : Claim7 := { stood := { row := snapDoesRow, standIns := [], harness := (true, "bedee79f8beaf268783a5c95a1c89663feefa5a28a48380fd7052f63138d1b65"), looks := false }, kinds := [], alts := [], laidByText := true, laidKinds := [.data, .pinned], laidTests := true, laidLooks := .later }
def SnapDoesCardSaid : Prop := Claim7.holds Tryz.pinned (.plain (OpenSpec.ofChange snapDoesSpec)) snapDoesCard

/-- THE TIED CARD OF 'cofferdamlaw16.SnapList'. -/
def snapListCard : Claim7 := { stood := { row := snapListRow, standIns := [], harness := (true, "bedee79f8beaf268783a5c95a1c89663feefa5a28a48380fd7052f63138d1b65"), looks := false }, kinds := [], alts := [], laidByText := true, laidKinds := [.data, .pinned], laidTests := true, laidLooks := .later }
def SnapListCardSaid : Prop := Claim7.holds Tryz.pinned (.plain (OpenSpec.ofChange snapListSpec)) snapListCard

/-- THE TIED CARD OF 'cofferdamlaw18.AuditStays'. -/
def auditStaysCard : Claim7 := { stood := { row := auditStaysRow, standIns := [], harness := (true, "bedee79f8beaf268783a5c95a1c89663feefa5a28a48380fd7052f63138d1b65"), looks := false }, kinds := [], alts := [], laidByText := true, laidKinds := [.data, .pinned], laidTests := true, laidLooks := .later }
def AuditStaysCardSaid : Prop := Claim7.holds Tryz.pinned (.plain (OpenSpec.ofChange auditStaysSpec)) auditStaysCard

/-- THE SECOND FORM's CARD OF 'cofferdamlaw16.SnapDoes'. -/
def snapDoesUptoCard : Claim7 := { stood := { row := snapDoesUptoRow, standIns := [], harness := (true, "bedee79f8beaf268783a5c95a1c89663feefa5a28a48380fd7052f63138d1b65"), looks := false }, kinds := [], alts := [], laidByText := true, laidKinds := [.data, .pinned], laidTests := true, laidLooks := .later }
def SnapDoesUptoCardSaid : Prop := Claim7.holds Tryz.pinned (.plain (OpenSpec.upto snapDoesSpec)) snapDoesUptoCard

/-- THE SECOND FORM's CARD OF 'cofferdamlaw16.SnapList'. -/
def snapListUptoCard : Claim7 := { stood := { row := snapListUptoRow, standIns := [], harness := (true, "bedee79f8beaf268783a5c95a1c89663feefa5a28a48380fd7052f63138d1b65"), looks := false }, kinds := [], alts := [], laidByText := true, laidKinds := [.data, .pinned], laidTests := true, laidLooks := .later }
def SnapListUptoCardSaid : Prop := Claim7.holds Tryz.pinned (.plain (OpenSpec.upto snapListSpec)) snapListUptoCard

/-- THE SECOND FORM's CARD OF 'cofferdamlaw18.AuditStays'. -/
def auditStaysUptoCard : Claim7 := { stood := { row := auditStaysUptoRow, standIns := [], harness := (true, "bedee79f8beaf268783a5c95a1c89663feefa5a28a48380fd7052f63138d1b65"), looks := false }, kinds := [], alts := [], laidByText := true, laidKinds := [.data, .pinned], laidTests := true, laidLooks := .later }
def AuditStaysUptoCardSaid : Prop := Claim7.holds Tryz.pinned (.plain (OpenSpec.upto auditStaysSpec)) auditStaysUptoCard
end Rows
end Go.Proofs.YtbmlikkofegdeaaGreatDoor
