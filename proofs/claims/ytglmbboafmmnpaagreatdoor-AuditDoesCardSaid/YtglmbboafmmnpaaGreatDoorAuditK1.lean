/-
  Closed facts on the program and on the law AuditDoes's row (short names; see the row's text).
-/
import Derived.Test.YtglmbboafmmnpaaGreatDoorRows
import Derived.Test.YtglmbboafmmnpaaGreatDoorCards
import Derived.Test.YtglmbboafmmnpaaGreatDoorTie
import Derived.Test.YtglmbboafmmnpaaGreatDoorPart2
import Derived.Test.YtglmbboafmmnpaaGreatDoorPart8
import Derived.SevenTiedAt
set_option maxRecDepth 100000
set_option maxHeartbeats 2000000
set_option linter.unusedSimpArgs false
set_option linter.unusedVariables false
namespace Go.Proofs.YtglmbboafmmnpaaGreatDoor
open Go Go.Aw Go.RowKit Go.ChangeShapes Go.WideShapes
theorem zky:(Rows.auditDoesRow.wf (OpenSpec.ofChange Rows.auditDoesSpec))=true:=by kernel_rfl
theorem zkz:(laidOutB Tryz.pinned.checked.prog)=true:=by kernel_rfl
theorem zkA:(mapsRowed Tryz.pinned.checked.prog)=true:=by kernel_rfl
theorem zkB:(Tryz.f3.params.all (Tryz.pinned.checked.prog.readableRec ·))=true:=by kernel_rfl
theorem zkC:(namedTie Tryz.pinned.checked.prog Rows.auditDoesRow.named Rows.auditDoesSpec.vars)=true:=by kernel_rfl
theorem zkD:((Rows.auditDoesRow.inPlace==Tryz.pinned.checked.prog.inPlace 3))=true:=by kernel_rfl
theorem zkE:((Rows.auditDoesRow.unfollowed==Tryz.pinned.checked.prog.unfollowed 3))=true:=by kernel_rfl
theorem zkF:((Rows.auditDoesRow.recurses==Tryz.pinned.checked.prog.recurses 3))=true:=by kernel_rfl
theorem zkG:((Rows.auditDoesRow.named==Tryz.pinned.checked.prog.varsNamed 3))=true:=by kernel_rfl
theorem zkH:(Tryz.pinned.checked.prog.stopsHeard)=true:=by kernel_rfl
theorem zi7:(Tryz.pinned.checked.prog.mayEnter)=true:=by kernel_rfl
theorem zi8:((Rows.auditDoesRow.lifted==Tryz.pinned.checked.prog.liftsFinal))=true:=by kernel_rfl
theorem zi9:((Tryz.pinned.checked.prog.make==some Rows.auditDoesRow.make))=true:=by kernel_rfl
theorem zja:((Rows.auditDoesRow.plainKeys==Tryz.pinned.checked.prog.plainKeys))=true:=by kernel_rfl
end Go.Proofs.YtglmbboafmmnpaaGreatDoor
