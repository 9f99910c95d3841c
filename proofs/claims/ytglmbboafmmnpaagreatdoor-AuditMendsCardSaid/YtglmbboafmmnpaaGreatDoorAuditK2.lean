/-
 Closed facts of the row AuditR2.
-/
import Derived.Test.YtglmbboafmmnpaaGreatDoorRows
import Derived.Test.YtglmbboafmmnpaaGreatDoorCards
import Derived.Test.YtglmbboafmmnpaaGreatDoorTie
import Derived.Test.YtglmbboafmmnpaaGreatDoorPart2
import Derived.Test.YtglmbboafmmnpaaGreatDoorPart8
import Derived.SevenTiedAt
set_option maxRecDepth 100000
set_option maxHeartbeats 2000000
set_option linter.unusedSimpArgs false
set_option linter.unusedVariables false
namespace Go.Proofs.YtglmbboafmmnpaaGreatDoor
open Go Go.Aw Go.RowKit Go.ChangeShapes Go.WideShapes
theorem zjx:(Rows.auditMendsRow.wf (OpenSpec.ofChange Rows.auditMendsSpec))=true:=by kernel_rfl
theorem zjy:(laidOutB Tryz.pinned.checked.prog)=true:=by kernel_rfl
theorem zjz:(mapsRowed Tryz.pinned.checked.prog)=true:=by kernel_rfl
theorem zjA:(Tryz.f4.params.all (Tryz.pinned.checked.prog.readableRec ·))=true:=by kernel_rfl
theorem zjB:(namedTie Tryz.pinned.checked.prog Rows.auditMendsRow.named Rows.auditMendsSpec.vars)=true:=by kernel_rfl
theorem zjC:((Rows.auditMendsRow.inPlace==Tryz.pinned.checked.prog.inPlace 4))=true:=by kernel_rfl
theorem zjD:((Rows.auditMendsRow.unfollowed==Tryz.pinned.checked.prog.unfollowed 4))=true:=by kernel_rfl
theorem zjE:((Rows.auditMendsRow.recurses==Tryz.pinned.checked.prog.recurses 4))=true:=by kernel_rfl
theorem zjF:((Rows.auditMendsRow.named==Tryz.pinned.checked.prog.varsNamed 4))=true:=by kernel_rfl
theorem zjG:(Tryz.pinned.checked.prog.stopsHeard)=true:=by kernel_rfl
theorem zhO:(Tryz.pinned.checked.prog.mayEnter)=true:=by kernel_rfl
theorem zhP:((Rows.auditMendsRow.lifted==Tryz.pinned.checked.prog.liftsFinal))=true:=by kernel_rfl
theorem zhQ:((Tryz.pinned.checked.prog.make==some Rows.auditMendsRow.make))=true:=by kernel_rfl
theorem zhR:((Rows.auditMendsRow.plainKeys==Tryz.pinned.checked.prog.plainKeys))=true:=by kernel_rfl
end Go.Proofs.YtglmbboafmmnpaaGreatDoor
