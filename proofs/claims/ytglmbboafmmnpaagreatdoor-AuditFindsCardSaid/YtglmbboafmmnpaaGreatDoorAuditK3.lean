/-
 Closed facts of the row AuditR3.
-/
import Derived.Test.YtglmbboafmmnpaaGreatDoorRows
import Derived.Test.YtglmbboafmmnpaaGreatDoorCards
import Derived.Test.YtglmbboafmmnpaaGreatDoorTie
import Derived.Test.YtglmbboafmmnpaaGreatDoorPart2
import Derived.Test.YtglmbboafmmnpaaGreatDoorPart8
import Derived.SevenTiedAt
set_option maxRecDepth 100000
set_option maxHeartbeats 2000000
set_option linter.unusedSimpArgs false
set_option linter.unusedVariables false
namespace Go.Proofs.YtglmbboafmmnpaaGreatDoor
open Go Go.Aw Go.RowKit Go.ChangeShapes Go.WideShapes
theorem zjH:(Rows.auditFindsRow.wf (OpenSpec.ofChange Rows.auditFindsSpec))=true:=by kernel_rfl
theorem zjI:(laidOutB Tryz.pinned.checked.prog)=true:=by kernel_rfl
theorem zjJ:(mapsRowed Tryz.pinned.checked.prog)=true:=by kernel_rfl
theorem zjK:(Tryz.f5.params.all (Tryz.pinned.checked.prog.readableRec ·))=true:=by kernel_rfl
theorem zjL:(namedTie Tryz.pinned.checked.prog Rows.auditFindsRow.named Rows.auditFindsSpec.vars)=true:=by kernel_rfl
theorem zjM:((Rows.auditFindsRow.inPlace==Tryz.pinned.checked.prog.inPlace 5))=true:=by kernel_rfl
theorem zjN:((Rows.auditFindsRow.unfollowed==Tryz.pinned.checked.prog.unfollowed 5))=true:=by kernel_rfl
theorem zjO:((Rows.auditFindsRow.recurses==Tryz.pinned.checked.prog.recurses 5))=true:=by kernel_rfl
theorem zjP:((Rows.auditFindsRow.named==Tryz.pinned.checked.prog.varsNamed 5))=true:=by kernel_rfl
theorem zjQ:(Tryz.pinned.checked.prog.stopsHeard)=true:=by kernel_rfl
theorem zhU:(Tryz.pinned.checked.prog.mayEnter)=true:=by kernel_rfl
theorem zhV:((Rows.auditFindsRow.lifted==Tryz.pinned.checked.prog.liftsFinal))=true:=by kernel_rfl
theorem zhW:((Tryz.pinned.checked.prog.make==some Rows.auditFindsRow.make))=true:=by kernel_rfl
theorem zhX:((Rows.auditFindsRow.plainKeys==Tryz.pinned.checked.prog.plainKeys))=true:=by kernel_rfl
end Go.Proofs.YtglmbboafmmnpaaGreatDoor
