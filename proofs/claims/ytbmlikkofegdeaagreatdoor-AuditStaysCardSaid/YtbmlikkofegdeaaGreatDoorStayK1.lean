/-
 Closed facts of the row StayR1.
-/
import Derived.Test.YtbmlikkofegdeaaGreatDoorRows
import Derived.Test.YtbmlikkofegdeaaGreatDoorCards
import Derived.Test.YtbmlikkofegdeaaGreatDoorTie
import Derived.Test.YtbmlikkofegdeaaGreatDoorPiece8
import Derived.Test.YtbmlikkofegdeaaGreatDoorPiece42
import Derived.SevenTiedAt
set_option maxRecDepth 100000
set_option maxHeartbeats 2000000
set_option linter.unusedSimpArgs false
set_option linter.unusedVariables false
namespace Go.Proofs.YtbmlikkofegdeaaGreatDoor
open Go Go.Aw Go.RowKit Go.ChangeShapes Go.WideShapes
theorem zlL:(Rows.auditStaysRow.wf (OpenSpec.ofChange Rows.auditStaysSpec))=true:=by kernel_rfl
theorem zlM:(laidOutB Tryz.pinned.checked.prog)=true:=by kernel_rfl
theorem zlN:(mapsRowed Tryz.pinned.checked.prog)=true:=by kernel_rfl
theorem zlO:(Tryz.f5.params.all (Tryz.pinned.checked.prog.readableRec ·))=true:=by kernel_rfl
theorem zlP:(namedTie Tryz.pinned.checked.prog Rows.auditStaysRow.named Rows.auditStaysSpec.vars)=true:=by kernel_rfl
theorem zlQ:((Rows.auditStaysRow.inPlace==Tryz.pinned.checked.prog.inPlace 5))=true:=by kernel_rfl
theorem zlR:((Rows.auditStaysRow.unfollowed==Tryz.pinned.checked.prog.unfollowed 5))=true:=by kernel_rfl
theorem zlS:((Rows.auditStaysRow.recurses==Tryz.pinned.checked.prog.recurses 5))=true:=by kernel_rfl
theorem zlT:((Rows.auditStaysRow.named==Tryz.pinned.checked.prog.varsNamed 5))=true:=by kernel_rfl
theorem zlU:(Tryz.pinned.checked.prog.stopsHeard)=true:=by kernel_rfl
theorem zjT:(Tryz.pinned.checked.prog.mayEnter)=true:=by kernel_rfl
theorem zjU:((Rows.auditStaysRow.lifted==Tryz.pinned.checked.prog.liftsFinal))=true:=by kernel_rfl
theorem zjV:((Tryz.pinned.checked.prog.make==some Rows.auditStaysRow.make))=true:=by kernel_rfl
theorem zjW:((Rows.auditStaysRow.plainKeys==Tryz.pinned.checked.prog.plainKeys))=true:=by kernel_rfl
end Go.Proofs.YtbmlikkofegdeaaGreatDoor
