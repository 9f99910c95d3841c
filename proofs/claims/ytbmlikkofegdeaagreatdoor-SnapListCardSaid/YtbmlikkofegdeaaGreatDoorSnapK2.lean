/-
 Closed facts of the row SnapR2.
-/
import Derived.Test.YtbmlikkofegdeaaGreatDoorRows
import Derived.Test.YtbmlikkofegdeaaGreatDoorCards
import Derived.Test.YtbmlikkofegdeaaGreatDoorTie
import Derived.Test.YtbmlikkofegdeaaGreatDoorPart8
import Derived.Test.YtbmlikkofegdeaaGreatDoorPart37
import Derived.SevenTiedAt
set_option maxRecDepth 100000
set_option maxHeartbeats 2000000
set_option linter.unusedSimpArgs false
set_option linter.unusedVariables false
namespace Go.Proofs.YtbmlikkofegdeaaGreatDoor
open Go Go.Aw Go.RowKit Go.ChangeShapes Go.WideShapes
theorem znp:(Rows.snapListRow.wf (OpenSpec.ofChange Rows.snapListSpec))=true:=by kernel_rfl
theorem znq:(laidOutB Tryz.pinned.checked.prog)=true:=by kernel_rfl
theorem znr:(mapsRowed Tryz.pinned.checked.prog)=true:=by kernel_rfl
theorem zns:(Tryz.f4.params.all (Tryz.pinned.checked.prog.readableRec ·))=true:=by kernel_rfl
theorem znt:(namedTie Tryz.pinned.checked.prog Rows.snapListRow.named Rows.snapListSpec.vars)=true:=by kernel_rfl
theorem znu:((Rows.snapListRow.inPlace==Tryz.pinned.checked.prog.inPlace 4))=true:=by kernel_rfl
theorem znv:((Rows.snapListRow.unfollowed==Tryz.pinned.checked.prog.unfollowed 4))=true:=by kernel_rfl
theorem znw:((Rows.snapListRow.recurses==Tryz.pinned.checked.prog.recurses 4))=true:=by kernel_rfl
theorem znx:((Rows.snapListRow.named==Tryz.pinned.checked.prog.varsNamed 4))=true:=by kernel_rfl
theorem zny:(Tryz.pinned.checked.prog.stopsHeard)=true:=by kernel_rfl
theorem zlJ:(Tryz.pinned.checked.prog.mayEnter)=true:=by kernel_rfl
theorem zlK:((Rows.snapListRow.lifted==Tryz.pinned.checked.prog.liftsFinal))=true:=by kernel_rfl
theorem zlL:((Tryz.pinned.checked.prog.make==some Rows.snapListRow.make))=true:=by kernel_rfl
theorem zlM:((Rows.snapListRow.plainKeys==Tryz.pinned.checked.prog.plainKeys))=true:=by kernel_rfl
end Go.Proofs.YtbmlikkofegdeaaGreatDoor
