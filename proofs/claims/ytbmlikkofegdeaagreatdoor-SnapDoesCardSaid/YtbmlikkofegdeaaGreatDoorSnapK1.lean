/-
 Closed facts of the row SnapR1.
-/
import Derived.Test.YtbmlikkofegdeaaGreatDoorRows
import Derived.Test.YtbmlikkofegdeaaGreatDoorCards
import Derived.Test.YtbmlikkofegdeaaGreatDoorTie
import Derived.Test.YtbmlikkofegdeaaGreatDoorPart8
import Derived.Test.YtbmlikkofegdeaaGreatDoorPart36
import Derived.SevenTiedAt
set_option maxRecDepth 100000
set_option maxHeartbeats 2000000
set_option linter.unusedSimpArgs false
set_option linter.unusedVariables false
namespace Go.Proofs.YtbmlikkofegdeaaGreatDoor
open Go Go.Aw Go.RowKit Go.ChangeShapes Go.WideShapes
theorem zne:(Rows.snapDoesRow.wf (OpenSpec.ofChange Rows.snapDoesSpec))=true:=by kernel_rfl
theorem znf:(laidOutB Tryz.pinned.checked.prog)=true:=by kernel_rfl
theorem zng:(mapsRowed Tryz.pinned.checked.prog)=true:=by kernel_rfl
theorem znh:(Tryz.f3.params.all (Tryz.pinned.checked.prog.readableRec ·))=true:=by kernel_rfl
theorem zni:(namedTie Tryz.pinned.checked.prog Rows.snapDoesRow.named Rows.snapDoesSpec.vars)=true:=by kernel_rfl
theorem znj:((Rows.snapDoesRow.inPlace==Tryz.pinned.checked.prog.inPlace 3))=true:=by kernel_rfl
theorem znk:((Rows.snapDoesRow.unfollowed==Tryz.pinned.checked.prog.unfollowed 3))=true:=by kernel_rfl
theorem znl:((Rows.snapDoesRow.recurses==Tryz.pinned.checked.prog.recurses 3))=true:=by kernel_rfl
theorem znm:((Rows.snapDoesRow.named==Tryz.pinned.checked.prog.varsNamed 3))=true:=by kernel_rfl
theorem znn:(Tryz.pinned.checked.prog.stopsHeard)=true:=by kernel_rfl
theorem zly:(Tryz.pinned.checked.prog.mayEnter)=true:=by kernel_rfl
theorem zlz:((Rows.snapDoesRow.lifted==Tryz.pinned.checked.prog.liftsFinal))=true:=by kernel_rfl
theorem zlA:((Tryz.pinned.checked.prog.make==some Rows.snapDoesRow.make))=true:=by kernel_rfl
theorem zlB:((Rows.snapDoesRow.plainKeys==Tryz.pinned.checked.prog.plainKeys))=true:=by kernel_rfl
end Go.Proofs.YtbmlikkofegdeaaGreatDoor
