/-
 Closed facts of the row SnapR1.
-/
import Derived.Test.YtglmbboafmmnpaaGreatDoorRows
import Derived.Test.YtglmbboafmmnpaaGreatDoorCards
import Derived.Test.YtglmbboafmmnpaaGreatDoorTie
import Derived.Test.YtglmbboafmmnpaaGreatDoorPart2
import Derived.Test.YtglmbboafmmnpaaGreatDoorPart9
import Derived.SevenTiedAt
set_option maxRecDepth 100000
set_option maxHeartbeats 2000000
set_option linter.unusedSimpArgs false
set_option linter.unusedVariables false
namespace Go.Proofs.YtglmbboafmmnpaaGreatDoor
open Go Go.Aw Go.RowKit Go.ChangeShapes Go.WideShapes
theorem zmD:(Rows.snapDoesRow.wf (OpenSpec.ofChange Rows.snapDoesSpec))=true:=by kernel_rfl
theorem zmE:(laidOutB Tryz.pinned.checked.prog)=true:=by kernel_rfl
theorem zmF:(mapsRowed Tryz.pinned.checked.prog)=true:=by kernel_rfl
theorem zmG:(Tryz.f6.params.all (Tryz.pinned.checked.prog.readableRec ·))=true:=by kernel_rfl
theorem zmH:(namedTie Tryz.pinned.checked.prog Rows.snapDoesRow.named Rows.snapDoesSpec.vars)=true:=by kernel_rfl
theorem zmI:((Rows.snapDoesRow.inPlace==Tryz.pinned.checked.prog.inPlace 6))=true:=by kernel_rfl
theorem zmJ:((Rows.snapDoesRow.unfollowed==Tryz.pinned.checked.prog.unfollowed 6))=true:=by kernel_rfl
theorem zmK:((Rows.snapDoesRow.recurses==Tryz.pinned.checked.prog.recurses 6))=true:=by kernel_rfl
theorem zmL:((Rows.snapDoesRow.named==Tryz.pinned.checked.prog.varsNamed 6))=true:=by kernel_rfl
theorem zmM:(Tryz.pinned.checked.prog.stopsHeard)=true:=by kernel_rfl
theorem zk8:(Tryz.pinned.checked.prog.mayEnter)=true:=by kernel_rfl
theorem zla:((Rows.snapDoesRow.lifted==Tryz.pinned.checked.prog.liftsFinal))=true:=by kernel_rfl
theorem zlb:((Tryz.pinned.checked.prog.make==some Rows.snapDoesRow.make))=true:=by kernel_rfl
theorem zlc:((Rows.snapDoesRow.plainKeys==Tryz.pinned.checked.prog.plainKeys))=true:=by kernel_rfl
end Go.Proofs.YtglmbboafmmnpaaGreatDoor
