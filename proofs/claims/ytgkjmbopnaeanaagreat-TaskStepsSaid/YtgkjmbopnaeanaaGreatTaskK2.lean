/-
 Closed facts of the row of TaskSteps.
-/
import Derived.Test.YtgkjmbopnaeanaaGreatRows
import Derived.Test.YtgkjmbopnaeanaaGreatPart4
set_option maxRecDepth 100000
set_option maxHeartbeats 2000000
set_option linter.unusedSimpArgs false
set_option linter.unusedVariables false
namespace Go.Proofs.YtgkjmbopnaeanaaGreat
open Go Go.RowKit Go.ChangeShapes Go.WideShapes
theorem zmv:(Rows.taskStepsRow.wf (OpenSpec.ofChange Rows.taskStepsSpec))=true:=by kernel_rfl
theorem zmw:(laidOutB Tryz.checked.prog)=true:=by kernel_rfl
theorem zmx:(mapsRowed Tryz.checked.prog)=true:=by kernel_rfl
theorem zmy:(Tryz.f5.params.all (Tryz.checked.prog.readableRec ·))=true:=by kernel_rfl
theorem zmz:(namedTie Tryz.checked.prog Rows.taskStepsRow.named Rows.taskStepsSpec.vars)=true:=by kernel_rfl
theorem zmA:((Rows.taskStepsRow.inPlace==Tryz.checked.prog.inPlace 5))=true:=by kernel_rfl
theorem zmB:((Rows.taskStepsRow.unfollowed==Tryz.checked.prog.unfollowed 5))=true:=by kernel_rfl
theorem zmC:((Rows.taskStepsRow.recurses==Tryz.checked.prog.recurses 5))=true:=by kernel_rfl
theorem zmD:((Rows.taskStepsRow.named==Tryz.checked.prog.varsNamed 5))=true:=by kernel_rfl
theorem zmE:(Tryz.checked.prog.stopsHeard)=true:=by kernel_rfl
theorem zkU:(Tryz.checked.prog.mayEnter)=true:=by kernel_rfl
theorem zkV:((Rows.taskStepsRow.lifted==Tryz.checked.prog.liftsFinal))=true:=by kernel_rfl
theorem zkW:((Tryz.checked.prog.make==some Rows.taskStepsRow.make))=true:=by kernel_rfl
theorem zkX:((Rows.taskStepsRow.plainKeys==Tryz.checked.prog.plainKeys))=true:=by kernel_rfl
end Go.Proofs.YtgkjmbopnaeanaaGreat
