/-
 Closed facts of the row of TaskDone.
-/
import Derived.Test.YtgkjmbopnaeanaaGreatRows
import Derived.Test.YtgkjmbopnaeanaaGreatPart4
set_option maxRecDepth 100000
set_option maxHeartbeats 2000000
set_option linter.unusedSimpArgs false
set_option linter.unusedVariables false
namespace Go.Proofs.YtgkjmbopnaeanaaGreat
open Go Go.RowKit Go.ChangeShapes Go.WideShapes
theorem zoq:(Rows.taskDoneRow.wf (OpenSpec.ofChange Rows.taskDoneSpec))=true:=by kernel_rfl
theorem zor:(laidOutB Tryz.checked.prog)=true:=by kernel_rfl
theorem zos:(mapsRowed Tryz.checked.prog)=true:=by kernel_rfl
theorem zot:(Tryz.f4.params.all (Tryz.checked.prog.readableRec ·))=true:=by kernel_rfl
theorem zou:(namedTie Tryz.checked.prog Rows.taskDoneRow.named Rows.taskDoneSpec.vars)=true:=by kernel_rfl
theorem zov:((Rows.taskDoneRow.inPlace==Tryz.checked.prog.inPlace 4))=true:=by kernel_rfl
theorem zow:((Rows.taskDoneRow.unfollowed==Tryz.checked.prog.unfollowed 4))=true:=by kernel_rfl
theorem zox:((Rows.taskDoneRow.recurses==Tryz.checked.prog.recurses 4))=true:=by kernel_rfl
theorem zoy:((Rows.taskDoneRow.named==Tryz.checked.prog.varsNamed 4))=true:=by kernel_rfl
theorem zoz:(Tryz.checked.prog.stopsHeard)=true:=by kernel_rfl
theorem zmF:(Tryz.checked.prog.mayEnter)=true:=by kernel_rfl
theorem zmG:((Rows.taskDoneRow.lifted==Tryz.checked.prog.liftsFinal))=true:=by kernel_rfl
theorem zmH:((Tryz.checked.prog.make==some Rows.taskDoneRow.make))=true:=by kernel_rfl
theorem zmI:((Rows.taskDoneRow.plainKeys==Tryz.checked.prog.plainKeys))=true:=by kernel_rfl
end Go.Proofs.YtgkjmbopnaeanaaGreat
