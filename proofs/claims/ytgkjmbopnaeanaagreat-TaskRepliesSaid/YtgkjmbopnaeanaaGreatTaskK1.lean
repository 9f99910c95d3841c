/-
 Closed facts of the row of TaskReplies.
-/
import Derived.Test.YtgkjmbopnaeanaaGreatRows
import Derived.Test.YtgkjmbopnaeanaaGreatPart4
set_option maxRecDepth 100000
set_option maxHeartbeats 2000000
set_option linter.unusedSimpArgs false
set_option linter.unusedVariables false
namespace Go.Proofs.YtgkjmbopnaeanaaGreat
open Go Go.RowKit Go.ChangeShapes Go.WideShapes
theorem ziS:(Rows.taskRepliesRow.wf (OpenSpec.ofChange Rows.taskRepliesSpec))=true:=by kernel_rfl
theorem ziT:(laidOutB Tryz.checked.prog)=true:=by kernel_rfl
theorem ziU:(mapsRowed Tryz.checked.prog)=true:=by kernel_rfl
theorem ziV:(Tryz.f3.params.all (Tryz.checked.prog.readableRec ·))=true:=by kernel_rfl
theorem ziW:(namedTie Tryz.checked.prog Rows.taskRepliesRow.named Rows.taskRepliesSpec.vars)=true:=by kernel_rfl
theorem ziX:((Rows.taskRepliesRow.inPlace==Tryz.checked.prog.inPlace 3))=true:=by kernel_rfl
theorem ziY:((Rows.taskRepliesRow.unfollowed==Tryz.checked.prog.unfollowed 3))=true:=by kernel_rfl
theorem ziZ:((Rows.taskRepliesRow.recurses==Tryz.checked.prog.recurses 3))=true:=by kernel_rfl
theorem zi0:((Rows.taskRepliesRow.named==Tryz.checked.prog.varsNamed 3))=true:=by kernel_rfl
theorem zi1:(Tryz.checked.prog.stopsHeard)=true:=by kernel_rfl
theorem zhS:(Tryz.checked.prog.mayEnter)=true:=by kernel_rfl
theorem zhT:((Rows.taskRepliesRow.lifted==Tryz.checked.prog.liftsFinal))=true:=by kernel_rfl
theorem zhU:((Tryz.checked.prog.make==some Rows.taskRepliesRow.make))=true:=by kernel_rfl
theorem zhV:((Rows.taskRepliesRow.plainKeys==Tryz.checked.prog.plainKeys))=true:=by kernel_rfl
end Go.Proofs.YtgkjmbopnaeanaaGreat
