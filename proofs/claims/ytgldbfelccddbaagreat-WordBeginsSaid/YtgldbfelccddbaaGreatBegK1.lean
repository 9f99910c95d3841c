/-
 Closed facts of the row of WordBegins.
-/
import Derived.Test.YtgldbfelccddbaaGreatRows
import Derived.Test.YtgldbfelccddbaaGreatBeg4
set_option maxRecDepth 100000
set_option maxHeartbeats 2000000
set_option linter.unusedSimpArgs false
set_option linter.unusedVariables false
namespace Go.Proofs.YtgldbfelccddbaaGreat
open Go Go.RowKit Go.ChangeShapes Go.WideShapes
theorem zf1:(Rows.wordBeginsRow.wf (OpenSpec.ofChange Rows.wordBeginsSpec))=true:=by kernel_rfl
theorem zf2:(laidOutB Tryz.checked.prog)=true:=by kernel_rfl
theorem zf3:(mapsRowed Tryz.checked.prog)=true:=by kernel_rfl
theorem zf4:(Tryz.f3.params.all (Tryz.checked.prog.readableRec ·))=true:=by kernel_rfl
theorem zf5:(namedTie Tryz.checked.prog Rows.wordBeginsRow.named Rows.wordBeginsSpec.vars)=true:=by kernel_rfl
theorem zf6:((Rows.wordBeginsRow.inPlace==Tryz.checked.prog.inPlace 3))=true:=by kernel_rfl
theorem zf7:((Rows.wordBeginsRow.unfollowed==Tryz.checked.prog.unfollowed 3))=true:=by kernel_rfl
theorem zf8:((Rows.wordBeginsRow.recurses==Tryz.checked.prog.recurses 3))=true:=by kernel_rfl
theorem zf9:((Rows.wordBeginsRow.named==Tryz.checked.prog.varsNamed 3))=true:=by kernel_rfl
theorem zga:(Tryz.checked.prog.stopsHeard)=true:=by kernel_rfl
theorem ze8:(Tryz.checked.prog.mayEnter)=true:=by kernel_rfl
theorem ze9:((Rows.wordBeginsRow.lifted==Tryz.checked.prog.liftsFinal))=true:=by kernel_rfl
theorem zfa:((Tryz.checked.prog.make==some Rows.wordBeginsRow.make))=true:=by kernel_rfl
theorem zfb:((Rows.wordBeginsRow.plainKeys==Tryz.checked.prog.plainKeys))=true:=by kernel_rfl
end Go.Proofs.YtgldbfelccddbaaGreat
