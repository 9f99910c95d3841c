/-
 Closed facts of the row of ServPieces.
-/
import Derived.Test.YtgldbfelccddbaaGreatRows
import Derived.Test.YtgldbfelccddbaaGreatPart4
set_option maxRecDepth 100000
set_option maxHeartbeats 2000000
set_option linter.unusedSimpArgs false
set_option linter.unusedVariables false
namespace Go.Proofs.YtgldbfelccddbaaGreat
open Go Go.RowKit Go.ChangeShapes Go.WideShapes
theorem zkl:(Rows.servPiecesRow.wf (OpenSpec.ofChange Rows.servPiecesSpec))=true:=by kernel_rfl
theorem zkm:(laidOutB Tryz.checked.prog)=true:=by kernel_rfl
theorem zkn:(mapsRowed Tryz.checked.prog)=true:=by kernel_rfl
theorem zko:(Tryz.f4.params.all (Tryz.checked.prog.readableRec ·))=true:=by kernel_rfl
theorem zkp:(namedTie Tryz.checked.prog Rows.servPiecesRow.named Rows.servPiecesSpec.vars)=true:=by kernel_rfl
theorem zkq:((Rows.servPiecesRow.inPlace==Tryz.checked.prog.inPlace 4))=true:=by kernel_rfl
theorem zkr:((Rows.servPiecesRow.unfollowed==Tryz.checked.prog.unfollowed 4))=true:=by kernel_rfl
theorem zks:((Rows.servPiecesRow.recurses==Tryz.checked.prog.recurses 4))=true:=by kernel_rfl
theorem zkt:((Rows.servPiecesRow.named==Tryz.checked.prog.varsNamed 4))=true:=by kernel_rfl
theorem zku:(Tryz.checked.prog.stopsHeard)=true:=by kernel_rfl
theorem zi0:(Tryz.checked.prog.mayEnter)=true:=by kernel_rfl
theorem zi1:((Rows.servPiecesRow.lifted==Tryz.checked.prog.liftsFinal))=true:=by kernel_rfl
theorem zi2:((Tryz.checked.prog.make==some Rows.servPiecesRow.make))=true:=by kernel_rfl
theorem zi3:((Rows.servPiecesRow.plainKeys==Tryz.checked.prog.plainKeys))=true:=by kernel_rfl
end Go.Proofs.YtgldbfelccddbaaGreat
