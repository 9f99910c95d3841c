/-
 Closed facts of the row of ServApart.
-/
import Derived.Test.YtgldbfelccddbaaGreatRows
import Derived.Test.YtgldbfelccddbaaGreatApa4
set_option maxRecDepth 100000
set_option maxHeartbeats 2000000
set_option linter.unusedSimpArgs false
set_option linter.unusedVariables false
namespace Go.Proofs.YtgldbfelccddbaaGreat
open Go Go.RowKit Go.ChangeShapes Go.WideShapes
theorem zof:(Rows.servApartRow.wf (OpenSpec.ofChange Rows.servApartSpec))=true:=by kernel_rfl
theorem zog:(laidOutB Tryz.checked.prog)=true:=by kernel_rfl
theorem zoh:(mapsRowed Tryz.checked.prog)=true:=by kernel_rfl
theorem zoi:(Tryz.f5.params.all (Tryz.checked.prog.readableRec ·))=true:=by kernel_rfl
theorem zoj:(namedTie Tryz.checked.prog Rows.servApartRow.named Rows.servApartSpec.vars)=true:=by kernel_rfl
theorem zok:((Rows.servApartRow.inPlace==Tryz.checked.prog.inPlace 5))=true:=by kernel_rfl
theorem zol:((Rows.servApartRow.unfollowed==Tryz.checked.prog.unfollowed 5))=true:=by kernel_rfl
theorem zom:((Rows.servApartRow.recurses==Tryz.checked.prog.recurses 5))=true:=by kernel_rfl
theorem zon:((Rows.servApartRow.named==Tryz.checked.prog.varsNamed 5))=true:=by kernel_rfl
theorem zoo:(Tryz.checked.prog.stopsHeard)=true:=by kernel_rfl
theorem zmC:(Tryz.checked.prog.mayEnter)=true:=by kernel_rfl
theorem zmD:((Rows.servApartRow.lifted==Tryz.checked.prog.liftsFinal))=true:=by kernel_rfl
theorem zmE:((Tryz.checked.prog.make==some Rows.servApartRow.make))=true:=by kernel_rfl
theorem zmF:((Rows.servApartRow.plainKeys==Tryz.checked.prog.plainKeys))=true:=by kernel_rfl
end Go.Proofs.YtgldbfelccddbaaGreat
