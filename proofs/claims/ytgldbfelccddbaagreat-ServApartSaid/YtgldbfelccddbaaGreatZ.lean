/-
 Parts of the proof: what closes comparisons of states.
-/
import Derived.RangeFuncRecord
import Derived.WalkKit
import GoSem.Dispatch
import Derived.Laws.StructEq
import Derived.Laws.Cells
set_option linter.all false
def lan {P Q:Prop}(a:P)(b:Q):P∧Q:=⟨a,b⟩
def lxa {P:Prop}(h:P:=by simp only [AS.le,leT,leH,ze,AsgK,AV.le,AV.leL,AObj.le,inH,idsT,idsH,AV.ids,AV.idsL,AV.idsR,AObj.ids,lk,hget,go_sem,aeq,aeq.aeqF,simprocAttr]<;>and_intros<;>first|rfl|exact AV.leL_refl _|exact AV.le_refl _):P:=h
def lxb {F P:Prop}(f:F)(h:F→P:=by intro fx;simp only [AS.le,leT,leH,ze,AsgK,AV.le,AV.leL,AObj.le,inH,idsT,idsH,AV.ids,AV.idsL,AV.idsR,AObj.ids,lk,hget,go_sem,aeq,aeq.aeqF,simprocAttr,fx]<;>and_intros<;>first|rfl|exact AV.leL_refl _|exact AV.le_refl _):P:=h f
