/- Lemmas. -/
import Derived.Test.YtgldbfelccddbaaGreatApa6
import Derived.KernelRfl
import Derived.Test.YtgldbfelccddbaaGreatProg
import Derived.CallsIn
import Derived.ChangeAlike
import Derived.ChangeKeysEq
import Derived.ChangeSame
import Derived.Defers
import Derived.Laws.AppendOwn
import Derived.Laws.BytesArg
import Derived.Laws.Cells
import Derived.Laws.Externs
import Derived.Laws.IdiomStrings
import Derived.Laws.LoneSync
import Derived.Laws.Pointers
import Derived.Laws.RangeAny
import Derived.Laws.RangeString
import Derived.Laws.StructEq
import Derived.Lib.AppendStr
import Derived.Lib.Builder
import Derived.Lib.MakeNoZero
import Derived.Lib.Slices
import Derived.Lib.Strings
import Derived.Lib.UnsafeStr
import Derived.OpenShut
import Derived.OrdersIn
import Derived.ProofKit
import Derived.RangeFuncRecord
import Derived.Recover
import Derived.RegionCalls
import Derived.RegionTactic
import Derived.ScopeJumps
import Derived.Shelf.Small.Strs
import Derived.Shelf.Strings.Prefix
import Derived.Shelf.Strings.Repeat
import Derived.SizedLaws
import Derived.Tactics
import Derived.Tactics2
import Derived.WalkKit
import GoSem.Dispatch
set_option linter.all false
set_option maxRecDepth 100000
set_option maxHeartbeats 2000000
namespace Go.Aw
open Go
def sa {P Q:Prop} (h:Q) (t:Q->P:=by first|exact zj _ ‹TabOk _ _› |exact zb9 _ [] ‹TabOk _ _› mx):P:=t h
def sb {P Q:Prop} (h:Q) (t:Q->P:=by first|exact zaZ _ ‹TabOk _ _› |exact zfU|exact zfV|exact zhu|exact zms|exact zcu _ [] ‹TabOk _ _› mx):P:=t h
def sc {P Q:Prop} (h:Q) (t:Q->P:=by first|exact zbi|exact zmZ|exact zkg rfl|exact zkh rfl):P:=t h
def le0 {P:Prop} (t:P:=by simp only [AS.le,leT,leH,ze,AsgK,AV.le,AV.leL,AObj.le,inH,idsT,idsH,AV.ids,AV.idsL,AV.idsR,AObj.ids,lk,hget,go_sem,aeq,aeq.aeqF,simprocAttr]):P:=t
def le1 {P:Prop} (t:P:=by simp only [AS.le,leT,leH,ze,AsgK,AV.le,AV.leL,AObj.le,inH,idsT,idsH,AV.ids,AV.idsL,AV.idsR,AObj.ids,lk,hget,go_sem,aeq,aeq.aeqF,simprocAttr]<;>and_intros<;>rfl):P:=t
def lew {P:Prop} (t:P:=by simp only [AS.le,leT,leH,ze,AsgK,AV.le,AV.leL,AObj.le,inH,idsT,idsH,AV.ids,AV.idsL,AV.idsR,AObj.ids,lk,hget,go_sem,aeq,aeq.aeqF,simprocAttr,hwi]):P:=t
def lev {P:Prop} (t:P:=by simp only [AS.le,leT,leH,ze,AsgK,AV.le,AV.leL,AObj.le,inH,idsT,idsH,AV.ids,AV.idsL,AV.idsR,AObj.ids,lk,hget,go_sem,aeq,aeq.aeqF,simprocAttr,hwi]<;>and_intros<;>rfl):P:=t
def fxd (n:Nat):Nat:=n
def fx:fxd 0=0:=rfl
def tk {P:Program} :TabOk P noTab:=zb P
def eqmp {A Q:Prop} (h:Q) (e:A=Q):A:=e ▸ h
section
variable {P : Prop} {cx : Cx} {y : Code} {Q : Exit -> AS -> Prop} {R : (AS -> Prop) -> Prop}
def wa (h:∀K:AS->Prop,(∀s',AW cx y Q s'->K s')->R K) (t:(∀K:AS->Prop,(∀s',AW cx y Q s'->K s')->R K)->P:=by
  intro h;first
  |((first|refine zj _ tk (λK hK=>eqmp (h K hK) ?_)|refine zb9 _ [] tk mx (λK hK=>eqmp (h K hK) ?_));simp only [go_sem,aeq,aeq.aeqF,simprocAttr,fx];rfl)
  |exact zaC h):P:=t h
def xa (h:∀K:AS->Prop,(∀s',AW cx y Q s'->K s')->R K) (t:(∀K:AS->Prop,(∀s',AW cx y Q s'->K s')->R K)->P:=by
  intro h;first
  |((first|refine zlk _ tk (λK hK=>eqmp (h K hK) ?_)|refine zb9 _ [] tk mx (λK hK=>eqmp (h K hK) ?_));simp only [go_sem,aeq,aeq.aeqF,simprocAttr,fx];rfl)
  |exact zaC h):P:=t h
end
def wb {P Q:Prop} (h:Q) (t:Q->P:=by
  intro h;first
  |((first|refine zaZ _ tk (eqmp h ?_)|refine zfU (eqmp h ?_)|refine zfV (eqmp h ?_)|refine zhu (eqmp h ?_)|refine zms (eqmp h ?_)|refine zcu _ [] tk mx (eqmp h ?_));simp only [go_sem,aeq,aeq.aeqF,simprocAttr,fx];rfl)
  |exact zbi h|exact zmZ h|exact zkg rfl h|exact zkh rfl h):P:=t h
def xb {P Q:Prop} (h:Q) (t:Q->P:=by
  intro h;first
  |((first|refine zlK _ tk (eqmp h ?_)|refine zfU (eqmp h ?_)|refine zfV (eqmp h ?_)|refine zhu (eqmp h ?_)|refine zms (eqmp h ?_)|refine zcu _ [] tk mx (eqmp h ?_));simp only [go_sem,aeq,aeq.aeqF,simprocAttr,fx];rfl)
  |exact zbi h|exact zmZ h|exact zkg rfl h|exact zkh rfl h):P:=t h
def wd {a b:Bool} {Q:Prop} (h:a=b->Q):a=b->Q:=h
def wn {R Y:Bool->Prop} (h:∀nb:Bool,(nb=true->R nb)->Y nb):∀nb:Bool,(nb=true->R nb)->Y nb:=h
@[go_sem] def cxY_fl {P:Program} {items:List (List AV)} (base nt fl:Nat) (y:Yo P items):(cxY P base nt fl y).fl=fl:=rfl
def zCn {cx:Cx} {Q:Exit->AS->Prop} {s:AS} (iq:inH (hsel (λi=>decide (i<cx.fl)) s.h) (idsH (hsel (λi=>decide (i<cx.fl)) s.h))) (h:Q .ret { t:=keepT (hsel (λi=>decide (i<cx.fl)) s.h) s.t,h:=hsel (λi=>decide (i<cx.fl)) s.h,g:=s.g }):AW cx .ret Q s:=zCi _ iq (zhu h)
def xk {P Q:Prop} (h:Q) (t:Q->P:=by intro h;refine zCn (by simp only [inH,idsH,hsel,AV.ids,AV.idsL,AV.idsR,AObj.ids,hget,go_sem,aeq,aeq.aeqF,simprocAttr]) (eqmp h ?_);simp only [go_sem,aeq,aeq.aeqF,simprocAttr,fx,hsel,keepT];rfl):P:=t h
def wl {P Q:Prop} (h:Q) (t:Q->P:=by
  intro h
  (first|refine (show AS.le _ _ from eqmp h ?_)|refine (show leH _ _ from eqmp h ?_)|refine (show inH _ _ from eqmp h ?_))
  simp only [AS.le,leT,leH,ze,AsgK,AV.le,AV.leL,AObj.le,inH,idsT,idsH,AV.ids,AV.idsL,AV.idsR,AObj.ids,lk,hget,go_sem,aeq,aeq.aeqF,simprocAttr,fx];rfl):P:=t h
def wc {P Q R:Prop} (h:Q) (g:R) (t:Q->R->P:=by first|with_reducible exact And.intro|exact za1 rfl):P:=t h g
def we {P:Prop} (t:P:=by first|with_reducible exact True.intro|((refine (show zb8 _ _=true from ?_));kernel_rfl)|((refine (show zBI _ _=true from ?_));kernel_rfl)|omega|assumption):P:=t
section
variable {P : Program}
def bod {f:FuncId} {fn:Func} {c:Code} {nt fl:Nat} {args:List AV} {h:AHeap} {K:AV->AHeap->Prop} (J:P.funcs[f]?=some fn) (jL:fn.ntmps=nt)
  (kp:∀base,AW (cxOf P base nt fl) c (RetK P fn K) { t:=za8 0 args,h:=h,g:=some [] }) (hb:fn.body=some c:=by rfl) (he:(fn.name== "runtime.NumGoroutine")=false:=by kernel_rfl) (hi:fn.body.isNone=false:=by rfl) (hn:args.length<=nt:=by simp):ACall P f fl args h K:=
 zbj J hb (zcR J he hi) jL hn kp
def fbod {f:FuncId} {fn:Func} {c:Code} {nt:Nat} {args:List AV} {r:AV} (J:P.funcs[f]?=some fn) (jL:fn.ntmps=nt)
  (kp:∀base,AW (cxOf P base nt 0) c (RetK P fn (λr' h'=>frz 9 h' r'=r)) { t:=za8 0 args,h:= [],g:=some [] }) (hb:fn.body=some c:=by rfl) (he:(fn.name== "runtime.NumGoroutine")=false:=by kernel_rfl) (hi:fn.body.isNone=false:=by rfl) (hn:args.length<=nt:=by simp):ACall P f 0 args [] (λr' _=>r'=r):=
 zwr (zbj J hb (zcR J he hi) jL hn kp)
def itr {f:FuncId} {fn:Func} {c:Code} {nt fl:Nat} {pre caps:List AV} {h:AHeap} {items:List (List AV)} {K:Option (List (List AV))->AHeap->Prop} (J:P.funcs[f]?=some fn) (jL:fn.ntmps=nt)
  (kp:∀base (y:Yo P items),AW (cxY P base nt fl y) c (IterK K) { t:=za8 0 (pre++ .fn (.yield y.yl) [] []::caps),h:=h,g:=some [] }) (hb:fn.body=some c:=by rfl) (he:(fn.name== "runtime.NumGoroutine")=false:=by kernel_rfl) (hi:fn.body.isNone=false:=by rfl) (qQ:fn.results= #[]:=by rfl) (hn:pre.length+caps.length+1<=nt:=by simp):AIter P f fl pre caps h items K:=
 zmK J hb (zcR J he hi) jL qQ hn kp
end
inductive Lo {P:Prop} (h:P):Prop|mk
def lo2 {P:Prop} (h:P) (u:Lo h):P:=h
inductive Stp (n:Nat):Prop|mk
def zL (n:Nat):Stp n:= .mk
def hdt {cx:Cx} {c:Code} {Q:Exit->AS->Prop} {s:AS} {n:Nat} (st:Stp n) (h:hdR c=some n) (g:AW cx c Q s):AW cx c Q s:=g
def zg {a b:Prop} (x:a) (y:b):a/\b:=⟨x,y⟩
def zp {a b c:Prop} (x:a) (y:b) (z:c):a/\b/\c:=⟨x,y,z⟩
def zB {a b c d:Prop} (x:a) (y:b) (z:c) (u:d):a/\b/\c/\d:=⟨x,y,z,u⟩
def zat {a b c d e:Prop} (x:a) (y:b) (z:c) (u:d) (v:e):a/\b/\c/\d/\e:=⟨x,y,z,u,v⟩
def zr {a b c d e f:Prop} (x:a) (y:b) (z:c) (u:d) (v:e) (w:f):a/\b/\c/\d/\e/\f:=⟨x,y,z,u,v,w⟩
def natC:∀n:Nat,((n:Int)).toNat=n:=aw
inductive Ow (l:List FuncId):Prop|mk
def ownsL (l:List FuncId):Ow l:= .mk
def zkn {cx:Cx} {ops:Array Oper} {s:AS} {id:Nat} {Q:Exit->AS->Prop} (tab:Tab) {l:List FuncId} (_:Ow l) (J:TabOk cx.P tab) (hm:cx.P.follows .mixedOrders=true) (h:gops cx tab l ops (top cx.fl s.h) ops.toList [] (Q .normal) s):AW cx (.region id ops true) Q s:=zcu tab l J hm h
def zhR {cx:Cx} {ops:Array Oper} {s:AS} {id:Nat} {y:Code} {Q:Exit->AS->Prop} (tab:Tab) {l:List FuncId} (_:Ow l) (J:TabOk cx.P tab) (hm:cx.P.follows .mixedOrders=true) (h:∀K,(∀s',AW cx y Q s'->K s')->gops cx tab l ops (top cx.fl s.h) ops.toList [] K s):AW cx (.seq (.region id ops true) y) Q s:=zb9 tab l J hm h
def wao {P:Prop} {cx:Cx} {y:Code} {Q:Exit->AS->Prop} {R:(AS->Prop)->Prop} (h:∀K:AS->Prop,(∀s',AW cx y Q s'->K s')->R K) (t:(∀K:AS->Prop,(∀s',AW cx y Q s'->K s')->R K)->P:=by intro h;refine zhR _ ow tk mx (λK hK=>eqmp (h K hK) ?_);simp only [go_sem,aeq,aeq.aeqF,simprocAttr,fx];rfl):P:=t h
def wbo {P Q:Prop} (h:Q) (t:Q->P:=by intro h;refine zkn _ ow tk mx (eqmp h ?_);simp only [go_sem,aeq,aeq.aeqF,simprocAttr,fx];rfl):P:=t h
section
variable {Q F : Prop} {P : Program} {T : Tab} {l : List FuncId} {n : Nat}
def walkW (fx:F) (tk:TabOk P T) (t:F->TabOk P T->Q:=by intro fx tk;repeat' (first|(refine hK _ ?_;clear hK K)|refine wa λK hK=>?_|refine wb ?_|refine wc ?_ ?_|refine wn λnb hnb=>?_|exact we|refine wd λhc=>?_|clear hK K|(clear fx tk;apply_rules (newGoals:= .nonDependentOnly) (maxDepth:=1) only [lo2];constructor))):Q:=t fx tk
def walkR (fx:F) (tk:TabOk P T) (t:F->TabOk P T->Q:=by intro fx tk;repeat' (first|(refine hK _ ?_;clear hK K)|refine wa λK hK=>?_|refine wb ?_|refine wc ?_ ?_|refine wl ?_|refine λ(J:Rnd _)=>?_|refine wn λnb hnb=>?_|exact ‹_<+:_› |exact we|refine wd λhc=>?_|clear hK K|(clear fx tk;apply_rules (newGoals:= .nonDependentOnly) (maxDepth:=1) only [lo2];constructor))):Q:=t fx tk
def walkX (fx:F) (tk:TabOk P T) (t:F->TabOk P T->Q:=by intro fx tk;repeat' (first|refine xk ?_|(refine hK _ ?_;clear hK K)|refine xa λK hK=>?_|refine xb ?_|refine wc ?_ ?_|refine wl ?_|refine λ(J:Rnd _)=>?_|refine wn λnb hnb=>?_|exact ‹_<+:_› |exact we|refine wd λhc=>?_|clear hK K|(clear fx tk;apply_rules (newGoals:= .nonDependentOnly) (maxDepth:=1) only [lo2];constructor))):Q:=t fx tk
def zfh (st:Stp n) (fx:F) (tk:TabOk P T) (t:Stp n->F->TabOk P T->Q:=by intro st fx tk;repeat' (first|(refine hdt st rfl ?_;clear fx tk st;apply_rules (newGoals:= .nonDependentOnly) (maxDepth:=1) only [lo2];constructor)|(refine hK _ ?_;clear hK K)|refine wa λK hK=>?_|refine wb ?_|refine wc ?_ ?_|refine wn λnb hnb=>?_|exact we|refine wd λhc=>?_|clear hK K|(clear fx tk st;apply_rules (newGoals:= .nonDependentOnly) (maxDepth:=1) only [lo2];constructor))):Q:=t st fx tk
def zfH (st:Stp n) (fx:F) (tk:TabOk P T) (t:Stp n->F->TabOk P T->Q:=by intro st fx tk;repeat' (first|(refine hdt st rfl ?_;clear fx tk st;apply_rules (newGoals:= .nonDependentOnly) (maxDepth:=1) only [lo2];constructor)|(refine hK _ ?_;clear hK K)|refine wa λK hK=>?_|refine wb ?_|refine wc ?_ ?_|refine wl ?_|refine λ(J:Rnd _)=>?_|refine wn λnb hnb=>?_|exact ‹_<+:_› |exact we|refine wd λhc=>?_|clear hK K|(clear fx tk st;apply_rules (newGoals:= .nonDependentOnly) (maxDepth:=1) only [lo2];constructor))):Q:=t st fx tk
def zgu (ow:Ow l) (fx:F) (tk:TabOk P T) (t:Ow l->F->TabOk P T->Q:=by intro ow fx tk;repeat' (first|(refine hK _ ?_;clear hK K)|refine wao λK hK=>?_|refine wbo ?_|refine wa λK hK=>?_|refine wb ?_|refine wc ?_ ?_|refine wn λnb hnb=>?_|exact we|refine wd λhc=>?_|clear hK K|(clear fx tk ow;apply_rules (newGoals:= .nonDependentOnly) (maxDepth:=1) only [lo2];constructor))):Q:=t ow fx tk
def zsJ (ow:Ow l) (fx:F) (tk:TabOk P T) (t:Ow l->F->TabOk P T->Q:=by intro ow fx tk;repeat' (first|(refine hK _ ?_;clear hK K)|refine wao λK hK=>?_|refine wbo ?_|refine wa λK hK=>?_|refine wb ?_|refine wc ?_ ?_|refine wl ?_|refine λ(J:Rnd _)=>?_|refine wn λnb hnb=>?_|exact ‹_<+:_› |exact we|refine wd λhc=>?_|clear hK K|(clear fx tk ow;apply_rules (newGoals:= .nonDependentOnly) (maxDepth:=1) only [lo2];constructor))):Q:=t ow fx tk
def zc (fx:F) (t:F->Q:=by intro fx;repeat' (first|(refine hK _ ?_;clear hK K)|refine wa λK hK=>?_|refine wb ?_|refine wc ?_ ?_|refine wn λnb hnb=>?_|exact we|refine wd λhc=>?_|clear hK K|(clear fx;apply_rules (newGoals:= .nonDependentOnly) (maxDepth:=1) only [lo2];constructor))):Q:=t fx
def zau (fx:F) (t:F->Q:=by intro fx;repeat' (first|(refine hK _ ?_;clear hK K)|refine wa λK hK=>?_|refine wb ?_|refine wc ?_ ?_|refine wl ?_|refine λ(J:Rnd _)=>?_|refine wn λnb hnb=>?_|exact ‹_<+:_› |exact we|refine wd λhc=>?_|clear hK K|(clear fx;apply_rules (newGoals:= .nonDependentOnly) (maxDepth:=1) only [lo2];constructor))):Q:=t fx
def zaQ (fx:F) (t:F->Q:=by intro fx;repeat' (first|refine xk ?_|(refine hK _ ?_;clear hK K)|refine xa λK hK=>?_|refine xb ?_|refine wc ?_ ?_|refine wl ?_|refine λ(J:Rnd _)=>?_|refine wn λnb hnb=>?_|exact ‹_<+:_› |exact we|refine wd λhc=>?_|clear hK K|(clear fx;apply_rules (newGoals:= .nonDependentOnly) (maxDepth:=1) only [lo2];constructor))):Q:=t fx
def z8 (st:Stp n) (fx:F) (t:Stp n->F->Q:=by intro st fx;repeat' (first|(refine hdt st rfl ?_;clear fx st;apply_rules (newGoals:= .nonDependentOnly) (maxDepth:=1) only [lo2];constructor)|(refine hK _ ?_;clear hK K)|refine wa λK hK=>?_|refine wb ?_|refine wc ?_ ?_|refine wn λnb hnb=>?_|exact we|refine wd λhc=>?_|clear hK K|(clear fx st;apply_rules (newGoals:= .nonDependentOnly) (maxDepth:=1) only [lo2];constructor))):Q:=t st fx
def zwz (st:Stp n) (fx:F) (t:Stp n->F->Q:=by intro st fx;repeat' (first|(refine hdt st rfl ?_;clear fx st;apply_rules (newGoals:= .nonDependentOnly) (maxDepth:=1) only [lo2];constructor)|(refine hK _ ?_;clear hK K)|refine wa λK hK=>?_|refine wb ?_|refine wc ?_ ?_|refine wl ?_|refine λ(J:Rnd _)=>?_|refine wn λnb hnb=>?_|exact ‹_<+:_› |exact we|refine wd λhc=>?_|clear hK K|(clear fx st;apply_rules (newGoals:= .nonDependentOnly) (maxDepth:=1) only [lo2];constructor))):Q:=t st fx
def zwA (st:Stp n) (fx:F) (t:Stp n->F->Q:=by intro st fx;repeat' (first|(refine hdt st rfl ?_;clear fx st;apply_rules (newGoals:= .nonDependentOnly) (maxDepth:=1) only [lo2];constructor)|refine xk ?_|(refine hK _ ?_;clear hK K)|refine xa λK hK=>?_|refine xb ?_|refine wc ?_ ?_|refine wl ?_|refine λ(J:Rnd _)=>?_|refine wn λnb hnb=>?_|exact ‹_<+:_› |exact we|refine wd λhc=>?_|clear hK K|(clear fx st;apply_rules (newGoals:= .nonDependentOnly) (maxDepth:=1) only [lo2];constructor))):Q:=t st fx
def zhS (ow:Ow l) (fx:F) (t:Ow l->F->Q:=by intro ow fx;repeat' (first|(refine hK _ ?_;clear hK K)|refine wao λK hK=>?_|refine wbo ?_|refine wa λK hK=>?_|refine wb ?_|refine wc ?_ ?_|refine wn λnb hnb=>?_|exact we|refine wd λhc=>?_|clear hK K|(clear fx ow;apply_rules (newGoals:= .nonDependentOnly) (maxDepth:=1) only [lo2];constructor))):Q:=t ow fx
def zCo (ow:Ow l) (fx:F) (t:Ow l->F->Q:=by intro ow fx;repeat' (first|(refine hK _ ?_;clear hK K)|refine wao λK hK=>?_|refine wbo ?_|refine wa λK hK=>?_|refine wb ?_|refine wc ?_ ?_|refine wl ?_|refine λ(J:Rnd _)=>?_|refine wn λnb hnb=>?_|exact ‹_<+:_› |exact we|refine wd λhc=>?_|clear hK K|(clear fx ow;apply_rules (newGoals:= .nonDependentOnly) (maxDepth:=1) only [lo2];constructor))):Q:=t ow fx
end
open Go
def APan (P:Program) (f:FuncId) (fl:Nat) (args:List AV) (h:AHeap) (v:Value):Prop:=
 zfe P f/\∀E w (vs:Array Value),SatH E h w->Reps w E h args vs.toList->
  Calls P f vs w (λe w'=>∃E' h',e= .panicked [{ v:=v,recovered:=false }]/\SatH E' h' w'/\EvoC fl E h w E' h' w')
def PanK (v:Value):Exit->AS->Prop
 | .panic ch,_=>ch= [{ v:=v,recovered:=false }]
 |_,_=>False
def opPan (cx:Cx) (o:Oper) (v:Value) (s:AS):Prop:=
 match o.op with
 | .panic x=>(match s.ev x with
  |(g,.iface t (.d y))=>g=true/\y.scal=true/\v= .iface t (valD y)
  |_=>False)
 | .call c=>(match zbG cx.P s c with
  |some (f,args,J)=>J/\APan cx.P f cx.fl args s.h v
  |none=>False)
 |_=>False
def aopsP (cx:Cx) (tab:Tab) (all:Array Oper) (v:Value):Nat->List Oper->AS->Prop
 |0,o::_,s=>zbu s all o.guard=some true/\opPan cx o v s
 |k+1,o::r,s=>(match zbu s all o.guard with
  |some G=>aopT cx tab G o (aopsP cx tab all v k r) s
  |none=>False)
 |_,[],_=>False
section
variable {P : Program} {cx : Cx} {tab : Tab} {E : Env} {s : AS} {a : Act} {w : World}
def zzw {o:Oper} {v:Value} {next:Act->World->Prop} {Q:Exit->Act->World->Prop} (hs:Sat cx E s a w) (h:opPan cx o v s) (hQ:∀w',Reach cx E s.h w (λ_=>True) a w'->Q (.panic [{ v:=v,recovered:=false }]) a w'):o.wpIn cx.F 0 cx.P a w next Q:=by
 unfold opPan at h;refine' HV;split at h
 .rename_i x an;split at h
  case h_2=>exact h.elim
  rename_i g t y J;obtain ⟨rfl,lO,hv⟩:=h;have hx:=ev_ok hs.slots x iU;rw [J] at hx;refine' Fz;obtain ⟨u,hu,Bd⟩:=hx;rw [dS _ _ _ (by rw [an];simp)]
  have iS:(execOp a.eval o).run cx.P w= .halt (.panic v) w:=by refine' Eo;dsimp only at an;subst an;rw [hv,<-(zea lO).1 Bd];show (execOp a.eval ⟨dst,.panic x,ot,pos,after,guard⟩).run cx.P w=_;simp only [execOp,hu];rfl
  rw [iS,Oper.uponIn_panic];exact hQ w ⟨E,s,trivial,hs,Evo.refl _ _ _ _⟩
 .rename_i c an;split at h
  .rename_i f args vc b9;obtain ⟨jb,ix,jm⟩:=h;obtain ⟨vs,iY,iS⟩:=zlF an hs b9 jb ix;rw [dS _ _ _ (by rw [an];simp),iS];simp only [Oper.uponIn_enter];refine ⟨(λh=>gS),?_⟩;refine (zmA _ (jm E w _ hs.hp iY)).mono ?_;rintro e w' ⟨E',h',rfl,hh,J⟩;refine hQ w' ⟨E', { t:= [],h:=h',g:=s.g },trivial,⟨λk g v hk=>by simp [lk] at hk,hs.nt,hh,⟨aD hs.base.1 J.size,hs.base.2⟩,?_,?_⟩,J.evo⟩
   .exact hs.marks.step (λb _ hb=>by rwa [<-J.m]) (λr hr hm=>J.keep r (aI.1 hr).1 (hs.hp.not_mark hr))
   .rw [J.m,J.n];exact cx.stab _ _ _ _ _ _ _ (λb hb ho=>J.keep b hb (λh=>ho (.inl h))) (λb hb=>hb.elim (λhb=>(J.own b hb).imp .inl id) (λhb=> .inl (.inr hb))) (λb hb=>hb.elim (λh=>(hh.own b h).1) (λh=>aE (hs.marks.lt h) J.size)) J.size J.tape J.os J.output hs.ghost
  .exact h.elim
 .exact h.elim
def zjL (ht:TabOk cx.P tab) {all:Array Oper} {v:Value} :∀ (k:Nat) (l:List Nat) (ops:List Oper) {s:AS} {E:Env} {a:Act} {w:World},l.map (all[·]?)=ops.map some->Sat cx E s a w->aopsP cx tab all v k ops s->
  wpOpsIn cx.F 0 cx.P all (λe a' w'=>e= .panic [{ v:=v,recovered:=false }]/\Reach cx E s.h w (λ_=>True) a' w') l a w
 |k,[],ops,s,E,a,w,J,hs,h=>by
  have:ops= []:=by simpa using J.symm
  subst this;cases k<;>exact h.elim
 |k,i::l,[],s,E,a,w,J,hs,h=>by simp at J
 |0,i::l,o::ops,s,E,a,w,J,hs,h=>by refine' EW;simp only [wpOpsIn,hi];rw [zdt hs.slots h.1,aa rfl];exact zzw hs h.2 λw' hr=>⟨rfl,hr⟩
 | k+1,i::l,o::ops,s,E,a,w,J,hs,h=>by
  refine' EW;simp only [aopsP] at h;split at h
  .refine' D8
   .refine' D3;refine' H0
   .refine' DW;refine' H0
  .exact h.elim
def zhe {id:Nat} {ops:Array Oper} {v:Value} {Q:Exit->AS->Prop} (tab:Tab) (J:TabOk cx.P tab) (k:Nat) (hQ:∀s',Q (.panic [{ v:=v,recovered:=false }]) s') (h:aopsP cx tab ops v k ops.toList s):AW cx (.region id ops false) Q s:=λE a w hs=>
 cV (zaa _ (zjL J k _ _ (zeU ops) hs h) (by rintro e a' w' ⟨rfl,E',s',_,ga,he⟩;exact ⟨E',s',hQ s',ga,he⟩))
def zbp {id:Nat} {ops:Array Oper} {y:Code} {v:Value} {Q:Exit->AS->Prop} (tab:Tab) (J:TabOk cx.P tab) (k:Nat) (hQ:∀s',Q (.panic [{ v:=v,recovered:=false }]) s') (h:aopsP cx tab ops v k ops.toList s):AW cx (.seq (.region id ops false) y) Q s:=λE a w hs=>
 wpIn_seq (cV (zaa _ (zjL J k _ _ (zeU ops) hs h) (by rintro e a' w' ⟨rfl,E',s',_,ga,he⟩;exact ⟨E',s',hQ s',ga,he⟩)))
def zoz {f:FuncId} {fn:Func} {c:Code} {nt fl:Nat} {args:List AV} {h:AHeap} {v:Value} (hf:P.funcs[f]?=some fn) (hb:fn.body=some c) (ix:zfe P f) (jL:fn.ntmps=nt) (hn:args.length<=nt)
  (kp:∀base,AW { cxOf P base nt fl with rq:=true } c (PanK v) { t:=za8 0 args,h:=h,g:=some [] }):APan P f fl args h v:=by
 refine ⟨ix,λE w vs hs hr=>(eG (n:=0)).1 (fi hf hb trivial ?_ rfl)⟩;subst jL;have hlen:=Reps.length hr;let E1:Env:= { O:=E.O,C:=E.C,M:=λ_=>False,N:=λb=>E.M b\/E.N b }
 have np:∀b,b<w.heap.size->Xs E1 h b->Xs E h b:=λb _ J=>by
  rcases J with J|J|J
  .exact .inl J
  .exact J.elim
  .exact .inr J
 have a6:SatH E1 h w:=hs.refit (Shut.refl 0 w) rfl rfl np (λb hb=>⟨λh=>h,λhn=>hn.elim (hs.own b hb).2.1 (hs.own b hb).2.2⟩) (λ_ h=>h.elim) (λb hn=>hn.elim (hs.mlt b) (hs.nlt b));refine' Im
 have qE:Sat { cxOf P w.heap.size fn.ntmps fl with rq:=true } E1 { t:=za8 0 args,h:=h,g:=some [] } { tmps:=vs++Array.replicate (fn.ntmps - vs.size) undef,defers:= [] } w:=by
  refine ⟨λk g v hk=>?_,?_,a6,⟨aj _,λ_=>rfl⟩,⟨fZ,fZ⟩,trivial⟩
  .obtain ⟨rfl,_,hv⟩:=zfg args 0 k hk;obtain ⟨x,J,tR⟩:=Reps.get ka hv;have w1:vs[k]?=some x:=gQ;have gR:=(aI.1 w1).1;exact ⟨x,by rw [Array.getElem?_append_left gR];exact w1,λ_=>tR,λe=>gN⟩
  .have:vs.size=args.length:=by simpa using hlen
   simp [cxOf];omega
 refine aT (kp w.heap.size E1 _ w qE) ?_;intro e a2 w2 jj;cases e with
 | panic ch=>
  obtain ⟨E2,s2,hv,eg,e9⟩:=jj;simp only [PanK] at hv;subst hv;have se:a2.defers= []:=eg.base.2 rfl;show LeavesInM Fence.wide 0 P fn a2.tmps _ a2.defers (.panicking _) w2;rw [se];have n4:E2.N=λb=>E.M b\/E.N b:=e9.n;let E3:Env:= { O:=E2.O,C:=E2.C,M:=E.M,N:=E.N }
  have r3:∀b,b<w2.heap.size->Xs E3 s2.h b->Xs E2 s2.h b:=λb _ J=>by
   rcases J with J|J|J
   .exact .inl J
   .exact .inr (.inr (by rw [n4];exact .inl J))
   .exact .inr (.inr (by rw [n4];exact .inr J))
  refine ⟨E3,s2.h,rfl,eg.hp.refit (E':=E3) (Shut.refl 0 w2) rfl rfl r3 (λb hb=>?_) (λb hb=>aE (hs.mlt b hb) e9.size) (λb hb=>aE (hs.nlt b hb) e9.size),⟨e9.os,e9.tape,e9.output,e9.size,λb hb ho=>e9.keep b hb ho (λh=>h),e9.own,rfl,rfl,λi hi hl=>e9.go i hi hl⟩⟩;have:=(eg.hp.own b hb).2.2;rw [n4] at this;exact ⟨λh=>this (.inl h),λh=>this (.inr h)⟩
 |_=>exact absurd jj (by rintro ⟨_,_,h,_⟩;exact h)
def pbod {f:FuncId} {fn:Func} {c:Code} {nt fl:Nat} {args:List AV} {h:AHeap} {v:Value} (J:P.funcs[f]?=some fn) (jL:fn.ntmps=nt)
  (kp:∀base,AW { cxOf P base nt fl with rq:=true } c (PanK v) { t:=za8 0 args,h:=h,g:=some [] }) (hb:fn.body=some c:=by rfl) (he:(fn.name== "runtime.NumGoroutine")=false:=by kernel_rfl) (hi:fn.body.isNone=false:=by rfl) (hn:args.length<=nt:=by simp):APan P f fl args h v:=
 zoz J hb (zcR J he hi) jL hn kp
def zjM {f:FuncId} {args:List AV} {v:Value} {h:AHeap} {i jF fl:Nat} {ob:AObj} (hc:APan P f jF args [(i,ob)] v) (hg:hget h i=some ob) (c6:∀j∈ob.ids,j=i) (ha:∀j∈AV.idsL args,j=i):APan P f fl args h v:=by
 obtain ⟨p,hp⟩:∃p:Nat->Bool,p=λj=>decide (j=i):=⟨_,rfl⟩
 have et:∀k,hget (hsel p h) k=hget [(i,ob)] k:=λk=>by
  rw [zE,hp];simp only [hget,ax];by_cases hk:i=k
  .subst hk;rw [aa rfl,aa rfl,hg]
  .rw [U hk,U (bx hk)]
 refine ⟨hc.1,λE w vs hs hr=>?_⟩
 have a8:SatH E [(i,ob)] w:=(zmJ hs (p:=p) (λj o ho gZ k hk=>by
  rw [hp] at gZ |-;have hj:j=i:=by simpa using gZ
  subst hj;rw [hg] at ho;cases ho;simpa using c6 k hk)).ext et
 have ka:Reps w E (hsel p h) args vs.toList:=zmI (λj hj=>by rw [hp];simpa using ha j hj) hr;have jj:Reps w E [(i,ob)] args vs.toList:=Reps.step (λb _ hx=>by unfold Xs at hx |-;rwa [zfv et]) (λ_ _ _=>rfl) _ _ (λj _=>zji et j) ka;refine (hc.2 E w vs a8 jj).mono ?_;rintro e w' ⟨E',h',rfl,ga,J⟩
 refine ⟨E,[],rfl,⟨λi o ho=>ky,λi j b hi=>gK,λb ⟨i,hi,_⟩=>gK,λb hb=>aE (hs.mlt b hb) J.size,λb hb=>aE (hs.nlt b hb) J.size⟩,
  ⟨J.os,J.tape,J.output,J.size,λb hb ho=>J.keep b hb (λ⟨j,hj,ib⟩=>ho ⟨j,?_,ib⟩),λb ⟨i,hi,_⟩=>gK,rfl,rfl,λi hi hl=>by simp [hget] at hl⟩⟩
 simp only [hget] at hj;split at hj
 .rename_i e;subst e;simp [hg]
 .cases hj
end
attribute [go_sem] aopsP opPan
open Go
def never:AHeap:= [(0,.var [.vp 1 0])]
def zoF {cx:Cx} {E:Env} {s:AS} {a:Act} {w:World} (J:Sat cx E s a w) (h:s.h=never):False:=by have:=J.hp.heap 0 (.var [.vp 1 0]) (by rw [h];simp [never,hget]);simp only [RepObj,Reps,Rep] at this;obtain ⟨b,c,T,fz,_,_,⟨v,r,_,⟨b2,cs,h2,_⟩,_⟩,_⟩:=this;rw [h] at h2;simp [never,hget] at h2
def zzB {cx:Cx} {c:Code} {Q:Exit->AS->Prop} {t:List (Nat×(Bool×AV))} {g:Option (List (List AV))} :AW cx c Q ⟨t,never,g⟩:=
 λE a w J=>(zoF J rfl).elim
def zt9 {cx:Cx} {c:Code} {Q:Exit->AS->Prop} {s:AS} (h:AW cx c (λe s=>Q e s\/s.h=never) s):AW cx c Q s:=by
 intro E a w hs;refine aT (h E a w hs) ?_;rintro e a1 w1 ⟨E1,s1,J,ab,he⟩;rcases J with J|J
 .exact ⟨E1,s1,J,ab,he⟩
 .exact (zoF ab J).elim
open Classical in
def zbU {cx:Cx} {s:AS} {Q:Exit->AS->Prop} {g:Operand} {ps:Array Tmp} {assign body:Code} {f:FuncId} {fs caps:List AV} (fl:Nat) {items:List (List AV)} (Good:List (List AV)->Prop) (I:List (List AV)->AHeap×Option (List (List AV))) (J:Code->AHeap->Option (List (List AV))->Prop)
  (jV:AIter cx.P f fl fs caps [] items (λg h'=>(∀xs,g=some xs->xs=items)/\h'= [])) (hg:s.ev g=(true,.fn (.func f) fs caps)) (kV:cx.lone=true)
  (gy:∀i,(hget s.h i).isSome->i<fl) (nD:cx.fl<=fl) (gL:AV.idsL fs++AV.idsL caps= [])
  (uW:Good []) (hI:leH s.h (I []).1) (hIn:inH (I []).1 (idsH (I []).1)) (kv:(I []).2=s.g)
  (hlen:∀x∈items,x.length=ps.size) (jY:∀t∈ps.toList,t<cx.nt)
  (mS:∀xs x,(xs++ [x])<+:items->Good xs->∀ (l:Nat) (r1:Rnd cx),AW (cx.inR l fl r1) assign (AsgK λs1=>∀r2:Rnd cx,AW (cx.inR l fl r2) body (ze (λh' g'=>Good (xs++ [x])/\leH h' (I (xs++ [x])).1/\inH (I (xs++ [x])).1 (idsH (I (xs++ [x])).1)/\g'=(I (xs++ [x])).2) J) s1)
   { t:=zeu ps.toList x (keepT (I xs).1 s.t),h:=(I xs).1,g:=(I xs).2 })
  (oe:Good items->Q .normal { t:=keepT (I items).1 s.t,h:=(I items).1,g:=(I items).2 })
  (p2:∀c h3 g3,J c h3 g3->AW cx c Q { t:=keepT h3 s.t,h:=h3,g:=g3 }):
  AW cx (.rangeFunc g ps assign body) Q s:=by
 refine zt9 (zws fl (λxs=>if Good xs then I xs else (never,none)) J jV hg kV gy nD gL ?_ ?_ ?_ hlen jY ?_ ?_ ?_)
 .simp only [aa uW];exact hI
 .simp only [aa uW];exact hIn
 .simp only [aa uW];exact kv
 .intro xs x hp l r1;by_cases ab:Good xs
  .simp only [aa ab];refine (mS xs x hp ab l r1).mono ?_;intro e s1 h1;cases e with
   | normal=>
    intro r2;refine (h1 r2).mono ?_;intro e2 s2 h2;cases e2 with
    |normal=>
     obtain ⟨g1,g2,g3,g4⟩:=h2;simp only [ze,aa g1];exact ⟨g2,g3,g4⟩
    |_=>exact h2
   |_=>exact h1
  .simp only [U ab];exact zzB
 .by_cases ab:Good items
  .simp only [aa ab];exact .inl (oe ab)
  .simp only [U ab];exact .inr trivial
 .intro c h3 g3 hj;exact (p2 c h3 g3 hj).mono λe s h=> .inl h
open Classical in
def zes {α β:Type} {g:α->β} {xs:List β} {x:β} {l:List α} (h:(xs++ [x])<+:l.map g):∃ys q zs,xs=ys.map g/\x=g q/\l=ys++q::zs:=by obtain ⟨r,J⟩:=h;rw [aY,dv] at J;obtain ⟨ys,zs,hl,h1,h2⟩:=List.map_eq_append_iff.1 J.symm;obtain ⟨q,zs',hz,h3,h4⟩:=List.map_eq_cons_iff.1 h2;exact ⟨ys,q,zs',h1.symm,h3.symm,by rw [hl,hz]⟩
def zua {α:Type} {p:α->Bool} {ys zs:List α} {q:α} (h:ys.any p=false) (J:p q=true):(ys++q::zs).find? p=some q:=by rw [List.find?_append,List.find?_eq_none.2 (λx hx=>by simpa using List.any_eq_false.1 h x hx),dV,J];rfl
def zfI {cx:Cx} {c:Code} {Q:Exit->AS->Prop} {s:AS} (h:AW cx c (λe s=>Q e { t:= [],h:= [],g:=s.g }) s):AW cx c Q s:=by
 intro E a w hs;refine aT (h E a w hs) ?_;rintro e a1 w1 ⟨E1,s1,hq,J,he⟩;have jo:∀b,¬Own E1 [] b:=λb ⟨i,hi,_⟩=>gK
 refine ⟨E1, { t:= [],h:= [],g:=s1.g },hq,⟨λk g v hk=>by simp [lk] at hk,J.nt,⟨λi o ho=>ky,λi j b hi=>gK,λb hb=>absurd hb (jo b),J.hp.mlt,J.hp.nlt⟩,J.base,J.marks,?_⟩,
  ⟨he.os,he.tape,he.output,he.size,he.keep,λb hb=>absurd hb (jo b),he.m1,he.m2,he.n,λi _ h=>by simp [hget] at h⟩⟩
 exact cx.stab _ _ _ _ _ w1 _ (λ_ _ _=>rfl) (λb hb=> .inl (hb.elim (λh=>absurd h (jo b)) .inr)) (λb hb=>hb.elim (λh=>absurd h (jo b)) J.marks.lt) (aj _) rfl rfl rfl J.ghost
def zf4 (v:AV):AV:=if v.scal=true then v else .any
def zstep (cx:Cx) (o:Oper) (s f:AS) (K:AS->AS->Prop):Prop:=
 dstOk cx.nt o.dst/\o.guard=none/\
 match o.op with
 | .move x=>known s x=true/\(s.ev x).1=true/\K (s.put o.dst true ((s.ev x).2.tag cx.P o.type)) (f.put o.dst true (zf4 ((s.ev x).2.tag cx.P o.type)))
 | .assign x=>known s x=true/\(s.ev x).1=true/\K (s.put o.dst true ((s.ev x).2.tag cx.P o.type)) (f.put o.dst true (zf4 ((s.ev x).2.tag cx.P o.type)))
 | .call c=>isVal cx.P (.call c)=true/\(aval cx.P f (.call c)).1/\K (s.put o.dst true (zf4 (aval cx.P f (.call c)).2)) (f.put o.dst true (aval cx.P f (.call c)).2)
 | .load t x=>isVal cx.P (.load t x)=true/\(aval cx.P f (.load t x)).1/\K (s.put o.dst true .any) (f.put o.dst true (aval cx.P f (.load t x)).2)
 |op=>isVal cx.P op=true/\(aval cx.P f op).1/\K (s.put o.dst true (zf4 (aval cx.P f op).2)) (f.put o.dst true (aval cx.P f op).2)
def zlQ (cx:Cx):List Oper->AS->AS->(AS->Prop)->Prop
 | [],s,_,K=>K s
 |o::r,s,f,K=>zstep cx o s f (λs' J=>zlQ cx r s' J K)
section
variable {cx : Cx} {tab : Tab} {E F : Env} {s f : AS} {a : Act} {w : World}
def zoQ {W W':World} {E E':Env} {h h':AHeap} {v:AV} {x:Value} (J:Rep W E h v x):Rep W' E' h' (zf4 v) x:=by
 unfold zf4;split
 .rename_i hs;exact Rep.scal v x hs J
 .refine' Fg
def zoR {d:Option Nat} {v:AV} {x:Value} (hs:Slots w F f a) (gd:∀k,d=some k->k<a.tmps.size) (hv:Rep w F f.h v x):Slots w F (f.put d true v) (a.put d x):=by
 cases d with
 |none=>exact hs
 | some d=>
  intro k g u J;have hd:=gd d rfl;rw [zwq] at J;have hh:(f.put (some d) true v).h=f.h:=rfl;rw [hh];split at J
  .rename_i e;simp only [aB] at e;subst e;simp only [aB,aJ] at J;obtain ⟨rfl,rfl⟩:=J;refine ⟨x,?_,λ_=>hv,λe=>gN⟩;simp [Act.put,hd]
  .rename_i e;have e:¬d=k:=λh=>e lj;obtain ⟨y,h1,h2,h3⟩:=hs k g u J;refine ⟨y,?_,h2,h3⟩;simpa [Act.put,fe e] using h1
def zzR {o:Oper} {K:AS->AS->Prop} {Q:Exit->Act->World->Prop} {next:Act->World->Prop} (hs:Sat cx E s a w) (hp:SatH F f.h w) (hf:Slots w F f a) (h:zstep cx o s f K)
  (hn:∀s' f' a',Sat cx E s' a' w->SatH F f'.h w->Slots w F f' a'->s'.h=s.h->K s' f'->next a' w):o.wpIn cx.F 0 cx.P a w next Q:=by
 obtain ⟨hd,hg,h⟩:=h;have kL:∀k,o.dst=some k->k<cx.nt:=λk e=>kQ;have w2:∀k,o.dst=some k->k<a.tmps.size:=λk e=>by rw [hs.nt];exact kL k e
 have sy:∀ (u:AS) (v:AV),(u.put o.dst true v).h=u.h:=λu v=>by unfold AS.put;cases o.dst<;>rfl
 have n3:∀u:AV,(u= .any\/u=zf4 (aval cx.P f o.op).2)->isVal cx.P o.op=true->(aval cx.P f o.op).1->K (s.put o.dst true u) (f.put o.dst true (aval cx.P f o.op).2)->o.wpIn cx.F 0 cx.P a w next Q:=by
  intro u hu h0 h1 h2;obtain ⟨v,hv,J⟩:=zqf hp hf o h1;refine Does.wpIn (zj5 h0) (R:=λv' w'=>v'=v/\w'=w) (.inl ⟨v,w,hv,rfl,rfl⟩) ?_;rintro v' w' ⟨rfl,rfl⟩;refine hn _ _ _ (hs.put kL (λ_=>?_) (λe=>gN)) (by rw [sy];exact hp) (zoR hf w2 J) (sy _ _) h2;rcases hu with rfl|rfl
  .refine' Fg
  .exact zoQ J
 have oS:∀x,(execOp a.eval o=pure (.value (a.eval x)))->(∀c,o.op≠ .defer c)->(s.ev x).1=true->K (s.put o.dst true ((s.ev x).2.tag cx.P o.type)) (f.put o.dst true (zf4 ((s.ev x).2.tag cx.P o.type)))->o.wpIn cx.F 0 cx.P a w next Q:=by intro x he h3 h1 h2;refine' F8;have J:=Rep.tag (P:=cx.P) (t:=o.type) (ev_ok hs.slots x h1);exact hn _ _ _ (hs.put kL (λ_=>J) (λe=>gN)) (by rw [sy];exact hp) (zoR hf w2 (zoQ J)) (sy _ _) h2
 refine' Eo;dsimp only at h n3 oS;split at h
 .exact oS _ rfl fZ h.2.1 h.2.2
 .exact oS _ rfl fZ h.2.1 h.2.2
 .exact n3 _ (.inr rfl) h.1 h.2.1 h.2.2
 .exact n3 _ (.inl rfl) h.1 h.2.1 h.2.2
 .exact n3 _ (.inr rfl) h.1 h.2.1 h.2.2
def zoS (ht:TabOk cx.P tab) {all:Array Oper} :∀ (l:List Nat) (pre rest:List Oper) {K:AS->Prop} {s f:AS} {a:Act},l.map (all[·]?)=(pre++rest).map some->Sat cx E s a w->SatH F f.h w->Slots w F f a->zlQ cx pre s f (λs'=>aopsY cx tab all rest K s')->
  wpOpsIn cx.F 0 cx.P all (λe a' w'=>e= .normal/\Reach cx E s.h w K a' w') l a w
 |l,[],rest,K,s,f,a,J,hs,_,_,h=>zh5 ht l rest gQ hs h
 | [],o::pre,rest,K,s,f,a,J,hs,_,_,h=>by simp at J
 | i::l,o::pre,rest,K,s,f,a,J,hs,hp,hf,h=>by
  simp only [bf,au,aX] at J;obtain ⟨hi,J⟩:=J;simp only [zlQ] at h;simp only [wpOpsIn,hi]
  have hw:Region.wanted o (yielded all a.tmps)=true:=by unfold Region.wanted;rw [h.2.1]
  rw [aa hw];refine zzR hs hp hf h ?_;intro s' f' a' ga j2 l3 he hK;have:=zoS ht l pre rest J ga j2 l3 hK;rw [he] at this;exact this
def zuh {β:Type} {id:Nat} {ops:Array Oper} {Q:Exit->AS->Prop} (tab:Tab) (ht:TabOk cx.P tab) (pre rest:List Oper) (ef:ops.toList=pre++rest) (f:β->AS)
  (hS:∀g M N A w,cx.G g M N A w->∃F b,SatH F (f b).h w/\∀k g v,lk (f b).t k=some (g,v)->g=true/\∃u,lk s.t k=some (true,.raw u)/\Rep w F (f b).h v u)
  (h:∀b,zlQ cx pre s (f b) (λs'=>aopsY cx tab ops rest (Q .normal) s')):AW cx (.region id ops false) Q s:=λE a w J=>by obtain ⟨F,b,hp,hl⟩:=hS _ _ _ _ _ J.ghost;refine cV (zaa _ (zoS (F:=F) ht _ pre rest (by rw [<-ef];exact zeU ops) J hp (λk g v hk=>?_) (h b)) AL);obtain ⟨rfl,u,h1,h2⟩:=hl k g v hk;obtain ⟨x,h3,h4,_⟩:=J.slots k true _ h1;have:=h4 rfl;simp only [Rep] at this;subst this;exact ⟨x,h3,λ_=>h2,λe=>gN⟩
def zhz {β:Type} {id:Nat} {ops:Array Oper} {y:Code} {Q:Exit->AS->Prop} (tab:Tab) (J:TabOk cx.P tab) (pre rest:List Oper) (ef:ops.toList=pre++rest) (f:β->AS)
  (hS:∀g M N A w,cx.G g M N A w->∃F b,SatH F (f b).h w/\∀k g v,lk (f b).t k=some (g,v)->g=true/\∃u,lk s.t k=some (true,.raw u)/\Rep w F (f b).h v u)
  (h:∀K,(∀s',AW cx y Q s'->K s')->∀b,zlQ cx pre s (f b) (λs'=>aopsY cx tab ops rest K s')):AW cx (.seq (.region id ops false) y) Q s:=
 zaC λK hK=>zuh tab J pre rest ef f hS (h K hK)
end
attribute [go_sem] zlQ zstep zf4 List.take_succ_cons List.take_zero List.drop_succ_cons List.drop_zero
def zui {cx:Cx} {s:AS} {Q:Exit->AS->Prop} {g:Operand} {ps:Array Tmp} {assign body:Code} {f:FuncId} {q:Nat} (fl:Nat) {items:List (List AV)} (I:List (List AV)->AHeap×Option (List (List AV)))
  (hg:s.ev g=(true,.fn (.func f) [] [.vp q 0])) (kV:cx.lone=true) (ix:zfe cx.P f)
  (iS:∀ (y:Yo cx.P items) (v0:Value),(∀g M N A w,y.G g M N A w->∃F xs,SatH F (I xs).1 w/\Rep w F (I xs).1 (.vp q 0) v0)->∀E w,SatH E [] w->y.G (some []) E.M E.N (Own E []) w->
   Calls cx.P f (#[]++ #[Value.func (.yield y.yl) #[] #[]]++ #[v0]) w (λe w'=>∃v E' h' g,e= .returned v/\((∀xs,g=some xs->xs=items)/\h'= [])/\SatH E' h' w'/\Evo fl E [] w E' h' w'/\y.G g E'.M E'.N (Own E' h') w'))
  (gy:∀i,(hget s.h i).isSome->i<fl) (nD:cx.fl<=fl) (hq:∃cs,hget s.h q=some (.var cs)) (Be:∀xs,∃cs,hget (I xs).1 q=some (.var cs))
  (hI:leH s.h (I []).1) (hIn:inH (I []).1 (idsH (I []).1)) (kv:(I []).2=s.g)
  (hlen:∀x∈items,x.length=ps.size) (jY:∀t∈ps.toList,t<cx.nt)
  (mS:∀xs x,(xs++ [x])<+:items->∀ (l:Nat) (r1:Rnd cx),AW (cx.inR l fl r1) assign (AsgK λs1=>∀r2:Rnd cx,AW (cx.inR l fl r2) body (ze (λh' g'=>leH h' (I (xs++ [x])).1/\inH (I (xs++ [x])).1 (idsH (I (xs++ [x])).1)/\g'=(I (xs++ [x])).2) (λ_ _ _=>False)) s1)
   { t:=zeu ps.toList x (keepT (I xs).1 s.t),h:=(I xs).1,g:=(I xs).2 })
  (oe:Q .normal { t:=keepT (I items).1 s.t,h:=(I items).1,g:=(I items).2 }):
  AW cx (.rangeFunc g ps assign body) Q s:=by
 have e1:hsel (λ_=>false) s.h= []:=by
  induction s.h with
  |nil=>rfl
  |cons a h ih=>simp only [hsel];rw [U fZ];exact ih
 have an:hsel (λi=> !(λ_=>false) i) s.h=s.h:=zhc (λq _=>rfl);refine zh7 (Kit:=λg h'=>(∀xs,g=some xs->xs=items)/\h'= []) (items:=items) (fl:=fl) (caps':= [.any]) (λ_=>false) I (λ_ _ _=>False) kV hg (by simp [AV.leL,AV.le]) ix ?_ gy nD ?_ ?_ (by rw [an];exact hI) hIn kv (λ_ _ _ _=>rfl) (λ_ _ _ h=>h.elim) ?_ hlen jY mS ?_ ?_
 .intro E0 w0 pf qc h0 oJ qY;refine' IK
  have uH:qc= #[v0]:=by apply Array.ext';simpa using lU
  subst uH;refine ⟨λw=>∃F xs,SatH F (I xs).1 w/\Rep w F (I xs).1 (.vp q 0) v0,?_,?_,λ_ _ _ h=>h.elim⟩
  .intro y hy E w lf _ _ hG;rw [e1] at lf hG |-;exact iS y v0 hy E w lf hG
  .intro xs E w lf kn;refine ⟨E,xs,lf,?_⟩;obtain ⟨cs,hc⟩:=Be xs;obtain ⟨C8,J⟩:=hq;have uX:=kn q (gy q (by rw [J];rfl)) (by rw [hc];rfl);simp only [Rep] at n6 |-;obtain ⟨b,cs',h1,h2,h3⟩:=n6;unfold GoesOn at uX;rw [J] at uX;exact ⟨b,cs,hc,uX.1.trans h2,h3⟩
 .intro i o _ h;cases h
 .intro j hj;simp [AV.idsL,AV.ids] at hj
 .refine' Ie
 .rintro h1 ⟨_,rfl⟩;exact oe
 .exact λ_ _ _ _ _ h=>h.elim
open Go
def aopsF (cx:Cx) (tab:Tab) (all:Array Oper) (i:Nat):Nat->List Oper->(AS->Prop)->AS->Prop
 |0,r,K,s=>∃o,hget s.h i=some o/\aopsT cx tab all r K (s.fz i o)
 |n+1,o::r,K,s=>match zbu s all o.guard with
  |some G=>aopT cx tab G o (aopsF cx tab all i n r K) s
  |none=>False
 |_+1,[],_,_=>False
attribute [go_sem] aopsF
section
variable {cx : Cx} {tab : Tab} {s : AS}
def znq (ht:TabOk cx.P tab) {all:Array Oper} {x:Nat} :∀ (n:Nat) (l:List Nat) (ops:List Oper) {K:AS->Prop} {s:AS} {E:Env} {a:Act} {w:World},l.map (all[·]?)=ops.map some->Sat cx E s a w->aopsF cx tab all x n ops K s->
  wpOpsIn cx.F 0 cx.P all (λe a' w'=>e= .normal/\Reach cx E s.h w K a' w') l a w
 |0,l,ops,K,s,E,a,w,J,hs,h=>by simp only [aopsF] at h;obtain ⟨o,hi,h⟩:=h;obtain ⟨h1,h2⟩:=zDM hs hi;refine zaa _ (zjI ht l ops J h1 h) ?_;rintro e a2 w2 ⟨rfl,hr⟩;exact ⟨rfl,hr.trans h2⟩
 |n+1,l,[],K,s,E,a,w,J,hs,h=>by simp only [aopsF] at h
 |n+1,[],o::ops,K,s,E,a,w,J,hs,h=>by simp at J
 | n+1,i::l,o::ops,K,s,E,a,w,J,hs,h=>by
  refine' EW;simp only [aopsF] at h;split at h
  .refine' D8
   .refine' D3;have ih:=znq ht n l ops J ab hk;refine' DI
   .refine' DW;have ih:=znq ht n l ops J ab hk;refine' DI
  .exact h.elim
def zfx {id:Nat} {ops:Array Oper} {y:Code} {Q:Exit->AS->Prop} (tab:Tab) (J:TabOk cx.P tab) (n i:Nat) (h:∀K,(∀s',AW cx y Q s'->K s')->aopsF cx tab ops i n ops.toList K s):AW cx (.seq (.region id ops false) y) Q s:=
 zaC λK hK=>λE a w hs=>cV (zaa _ (znq J n _ _ (zeU ops) hs (h K hK)) AL)
end
open Go
def AV.pla:AV->Bool
 | .fn _ [] []=>true
 |v=>v.scal
def lend1 (V:Nat):AV->AV
 | .raw _=> .vp V 0
 |v=>if v.pla=true then v else .any
def back1 (V:Nat) (u:Value):AV->AV
 | .vp i o=>if i=V/\o=0 then .raw u else .any
 |v=>if v.pla=true then v else .any
def mapT (f:AV->AV) (t:List (Nat×(Bool×AV))):List (Nat×(Bool×AV)):=t.map λq=>(q.1,(q.2.1,f q.2.2))
def zgm (u:Value):List (Nat×(Bool×AV))->Prop
 | []=>True
 |q::r=>(match q.2.2 with| .raw x=>x=u|_=>True)/\zgm u r
def zr3 {f:AV->AV} :∀ (t:List (Nat×(Bool×AV))) (k:Nat),lk (mapT f t) k=(lk t k).map λq=>(q.1,f q.2)
  | [],k=>rfl
  | (j,(g,v))::r,k=>by
    have J:=zr3 (f:=f) r k;unfold mapT at J |-;simp only [au,lk];by_cases e:j=k
    · simp [e]
    · simp only [e,aK];exact J
def zmh {u:Value} :∀ {t:List (Nat×(Bool×AV))} {k:Nat} {g:Bool} {x:Value},zgm u t->lk t k=some (g,.raw x)->x=u
  | [],k,g,x,h,J=>by simp [lk] at J
  | (j,(g',v))::r,k,g,x,h,J=>by
    simp only [lk] at J;split at J
    · simp only [aB,aJ] at J
      obtain ⟨rfl,rfl⟩:=J;exact h.1
    · exact zmh h.2 J
def Rep.pla {W W':World} {E E':Env} {h h':AHeap} {v:AV} {x:Value} (hp:v.pla=true) (J:Rep W E h v x):Rep W' E' h' v x:=by
 unfold AV.pla at hp;split at hp
 .simp only [Rep,Reps] at J |-;exact J
 .exact Rep.scal _ _ hp J
def zyG {cx:Cx} {fl:Nat} {E0:Env} {h0:AHeap} {w0:World} {ds:List Deferred} {items:List (List AV)} {I:List (List AV)→AHeap×Option (List (List AV))} {J:Code→AHeap→Option (List (List AV))→Prop} {rec:LoopState→Option Code→Loop} {y:Yo cx.P items} {base nt fl':Nat}
    {xs:List (List AV)} {t:List (Nat×(Bool×AV))} (V:Nat) (u:Value) (hy:y.G=zcZ cx (w0.heap.size+1) w0.heap.size fl (fun _=>false) E0 h0 w0 ds I J rec) (hs0:SatH E0 h0 w0) (hmk:∀b,zaL ds b→b<w0.heap.size) (hG:∀g M N A w,cx.G g M N A w)
    (hu:Rep w0 E0 h0 (.vp V 0) u) (hV:V<fl) (hVI:∀xs,(hget (I xs).1 V).isSome) (hr:zgm u t)
    {E:Env} {a:Act} {w:World} (hs:Sat (cxY cx.P base nt fl' y true) E { t:=t,h:= [],g:=some xs } a w):
    ∃ E2,Sat { cxOf cx.P base nt fl with rq:=true } E2 { t:=mapT (lend1 V) t,h:=(I xs).1,g:=none } a w∧∀E3 s1 a' w' xs',Sat { cxOf cx.P base nt fl with rq:=true } E3 s1 a' w'→Evo fl E2 (I xs).1 w E3 s1.h w'→leH s1.h (I xs').1→inH (I xs').1 (idsH (I xs').1)→
      ∃E',Sat (cxY cx.P base nt fl' y true) E' { t:=mapT (back1 V u) s1.t,h:= [],g:=some xs' } a' w'∧Evo fl' E [] w E' [] w':=by
  refine' Hu
  rw [← hl,← hd] at hy
  have hG0:y.G (some xs) E.M E.N (fun b=>Own E [] b∨zaL a.defers b) w:=hs.ghost
  rw [hy] at hG0
  simp only [zcZ] at hG0
  obtain ⟨E2,k,hrl⟩:=hG0
  have hnd:a.defers= []:=hs.base.2 rfl
  have hnA:∀b,¬(Own E [] b∨zaL a.defers b):=by
    rw [hnd]
    rintro b (⟨i,hi,_⟩|⟨dd,hdd,_⟩)
    · simp [hget] at hi
    · cases hdd
  have hsz:=k.size
  have hZ:∀b,b=l∨b=d→¬Own E2 (I xs).1 b∧¬E2.M b∧b<w.heap.size:=fun b hb=>by
    refine ⟨fun ho=>?_,fun hm=>?_,fT⟩
    · rcases k.own0 b ho with h|h
      · have:=(hs0.own b (zan h)).1;omega
      · omega
    · rcases k.m0 b hm with h|h
      · have:=hs0.mlt b h;omega
      · omega
  simp only [Rep] at hu
  obtain ⟨b0,cs0,hu1,hu2,rfl⟩:=hu
  have hgoV:GoesOn E0 h0 E2 (I xs).1 V:=(k.far.go V hV (hVI xs)).2
  have hE2V:E2.O V=some b0∧∃cs',hget (I xs).1 V=some (.var cs'):=by
    unfold GoesOn at hgoV
    rw [hu1] at hgoV
    exact ⟨hgoV.1.trans hu2,hgoV.2.imp fun _ h=>h.1⟩
  have hsB:Sat { cxOf cx.P base nt fl with rq:=true } E2 { t:=mapT (lend1 V) t,h:=(I xs).1,g:=none } a w:=
    { slots :=fun kk g v hk=>by
        have hk':lk (mapT (lend1 V) t) kk=some (g,v):=hk
        refine' I0
        refine' GA
        obtain ⟨x,h1,h2,h3⟩:=hs.slots kk g1 v1 hq
        refine ⟨x,h1,fun e=>?_,h3⟩
        have hx:=h2 e
        unfold lend1
        split
        · rename_i z
          have:=zmh hr hq
          refine' G1
          rw [hx,this]
          obtain ⟨g1,cs',g2⟩:=hE2V
          exact ⟨b0,cs',g2,g1,rfl⟩
        · split
          · rename_i hp
            exact Rep.pla hp hx
          · refine' Fg
      nt:=hs.nt
      hp:=k.hp
      base:=⟨hs.base.1,fun _=>hnd⟩
      marks:=by rw [hnd];exact ⟨fZ,fZ⟩
      ghost:=trivial }
  refine ⟨E2,hsB,fun E3 s1 a' w' xs' hs3 hev hle hin=>?_⟩
  have hnd':a'.defers= []:=hs3.base.2 rfl
  have hev':Evo fl E2 (I xs).1 w E3 s1.h w':=hev
  have hl':w'.heap[l]?=w.heap[l]?:=hev'.keep l (hZ l (.inl rfl)).2.2 (hZ l (.inl rfl)).1 (hZ l (.inl rfl)).2.1
  have hd':w'.heap[d]?=w.heap[d]?:=hev'.keep d (hZ d (.inr rfl)).2.2 (hZ d (.inr rfl)).1 (hZ d (.inr rfl)).2.1
  have kr:=k.round hl hd hev'.l hs3.hp (hs3.hp.le hle hin) (fun b hb=>zi7 hle hb) (fun i hg=>⟨by
    obtain ⟨o',ho'⟩:=bE.1 hg
    obtain ⟨o,ho,_⟩:=zdL hle ho'
    simp [ho],zd9 hle hg⟩) (fun _ _=>rfl) (hd'.trans k.dd) (g':=(I xs').2) (hG _ _ _ _ _)
  obtain ⟨E',hE'⟩:∃E':Env,E'= { E with M:=fun b=>E.M b∨(w.heap.size≤b∧b<w'.heap.size) } :=⟨_,rfl⟩
  have hM:E'.M=fun b=>E.M b∨(w.heap.size≤b∧b<w'.heap.size):=nE
  have hN:E'.N=E.N:=nE
  have hA:(fun b=>Own E' [] b∨zaL a'.defers b)=(fun b=>Own E [] b∨zaL a.defers b):=by
    funext b
    rw [hnd,hnd',hE']
    rfl
  refine ⟨E',⟨fun kk g v hk=>?_,hs3.nt,⟨fun i o ho=>ky,fun i j b hi=>gK,fun b hb=>?_,fun b hb=>?_,fun b hb=>?_⟩,⟨aD hs.base.1 hev'.size,fun _=>hnd'⟩,by rw [hnd'];exact ⟨fZ,fZ⟩,?_⟩,⟨hev'.os,hev'.tape,hev'.output,hev'.size,fun b hb ho hm=>hev'.keep b hb (fun h=>hm (k.m1 b (.inl h))) (fun h=>hm (k.m1 b (.inr h))),fun b hb=>?_,fun b hb=>by rw [hM];exact .inl hb,fun b hb=>by rw [hM] at hb;exact hb.imp id (·.1),hN,fun i _ hi=>gK⟩⟩
  · have hk':lk (mapT (back1 V (.pointer (some ⟨b0,0,none⟩))) s1.t) kk=some (g,v):=hk
    refine' I0
    refine' GA
    obtain ⟨x,h1,h2,h3⟩:=hs3.slots kk g1 v1 hq
    refine ⟨x,h1,fun e=>?_,h3⟩
    have hx:=h2 e
    unfold back1
    split
    · split
      · rename_i hio
        obtain ⟨rfl,rfl⟩:=hio
        refine' G1
        obtain ⟨b3,cs3,q1,q2,rfl⟩:=hx
        have hgo3:=(hev'.go _ hV (by simp [q1])).2
        obtain ⟨g1,cs',g2⟩:=hE2V
        unfold GoesOn at hgo3
        rw [g2] at hgo3
        have:=hgo3.1
        rw [q2,g1] at this
        cases this
        rfl
      · refine' Fg
    · split
      · rename_i hp
        exact Rep.pla hp hx
      · refine' Fg
  · obtain ⟨i,hi,_⟩:=hb
    simp [hget] at hi
  · rw [hM] at hb
    rcases hb with hb|hb
    · exact aE (hs.hp.mlt b hb) hev'.size
    · exact hb.2
  · rw [hN] at hb
    exact aE (hs.hp.nlt b hb) hev'.size
  · show y.G (some xs') E'.M E'.N (fun b=>Own E' [] b∨zaL a'.defers b) w'
    rw [hy,hA,hM,hN]
    simp only [zcZ]
    exact ⟨E3,kr,hl'.trans hrl⟩
  · obtain ⟨i,hi,_⟩:=hb
    simp [hget] at hi
def aopsL (cx:Cx) (tab:Tab) (all:Array Oper):Nat->List Oper->(List Oper->AS->Prop)->AS->Prop
 |0,r,K,s=>K r s
 |n+1,o::r,K,s=>match zbu s all o.guard with
  |some G=>aopT cx tab G o (aopsL cx tab all n r K) s
  |none=>False
 |_+1,[],_,_=>False
def znM {cx:Cx} {tab:Tab} (ht:TabOk cx.P tab) {all:Array Oper} {R:Exit->Act->World->Prop} :∀ (n:Nat) (l:List Nat) (ops:List Oper) {K:List Oper->AS->Prop} {s:AS} {E:Env} {a:Act} {w:World},l.map (all[·]?)=ops.map some->Sat cx E s a w->aopsL cx tab all n ops K s->
  (∀l' oi E' s' a' w',l'.map (all[·]?)=oi.map some->K oi s'->Sat cx E' s' a' w'->Evo cx.fl E s.h w E' s'.h w'->wpOpsIn cx.F 0 cx.P all R l' a' w')->wpOpsIn cx.F 0 cx.P all R l a w
 |0,l,ops,K,s,E,a,w,J,hs,h,hR=>hR l ops E s a w J h hs (Evo.refl _ _ _ _)
 |n+1,l,[],K,s,E,a,w,J,hs,h,hR=>by simp only [aopsL] at h
 |n+1,[],o::ops,K,s,E,a,w,J,hs,h,hR=>by simp at J
 | n+1,i::l,o::ops,K,s,E,a,w,J,hs,h,hR=>by
  refine' EW;simp only [aopsL] at h;split at h
  .refine' D8
   .refine' D3;refine' He
   .refine' DW;refine' He
  .exact h.elim
def zEh {cx:Cx} {items:List (List AV)} (I:List (List AV)->AHeap×Option (List (List AV))) (y:Yo cx.P items) (base nt fl fl' V:Nat) (u:Value) (E:Env) (ws:World) (E2:Env) (h2:AHeap) (w:World):Prop:=
 ∀J s1 a' w' xs',Sat { cxOf cx.P base nt fl with rq:=true } J s1 a' w'->Evo fl E2 h2 w J s1.h w'->leH s1.h (I xs').1->inH (I xs').1 (idsH (I xs').1)->
  ∃E',Sat (cxY cx.P base nt fl' y true) E' { t:=mapT (back1 V u) s1.t,h:= [],g:=some xs' } a' w'/\Evo fl' E [] ws E' [] w'
def LA {cx:Cx} {items:List (List AV)} (I:List (List AV)->AHeap×Option (List (List AV))) (y:Yo cx.P items) (base nt fl fl' V:Nat) (u:Value) (c:Code) (Q:Exit->AS->Prop) (s:AS):Prop:=
 ∀E ws E2 a w,Sat { cxOf cx.P base nt fl with rq:=true } E2 s a w->zEh I y base nt fl fl' V u E ws E2 s.h w->c.wpIn (cxY cx.P base nt fl' y true).F 0 cx.P (λe J w'=>Reach (cxY cx.P base nt fl' y true) E [] ws (Q e) J w') a w
def backK (I:List (List AV)->AHeap×Option (List (List AV))) (V:Nat) (u:Value) (K:AS->Prop) (s:AS):Prop:=∃xs',leH s.h (I xs').1/\inH (I xs').1 (idsH (I xs').1)/\K { t:=mapT (back1 V u) s.t,h:= [],g:=some xs' }
def la_in {cx:Cx} {fl:Nat} {E0:Env} {h0:AHeap} {w0:World} {ds:List Deferred} {items:List (List AV)} {I:List (List AV)->AHeap×Option (List (List AV))} {J:Code->AHeap->Option (List (List AV))->Prop} {rec:LoopState->Option Code->Loop} {y:Yo cx.P items} {base nt fl':Nat}
  {c:Code} {Q:Exit->AS->Prop} {xs:List (List AV)} {t:List (Nat×(Bool×AV))} (V:Nat) (u:Value) (hy:y.G=zcZ cx (w0.heap.size+1) w0.heap.size fl (λ_=>false) E0 h0 w0 ds I J rec) (e1:SatH E0 h0 w0) (mv:∀b,zaL ds b->b<w0.heap.size) (hG:∀g M N A w,cx.G g M N A w)
  (hu:Rep w0 E0 h0 (.vp V 0) u) (hV:V<fl) (Bf:∀xs,(hget (I xs).1 V).isSome) (hr:zgm u t)
  (h:LA I y base nt fl fl' V u c Q { t:=mapT (lend1 V) t,h:=(I xs).1,g:=none }):AW (cxY cx.P base nt fl' y true) c Q { t:=t,h:= [],g:=some xs } :=by intro E a w hs;obtain ⟨E2,hL,n8⟩:=zyG V u hy e1 mv hG hu hV Bf hr hs;exact h E w E2 a w hL n8
section
variable {cx : Cx} {items : List (List AV)} {I : List (List AV) -> AHeap × Option (List (List AV))} {y : Yo cx.P items} {base nt fl fl' V : Nat} {u : Value} {c c' : Code} {Q : Exit -> AS -> Prop} {s : AS}
def la_aw (h:AW { cxOf cx.P base nt fl with rq:=true } c (λe=>backK I V u (Q e)) s):LA I y base nt fl fl' V u c Q s:=by intro E ws E2 a w hs tk;refine aT (h E2 a w hs) ?_;rintro e a' w' ⟨E3,s1,⟨xs',hle,iq,hQ⟩,kB,J⟩;obtain ⟨E',h1,h2⟩:=tk E3 s1 a' w' xs' kB J hle iq;exact ⟨E',_,hQ,h1,h2⟩
def zBZ (h:∀K,(∀s',LA I y base nt fl fl' V u c' Q s'->K s')->AW { cxOf cx.P base nt fl with rq:=true } c (thenK K (λe=>backK I V u (Q e))) s):LA I y base nt fl fl' V u (.seq c c') Q s:=by
 intro E ws E2 a w hs tk;refine wpIn_seq (aT (h _ (λ_ h=>h) E2 a w hs) ?_);intro e a1 w1 J;cases e with
 |normal=>
  obtain ⟨E3,s1,hA,kB,uY⟩:=J;exact hA E ws E3 a1 w1 kB (λE4 s4 a4 w4 xs' g1 g2 g3 g4=>tk E4 s4 a4 w4 xs' g1 (uY.trans g2) g3 g4)
 |_=>
  obtain ⟨E3,s1,⟨xs',hle,iq,hQ⟩,kB,uY⟩:=J;obtain ⟨E',h1,h2⟩:=tk E3 s1 a1 w1 xs' kB uY hle iq;exact ⟨E',_,hQ,h1,h2⟩
def zyH {id:Nat} {ops:Array Oper} {tab:Tab} (J:TabOk cx.P tab) (n:Nat) (h:aopsL { cxOf cx.P base nt fl with rq:=true } tab ops n ops.toList (λr=>backK I V u (aopsY (cxY cx.P base nt fl' y true) tab ops r (AW (cxY cx.P base nt fl' y true) c Q))) s):
  LA I y base nt fl fl' V u (.seq (.region id ops false) c) Q s:=by intro E ws E2 a w hs tk;refine wpIn_seq (cV (znM (cx:= { cxOf cx.P base nt fl with rq:=true }) J n _ _ (zeU ops) hs h ?_));rintro l' oi E4 s2 a2 w2 rT ⟨xs',hle,iq,hY⟩ kf Bg;obtain ⟨E',Bi,Bj⟩:=tk E4 s2 a2 w2 xs' kf Bg hle iq;refine zaa _ (zh5 (cx:=cxY cx.P base nt fl' y true) J l' oi rT Bi hY) ?_;rintro e a3 w3 ⟨rfl,E5,s5,h5,Bl,Bm⟩;exact aT (h5 E5 a3 w3 Bl) (λe _ _ hr=>hr.trans (Bj.trans Bm))
end
attribute [go_sem] mapT lend1 back1 AV.pla zgm aopsL backK
open Go
mutual
def zB6 {i:Nat} {g:AV->AV} :∀a:AV,i ∉ a.ids->a.tr (onI i g)=a
 | .agg cs,h| .tup cs,h| .dp cs,h=>by rw [AV.tr,zdI cs qm]
 | .fn f fs cs,h=>by simp only [AV.ids,aS,cr] at h;rw [AV.tr,zdI fs h.1,zdI cs h.2]
 | .asl k rows,h=>by rw [AV.tr,zy0 rows qm]
 | .iface t v,h=>by rw [AV.tr,zB6 v qm]
 | .amap ks vs,h=>by rw [AV.tr,zdI vs qm]
 | .d _,_| .nils _,_| .nilfn,_| .any,_| .nilmap,_| .raw _,_=>by rw [AV.tr]
 | .vp j o,h| .tp j o,h| .bsl j o,h| .ap j n k r o,h| .osl j k m o l,h| .vsl j k o l,h| .map j,h| .itr j,h=>by rw [AV.tr,onI,U (λe=>h (by rw [zwh e];exact List.mem_singleton_self i))]
def zdI {i:Nat} {g:AV->AV} :∀cs:List AV,i ∉ AV.idsL cs->AV.trL (onI i g) cs=cs
 | [],_=>by rw [AV.trL]
 |x::xs,h=>by simp only [AV.idsL,aS,cr] at h;rw [AV.trL,zB6 x h.1,zdI xs h.2]
def zy0 {i:Nat} {g:AV->AV} :∀cs:List (List AV),i ∉ AV.idsR cs->AV.trR (onI i g) cs=cs
 | [],_=>by rw [AV.trR]
 |x::xs,h=>by simp only [AV.idsR,aS,cr] at h;rw [AV.trR,zdI x h.1,zy0 xs h.2]
end
def znU {f:AV->AV} :∀ {a b:List AV},AV.trL f (a++b)=AV.trL f a++AV.trL f b
 | [],b=>by rw [AV.trL];rfl
 |x::a,b=>by rw [bf,AV.trL,AV.trL,znU];rfl
def zp7 {f:AV->AV} :∀l:List D,AV.trL f (l.map .d)=l.map .d
 | []=>rfl
 |x::l=>by rw [au,AV.trL,AV.tr,zp7 l]
def znV {f:AV->AV} :∀m:Nat,AV.trL f (List.replicate m .any)=List.replicate m .any
 |0=>rfl
 |m+1=>by rw [dq,AV.trL,AV.tr,znV m]
def AV.shr (n m:Nat):AV->AV
 | .osl i k t off len=>if t=n/\off=0/\len=m then .osl i k m 0 m else .any
 |_=> .any
def zy1 {cx:Cx} {c:Code} {Q:Exit->AS->Prop} {s:AS} (i:Nat) {k:Nat} {xs ys:List (List D)} (hi:hget s.h i=some (.arr k (xs++ys))) (b5:0<ys.length) (a7:xs.length+ys.length<9223372036854775808) (gy:cx.fl<=i)
  (h:AW cx c Q (s.tr i (AV.shr (xs.length+ys.length) xs.length) ((i,.arr k xs)::htr (onI i (AV.shr (xs.length+ys.length) xs.length)) (hdel s.h i)))):AW cx c Q s:=λE a w hs=>by
 have ec:=hs.hp.heap i _ hi;refine' Hs;rcases ec with ⟨_,h1⟩|⟨b,c',T,fz,g1,g2,g3,g4,g5,g6⟩
 .rw [ae] at h1;rcases h1 with h1|h1
  .simp [eH.1 h1] at b5
  .simp only [zhJ] at h1;omega
 rw [ae] at g4;have oth:∀j,j≠i->hget ((i,.arr k xs)::htr (onI i (AV.shr (xs.length+ys.length) xs.length)) (hdel s.h i)) j=(hget s.h j).map (AObj.tr (onI i (AV.shr (xs.length+ys.length) xs.length))):=λj hj=>by simp only [hget];rw [U (bx hj),zhb,zeW,U hj]
 have sub:(hget ((i,.arr k xs)::htr (onI i (AV.shr (xs.length+ys.length) xs.length)) (hdel s.h i)) i).isSome->(hget s.h i).isSome:=λ_=>nz
 have hT:Turn w E s.h ((i,.arr k xs)::htr (onI i (AV.shr (xs.length+ys.length) xs.length)) (hdel s.h i)) i (AV.shr (xs.length+ys.length) xs.length):=by
  refine ⟨oth,sub,λa v ha J=>?_,λo ho=>?_⟩
  .cases a<;>simp only [AV.ref,aB,reduceCtorEq] at ha<;>subst ha<;>simp only [AV.shr,Rep]
   case osl j k' mm off len=>
    split
    .rename_i hc;obtain ⟨rfl,rfl,rfl⟩:=hc;refine' DV;obtain ⟨e0,xs',h1,_,_,h6⟩:=J;rw [hi] at h1;cases h1;refine ⟨e0,xs,by simp only [hget,av],aj _,fT,λ_=>?_⟩;rcases h6 (by rw [ae]) with ⟨⟨_,h7⟩,_⟩|⟨b',h7,rfl⟩|⟨h7,_⟩
     .omega
     .exact .inr (.inl ⟨b',h7,rfl⟩)
     .exact absurd rfl h7
    .refine' Fg
  .simp only [hget,av,aB] at ho;subst ho;simp only [RepObj];have:=g5.take xs.length;rw [List.take_left] at this;exact .inr ⟨b,c',T,fz,g1,g2,g3,fT,RepRows.step (λb _ hx=>zf1 oth sub hx) (λ_ _ _=>rfl) _ _ _ this,g6⟩
 obtain ⟨q1,q2⟩:=zsy hs hT (.inl gy);exact aT (h E a w q1) (λ_ _ _ J=>J.trans q2)
def zvL {cx:Cx} {c:Code} {Q:Exit->AS->Prop} {s:AS} (j t:Nat) (k:Nat) (hj:hget s.h j=none) (gy:cx.fl<=j) (hk:lk s.t t=some (true,.nils k)) (h:AW cx c Q { s with t:=(t,(true,.osl j k 0 0 0))::s.t,h:=(j,.arr k [])::s.h }):AW cx c Q s:=λE a w hs=>by
  have cc:Chg E s.h w (E.set j none 0) ((j,.arr k [])::s.h) w j:=
    { os:=rfl,tape:=rfl,output:=rfl,size:=aj _,envO:=λj e=>gY,envC:=λj e=>gY,M:=rfl,N:=rfl,hh:=λj e=>kT,
      gi:=by simp [GoesOn,hj]
      blk:=λb hb _=>rfl
      new:=λb _ hb=>by simp [Env.set] at hb }
  have J:=cc.sat (t:=s.t) (g:=s.g) hs (λo ho=>by refine' DD;exact .inl ⟨gM,.inl trivial⟩)
  refine' Jc;refine aT (h _ a w ⟨λj g v hj=>?_,J.nt,J.hp,J.base,J.marks,J.ghost⟩) (λ_ _ _ hr=>hr.trans (cc.evo (.inr gy)));simp only [lk] at hj;split at hj
  · rename_i e;subst e
    simp only [aB,aJ] at hj;obtain ⟨rfl,rfl⟩:=hj;refine ⟨_,h1,λ_=>?_,λe=>gN⟩;refine' Fg;exact ⟨⟨_,_,_,rfl⟩,[],iJ,fZ,fZ,λ_=> .inl ⟨gM,trivial⟩⟩
  · exact J.slots j g v hj
attribute [go_sem] znU AV.shr
open Go Go.Proofs
def ty1:ty Go.Proofs.Tryz.prog 1=⟨.func,1,8⟩:=fX
def zk1:zR Go.Proofs.Tryz.prog 1=true:=fX
def zc1:zK Go.Proofs.Tryz.prog 12 1= [.nilfn]:=fX
def ty3:ty Go.Proofs.Tryz.prog 3=⟨.int .i64,1,8⟩:=fX
def zk3:zR Go.Proofs.Tryz.prog 3=true:=fX
def tt3:zX Go.Proofs.Tryz.prog 12 3=false:=fX
def zc3:zK Go.Proofs.Tryz.prog 12 3= [.d (.int .i64 0)]:=fX
def ty4:ty Go.Proofs.Tryz.prog 4=⟨.bool,1,1⟩:=fX
def zk4:zR Go.Proofs.Tryz.prog 4=true:=fX
def tt4:zX Go.Proofs.Tryz.prog 12 4=false:=fX
def zc4:zK Go.Proofs.Tryz.prog 12 4= [.d (.bool false)]:=fX
def ty5:ty Go.Proofs.Tryz.prog 5=⟨.int .u8,1,1⟩:=fX
def zk5:zR Go.Proofs.Tryz.prog 5=true:=fX
def zc5:zK Go.Proofs.Tryz.prog 12 5= [.d (.int .u8 0)]:=fX
def ty9:ty Go.Proofs.Tryz.prog 9=⟨.str,1,16⟩:=fX
def zk9:zR Go.Proofs.Tryz.prog 9=true:=fX
def tt9:zX Go.Proofs.Tryz.prog 12 9=false:=fX
def zc9:zK Go.Proofs.Tryz.prog 12 9= [.d (.str [])]:=fX
def ty20:ty Go.Proofs.Tryz.prog 20=⟨.iface,1,16⟩:=fX
def zk20:zR Go.Proofs.Tryz.prog 20=true:=fX
def zc20:zK Go.Proofs.Tryz.prog 12 20= [.d .nilif]:=fX
def ty22:ty Go.Proofs.Tryz.prog 22=⟨.int .u64,1,8⟩:=fX
def zk22:zR Go.Proofs.Tryz.prog 22=true:=fX
def tt22:zX Go.Proofs.Tryz.prog 12 22=false:=fX
def zc22:zK Go.Proofs.Tryz.prog 12 22= [.d (.int .u64 0)]:=fX
def ty23:ty Go.Proofs.Tryz.prog 23=⟨.slice 9,1,24⟩:=fX
def zk23:zR Go.Proofs.Tryz.prog 23=true:=fX
def tt23:zX Go.Proofs.Tryz.prog 12 23=false:=fX
def zc23:zK Go.Proofs.Tryz.prog 12 23= [.nils 1]:=fX
def ty25:ty Go.Proofs.Tryz.prog 25=⟨.struct [(0,22),(1,23)],2,32⟩:=fX
def zk25:zR Go.Proofs.Tryz.prog 25=true:=fX
def tt25:zX Go.Proofs.Tryz.prog 12 25=false:=fX
def zc25:zK Go.Proofs.Tryz.prog 12 25= [.d (.int .u64 0),.nils 1]:=fX
def ty27:ty Go.Proofs.Tryz.prog 27=⟨.func,1,8⟩:=fX
def ty28:ty Go.Proofs.Tryz.prog 28=⟨.slice 22,1,24⟩:=fX
def ty32:ty Go.Proofs.Tryz.prog 32=⟨.slice 195,1,24⟩:=fX
def tt32:zX Go.Proofs.Tryz.prog 12 32=false:=fX
def ty33:ty Go.Proofs.Tryz.prog 33=⟨.slice 3,1,24⟩:=fX
def zk33:zR Go.Proofs.Tryz.prog 33=true:=fX
def tt33:zX Go.Proofs.Tryz.prog 12 33=false:=fX
def zc33:zK Go.Proofs.Tryz.prog 12 33= [.nils 1]:=fX
def ty35:ty Go.Proofs.Tryz.prog 35=⟨.struct [(0,9),(1,32),(2,3),(3,4),(4,33)],5,80⟩:=fX
def zk35:zR Go.Proofs.Tryz.prog 35=true:=fX
def tt35:zX Go.Proofs.Tryz.prog 12 35=false:=fX
def zc35:zK Go.Proofs.Tryz.prog 12 35= [.d (.str []),.nils 2,.d (.int .i64 0),.d (.bool false),.nils 1]:=fX
def ty37:ty Go.Proofs.Tryz.prog 37=⟨.struct [(0,3),(1,3)],2,16⟩:=fX
def zk37:zR Go.Proofs.Tryz.prog 37=true:=fX
def tt37:zX Go.Proofs.Tryz.prog 12 37=false:=fX
def zc37:zK Go.Proofs.Tryz.prog 12 37= [.d (.int .i64 0),.d (.int .i64 0)]:=fX
def si37:(Go.Proofs.Tryz.prog.stoodInHeld 37)=false:=fX
def eg37:(Go.Proofs.Tryz.prog.eqGuardType Go.Proofs.Tryz.prog.depth 37)=false:=fX
def ty39:ty Go.Proofs.Tryz.prog 39=⟨.struct [(0,22),(1,3)],2,16⟩:=fX
def zk39:zR Go.Proofs.Tryz.prog 39=true:=fX
def tt39:zX Go.Proofs.Tryz.prog 12 39=false:=fX
def zc39:zK Go.Proofs.Tryz.prog 12 39= [.d (.int .u64 0),.d (.int .i64 0)]:=fX
def si39:(Go.Proofs.Tryz.prog.stoodInHeld 39)=false:=fX
def eg39:(Go.Proofs.Tryz.prog.eqGuardType Go.Proofs.Tryz.prog.depth 39)=false:=fX
def ty40:ty Go.Proofs.Tryz.prog 40=⟨.slice 155,1,24⟩:=fX
def ty42:ty Go.Proofs.Tryz.prog 42=⟨.struct [(0,35),(5,37),(7,39),(9,40),(10,4)],11,144⟩:=fX
def zk42:zR Go.Proofs.Tryz.prog 42=true:=fX
def tt42:zX Go.Proofs.Tryz.prog 12 42=false:=fX
def zc42:zK Go.Proofs.Tryz.prog 12 42= [.d (.str []),.nils 2,.d (.int .i64 0),.d (.bool false),.nils 1,.d (.int .i64 0),.d (.int .i64 0),.d (.int .u64 0),.d (.int .i64 0),.nils 66,.d (.bool false)]:=fX
def ty43:ty Go.Proofs.Tryz.prog 43=⟨.slice 54,1,24⟩:=fX
def ty45:ty Go.Proofs.Tryz.prog 45=⟨.slice 66,1,24⟩:=fX
def ty47:ty Go.Proofs.Tryz.prog 47=⟨.struct [(0,42),(11,45)],12,168⟩:=fX
def zk47:zR Go.Proofs.Tryz.prog 47=true:=fX
def tt47:zX Go.Proofs.Tryz.prog 12 47=false:=fX
def zc47:zK Go.Proofs.Tryz.prog 12 47= [.d (.str []),.nils 2,.d (.int .i64 0),.d (.bool false),.nils 1,.d (.int .i64 0),.d (.int .i64 0),.d (.int .u64 0),.d (.int .i64 0),.nils 66,.d (.bool false),.nils 8]:=fX
def ty54:ty Go.Proofs.Tryz.prog 54=⟨.struct [(0,3),(1,3),(2,3),(3,9)],4,40⟩:=fX
def zk54:zR Go.Proofs.Tryz.prog 54=true:=fX
def tt54:zX Go.Proofs.Tryz.prog 12 54=false:=fX
def zc54:zK Go.Proofs.Tryz.prog 12 54= [.d (.int .i64 0),.d (.int .i64 0),.d (.int .i64 0),.d (.str [])]:=fX
def ty60:ty Go.Proofs.Tryz.prog 60=⟨.slice 5,1,24⟩:=fX
def zk60:zR Go.Proofs.Tryz.prog 60=true:=fX
def tt60:zX Go.Proofs.Tryz.prog 12 60=false:=fX
def zc60:zK Go.Proofs.Tryz.prog 12 60= [.nils 1]:=fX
def ty61:ty Go.Proofs.Tryz.prog 61=⟨.slice 67,1,24⟩:=fX
def ty63:ty Go.Proofs.Tryz.prog 63=⟨.struct [(0,3),(1,9),(2,4),(3,4),(4,61)],5,56⟩:=fX
def zk63:zR Go.Proofs.Tryz.prog 63=true:=fX
def tt63:zX Go.Proofs.Tryz.prog 12 63=false:=fX
def zc63:zK Go.Proofs.Tryz.prog 12 63= [.d (.int .i64 0),.d (.str []),.d (.bool false),.d (.bool false),.nils 1]:=fX
def ty64:ty Go.Proofs.Tryz.prog 64=⟨.slice 73,1,24⟩:=fX
def ty66:ty Go.Proofs.Tryz.prog 66=⟨.struct [(0,63),(5,64),(6,9),(7,4)],8,104⟩:=fX
def zk66:zR Go.Proofs.Tryz.prog 66=true:=fX
def tt66:zX Go.Proofs.Tryz.prog 12 66=false:=fX
def zc66:zK Go.Proofs.Tryz.prog 12 66= [.d (.int .i64 0),.d (.str []),.d (.bool false),.d (.bool false),.nils 1,.nils 12,.d (.str []),.d (.bool false)]:=fX
def ty67:ty Go.Proofs.Tryz.prog 67=⟨.int .u32,1,4⟩:=fX
def zk67:zR Go.Proofs.Tryz.prog 67=true:=fX
def tt67:zX Go.Proofs.Tryz.prog 12 67=false:=fX
def zc67:zK Go.Proofs.Tryz.prog 12 67= [.d (.int .u32 0)]:=fX
def ty69:ty Go.Proofs.Tryz.prog 69=⟨.struct [(0,3),(1,3),(2,22),(3,22),(4,67),(5,9)],6,56⟩:=fX
def zk69:zR Go.Proofs.Tryz.prog 69=true:=fX
def tt69:zX Go.Proofs.Tryz.prog 12 69=false:=fX
def zc69:zK Go.Proofs.Tryz.prog 12 69= [.d (.int .i64 0),.d (.int .i64 0),.d (.int .u64 0),.d (.int .u64 0),.d (.int .u32 0),.d (.str [])]:=fX
def si69:(Go.Proofs.Tryz.prog.stoodInHeld 69)=false:=fX
def eg69:(Go.Proofs.Tryz.prog.eqGuardType Go.Proofs.Tryz.prog.depth 69)=false:=fX
def ty70:ty Go.Proofs.Tryz.prog 70=⟨.slice 189,1,24⟩:=fX
def tt70:zX Go.Proofs.Tryz.prog 12 70=false:=fX
def ty71:ty Go.Proofs.Tryz.prog 71=⟨.slice 192,1,24⟩:=fX
def ty73:ty Go.Proofs.Tryz.prog 73=⟨.struct [(0,69),(6,70),(7,3),(8,67),(9,9),(10,71),(11,4)],12,144⟩:=fX
def zk73:zR Go.Proofs.Tryz.prog 73=true:=fX
def tt73:zX Go.Proofs.Tryz.prog 12 73=false:=fX
def zc73:zK Go.Proofs.Tryz.prog 12 73= [.d (.int .i64 0),.d (.int .i64 0),.d (.int .u64 0),.d (.int .u64 0),.d (.int .u32 0),.d (.str []),.nils 3,.d (.int .i64 0),.d (.int .u32 0),.d (.str []),.nils 2,.d (.bool false)]:=fX
def ty77:ty Go.Proofs.Tryz.prog 77=⟨.int .i64,1,8⟩:=fX
def zk77:zR Go.Proofs.Tryz.prog 77=true:=fX
def tt77:zX Go.Proofs.Tryz.prog 12 77=false:=fX
def zc77:zK Go.Proofs.Tryz.prog 12 77= [.d (.int .i64 0)]:=fX
def ty83:ty Go.Proofs.Tryz.prog 83=⟨.func,1,8⟩:=fX
def tt83:zX Go.Proofs.Tryz.prog 12 83=false:=fX
def ty102:ty Go.Proofs.Tryz.prog 102=⟨.ptr 107,1,8⟩:=fX
def tt102:zX Go.Proofs.Tryz.prog 12 102=false:=fX
def ty105:ty Go.Proofs.Tryz.prog 105=⟨.ptr 66,1,8⟩:=fX
def ty107:ty Go.Proofs.Tryz.prog 107=⟨.struct [(0,47),(12,105)],13,176⟩:=fX
def zk107:zR Go.Proofs.Tryz.prog 107=true:=fX
def tt107:zX Go.Proofs.Tryz.prog 12 107=false:=fX
def zc107:zK Go.Proofs.Tryz.prog 12 107= [.d (.str []),.nils 2,.d (.int .i64 0),.d (.bool false),.nils 1,.d (.int .i64 0),.d (.int .i64 0),.d (.int .u64 0),.d (.int .i64 0),.nils 66,.d (.bool false),.nils 8,.d .nilp]:=fX
def ty143:ty Go.Proofs.Tryz.prog 143=⟨.struct [(0,4),(1,3),(2,22),(3,9)],4,40⟩:=fX
def zk143:zR Go.Proofs.Tryz.prog 143=true:=fX
def tt143:zX Go.Proofs.Tryz.prog 12 143=false:=fX
def zc143:zK Go.Proofs.Tryz.prog 12 143= [.d (.bool false),.d (.int .i64 0),.d (.int .u64 0),.d (.str [])]:=fX
def ty153:ty Go.Proofs.Tryz.prog 153=⟨.arr 64 4,64,64⟩:=fX
def ty155:ty Go.Proofs.Tryz.prog 155=⟨.struct [(0,9),(1,4),(2,153)],66,88⟩:=fX
def zk155:zR Go.Proofs.Tryz.prog 155=true:=fX
def tt155:zX Go.Proofs.Tryz.prog 12 155=false:=fX
def zc155:zK Go.Proofs.Tryz.prog 12 155= [.d (.str []),.d (.bool false)]++List.replicate 64 (.d (.bool false)):=fX
def si155:(Go.Proofs.Tryz.prog.stoodInHeld 155)=false:=fX
def eg155:(Go.Proofs.Tryz.prog.eqGuardType Go.Proofs.Tryz.prog.depth 155)=false:=fX
def ty161:ty Go.Proofs.Tryz.prog 161=⟨.struct [(0,33),(1,23)],2,48⟩:=fX
def zk161:zR Go.Proofs.Tryz.prog 161=true:=fX
def tt161:zX Go.Proofs.Tryz.prog 12 161=false:=fX
def zc161:zK Go.Proofs.Tryz.prog 12 161= [.nils 1,.nils 1]:=fX
def ty166:ty Go.Proofs.Tryz.prog 166=⟨.struct [(0,3),(1,67)],2,16⟩:=fX
def zk166:zR Go.Proofs.Tryz.prog 166=true:=fX
def tt166:zX Go.Proofs.Tryz.prog 12 166=false:=fX
def zc166:zK Go.Proofs.Tryz.prog 12 166= [.d (.int .i64 0),.d (.int .u32 0)]:=fX
def ty170:ty Go.Proofs.Tryz.prog 170=⟨.slice 4,1,24⟩:=fX
def ty175:ty Go.Proofs.Tryz.prog 175=⟨.ptr 182,1,8⟩:=fX
def tt175:zX Go.Proofs.Tryz.prog 12 175=false:=fX
def ty177:ty Go.Proofs.Tryz.prog 177=⟨.struct [(0,67),(1,9)],2,24⟩:=fX
def zk177:zR Go.Proofs.Tryz.prog 177=true:=fX
def tt177:zX Go.Proofs.Tryz.prog 12 177=false:=fX
def zc177:zK Go.Proofs.Tryz.prog 12 177= [.d (.int .u32 0),.d (.str [])]:=fX
def ty180:ty Go.Proofs.Tryz.prog 180=⟨.struct [(0,178),(1,60)],2,32⟩:=fX
def zk180:zR Go.Proofs.Tryz.prog 180=true:=fX
def tt180:zX Go.Proofs.Tryz.prog 12 180=true:=fX
def zc180:zK Go.Proofs.Tryz.prog 12 180= [.d .nilp,.nils 1]:=fX
def ty182:ty Go.Proofs.Tryz.prog 182=⟨.struct [(0,63),(5,25),(7,177),(9,180)],11,144⟩:=fX
def zk182:zR Go.Proofs.Tryz.prog 182=true:=fX
def tt182:zX Go.Proofs.Tryz.prog 12 182=true:=fX
def zc182:zK Go.Proofs.Tryz.prog 12 182= [.d (.int .i64 0),.d (.str []),.d (.bool false),.d (.bool false),.nils 1,.d (.int .u64 0),.nils 1,.d (.int .u32 0),.d (.str []),.d .nilp,.nils 1]:=fX
def ty183:ty Go.Proofs.Tryz.prog 183=⟨.arr 2 27,2,16⟩:=fX
def zk183:zR Go.Proofs.Tryz.prog 183=true:=fX
def tt183:zX Go.Proofs.Tryz.prog 12 183=false:=fX
def zc183:zK Go.Proofs.Tryz.prog 12 183= [.nilfn,.nilfn]:=fX
def ty189:ty Go.Proofs.Tryz.prog 189=⟨.arr 3 3,3,24⟩:=fX
def zk189:zR Go.Proofs.Tryz.prog 189=true:=fX
def tt189:zX Go.Proofs.Tryz.prog 12 189=false:=fX
def zc189:zK Go.Proofs.Tryz.prog 12 189= [.d (.int .i64 0),.d (.int .i64 0),.d (.int .i64 0)]:=fX
def eg189:(Go.Proofs.Tryz.prog.eqGuardType Go.Proofs.Tryz.prog.depth 189)=false:=fX
def ty190:ty Go.Proofs.Tryz.prog 190=⟨.slice 231,1,24⟩:=fX
def tt190:zX Go.Proofs.Tryz.prog 12 190=false:=fX
def ty192:ty Go.Proofs.Tryz.prog 192=⟨.struct [(0,67),(1,190)],2,32⟩:=fX
def zk192:zR Go.Proofs.Tryz.prog 192=true:=fX
def tt192:zX Go.Proofs.Tryz.prog 12 192=false:=fX
def zc192:zK Go.Proofs.Tryz.prog 12 192= [.d (.int .u32 0),.nils 2]:=fX
def ty195:ty Go.Proofs.Tryz.prog 195=⟨.struct [(0,3),(1,9)],2,24⟩:=fX
def zk195:zR Go.Proofs.Tryz.prog 195=true:=fX
def tt195:zX Go.Proofs.Tryz.prog 12 195=false:=fX
def zc195:zK Go.Proofs.Tryz.prog 12 195= [.d (.int .i64 0),.d (.str [])]:=fX
def si195:(Go.Proofs.Tryz.prog.stoodInHeld 195)=false:=fX
def eg195:(Go.Proofs.Tryz.prog.eqGuardType Go.Proofs.Tryz.prog.depth 195)=false:=fX
def ty198:ty Go.Proofs.Tryz.prog 198=⟨.struct [(0,73),(12,42),(23,61),(24,189)],27,336⟩:=fX
def zk198:zR Go.Proofs.Tryz.prog 198=true:=fX
def tt198:zX Go.Proofs.Tryz.prog 12 198=false:=fX
def zc198:zK Go.Proofs.Tryz.prog 12 198= [.d (.int .i64 0),.d (.int .i64 0),.d (.int .u64 0),.d (.int .u64 0),.d (.int .u32 0),.d (.str []),.nils 3,.d (.int .i64 0),.d (.int .u32 0),.d (.str []),.nils 2,.d (.bool false),.d (.str []),.nils 2,.d (.int .i64 0),.d (.bool false),.nils 1,.d (.int .i64 0),.d (.int .i64 0),.d (.int .u64 0),.d (.int .i64 0),.nils 66,.d (.bool false),.nils 1,.d (.int .i64 0),.d (.int .i64 0),.d (.int .i64 0)]:=fX
def ty199:ty Go.Proofs.Tryz.prog 199=⟨.func,1,8⟩:=fX
def zk199:zR Go.Proofs.Tryz.prog 199=true:=fX
def zc199:zK Go.Proofs.Tryz.prog 12 199= [.nilfn]:=fX
def ty200:ty Go.Proofs.Tryz.prog 200=⟨.arr 8 199,8,64⟩:=fX
def zk200:zR Go.Proofs.Tryz.prog 200=true:=fX
def tt200:zX Go.Proofs.Tryz.prog 12 200=false:=fX
def zc200:zK Go.Proofs.Tryz.prog 12 200= [.nilfn,.nilfn,.nilfn,.nilfn,.nilfn,.nilfn,.nilfn,.nilfn]:=fX
def ty204:ty Go.Proofs.Tryz.prog 204=⟨.struct [(0,67),(1,22),(2,9)],3,32⟩:=fX
def zk204:zR Go.Proofs.Tryz.prog 204=true:=fX
def tt204:zX Go.Proofs.Tryz.prog 12 204=false:=fX
def zc204:zK Go.Proofs.Tryz.prog 12 204= [.d (.int .u32 0),.d (.int .u64 0),.d (.str [])]:=fX
def ty214:ty Go.Proofs.Tryz.prog 214=⟨.int .u64,1,8⟩:=fX
def ty231:ty Go.Proofs.Tryz.prog 231=⟨.struct [(0,3),(1,3)],2,16⟩:=fX
def zk231:zR Go.Proofs.Tryz.prog 231=true:=fX
def tt231:zX Go.Proofs.Tryz.prog 12 231=false:=fX
def zc231:zK Go.Proofs.Tryz.prog 12 231= [.d (.int .i64 0),.d (.int .i64 0)]:=fX
def si231:(Go.Proofs.Tryz.prog.stoodInHeld 231)=false:=fX
def eg231:(Go.Proofs.Tryz.prog.eqGuardType Go.Proofs.Tryz.prog.depth 231)=false:=fX
def ty242:ty Go.Proofs.Tryz.prog 242=⟨.struct [(0,4),(1,67)],2,8⟩:=fX
def zk242:zR Go.Proofs.Tryz.prog 242=true:=fX
def tt242:zX Go.Proofs.Tryz.prog 12 242=false:=fX
def zc242:zK Go.Proofs.Tryz.prog 12 242= [.d (.bool false),.d (.int .u32 0)]:=fX
def ty279:ty Go.Proofs.Tryz.prog 279=⟨.map 67 1,1,8⟩:=fX
def ty310:ty Go.Proofs.Tryz.prog 310=⟨.arr 8 3,8,64⟩:=fX
def zk310:zR Go.Proofs.Tryz.prog 310=true:=fX
def tt310:zX Go.Proofs.Tryz.prog 12 310=false:=fX
def zc310:zK Go.Proofs.Tryz.prog 12 310= [.d (.int .i64 0),.d (.int .i64 0),.d (.int .i64 0),.d (.int .i64 0),.d (.int .i64 0),.d (.int .i64 0),.d (.int .i64 0),.d (.int .i64 0)]:=fX
def ty311:ty Go.Proofs.Tryz.prog 311=⟨.slice 242,1,24⟩:=fX
def ty325:ty Go.Proofs.Tryz.prog 325=⟨.int .u16,1,2⟩:=fX
def zk325:zR Go.Proofs.Tryz.prog 325=true:=fX
def zc325:zK Go.Proofs.Tryz.prog 12 325= [.d (.int .u16 0)]:=fX
def ty333:ty Go.Proofs.Tryz.prog 333=⟨.slice 340,1,24⟩:=fX
def ty338:ty Go.Proofs.Tryz.prog 338=⟨.struct [(0,22),(1,161)],3,56⟩:=fX
def zk338:zR Go.Proofs.Tryz.prog 338=true:=fX
def tt338:zX Go.Proofs.Tryz.prog 12 338=false:=fX
def zc338:zK Go.Proofs.Tryz.prog 12 338= [.d (.int .u64 0),.nils 1,.nils 1]:=fX
def ty340:ty Go.Proofs.Tryz.prog 340=⟨.struct [(0,3),(1,338)],4,64⟩:=fX
def ty355:ty Go.Proofs.Tryz.prog 355=⟨.struct [(0,67),(1,67),(2,9)],3,24⟩:=fX
def zk355:zR Go.Proofs.Tryz.prog 355=true:=fX
def tt355:zX Go.Proofs.Tryz.prog 12 355=false:=fX
def zc355:zK Go.Proofs.Tryz.prog 12 355= [.d (.int .u32 0),.d (.int .u32 0),.d (.str [])]:=fX
def ty358:ty Go.Proofs.Tryz.prog 358=⟨.func,1,8⟩:=fX
def ty374:ty Go.Proofs.Tryz.prog 374=⟨.slice 20,1,24⟩:=fX
def ty388:ty Go.Proofs.Tryz.prog 388=⟨.struct [(0,3),(1,3)],2,16⟩:=fX
def zk388:zR Go.Proofs.Tryz.prog 388=true:=fX
def tt388:zX Go.Proofs.Tryz.prog 12 388=false:=fX
def zc388:zK Go.Proofs.Tryz.prog 12 388= [.d (.int .i64 0),.d (.int .i64 0)]:=fX
def si388:(Go.Proofs.Tryz.prog.stoodInHeld 388)=false:=fX
def eg388:(Go.Proofs.Tryz.prog.eqGuardType Go.Proofs.Tryz.prog.depth 388)=false:=fX
def ty416:ty Go.Proofs.Tryz.prog 416=⟨.int .i64,1,8⟩:=fX
def ty419:ty Go.Proofs.Tryz.prog 419=⟨.struct [(0,9)],1,16⟩:=fX
def ty437:ty Go.Proofs.Tryz.prog 437=⟨.ptr 439,1,8⟩:=fX
def tt437:zX Go.Proofs.Tryz.prog 12 437=false:=fX
def ty439:ty Go.Proofs.Tryz.prog 439=⟨.struct [(0,42),(11,3),(12,3),(13,9),(14,166),(16,388),(18,161),(20,3),(21,9)],22,280⟩:=fX
def zk439:zR Go.Proofs.Tryz.prog 439=true:=fX
def tt439:zX Go.Proofs.Tryz.prog 12 439=false:=fX
def zc439:zK Go.Proofs.Tryz.prog 12 439= [.d (.str []),.nils 2,.d (.int .i64 0),.d (.bool false),.nils 1,.d (.int .i64 0),.d (.int .i64 0),.d (.int .u64 0),.d (.int .i64 0),.nils 66,.d (.bool false),.d (.int .i64 0),.d (.int .i64 0),.d (.str []),.d (.int .i64 0),.d (.int .u32 0),.d (.int .i64 0),.d (.int .i64 0),.nils 1,.nils 1,.d (.int .i64 0),.d (.str [])]:=fX
def ty440:ty Go.Proofs.Tryz.prog 440=⟨.slice 199,1,24⟩:=fX
def ty450:ty Go.Proofs.Tryz.prog 450=⟨.func,1,8⟩:=fX
def zk450:zR Go.Proofs.Tryz.prog 450=true:=fX
def zc450:zK Go.Proofs.Tryz.prog 12 450= [.nilfn]:=fX
def ty476:ty Go.Proofs.Tryz.prog 476=⟨.arr 4 5,4,4⟩:=fX
def zk476:zR Go.Proofs.Tryz.prog 476=true:=fX
def tt476:zX Go.Proofs.Tryz.prog 12 476=false:=fX
def zc476:zK Go.Proofs.Tryz.prog 12 476= [.d (.int .u8 0),.d (.int .u8 0),.d (.int .u8 0),.d (.int .u8 0)]:=fX
def ty490:ty Go.Proofs.Tryz.prog 490=⟨.ptr 492,1,8⟩:=fX
def tt490:zX Go.Proofs.Tryz.prog 12 490=false:=fX
def ty492:ty Go.Proofs.Tryz.prog 492=⟨.struct [(0,161),(2,37),(4,35),(9,77)],10,152⟩:=fX
def zk492:zR Go.Proofs.Tryz.prog 492=true:=fX
def tt492:zX Go.Proofs.Tryz.prog 12 492=false:=fX
def zc492:zK Go.Proofs.Tryz.prog 12 492= [.nils 1,.nils 1,.d (.int .i64 0),.d (.int .i64 0),.d (.str []),.nils 2,.d (.int .i64 0),.d (.bool false),.nils 1,.d (.int .i64 0)]:=fX
def ty500:ty Go.Proofs.Tryz.prog 500=⟨.struct [(0,35),(5,3)],6,88⟩:=fX
def zk500:zR Go.Proofs.Tryz.prog 500=true:=fX
def tt500:zX Go.Proofs.Tryz.prog 12 500=false:=fX
def zc500:zK Go.Proofs.Tryz.prog 12 500= [.d (.str []),.nils 2,.d (.int .i64 0),.d (.bool false),.nils 1,.d (.int .i64 0)]:=fX
def ty504:ty Go.Proofs.Tryz.prog 504=⟨.struct [(0,155)],66,88⟩:=fX
def zk504:zR Go.Proofs.Tryz.prog 504=true:=fX
def tt504:zX Go.Proofs.Tryz.prog 12 504=false:=fX
def zc504:zK Go.Proofs.Tryz.prog 12 504= [.d (.str []),.d (.bool false)]++List.replicate 64 (.d (.bool false)):=fX
def ty527:ty Go.Proofs.Tryz.prog 527=⟨.bst [(0,518),(0,521),(1,525)],3,12⟩:=fX
def ty528:ty Go.Proofs.Tryz.prog 528=⟨.arr 256 67,256,1024⟩:=fX
def ty530:ty Go.Proofs.Tryz.prog 530=⟨.struct [(0,527),(3,528)],259,1036⟩:=fX
def zk530:zR Go.Proofs.Tryz.prog 530=true:=fX
def tt530:zX Go.Proofs.Tryz.prog 12 530=false:=fX
def zc530:zK Go.Proofs.Tryz.prog 12 530= [.d (.int .u32 0),.d (.int .i32 0),.d (.int .u32 0)]++List.replicate 256 (.d (.int .u32 0)):=fX
def ty533:ty Go.Proofs.Tryz.prog 533=⟨.func,1,8⟩:=fX
def tt533:zX Go.Proofs.Tryz.prog 12 533=false:=fX
def ty545:ty Go.Proofs.Tryz.prog 545=⟨.func,1,8⟩:=fX
def tt545:zX Go.Proofs.Tryz.prog 12 545=false:=fX
def ty551:ty Go.Proofs.Tryz.prog 551=⟨.struct [(0,35),(5,77)],6,88⟩:=fX
def zk551:zR Go.Proofs.Tryz.prog 551=true:=fX
def tt551:zX Go.Proofs.Tryz.prog 12 551=false:=fX
def zc551:zK Go.Proofs.Tryz.prog 12 551= [.d (.str []),.nils 2,.d (.int .i64 0),.d (.bool false),.nils 1,.d (.int .i64 0)]:=fX
def ty573:ty Go.Proofs.Tryz.prog 573=⟨.slice 450,1,24⟩:=fX
def ty579:ty Go.Proofs.Tryz.prog 579=⟨.slice 161,1,24⟩:=fX
def ty581:ty Go.Proofs.Tryz.prog 581=⟨.map 3 4,1,8⟩:=fX
def zk581:zR Go.Proofs.Tryz.prog 581=true:=fX
def tt581:zX Go.Proofs.Tryz.prog 12 581=false:=fX
def zc581:zK Go.Proofs.Tryz.prog 12 581= [.nilmap]:=fX
attribute [go_sem] ty1 zk1 zc1 ty3 zk3 tt3 zc3 ty4 zk4 tt4 zc4 ty5 zk5 zc5 ty9 zk9 tt9 zc9 ty20 zk20 zc20 ty22 zk22 tt22 zc22 ty23 zk23 tt23 zc23 ty25 zk25 tt25 zc25 ty27 ty28 ty32 tt32 ty33 zk33 tt33 zc33 ty35 zk35 tt35 zc35 ty37 zk37 tt37 zc37 si37 eg37 ty39 zk39 tt39 zc39 si39 eg39 ty40 ty42 zk42 tt42 zc42 ty43 ty45 ty47 zk47 tt47 zc47 ty54 zk54 tt54 zc54 ty60 zk60 tt60 zc60 ty61 ty63 zk63 tt63 zc63 ty64 ty66 zk66 tt66 zc66 ty67 zk67 tt67 zc67 ty69 zk69 tt69 zc69 si69 eg69 ty70 tt70 ty71 ty73 zk73 tt73 zc73 ty77 zk77 tt77 zc77 ty83 tt83 ty102 tt102 ty105 ty107 zk107 tt107 zc107 ty143 zk143 tt143 zc143 ty153 ty155 zk155 tt155 zc155 si155 eg155 ty161 zk161 tt161 zc161 ty166 zk166 tt166 zc166 ty170 ty175 tt175 ty177 zk177 tt177 zc177 ty180 zk180 tt180 zc180 ty182 zk182 tt182 zc182 ty183 zk183 tt183 zc183 ty189 zk189 tt189 zc189 eg189 ty190 tt190 ty192 zk192 tt192 zc192 ty195 zk195 tt195 zc195 si195 eg195 ty198 zk198 tt198 zc198 ty199 zk199 zc199 ty200 zk200 tt200 zc200 ty204 zk204 tt204 zc204 ty214 ty231 zk231 tt231 zc231 si231 eg231 ty242 zk242 tt242 zc242 ty279 ty310 zk310 tt310 zc310 ty311 ty325 zk325 zc325 ty333 ty338 zk338 tt338 zc338 ty340 ty355 zk355 tt355 zc355 ty358 ty374 ty388 zk388 tt388 zc388 si388 eg388 ty416 ty419 ty437 tt437 ty439 zk439 tt439 zc439 ty440 ty450 zk450 zc450 ty476 zk476 tt476 zc476 ty490 tt490 ty492 zk492 tt492 zc492 ty500 zk500 tt500 zc500 ty504 zk504 tt504 zc504 ty527 ty528 ty530 zk530 tt530 zc530 ty533 tt533 ty545 tt545 ty551 zk551 tt551 zc551 ty573 ty579 ty581 zk581 tt581 zc581
attribute [go_sem] Tryz.results5 Tryz.results11 Tryz.results12 Tryz.results13 Tryz.results14 Tryz.results15 Tryz.results16 Tryz.results17 Tryz.results18 Tryz.results21 Tryz.results22 Tryz.results23 Tryz.results24 Tryz.results25 Tryz.results26 Tryz.results28 Tryz.results29 Tryz.results38 Tryz.results39
attribute [go_sem] Tryz.results40 Tryz.results41 Tryz.results42 Tryz.results43 Tryz.results44 Tryz.results45 Tryz.results46 Tryz.results47 Tryz.results48 Tryz.results49 Tryz.results50 Tryz.results51 Tryz.results52 Tryz.results53 Tryz.results54 Tryz.results55 Tryz.results56 Tryz.results57 Tryz.results58 Tryz.results59 Tryz.results60 Tryz.results61 Tryz.results62 Tryz.results63 Tryz.results73
attribute [go_sem] Tryz.results80 Tryz.results81 Tryz.results82 Tryz.results83 Tryz.results84 Tryz.results85 Tryz.results86 Tryz.results87 Tryz.results88 Tryz.results89 Tryz.results90 Tryz.results91 Tryz.results92 Tryz.results93 Tryz.results94 Tryz.results95 Tryz.results96 Tryz.results97 Tryz.results98 Tryz.results99 Tryz.results100 Tryz.results101 Tryz.results102 Tryz.results103 Tryz.results104 Tryz.results105 Tryz.results106 Tryz.results107 Tryz.results108 Tryz.results109 Tryz.results110 Tryz.results111 Tryz.results112 Tryz.results113 Tryz.results114 Tryz.results115 Tryz.results116 Tryz.results117 Tryz.results118 Tryz.results119
attribute [go_sem] Tryz.results120 Tryz.results121 Tryz.results122 Tryz.results123 Tryz.results124 Tryz.results125 Tryz.results126 Tryz.results127 Tryz.results128 Tryz.results129 Tryz.results138 Tryz.results139 Tryz.results147 Tryz.results148 Tryz.results152 Tryz.results153 Tryz.results154 Tryz.results155 Tryz.results156 Tryz.results157 Tryz.results158 Tryz.results159
attribute [go_sem] Tryz.results160 Tryz.results161 Tryz.results162 Tryz.results163 Tryz.results164 Tryz.results165 Tryz.results166 Tryz.results167 Tryz.results168 Tryz.results169 Tryz.results170 Tryz.results171 Tryz.results172 Tryz.results173 Tryz.results174 Tryz.results175 Tryz.results176 Tryz.results177 Tryz.results178 Tryz.results179 Tryz.results180 Tryz.results181 Tryz.results182 Tryz.results183 Tryz.results184 Tryz.results185 Tryz.results186 Tryz.results187 Tryz.results188 Tryz.results189 Tryz.results190 Tryz.results191 Tryz.results192 Tryz.results193 Tryz.results194 Tryz.results195 Tryz.results196 Tryz.results197 Tryz.results198 Tryz.results199
attribute [go_sem] Tryz.results200 Tryz.results201 Tryz.results218 Tryz.results219 Tryz.results221 Tryz.results222 Tryz.results223 Tryz.results224 Tryz.results225 Tryz.results226 Tryz.results229 Tryz.results232 Tryz.results233 Tryz.results234 Tryz.results235 Tryz.results236 Tryz.results237 Tryz.results238 Tryz.results239
attribute [go_sem] Tryz.results240 Tryz.results241 Tryz.results242 Tryz.results243 Tryz.results244 Tryz.results245 Tryz.results246 Tryz.results247 Tryz.results248 Tryz.results249 Tryz.results250 Tryz.results251 Tryz.results252 Tryz.results253 Tryz.results254 Tryz.results255 Tryz.results256 Tryz.results257 Tryz.results258 Tryz.results259 Tryz.results260 Tryz.results261 Tryz.results262 Tryz.results263 Tryz.results264 Tryz.results265 Tryz.results266 Tryz.results267 Tryz.results268 Tryz.results269 Tryz.results270 Tryz.results271 Tryz.results272 Tryz.results273 Tryz.results274
attribute [go_sem] Tryz.results281 Tryz.results282 Tryz.results284 Tryz.results285 Tryz.results288 Tryz.results290 Tryz.results291 Tryz.results292 Tryz.results293 Tryz.results294 Tryz.results295 Tryz.results296 Tryz.results297 Tryz.results298 Tryz.results299 Tryz.results300 Tryz.results301 Tryz.results302 Tryz.results303 Tryz.results304 Tryz.results305 Tryz.results306 Tryz.results307 Tryz.results308 Tryz.results309 Tryz.results310 Tryz.results311 Tryz.results312 Tryz.results313 Tryz.results314 Tryz.results315 Tryz.results316 Tryz.results317 Tryz.results318 Tryz.results319
attribute [go_sem] Tryz.results320 Tryz.results321 Tryz.results322 Tryz.results323 Tryz.results324 Tryz.results325 Tryz.results326 Tryz.results327 Tryz.results328 Tryz.results329 Tryz.results330 Tryz.results331 Tryz.results332 Tryz.results333 Tryz.results334 Tryz.results335 Tryz.results336 Tryz.results337 Tryz.results338 Tryz.results339 Tryz.results340 Tryz.results341 Tryz.results343 Tryz.results345 Tryz.results346 Tryz.results348 Tryz.results349 Tryz.results350 Tryz.results351 Tryz.results352 Tryz.results353 Tryz.results354 Tryz.results355 Tryz.results356 Tryz.results357 Tryz.results358 Tryz.results359
attribute [go_sem] Tryz.results360 Tryz.results361 Tryz.results362 Tryz.results363 Tryz.results364 Tryz.results365 Tryz.results366 Tryz.results367 Tryz.results368 Tryz.results369 Tryz.results370 Tryz.results371 Tryz.results372 Tryz.results373 Tryz.results374 Tryz.results375 Tryz.results376 Tryz.results377 Tryz.results378 Tryz.results379 Tryz.results380 Tryz.results381 Tryz.results382 Tryz.results383 Tryz.results384 Tryz.results385 Tryz.results386 Tryz.results387 Tryz.results388 Tryz.results389 Tryz.results390 Tryz.results391 Tryz.results392 Tryz.results393 Tryz.results394 Tryz.results395 Tryz.results396 Tryz.results397 Tryz.results398 Tryz.results399
attribute [go_sem] Tryz.results400 Tryz.results401 Tryz.results402 Tryz.results403 Tryz.results404 Tryz.results405 Tryz.results406 Tryz.results407 Tryz.results408 Tryz.results409 Tryz.results410 Tryz.results411 Tryz.results412 Tryz.results413 Tryz.results414 Tryz.results415 Tryz.results416 Tryz.results417 Tryz.results418 Tryz.results419 Tryz.results420 Tryz.results421 Tryz.results422 Tryz.results423 Tryz.results424 Tryz.results425 Tryz.results426 Tryz.results427 Tryz.results428 Tryz.results429 Tryz.results430 Tryz.results431 Tryz.results432 Tryz.results433 Tryz.results434 Tryz.results435 Tryz.results436 Tryz.results437 Tryz.results438 Tryz.results439
attribute [go_sem] Tryz.results440 Tryz.results441 Tryz.results442 Tryz.results443 Tryz.results444 Tryz.results445 Tryz.results446 Tryz.results447 Tryz.results448 Tryz.results449 Tryz.results450 Tryz.results451 Tryz.results452 Tryz.results453 Tryz.results454 Tryz.results455 Tryz.results456 Tryz.results457 Tryz.results458 Tryz.results459 Tryz.results460 Tryz.results461 Tryz.results462 Tryz.results463 Tryz.results464 Tryz.results465 Tryz.results466 Tryz.results467 Tryz.results468 Tryz.results469 Tryz.results470 Tryz.results471 Tryz.results472 Tryz.results473 Tryz.results474 Tryz.results475 Tryz.results477 Tryz.results478 Tryz.results479
attribute [go_sem] Tryz.results480 Tryz.results482 Tryz.results483 Tryz.results509 Tryz.results510
abbrev AC (f:FuncId) (args:List AV) (r:AV):Prop:=ACall Go.Proofs.Tryz.prog f 0 args [] λv _=>v=r
def mx:Go.Proofs.Tryz.prog.follows .mixedOrders=true:=fX
end Go.Aw
namespace Go.Proofs
open Go.Shelf
def Tryz.lays99_ren:Go.Shelf.Ren:=⟨fun|99=>218|206=>281|n=>n,fun|9=>9|4=>4|3=>3|n=>n,fun|n=>n⟩
def Tryz.lays99:Go.Proofs.Lays.n99 Tryz.prog Tryz.lays99_ren:= {
 mixed:=fX
 f99:=Tryz.func218.trans (congrArg some fX)
 f206:=Tryz.func281.trans (congrArg some fX)
 t3:=Tryz.underlying3
 a3:=Tryz.isAgg3
 z3:=Tryz.sizeOf3
 v3:=Tryz.zeroValue3
 t4:=Tryz.underlying4
 a4:=Tryz.isAgg4
 z4:=Tryz.sizeOf4
 v4:=Tryz.zeroValue4
 t9:=Tryz.underlying9
 a9:=Tryz.isAgg9
 z9:=Tryz.sizeOf9
 v9:=Tryz.zeroValue9 }
open Go.RowKit Go.Lib in
def Tryz.strings_HasPrefix (s p:ByteArray) (w:World):
  Calls Tryz.prog 218 #[.string s,.string p] w λe w'=>e= .returned (.bool (Lib.hasPrefix s.data.toList p.data.toList))/\w'=w:=Any.strings_HasPrefix Tryz.lays99 s p w
def Tryz.lays105_ren:Go.Shelf.Ren:=⟨fun|105=>253|212=>116|99=>218|165=>324|166=>113|170=>325|169=>98|263=>189|264=>190|206=>281|240=>188|241=>369|276=>257|277=>405|n=>n,fun|9=>9|3=>3|4=>4|20=>20|0=>0|46=>214|109=>215|5=>5|72=>180|76=>210|51=>67|146=>292|53=>22|148=>294|70=>178|37=>60|75=>209|127=>282|164=>375|80=>84|n=>n,fun|n=>n⟩
def Tryz.lays105:Go.Proofs.Lays.n105 Tryz.prog Tryz.lays105_ren:= {
 mixed:=fX
 f99:=Tryz.func218.trans (congrArg some fX)
 f105:=Tryz.func253.trans (congrArg some fX)
 f165:=Tryz.func324.trans (congrArg some fX)
 f166:=Tryz.func113.trans (congrArg some fX)
 f169:=Tryz.func98.trans (congrArg some fX)
 f170:=Tryz.func325.trans (congrArg some fX)
 f206:=Tryz.func281.trans (congrArg some fX)
 f212:=Tryz.func116.trans (congrArg some fX)
 f240:=Tryz.func188.trans (congrArg some fX)
 f241:=Tryz.func369.trans (congrArg some fX)
 f263:=Tryz.func189.trans (congrArg some fX)
 f264:=Tryz.func190.trans (congrArg some fX)
 f276:=Tryz.func257.trans (congrArg some fX)
 f277:=Tryz.func405.trans (congrArg some fX)
 t0:=Tryz.underlying0
 a0:=Tryz.isAgg0
 z0:=Tryz.sizeOf0
 v0:=Tryz.zeroValue0
 t3:=Tryz.underlying3
 a3:=Tryz.isAgg3
 z3:=Tryz.sizeOf3
 v3:=Tryz.zeroValue3
 t4:=Tryz.underlying4
 a4:=Tryz.isAgg4
 z4:=Tryz.sizeOf4
 v4:=Tryz.zeroValue4
 t5:=Tryz.underlying5
 a5:=Tryz.isAgg5
 z5:=Tryz.sizeOf5
 v5:=Tryz.zeroValue5
 t9:=Tryz.underlying9
 a9:=Tryz.isAgg9
 z9:=Tryz.sizeOf9
 v9:=Tryz.zeroValue9
 t20:=Tryz.underlying20
 a20:=Tryz.isAgg20
 z20:=Tryz.sizeOf20
 v20:=Tryz.zeroValue20
 t37:=Tryz.underlying60
 a37:=Tryz.isAgg60
 z37:=Tryz.sizeOf60
 v37:=Tryz.zeroValue60
 t46:=Tryz.underlying214
 a46:=Tryz.isAgg214
 z46:=Tryz.sizeOf214
 v46:=Tryz.zeroValue214
 t51:=Tryz.underlying67
 a51:=Tryz.isAgg67
 z51:=Tryz.sizeOf67
 v51:=Tryz.zeroValue67
 t53:=Tryz.underlying22
 a53:=Tryz.isAgg22
 z53:=Tryz.sizeOf22
 v53:=Tryz.zeroValue22
 t70:=Tryz.underlying178
 a70:=Tryz.isAgg178
 z70:=Tryz.sizeOf178
 v70:=Tryz.zeroValue178
 t72:=Tryz.underlying180
 a72:=Tryz.isAgg180
 z72:=Tryz.sizeOf180
 v72:=Tryz.zeroValue180
 t75:=Tryz.underlying209
 a75:=Tryz.isAgg209
 z75:=Tryz.sizeOf209
 v75:=Tryz.zeroValue209
 t76:=Tryz.underlying210
 a76:=Tryz.isAgg210
 z76:=Tryz.sizeOf210
 v76:=Tryz.zeroValue210
 t109:=Tryz.underlying215
 a109:=Tryz.isAgg215
 z109:=Tryz.sizeOf215
 v109:=Tryz.zeroValue215
 t127:=Tryz.underlying282
 a127:=Tryz.isAgg282
 z127:=Tryz.sizeOf282
 v127:=Tryz.zeroValue282
 t146:=Tryz.underlying292
 a146:=Tryz.isAgg292
 z146:=Tryz.sizeOf292
 v146:=Tryz.zeroValue292
 t148:=Tryz.underlying294
 a148:=Tryz.isAgg294
 z148:=Tryz.sizeOf294
 v148:=Tryz.zeroValue294
 t164:=Tryz.underlying375
 a164:=Tryz.isAgg375
 z164:=Tryz.sizeOf375
 v164:=Tryz.zeroValue375 }
def Tryz.Builder_Extra_105:Builder.Extra Tryz.prog Tryz.lays105_ren:= {
 sizeBuilder:=fX
 liesBuilder:=fX
 t5:=Tryz.underlying5
 a5:=Tryz.isAgg5
 z5:=Tryz.sizeOf5
 v5:=Tryz.zeroValue5
 infoByte:=fX
 cellsByte:=fX
 sizeByte:=fX
 neB5:=by decide }
open Go.RowKit Go.Lib in
def Tryz.strings_Repeat (s:ByteArray) (c:Nat) (w:World) (hc:c<=9223372036854775807) (hlen:s.size*c<=140737488355328):
  Calls Tryz.prog 253 #[.string s,.int .i64 c] w λe w'=>e= .returned (.string ⟨(Lib.repeatL s.data.toList c).toArray⟩)/\Below w.heap.size w w':=Any.strings_Repeat Tryz.lays105 Tryz.Builder_Extra_105 s c w hc hlen
end Go.Proofs
