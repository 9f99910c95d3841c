/-
 Parts of the proof: lemmas.
-/
import Derived.Test.YtgldbfelccddbaaGreatPart6
import Derived.KernelRfl
import Derived.Test.YtgldbfelccddbaaGreatProg
import Derived.CallsIn
import Derived.ChangeAlike
import Derived.ChangeKeysEq
import Derived.ChangeSame
import Derived.Defers
import Derived.Laws.AppendOwn
import Derived.Laws.BytesArg
import Derived.Laws.Cells
import Derived.Laws.Externs
import Derived.Laws.IdiomStrings
import Derived.Laws.LoneSync
import Derived.Laws.Pointers
import Derived.Laws.RangeAny
import Derived.Laws.RangeString
import Derived.Laws.StructEq
import Derived.Lib.AppendStr
import Derived.Lib.Builder
import Derived.Lib.MakeNoZero
import Derived.Lib.Slices
import Derived.Lib.Strings
import Derived.Lib.UnsafeStr
import Derived.OpenShut
import Derived.OrdersIn
import Derived.ProofKit
import Derived.RangeFuncRecord
import Derived.Recover
import Derived.RegionCalls
import Derived.RegionTactic
import Derived.ScopeJumps
import Derived.Shelf.Small.Strs
import Derived.Shelf.Strings.Prefix
import Derived.Shelf.Strings.Repeat
import Derived.SizedLaws
import Derived.Tactics
import Derived.Tactics2
import Derived.WalkKit
import GoSem.Dispatch
set_option maxRecDepth 100000
set_option maxHeartbeats 2000000
set_option linter.unusedSimpArgs false
set_option linter.unusedVariables false
namespace Go.Aw
open Go
theorem sa {P Q:Prop} (h:Q) (t:Q→P:=by first|exact zP _ ‹TabOk _ _› |exact zbv _ [] ‹TabOk _ _› mx):P:=t h
theorem sb {P Q:Prop} (h:Q) (t:Q→P:=by first|exact zcf _ ‹TabOk _ _› |exact zhX|exact zhY|exact zje|exact zka|exact zbL _ [] ‹TabOk _ _› mx):P:=t h
theorem sc {P Q:Prop} (h:Q) (t:Q→P:=by first|exact zcl|exact zkJ|exact zib rfl|exact zic rfl):P:=t h
theorem le0 {P:Prop} (t:P:=by simp only [AS.le,leT,leH,zf,AsgK,AV.le,AV.leL,AObj.le,inH,idsT,idsH,AV.ids,AV.idsL,AV.idsR,AObj.ids,lk,hget,go_sem,aeq,aeq.aeqF,simprocAttr]):P:=t
theorem le1 {P:Prop} (t:P:=by simp only [AS.le,leT,leH,zf,AsgK,AV.le,AV.leL,AObj.le,inH,idsT,idsH,AV.ids,AV.idsL,AV.idsR,AObj.ids,lk,hget,go_sem,aeq,aeq.aeqF,simprocAttr]<;>and_intros<;>rfl):P:=t
theorem lew {P:Prop} (t:P:=by simp only [AS.le,leT,leH,zf,AsgK,AV.le,AV.leL,AObj.le,inH,idsT,idsH,AV.ids,AV.idsL,AV.idsR,AObj.ids,lk,hget,go_sem,aeq,aeq.aeqF,simprocAttr,hwi]):P:=t
theorem lev {P:Prop} (t:P:=by simp only [AS.le,leT,leH,zf,AsgK,AV.le,AV.leL,AObj.le,inH,idsT,idsH,AV.ids,AV.idsL,AV.idsR,AObj.ids,lk,hget,go_sem,aeq,aeq.aeqF,simprocAttr,hwi]<;>and_intros<;>rfl):P:=t
def fxd (n:Nat):Nat:=n
theorem fx:fxd 0=0:=rfl
theorem tk {P:Program} :TabOk P noTab:=zb P
theorem eqmp {A Q:Prop} (h:Q) (e:A=Q):A:=e ▸ h
section
variable {P : Prop} {cx : Cx} {y : Code} {Q : Exit → AS → Prop} {R : (AS → Prop) → Prop}
theorem wa (h:∀K:AS→Prop,(∀s',AW cx y Q s'→K s')→R K) (t:(∀K:AS→Prop,(∀s',AW cx y Q s'→K s')→R K)→P:=by
  intro h
  first
  |((first|refine zP _ tk (fun K hK=>eqmp (h K hK) ?_)|refine zbv _ [] tk mx (fun K hK=>eqmp (h K hK) ?_));simp only [go_sem,aeq,aeq.aeqF,simprocAttr,fx];rfl)
  |exact zbm h):P:=t h
theorem xa (h:∀K:AS→Prop,(∀s',AW cx y Q s'→K s')→R K) (t:(∀K:AS→Prop,(∀s',AW cx y Q s'→K s')→R K)→P:=by
  intro h
  first
  |((first|refine zi4 _ tk (fun K hK=>eqmp (h K hK) ?_)|refine zbv _ [] tk mx (fun K hK=>eqmp (h K hK) ?_));simp only [go_sem,aeq,aeq.aeqF,simprocAttr,fx];rfl)
  |exact zbm h):P:=t h
end
theorem wb {P Q:Prop} (h:Q) (t:Q→P:=by
  intro h
  first
  |((first|refine zcf _ tk (eqmp h ?_)|refine zhX (eqmp h ?_)|refine zhY (eqmp h ?_)|refine zje (eqmp h ?_)|refine zka (eqmp h ?_)|refine zbL _ [] tk mx (eqmp h ?_));simp only [go_sem,aeq,aeq.aeqF,simprocAttr,fx];rfl)
  |exact zcl h|exact zkJ h|exact zib rfl h|exact zic rfl h):P:=t h
theorem xb {P Q:Prop} (h:Q) (t:Q→P:=by
  intro h
  first
  |((first|refine zjt _ tk (eqmp h ?_)|refine zhX (eqmp h ?_)|refine zhY (eqmp h ?_)|refine zje (eqmp h ?_)|refine zka (eqmp h ?_)|refine zbL _ [] tk mx (eqmp h ?_));simp only [go_sem,aeq,aeq.aeqF,simprocAttr,fx];rfl)
  |exact zcl h|exact zkJ h|exact zib rfl h|exact zic rfl h):P:=t h
theorem wd {a b:Bool} {Q:Prop} (h:a=b→Q):a=b→Q:=h
theorem wn {R Y:Bool→Prop} (h:∀nb:Bool,(nb=true→R nb)→Y nb):∀nb:Bool,(nb=true→R nb)→Y nb:=h
@[go_sem] theorem cxY_fl {P:Program} {items:List (List AV)} (base nt fl:Nat) (y:Yo P items):(cxY P base nt fl y).fl=fl:=rfl
theorem zxz {cx:Cx} {Q:Exit→AS→Prop} {s:AS} (hin:inH (hsel (fun i=>decide (i<cx.fl)) s.h) (idsH (hsel (fun i=>decide (i<cx.fl)) s.h))) (h:Q .ret { t:=keepT (hsel (fun i=>decide (i<cx.fl)) s.h) s.t,h:=hsel (fun i=>decide (i<cx.fl)) s.h,g:=s.g }):AW cx .ret Q s:=zxv _ hin (zje h)
theorem xk {P Q:Prop} (h:Q) (t:Q→P:=by
  intro h
  refine zxz (by simp only [inH,idsH,hsel,AV.ids,AV.idsL,AV.idsR,AObj.ids,hget,go_sem,aeq,aeq.aeqF,simprocAttr]) (eqmp h ?_)
  simp only [go_sem,aeq,aeq.aeqF,simprocAttr,fx,hsel,keepT]
  rfl):P:=t h
theorem wl {P Q:Prop} (h:Q) (t:Q→P:=by
  intro h
  (first|refine (show AS.le _ _ from eqmp h ?_)|refine (show leH _ _ from eqmp h ?_)|refine (show inH _ _ from eqmp h ?_))
  simp only [AS.le,leT,leH,zf,AsgK,AV.le,AV.leL,AObj.le,inH,idsT,idsH,AV.ids,AV.idsL,AV.idsR,AObj.ids,lk,hget,go_sem,aeq,aeq.aeqF,simprocAttr,fx]
  rfl):P:=t h
theorem wc {P Q R:Prop} (h:Q) (g:R) (t:Q→R→P:=by first|with_reducible exact And.intro|exact zb3 rfl):P:=t h g
theorem we {P:Prop} (t:P:=by first|with_reducible exact True.intro|((refine (show zb5 _ _=true from ?_));kernel_rfl)|((refine (show zw0 _ _=true from ?_));kernel_rfl)|omega|assumption):P:=t
section
variable {P : Program}
theorem bod {f:FuncId} {fn:Func} {c:Code} {nt fl:Nat} {args:List AV} {h:AHeap} {K:AV→AHeap→Prop} (hf:P.funcs[f]?=some fn) (hnt:fn.ntmps=nt)
  (haw:∀base,AW (cxOf P base nt fl) c (RetK P fn K) { t:=zaG 0 args,h:=h,g:=some [] }) (hb:fn.body=some c:=by rfl) (he:(fn.name== "runtime.NumGoroutine")=false:=by kernel_rfl) (hi:fn.body.isNone=false:=by rfl) (hn:args.length≤nt:=by simp):ACall P f fl args h K:=
 zdd hf hb (zdp hf he hi) hnt hn haw
theorem fbod {f:FuncId} {fn:Func} {c:Code} {nt:Nat} {args:List AV} {r:AV} (hf:P.funcs[f]?=some fn) (hnt:fn.ntmps=nt)
  (haw:∀base,AW (cxOf P base nt 0) c (RetK P fn (fun r' h'=>frz 9 h' r'=r)) { t:=zaG 0 args,h:= [],g:=some [] }) (hb:fn.body=some c:=by rfl) (he:(fn.name== "runtime.NumGoroutine")=false:=by kernel_rfl) (hi:fn.body.isNone=false:=by rfl) (hn:args.length≤nt:=by simp):ACall P f 0 args [] (fun r' _=>r'=r):=
 zsH (zdd hf hb (zdp hf he hi) hnt hn haw)
theorem itr {f:FuncId} {fn:Func} {c:Code} {nt fl:Nat} {pre caps:List AV} {h:AHeap} {items:List (List AV)} {K:Option (List (List AV))→AHeap→Prop} (hf:P.funcs[f]?=some fn) (hnt:fn.ntmps=nt)
  (haw:∀base (y:Yo P items),AW (cxY P base nt fl y) c (IterK K) { t:=zaG 0 (pre++ .fn (.yield y.yl) [] []::caps),h:=h,g:=some [] }) (hb:fn.body=some c:=by rfl) (he:(fn.name== "runtime.NumGoroutine")=false:=by kernel_rfl) (hi:fn.body.isNone=false:=by rfl) (hres:fn.results= #[]:=by rfl) (hn:pre.length+caps.length+1≤nt:=by simp):AIter P f fl pre caps h items K:=
 zky hf hb (zdp hf he hi) hnt hres hn haw
end
inductive Lo {P:Prop} (h:P):Prop|mk
theorem lo2 {P:Prop} (h:P) (u:Lo h):P:=h
inductive Stp (n:Nat):Prop|mk
theorem zN (n:Nat):Stp n:= .mk
theorem hdt {cx:Cx} {c:Code} {Q:Exit→AS→Prop} {s:AS} {n:Nat} (st:Stp n) (h:hdR c=some n) (g:AW cx c Q s):AW cx c Q s:=g
theorem zj {a b:Prop} (x:a) (y:b):a∧b:=⟨x,y⟩
theorem zq {a b c:Prop} (x:a) (y:b) (z:c):a∧b∧c:=⟨x,y,z⟩
theorem zE {a b c d:Prop} (x:a) (y:b) (z:c) (u:d):a∧b∧c∧d:=⟨x,y,z,u⟩
theorem zaB {a b c d e:Prop} (x:a) (y:b) (z:c) (u:d) (v:e):a∧b∧c∧d∧e:=⟨x,y,z,u,v⟩
theorem zo {a b c d e f:Prop} (x:a) (y:b) (z:c) (u:d) (v:e) (w:f):a∧b∧c∧d∧e∧f:=⟨x,y,z,u,v,w⟩
theorem natC:∀n:Nat,((n:Int)).toNat=n:=Int.toNat_natCast
inductive Ow (l:List FuncId):Prop|mk
theorem ownsL (l:List FuncId):Ow l:= .mk
theorem zih {cx:Cx} {ops:Array Oper} {s:AS} {id:Nat} {Q:Exit→AS→Prop} (tab:Tab) {l:List FuncId} (_:Ow l) (ht:TabOk cx.P tab) (hm:cx.P.follows .mixedOrders=true) (h:gops cx tab l ops (top cx.fl s.h) ops.toList [] (Q .normal) s):AW cx (.region id ops true) Q s:=zbL tab l ht hm h
theorem zfP {cx:Cx} {ops:Array Oper} {s:AS} {id:Nat} {y:Code} {Q:Exit→AS→Prop} (tab:Tab) {l:List FuncId} (_:Ow l) (ht:TabOk cx.P tab) (hm:cx.P.follows .mixedOrders=true) (h:∀K,(∀s',AW cx y Q s'→K s')→gops cx tab l ops (top cx.fl s.h) ops.toList [] K s):AW cx (.seq (.region id ops true) y) Q s:=zbv tab l ht hm h
theorem wao {P:Prop} {cx:Cx} {y:Code} {Q:Exit→AS→Prop} {R:(AS→Prop)→Prop} (h:∀K:AS→Prop,(∀s',AW cx y Q s'→K s')→R K) (t:(∀K:AS→Prop,(∀s',AW cx y Q s'→K s')→R K)→P:=by
  intro h
  refine zfP _ ow tk mx (fun K hK=>eqmp (h K hK) ?_);simp only [go_sem,aeq,aeq.aeqF,simprocAttr,fx];rfl):P:=t h
theorem wbo {P Q:Prop} (h:Q) (t:Q→P:=by
  intro h
  refine zih _ ow tk mx (eqmp h ?_);simp only [go_sem,aeq,aeq.aeqF,simprocAttr,fx];rfl):P:=t h
section
variable {Q F : Prop} {P : Program} {T : Tab} {l : List FuncId} {n : Nat}
theorem walkW (fx:F) (tk:TabOk P T) (t:F→TabOk P T→Q:=by intro fx tk;repeat' (first|(refine hK _ ?_;clear hK K)|refine wa fun K hK=>?_|refine wb ?_|refine wc ?_ ?_|refine wn fun nb hnb=>?_|exact we|refine wd fun hc=>?_|clear hK K|(clear fx tk;apply_rules (newGoals:= .nonDependentOnly) (maxDepth:=1) only [lo2];constructor))):Q:=t fx tk
theorem walkR (fx:F) (tk:TabOk P T) (t:F→TabOk P T→Q:=by intro fx tk;repeat' (first|(refine hK _ ?_;clear hK K)|refine wa fun K hK=>?_|refine wb ?_|refine wc ?_ ?_|refine wl ?_|refine fun (r2:Rnd _)=>?_|refine wn fun nb hnb=>?_|exact ‹_<+:_› |exact we|refine wd fun hc=>?_|clear hK K|(clear fx tk;apply_rules (newGoals:= .nonDependentOnly) (maxDepth:=1) only [lo2];constructor))):Q:=t fx tk
theorem zga (st:Stp n) (fx:F) (tk:TabOk P T) (t:Stp n→F→TabOk P T→Q:=by intro st fx tk;repeat' (first|(refine hdt st rfl ?_;clear fx tk st;apply_rules (newGoals:= .nonDependentOnly) (maxDepth:=1) only [lo2];constructor)|(refine hK _ ?_;clear hK K)|refine wa fun K hK=>?_|refine wb ?_|refine wc ?_ ?_|refine wn fun nb hnb=>?_|exact we|refine wd fun hc=>?_|clear hK K|(clear fx tk st;apply_rules (newGoals:= .nonDependentOnly) (maxDepth:=1) only [lo2];constructor))):Q:=t st fx tk
theorem zgb (st:Stp n) (fx:F) (tk:TabOk P T) (t:Stp n→F→TabOk P T→Q:=by intro st fx tk;repeat' (first|(refine hdt st rfl ?_;clear fx tk st;apply_rules (newGoals:= .nonDependentOnly) (maxDepth:=1) only [lo2];constructor)|(refine hK _ ?_;clear hK K)|refine wa fun K hK=>?_|refine wb ?_|refine wc ?_ ?_|refine wl ?_|refine fun (r2:Rnd _)=>?_|refine wn fun nb hnb=>?_|exact ‹_<+:_› |exact we|refine wd fun hc=>?_|clear hK K|(clear fx tk st;apply_rules (newGoals:= .nonDependentOnly) (maxDepth:=1) only [lo2];constructor))):Q:=t st fx tk
theorem zpA (ow:Ow l) (fx:F) (tk:TabOk P T) (t:Ow l→F→TabOk P T→Q:=by intro ow fx tk;repeat' (first|(refine hK _ ?_;clear hK K)|refine wao fun K hK=>?_|refine wbo ?_|refine wa fun K hK=>?_|refine wb ?_|refine wc ?_ ?_|refine wn fun nb hnb=>?_|exact we|refine wd fun hc=>?_|clear hK K|(clear fx tk ow;apply_rules (newGoals:= .nonDependentOnly) (maxDepth:=1) only [lo2];constructor))):Q:=t ow fx tk
theorem zc (fx:F) (t:F→Q:=by intro fx;repeat' (first|(refine hK _ ?_;clear hK K)|refine wa fun K hK=>?_|refine wb ?_|refine wc ?_ ?_|refine wn fun nb hnb=>?_|exact we|refine wd fun hc=>?_|clear hK K|(clear fx;apply_rules (newGoals:= .nonDependentOnly) (maxDepth:=1) only [lo2];constructor))):Q:=t fx
theorem zaS (fx:F) (t:F→Q:=by intro fx;repeat' (first|(refine hK _ ?_;clear hK K)|refine wa fun K hK=>?_|refine wb ?_|refine wc ?_ ?_|refine wl ?_|refine fun (r2:Rnd _)=>?_|refine wn fun nb hnb=>?_|exact ‹_<+:_› |exact we|refine wd fun hc=>?_|clear hK K|(clear fx;apply_rules (newGoals:= .nonDependentOnly) (maxDepth:=1) only [lo2];constructor))):Q:=t fx
theorem zgc (fx:F) (t:F→Q:=by intro fx;repeat' (first|refine xk ?_|(refine hK _ ?_;clear hK K)|refine xa fun K hK=>?_|refine xb ?_|refine wc ?_ ?_|refine wl ?_|refine fun (r2:Rnd _)=>?_|refine wn fun nb hnb=>?_|exact ‹_<+:_› |exact we|refine wd fun hc=>?_|clear hK K|(clear fx;apply_rules (newGoals:= .nonDependentOnly) (maxDepth:=1) only [lo2];constructor))):Q:=t fx
theorem zad (st:Stp n) (fx:F) (t:Stp n→F→Q:=by intro st fx;repeat' (first|(refine hdt st rfl ?_;clear fx st;apply_rules (newGoals:= .nonDependentOnly) (maxDepth:=1) only [lo2];constructor)|(refine hK _ ?_;clear hK K)|refine wa fun K hK=>?_|refine wb ?_|refine wc ?_ ?_|refine wn fun nb hnb=>?_|exact we|refine wd fun hc=>?_|clear hK K|(clear fx st;apply_rules (newGoals:= .nonDependentOnly) (maxDepth:=1) only [lo2];constructor))):Q:=t st fx
theorem zsM (st:Stp n) (fx:F) (t:Stp n→F→Q:=by intro st fx;repeat' (first|(refine hdt st rfl ?_;clear fx st;apply_rules (newGoals:= .nonDependentOnly) (maxDepth:=1) only [lo2];constructor)|(refine hK _ ?_;clear hK K)|refine wa fun K hK=>?_|refine wb ?_|refine wc ?_ ?_|refine wl ?_|refine fun (r2:Rnd _)=>?_|refine wn fun nb hnb=>?_|exact ‹_<+:_› |exact we|refine wd fun hc=>?_|clear hK K|(clear fx st;apply_rules (newGoals:= .nonDependentOnly) (maxDepth:=1) only [lo2];constructor))):Q:=t st fx
theorem zxA (st:Stp n) (fx:F) (t:Stp n→F→Q:=by intro st fx;repeat' (first|(refine hdt st rfl ?_;clear fx st;apply_rules (newGoals:= .nonDependentOnly) (maxDepth:=1) only [lo2];constructor)|refine xk ?_|(refine hK _ ?_;clear hK K)|refine xa fun K hK=>?_|refine xb ?_|refine wc ?_ ?_|refine wl ?_|refine fun (r2:Rnd _)=>?_|refine wn fun nb hnb=>?_|exact ‹_<+:_› |exact we|refine wd fun hc=>?_|clear hK K|(clear fx st;apply_rules (newGoals:= .nonDependentOnly) (maxDepth:=1) only [lo2];constructor))):Q:=t st fx
theorem zfQ (ow:Ow l) (fx:F) (t:Ow l→F→Q:=by intro ow fx;repeat' (first|(refine hK _ ?_;clear hK K)|refine wao fun K hK=>?_|refine wbo ?_|refine wa fun K hK=>?_|refine wb ?_|refine wc ?_ ?_|refine wn fun nb hnb=>?_|exact we|refine wd fun hc=>?_|clear hK K|(clear fx ow;apply_rules (newGoals:= .nonDependentOnly) (maxDepth:=1) only [lo2];constructor))):Q:=t ow fx
theorem zxB (ow:Ow l) (fx:F) (t:Ow l→F→Q:=by intro ow fx;repeat' (first|(refine hK _ ?_;clear hK K)|refine wao fun K hK=>?_|refine wbo ?_|refine wa fun K hK=>?_|refine wb ?_|refine wc ?_ ?_|refine wl ?_|refine fun (r2:Rnd _)=>?_|refine wn fun nb hnb=>?_|exact ‹_<+:_› |exact we|refine wd fun hc=>?_|clear hK K|(clear fx ow;apply_rules (newGoals:= .nonDependentOnly) (maxDepth:=1) only [lo2];constructor))):Q:=t ow fx
end
open Go
def never:AHeap:= [(0,.var [.vp 1 0])]
theorem zl7 {cx:Cx} {E:Env} {s:AS} {a:Act} {w:World} (hs:Sat cx E s a w) (h:s.h=never):False:=by
 have:=hs.hp.heap 0 (.var [.vp 1 0]) (by rw [h];simp [never,hget])
 simp only [RepObj,Reps,Rep] at this
 obtain ⟨b,c,T,fz,_,_,⟨v,r,_,⟨b2,cs,h2,_⟩,_⟩,_⟩:=this
 rw [h] at h2
 simp [never,hget] at h2
theorem zvq {cx:Cx} {c:Code} {Q:Exit→AS→Prop} {t:List (Nat×(Bool×AV))} {g:Option (List (List AV))} :AW cx c Q ⟨t,never,g⟩:=
 fun E a w hs=>(zl7 hs rfl).elim
theorem zqD {cx:Cx} {c:Code} {Q:Exit→AS→Prop} {s:AS} (h:AW cx c (fun e s=>Q e s∨s.h=never) s):AW cx c Q s:=by
 intro E a w hs
 refine wpIn_mono (h E a w hs) ?_
 rintro e a1 w1 ⟨E1,s1,hq,hs1,he⟩
 rcases hq with hq|hq
 ·exact ⟨E1,s1,hq,hs1,he⟩
 ·exact (zl7 hs1 hq).elim
open Classical in
theorem zsU {cx:Cx} {s:AS} {Q:Exit→AS→Prop} {g:Operand} {ps:Array Tmp} {assign body:Code} {f:FuncId} {fs caps:List AV} (fl:Nat) {items:List (List AV)} (Good:List (List AV)→Prop) (I:List (List AV)→AHeap×Option (List (List AV))) (J:Code→AHeap→Option (List (List AV))→Prop)
  (hit:AIter cx.P f fl fs caps [] items (fun g h'=>(∀xs,g=some xs→xs=items)∧h'= [])) (hg:s.ev g=(true,.fn (.func f) fs caps)) (hro:cx.lone=true)
  (hfl:∀i,(hget s.h i).isSome→i<fl) (hfc:cx.fl≤fl) (hids:AV.idsL fs++AV.idsL caps= [])
  (hG0:Good []) (hI:leH s.h (I []).1) (hIn:inH (I []).1 (idsH (I []).1)) (hIg:(I []).2=s.g)
  (hlen:∀x∈items,x.length=ps.size) (hps:∀t∈ps.toList,t<cx.nt)
  (hround:∀xs x,(xs++ [x])<+:items→Good xs→∀ (l:Nat) (r1:Rnd cx),AW (cx.inR l fl r1) assign (AsgK fun s1=>∀r2:Rnd cx,AW (cx.inR l fl r2) body (zf (fun h' g'=>Good (xs++ [x])∧leH h' (I (xs++ [x])).1∧inH (I (xs++ [x])).1 (idsH (I (xs++ [x])).1)∧g'=(I (xs++ [x])).2) J) s1)
   { t:=zc6 ps.toList x (keepT (I xs).1 s.t),h:=(I xs).1,g:=(I xs).2 })
  (hdone:Good items→Q .normal { t:=keepT (I items).1 s.t,h:=(I items).1,g:=(I items).2 })
  (hstop:∀c h3 g3,J c h3 g3→AW cx c Q { t:=keepT h3 s.t,h:=h3,g:=g3 }):
  AW cx (.rangeFunc g ps assign body) Q s:=by
 refine zqD (zsI fl (fun xs=>if Good xs then I xs else (never,none)) J hit hg hro hfl hfc hids ?_ ?_ ?_ hlen hps ?_ ?_ ?_)
 ·simp only [if_pos hG0];exact hI
 ·simp only [if_pos hG0];exact hIn
 ·simp only [if_pos hG0];exact hIg
 ·intro xs x hp l r1
  by_cases hgd:Good xs
  ·simp only [if_pos hgd]
   refine (hround xs x hp hgd l r1).mono ?_
   intro e s1 h1
   cases e with
   | normal=>
    intro r2
    refine (h1 r2).mono ?_
    intro e2 s2 h2
    cases e2 with
    |normal=>
     obtain ⟨g1,g2,g3,g4⟩:=h2
     simp only [zf,if_pos g1]
     exact ⟨g2,g3,g4⟩
    |_=>exact h2
   |_=>exact h1
  ·simp only [if_neg hgd]
   exact zvq
 ·by_cases hgd:Good items
  ·simp only [if_pos hgd];exact .inl (hdone hgd)
  ·simp only [if_neg hgd];exact .inr trivial
 ·intro c h3 g3 hj
  exact (hstop c h3 g3 hj).mono fun e s h=> .inl h
theorem zxD {α β:Type} {g:α→β} {xs:List β} {x:β} {l:List α} (h:(xs++ [x])<+:l.map g):∃ys q zs,xs=ys.map g∧x=g q∧l=ys++q::zs:=by
 obtain ⟨r,hr⟩:=h
 rw [List.append_assoc,List.singleton_append] at hr
 obtain ⟨ys,zs,hl,h1,h2⟩:=List.map_eq_append_iff.1 hr.symm
 obtain ⟨q,zs',hz,h3,h4⟩:=List.map_eq_cons_iff.1 h2
 exact ⟨ys,q,zs',h1.symm,h3.symm,by rw [hl,hz]⟩
theorem zsV {cx:Cx} {c:Code} {Q:Exit→AS→Prop} {s:AS} (h:AW cx c (fun e s=>Q e { t:= [],h:= [],g:=s.g }) s):AW cx c Q s:=by
 intro E a w hs
 refine wpIn_mono (h E a w hs) ?_
 rintro e a1 w1 ⟨E1,s1,hq,hs1,he⟩
 have hno:∀b,¬Own E1 [] b:=fun b ⟨i,hi,_⟩=>av
 refine ⟨E1, { t:= [],h:= [],g:=s1.g },hq,⟨fun k g v hk=>cg,hs1.nt,⟨fun i o ho=>aP,fun i j b hi=>av,fun b hb=>absurd hb (hno b),hs1.hp.mlt,hs1.hp.nlt⟩,hs1.base,hs1.marks,?_⟩,
  ⟨he.os,he.tape,he.output,he.size,he.keep,fun b hb=>absurd hb (hno b),he.m1,he.m2,he.n,fun i _ h=>by simp [hget] at h⟩⟩
 exact cx.stab _ _ _ _ _ w1 _ (fun _ _ _=>rfl) (fun b hb=> .inl (hb.elim (fun h=>absurd h (hno b)) .inr)) (fun b hb=>hb.elim (fun h=>absurd h (hno b)) hs1.marks.lt) (Nat.le_refl _) rfl rfl rfl hs1.ghost
open Go
def zek (v:AV):AV:=if v.scal=true then v else .any
def zstep (cx:Cx) (o:Oper) (s f:AS) (K:AS→AS→Prop):Prop:=
 dstOk cx.nt o.dst∧o.guard=none∧
 match o.op with
 | .move x=>known s x=true∧(s.ev x).1=true∧K (s.put o.dst true ((s.ev x).2.tag cx.P o.type)) (f.put o.dst true (zek ((s.ev x).2.tag cx.P o.type)))
 | .assign x=>known s x=true∧(s.ev x).1=true∧K (s.put o.dst true ((s.ev x).2.tag cx.P o.type)) (f.put o.dst true (zek ((s.ev x).2.tag cx.P o.type)))
 | .call c=>isVal cx.P (.call c)=true∧(aval cx.P f (.call c)).1∧K (s.put o.dst true (zek (aval cx.P f (.call c)).2)) (f.put o.dst true (aval cx.P f (.call c)).2)
 | .load t x=>isVal cx.P (.load t x)=true∧(aval cx.P f (.load t x)).1∧K (s.put o.dst true .any) (f.put o.dst true (aval cx.P f (.load t x)).2)
 |op=>isVal cx.P op=true∧(aval cx.P f op).1∧K (s.put o.dst true (zek (aval cx.P f op).2)) (f.put o.dst true (aval cx.P f op).2)
def zjA (cx:Cx):List Oper→AS→AS→(AS→Prop)→Prop
 | [],s,_,K=>K s
 |o::r,s,f,K=>zstep cx o s f (fun s' f'=>zjA cx r s' f' K)
section
variable {cx : Cx} {tab : Tab} {E F : Env} {s f : AS} {a : Act} {w : World}
theorem zmf {W W':World} {E E':Env} {h h':AHeap} {v:AV} {x:Value} (hr:Rep W E h v x):Rep W' E' h' (zek v) x:=by
 unfold zek
 split
 ·rename_i hs;exact Rep.scal v x hs hr
 ·simp only [Rep]
theorem zmg {d:Option Nat} {v:AV} {x:Value} (hs:Slots w F f a) (hsz:∀k,d=some k→k<a.tmps.size) (hv:Rep w F f.h v x):Slots w F (f.put d true v) (a.put d x):=by
 cases d with
 |none=>exact hs
 | some d=>
  intro k g u hk
  have hd:=hsz d rfl
  rw [zsG] at hk
  have hh:(f.put (some d) true v).h=f.h:=rfl
  rw [hh]
  split at hk
  ·rename_i e
   simp only [Option.some.injEq] at e
   subst e
   simp only [Option.some.injEq,Prod.mk.injEq] at hk
   obtain ⟨rfl,rfl⟩:=hk
   refine ⟨x,?_,fun _=>hv,fun e=>ai⟩
   simp [Act.put,hd]
  ·rename_i e
   have e:¬d=k:=fun h=>e (by rw [h])
   obtain ⟨y,h1,h2,h3⟩:=hs k g u hk
   refine ⟨y,?_,h2,h3⟩
   simpa [Act.put,Array.getElem?_setIfInBounds_ne e] using h1
theorem zvE {o:Oper} {K:AS→AS→Prop} {Q:Exit→Act→World→Prop} {next:Act→World→Prop} (hs:Sat cx E s a w) (hp:SatH F f.h w) (hf:Slots w F f a) (h:zstep cx o s f K)
  (hn:∀s' f' a',Sat cx E s' a' w→SatH F f'.h w→Slots w F f' a'→s'.h=s.h→K s' f'→next a' w):o.wpIn cx.F 0 cx.P a w next Q:=by
 obtain ⟨hd,hg,h⟩:=h
 have hdst:∀k,o.dst=some k→k<cx.nt:=fun k e=>bm
 have hdst':∀k,o.dst=some k→k<a.tmps.size:=fun k e=>by rw [hs.nt];exact hdst k e
 have hputh:∀ (u:AS) (v:AV),(u.put o.dst true v).h=u.h:=fun u v=>by unfold AS.put;cases o.dst<;>rfl
 have hval:∀u:AV,(u= .any∨u=zek (aval cx.P f o.op).2)→isVal cx.P o.op=true→(aval cx.P f o.op).1→K (s.put o.dst true u) (f.put o.dst true (aval cx.P f o.op).2)→o.wpIn cx.F 0 cx.P a w next Q:=by
  intro u hu h0 h1 h2
  obtain ⟨v,hv,hr⟩:=zny hp hf o h1
  refine Does.wpIn (zh4 h0) (R:=fun v' w'=>v'=v∧w'=w) (.inl ⟨v,w,hv,rfl,rfl⟩) ?_
  rintro v' w' ⟨rfl,rfl⟩
  refine hn _ _ _ (hs.put hdst (fun _=>?_) (fun e=>ai)) (by rw [hputh];exact hp) (zmg hf hdst' hr) (hputh _ _) h2
  rcases hu with rfl|rfl
  ·simp only [Rep]
  ·exact zmf hr
 have hmove:∀x,(execOp a.eval o=pure (.value (a.eval x)))→(∀c,o.op≠ .defer c)→(s.ev x).1=true→K (s.put o.dst true ((s.ev x).2.tag cx.P o.type)) (f.put o.dst true (zek ((s.ev x).2.tag cx.P o.type)))→o.wpIn cx.F 0 cx.P a w next Q:=by
  intro x he h3 h1 h2
  refine Does.wpIn h3 (R:=fun v' w'=>v'=a.eval x∧w'=w) (.inl ⟨a.eval x,w,by rw [he];rfl,rfl,rfl⟩) ?_
  rintro v' w' ⟨rfl,rfl⟩
  have hr:=Rep.tag (P:=cx.P) (t:=o.type) (ev_ok hs.slots x h1)
  exact hn _ _ _ (hs.put hdst (fun _=>hr) (fun e=>ai)) (by rw [hputh];exact hp) (zmg hf hdst' (zmf hr)) (hputh _ _) h2
 obtain ⟨dst,op,ot,pos,after,guard⟩:=o
 dsimp only at h hval hmove
 split at h
 ·exact hmove _ rfl aa h.2.1 h.2.2
 ·exact hmove _ rfl aa h.2.1 h.2.2
 ·exact hval _ (.inr rfl) h.1 h.2.1 h.2.2
 ·exact hval _ (.inl rfl) h.1 h.2.1 h.2.2
 ·exact hval _ (.inr rfl) h.1 h.2.1 h.2.2
theorem zmh (ht:TabOk cx.P tab) {all:Array Oper} :∀ (l:List Nat) (pre rest:List Oper) {K:AS→Prop} {s f:AS} {a:Act},l.map (all[·]?)=(pre++rest).map some→Sat cx E s a w→SatH F f.h w→Slots w F f a→zjA cx pre s f (fun s'=>aopsY cx tab all rest K s')→
  wpOpsIn cx.F 0 cx.P all (fun e a' w'=>e= .normal∧Reach cx E s.h w K a' w') l a w
 |l,[],rest,K,s,f,a,hl,hs,_,_,h=>zf3 ht l rest aH hs h
 | [],o::pre,rest,K,s,f,a,hl,hs,_,_,h=>aW
 | i::l,o::pre,rest,K,s,f,a,hl,hs,hp,hf,h=>by
  simp only [List.cons_append,List.map_cons,List.cons.injEq] at hl
  obtain ⟨hi,hl⟩:=hl
  simp only [zjA] at h
  simp only [wpOpsIn,hi]
  have hw:Region.wanted o (yielded all a.tmps)=true:=by
   unfold Region.wanted
   rw [h.2.1]
  rw [if_pos hw]
  refine zvE hs hp hf h ?_
  intro s' f' a' hs' hp' hf' he hK
  have:=zmh ht l pre rest hl hs' hp' hf' hK
  rw [he] at this
  exact this
theorem zqI {β:Type} {id:Nat} {ops:Array Oper} {Q:Exit→AS→Prop} (tab:Tab) (ht:TabOk cx.P tab) (pre rest:List Oper) (hsp:ops.toList=pre++rest) (f:β→AS)
  (hS:∀g M N A w,cx.G g M N A w→∃F b,SatH F (f b).h w∧∀k g v,lk (f b).t k=some (g,v)→g=true∧∃u,lk s.t k=some (true,.raw u)∧Rep w F (f b).h v u)
  (h:∀b,zjA cx pre s (f b) (fun s'=>aopsY cx tab ops rest (Q .normal) s')):AW cx (.region id ops false) Q s:=fun E a w hs=>by
 obtain ⟨F,b,hp,hl⟩:=hS _ _ _ _ _ hs.ghost
 refine wpIn_region (zL _ (zmh (F:=F) ht _ pre rest (by rw [← hsp];exact zdo ops) hs hp (fun k g v hk=>?_) (h b)) cu)
 obtain ⟨rfl,u,h1,h2⟩:=hl k g v hk
 obtain ⟨x,h3,h4,_⟩:=hs.slots k true _ h1
 have:=h4 rfl
 simp only [Rep] at this
 subst this
 exact ⟨x,h3,fun _=>h2,fun e=>ai⟩
theorem zfz {β:Type} {id:Nat} {ops:Array Oper} {y:Code} {Q:Exit→AS→Prop} (tab:Tab) (ht:TabOk cx.P tab) (pre rest:List Oper) (hsp:ops.toList=pre++rest) (f:β→AS)
  (hS:∀g M N A w,cx.G g M N A w→∃F b,SatH F (f b).h w∧∀k g v,lk (f b).t k=some (g,v)→g=true∧∃u,lk s.t k=some (true,.raw u)∧Rep w F (f b).h v u)
  (h:∀K,(∀s',AW cx y Q s'→K s')→∀b,zjA cx pre s (f b) (fun s'=>aopsY cx tab ops rest K s')):AW cx (.seq (.region id ops false) y) Q s:=
 zbm fun K hK=>zqI tab ht pre rest hsp f hS (h K hK)
end
attribute [go_sem] zjA zstep zek List.take_succ_cons List.take_zero List.drop_succ_cons List.drop_zero
theorem zqJ {cx:Cx} {s:AS} {Q:Exit→AS→Prop} {g:Operand} {ps:Array Tmp} {assign body:Code} {f:FuncId} {q:Nat} (fl:Nat) {items:List (List AV)} (I:List (List AV)→AHeap×Option (List (List AV)))
  (hg:s.ev g=(true,.fn (.func f) [] [.vp q 0])) (hro:cx.lone=true) (hen:zdG cx.P f)
  (hrun:∀ (y:Yo cx.P items) (v0:Value),(∀g M N A w,y.G g M N A w→∃F xs,SatH F (I xs).1 w∧Rep w F (I xs).1 (.vp q 0) v0)→∀E w,SatH E [] w→y.G (some []) E.M E.N (Own E []) w→
   Calls cx.P f (#[]++ #[Value.func (.yield y.yl) #[] #[]]++ #[v0]) w (fun e w'=>∃v E' h' g,e= .returned v∧((∀xs,g=some xs→xs=items)∧h'= [])∧SatH E' h' w'∧Evo fl E [] w E' h' w'∧y.G g E'.M E'.N (Own E' h') w'))
  (hfl:∀i,(hget s.h i).isSome→i<fl) (hfc:cx.fl≤fl) (hq:∃cs,hget s.h q=some (.var cs)) (hqI:∀xs,∃cs,hget (I xs).1 q=some (.var cs))
  (hI:leH s.h (I []).1) (hIn:inH (I []).1 (idsH (I []).1)) (hIg:(I []).2=s.g)
  (hlen:∀x∈items,x.length=ps.size) (hps:∀t∈ps.toList,t<cx.nt)
  (hround:∀xs x,(xs++ [x])<+:items→∀ (l:Nat) (r1:Rnd cx),AW (cx.inR l fl r1) assign (AsgK fun s1=>∀r2:Rnd cx,AW (cx.inR l fl r2) body (zf (fun h' g'=>leH h' (I (xs++ [x])).1∧inH (I (xs++ [x])).1 (idsH (I (xs++ [x])).1)∧g'=(I (xs++ [x])).2) (fun _ _ _=>False)) s1)
   { t:=zc6 ps.toList x (keepT (I xs).1 s.t),h:=(I xs).1,g:=(I xs).2 })
  (hdone:Q .normal { t:=keepT (I items).1 s.t,h:=(I items).1,g:=(I items).2 }):
  AW cx (.rangeFunc g ps assign body) Q s:=by
 have hs0:hsel (fun _=>false) s.h= []:=by
  induction s.h with
  |nil=>rfl
  |cons a h ih=>simp only [hsel];rw [if_neg aa];exact ih
 have hs1:hsel (fun i=> !(fun _=>false) i) s.h=s.h:=zfj (fun q _=>rfl)
 refine zf5 (Kit:=fun g h'=>(∀xs,g=some xs→xs=items)∧h'= []) (items:=items) (fl:=fl) (caps':= [.any]) (fun _=>false) I (fun _ _ _=>False) hro hg (by simp [AV.leL,AV.le]) hen ?_ hfl hfc ?_ ?_ (by rw [hs1];exact hI) hIn hIg (fun _ _ _ _=>rfl) (fun _ _ _ h=>h.elim) ?_ hlen hps hround ?_ ?_
 ·intro E0 w0 pf qc h0 hpf hqc
  have hpf':pf= #[]:=by simp only [Reps] at hpf;simpa using hpf
  subst hpf'
  simp only [Reps] at hqc
  obtain ⟨v0,r,hv0,hr0,hr⟩:=hqc
  subst hr
  have hqc':qc= #[v0]:=by
   apply Array.ext'
   simpa using hv0
  subst hqc'
  refine ⟨fun w=>∃F xs,SatH F (I xs).1 w∧Rep w F (I xs).1 (.vp q 0) v0,?_,?_,fun _ _ _ h=>h.elim⟩
  ·intro y hy E w hsE _ _ hG
   rw [hs0] at hsE hG ⊢
   exact hrun y v0 hy E w hsE hG
  ·intro xs E w hsE hgo
   refine ⟨E,xs,hsE,?_⟩
   obtain ⟨cs,hc⟩:=hqI xs
   obtain ⟨cs0,hc0⟩:=hq
   have hgq:=hgo q (hfl q (by rw [hc0];rfl)) (by rw [hc];rfl)
   simp only [Rep] at hr0 ⊢
   obtain ⟨b,cs',h1,h2,h3⟩:=hr0
   unfold GoesOn at hgq
   rw [hc0] at hgq
   exact ⟨b,cs,hc,hgq.1.trans h2,h3⟩
 ·intro i o _ h;cases h
 ·intro j hj;simp [AV.idsL,AV.ids] at hj
 ·rintro g h' ⟨h1,rfl⟩
  exact ⟨fun i hi=>av,h1⟩
 ·rintro h1 ⟨_,rfl⟩
  exact hdone
 ·exact fun _ _ _ _ _ h=>h.elim
open Go
open Go
def APan (P:Program) (f:FuncId) (fl:Nat) (args:List AV) (h:AHeap) (v:Value):Prop:=
 zdG P f∧∀E w (vs:Array Value),SatH E h w→Reps w E h args vs.toList→
  Calls P f vs w (fun e w'=>∃E' h',e= .panicked [{ v:=v,recovered:=false }]∧SatH E' h' w'∧EvoC fl E h w E' h' w')
def PanK (v:Value):Exit→AS→Prop
 | .panic ch,_=>ch= [{ v:=v,recovered:=false }]
 |_,_=>False
def opPan (cx:Cx) (o:Oper) (v:Value) (s:AS):Prop:=
 match o.op with
 | .panic x=>(match s.ev x with
  |(g,.iface t (.d y))=>g=true∧y.scal=true∧v= .iface t (valD y)
  |_=>False)
 | .call c=>(match zbg cx.P s c with
  |some (f,args,vc)=>vc∧APan cx.P f cx.fl args s.h v
  |none=>False)
 |_=>False
def aopsP (cx:Cx) (tab:Tab) (all:Array Oper) (v:Value):Nat→List Oper→AS→Prop
 |0,o::_,s=>za3 s all o.guard=some true∧opPan cx o v s
 |k+1,o::r,s=>(match za3 s all o.guard with
  |some G=>aopT cx tab G o (aopsP cx tab all v k r) s
  |none=>False)
 |_,[],_=>False
section
variable {P : Program} {cx : Cx} {tab : Tab} {E : Env} {s : AS} {a : Act} {w : World}
theorem zwf {o:Oper} {v:Value} {next:Act→World→Prop} {Q:Exit→Act→World→Prop} (hs:Sat cx E s a w) (h:opPan cx o v s) (hQ:∀w',Reach cx E s.h w (fun _=>True) a w'→Q (.panic [{ v:=v,recovered:=false }]) a w'):o.wpIn cx.F 0 cx.P a w next Q:=by
 unfold opPan at h
 refine ⟨fun _ _=>trivial,?_⟩
 split at h
 ·rename_i x hop
  split at h
  case h_2=>exact h.elim
  rename_i g t y hev
  obtain ⟨rfl,hsc,hv⟩:=h
  have hx:=ev_ok hs.slots x (by rw [hev])
  rw [hev] at hx
  simp only [Rep] at hx
  obtain ⟨u,hu,hru⟩:=hx
  rw [Oper.semAt_eq _ _ _ (by rw [hop];simp)]
  have hrun:(execOp a.eval o).run cx.P w= .halt (.panic v) w:=by
   obtain ⟨dst,op,ot,pos,after,guard⟩:=o
   dsimp only at hop
   subst hop
   rw [hv,← (zcR hsc).1 hru]
   show (execOp a.eval ⟨dst,.panic x,ot,pos,after,guard⟩).run cx.P w=_
   simp only [execOp,hu]
   rfl
  rw [hrun,Oper.uponIn_panic]
  exact hQ w ⟨E,s,trivial,hs,Evo.refl _ _ _ _⟩
 ·rename_i c hop
  split at h
  ·rename_i f args vc hco
   obtain ⟨hvc,hen,hcall⟩:=h
   obtain ⟨vs,hvs,hrun⟩:=zjp hop hs hco hvc hen
   rw [Oper.semAt_eq _ _ _ (by rw [hop];simp),hrun]
   simp only [Oper.uponIn_enter]
   refine ⟨(fun h=>aB),?_⟩
   refine (zkj _ (hcall E w _ hs.hp hvs)).mono ?_
   rintro e w' ⟨E',h',rfl,hh,hev⟩
   refine hQ w' ⟨E', { t:= [],h:=h',g:=s.g },trivial,⟨fun k g v hk=>cg,hs.nt,hh,⟨Nat.le_trans hs.base.1 hev.size,hs.base.2⟩,?_,?_⟩,hev.evo⟩
   ·exact hs.marks.step (fun b _ hb=>by rwa [← hev.m]) (fun r hr hm=>hev.keep r (Array.getElem?_eq_some_iff.1 hr).1 (hs.hp.not_mark hr))
   ·rw [hev.m,hev.n]
    exact cx.stab _ _ _ _ _ _ _ (fun b hb ho=>hev.keep b hb (fun h=>ho (.inl h))) (fun b hb=>hb.elim (fun hb=>(hev.own b hb).imp .inl id) (fun hb=> .inl (.inr hb))) (fun b hb=>hb.elim (fun h=>(hh.own b h).1) (fun h=>Nat.lt_of_lt_of_le (hs.marks.lt h) hev.size)) hev.size hev.tape hev.os hev.output hs.ghost
  ·exact h.elim
 ·exact h.elim
theorem zhQ (ht:TabOk cx.P tab) {all:Array Oper} {v:Value} :∀ (k:Nat) (l:List Nat) (ops:List Oper) {s:AS} {E:Env} {a:Act} {w:World},l.map (all[·]?)=ops.map some→Sat cx E s a w→aopsP cx tab all v k ops s→
  wpOpsIn cx.F 0 cx.P all (fun e a' w'=>e= .panic [{ v:=v,recovered:=false }]∧Reach cx E s.h w (fun _=>True) a' w') l a w
 |k,[],ops,s,E,a,w,hl,hs,h=>by
  have:ops= []:=cJ
  subst this
  cases k<;>exact h.elim
 |k,i::l,[],s,E,a,w,hl,hs,h=>aW
 |0,i::l,o::ops,s,E,a,w,hl,hs,h=>by
  simp only [List.map_cons,List.cons.injEq] at hl
  obtain ⟨hi,hl⟩:=hl
  simp only [wpOpsIn,hi]
  rw [zcT hs.slots h.1,if_pos rfl]
  exact zwf hs h.2 fun w' hr=>⟨rfl,hr⟩
 | k+1,i::l,o::ops,s,E,a,w,hl,hs,h=>by
  simp only [List.map_cons,List.cons.injEq] at hl
  obtain ⟨hi,hl⟩:=hl
  simp only [aopsP] at h
  split at h
  ·rename_i G hg
   simp only [wpOpsIn,hi]
   have:=zeN ht (Q:=fun _ _ _=>False) hs hg h
   split at this
   ·rename_i hw
    rw [if_pos hw]
    refine zaR this ?_
    rintro a1 w1 ⟨E1,s1,hk,hs1,he1⟩
    refine zL _ (zhQ ht k l ops hl hs1 hk) ?_
    rintro e a2 w2 ⟨rfl,hr⟩
    exact ⟨rfl,hr.trans he1⟩
   ·rename_i hw
    rw [if_neg hw]
    refine ⟨this.1,?_⟩
    obtain ⟨E1,s1,hk,hs1,he1⟩:=this.2
    refine zL _ (zhQ ht k l ops hl hs1 hk) ?_
    rintro e a2 w2 ⟨rfl,hr⟩
    exact ⟨rfl,hr.trans he1⟩
  ·exact h.elim
theorem zfq {id:Nat} {ops:Array Oper} {v:Value} {Q:Exit→AS→Prop} (tab:Tab) (ht:TabOk cx.P tab) (k:Nat) (hQ:∀s',Q (.panic [{ v:=v,recovered:=false }]) s') (h:aopsP cx tab ops v k ops.toList s):AW cx (.region id ops false) Q s:=fun E a w hs=>
 wpIn_region (zL _ (zhQ ht k _ _ (zdo ops) hs h) (by
  rintro e a' w' ⟨rfl,E',s',_,hs',he⟩
  exact ⟨E',s',hQ s',hs',he⟩))
theorem zaW {id:Nat} {ops:Array Oper} {y:Code} {v:Value} {Q:Exit→AS→Prop} (tab:Tab) (ht:TabOk cx.P tab) (k:Nat) (hQ:∀s',Q (.panic [{ v:=v,recovered:=false }]) s') (h:aopsP cx tab ops v k ops.toList s):AW cx (.seq (.region id ops false) y) Q s:=fun E a w hs=>
 wpIn_seq (wpIn_region (zL _ (zhQ ht k _ _ (zdo ops) hs h) (by
  rintro e a' w' ⟨rfl,E',s',_,hs',he⟩
  exact ⟨E',s',hQ s',hs',he⟩)))
theorem zmE {f:FuncId} {fn:Func} {c:Code} {nt fl:Nat} {args:List AV} {h:AHeap} {v:Value} (hf:P.funcs[f]?=some fn) (hb:fn.body=some c) (hen:zdG P f) (hnt:fn.ntmps=nt) (hn:args.length≤nt)
  (haw:∀base,AW { cxOf P base nt fl with rq:=true } c (PanK v) { t:=zaG 0 args,h:=h,g:=some [] }):APan P f fl args h v:=by
 refine ⟨hen,fun E w vs hs hr=>(callsIn_wide (n:=0)).1 (callsIn_of_wp_marks hf hb trivial ?_ rfl)⟩
 subst hnt
 have hlen:=Reps.length hr
 let E1:Env:= { O:=E.O,C:=E.C,M:=fun _=>False,N:=fun b=>E.M b∨E.N b }
 have hX1:∀b,b<w.heap.size→Xs E1 h b→Xs E h b:=fun b _ hx=>by
  rcases hx with hx|hx|hx
  ·exact .inl hx
  ·exact hx.elim
  ·exact .inr hx
 have hs1:SatH E1 h w:=hs.refit (Shut.refl 0 w) rfl rfl hX1 (fun b hb=>⟨fun h=>h,fun hn=>hn.elim (hs.own b hb).2.1 (hs.own b hb).2.2⟩) (fun _ h=>h.elim) (fun b hn=>hn.elim (hs.mlt b) (hs.nlt b))
 have hr1:Reps w E1 h args vs.toList:=Reps.refit (E:=E) (E':=E1) (Shut.refl 0 w) rfl rfl hX1 hr
 have hsat:Sat { cxOf P w.heap.size fn.ntmps fl with rq:=true } E1 { t:=zaG 0 args,h:=h,g:=some [] } { tmps:=vs++Array.replicate (fn.ntmps - vs.size) undef,defers:= [] } w:=by
  refine ⟨fun k g v hk=>?_,?_,hs1,⟨Nat.le_refl _,fun _=>rfl⟩,⟨aa,aa⟩,trivial⟩
  ·obtain ⟨rfl,_,hv⟩:=zdI args 0 k hk
   obtain ⟨x,hx,hrx⟩:=Reps.get hr1 hv
   have hx':vs[k]?=some x:=by simpa using hx
   have hk':=(Array.getElem?_eq_some_iff.1 hx').1
   exact ⟨x,cX,fun _=>hrx,fun e=>ai⟩
  ·have:vs.size=args.length:=by simpa using hlen
   simp [cxOf];omega
 refine wpIn_mono (haw w.heap.size E1 _ w hsat) ?_
 intro e a2 w2 hr2
 cases e with
 | panic ch=>
  obtain ⟨E2,s2,hv,hs2,he2⟩:=hr2
  simp only [PanK] at hv
  subst hv
  have hnd:a2.defers= []:=hs2.base.2 rfl
  show LeavesInM Fence.wide 0 P fn a2.tmps _ a2.defers (.panicking _) w2
  rw [hnd]
  have hN2:E2.N=fun b=>E.M b∨E.N b:=he2.n
  let E3:Env:= { O:=E2.O,C:=E2.C,M:=E.M,N:=E.N }
  have hX3:∀b,b<w2.heap.size→Xs E3 s2.h b→Xs E2 s2.h b:=fun b _ hx=>by
   rcases hx with hx|hx|hx
   ·exact .inl hx
   ·exact .inr (.inr (by rw [hN2];exact .inl hx))
   ·exact .inr (.inr (by rw [hN2];exact .inr hx))
  refine ⟨E3,s2.h,rfl,hs2.hp.refit (E':=E3) (Shut.refl 0 w2) rfl rfl hX3 (fun b hb=>?_) (fun b hb=>Nat.lt_of_lt_of_le (hs.mlt b hb) he2.size) (fun b hb=>Nat.lt_of_lt_of_le (hs.nlt b hb) he2.size),⟨he2.os,he2.tape,he2.output,he2.size,fun b hb ho=>he2.keep b hb ho (fun h=>h),he2.own,rfl,rfl,fun i hi hl=>he2.go i hi hl⟩⟩
  have:=(hs2.hp.own b hb).2.2
  rw [hN2] at this
  exact ⟨fun h=>this (.inl h),fun h=>this (.inr h)⟩
 |_=>exact absurd hr2 (by rintro ⟨_,_,h,_⟩;exact h)
theorem pbod {f:FuncId} {fn:Func} {c:Code} {nt fl:Nat} {args:List AV} {h:AHeap} {v:Value} (hf:P.funcs[f]?=some fn) (hnt:fn.ntmps=nt)
  (haw:∀base,AW { cxOf P base nt fl with rq:=true } c (PanK v) { t:=zaG 0 args,h:=h,g:=some [] }) (hb:fn.body=some c:=by rfl) (he:(fn.name== "runtime.NumGoroutine")=false:=by kernel_rfl) (hi:fn.body.isNone=false:=by rfl) (hn:args.length≤nt:=by simp):APan P f fl args h v:=
 zmE hf hb (zdp hf he hi) hnt hn haw
theorem zhR {f:FuncId} {args:List AV} {v:Value} {h:AHeap} {i fl1 fl:Nat} {ob:AObj} (hc:APan P f fl1 args [(i,ob)] v) (hg:hget h i=some ob) (hcl:∀j∈ob.ids,j=i) (ha:∀j∈AV.idsL args,j=i):APan P f fl args h v:=by
 obtain ⟨p,hp⟩:∃p:Nat→Bool,p=fun j=>decide (j=i):=⟨_,rfl⟩
 have he1:∀k,hget (hsel p h) k=hget [(i,ob)] k:=fun k=>by
  rw [zr,hp]
  simp only [hget,decide_eq_true_eq]
  by_cases hk:i=k
  ·subst hk;rw [if_pos rfl,if_pos rfl,hg]
  ·rw [if_neg hk,if_neg (Ne.symm hk)]
 refine ⟨hc.1,fun E w vs hs hr=>?_⟩
 have hs1:SatH E [(i,ob)] w:=(zkx hs (p:=p) (fun j o ho hpj k hk=>by
  rw [hp] at hpj ⊢
  have hj:j=i:=cO
  subst hj
  rw [hg] at ho;cases ho
  simpa using hcl k hk)).ext he1
 have hr1:Reps w E (hsel p h) args vs.toList:=zkw (fun j hj=>by rw [hp];simpa using ha j hj) hr
 have hr2:Reps w E [(i,ob)] args vs.toList:=Reps.step (fun b _ hx=>by unfold Xs at hx ⊢;rwa [zdU he1]) (fun _ _ _=>rfl) _ _ (fun j _=>zhp he1 j) hr1
 refine (hc.2 E w vs hs1 hr2).mono ?_
 rintro e w' ⟨E',h',rfl,hs',hev⟩
 refine ⟨E,[],rfl,⟨fun i o ho=>aP,fun i j b hi=>av,fun b ⟨i,hi,_⟩=>av,fun b hb=>Nat.lt_of_lt_of_le (hs.mlt b hb) hev.size,fun b hb=>Nat.lt_of_lt_of_le (hs.nlt b hb) hev.size⟩,
  ⟨hev.os,hev.tape,hev.output,hev.size,fun b hb ho=>hev.keep b hb (fun ⟨j,hj,hb'⟩=>ho ⟨j,?_,hb'⟩),fun b ⟨i,hi,_⟩=>av,rfl,rfl,fun i hi hl=>by simp [hget] at hl⟩⟩
 simp only [hget] at hj
 split at hj
 ·rename_i e;subst e;simp [hg]
 ·cases hj
end
attribute [go_sem] aopsP opPan
open Go
def aopsF (cx:Cx) (tab:Tab) (all:Array Oper) (i:Nat):Nat→List Oper→(AS→Prop)→AS→Prop
 |0,r,K,s=>∃o,hget s.h i=some o∧aopsT cx tab all r K (s.fz i o)
 |n+1,o::r,K,s=>match za3 s all o.guard with
  |some G=>aopT cx tab G o (aopsF cx tab all i n r K) s
  |none=>False
 |_+1,[],_,_=>False
attribute [go_sem] aopsF
section
variable {cx : Cx} {tab : Tab} {s : AS}
theorem zla (ht:TabOk cx.P tab) {all:Array Oper} {x:Nat} :∀ (n:Nat) (l:List Nat) (ops:List Oper) {K:AS→Prop} {s:AS} {E:Env} {a:Act} {w:World},l.map (all[·]?)=ops.map some→Sat cx E s a w→aopsF cx tab all x n ops K s→
  wpOpsIn cx.F 0 cx.P all (fun e a' w'=>e= .normal∧Reach cx E s.h w K a' w') l a w
 |0,l,ops,K,s,E,a,w,hl,hs,h=>by
  simp only [aopsF] at h
  obtain ⟨o,hi,h⟩:=h
  obtain ⟨h1,h2⟩:=zyB hs hi
  refine zL _ (zhJ ht l ops hl h1 h) ?_
  rintro e a2 w2 ⟨rfl,hr⟩
  exact ⟨rfl,hr.trans h2⟩
 |n+1,l,[],K,s,E,a,w,hl,hs,h=>by simp only [aopsF] at h
 |n+1,[],o::ops,K,s,E,a,w,hl,hs,h=>aW
 | n+1,i::l,o::ops,K,s,E,a,w,hl,hs,h=>by
  simp only [List.map_cons,List.cons.injEq] at hl
  obtain ⟨hi,hl⟩:=hl
  simp only [aopsF] at h
  split at h
  ·rename_i G hg
   simp only [wpOpsIn,hi]
   have:=zeN ht (Q:=fun _ _ _=>False) hs hg h
   split at this
   ·rename_i hw
    rw [if_pos hw]
    refine zaR this ?_
    rintro a1 w1 ⟨E1,s1,hk,hs1,he1⟩
    have ih:=zla ht n l ops hl hs1 hk
    refine zL _ ih ?_
    rintro e a2 w2 ⟨rfl,hr⟩
    exact ⟨rfl,hr.trans he1⟩
   ·rename_i hw
    rw [if_neg hw]
    refine ⟨this.1,?_⟩
    obtain ⟨E1,s1,hk,hs1,he1⟩:=this.2
    have ih:=zla ht n l ops hl hs1 hk
    refine zL _ ih ?_
    rintro e a2 w2 ⟨rfl,hr⟩
    exact ⟨rfl,hr.trans he1⟩
  ·exact h.elim
theorem zdW {id:Nat} {ops:Array Oper} {y:Code} {Q:Exit→AS→Prop} (tab:Tab) (ht:TabOk cx.P tab) (n i:Nat) (h:∀K,(∀s',AW cx y Q s'→K s')→aopsF cx tab ops i n ops.toList K s):AW cx (.seq (.region id ops false) y) Q s:=
 zbm fun K hK=>fun E a w hs=>wpIn_region (zL _ (zla ht n _ _ (zdo ops) hs (h K hK)) cu)
end
open Go
def AV.pla:AV→Bool
 | .fn _ [] []=>true
 |v=>v.scal
def lend1 (V:Nat):AV→AV
 | .raw _=> .vp V 0
 |v=>if v.pla=true then v else .any
def back1 (V:Nat) (u:Value):AV→AV
 | .vp i o=>if i=V∧o=0 then .raw u else .any
 |v=>if v.pla=true then v else .any
def mapT (f:AV→AV) (t:List (Nat×(Bool×AV))):List (Nat×(Bool×AV)):=t.map fun q=>(q.1,(q.2.1,f q.2.2))
def zet (u:Value):List (Nat×(Bool×AV))→Prop
 | []=>True
 |q::r=>(match q.2.2 with| .raw x=>x=u|_=>True)∧zet u r
theorem zoZ {f:AV→AV} :∀ (t:List (Nat×(Bool×AV))) (k:Nat),lk (mapT f t) k=(lk t k).map fun q=>(q.1,f q.2)
  | [],k=>rfl
  | (j,(g,v))::r,k=>by
    have ih:=zoZ (f:=f) r k
    unfold mapT at ih ⊢
    simp only [List.map_cons,lk]
    by_cases e:j=k
    · simp [e]
    · simp only [e,if_false];exact ih
theorem zj1 {u:Value} :∀ {t:List (Nat×(Bool×AV))} {k:Nat} {g:Bool} {x:Value},zet u t→lk t k=some (g,.raw x)→x=u
  | [],k,g,x,h,hk=>cg
  | (j,(g',v))::r,k,g,x,h,hk=>by
    simp only [lk] at hk
    split at hk
    · simp only [Option.some.injEq,Prod.mk.injEq] at hk
      obtain ⟨rfl,rfl⟩:=hk
      exact h.1
    · exact zj1 h.2 hk
theorem Rep.pla {W W':World} {E E':Env} {h h':AHeap} {v:AV} {x:Value} (hp:v.pla=true) (hr:Rep W E h v x):Rep W' E' h' v x:=by
 unfold AV.pla at hp
 split at hp
 ·simp only [Rep,Reps] at hr ⊢
  exact hr
 ·exact Rep.scal _ _ hp hr
theorem zuE {cx:Cx} {fl:Nat} {E0:Env} {h0:AHeap} {w0:World} {ds:List Deferred} {items:List (List AV)} {I:List (List AV)→AHeap×Option (List (List AV))} {J:Code→AHeap→Option (List (List AV))→Prop} {rec:LoopState→Option Code→Loop} {y:Yo cx.P items} {base nt fl':Nat}
    {xs:List (List AV)} {t:List (Nat×(Bool×AV))} (V:Nat) (u:Value) (hy:y.G=zbA cx (w0.heap.size+1) w0.heap.size fl (fun _=>false) E0 h0 w0 ds I J rec) (hs0:SatH E0 h0 w0) (hmk:∀b,zap ds b→b<w0.heap.size) (hG:∀g M N A w,cx.G g M N A w)
    (hu:Rep w0 E0 h0 (.vp V 0) u) (hV:V<fl) (hVI:∀xs,(hget (I xs).1 V).isSome) (hr:zet u t)
    {E:Env} {a:Act} {w:World} (hs:Sat (cxY cx.P base nt fl' y true) E { t:=t,h:= [],g:=some xs } a w):
    ∃ E2,Sat { cxOf cx.P base nt fl with rq:=true } E2 { t:=mapT (lend1 V) t,h:=(I xs).1,g:=none } a w∧∀E3 s1 a' w' xs',Sat { cxOf cx.P base nt fl with rq:=true } E3 s1 a' w'→Evo fl E2 (I xs).1 w E3 s1.h w'→leH s1.h (I xs').1→inH (I xs').1 (idsH (I xs').1)→
      ∃E',Sat (cxY cx.P base nt fl' y true) E' { t:=mapT (back1 V u) s1.t,h:= [],g:=some xs' } a' w'∧Evo fl' E [] w E' [] w':=by
  obtain ⟨l,hl⟩:∃l,l=w0.heap.size+1:=⟨_,rfl⟩
  obtain ⟨d,hd⟩:∃d,d=w0.heap.size:=⟨_,rfl⟩
  rw [← hl,← hd] at hy
  have hG0:y.G (some xs) E.M E.N (fun b=>Own E [] b∨zap a.defers b) w:=hs.ghost
  rw [hy] at hG0
  simp only [zbA] at hG0
  obtain ⟨E2,k,hrl⟩:=hG0
  have hnd:a.defers= []:=hs.base.2 rfl
  have hnA:∀b,¬(Own E [] b∨zap a.defers b):=by
    rw [hnd]
    rintro b (⟨i,hi,_⟩|⟨dd,hdd,_⟩)
    · simp [hget] at hi
    · cases hdd
  have hsz:=k.size
  have hZ:∀b,b=l∨b=d→¬Own E2 (I xs).1 b∧¬E2.M b∧b<w.heap.size:=fun b hb=>by
    refine ⟨fun ho=>?_,fun hm=>?_,U⟩
    · rcases k.own0 b ho with h|h
      · have:=(hs0.own b (z7 h)).1;omega
      · omega
    · rcases k.m0 b hm with h|h
      · have:=hs0.mlt b h;omega
      · omega
  simp only [Rep] at hu
  obtain ⟨b0,cs0,hu1,hu2,rfl⟩:=hu
  have hgoV:GoesOn E0 h0 E2 (I xs).1 V:=(k.far.go V hV (hVI xs)).2
  have hE2V:E2.O V=some b0∧∃cs',hget (I xs).1 V=some (.var cs'):=by
    unfold GoesOn at hgoV
    rw [hu1] at hgoV
    exact ⟨hgoV.1.trans hu2,hgoV.2.imp fun _ h=>h.1⟩
  have hsB:Sat { cxOf cx.P base nt fl with rq:=true } E2 { t:=mapT (lend1 V) t,h:=(I xs).1,g:=none } a w:=
    { slots :=fun kk g v hk=>by
        have hk':lk (mapT (lend1 V) t) kk=some (g,v):=hk
        rw [zoZ] at hk'
        obtain ⟨q,hq,e⟩:=Option.map_eq_some_iff.1 hk'
        obtain ⟨g1,v1⟩:=q
        simp only [Prod.mk.injEq] at e
        obtain ⟨rfl,rfl⟩:=e
        obtain ⟨x,h1,h2,h3⟩:=hs.slots kk g1 v1 hq
        refine ⟨x,h1,fun e=>?_,h3⟩
        have hx:=h2 e
        unfold lend1
        split
        · rename_i z
          have:=zj1 hr hq
          simp only [Rep] at hx ⊢
          rw [hx,this]
          obtain ⟨g1,cs',g2⟩:=hE2V
          exact ⟨b0,cs',g2,g1,rfl⟩
        · split
          · rename_i hp
            exact Rep.pla hp hx
          · simp only [Rep]
      nt:=hs.nt
      hp:=k.hp
      base:=⟨hs.base.1,fun _=>hnd⟩
      marks:=by rw [hnd];exact ⟨aa,aa⟩
      ghost:=trivial }
  refine ⟨E2,hsB,fun E3 s1 a' w' xs' hs3 hev hle hin=>?_⟩
  have hnd':a'.defers= []:=hs3.base.2 rfl
  have hev':Evo fl E2 (I xs).1 w E3 s1.h w':=hev
  have hl':w'.heap[l]?=w.heap[l]?:=hev'.keep l (hZ l (.inl rfl)).2.2 (hZ l (.inl rfl)).1 (hZ l (.inl rfl)).2.1
  have hd':w'.heap[d]?=w.heap[d]?:=hev'.keep d (hZ d (.inr rfl)).2.2 (hZ d (.inr rfl)).1 (hZ d (.inr rfl)).2.1
  have kr:=k.round hl hd hev'.l hs3.hp (hs3.hp.le hle hin) (fun b hb=>zhe hle hb) (fun i hg=>⟨by
    obtain ⟨o',ho'⟩:=Option.isSome_iff_exists.1 hg
    obtain ⟨o,ho,_⟩:=zcw hle ho'
    simp [ho],zcQ hle hg⟩) (fun _ _=>rfl) (hd'.trans k.dd) (g':=(I xs').2) (hG _ _ _ _ _)
  obtain ⟨E',hE'⟩:∃E':Env,E'= { E with M:=fun b=>E.M b∨(w.heap.size≤b∧b<w'.heap.size) } :=⟨_,rfl⟩
  have hM:E'.M=fun b=>E.M b∨(w.heap.size≤b∧b<w'.heap.size):=by rw [hE']
  have hN:E'.N=E.N:=by rw [hE']
  have hA:(fun b=>Own E' [] b∨zap a'.defers b)=(fun b=>Own E [] b∨zap a.defers b):=by
    funext b
    rw [hnd,hnd',hE']
    rfl
  refine ⟨E',⟨fun kk g v hk=>?_,hs3.nt,⟨fun i o ho=>aP,fun i j b hi=>av,fun b hb=>?_,fun b hb=>?_,fun b hb=>?_⟩,⟨Nat.le_trans hs.base.1 hev'.size,fun _=>hnd'⟩,by rw [hnd'];exact ⟨aa,aa⟩,?_⟩,⟨hev'.os,hev'.tape,hev'.output,hev'.size,fun b hb ho hm=>hev'.keep b hb (fun h=>hm (k.m1 b (.inl h))) (fun h=>hm (k.m1 b (.inr h))),fun b hb=>?_,fun b hb=>by rw [hM];exact .inl hb,fun b hb=>by rw [hM] at hb;exact hb.imp id (·.1),hN,fun i _ hi=>av⟩⟩
  · have hk':lk (mapT (back1 V (.pointer (some ⟨b0,0,none⟩))) s1.t) kk=some (g,v):=hk
    rw [zoZ] at hk'
    obtain ⟨q,hq,e⟩:=Option.map_eq_some_iff.1 hk'
    obtain ⟨g1,v1⟩:=q
    simp only [Prod.mk.injEq] at e
    obtain ⟨rfl,rfl⟩:=e
    obtain ⟨x,h1,h2,h3⟩:=hs3.slots kk g1 v1 hq
    refine ⟨x,h1,fun e=>?_,h3⟩
    have hx:=h2 e
    unfold back1
    split
    · split
      · rename_i hio
        obtain ⟨rfl,rfl⟩:=hio
        simp only [Rep] at hx ⊢
        obtain ⟨b3,cs3,q1,q2,rfl⟩:=hx
        have hgo3:=(hev'.go _ hV (by simp [q1])).2
        obtain ⟨g1,cs',g2⟩:=hE2V
        unfold GoesOn at hgo3
        rw [g2] at hgo3
        have:=hgo3.1
        rw [q2,g1] at this
        cases this
        rfl
      · simp only [Rep]
    · split
      · rename_i hp
        exact Rep.pla hp hx
      · simp only [Rep]
  · obtain ⟨i,hi,_⟩:=hb
    simp [hget] at hi
  · rw [hM] at hb
    rcases hb with hb|hb
    · exact Nat.lt_of_lt_of_le (hs.hp.mlt b hb) hev'.size
    · exact hb.2
  · rw [hN] at hb
    exact Nat.lt_of_lt_of_le (hs.hp.nlt b hb) hev'.size
  · show y.G (some xs') E'.M E'.N (fun b=>Own E' [] b∨zap a'.defers b) w'
    rw [hy,hA,hM,hN]
    simp only [zbA]
    exact ⟨E3,kr,hl'.trans hrl⟩
  · obtain ⟨i,hi,_⟩:=hb
    simp [hget] at hi
def aopsL (cx:Cx) (tab:Tab) (all:Array Oper):Nat→List Oper→(List Oper→AS→Prop)→AS→Prop
 |0,r,K,s=>K r s
 |n+1,o::r,K,s=>match za3 s all o.guard with
  |some G=>aopT cx tab G o (aopsL cx tab all n r K) s
  |none=>False
 |_+1,[],_,_=>False
theorem zlq {cx:Cx} {tab:Tab} (ht:TabOk cx.P tab) {all:Array Oper} {R:Exit→Act→World→Prop} :∀ (n:Nat) (l:List Nat) (ops:List Oper) {K:List Oper→AS→Prop} {s:AS} {E:Env} {a:Act} {w:World},l.map (all[·]?)=ops.map some→Sat cx E s a w→aopsL cx tab all n ops K s→
  (∀l' ops' E' s' a' w',l'.map (all[·]?)=ops'.map some→K ops' s'→Sat cx E' s' a' w'→Evo cx.fl E s.h w E' s'.h w'→wpOpsIn cx.F 0 cx.P all R l' a' w')→wpOpsIn cx.F 0 cx.P all R l a w
 |0,l,ops,K,s,E,a,w,hl,hs,h,hR=>hR l ops E s a w hl h hs (Evo.refl _ _ _ _)
 |n+1,l,[],K,s,E,a,w,hl,hs,h,hR=>by simp only [aopsL] at h
 |n+1,[],o::ops,K,s,E,a,w,hl,hs,h,hR=>aW
 | n+1,i::l,o::ops,K,s,E,a,w,hl,hs,h,hR=>by
  simp only [List.map_cons,List.cons.injEq] at hl
  obtain ⟨hi,hl⟩:=hl
  simp only [aopsL] at h
  split at h
  ·rename_i G hg
   simp only [wpOpsIn,hi]
   have:=zeN ht (Q:=fun _ _ _=>False) hs hg h
   split at this
   ·rename_i hw
    rw [if_pos hw]
    refine zaR this ?_
    rintro a1 w1 ⟨E1,s1,hk,hs1,he1⟩
    exact zlq ht n l ops hl hs1 hk fun l' ops' E' s' a' w' g1 g2 g3 g4=>hR l' ops' E' s' a' w' g1 g2 g3 (he1.trans g4)
   ·rename_i hw
    rw [if_neg hw]
    refine ⟨this.1,?_⟩
    obtain ⟨E1,s1,hk,hs1,he1⟩:=this.2
    exact zlq ht n l ops hl hs1 hk fun l' ops' E' s' a' w' g1 g2 g3 g4=>hR l' ops' E' s' a' w' g1 g2 g3 (he1.trans g4)
  ·exact h.elim
def zyZ {cx:Cx} {items:List (List AV)} (I:List (List AV)→AHeap×Option (List (List AV))) (y:Yo cx.P items) (base nt fl fl' V:Nat) (u:Value) (E:Env) (ws:World) (E2:Env) (h2:AHeap) (w:World):Prop:=
 ∀E3 s1 a' w' xs',Sat { cxOf cx.P base nt fl with rq:=true } E3 s1 a' w'→Evo fl E2 h2 w E3 s1.h w'→leH s1.h (I xs').1→inH (I xs').1 (idsH (I xs').1)→
  ∃E',Sat (cxY cx.P base nt fl' y true) E' { t:=mapT (back1 V u) s1.t,h:= [],g:=some xs' } a' w'∧Evo fl' E [] ws E' [] w'
def LA {cx:Cx} {items:List (List AV)} (I:List (List AV)→AHeap×Option (List (List AV))) (y:Yo cx.P items) (base nt fl fl' V:Nat) (u:Value) (c:Code) (Q:Exit→AS→Prop) (s:AS):Prop:=
 ∀E ws E2 a w,Sat { cxOf cx.P base nt fl with rq:=true } E2 s a w→zyZ I y base nt fl fl' V u E ws E2 s.h w→c.wpIn (cxY cx.P base nt fl' y true).F 0 cx.P (fun e a' w'=>Reach (cxY cx.P base nt fl' y true) E [] ws (Q e) a' w') a w
def backK (I:List (List AV)→AHeap×Option (List (List AV))) (V:Nat) (u:Value) (K:AS→Prop) (s:AS):Prop:=∃xs',leH s.h (I xs').1∧inH (I xs').1 (idsH (I xs').1)∧K { t:=mapT (back1 V u) s.t,h:= [],g:=some xs' }
theorem la_in {cx:Cx} {fl:Nat} {E0:Env} {h0:AHeap} {w0:World} {ds:List Deferred} {items:List (List AV)} {I:List (List AV)→AHeap×Option (List (List AV))} {J:Code→AHeap→Option (List (List AV))→Prop} {rec:LoopState→Option Code→Loop} {y:Yo cx.P items} {base nt fl':Nat}
  {c:Code} {Q:Exit→AS→Prop} {xs:List (List AV)} {t:List (Nat×(Bool×AV))} (V:Nat) (u:Value) (hy:y.G=zbA cx (w0.heap.size+1) w0.heap.size fl (fun _=>false) E0 h0 w0 ds I J rec) (hs0:SatH E0 h0 w0) (hmk:∀b,zap ds b→b<w0.heap.size) (hG:∀g M N A w,cx.G g M N A w)
  (hu:Rep w0 E0 h0 (.vp V 0) u) (hV:V<fl) (hVI:∀xs,(hget (I xs).1 V).isSome) (hr:zet u t)
  (h:LA I y base nt fl fl' V u c Q { t:=mapT (lend1 V) t,h:=(I xs).1,g:=none }):AW (cxY cx.P base nt fl' y true) c Q { t:=t,h:= [],g:=some xs } :=by
 intro E a w hs
 obtain ⟨E2,hL,hout⟩:=zuE V u hy hs0 hmk hG hu hV hVI hr hs
 exact h E w E2 a w hL hout
section
variable {cx : Cx} {items : List (List AV)} {I : List (List AV) → AHeap × Option (List (List AV))} {y : Yo cx.P items} {base nt fl fl' V : Nat} {u : Value} {c c' : Code} {Q : Exit → AS → Prop} {s : AS}
theorem la_aw (h:AW { cxOf cx.P base nt fl with rq:=true } c (fun e=>backK I V u (Q e)) s):LA I y base nt fl fl' V u c Q s:=by
 intro E ws E2 a w hs tk
 refine wpIn_mono (h E2 a w hs) ?_
 rintro e a' w' ⟨E3,s1,⟨xs',hle,hin,hQ⟩,hs3,hev⟩
 obtain ⟨E',h1,h2⟩:=tk E3 s1 a' w' xs' hs3 hev hle hin
 exact ⟨E',_,hQ,h1,h2⟩
theorem zxc (h:∀K,(∀s',LA I y base nt fl fl' V u c' Q s'→K s')→AW { cxOf cx.P base nt fl with rq:=true } c (thenK K (fun e=>backK I V u (Q e))) s):LA I y base nt fl fl' V u (.seq c c') Q s:=by
 intro E ws E2 a w hs tk
 refine wpIn_seq (wpIn_mono (h _ (fun _ h=>h) E2 a w hs) ?_)
 intro e a1 w1 hr
 cases e with
 |normal=>
  obtain ⟨E3,s1,hA,hs3,ev3⟩:=hr
  exact hA E ws E3 a1 w1 hs3 (fun E4 s4 a4 w4 xs' g1 g2 g3 g4=>tk E4 s4 a4 w4 xs' g1 (ev3.trans g2) g3 g4)
 |_=>
  obtain ⟨E3,s1,⟨xs',hle,hin,hQ⟩,hs3,ev3⟩:=hr
  obtain ⟨E',h1,h2⟩:=tk E3 s1 a1 w1 xs' hs3 ev3 hle hin
  exact ⟨E',_,hQ,h1,h2⟩
theorem zuF {id:Nat} {ops:Array Oper} {tab:Tab} (ht:TabOk cx.P tab) (n:Nat) (h:aopsL { cxOf cx.P base nt fl with rq:=true } tab ops n ops.toList (fun r=>backK I V u (aopsY (cxY cx.P base nt fl' y true) tab ops r (AW (cxY cx.P base nt fl' y true) c Q))) s):
  LA I y base nt fl fl' V u (.seq (.region id ops false) c) Q s:=by
 intro E ws E2 a w hs tk
 refine wpIn_seq (wpIn_region (zlq (cx:= { cxOf cx.P base nt fl with rq:=true }) ht n _ _ (zdo ops) hs h ?_))
 rintro l' ops' E4 s2 a2 w2 hl' ⟨xs',hle,hin,hY⟩ hs4 ev4
 obtain ⟨E',hsY,evY⟩:=tk E4 s2 a2 w2 xs' hs4 ev4 hle hin
 refine zL _ (zf3 (cx:=cxY cx.P base nt fl' y true) ht l' ops' hl' hsY hY) ?_
 rintro e a3 w3 ⟨rfl,E5,s5,h5,hs5,ev5⟩
 exact wpIn_mono (h5 E5 a3 w3 hs5) (fun e _ _ hr=>hr.trans (evY.trans ev5))
end
attribute [go_sem] mapT lend1 back1 AV.pla zet aopsL backK
open Go
mutual
theorem zxi {i:Nat} {g:AV→AV} :∀a:AV,i ∉ a.ids→a.tr (onI i g)=a
 | .agg cs,h| .tup cs,h| .dp cs,h=>by rw [AV.tr,zct cs cE]
 | .fn f fs cs,h=>by
  simp only [AV.ids,List.mem_append,not_or] at h
  rw [AV.tr,zct fs h.1,zct cs h.2]
 | .asl k rows,h=>by rw [AV.tr,zuR rows cE]
 | .iface t v,h=>by rw [AV.tr,zxi v cE]
 | .amap ks vs,h=>by rw [AV.tr,zct vs cE]
 | .d _,_| .nils _,_| .nilfn,_| .any,_| .nilmap,_| .raw _,_=>by rw [AV.tr]
 | .vp j o,h| .tp j o,h| .bsl j o,h| .ap j n k r o,h| .osl j k m o l,h| .vsl j k o l,h| .map j,h| .itr j,h=>by
  rw [AV.tr,onI,if_neg (fun e=>h (by rw [zsx e];exact List.mem_singleton_self i))]
theorem zct {i:Nat} {g:AV→AV} :∀cs:List AV,i ∉ AV.idsL cs→AV.trL (onI i g) cs=cs
 | [],_=>by rw [AV.trL]
 |x::xs,h=>by
  simp only [AV.idsL,List.mem_append,not_or] at h
  rw [AV.trL,zxi x h.1,zct xs h.2]
theorem zuR {i:Nat} {g:AV→AV} :∀cs:List (List AV),i ∉ AV.idsR cs→AV.trR (onI i g) cs=cs
 | [],_=>by rw [AV.trR]
 |x::xs,h=>by
  simp only [AV.idsR,List.mem_append,not_or] at h
  rw [AV.trR,zct x h.1,zuR xs h.2]
end
theorem zly {f:AV→AV} :∀ {a b:List AV},AV.trL f (a++b)=AV.trL f a++AV.trL f b
 | [],b=>by rw [AV.trL];rfl
 |x::a,b=>by rw [List.cons_append,AV.trL,AV.trL,zly];rfl
theorem znk {f:AV→AV} :∀l:List D,AV.trL f (l.map .d)=l.map .d
 | []=>rfl
 |x::l=>by rw [List.map_cons,AV.trL,AV.tr,znk l]
theorem zlz {f:AV→AV} :∀m:Nat,AV.trL f (List.replicate m .any)=List.replicate m .any
 |0=>rfl
 |m+1=>by rw [List.replicate_succ,AV.trL,AV.tr,zlz m]
def AV.shr (n m:Nat):AV→AV
 | .osl i k t off len=>if t=n∧off=0∧len=m then .osl i k m 0 m else .any
 |_=> .any
theorem zuS {cx:Cx} {c:Code} {Q:Exit→AS→Prop} {s:AS} (i:Nat) {k:Nat} {xs ys:List (List D)} (hi:hget s.h i=some (.arr k (xs++ys))) (hne:0<ys.length) (hlt:xs.length+ys.length<9223372036854775808) (hfl:cx.fl≤i)
  (h:AW cx c Q (s.tr i (AV.shr (xs.length+ys.length) xs.length) ((i,.arr k xs)::htr (onI i (AV.shr (xs.length+ys.length) xs.length)) (hdel s.h i)))):AW cx c Q s:=fun E a w hs=>by
 have hob:=hs.hp.heap i _ hi
 simp only [RepObj] at hob
 rcases hob with ⟨_,h1⟩|⟨b,c',T,fz,g1,g2,g3,g4,g5,g6⟩
 ·rw [List.length_append] at h1
  rcases h1 with h1|h1
  ·simp [List.append_eq_nil_iff.1 h1] at hne
  ·simp only [zfI] at h1;omega
 rw [List.length_append] at g4
 have oth:∀j,j≠i→hget ((i,.arr k xs)::htr (onI i (AV.shr (xs.length+ys.length) xs.length)) (hdel s.h i)) j=(hget s.h j).map (AObj.tr (onI i (AV.shr (xs.length+ys.length) xs.length))):=fun j hj=>ef
 have sub:(hget ((i,.arr k xs)::htr (onI i (AV.shr (xs.length+ys.length) xs.length)) (hdel s.h i)) i).isSome→(hget s.h i).isSome:=fun _=>al
 have hT:Turn w E s.h ((i,.arr k xs)::htr (onI i (AV.shr (xs.length+ys.length) xs.length)) (hdel s.h i)) i (AV.shr (xs.length+ys.length) xs.length):=by
  refine ⟨oth,sub,fun a v ha hr=>?_,fun o ho=>?_⟩
  ·cases a<;>simp only [AV.ref,Option.some.injEq,reduceCtorEq] at ha<;>subst ha<;>simp only [AV.shr,Rep]
   case osl j k' mm off len=>
    split
    ·rename_i hc
     obtain ⟨rfl,rfl,rfl⟩:=hc
     simp only [Rep] at hr ⊢
     obtain ⟨e0,xs',h1,_,_,h6⟩:=hr
     rw [hi] at h1;cases h1
     refine ⟨e0,xs,by simp only [hget,if_true],Nat.le_refl _,U,fun _=>?_⟩
     rcases h6 (by rw [List.length_append]) with ⟨⟨_,h7⟩,_⟩|⟨b',h7,rfl⟩|⟨h7,_⟩
     ·omega
     ·exact .inr (.inl ⟨b',h7,rfl⟩)
     ·exact absurd rfl h7
    ·simp only [Rep]
  ·simp only [hget,if_true,Option.some.injEq] at ho
   subst ho
   simp only [RepObj]
   have:=g5.take xs.length
   rw [List.take_left] at this
   exact .inr ⟨b,c',T,fz,g1,g2,g3,U,RepRows.step (fun b _ hx=>zef oth sub hx) (fun _ _ _=>rfl) _ _ _ this,g6⟩
 obtain ⟨q1,q2⟩:=zpr hs hT (.inl hfl)
 exact wpIn_mono (h E a w q1) (fun _ _ _ hr=>hr.trans q2)
theorem zrW {cx:Cx} {c:Code} {Q:Exit→AS→Prop} {s:AS} (j t:Nat) (k:Nat) (hj:hget s.h j=none) (hfl:cx.fl≤j) (hk:lk s.t t=some (true,.nils k)) (h:AW cx c Q { s with t:=(t,(true,.osl j k 0 0 0))::s.t,h:=(j,.arr k [])::s.h }):AW cx c Q s:=fun E a w hs=>by
  have cc:Chg E s.h w (E.set j none 0) ((j,.arr k [])::s.h) w j:=
    { os:=rfl,tape:=rfl,output:=rfl,size:=Nat.le_refl _,envO:=fun j e=>az,envC:=fun j e=>az,M:=rfl,N:=rfl,hh:=fun j e=>bc,
      gi:=by simp [GoesOn,hj]
      blk:=fun b hb _=>rfl
      new:=fun b _ hb=>by simp [Env.set] at hb }
  have hs1:=cc.sat (t:=s.t) (g:=s.g) hs (fun o ho=>by
    simp [hget] at ho
    subst ho
    simp only [RepObj]
    exact .inl ⟨aw,.inl trivial⟩)
  obtain ⟨x,h1,h2,h3⟩:=hs.slots t true _ hk
  have hx:x= .slice none 0 0:=by have:=h2 rfl;simpa only [Rep] using this
  subst hx
  refine wpIn_mono (h _ a w ⟨fun j g v hj=>?_,hs1.nt,hs1.hp,hs1.base,hs1.marks,hs1.ghost⟩) (fun _ _ _ hr=>hr.trans (cc.evo (.inr hfl)))
  simp only [lk] at hj
  split at hj
  · rename_i e;subst e
    simp only [Option.some.injEq,Prod.mk.injEq] at hj
    obtain ⟨rfl,rfl⟩:=hj
    refine ⟨_,h1,fun _=>?_,fun e=>ai⟩
    simp only [Rep]
    exact ⟨⟨_,_,_,rfl⟩,[],aC,aa,aa,fun _=> .inl ⟨aw,trivial⟩⟩
  · exact hs1.slots j g v hj
attribute [go_sem] zly AV.shr
open Go Go.Proofs
@[go_sem] theorem ty1:ty Go.Proofs.Tryz.prog 1=⟨.func,1,8⟩:=ad
@[go_sem] theorem zk1:zT Go.Proofs.Tryz.prog 1=true:=ad
@[go_sem] theorem zc1:zK Go.Proofs.Tryz.prog 12 1= [.nilfn]:=ad
@[go_sem] theorem ty3:ty Go.Proofs.Tryz.prog 3=⟨.int .i64,1,8⟩:=ad
@[go_sem] theorem zk3:zT Go.Proofs.Tryz.prog 3=true:=ad
@[go_sem] theorem tt3:zan Go.Proofs.Tryz.prog 12 3=false:=ad
@[go_sem] theorem zc3:zK Go.Proofs.Tryz.prog 12 3= [.d (.int .i64 0)]:=ad
@[go_sem] theorem ty4:ty Go.Proofs.Tryz.prog 4=⟨.bool,1,1⟩:=ad
@[go_sem] theorem ty5:ty Go.Proofs.Tryz.prog 5=⟨.int .u8,1,1⟩:=ad
@[go_sem] theorem zk5:zT Go.Proofs.Tryz.prog 5=true:=ad
@[go_sem] theorem zc5:zK Go.Proofs.Tryz.prog 12 5= [.d (.int .u8 0)]:=ad
@[go_sem] theorem ty9:ty Go.Proofs.Tryz.prog 9=⟨.str,1,16⟩:=ad
@[go_sem] theorem zk9:zT Go.Proofs.Tryz.prog 9=true:=ad
@[go_sem] theorem zc9:zK Go.Proofs.Tryz.prog 12 9= [.d (.str [])]:=ad
@[go_sem] theorem ty20:ty Go.Proofs.Tryz.prog 20=⟨.iface,1,16⟩:=ad
@[go_sem] theorem zk20:zT Go.Proofs.Tryz.prog 20=true:=ad
@[go_sem] theorem zc20:zK Go.Proofs.Tryz.prog 12 20= [.d .nilif]:=ad
@[go_sem] theorem ty22:ty Go.Proofs.Tryz.prog 22=⟨.int .u64,1,8⟩:=ad
@[go_sem] theorem zk22:zT Go.Proofs.Tryz.prog 22=true:=ad
@[go_sem] theorem tt22:zan Go.Proofs.Tryz.prog 12 22=false:=ad
@[go_sem] theorem zc22:zK Go.Proofs.Tryz.prog 12 22= [.d (.int .u64 0)]:=ad
@[go_sem] theorem ty23:ty Go.Proofs.Tryz.prog 23=⟨.slice 9,1,24⟩:=ad
@[go_sem] theorem ty25:ty Go.Proofs.Tryz.prog 25=⟨.struct [(0,22),(1,23)],2,32⟩:=ad
@[go_sem] theorem zk25:zT Go.Proofs.Tryz.prog 25=true:=ad
@[go_sem] theorem tt25:zan Go.Proofs.Tryz.prog 12 25=false:=ad
@[go_sem] theorem zc25:zK Go.Proofs.Tryz.prog 12 25= [.d (.int .u64 0),.nils 1]:=ad
@[go_sem] theorem ty27:ty Go.Proofs.Tryz.prog 27=⟨.func,1,8⟩:=ad
@[go_sem] theorem ty28:ty Go.Proofs.Tryz.prog 28=⟨.slice 22,1,24⟩:=ad
@[go_sem] theorem ty32:ty Go.Proofs.Tryz.prog 32=⟨.slice 195,1,24⟩:=ad
@[go_sem] theorem ty33:ty Go.Proofs.Tryz.prog 33=⟨.slice 3,1,24⟩:=ad
@[go_sem] theorem zk33:zT Go.Proofs.Tryz.prog 33=true:=ad
@[go_sem] theorem tt33:zan Go.Proofs.Tryz.prog 12 33=false:=ad
@[go_sem] theorem zc33:zK Go.Proofs.Tryz.prog 12 33= [.nils 1]:=ad
@[go_sem] theorem ty35:ty Go.Proofs.Tryz.prog 35=⟨.struct [(0,9),(1,32),(2,3),(3,4),(4,33)],5,80⟩:=ad
@[go_sem] theorem zk35:zT Go.Proofs.Tryz.prog 35=true:=ad
@[go_sem] theorem tt35:zan Go.Proofs.Tryz.prog 12 35=false:=ad
@[go_sem] theorem zc35:zK Go.Proofs.Tryz.prog 12 35= [.d (.str []),.nils 2,.d (.int .i64 0),.d (.bool false),.nils 1]:=ad
@[go_sem] theorem ty37:ty Go.Proofs.Tryz.prog 37=⟨.struct [(0,3),(1,3)],2,16⟩:=ad
@[go_sem] theorem zk37:zT Go.Proofs.Tryz.prog 37=true:=ad
@[go_sem] theorem tt37:zan Go.Proofs.Tryz.prog 12 37=false:=ad
@[go_sem] theorem zc37:zK Go.Proofs.Tryz.prog 12 37= [.d (.int .i64 0),.d (.int .i64 0)]:=ad
@[go_sem] theorem si37:(Go.Proofs.Tryz.prog.stoodInHeld 37)=false:=ad
@[go_sem] theorem eg37:(Go.Proofs.Tryz.prog.eqGuardType Go.Proofs.Tryz.prog.depth 37)=false:=ad
@[go_sem] theorem ty39:ty Go.Proofs.Tryz.prog 39=⟨.struct [(0,22),(1,3)],2,16⟩:=ad
@[go_sem] theorem zk39:zT Go.Proofs.Tryz.prog 39=true:=ad
@[go_sem] theorem tt39:zan Go.Proofs.Tryz.prog 12 39=false:=ad
@[go_sem] theorem zc39:zK Go.Proofs.Tryz.prog 12 39= [.d (.int .u64 0),.d (.int .i64 0)]:=ad
@[go_sem] theorem si39:(Go.Proofs.Tryz.prog.stoodInHeld 39)=false:=ad
@[go_sem] theorem eg39:(Go.Proofs.Tryz.prog.eqGuardType Go.Proofs.Tryz.prog.depth 39)=false:=ad
@[go_sem] theorem ty40:ty Go.Proofs.Tryz.prog 40=⟨.slice 155,1,24⟩:=ad
@[go_sem] theorem ty42:ty Go.Proofs.Tryz.prog 42=⟨.struct [(0,35),(5,37),(7,39),(9,40),(10,4)],11,144⟩:=ad
@[go_sem] theorem zk42:zT Go.Proofs.Tryz.prog 42=true:=ad
@[go_sem] theorem tt42:zan Go.Proofs.Tryz.prog 12 42=false:=ad
@[go_sem] theorem zc42:zK Go.Proofs.Tryz.prog 12 42= [.d (.str []),.nils 2,.d (.int .i64 0),.d (.bool false),.nils 1,.d (.int .i64 0),.d (.int .i64 0),.d (.int .u64 0),.d (.int .i64 0),.nils 66,.d (.bool false)]:=ad
@[go_sem] theorem ty43:ty Go.Proofs.Tryz.prog 43=⟨.slice 54,1,24⟩:=ad
@[go_sem] theorem ty45:ty Go.Proofs.Tryz.prog 45=⟨.slice 66,1,24⟩:=ad
@[go_sem] theorem ty47:ty Go.Proofs.Tryz.prog 47=⟨.struct [(0,42),(11,45)],12,168⟩:=ad
@[go_sem] theorem zk47:zT Go.Proofs.Tryz.prog 47=true:=ad
@[go_sem] theorem tt47:zan Go.Proofs.Tryz.prog 12 47=false:=ad
@[go_sem] theorem zc47:zK Go.Proofs.Tryz.prog 12 47= [.d (.str []),.nils 2,.d (.int .i64 0),.d (.bool false),.nils 1,.d (.int .i64 0),.d (.int .i64 0),.d (.int .u64 0),.d (.int .i64 0),.nils 66,.d (.bool false),.nils 8]:=ad
@[go_sem] theorem ty54:ty Go.Proofs.Tryz.prog 54=⟨.struct [(0,3),(1,3),(2,3),(3,9)],4,40⟩:=ad
@[go_sem] theorem zk54:zT Go.Proofs.Tryz.prog 54=true:=ad
@[go_sem] theorem tt54:zan Go.Proofs.Tryz.prog 12 54=false:=ad
@[go_sem] theorem zc54:zK Go.Proofs.Tryz.prog 12 54= [.d (.int .i64 0),.d (.int .i64 0),.d (.int .i64 0),.d (.str [])]:=ad
@[go_sem] theorem ty60:ty Go.Proofs.Tryz.prog 60=⟨.slice 5,1,24⟩:=ad
@[go_sem] theorem zk60:zT Go.Proofs.Tryz.prog 60=true:=ad
@[go_sem] theorem tt60:zan Go.Proofs.Tryz.prog 12 60=false:=ad
@[go_sem] theorem zc60:zK Go.Proofs.Tryz.prog 12 60= [.nils 1]:=ad
@[go_sem] theorem ty61:ty Go.Proofs.Tryz.prog 61=⟨.slice 67,1,24⟩:=ad
@[go_sem] theorem ty63:ty Go.Proofs.Tryz.prog 63=⟨.struct [(0,3),(1,9),(2,4),(3,4),(4,61)],5,56⟩:=ad
@[go_sem] theorem zk63:zT Go.Proofs.Tryz.prog 63=true:=ad
@[go_sem] theorem tt63:zan Go.Proofs.Tryz.prog 12 63=false:=ad
@[go_sem] theorem zc63:zK Go.Proofs.Tryz.prog 12 63= [.d (.int .i64 0),.d (.str []),.d (.bool false),.d (.bool false),.nils 1]:=ad
@[go_sem] theorem ty64:ty Go.Proofs.Tryz.prog 64=⟨.slice 73,1,24⟩:=ad
@[go_sem] theorem ty66:ty Go.Proofs.Tryz.prog 66=⟨.struct [(0,63),(5,64),(6,9),(7,4)],8,104⟩:=ad
@[go_sem] theorem zk66:zT Go.Proofs.Tryz.prog 66=true:=ad
@[go_sem] theorem tt66:zan Go.Proofs.Tryz.prog 12 66=false:=ad
@[go_sem] theorem zc66:zK Go.Proofs.Tryz.prog 12 66= [.d (.int .i64 0),.d (.str []),.d (.bool false),.d (.bool false),.nils 1,.nils 12,.d (.str []),.d (.bool false)]:=ad
@[go_sem] theorem ty67:ty Go.Proofs.Tryz.prog 67=⟨.int .u32,1,4⟩:=ad
@[go_sem] theorem zk67:zT Go.Proofs.Tryz.prog 67=true:=ad
@[go_sem] theorem zc67:zK Go.Proofs.Tryz.prog 12 67= [.d (.int .u32 0)]:=ad
@[go_sem] theorem ty69:ty Go.Proofs.Tryz.prog 69=⟨.struct [(0,3),(1,3),(2,22),(3,22),(4,67),(5,9)],6,56⟩:=ad
@[go_sem] theorem zk69:zT Go.Proofs.Tryz.prog 69=true:=ad
@[go_sem] theorem tt69:zan Go.Proofs.Tryz.prog 12 69=false:=ad
@[go_sem] theorem zc69:zK Go.Proofs.Tryz.prog 12 69= [.d (.int .i64 0),.d (.int .i64 0),.d (.int .u64 0),.d (.int .u64 0),.d (.int .u32 0),.d (.str [])]:=ad
@[go_sem] theorem si69:(Go.Proofs.Tryz.prog.stoodInHeld 69)=false:=ad
@[go_sem] theorem eg69:(Go.Proofs.Tryz.prog.eqGuardType Go.Proofs.Tryz.prog.depth 69)=false:=ad
@[go_sem] theorem ty70:ty Go.Proofs.Tryz.prog 70=⟨.slice 189,1,24⟩:=ad
@[go_sem] theorem tt70:zan Go.Proofs.Tryz.prog 12 70=false:=ad
@[go_sem] theorem ty71:ty Go.Proofs.Tryz.prog 71=⟨.slice 192,1,24⟩:=ad
@[go_sem] theorem ty73:ty Go.Proofs.Tryz.prog 73=⟨.struct [(0,69),(6,70),(7,3),(8,67),(9,9),(10,71),(11,4)],12,144⟩:=ad
@[go_sem] theorem zk73:zT Go.Proofs.Tryz.prog 73=true:=ad
@[go_sem] theorem tt73:zan Go.Proofs.Tryz.prog 12 73=false:=ad
@[go_sem] theorem zc73:zK Go.Proofs.Tryz.prog 12 73= [.d (.int .i64 0),.d (.int .i64 0),.d (.int .u64 0),.d (.int .u64 0),.d (.int .u32 0),.d (.str []),.nils 3,.d (.int .i64 0),.d (.int .u32 0),.d (.str []),.nils 2,.d (.bool false)]:=ad
@[go_sem] theorem ty77:ty Go.Proofs.Tryz.prog 77=⟨.int .i64,1,8⟩:=ad
@[go_sem] theorem ty102:ty Go.Proofs.Tryz.prog 102=⟨.ptr 107,1,8⟩:=ad
@[go_sem] theorem tt102:zan Go.Proofs.Tryz.prog 12 102=false:=ad
@[go_sem] theorem ty105:ty Go.Proofs.Tryz.prog 105=⟨.ptr 66,1,8⟩:=ad
@[go_sem] theorem ty107:ty Go.Proofs.Tryz.prog 107=⟨.struct [(0,47),(12,105)],13,176⟩:=ad
@[go_sem] theorem zk107:zT Go.Proofs.Tryz.prog 107=true:=ad
@[go_sem] theorem tt107:zan Go.Proofs.Tryz.prog 12 107=false:=ad
@[go_sem] theorem zc107:zK Go.Proofs.Tryz.prog 12 107= [.d (.str []),.nils 2,.d (.int .i64 0),.d (.bool false),.nils 1,.d (.int .i64 0),.d (.int .i64 0),.d (.int .u64 0),.d (.int .i64 0),.nils 66,.d (.bool false),.nils 8,.d .nilp]:=ad
@[go_sem] theorem ty143:ty Go.Proofs.Tryz.prog 143=⟨.struct [(0,4),(1,3),(2,22),(3,9)],4,40⟩:=ad
@[go_sem] theorem zk143:zT Go.Proofs.Tryz.prog 143=true:=ad
@[go_sem] theorem tt143:zan Go.Proofs.Tryz.prog 12 143=false:=ad
@[go_sem] theorem zc143:zK Go.Proofs.Tryz.prog 12 143= [.d (.bool false),.d (.int .i64 0),.d (.int .u64 0),.d (.str [])]:=ad
@[go_sem] theorem ty153:ty Go.Proofs.Tryz.prog 153=⟨.arr 64 4,64,64⟩:=ad
@[go_sem] theorem ty155:ty Go.Proofs.Tryz.prog 155=⟨.struct [(0,9),(1,4),(2,153)],66,88⟩:=ad
@[go_sem] theorem zk155:zT Go.Proofs.Tryz.prog 155=true:=ad
@[go_sem] theorem tt155:zan Go.Proofs.Tryz.prog 12 155=false:=ad
@[go_sem] theorem zc155:zK Go.Proofs.Tryz.prog 12 155= [.d (.str []),.d (.bool false)]++List.replicate 64 (.d (.bool false)):=ad
@[go_sem] theorem si155:(Go.Proofs.Tryz.prog.stoodInHeld 155)=false:=ad
@[go_sem] theorem eg155:(Go.Proofs.Tryz.prog.eqGuardType Go.Proofs.Tryz.prog.depth 155)=false:=ad
@[go_sem] theorem ty161:ty Go.Proofs.Tryz.prog 161=⟨.struct [(0,33),(1,23)],2,48⟩:=ad
@[go_sem] theorem zk161:zT Go.Proofs.Tryz.prog 161=true:=ad
@[go_sem] theorem tt161:zan Go.Proofs.Tryz.prog 12 161=false:=ad
@[go_sem] theorem zc161:zK Go.Proofs.Tryz.prog 12 161= [.nils 1,.nils 1]:=ad
@[go_sem] theorem ty166:ty Go.Proofs.Tryz.prog 166=⟨.struct [(0,3),(1,67)],2,16⟩:=ad
@[go_sem] theorem zk166:zT Go.Proofs.Tryz.prog 166=true:=ad
@[go_sem] theorem tt166:zan Go.Proofs.Tryz.prog 12 166=false:=ad
@[go_sem] theorem zc166:zK Go.Proofs.Tryz.prog 12 166= [.d (.int .i64 0),.d (.int .u32 0)]:=ad
@[go_sem] theorem ty170:ty Go.Proofs.Tryz.prog 170=⟨.slice 4,1,24⟩:=ad
@[go_sem] theorem ty175:ty Go.Proofs.Tryz.prog 175=⟨.ptr 182,1,8⟩:=ad
@[go_sem] theorem tt175:zan Go.Proofs.Tryz.prog 12 175=false:=ad
@[go_sem] theorem ty177:ty Go.Proofs.Tryz.prog 177=⟨.struct [(0,67),(1,9)],2,24⟩:=ad
@[go_sem] theorem zk177:zT Go.Proofs.Tryz.prog 177=true:=ad
@[go_sem] theorem tt177:zan Go.Proofs.Tryz.prog 12 177=false:=ad
@[go_sem] theorem zc177:zK Go.Proofs.Tryz.prog 12 177= [.d (.int .u32 0),.d (.str [])]:=ad
@[go_sem] theorem ty180:ty Go.Proofs.Tryz.prog 180=⟨.struct [(0,178),(1,60)],2,32⟩:=ad
@[go_sem] theorem zk180:zT Go.Proofs.Tryz.prog 180=true:=ad
@[go_sem] theorem tt180:zan Go.Proofs.Tryz.prog 12 180=true:=ad
@[go_sem] theorem zc180:zK Go.Proofs.Tryz.prog 12 180= [.d .nilp,.nils 1]:=ad
@[go_sem] theorem ty182:ty Go.Proofs.Tryz.prog 182=⟨.struct [(0,63),(5,25),(7,177),(9,180)],11,144⟩:=ad
@[go_sem] theorem zk182:zT Go.Proofs.Tryz.prog 182=true:=ad
@[go_sem] theorem tt182:zan Go.Proofs.Tryz.prog 12 182=true:=ad
@[go_sem] theorem zc182:zK Go.Proofs.Tryz.prog 12 182= [.d (.int .i64 0),.d (.str []),.d (.bool false),.d (.bool false),.nils 1,.d (.int .u64 0),.nils 1,.d (.int .u32 0),.d (.str []),.d .nilp,.nils 1]:=ad
@[go_sem] theorem ty183:ty Go.Proofs.Tryz.prog 183=⟨.arr 2 27,2,16⟩:=ad
@[go_sem] theorem zk183:zT Go.Proofs.Tryz.prog 183=true:=ad
@[go_sem] theorem tt183:zan Go.Proofs.Tryz.prog 12 183=false:=ad
@[go_sem] theorem zc183:zK Go.Proofs.Tryz.prog 12 183= [.nilfn,.nilfn]:=ad
@[go_sem] theorem ty189:ty Go.Proofs.Tryz.prog 189=⟨.arr 3 3,3,24⟩:=ad
@[go_sem] theorem zk189:zT Go.Proofs.Tryz.prog 189=true:=ad
@[go_sem] theorem tt189:zan Go.Proofs.Tryz.prog 12 189=false:=ad
@[go_sem] theorem zc189:zK Go.Proofs.Tryz.prog 12 189= [.d (.int .i64 0),.d (.int .i64 0),.d (.int .i64 0)]:=ad
@[go_sem] theorem eg189:(Go.Proofs.Tryz.prog.eqGuardType Go.Proofs.Tryz.prog.depth 189)=false:=ad
@[go_sem] theorem ty190:ty Go.Proofs.Tryz.prog 190=⟨.slice 231,1,24⟩:=ad
@[go_sem] theorem ty192:ty Go.Proofs.Tryz.prog 192=⟨.struct [(0,67),(1,190)],2,32⟩:=ad
@[go_sem] theorem zk192:zT Go.Proofs.Tryz.prog 192=true:=ad
@[go_sem] theorem zc192:zK Go.Proofs.Tryz.prog 12 192= [.d (.int .u32 0),.nils 2]:=ad
@[go_sem] theorem ty195:ty Go.Proofs.Tryz.prog 195=⟨.struct [(0,3),(1,9)],2,24⟩:=ad
@[go_sem] theorem zk195:zT Go.Proofs.Tryz.prog 195=true:=ad
@[go_sem] theorem tt195:zan Go.Proofs.Tryz.prog 12 195=false:=ad
@[go_sem] theorem zc195:zK Go.Proofs.Tryz.prog 12 195= [.d (.int .i64 0),.d (.str [])]:=ad
@[go_sem] theorem si195:(Go.Proofs.Tryz.prog.stoodInHeld 195)=false:=ad
@[go_sem] theorem eg195:(Go.Proofs.Tryz.prog.eqGuardType Go.Proofs.Tryz.prog.depth 195)=false:=ad
@[go_sem] theorem ty198:ty Go.Proofs.Tryz.prog 198=⟨.struct [(0,73),(12,42),(23,61),(24,189)],27,336⟩:=ad
@[go_sem] theorem zk198:zT Go.Proofs.Tryz.prog 198=true:=ad
@[go_sem] theorem tt198:zan Go.Proofs.Tryz.prog 12 198=false:=ad
@[go_sem] theorem zc198:zK Go.Proofs.Tryz.prog 12 198= [.d (.int .i64 0),.d (.int .i64 0),.d (.int .u64 0),.d (.int .u64 0),.d (.int .u32 0),.d (.str []),.nils 3,.d (.int .i64 0),.d (.int .u32 0),.d (.str []),.nils 2,.d (.bool false),.d (.str []),.nils 2,.d (.int .i64 0),.d (.bool false),.nils 1,.d (.int .i64 0),.d (.int .i64 0),.d (.int .u64 0),.d (.int .i64 0),.nils 66,.d (.bool false),.nils 1,.d (.int .i64 0),.d (.int .i64 0),.d (.int .i64 0)]:=ad
@[go_sem] theorem ty204:ty Go.Proofs.Tryz.prog 204=⟨.struct [(0,67),(1,22),(2,9)],3,32⟩:=ad
@[go_sem] theorem zk204:zT Go.Proofs.Tryz.prog 204=true:=ad
@[go_sem] theorem tt204:zan Go.Proofs.Tryz.prog 12 204=false:=ad
@[go_sem] theorem zc204:zK Go.Proofs.Tryz.prog 12 204= [.d (.int .u32 0),.d (.int .u64 0),.d (.str [])]:=ad
@[go_sem] theorem ty214:ty Go.Proofs.Tryz.prog 214=⟨.int .u64,1,8⟩:=ad
@[go_sem] theorem ty231:ty Go.Proofs.Tryz.prog 231=⟨.struct [(0,3),(1,3)],2,16⟩:=ad
@[go_sem] theorem zk231:zT Go.Proofs.Tryz.prog 231=true:=ad
@[go_sem] theorem zc231:zK Go.Proofs.Tryz.prog 12 231= [.d (.int .i64 0),.d (.int .i64 0)]:=ad
@[go_sem] theorem si231:(Go.Proofs.Tryz.prog.stoodInHeld 231)=false:=ad
@[go_sem] theorem eg231:(Go.Proofs.Tryz.prog.eqGuardType Go.Proofs.Tryz.prog.depth 231)=false:=ad
@[go_sem] theorem ty242:ty Go.Proofs.Tryz.prog 242=⟨.struct [(0,4),(1,67)],2,8⟩:=ad
@[go_sem] theorem zk242:zT Go.Proofs.Tryz.prog 242=true:=ad
@[go_sem] theorem tt242:zan Go.Proofs.Tryz.prog 12 242=false:=ad
@[go_sem] theorem zc242:zK Go.Proofs.Tryz.prog 12 242= [.d (.bool false),.d (.int .u32 0)]:=ad
@[go_sem] theorem ty279:ty Go.Proofs.Tryz.prog 279=⟨.map 67 1,1,8⟩:=ad
@[go_sem] theorem ty310:ty Go.Proofs.Tryz.prog 310=⟨.arr 8 3,8,64⟩:=ad
@[go_sem] theorem zk310:zT Go.Proofs.Tryz.prog 310=true:=ad
@[go_sem] theorem tt310:zan Go.Proofs.Tryz.prog 12 310=false:=ad
@[go_sem] theorem zc310:zK Go.Proofs.Tryz.prog 12 310= [.d (.int .i64 0),.d (.int .i64 0),.d (.int .i64 0),.d (.int .i64 0),.d (.int .i64 0),.d (.int .i64 0),.d (.int .i64 0),.d (.int .i64 0)]:=ad
@[go_sem] theorem ty311:ty Go.Proofs.Tryz.prog 311=⟨.slice 242,1,24⟩:=ad
@[go_sem] theorem ty325:ty Go.Proofs.Tryz.prog 325=⟨.int .u16,1,2⟩:=ad
@[go_sem] theorem zk325:zT Go.Proofs.Tryz.prog 325=true:=ad
@[go_sem] theorem zc325:zK Go.Proofs.Tryz.prog 12 325= [.d (.int .u16 0)]:=ad
@[go_sem] theorem ty333:ty Go.Proofs.Tryz.prog 333=⟨.slice 340,1,24⟩:=ad
@[go_sem] theorem ty338:ty Go.Proofs.Tryz.prog 338=⟨.struct [(0,22),(1,161)],3,56⟩:=ad
@[go_sem] theorem zk338:zT Go.Proofs.Tryz.prog 338=true:=ad
@[go_sem] theorem tt338:zan Go.Proofs.Tryz.prog 12 338=false:=ad
@[go_sem] theorem zc338:zK Go.Proofs.Tryz.prog 12 338= [.d (.int .u64 0),.nils 1,.nils 1]:=ad
@[go_sem] theorem ty340:ty Go.Proofs.Tryz.prog 340=⟨.struct [(0,3),(1,338)],4,64⟩:=ad
@[go_sem] theorem ty355:ty Go.Proofs.Tryz.prog 355=⟨.struct [(0,67),(1,67),(2,9)],3,24⟩:=ad
@[go_sem] theorem zk355:zT Go.Proofs.Tryz.prog 355=true:=ad
@[go_sem] theorem tt355:zan Go.Proofs.Tryz.prog 12 355=false:=ad
@[go_sem] theorem zc355:zK Go.Proofs.Tryz.prog 12 355= [.d (.int .u32 0),.d (.int .u32 0),.d (.str [])]:=ad
@[go_sem] theorem ty358:ty Go.Proofs.Tryz.prog 358=⟨.func,1,8⟩:=ad
@[go_sem] theorem ty374:ty Go.Proofs.Tryz.prog 374=⟨.slice 20,1,24⟩:=ad
@[go_sem] theorem ty388:ty Go.Proofs.Tryz.prog 388=⟨.struct [(0,3),(1,3)],2,16⟩:=ad
@[go_sem] theorem zk388:zT Go.Proofs.Tryz.prog 388=true:=ad
@[go_sem] theorem tt388:zan Go.Proofs.Tryz.prog 12 388=false:=ad
@[go_sem] theorem zc388:zK Go.Proofs.Tryz.prog 12 388= [.d (.int .i64 0),.d (.int .i64 0)]:=ad
@[go_sem] theorem si388:(Go.Proofs.Tryz.prog.stoodInHeld 388)=false:=ad
@[go_sem] theorem eg388:(Go.Proofs.Tryz.prog.eqGuardType Go.Proofs.Tryz.prog.depth 388)=false:=ad
@[go_sem] theorem ty416:ty Go.Proofs.Tryz.prog 416=⟨.int .i64,1,8⟩:=ad
@[go_sem] theorem ty419:ty Go.Proofs.Tryz.prog 419=⟨.struct [(0,9)],1,16⟩:=ad
attribute [go_sem] Tryz.results0 Tryz.results1 Tryz.results2 Tryz.results3 Tryz.results4 Tryz.results5 Tryz.results6 Tryz.results7 Tryz.results8 Tryz.results9 Tryz.results10 Tryz.results11 Tryz.results12 Tryz.results13 Tryz.results14 Tryz.results15 Tryz.results16 Tryz.results17 Tryz.results18 Tryz.results19 Tryz.results20 Tryz.results21 Tryz.results22 Tryz.results23 Tryz.results24 Tryz.results25 Tryz.results26 Tryz.results27 Tryz.results28 Tryz.results29 Tryz.results30 Tryz.results31 Tryz.results32 Tryz.results33 Tryz.results34 Tryz.results35 Tryz.results36 Tryz.results37 Tryz.results38 Tryz.results39
attribute [go_sem] Tryz.results40 Tryz.results41 Tryz.results42 Tryz.results43 Tryz.results44 Tryz.results45 Tryz.results46 Tryz.results47 Tryz.results48 Tryz.results49 Tryz.results50 Tryz.results51 Tryz.results52 Tryz.results53 Tryz.results54 Tryz.results55 Tryz.results56 Tryz.results57 Tryz.results58 Tryz.results59 Tryz.results60 Tryz.results61 Tryz.results62 Tryz.results63 Tryz.results64 Tryz.results65 Tryz.results66 Tryz.results67 Tryz.results68 Tryz.results69 Tryz.results70 Tryz.results71 Tryz.results72 Tryz.results73 Tryz.results74 Tryz.results75 Tryz.results76 Tryz.results77 Tryz.results78 Tryz.results79
attribute [go_sem] Tryz.results80 Tryz.results81 Tryz.results82 Tryz.results83 Tryz.results84 Tryz.results85 Tryz.results86 Tryz.results87 Tryz.results88 Tryz.results89 Tryz.results90 Tryz.results91 Tryz.results92 Tryz.results93 Tryz.results94 Tryz.results95 Tryz.results96 Tryz.results97 Tryz.results98 Tryz.results99 Tryz.results100 Tryz.results101 Tryz.results102 Tryz.results103 Tryz.results104 Tryz.results105 Tryz.results106 Tryz.results107 Tryz.results108 Tryz.results109 Tryz.results110 Tryz.results111 Tryz.results112 Tryz.results113 Tryz.results114 Tryz.results115 Tryz.results116 Tryz.results117 Tryz.results118 Tryz.results119
attribute [go_sem] Tryz.results120 Tryz.results121 Tryz.results122 Tryz.results123 Tryz.results124 Tryz.results125 Tryz.results126 Tryz.results127 Tryz.results128 Tryz.results129 Tryz.results130 Tryz.results131 Tryz.results132 Tryz.results133 Tryz.results134 Tryz.results135 Tryz.results136 Tryz.results137 Tryz.results138 Tryz.results139 Tryz.results140 Tryz.results141 Tryz.results142 Tryz.results143 Tryz.results144 Tryz.results145 Tryz.results146 Tryz.results147 Tryz.results148 Tryz.results149 Tryz.results150 Tryz.results151 Tryz.results152 Tryz.results153 Tryz.results154 Tryz.results155 Tryz.results156 Tryz.results157 Tryz.results158 Tryz.results159
attribute [go_sem] Tryz.results160 Tryz.results161 Tryz.results162 Tryz.results163 Tryz.results164 Tryz.results165 Tryz.results166 Tryz.results167 Tryz.results168 Tryz.results169 Tryz.results170 Tryz.results171 Tryz.results172 Tryz.results173 Tryz.results174 Tryz.results175 Tryz.results176 Tryz.results177 Tryz.results178 Tryz.results179 Tryz.results180 Tryz.results181 Tryz.results182 Tryz.results183 Tryz.results184 Tryz.results185 Tryz.results186 Tryz.results187 Tryz.results188 Tryz.results189 Tryz.results190 Tryz.results191 Tryz.results192 Tryz.results193 Tryz.results194 Tryz.results195 Tryz.results196 Tryz.results197 Tryz.results198 Tryz.results199
attribute [go_sem] Tryz.results200 Tryz.results201 Tryz.results202 Tryz.results203 Tryz.results204 Tryz.results205 Tryz.results206 Tryz.results207 Tryz.results208 Tryz.results209 Tryz.results210 Tryz.results211 Tryz.results212 Tryz.results213 Tryz.results214 Tryz.results215 Tryz.results216 Tryz.results217 Tryz.results218 Tryz.results219 Tryz.results220 Tryz.results221 Tryz.results222 Tryz.results223 Tryz.results224 Tryz.results225 Tryz.results226 Tryz.results227 Tryz.results228 Tryz.results229 Tryz.results230 Tryz.results231 Tryz.results232 Tryz.results233 Tryz.results234 Tryz.results235 Tryz.results236 Tryz.results237 Tryz.results238 Tryz.results239
attribute [go_sem] Tryz.results240 Tryz.results241 Tryz.results242 Tryz.results243 Tryz.results244 Tryz.results245 Tryz.results246 Tryz.results247 Tryz.results248 Tryz.results249 Tryz.results250 Tryz.results251 Tryz.results252 Tryz.results253 Tryz.results254 Tryz.results255 Tryz.results256 Tryz.results257 Tryz.results258 Tryz.results259 Tryz.results260 Tryz.results261 Tryz.results262 Tryz.results263 Tryz.results264 Tryz.results265 Tryz.results266 Tryz.results267 Tryz.results268 Tryz.results269 Tryz.results270 Tryz.results271 Tryz.results272 Tryz.results273 Tryz.results274 Tryz.results275 Tryz.results276 Tryz.results277 Tryz.results278 Tryz.results279
attribute [go_sem] Tryz.results280 Tryz.results281 Tryz.results282 Tryz.results283 Tryz.results284 Tryz.results285 Tryz.results286 Tryz.results287 Tryz.results288 Tryz.results289 Tryz.results290 Tryz.results291 Tryz.results292 Tryz.results293 Tryz.results294 Tryz.results295 Tryz.results296 Tryz.results297 Tryz.results298 Tryz.results299 Tryz.results300 Tryz.results301 Tryz.results302 Tryz.results303 Tryz.results304 Tryz.results305 Tryz.results306 Tryz.results307 Tryz.results308 Tryz.results309 Tryz.results310 Tryz.results311 Tryz.results312 Tryz.results313 Tryz.results314 Tryz.results315 Tryz.results316 Tryz.results317 Tryz.results318 Tryz.results319
attribute [go_sem] Tryz.results320 Tryz.results321 Tryz.results322 Tryz.results323 Tryz.results324 Tryz.results325 Tryz.results326 Tryz.results327 Tryz.results328 Tryz.results329 Tryz.results330 Tryz.results331 Tryz.results332 Tryz.results333 Tryz.results334 Tryz.results335 Tryz.results336 Tryz.results337 Tryz.results338 Tryz.results339 Tryz.results340 Tryz.results341 Tryz.results342 Tryz.results343 Tryz.results344 Tryz.results345 Tryz.results346 Tryz.results347 Tryz.results348 Tryz.results349 Tryz.results350 Tryz.results351 Tryz.results352 Tryz.results353 Tryz.results354 Tryz.results355 Tryz.results356 Tryz.results357 Tryz.results358 Tryz.results359
attribute [go_sem] Tryz.results360 Tryz.results361 Tryz.results362 Tryz.results363 Tryz.results364 Tryz.results365 Tryz.results366 Tryz.results367 Tryz.results368 Tryz.results369 Tryz.results370 Tryz.results371 Tryz.results372 Tryz.results373 Tryz.results374 Tryz.results375 Tryz.results376 Tryz.results377 Tryz.results378 Tryz.results379 Tryz.results380 Tryz.results381 Tryz.results382 Tryz.results383 Tryz.results384 Tryz.results385 Tryz.results386 Tryz.results387 Tryz.results388 Tryz.results389 Tryz.results390 Tryz.results391 Tryz.results392 Tryz.results393 Tryz.results394 Tryz.results395 Tryz.results396 Tryz.results397 Tryz.results398 Tryz.results399
attribute [go_sem] Tryz.results400 Tryz.results401 Tryz.results402 Tryz.results403 Tryz.results404 Tryz.results405 Tryz.results406 Tryz.results407 Tryz.results408 Tryz.results409 Tryz.results410 Tryz.results411 Tryz.results412 Tryz.results413 Tryz.results414 Tryz.results415 Tryz.results416 Tryz.results417 Tryz.results418 Tryz.results419 Tryz.results420 Tryz.results421 Tryz.results422 Tryz.results423 Tryz.results424 Tryz.results425 Tryz.results426 Tryz.results427 Tryz.results428 Tryz.results429 Tryz.results430 Tryz.results431 Tryz.results432 Tryz.results433 Tryz.results434 Tryz.results435 Tryz.results436 Tryz.results437 Tryz.results438 Tryz.results439
attribute [go_sem] Tryz.results440 Tryz.results441 Tryz.results442 Tryz.results443 Tryz.results444 Tryz.results445 Tryz.results446 Tryz.results447 Tryz.results448 Tryz.results449 Tryz.results450 Tryz.results451 Tryz.results452 Tryz.results453 Tryz.results454 Tryz.results455 Tryz.results456 Tryz.results457 Tryz.results458 Tryz.results459 Tryz.results460 Tryz.results461 Tryz.results462 Tryz.results463 Tryz.results464 Tryz.results465 Tryz.results466 Tryz.results467 Tryz.results468 Tryz.results469 Tryz.results470 Tryz.results471 Tryz.results472 Tryz.results473 Tryz.results474 Tryz.results475 Tryz.results476 Tryz.results477 Tryz.results478 Tryz.results479
attribute [go_sem] Tryz.results480 Tryz.results481 Tryz.results482 Tryz.results483 Tryz.results484 Tryz.results485 Tryz.results486 Tryz.results487 Tryz.results488 Tryz.results489 Tryz.results490 Tryz.results491 Tryz.results492 Tryz.results493 Tryz.results494 Tryz.results495 Tryz.results496 Tryz.results497 Tryz.results498 Tryz.results499 Tryz.results500 Tryz.results501 Tryz.results502 Tryz.results503 Tryz.results504 Tryz.results505 Tryz.results506 Tryz.results507 Tryz.results508 Tryz.results509 Tryz.results510 Tryz.results511
abbrev AC (f:FuncId) (args:List AV) (r:AV):Prop:=ACall Go.Proofs.Tryz.prog f 0 args [] fun v _=>v=r
theorem mx:Go.Proofs.Tryz.prog.follows .mixedOrders=true:=ad
end Go.Aw
namespace Go.Proofs
open Go.Shelf
open Go.RowKit Go.Lib in
def Tryz.lays105_ren:Go.Shelf.Ren:=⟨fun|105=>253|212=>116|99=>218|165=>324|166=>113|170=>325|169=>98|263=>189|264=>190|206=>281|240=>188|241=>369|276=>257|277=>405|n=>n,fun|9=>9|3=>3|4=>4|20=>20|0=>0|46=>214|109=>215|5=>5|72=>180|76=>210|51=>67|146=>292|53=>22|148=>294|70=>178|37=>60|75=>209|127=>282|164=>375|80=>84|n=>n,fun|n=>n⟩
theorem Tryz.lays105:Go.Proofs.Lays.n105 Tryz.prog Tryz.lays105_ren:= {
 mixed:=ad
 f99:=Tryz.func218.trans (congrArg some ad)
 f105:=Tryz.func253.trans (congrArg some ad)
 f165:=Tryz.func324.trans (congrArg some ad)
 f166:=Tryz.func113.trans (congrArg some ad)
 f169:=Tryz.func98.trans (congrArg some ad)
 f170:=Tryz.func325.trans (congrArg some ad)
 f206:=Tryz.func281.trans (congrArg some ad)
 f212:=Tryz.func116.trans (congrArg some ad)
 f240:=Tryz.func188.trans (congrArg some ad)
 f241:=Tryz.func369.trans (congrArg some ad)
 f263:=Tryz.func189.trans (congrArg some ad)
 f264:=Tryz.func190.trans (congrArg some ad)
 f276:=Tryz.func257.trans (congrArg some ad)
 f277:=Tryz.func405.trans (congrArg some ad)
 t0:=Tryz.underlying0
 a0:=Tryz.isAgg0
 z0:=Tryz.sizeOf0
 v0:=Tryz.zeroValue0
 t3:=Tryz.underlying3
 a3:=Tryz.isAgg3
 z3:=Tryz.sizeOf3
 v3:=Tryz.zeroValue3
 t4:=Tryz.underlying4
 a4:=Tryz.isAgg4
 z4:=Tryz.sizeOf4
 v4:=Tryz.zeroValue4
 t5:=Tryz.underlying5
 a5:=Tryz.isAgg5
 z5:=Tryz.sizeOf5
 v5:=Tryz.zeroValue5
 t9:=Tryz.underlying9
 a9:=Tryz.isAgg9
 z9:=Tryz.sizeOf9
 v9:=Tryz.zeroValue9
 t20:=Tryz.underlying20
 a20:=Tryz.isAgg20
 z20:=Tryz.sizeOf20
 v20:=Tryz.zeroValue20
 t37:=Tryz.underlying60
 a37:=Tryz.isAgg60
 z37:=Tryz.sizeOf60
 v37:=Tryz.zeroValue60
 t46:=Tryz.underlying214
 a46:=Tryz.isAgg214
 z46:=Tryz.sizeOf214
 v46:=Tryz.zeroValue214
 t51:=Tryz.underlying67
 a51:=Tryz.isAgg67
 z51:=Tryz.sizeOf67
 v51:=Tryz.zeroValue67
 t53:=Tryz.underlying22
 a53:=Tryz.isAgg22
 z53:=Tryz.sizeOf22
 v53:=Tryz.zeroValue22
 t70:=Tryz.underlying178
 a70:=Tryz.isAgg178
 z70:=Tryz.sizeOf178
 v70:=Tryz.zeroValue178
 t72:=Tryz.underlying180
 a72:=Tryz.isAgg180
 z72:=Tryz.sizeOf180
 v72:=Tryz.zeroValue180
 t75:=Tryz.underlying209
 a75:=Tryz.isAgg209
 z75:=Tryz.sizeOf209
 v75:=Tryz.zeroValue209
 t76:=Tryz.underlying210
 a76:=Tryz.isAgg210
 z76:=Tryz.sizeOf210
 v76:=Tryz.zeroValue210
 t109:=Tryz.underlying215
 a109:=Tryz.isAgg215
 z109:=Tryz.sizeOf215
 v109:=Tryz.zeroValue215
 t127:=Tryz.underlying282
 a127:=Tryz.isAgg282
 z127:=Tryz.sizeOf282
 v127:=Tryz.zeroValue282
 t146:=Tryz.underlying292
 a146:=Tryz.isAgg292
 z146:=Tryz.sizeOf292
 v146:=Tryz.zeroValue292
 t148:=Tryz.underlying294
 a148:=Tryz.isAgg294
 z148:=Tryz.sizeOf294
 v148:=Tryz.zeroValue294
 t164:=Tryz.underlying375
 a164:=Tryz.isAgg375
 z164:=Tryz.sizeOf375
 v164:=Tryz.zeroValue375 }
theorem Tryz.Builder_Extra_105:Builder.Extra Tryz.prog Tryz.lays105_ren:= {
 sizeBuilder:=ad
 liesBuilder:=ad
 t5:=Tryz.underlying5
 a5:=Tryz.isAgg5
 z5:=Tryz.sizeOf5
 v5:=Tryz.zeroValue5
 infoByte:=ad
 cellsByte:=ad
 sizeByte:=ad
 neB5:=by decide }
open Go.RowKit Go.Lib in
theorem Tryz.strings_Repeat (s:ByteArray) (c:Nat) (w:World) (hc:c≤9223372036854775807) (hlen:s.size*c≤140737488355328):
  Calls Tryz.prog 253 #[.string s,.int .i64 c] w fun e w'=>e= .returned (.string ⟨(Lib.repeatL s.data.toList c).toArray⟩)∧Below w.heap.size w w':=Any.strings_Repeat Tryz.lays105 Tryz.Builder_Extra_105 s c w hc hlen
end Go.Proofs
