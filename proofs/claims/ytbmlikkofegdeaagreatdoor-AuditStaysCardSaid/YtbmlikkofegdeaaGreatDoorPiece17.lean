/-
  Parts of the proof: AwLin, AwOne, AwScope, AwSt, AwRng (short names; the readable texts lie in the repo, under wip).
-/
import Derived.Test.YtbmlikkofegdeaaGreatDoorPiece16
import Derived.Test.YtbmlikkofegdeaaGreatDoorPiece15
import Derived.ScopeJumps
import Derived.KernelRfl
set_option maxRecDepth 100000
set_option maxHeartbeats 2000000
set_option linter.unusedSimpArgs false
set_option linter.unusedVariables false
namespace Go.Aw
open Go
def rdy (L:List Bool) (o:Oper):Bool:=o.after.toList.all λe=> !Region.binds .any e||L.getD e.on false
def zk0 (f:Nat->Oper->Prop) (L:List Bool):Nat->List Oper->Prop
 |_,[]=>True
 |i,o::r=>(if (!(L.getD i false)&&rdy L o)=true then f i o else True)/\zk0 f L (i+1) r
def anyR (L:List Bool):Nat->List Oper->Bool
 |_,[]=>false
 |i,o::r=>(!(L.getD i false)&&rdy L o)||anyR L (i+1) r
abbrev Hot:=FuncId->List AV->AHeap->Option (AV×AHeap)
def HotOk (P:Program) (fl:Nat) (hot:Hot):Prop:=∀f args h r h',hot f args h=some (r,h')->∀K:AV->AHeap->Prop,K r h'->ACallAt P fl f args h K
def noHot:Hot:=λ_ _ _=>none
theorem zux (P:Program) (fl:Nat):HotOk P fl noHot:=λ_ _ _ _ _ h=>by cases h
open Classical in
noncomputable def hotOf (hot:Hot) (f:FuncId) (args:List AV) (h:AHeap) (r:AV) (h':AHeap):Hot:=λf' args' h1=>if ((f':Nat)==(f:Nat))=true then (if args'=args/\h1=h then some (r,h') else none) else hot f' args' h1
theorem zuy {P:Program} {fl:Nat} {hot:Hot} (hk:HotOk P fl hot) {f:FuncId} {args:List AV} {h:AHeap} {r:AV} {h':AHeap} (hc:∀K:AV->AHeap->Prop,K r h'->ACallAt P fl f args h K):HotOk P fl (hotOf hot f args h r h'):=by
 intro f1 args1 h1 r1 h1' he K hK;unfold hotOf at he;split at he
 ·rename_i hq;have hq:f1=f:=by simpa using hq
  subst hq;split at he
  ·rename_i hq;obtain ⟨rfl,rfl⟩:=hq;cases he;exact hc K hK
  ·cases he
 ·exact hk _ _ _ _ _ he K hK
def aopH (cx:Cx) (tab:Tab) (hot:Hot) (G:Bool) (o:Oper) (K:AS->Prop) (s:AS):Prop:=
 match o.op with
 | .call c=>(match zbh cx.P s c with
  |some (f,args,vc)=>(match hot f args s.h with
   |some (r,h2)=>isVal cx.P (.call c)=false/\G=true/\dstOk cx.nt o.dst/\vc/\K ({ s with h:=h2 }.put o.dst true r)
   |none=>aopY cx tab G o K s)
  |none=>aopY cx tab G o K s)
 |_=>aopY cx tab G o K s
def linY (cx:Cx) (tab:Tab) (hot:Hot) (all:Array Oper) (lst:List Oper) (K:AS->Prop):Nat->List Bool->AS->Prop
 |0,_,s=>K s
 | n+1,L,s=>anyR L 0 lst=true/\zk0 (λi o=>match zbi s all o.guard with
   |some G=>aopH cx tab hot G o (linY cx tab hot all lst K n (L.set i true)) s
   |none=>False) L 0 lst
section
variable {cx : Cx} {tab : Tab} {hot : Hot} {ops : Array Oper} {K : AS -> Prop}
theorem zwM (ht:TabOk cx.P tab) (hh:HotOk cx.P cx.fl hot) {E:Env} {s:AS} {a:Act} {w:World} {all:Array Oper} {o:Oper} {G:Bool} {K:AS->Prop} {Q:Exit->Act->World->Prop} (hs:Sat cx E s a w) (hg:zbi s all o.guard=some G) (h:aopH cx tab hot G o K s):
  if Region.wanted o (yielded all a.tmps) then o.wpIn cx.F 0 cx.P a w (Reach cx E s.h w K) Q else (∀f,o.about cx.P w a.eval=some f->cx.F.fn f)/\Reach cx E s.h w K (a.put o.dst undef) w:=by
 unfold aopH at h;split at h
 ·rename_i c hop;split at h
  ·rename_i f args vc hco;split at h
   ·rename_i r h2 hhot;obtain ⟨h1,rfl,h3,h4,h5⟩:=h;refine zj9 hs hg ⟨h3,?_⟩;rw [hop];dsimp only;rw [if_neg (by rw [h1];simp)];refine ⟨λ_=>?_,λe=>by cases e⟩;unfold aop1;rw [hop];dsimp only;rw [if_neg (by rw [h1];simp),hco];exact ⟨h4,hh _ _ _ _ _ hhot _ h5⟩
   ·exact zkS ht hs hg h
  ·exact zkS ht hs hg h
 ·exact zkS ht hs hg h
theorem zhK {F:Fence} {n:Nat} {P:Program} {md:Region.Mode} {Q Q':Exit->Act->World->Prop} (hq:∀a w,Q .normal a w->Q' .normal a w) (hf:∀i K a w,wpOpIn F n P ops Q i K a w->wpOpIn F n P ops Q' i K a w):∀ (fuel:Nat) (listed:Array Bool) (a:Act) (w:World),wpAnyIn F n P md ops Q fuel listed a w->wpAnyIn F n P md ops Q' fuel listed a w
 |0,listed,a,w,h=>⟨h.1,hq _ _ h.2⟩
 |fuel+1,listed,a,w,h=>⟨λhr=>hq _ _ (h.1 hr),λi hi=>hf _ _ _ _ (wpOpIn_mono (λa w=>zhK hq hf fuel _ a w) (h.2 i hi))⟩
theorem zqd {f:Nat->Oper->Prop} {L:List Bool} (l:List Oper):∀ (k i:Nat) (o:Oper),zk0 f L k l->l[i]?=some o->L.getD (k+i) false=false->rdy L o=true->f (k+i) o:=by
 induction l with
 |nil=>intro k i o h hi;simp at hi
 | cons x r ih=>
  intro k i o h hi h1 h2;cases i with
  | zero=>
   simp only [List.getElem?_cons_zero,Option.some.injEq] at hi;subst hi;have h3:=h.1
   have hc:(!(L.getD k false)&&rdy L x)=true:=by have:L.getD k false=false:=h1;rw [this,h2];rfl
   rw [if_pos hc] at h3;exact h3
  |succ i=>
   have hi':r[i]?=some o:=by rw [<-hi,List.getElem?_cons_succ]
   have:=ih (k+1) i o h.2 hi' (by rw [<-h1];congr 1;omega) h2;rwa [show k+1+i=k+(i+1) by omega] at this
theorem zr7 {L:List Bool} :∀ (l:List Oper) (k:Nat),anyR L k l=true->∃i o,l[i]?=some o/\L.getD (k+i) false=false/\rdy L o=true
 | [],k,h=>by cases h
 | x::r,k,h=>by
  simp only [anyR,Bool.or_eq_true,Bool.and_eq_true,Bool.not_eq_true'] at h;rcases h with ⟨h1,h2⟩|h
  ·exact ⟨0,x,rfl,h1,h2⟩
  ·obtain ⟨i,o,h1,h2,h3⟩:=zr7 r (k+1) h;exact ⟨i+1,o,by simpa using h1,by rw [<-h2];congr 1;omega,h3⟩
theorem zeS (l:Array Bool) (i:Nat) (d:Bool):l.toList.getD i d=l.getD i d:=by
 simp [List.getD_eq_getElem?_getD,Array.getD_eq_getD_getElem?]
theorem zr8 (ht:TabOk cx.P tab) (hh:HotOk cx.P cx.fl hot):∀ (n:Nat) (listed:Array Bool) {s:AS} {E:Env} {a:Act} {w:World},listed.size=ops.size→listed.toList.countP (fun b=>b==false)=n→Sat cx E s a w→linY cx tab hot ops ops.toList K n listed.toList s→
  wpAnyIn cx.F 0 cx.P .any ops (fun e a' w'=>e= .normal∧Reach cx E s.h w K a' w') n listed a w
 | 0,listed,s,E,a,w,hsz,hc,hs,h=>by
  refine ⟨?_,rfl,zgg hs h⟩
  cases hr:Region.ready .any ops listed with
  |nil=>rfl
  |cons i l=>
   have hi:i∈Region.ready .any ops listed:=by rw [hr];simp
   obtain ⟨h1,o,h2,_⟩:=mem_ready.1 hi
   have hlt:i<ops.size:=(Array.getElem?_eq_some_iff.1 h2).1
   have h0:=List.countP_eq_zero.1 hc (listed[i]'(by omega)) (by simp)
   rw [Array.getD_eq_getD_getElem?,Array.getElem?_eq_getElem (by omega)] at h1
   simp only [Option.getD_some] at h1
   rw [h1] at h0
   simp at h0
 | n + 1,listed,s,E,a,w,hsz,hc,hs,h=>by
  obtain ⟨hany,halt⟩:=h
  refine ⟨fun hr=>?_,fun i hi=>?_⟩
  ·exfalso
   obtain ⟨i,o,h1,h2,h3⟩:=zr7 _ _ hany
   rw [Nat.zero_add,zeS] at h2
   have hlt:i<ops.size:=(Array.getElem?_eq_some_iff.1 (by simpa using h1)).1
   have:i∈Region.ready .any ops listed:=mem_ready.2 ⟨by
    rw [Array.getD_eq_getD_getElem?,Array.getElem?_eq_getElem (by omega)] at h2 ⊢
    simpa using h2,o,by simpa using h1,fun e he hb=>by
    have:=List.all_eq_true.1 h3 e (by simpa using he)
    rw [hb,zeS] at this
    simpa using this⟩
   rw [hr] at this
   cases this
  ·obtain ⟨h1,o,h2,h3⟩:=mem_ready.1 hi
   have hlt:i<ops.size:=(Array.getElem?_eq_some_iff.1 h2).1
   have hl:listed[i]?=some false:=by
    rw [Array.getD_eq_getD_getElem?,Array.getElem?_eq_getElem (by omega)] at h1
    rw [Array.getElem?_eq_getElem (by omega)]
    simpa using h1
   have hst:=zqd ops.toList 0 i o halt (by simpa using h2) (by rw [Nat.zero_add,zeS,Array.getD_eq_getD_getElem?,hl];rfl) (by
    unfold rdy
    refine List.all_eq_true.2 fun e he=>?_
    rw [zeS]
    cases hb:Region.binds .any e with
    |true=>simpa using h3 e (by simpa using he) hb
    |false=>rfl)
   rw [Nat.zero_add] at hst
   split at hst
   ·rename_i G hg
    have hcnt:(listed.setIfInBounds i true).toList.countP (fun b=>b==false)=n:=zis listed i n hl hc
    have hlist:(listed.setIfInBounds i true).toList=listed.toList.set i true:=Array.toList_setIfInBounds ..
    have:=zwM ht hh (Q:=fun _ _ _=>False) hs hg hst
    have next:∀a1 w1,Reach cx E s.h w (linY cx tab hot ops ops.toList K n (listed.toList.set i true)) a1 w1→
      wpAnyIn cx.F 0 cx.P .any ops (fun e a' w'=>e= .normal∧Reach cx E s.h w K a' w') n (listed.setIfInBounds i true) a1 w1:=by
     rintro a1 w1 ⟨E1,s1,hk,hs1,he1⟩
     rw [← hlist] at hk
     have ih:=zr8 ht hh n (listed.setIfInBounds i true) (by simpa using hsz) hcnt hs1 hk
     refine zhK (fun a w h=>⟨rfl,h.2.trans he1⟩) (fun i K a w h=>?_) _ _ _ _ ih
     unfold wpOpIn at h ⊢
     split at h
     ·exact h
     ·split at h
      ·rename_i hw
       rw [if_pos hw]
       exact zil h (fun _ _ h=>h) (fun e a w h=>⟨h.1,h.2.trans he1⟩)
      ·rename_i hw
       rw [if_neg hw]
       exact h
    unfold wpOpIn
    rw [h2]
    dsimp only
    split at this
    ·rename_i hw
     rw [if_pos hw]
     exact zbx this next
    ·rename_i hw
     rw [if_neg hw]
     exact ⟨this.1,next _ _ this.2⟩
   ·exact hst.elim
theorem zk1 {s:AS} {id:Nat} {Q:Exit->AS->Prop} (tab:Tab) (hot:Hot) (ht:TabOk cx.P tab) (hh:HotOk cx.P cx.fl hot) (hm:cx.P.follows .mixedOrders=true) (h:linY cx tab hot ops ops.toList (Q .normal) ops.size (List.replicate ops.size false) s):AW cx (.region id ops true) Q s:=by
 intro E a w hs;have hs':=hs.drawn;have hev:Evo cx.fl E s.h w E s.h { w with drawn:=w.drawn+1 } :=⟨rfl,rfl,rfl,Nat.le_refl _,λ_ _ _ _=>rfl,λ_ h=> .inl h,λ_ h=>h,λ_ h=> .inl h,rfl,λi _ h=>⟨h,GoesOn.refl E _ i⟩⟩
 refine wpIn_mono (wpIn_region_any hm (zr8 ht hh ops.size (Array.replicate ops.size false) (by simp) (by rw [Array.toList_replicate,List.countP_replicate];rfl) hs' (by rw [Array.toList_replicate];exact h))) ?_;rintro e a' w' ⟨rfl,hr⟩;exact hr.trans hev
end
attribute [go_sem] linY zk0 anyR rdy Region.binds aopH noHot hotOf
open Go
theorem ACall.one {P:Program} {f:FuncId} {args:List AV} {fl fl' i:Nat} {ob:AObj} {h h2:AHeap} {R:AV→AObj→Prop} (hc:ACall P f fl args [(i,ob)] (fun r h'=>∃ob',h'= [(i,ob')]∧R r ob'))
  (h1:hsel (fun j=>decide (j=i)||decide (fl≤j)) h= [(i,ob)]) (h2e:hsel (fun j=> !(decide (j=i)||decide (fl≤j))) h=h2) (hfl:∀i,(hget h i).isSome→i<fl) (hg:hget h i=some ob)
  (hcl:∀j∈ob.ids,j=i) (ha:∀j∈AV.idsL args,j=i) (hle:fl'≤fl):ACallAt P fl' f args h (fun r h'=>∃ob',R r ob'∧h'=(i,ob')::h2):=by
 have hi:i<fl:=hfl i (by simp [hg])
 have :=ACall.frame (P:=P) (f:=f) (args:=args) (fl:=fl) (fl':=fl') (h:=h) (p:=fun j=>decide (j=i)||decide (fl≤j)) (K:=fun r h'=>∃ob',h'= [(i,ob')]∧R r ob') (by rw [h1];exact hc) hfl (fun j hj=>by simp;exact .inr hj)
  (fun j o ho hp k hk=>by
   have hj:=hfl j (by simp [ho])
   have:j=i:=by
    have:j=i∨fl≤j:=by simpa using hp
    omega
   subst this
   rw [hg] at ho;cases ho
   simp [hcl k hk]) (fun j hj=>by simp [ha j hj]) hle (fun r h' ⟨ob',he,_⟩=>by
    subst he
    refine ⟨fun j hj hp=>?_,fun j hj=>?_⟩
    ·have hjl:=hfl j hj
     have:j=i:=by
      have:j=i∨fl≤j:=by simpa using hp
      omega
     subst this
     simp [hget]
    ·simp only [hget] at hj
     split at hj
     ·rename_i e;simp [e]
     ·simp at hj)
 refine this.mono ?_
 rintro r h' ⟨h1',⟨ob',rfl,hR⟩,rfl⟩
 rw [h2e]
 exact ⟨ob',hR,rfl⟩
theorem zph:∀ {h:AHeap} {i:Nat} {o:AObj},hget h i=some o->(i,o)∈h
  | [],i,o,hg=>by simp [hget] at hg
  | (k,x)::r,i,o,hg=>by
    simp only [hget] at hg;split at hg
    · rename_i e;subst e;cases hg;exact List.mem_cons_self ..
    · exact List.mem_cons_of_mem _ (zph hg)
theorem zC {P:Program} {f:FuncId} {args:List AV} {fl:Nat} {h:AHeap} {K:AV->AHeap->Prop} (p:Nat->Bool) (hc:ACall P f fl args h (λr h'=>(hsel p h').all (λq=>q.2.ids.all p)=true/\r.ids.all p=true/\K r (hsel p h'))):ACall P f fl args h K:=by
 refine ⟨hc.1,λE w vs hs hr=>(hc.2 E w vs hs hr).mono ?_⟩;rintro e w' ⟨v,E',r,h',h1,⟨h2,h3,h4⟩,h5,h6,h7⟩
 have hcl:zhI p h':=λi o ho hp j hj=>by
  have hg:hget (hsel p h') i=some o:=by rw [zx,if_pos hp];exact ho
  have:=List.all_eq_true.1 h2 _ (zph hg);exact List.all_eq_true.1 this j hj
 refine ⟨v,E',r,hsel p h',h1,h4,znG h5 hcl,zrR (λj hj=>List.all_eq_true.1 h3 j hj) h6,?_⟩;refine ⟨h7.os,h7.tape,h7.output,h7.size,h7.keep,λb ho=>h7.own b (zY ho),h7.m,h7.n,λi hi hl=>?_⟩;rw [zx] at hl;by_cases hp:p i=true
 ·rw [if_pos hp] at hl;obtain ⟨g1,g2⟩:=h7.go i hi hl;exact ⟨g1,g2.trans (zfH i hp)⟩
 ·rw [if_neg hp] at hl;cases hl
attribute [go_sem] AObj.ids List.all_nil List.all_cons List.all_append
open Go
section
variable {F : Fence} {n : Nat} {P : Program} {Q : Exit -> Act -> World -> Prop} {a : Act} {w : World}
theorem zcR {b:Frame} {k:List Item} {cs:List Frame} {c:Code} :step P (lone (b.atR a (.code (.scope c)::k)) cs w)= .next (lone (b.atR a (.code c:: .inScope c::k)) cs w):=
 step_lone_go (by simp [stepG,stepG.exec,Frame.atR])
theorem zk2 {b:Frame} {k:List Item} {cs:List Frame} {c:Code} :step P (lone (b.atR a (.inScope c::k)) cs w)= .next (lone (b.atR a k) cs w):=
 step_lone_go (by simp [stepG,stepG.exec,Frame.atR])
theorem zgj {c:Code} (h:c.wpIn F n P (Exit.noGoto Q) a w):(Code.scope c).wpIn F n P Q a w:=by
 intro b k cs hro hb hr;have h0:(lone (b.atR a (.code (.scope c)::k)) cs w).fenced P F:=fenced_calm hb hr rfl;obtain ⟨e,a₁,w₁,hq,harr⟩:=h b (.inScope c::k) cs hro hb hr;cases e with
 |normal=>exact ⟨.normal,a₁,w₁,hq,.head h0 zcR (StepsIn.trans harr (.one (fenced_calm hb hr rfl) zk2))⟩
 | exit id=>
  have hx:exitTo id (.inScope c::k)=exitTo id k:=by simp [exitTo]
  exact ⟨.exit id,a₁,w₁,hq,λk' hk=> .head h0 zcR (harr.1 k' (by rw [hx];exact hk)),
   λhr' hk=>let ⟨k₁,h1,h2⟩:=harr.2 hr' (by rw [hx];exact hk);⟨k₁,h1,.head h0 zcR h2⟩⟩
 |goto l=>exact hq.elim
 |ret=>exact ⟨_,a₁,w₁,hq,.of_steps (.one h0 zcR) harr⟩
 |panic ch=>exact ⟨_,a₁,w₁,hq,.of_steps (.one h0 zcR) harr⟩
 |outgrown=>exact ⟨_,a₁,w₁,hq,.of_steps (.one h0 zcR) harr⟩
end
def zwi (Q:Exit->AS->Prop):Exit->AS->Prop
 | .goto _,_=>False
 |e,s=>Q e s
attribute [go_sem] zwi
theorem zk6 {cx:Cx} {Q:Exit->AS->Prop} {s:AS} {c:Code} (h:AW cx c (zwi Q) s):AW cx (.scope c) Q s:=by
 intro E a w hs;refine zgj (wpIn_mono (h E a w hs) ?_);intro e a1 w1 hr;cases e with
 |goto l=>obtain ⟨_,_,h,_⟩:=hr;exact h
 |_=>exact hr
open Go
theorem sa {P Q:Prop} (h:Q) (t:Q->P:=by first|exact zi _ ‹TabOk _ _› |exact zbr _ [] ‹TabOk _ _› mx):P:=t h
theorem sb {P Q:Prop} (h:Q) (t:Q->P:=by first|exact zan _ ‹TabOk _ _› |exact zeL|exact zeM|exact zga|exact zkH|exact zbJ _ [] ‹TabOk _ _› mx):P:=t h
theorem sc {P Q:Prop} (h:Q) (t:Q->P:=by first|exact za7|exact zk6|exact ziv rfl|exact ziw rfl):P:=t h
theorem le0 {P:Prop} (t:P:=by simp only [AS.le,leT,leH,zf,AsgK,AV.le,AV.leL,AObj.le,inH,idsT,idsH,AV.ids,AV.idsL,AV.idsR,AObj.ids,lk,hget,go_sem,aeq,aeq.aeqF,simprocAttr]):P:=t
theorem le1 {P:Prop} (t:P:=by simp only [AS.le,leT,leH,zf,AsgK,AV.le,AV.leL,AObj.le,inH,idsT,idsH,AV.ids,AV.idsL,AV.idsR,AObj.ids,lk,hget,go_sem,aeq,aeq.aeqF,simprocAttr]<;>and_intros<;>rfl):P:=t
theorem lew {P:Prop} (t:P:=by simp only [AS.le,leT,leH,zf,AsgK,AV.le,AV.leL,AObj.le,inH,idsT,idsH,AV.ids,AV.idsL,AV.idsR,AObj.ids,lk,hget,go_sem,aeq,aeq.aeqF,simprocAttr,hwi]):P:=t
theorem lev {P:Prop} (t:P:=by simp only [AS.le,leT,leH,zf,AsgK,AV.le,AV.leL,AObj.le,inH,idsT,idsH,AV.ids,AV.idsL,AV.idsR,AObj.ids,lk,hget,go_sem,aeq,aeq.aeqF,simprocAttr,hwi]<;>and_intros<;>rfl):P:=t
def fxd (n:Nat):Nat:=n
theorem fx:fxd 0=0:=rfl
theorem tk {P:Program} :TabOk P noTab:=zb P
theorem eqmp {A Q:Prop} (h:Q) (e:A=Q):A:=e ▸ h
section
variable {P : Prop} {cx : Cx} {y : Code} {Q : Exit -> AS -> Prop} {R : (AS -> Prop) -> Prop}
theorem wa (h:∀K:AS->Prop,(∀s',AW cx y Q s'->K s')->R K) (t:(∀K:AS->Prop,(∀s',AW cx y Q s'->K s')->R K)->P:=by
  intro h;first
  |((first|refine zi _ tk (λK hK=>eqmp (h K hK) ?_)|refine zbr _ [] tk mx (λK hK=>eqmp (h K hK) ?_));simp only [go_sem,aeq,aeq.aeqF,simprocAttr,fx];rfl)
  |exact zaM h):P:=t h
theorem xa (h:∀K:AS->Prop,(∀s',AW cx y Q s'->K s')->R K) (t:(∀K:AS->Prop,(∀s',AW cx y Q s'->K s')->R K)->P:=by
  intro h;first
  |((first|refine zjH _ tk (λK hK=>eqmp (h K hK) ?_)|refine zbr _ [] tk mx (λK hK=>eqmp (h K hK) ?_));simp only [go_sem,aeq,aeq.aeqF,simprocAttr,fx];rfl)
  |exact zaM h):P:=t h
end
theorem wb {P Q:Prop} (h:Q) (t:Q->P:=by
  intro h;first
  |((first|refine zan _ tk (eqmp h ?_)|refine zeL (eqmp h ?_)|refine zeM (eqmp h ?_)|refine zga (eqmp h ?_)|refine zkH (eqmp h ?_)|refine zbJ _ [] tk mx (eqmp h ?_));simp only [go_sem,aeq,aeq.aeqF,simprocAttr,fx];rfl)
  |exact za7 h|exact zk6 h|exact ziv rfl h|exact ziw rfl h):P:=t h
theorem xb {P Q:Prop} (h:Q) (t:Q->P:=by
  intro h;first
  |((first|refine zkd _ tk (eqmp h ?_)|refine zeL (eqmp h ?_)|refine zeM (eqmp h ?_)|refine zga (eqmp h ?_)|refine zkH (eqmp h ?_)|refine zbJ _ [] tk mx (eqmp h ?_));simp only [go_sem,aeq,aeq.aeqF,simprocAttr,fx];rfl)
  |exact za7 h|exact zk6 h|exact ziv rfl h|exact ziw rfl h):P:=t h
theorem wd {a b:Bool} {Q:Prop} (h:a=b->Q):a=b->Q:=h
theorem wn {R Y:Bool->Prop} (h:∀nb:Bool,(nb=true->R nb)->Y nb):∀nb:Bool,(nb=true->R nb)->Y nb:=h
@[go_sem] theorem cxY_fl {P:Program} {items:List (List AV)} (base nt fl:Nat) (y:Yo P items):(cxY P base nt fl y).fl=fl:=rfl
theorem zwN {cx:Cx} {Q:Exit->AS->Prop} {s:AS} (hin:inH (hsel (λi=>decide (i<cx.fl)) s.h) (idsH (hsel (λi=>decide (i<cx.fl)) s.h))) (h:Q .ret { t:=keepT (hsel (λi=>decide (i<cx.fl)) s.h) s.t,h:=hsel (λi=>decide (i<cx.fl)) s.h,g:=s.g }):AW cx .ret Q s:=zwI _ hin (zga h)
theorem xk {P Q:Prop} (h:Q) (t:Q->P:=by intro h;refine zwN (by simp only [inH,idsH,hsel,AV.ids,AV.idsL,AV.idsR,AObj.ids,hget,go_sem,aeq,aeq.aeqF,simprocAttr]) (eqmp h ?_);simp only [go_sem,aeq,aeq.aeqF,simprocAttr,fx,hsel,keepT];rfl):P:=t h
theorem wl {P Q:Prop} (h:Q) (t:Q->P:=by
  intro h
  (first|refine (show AS.le _ _ from eqmp h ?_)|refine (show leH _ _ from eqmp h ?_)|refine (show inH _ _ from eqmp h ?_))
  simp only [AS.le,leT,leH,zf,AsgK,AV.le,AV.leL,AObj.le,inH,idsT,idsH,AV.ids,AV.idsL,AV.idsR,AObj.ids,lk,hget,go_sem,aeq,aeq.aeqF,simprocAttr,fx];rfl):P:=t h
theorem wc {P Q R:Prop} (h:Q) (g:R) (t:Q->R->P:=by first|with_reducible exact And.intro|exact zbA rfl):P:=t h g
theorem we {P:Prop} (t:P:=by first|with_reducible exact True.intro|((refine (show zen _ _=true from ?_));kernel_rfl)|((refine (show zwg _ _=true from ?_));kernel_rfl)|omega|assumption):P:=t
section
variable {P : Program}
theorem bod {f:FuncId} {fn:Func} {c:Code} {nt fl:Nat} {args:List AV} {h:AHeap} {K:AV->AHeap->Prop} (hf:P.funcs[f]?=some fn) (hnt:fn.ntmps=nt)
  (haw:∀base,AW (cxOf P base nt fl) c (RetK P fn K) { t:=za8 0 args,h:=h,g:=some [] }) (hb:fn.body=some c:=by rfl) (he:(fn.name== "runtime.NumGoroutine")=false:=by kernel_rfl) (hi:fn.body.isNone=false:=by rfl) (hn:args.length<=nt:=by simp):ACall P f fl args h K:=
 zaP hf hb (zdn hf he hi) hnt hn haw
theorem fbod {f:FuncId} {fn:Func} {c:Code} {nt:Nat} {args:List AV} {r:AV} (hf:P.funcs[f]?=some fn) (hnt:fn.ntmps=nt)
  (haw:∀base,AW (cxOf P base nt 0) c (RetK P fn (λr' h'=>frz 9 h' r'=r)) { t:=za8 0 args,h:= [],g:=some [] }) (hb:fn.body=some c:=by rfl) (he:(fn.name== "runtime.NumGoroutine")=false:=by kernel_rfl) (hi:fn.body.isNone=false:=by rfl) (hn:args.length<=nt:=by simp):ACall P f 0 args [] (λr' _=>r'=r):=
 ziu (zaP hf hb (zdn hf he hi) hnt hn haw)
theorem itr {f:FuncId} {fn:Func} {c:Code} {nt fl:Nat} {pre caps:List AV} {h:AHeap} {items:List (List AV)} {K:Option (List (List AV))->AHeap->Prop} (hf:P.funcs[f]?=some fn) (hnt:fn.ntmps=nt)
  (haw:∀base (y:Yo P items),AW (cxY P base nt fl y) c (IterK K) { t:=za8 0 (pre++ .fn (.yield y.yl) [] []::caps),h:=h,g:=some [] }) (hb:fn.body=some c:=by rfl) (he:(fn.name== "runtime.NumGoroutine")=false:=by kernel_rfl) (hi:fn.body.isNone=false:=by rfl) (hres:fn.results= #[]:=by rfl) (hn:pre.length+caps.length+1<=nt:=by simp):AIter P f fl pre caps h items K:=
 zkR hf hb (zdn hf he hi) hnt hres hn haw
end
inductive Lo {P:Prop} (h:P):Prop|mk
theorem lo2 {P:Prop} (h:P) (u:Lo h):P:=h
inductive Stp (n:Nat):Prop|mk
theorem zav (n:Nat):Stp n:= .mk
theorem hdt {cx:Cx} {c:Code} {Q:Exit->AS->Prop} {s:AS} {n:Nat} (st:Stp n) (h:hdR c=some n) (g:AW cx c Q s):AW cx c Q s:=g
theorem zn {a b:Prop} (x:a) (y:b):a/\b:=⟨x,y⟩
theorem zB {a b c:Prop} (x:a) (y:b) (z:c):a/\b/\c:=⟨x,y,z⟩
theorem zah {a b c d:Prop} (x:a) (y:b) (z:c) (u:d):a/\b/\c/\d:=⟨x,y,z,u⟩
theorem zbj {a b c d e:Prop} (x:a) (y:b) (z:c) (u:d) (v:e):a/\b/\c/\d/\e:=⟨x,y,z,u,v⟩
theorem zL {a b c d e f:Prop} (x:a) (y:b) (z:c) (u:d) (v:e) (w:f):a/\b/\c/\d/\e/\f:=⟨x,y,z,u,v,w⟩
theorem natC:∀n:Nat,((n:Int)).toNat=n:=Int.toNat_natCast
inductive Ow (l:List FuncId):Prop|mk
theorem ownsL (l:List FuncId):Ow l:= .mk
theorem ziC {cx:Cx} {ops:Array Oper} {s:AS} {id:Nat} {Q:Exit->AS->Prop} (tab:Tab) {l:List FuncId} (_:Ow l) (ht:TabOk cx.P tab) (hm:cx.P.follows .mixedOrders=true) (h:gops cx tab l ops (top cx.fl s.h) ops.toList [] (Q .normal) s):AW cx (.region id ops true) Q s:=zbJ tab l ht hm h
theorem zgk {cx:Cx} {ops:Array Oper} {s:AS} {id:Nat} {y:Code} {Q:Exit->AS->Prop} (tab:Tab) {l:List FuncId} (_:Ow l) (ht:TabOk cx.P tab) (hm:cx.P.follows .mixedOrders=true) (h:∀K,(∀s',AW cx y Q s'->K s')->gops cx tab l ops (top cx.fl s.h) ops.toList [] K s):AW cx (.seq (.region id ops true) y) Q s:=zbr tab l ht hm h
theorem wao {P:Prop} {cx:Cx} {y:Code} {Q:Exit->AS->Prop} {R:(AS->Prop)->Prop} (h:∀K:AS->Prop,(∀s',AW cx y Q s'->K s')->R K) (t:(∀K:AS->Prop,(∀s',AW cx y Q s'->K s')->R K)->P:=by intro h;refine zgk _ ow tk mx (λK hK=>eqmp (h K hK) ?_);simp only [go_sem,aeq,aeq.aeqF,simprocAttr,fx];rfl):P:=t h
theorem wbo {P Q:Prop} (h:Q) (t:Q->P:=by intro h;refine ziC _ ow tk mx (eqmp h ?_);simp only [go_sem,aeq,aeq.aeqF,simprocAttr,fx];rfl):P:=t h
section
variable {Q F : Prop} {P : Program} {T : Tab} {l : List FuncId} {n : Nat}
theorem walkW (fx:F) (tk:TabOk P T) (t:F->TabOk P T->Q:=by intro fx tk;repeat' (first|(refine hK _ ?_;clear hK K)|refine wa λK hK=>?_|refine wb ?_|refine wc ?_ ?_|refine wn λnb hnb=>?_|exact we|refine wd λhc=>?_|clear hK K|(clear fx tk;apply_rules (newGoals:= .nonDependentOnly) (maxDepth:=1) only [lo2];constructor))):Q:=t fx tk
theorem walkR (fx:F) (tk:TabOk P T) (t:F->TabOk P T->Q:=by intro fx tk;repeat' (first|(refine hK _ ?_;clear hK K)|refine wa λK hK=>?_|refine wb ?_|refine wc ?_ ?_|refine wl ?_|refine λ(r2:Rnd _)=>?_|refine wn λnb hnb=>?_|exact ‹_<+:_› |exact we|refine wd λhc=>?_|clear hK K|(clear fx tk;apply_rules (newGoals:= .nonDependentOnly) (maxDepth:=1) only [lo2];constructor))):Q:=t fx tk
theorem walkX (fx:F) (tk:TabOk P T) (t:F->TabOk P T->Q:=by intro fx tk;repeat' (first|refine xk ?_|(refine hK _ ?_;clear hK K)|refine xa λK hK=>?_|refine xb ?_|refine wc ?_ ?_|refine wl ?_|refine λ(r2:Rnd _)=>?_|refine wn λnb hnb=>?_|exact ‹_<+:_› |exact we|refine wd λhc=>?_|clear hK K|(clear fx tk;apply_rules (newGoals:= .nonDependentOnly) (maxDepth:=1) only [lo2];constructor))):Q:=t fx tk
theorem zgF (st:Stp n) (fx:F) (tk:TabOk P T) (t:Stp n->F->TabOk P T->Q:=by intro st fx tk;repeat' (first|(refine hdt st rfl ?_;clear fx tk st;apply_rules (newGoals:= .nonDependentOnly) (maxDepth:=1) only [lo2];constructor)|(refine hK _ ?_;clear hK K)|refine wa λK hK=>?_|refine wb ?_|refine wc ?_ ?_|refine wn λnb hnb=>?_|exact we|refine wd λhc=>?_|clear hK K|(clear fx tk st;apply_rules (newGoals:= .nonDependentOnly) (maxDepth:=1) only [lo2];constructor))):Q:=t st fx tk
theorem zki (st:Stp n) (fx:F) (tk:TabOk P T) (t:Stp n->F->TabOk P T->Q:=by intro st fx tk;repeat' (first|(refine hdt st rfl ?_;clear fx tk st;apply_rules (newGoals:= .nonDependentOnly) (maxDepth:=1) only [lo2];constructor)|(refine hK _ ?_;clear hK K)|refine wa λK hK=>?_|refine wb ?_|refine wc ?_ ?_|refine wl ?_|refine λ(r2:Rnd _)=>?_|refine wn λnb hnb=>?_|exact ‹_<+:_› |exact we|refine wd λhc=>?_|clear hK K|(clear fx tk st;apply_rules (newGoals:= .nonDependentOnly) (maxDepth:=1) only [lo2];constructor))):Q:=t st fx tk
theorem zr9 (ow:Ow l) (fx:F) (tk:TabOk P T) (t:Ow l->F->TabOk P T->Q:=by intro ow fx tk;repeat' (first|(refine hK _ ?_;clear hK K)|refine wao λK hK=>?_|refine wbo ?_|refine wa λK hK=>?_|refine wb ?_|refine wc ?_ ?_|refine wn λnb hnb=>?_|exact we|refine wd λhc=>?_|clear hK K|(clear fx tk ow;apply_rules (newGoals:= .nonDependentOnly) (maxDepth:=1) only [lo2];constructor))):Q:=t ow fx tk
theorem zpi (ow:Ow l) (fx:F) (tk:TabOk P T) (t:Ow l->F->TabOk P T->Q:=by intro ow fx tk;repeat' (first|(refine hK _ ?_;clear hK K)|refine wao λK hK=>?_|refine wbo ?_|refine wa λK hK=>?_|refine wb ?_|refine wc ?_ ?_|refine wl ?_|refine λ(r2:Rnd _)=>?_|refine wn λnb hnb=>?_|exact ‹_<+:_› |exact we|refine wd λhc=>?_|clear hK K|(clear fx tk ow;apply_rules (newGoals:= .nonDependentOnly) (maxDepth:=1) only [lo2];constructor))):Q:=t ow fx tk
theorem zc (fx:F) (t:F->Q:=by intro fx;repeat' (first|(refine hK _ ?_;clear hK K)|refine wa λK hK=>?_|refine wb ?_|refine wc ?_ ?_|refine wn λnb hnb=>?_|exact we|refine wd λhc=>?_|clear hK K|(clear fx;apply_rules (newGoals:= .nonDependentOnly) (maxDepth:=1) only [lo2];constructor))):Q:=t fx
theorem zaO (fx:F) (t:F->Q:=by intro fx;repeat' (first|(refine hK _ ?_;clear hK K)|refine wa λK hK=>?_|refine wb ?_|refine wc ?_ ?_|refine wl ?_|refine λ(r2:Rnd _)=>?_|refine wn λnb hnb=>?_|exact ‹_<+:_› |exact we|refine wd λhc=>?_|clear hK K|(clear fx;apply_rules (newGoals:= .nonDependentOnly) (maxDepth:=1) only [lo2];constructor))):Q:=t fx
theorem z7 (fx:F) (t:F->Q:=by intro fx;repeat' (first|refine xk ?_|(refine hK _ ?_;clear hK K)|refine xa λK hK=>?_|refine xb ?_|refine wc ?_ ?_|refine wl ?_|refine λ(r2:Rnd _)=>?_|refine wn λnb hnb=>?_|exact ‹_<+:_› |exact we|refine wd λhc=>?_|clear hK K|(clear fx;apply_rules (newGoals:= .nonDependentOnly) (maxDepth:=1) only [lo2];constructor))):Q:=t fx
theorem zcj (st:Stp n) (fx:F) (t:Stp n->F->Q:=by intro st fx;repeat' (first|(refine hdt st rfl ?_;clear fx st;apply_rules (newGoals:= .nonDependentOnly) (maxDepth:=1) only [lo2];constructor)|(refine hK _ ?_;clear hK K)|refine wa λK hK=>?_|refine wb ?_|refine wc ?_ ?_|refine wn λnb hnb=>?_|exact we|refine wd λhc=>?_|clear hK K|(clear fx st;apply_rules (newGoals:= .nonDependentOnly) (maxDepth:=1) only [lo2];constructor))):Q:=t st fx
theorem zk7 (st:Stp n) (fx:F) (t:Stp n->F->Q:=by intro st fx;repeat' (first|(refine hdt st rfl ?_;clear fx st;apply_rules (newGoals:= .nonDependentOnly) (maxDepth:=1) only [lo2];constructor)|(refine hK _ ?_;clear hK K)|refine wa λK hK=>?_|refine wb ?_|refine wc ?_ ?_|refine wl ?_|refine λ(r2:Rnd _)=>?_|refine wn λnb hnb=>?_|exact ‹_<+:_› |exact we|refine wd λhc=>?_|clear hK K|(clear fx st;apply_rules (newGoals:= .nonDependentOnly) (maxDepth:=1) only [lo2];constructor))):Q:=t st fx
theorem zsa (st:Stp n) (fx:F) (t:Stp n->F->Q:=by intro st fx;repeat' (first|(refine hdt st rfl ?_;clear fx st;apply_rules (newGoals:= .nonDependentOnly) (maxDepth:=1) only [lo2];constructor)|refine xk ?_|(refine hK _ ?_;clear hK K)|refine xa λK hK=>?_|refine xb ?_|refine wc ?_ ?_|refine wl ?_|refine λ(r2:Rnd _)=>?_|refine wn λnb hnb=>?_|exact ‹_<+:_› |exact we|refine wd λhc=>?_|clear hK K|(clear fx st;apply_rules (newGoals:= .nonDependentOnly) (maxDepth:=1) only [lo2];constructor))):Q:=t st fx
theorem zhd (ow:Ow l) (fx:F) (t:Ow l->F->Q:=by intro ow fx;repeat' (first|(refine hK _ ?_;clear hK K)|refine wao λK hK=>?_|refine wbo ?_|refine wa λK hK=>?_|refine wb ?_|refine wc ?_ ?_|refine wn λnb hnb=>?_|exact we|refine wd λhc=>?_|clear hK K|(clear fx ow;apply_rules (newGoals:= .nonDependentOnly) (maxDepth:=1) only [lo2];constructor))):Q:=t ow fx
end
open Go
def never:AHeap:= [(0,.var [.vp 1 0])]
theorem zmm {cx:Cx} {E:Env} {s:AS} {a:Act} {w:World} (hs:Sat cx E s a w) (h:s.h=never):False:=by have:=hs.hp.heap 0 (.var [.vp 1 0]) (by rw [h];simp [never,hget]);simp only [RepObj,Reps,Rep] at this;obtain ⟨b,c,T,fz,_,_,⟨v,r,_,⟨b2,cs,h2,_⟩,_⟩,_⟩:=this;rw [h] at h2;simp [never,hget] at h2
theorem zuF {cx:Cx} {c:Code} {Q:Exit->AS->Prop} {t:List (Nat×(Bool×AV))} {g:Option (List (List AV))} :AW cx c Q ⟨t,never,g⟩:=
 λE a w hs=>(zmm hs rfl).elim
theorem zqk {cx:Cx} {c:Code} {Q:Exit->AS->Prop} {s:AS} (h:AW cx c (λe s=>Q e s\/s.h=never) s):AW cx c Q s:=by
 intro E a w hs;refine wpIn_mono (h E a w hs) ?_;rintro e a1 w1 ⟨E1,s1,hq,hs1,he⟩;rcases hq with hq|hq
 ·exact ⟨E1,s1,hq,hs1,he⟩
 ·exact (zmm hs1 hq).elim
open Classical in
theorem zbk {cx:Cx} {s:AS} {Q:Exit->AS->Prop} {g:Operand} {ps:Array Tmp} {assign body:Code} {f:FuncId} {fs caps:List AV} (fl:Nat) {items:List (List AV)} (Good:List (List AV)->Prop) (I:List (List AV)->AHeap×Option (List (List AV))) (J:Code->AHeap->Option (List (List AV))->Prop)
  (hit:AIter cx.P f fl fs caps [] items (λg h'=>(∀xs,g=some xs->xs=items)/\h'= [])) (hg:s.ev g=(true,.fn (.func f) fs caps)) (hro:cx.ro=none)
  (hfl:∀i,(hget s.h i).isSome->i<fl) (hfc:cx.fl<=fl) (hids:AV.idsL fs++AV.idsL caps= [])
  (hG0:Good []) (hI:leH s.h (I []).1) (hIn:inH (I []).1 (idsH (I []).1)) (hIg:(I []).2=s.g)
  (hlen:∀x∈items,x.length=ps.size) (hps:∀t∈ps.toList,t<cx.nt)
  (hround:∀xs x,(xs++ [x])<+:items->Good xs->∀ (l:Nat) (r1:Rnd cx),AW (cx.inR l fl r1) assign (AsgK λs1=>∀r2:Rnd cx,AW (cx.inR l fl r2) body (zf (λh' g'=>Good (xs++ [x])/\leH h' (I (xs++ [x])).1/\inH (I (xs++ [x])).1 (idsH (I (xs++ [x])).1)/\g'=(I (xs++ [x])).2) J) s1)
   { t:=zfd ps.toList x (keepT (I xs).1 s.t),h:=(I xs).1,g:=(I xs).2 })
  (hdone:Good items->Q .normal { t:=keepT (I items).1 s.t,h:=(I items).1,g:=(I items).2 })
  (hstop:∀c h3 g3,J c h3 g3->AW cx c Q { t:=keepT h3 s.t,h:=h3,g:=g3 }):
  AW cx (.rangeFunc g ps assign body) Q s:=by
 refine zqk (zr2 fl (λxs=>if Good xs then I xs else (never,none)) J hit hg hro hfl hfc hids ?_ ?_ ?_ hlen hps ?_ ?_ ?_)
 ·simp only [if_pos hG0];exact hI
 ·simp only [if_pos hG0];exact hIn
 ·simp only [if_pos hG0];exact hIg
 ·intro xs x hp l r1;by_cases hgd:Good xs
  ·simp only [if_pos hgd];refine (hround xs x hp hgd l r1).mono ?_;intro e s1 h1;cases e with
   | normal=>
    intro r2;refine (h1 r2).mono ?_;intro e2 s2 h2;cases e2 with
    |normal=>
     obtain ⟨g1,g2,g3,g4⟩:=h2;simp only [zf,if_pos g1];exact ⟨g2,g3,g4⟩
    |_=>exact h2
   |_=>exact h1
  ·simp only [if_neg hgd];exact zuF
 ·by_cases hgd:Good items
  ·simp only [if_pos hgd];exact .inl (hdone hgd)
  ·simp only [if_neg hgd];exact .inr trivial
 ·intro c h3 g3 hj;exact (hstop c h3 g3 hj).mono λe s h=> .inl h
theorem zcS {α β:Type} {g:α->β} {xs:List β} {x:β} {l:List α} (h:(xs++ [x])<+:l.map g):∃ys q zs,xs=ys.map g/\x=g q/\l=ys++q::zs:=by obtain ⟨r,hr⟩:=h;rw [List.append_assoc,List.singleton_append] at hr;obtain ⟨ys,zs,hl,h1,h2⟩:=List.map_eq_append_iff.1 hr.symm;obtain ⟨q,zs',hz,h3,h4⟩:=List.map_eq_cons_iff.1 h2;exact ⟨ys,q,zs',h1.symm,h3.symm,by rw [hl,hz]⟩
theorem zql {α:Type} {p:α->Bool} {ys zs:List α} {q:α} (h:ys.any p=false) (hq:p q=true):(ys++q::zs).find? p=some q:=by rw [List.find?_append,List.find?_eq_none.2 (λx hx=>by simpa using List.any_eq_false.1 h x hx),List.find?_cons,hq];rfl
theorem zfq {cx:Cx} {c:Code} {Q:Exit->AS->Prop} {s:AS} (h:AW cx c (λe s=>Q e { t:= [],h:= [],g:=s.g }) s):AW cx c Q s:=by
 intro E a w hs;refine wpIn_mono (h E a w hs) ?_;rintro e a1 w1 ⟨E1,s1,hq,hs1,he⟩;have hno:∀b,¬Own E1 [] b:=λb ⟨i,hi,_⟩=>by simp [hget] at hi
 refine ⟨E1, { t:= [],h:= [],g:=s1.g },hq,⟨λk g v hk=>by simp [lk] at hk,hs1.nt,⟨λi o ho=>by simp [hget] at ho,λi j b hi=>by simp [hget] at hi,λb hb=>absurd hb (hno b),hs1.hp.mlt,hs1.hp.nlt⟩,hs1.base,hs1.marks,?_⟩,
  ⟨he.os,he.tape,he.output,he.size,he.keep,λb hb=>absurd hb (hno b),he.m1,he.m2,he.n,λi _ h=>by simp [hget] at h⟩⟩
 exact cx.stab _ _ _ _ _ w1 _ (λ_ _ _=>rfl) (λb hb=> .inl (hb.elim (λh=>absurd h (hno b)) .inr)) (λb hb=>hb.elim (λh=>absurd h (hno b)) hs1.marks.lt) (Nat.le_refl _) rfl rfl rfl hs1.ghost
end Go.Aw
