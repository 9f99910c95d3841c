/-
  Parts of the proof: AwLin, AwOne, AwScope, AwSt, AwRng, AwPeek, AwConv (short names; the readable texts lie in the repo, under wip).
-/
import Derived.Test.YtbmlikkofegdeaaGreatDoorPart16
import Derived.Test.YtbmlikkofegdeaaGreatDoorPart15
import Derived.ScopeJumps
import Derived.KernelRfl
import Derived.Test.YtbmlikkofegdeaaGreatDoorPart14
set_option maxRecDepth 100000
set_option maxHeartbeats 2000000
set_option linter.unusedSimpArgs false
set_option linter.unusedVariables false
namespace Go.Aw
open Go
def rdy (L:List Bool) (o:Oper):Bool:=o.after.toList.all fun e=> !Region.binds .any e||L.getD e.on false
def zjs (f:Nat→Oper→Prop) (L:List Bool):Nat→List Oper→Prop
 |_,[]=>True
 |i,o::r=>(if (!(L.getD i false)&&rdy L o)=true then f i o else True)∧zjs f L (i+1) r
def anyR (L:List Bool):Nat→List Oper→Bool
 |_,[]=>false
 |i,o::r=>(!(L.getD i false)&&rdy L o)||anyR L (i+1) r
abbrev Hot:=FuncId→List AV→AHeap→Option (AV×AHeap)
def HotOk (P:Program) (fl:Nat) (hot:Hot):Prop:=∀f args h r h',hot f args h=some (r,h')→∀K:AV→AHeap→Prop,K r h'→ACallAt P fl f args h K
def noHot:Hot:=fun _ _ _=>none
theorem zsE (P:Program) (fl:Nat):HotOk P fl noHot:=fun _ _ _ _ _ h=>by cases h
open Classical in
noncomputable def hotOf (hot:Hot) (f:FuncId) (args:List AV) (h:AHeap) (r:AV) (h':AHeap):Hot:=fun f' args' h1=>if ((f':Nat)==(f:Nat))=true then (if args'=args∧h1=h then some (r,h') else none) else hot f' args' h1
theorem zsF {P:Program} {fl:Nat} {hot:Hot} (hk:HotOk P fl hot) {f:FuncId} {args:List AV} {h:AHeap} {r:AV} {h':AHeap} (hc:∀K:AV→AHeap→Prop,K r h'→ACallAt P fl f args h K):HotOk P fl (hotOf hot f args h r h'):=by
 intro f1 args1 h1 r1 h1' he K hK
 unfold hotOf at he
 split at he
 ·rename_i hq
  have hq:f1=f:=by simpa using hq
  subst hq
  split at he
  ·rename_i hq
   obtain ⟨rfl,rfl⟩:=hq
   cases he
   exact hc K hK
  ·cases he
 ·exact hk _ _ _ _ _ he K hK
def aopH (cx:Cx) (tab:Tab) (hot:Hot) (G:Bool) (o:Oper) (K:AS→Prop) (s:AS):Prop:=
 match o.op with
 | .call c=>(match za3 cx.P s c with
  |some (f,args,vc)=>(match hot f args s.h with
   |some (r,h2)=>isVal cx.P (.call c)=false∧G=true∧dstOk cx.nt o.dst∧vc∧K ({ s with h:=h2 }.put o.dst true r)
   |none=>aopY cx tab G o K s)
  |none=>aopY cx tab G o K s)
 |_=>aopY cx tab G o K s
def linY (cx:Cx) (tab:Tab) (hot:Hot) (all:Array Oper) (lst:List Oper) (K:AS→Prop):Nat→List Bool→AS→Prop
 |0,_,s=>K s
 | n+1,L,s=>anyR L 0 lst=true∧zjs (fun i o=>match za4 s all o.guard with
   |some G=>aopH cx tab hot G o (linY cx tab hot all lst K n (L.set i true)) s
   |none=>False) L 0 lst
section
variable {cx : Cx} {tab : Tab} {hot : Hot} {ops : Array Oper} {K : AS → Prop}
theorem zuG (ht:TabOk cx.P tab) (hh:HotOk cx.P cx.fl hot) {E:Env} {s:AS} {a:Act} {w:World} {all:Array Oper} {o:Oper} {G:Bool} {K:AS→Prop} {Q:Exit→Act→World→Prop} (hs:Sat cx E s a w) (hg:za4 s all o.guard=some G) (h:aopH cx tab hot G o K s):
  if Region.wanted o (yielded all a.tmps) then o.wpIn cx.F 0 cx.P a w (Reach cx E s.h w K) Q else (∀f,o.about cx.P w a.eval=some f→cx.F.fn f)∧Reach cx E s.h w K (a.put o.dst undef) w:=by
 unfold aopH at h
 split at h
 ·rename_i c hop
  split at h
  ·rename_i f args vc hco
   split at h
   ·rename_i r h2 hhot
    obtain ⟨h1,rfl,h3,h4,h5⟩:=h
    refine ziH hs hg ⟨h3,?_⟩
    rw [hop]
    dsimp only
    rw [if_neg (by rw [h1];simp)]
    refine ⟨fun _=>?_,fun e=>by cases e⟩
    unfold aop1
    rw [hop]
    dsimp only
    rw [if_neg (by rw [h1];simp),hco]
    exact ⟨h4,hh _ _ _ _ _ hhot _ h5⟩
   ·exact zjk ht hs hg h
  ·exact zjk ht hs hg h
 ·exact zjk ht hs hg h
theorem zgG {F:Fence} {n:Nat} {P:Program} {md:Region.Mode} {Q Q':Exit→Act→World→Prop} (hq:∀a w,Q .normal a w→Q' .normal a w) (hf:∀i K a w,wpOpIn F n P ops Q i K a w→wpOpIn F n P ops Q' i K a w):∀ (fuel:Nat) (listed:Array Bool) (a:Act) (w:World),wpAnyIn F n P md ops Q fuel listed a w→wpAnyIn F n P md ops Q' fuel listed a w
 |0,listed,a,w,h=>⟨h.1,hq _ _ h.2⟩
 |fuel+1,listed,a,w,h=>⟨fun hr=>hq _ _ (h.1 hr),fun i hi=>hf _ _ _ _ (wpOpIn_mono (fun a w=>zgG hq hf fuel _ a w) (h.2 i hi))⟩
theorem zoy {f:Nat→Oper→Prop} {L:List Bool} (l:List Oper):∀ (k i:Nat) (o:Oper),zjs f L k l→l[i]?=some o→L.getD (k+i) false=false→rdy L o=true→f (k+i) o:=by
 induction l with
 |nil=>intro k i o h hi;simp at hi
 | cons x r ih=>
  intro k i o h hi h1 h2
  cases i with
  | zero=>
   simp only [List.getElem?_cons_zero,Option.some.injEq] at hi
   subst hi
   have h3:=h.1
   have hc:(!(L.getD k false)&&rdy L x)=true:=by
    have:L.getD k false=false:=h1
    rw [this,h2];rfl
   rw [if_pos hc] at h3
   exact h3
  |succ i=>
   have hi':r[i]?=some o:=by rw [← hi,List.getElem?_cons_succ]
   have:=ih (k+1) i o h.2 hi' (by rw [← h1];congr 1;omega) h2
   rwa [show k+1+i=k+(i+1) by omega] at this
theorem zqn {L:List Bool} :∀ (l:List Oper) (k:Nat),anyR L k l=true→∃i o,l[i]?=some o∧L.getD (k+i) false=false∧rdy L o=true
 | [],k,h=>by cases h
 | x::r,k,h=>by
  simp only [anyR,Bool.or_eq_true,Bool.and_eq_true,Bool.not_eq_true'] at h
  rcases h with ⟨h1,h2⟩|h
  ·exact ⟨0,x,rfl,h1,h2⟩
  ·obtain ⟨i,o,h1,h2,h3⟩:=zqn r (k+1) h
   exact ⟨i+1,o,by simpa using h1,by rw [← h2];congr 1;omega,h3⟩
theorem zd0 (l:Array Bool) (i:Nat) (d:Bool):l.toList.getD i d=l.getD i d:=by
 simp [List.getD_eq_getElem?_getD,Array.getD_eq_getD_getElem?]
theorem zqo (ht:TabOk cx.P tab) (hh:HotOk cx.P cx.fl hot):∀ (n:Nat) (listed:Array Bool) {s:AS} {E:Env} {a:Act} {w:World},listed.size=ops.size→listed.toList.countP (fun b=>b==false)=n→Sat cx E s a w→linY cx tab hot ops ops.toList K n listed.toList s→
  wpAnyIn cx.F 0 cx.P .any ops (fun e a' w'=>e= .normal∧Reach cx E s.h w K a' w') n listed a w
 | 0,listed,s,E,a,w,hsz,hc,hs,h=>by
  refine ⟨?_,rfl,zfe hs h⟩
  cases hr:Region.ready .any ops listed with
  |nil=>rfl
  |cons i l=>
   have hi:i∈Region.ready .any ops listed:=by rw [hr];simp
   obtain ⟨h1,o,h2,_⟩:=mem_ready.1 hi
   have hlt:i<ops.size:=(Array.getElem?_eq_some_iff.1 h2).1
   have h0:=List.countP_eq_zero.1 hc (listed[i]'(by omega)) (by simp)
   rw [Array.getD_eq_getD_getElem?,Array.getElem?_eq_getElem (by omega)] at h1
   simp only [Option.getD_some] at h1
   rw [h1] at h0
   simp at h0
 | n + 1,listed,s,E,a,w,hsz,hc,hs,h=>by
  obtain ⟨hany,halt⟩:=h
  refine ⟨fun hr=>?_,fun i hi=>?_⟩
  ·exfalso
   obtain ⟨i,o,h1,h2,h3⟩:=zqn _ _ hany
   rw [Nat.zero_add,zd0] at h2
   have hlt:i<ops.size:=(Array.getElem?_eq_some_iff.1 (by simpa using h1)).1
   have:i∈Region.ready .any ops listed:=mem_ready.2 ⟨by
    rw [Array.getD_eq_getD_getElem?,Array.getElem?_eq_getElem (by omega)] at h2 ⊢
    simpa using h2,o,by simpa using h1,fun e he hb=>by
    have:=List.all_eq_true.1 h3 e (by simpa using he)
    rw [hb,zd0] at this
    simpa using this⟩
   rw [hr] at this
   cases this
  ·obtain ⟨h1,o,h2,h3⟩:=mem_ready.1 hi
   have hlt:i<ops.size:=(Array.getElem?_eq_some_iff.1 h2).1
   have hl:listed[i]?=some false:=by
    rw [Array.getD_eq_getD_getElem?,Array.getElem?_eq_getElem (by omega)] at h1
    rw [Array.getElem?_eq_getElem (by omega)]
    simpa using h1
   have hst:=zoy ops.toList 0 i o halt (by simpa using h2) (by rw [Nat.zero_add,zd0,Array.getD_eq_getD_getElem?,hl];rfl) (by
    unfold rdy
    refine List.all_eq_true.2 fun e he=>?_
    rw [zd0]
    cases hb:Region.binds .any e with
    |true=>simpa using h3 e (by simpa using he) hb
    |false=>rfl)
   rw [Nat.zero_add] at hst
   split at hst
   ·rename_i G hg
    have hcnt:(listed.setIfInBounds i true).toList.countP (fun b=>b==false)=n:=zhk listed i n hl hc
    have hlist:(listed.setIfInBounds i true).toList=listed.toList.set i true:=Array.toList_setIfInBounds ..
    have:=zuG ht hh (Q:=fun _ _ _=>False) hs hg hst
    have next:∀a1 w1,Reach cx E s.h w (linY cx tab hot ops ops.toList K n (listed.toList.set i true)) a1 w1→
      wpAnyIn cx.F 0 cx.P .any ops (fun e a' w'=>e= .normal∧Reach cx E s.h w K a' w') n (listed.setIfInBounds i true) a1 w1:=by
     rintro a1 w1 ⟨E1,s1,hk,hs1,he1⟩
     rw [← hlist] at hk
     have ih:=zqo ht hh n (listed.setIfInBounds i true) (by simpa using hsz) hcnt hs1 hk
     refine zgG (fun a w h=>⟨rfl,h.2.trans he1⟩) (fun i K a w h=>?_) _ _ _ _ ih
     unfold wpOpIn at h ⊢
     split at h
     ·exact h
     ·split at h
      ·rename_i hw
       rw [if_pos hw]
       exact zhg h (fun _ _ h=>h) (fun e a w h=>⟨h.1,h.2.trans he1⟩)
      ·rename_i hw
       rw [if_neg hw]
       exact h
    unfold wpOpIn
    rw [h2]
    dsimp only
    split at this
    ·rename_i hw
     rw [if_pos hw]
     exact zbh this next
    ·rename_i hw
     rw [if_neg hw]
     exact ⟨this.1,next _ _ this.2⟩
   ·exact hst.elim
theorem zjt {s:AS} {id:Nat} {Q:Exit→AS→Prop} (tab:Tab) (hot:Hot) (ht:TabOk cx.P tab) (hh:HotOk cx.P cx.fl hot) (hm:cx.P.follows .mixedOrders=true) (h:linY cx tab hot ops ops.toList (Q .normal) ops.size (List.replicate ops.size false) s):AW cx (.region id ops true) Q s:=by
 intro E a w hs
 have hs':=hs.drawn
 have hev:Evo cx.fl E s.h w E s.h { w with drawn:=w.drawn+1 } :=⟨rfl,rfl,rfl,Nat.le_refl _,fun _ _ _ _=>rfl,fun _ h=> .inl h,fun _ h=>h,fun _ h=> .inl h,rfl,fun i _ h=>⟨h,GoesOn.refl E _ i⟩⟩
 refine wpIn_mono (wpIn_region_any hm (zqo ht hh ops.size (Array.replicate ops.size false) (by simp) (by rw [Array.toList_replicate,List.countP_replicate];rfl) hs' (by rw [Array.toList_replicate];exact h))) ?_
 rintro e a' w' ⟨rfl,hr⟩
 exact hr.trans hev
end
attribute [go_sem] linY zjs anyR rdy Region.binds aopH noHot hotOf
open Go
theorem ACall.one {P:Program} {f:FuncId} {args:List AV} {fl fl' i:Nat} {ob:AObj} {h h2:AHeap} {R:AV→AObj→Prop} (hc:ACall P f fl args [(i,ob)] (fun r h'=>∃ob',h'= [(i,ob')]∧R r ob'))
  (h1:hsel (fun j=>decide (j=i)||decide (fl≤j)) h= [(i,ob)]) (h2e:hsel (fun j=> !(decide (j=i)||decide (fl≤j))) h=h2) (hfl:∀i,(hget h i).isSome→i<fl) (hg:hget h i=some ob)
  (hcl:∀j∈ob.ids,j=i) (ha:∀j∈AV.idsL args,j=i) (hle:fl'≤fl):ACallAt P fl' f args h (fun r h'=>∃ob',R r ob'∧h'=(i,ob')::h2):=by
 have hi:i<fl:=hfl i (by simp [hg])
 have :=ACall.frame (P:=P) (f:=f) (args:=args) (fl:=fl) (fl':=fl') (h:=h) (p:=fun j=>decide (j=i)||decide (fl≤j)) (K:=fun r h'=>∃ob',h'= [(i,ob')]∧R r ob') (by rw [h1];exact hc) hfl (fun j hj=>by simp;exact .inr hj)
  (fun j o ho hp k hk=>by
   have hj:=hfl j (by simp [ho])
   have:j=i:=by
    have:j=i∨fl≤j:=by simpa using hp
    omega
   subst this
   rw [hg] at ho;cases ho
   simp [hcl k hk]) (fun j hj=>by simp [ha j hj]) hle (fun r h' ⟨ob',he,_⟩=>by
    subst he
    refine ⟨fun j hj hp=>?_,fun j hj=>?_⟩
    ·have hjl:=hfl j hj
     have:j=i:=by
      have:j=i∨fl≤j:=by simpa using hp
      omega
     subst this
     simp [hget]
    ·simp only [hget] at hj
     split at hj
     ·rename_i e;simp [e]
     ·simp at hj)
 refine this.mono ?_
 rintro r h' ⟨h1',⟨ob',rfl,hR⟩,rfl⟩
 rw [h2e]
 exact ⟨ob',hR,rfl⟩
theorem znP:∀ {h:AHeap} {i:Nat} {o:AObj},hget h i=some o→(i,o)∈h
  | [],i,o,hg=>by simp [hget] at hg
  | (k,x)::r,i,o,hg=>by
    simp only [hget] at hg
    split at hg
    · rename_i e;subst e;cases hg;exact List.mem_cons_self ..
    · exact List.mem_cons_of_mem _ (znP hg)
theorem zR {P:Program} {f:FuncId} {args:List AV} {fl:Nat} {h:AHeap} {K:AV→AHeap→Prop} (p:Nat→Bool) (hc:ACall P f fl args h (fun r h'=>(hsel p h').all (fun q=>q.2.ids.all p)=true∧r.ids.all p=true∧K r (hsel p h'))):ACall P f fl args h K:=by
 refine ⟨hc.1,fun E w vs hs hr=>(hc.2 E w vs hs hr).mono ?_⟩
 rintro e w' ⟨v,E',r,h',h1,⟨h2,h3,h4⟩,h5,h6,h7⟩
 have hcl:zfz p h':=fun i o ho hp j hj=>by
  have hg:hget (hsel p h') i=some o:=by rw [zx,if_pos hp];exact ho
  have:=List.all_eq_true.1 h2 _ (znP hg)
  exact List.all_eq_true.1 this j hj
 refine ⟨v,E',r,hsel p h',h1,h4,zl5 h5 hcl,zp7 (fun j hj=>List.all_eq_true.1 h3 j hj) h6,?_⟩
 refine ⟨h7.os,h7.tape,h7.output,h7.size,h7.keep,fun b ho=>h7.own b (zW ho),h7.m,h7.n,fun i hi hl=>?_⟩
 rw [zx] at hl
 by_cases hp:p i=true
 ·rw [if_pos hp] at hl
  obtain ⟨g1,g2⟩:=h7.go i hi hl
  exact ⟨g1,g2.trans (zeL i hp)⟩
 ·rw [if_neg hp] at hl
  cases hl
attribute [go_sem] AObj.ids List.all_nil List.all_cons List.all_append
open Go
section
variable {F : Fence} {n : Nat} {P : Program} {Q : Exit → Act → World → Prop} {a : Act} {w : World}
theorem zce {b:Frame} {k:List Item} {cs:List Frame} {c:Code} :step P (lone (b.atR a (.code (.scope c)::k)) cs w)= .next (lone (b.atR a (.code c:: .inScope c::k)) cs w):=
 step_lone_go (by simp [stepG,stepG.exec,Frame.atR])
theorem zju {b:Frame} {k:List Item} {cs:List Frame} {c:Code} :step P (lone (b.atR a (.inScope c::k)) cs w)= .next (lone (b.atR a k) cs w):=
 step_lone_go (by simp [stepG,stepG.exec,Frame.atR])
theorem zfh {c:Code} (h:c.wpIn F n P (Exit.noGoto Q) a w):(Code.scope c).wpIn F n P Q a w:=by
 intro b k cs hro hb hr
 have h0:(lone (b.atR a (.code (.scope c)::k)) cs w).fenced P F:=fenced_calm hb hr rfl
 obtain ⟨e,a₁,w₁,hq,harr⟩:=h b (.inScope c::k) cs hro hb hr
 cases e with
 |normal=>exact ⟨.normal,a₁,w₁,hq,.head h0 zce (StepsIn.trans harr (.one (fenced_calm hb hr rfl) zju))⟩
 | exit id=>
  have hx:exitTo id (.inScope c::k)=exitTo id k:=by simp [exitTo]
  exact ⟨.exit id,a₁,w₁,hq,fun k' hk=> .head h0 zce (harr.1 k' (by rw [hx];exact hk)),
   fun hr' hk=>let ⟨k₁,h1,h2⟩:=harr.2 hr' (by rw [hx];exact hk);⟨k₁,h1,.head h0 zce h2⟩⟩
 |goto l=>exact hq.elim
 |ret=>exact ⟨_,a₁,w₁,hq,.of_steps (.one h0 zce) harr⟩
 |panic ch=>exact ⟨_,a₁,w₁,hq,.of_steps (.one h0 zce) harr⟩
 |outgrown=>exact ⟨_,a₁,w₁,hq,.of_steps (.one h0 zce) harr⟩
end
def zud (Q:Exit→AS→Prop):Exit→AS→Prop
 | .goto _,_=>False
 |e,s=>Q e s
attribute [go_sem] zud
theorem zjv {cx:Cx} {Q:Exit→AS→Prop} {s:AS} {c:Code} (h:AW cx c (zud Q) s):AW cx (.scope c) Q s:=by
 intro E a w hs
 refine zfh (wpIn_mono (h E a w hs) ?_)
 intro e a1 w1 hr
 cases e with
 |goto l=>obtain ⟨_,_,h,_⟩:=hr;exact h
 |_=>exact hr
open Go
theorem sa {P Q:Prop} (h:Q) (t:Q→P:=by first|exact zg _ ‹TabOk _ _› |exact zba _ [] ‹TabOk _ _› mx):P:=t h
theorem sb {P Q:Prop} (h:Q) (t:Q→P:=by first|exact zao _ ‹TabOk _ _› |exact zdS|exact zdT|exact ze4|exact zi9|exact zbn _ [] ‹TabOk _ _› mx):P:=t h
theorem sc {P Q:Prop} (h:Q) (t:Q→P:=by first|exact zaV|exact zjv|exact zhn rfl|exact zho rfl):P:=t h
theorem le0 {P:Prop} (t:P:=by simp only [AS.le,leT,leH,zj,AsgK,AV.le,AV.leL,AObj.le,inH,idsT,idsH,AV.ids,AV.idsL,AV.idsR,AObj.ids,lk,hget,go_sem,aeq,aeq.aeqF,simprocAttr]):P:=t
theorem le1 {P:Prop} (t:P:=by simp only [AS.le,leT,leH,zj,AsgK,AV.le,AV.leL,AObj.le,inH,idsT,idsH,AV.ids,AV.idsL,AV.idsR,AObj.ids,lk,hget,go_sem,aeq,aeq.aeqF,simprocAttr]<;>and_intros<;>rfl):P:=t
theorem lew {P:Prop} (t:P:=by simp only [AS.le,leT,leH,zj,AsgK,AV.le,AV.leL,AObj.le,inH,idsT,idsH,AV.ids,AV.idsL,AV.idsR,AObj.ids,lk,hget,go_sem,aeq,aeq.aeqF,simprocAttr,hwi]):P:=t
theorem lev {P:Prop} (t:P:=by simp only [AS.le,leT,leH,zj,AsgK,AV.le,AV.leL,AObj.le,inH,idsT,idsH,AV.ids,AV.idsL,AV.idsR,AObj.ids,lk,hget,go_sem,aeq,aeq.aeqF,simprocAttr,hwi]<;>and_intros<;>rfl):P:=t
def fxd (n:Nat):Nat:=n
theorem fx:fxd 0=0:=rfl
theorem tk {P:Program} :TabOk P noTab:=zb P
theorem eqmp {A Q:Prop} (h:Q) (e:A=Q):A:=e ▸ h
section
variable {P : Prop} {cx : Cx} {y : Code} {Q : Exit → AS → Prop} {R : (AS → Prop) → Prop}
theorem wa (h:∀K:AS→Prop,(∀s',AW cx y Q s'→K s')→R K) (t:(∀K:AS→Prop,(∀s',AW cx y Q s'→K s')→R K)→P:=by
  intro h
  first
  |((first|refine zg _ tk (fun K hK=>eqmp (h K hK) ?_)|refine zba _ [] tk mx (fun K hK=>eqmp (h K hK) ?_));simp only [go_sem,aeq,aeq.aeqF,simprocAttr,fx];rfl)
  |exact zaD h):P:=t h
theorem xa (h:∀K:AS→Prop,(∀s',AW cx y Q s'→K s')→R K) (t:(∀K:AS→Prop,(∀s',AW cx y Q s'→K s')→R K)→P:=by
  intro h
  first
  |((first|refine zih _ tk (fun K hK=>eqmp (h K hK) ?_)|refine zba _ [] tk mx (fun K hK=>eqmp (h K hK) ?_));simp only [go_sem,aeq,aeq.aeqF,simprocAttr,fx];rfl)
  |exact zaD h):P:=t h
end
theorem wb {P Q:Prop} (h:Q) (t:Q→P:=by
  intro h
  first
  |((first|refine zao _ tk (eqmp h ?_)|refine zdS (eqmp h ?_)|refine zdT (eqmp h ?_)|refine ze4 (eqmp h ?_)|refine zi9 (eqmp h ?_)|refine zbn _ [] tk mx (eqmp h ?_));simp only [go_sem,aeq,aeq.aeqF,simprocAttr,fx];rfl)
  |exact zaV h|exact zjv h|exact zhn rfl h|exact zho rfl h):P:=t h
theorem xb {P Q:Prop} (h:Q) (t:Q→P:=by
  intro h
  first
  |((first|refine ziL _ tk (eqmp h ?_)|refine zdS (eqmp h ?_)|refine zdT (eqmp h ?_)|refine ze4 (eqmp h ?_)|refine zi9 (eqmp h ?_)|refine zbn _ [] tk mx (eqmp h ?_));simp only [go_sem,aeq,aeq.aeqF,simprocAttr,fx];rfl)
  |exact zaV h|exact zjv h|exact zhn rfl h|exact zho rfl h):P:=t h
theorem wd {a b:Bool} {Q:Prop} (h:a=b→Q):a=b→Q:=h
theorem wn {R Y:Bool→Prop} (h:∀nb:Bool,(nb=true→R nb)→Y nb):∀nb:Bool,(nb=true→R nb)→Y nb:=h
@[go_sem] theorem cxY_fl {P:Program} {items:List (List AV)} (base nt fl:Nat) (y:Yo P items):(cxY P base nt fl y).fl=fl:=rfl
theorem zuH {cx:Cx} {Q:Exit→AS→Prop} {s:AS} (hin:inH (hsel (fun i=>decide (i<cx.fl)) s.h) (idsH (hsel (fun i=>decide (i<cx.fl)) s.h))) (h:Q .ret { t:=keepT (hsel (fun i=>decide (i<cx.fl)) s.h) s.t,h:=hsel (fun i=>decide (i<cx.fl)) s.h,g:=s.g }):AW cx .ret Q s:=zuC _ hin (ze4 h)
theorem xk {P Q:Prop} (h:Q) (t:Q→P:=by
  intro h
  refine zuH (by simp only [inH,idsH,hsel,AV.ids,AV.idsL,AV.idsR,AObj.ids,hget,go_sem,aeq,aeq.aeqF,simprocAttr]) (eqmp h ?_)
  simp only [go_sem,aeq,aeq.aeqF,simprocAttr,fx,hsel,keepT]
  rfl):P:=t h
theorem wl {P Q:Prop} (h:Q) (t:Q→P:=by
  intro h
  (first|refine (show AS.le _ _ from eqmp h ?_)|refine (show leH _ _ from eqmp h ?_)|refine (show inH _ _ from eqmp h ?_))
  simp only [AS.le,leT,leH,zj,AsgK,AV.le,AV.leL,AObj.le,inH,idsT,idsH,AV.ids,AV.idsL,AV.idsR,AObj.ids,lk,hget,go_sem,aeq,aeq.aeqF,simprocAttr,fx]
  rfl):P:=t h
theorem wc {P Q R:Prop} (h:Q) (g:R) (t:Q→R→P:=by first|with_reducible exact And.intro|exact za5 rfl):P:=t h g
theorem we {P:Prop} (t:P:=by first|with_reducible exact True.intro|((refine (show zdb _ _=true from ?_));kernel_rfl)|((refine (show zub _ _=true from ?_));kernel_rfl)|omega|assumption):P:=t
section
variable {P : Program}
theorem bod {f:FuncId} {fn:Func} {c:Code} {nt fl:Nat} {args:List AV} {h:AHeap} {K:AV→AHeap→Prop} (hf:P.funcs[f]?=some fn) (hnt:fn.ntmps=nt)
  (haw:∀base,AW (cxOf P base nt fl) c (RetK P fn K) { t:=zaW 0 args,h:=h,g:=some [] }) (hb:fn.body=some c:=by rfl) (he:(fn.name== "runtime.NumGoroutine")=false:=by kernel_rfl) (hi:fn.body.isNone=false:=by rfl) (hn:args.length≤nt:=by simp):ACall P f fl args h K:=
 zaI hf hb (zcK hf he hi) hnt hn haw
theorem fbod {f:FuncId} {fn:Func} {c:Code} {nt:Nat} {args:List AV} {r:AV} (hf:P.funcs[f]?=some fn) (hnt:fn.ntmps=nt)
  (haw:∀base,AW (cxOf P base nt 0) c (RetK P fn (fun r' h'=>frz 9 h' r'=r)) { t:=zaW 0 args,h:= [],g:=some [] }) (hb:fn.body=some c:=by rfl) (he:(fn.name== "runtime.NumGoroutine")=false:=by kernel_rfl) (hi:fn.body.isNone=false:=by rfl) (hn:args.length≤nt:=by simp):ACall P f 0 args [] (fun r' _=>r'=r):=
 zhm (zaI hf hb (zcK hf he hi) hnt hn haw)
theorem itr {f:FuncId} {fn:Func} {c:Code} {nt fl:Nat} {pre caps:List AV} {h:AHeap} {items:List (List AV)} {K:Option (List (List AV))→AHeap→Prop} (hf:P.funcs[f]?=some fn) (hnt:fn.ntmps=nt)
  (haw:∀base (y:Yo P items),AW (cxY P base nt fl y) c (IterK K) { t:=zaW 0 (pre++ .fn (.yield y.yl) [] []::caps),h:=h,g:=some [] }) (hb:fn.body=some c:=by rfl) (he:(fn.name== "runtime.NumGoroutine")=false:=by kernel_rfl) (hi:fn.body.isNone=false:=by rfl) (hres:fn.results= #[]:=by rfl) (hn:pre.length+caps.length+1≤nt:=by simp):AIter P f fl pre caps h items K:=
 zjj hf hb (zcK hf he hi) hnt hres hn haw
end
inductive Lo {P:Prop} (h:P):Prop|mk
theorem lo2 {P:Prop} (h:P) (u:Lo h):P:=h
inductive Stp (n:Nat):Prop|mk
theorem zaN (n:Nat):Stp n:= .mk
theorem hdt {cx:Cx} {c:Code} {Q:Exit→AS→Prop} {s:AS} {n:Nat} (st:Stp n) (h:hdR c=some n) (g:AW cx c Q s):AW cx c Q s:=g
theorem zp {a b:Prop} (x:a) (y:b):a∧b:=⟨x,y⟩
theorem zA {a b c:Prop} (x:a) (y:b) (z:c):a∧b∧c:=⟨x,y,z⟩
theorem z8 {a b c d:Prop} (x:a) (y:b) (z:c) (u:d):a∧b∧c∧d:=⟨x,y,z,u⟩
theorem zbQ {a b c d e:Prop} (x:a) (y:b) (z:c) (u:d) (v:e):a∧b∧c∧d∧e:=⟨x,y,z,u,v⟩
theorem zL {a b c d e f:Prop} (x:a) (y:b) (z:c) (u:d) (v:e) (w:f):a∧b∧c∧d∧e∧f:=⟨x,y,z,u,v,w⟩
theorem natC:∀n:Nat,((n:Int)).toNat=n:=Int.toNat_natCast
inductive Ow (l:List FuncId):Prop|mk
theorem ownsL (l:List FuncId):Ow l:= .mk
theorem zhu {cx:Cx} {ops:Array Oper} {s:AS} {id:Nat} {Q:Exit→AS→Prop} (tab:Tab) {l:List FuncId} (_:Ow l) (ht:TabOk cx.P tab) (hm:cx.P.follows .mixedOrders=true) (h:gops cx tab l ops (top cx.fl s.h) ops.toList [] (Q .normal) s):AW cx (.region id ops true) Q s:=zbn tab l ht hm h
theorem zfi {cx:Cx} {ops:Array Oper} {s:AS} {id:Nat} {y:Code} {Q:Exit→AS→Prop} (tab:Tab) {l:List FuncId} (_:Ow l) (ht:TabOk cx.P tab) (hm:cx.P.follows .mixedOrders=true) (h:∀K,(∀s',AW cx y Q s'→K s')→gops cx tab l ops (top cx.fl s.h) ops.toList [] K s):AW cx (.seq (.region id ops true) y) Q s:=zba tab l ht hm h
theorem wao {P:Prop} {cx:Cx} {y:Code} {Q:Exit→AS→Prop} {R:(AS→Prop)→Prop} (h:∀K:AS→Prop,(∀s',AW cx y Q s'→K s')→R K) (t:(∀K:AS→Prop,(∀s',AW cx y Q s'→K s')→R K)→P:=by
  intro h
  refine zfi _ ow tk mx (fun K hK=>eqmp (h K hK) ?_);simp only [go_sem,aeq,aeq.aeqF,simprocAttr,fx];rfl):P:=t h
theorem wbo {P Q:Prop} (h:Q) (t:Q→P:=by
  intro h
  refine zhu _ ow tk mx (eqmp h ?_);simp only [go_sem,aeq,aeq.aeqF,simprocAttr,fx];rfl):P:=t h
section
variable {Q F : Prop} {P : Program} {T : Tab} {l : List FuncId} {n : Nat}
theorem walkW (fx:F) (tk:TabOk P T) (t:F→TabOk P T→Q:=by intro fx tk;repeat' (first|(refine hK _ ?_;clear hK K)|refine wa fun K hK=>?_|refine wb ?_|refine wc ?_ ?_|refine wn fun nb hnb=>?_|exact we|refine wd fun hc=>?_|clear hK K|(clear fx tk;apply_rules (newGoals:= .nonDependentOnly) (maxDepth:=1) only [lo2];constructor))):Q:=t fx tk
theorem walkR (fx:F) (tk:TabOk P T) (t:F→TabOk P T→Q:=by intro fx tk;repeat' (first|(refine hK _ ?_;clear hK K)|refine wa fun K hK=>?_|refine wb ?_|refine wc ?_ ?_|refine wl ?_|refine fun (r2:Rnd _)=>?_|refine wn fun nb hnb=>?_|exact ‹_<+:_› |exact we|refine wd fun hc=>?_|clear hK K|(clear fx tk;apply_rules (newGoals:= .nonDependentOnly) (maxDepth:=1) only [lo2];constructor))):Q:=t fx tk
theorem walkX (fx:F) (tk:TabOk P T) (t:F→TabOk P T→Q:=by intro fx tk;repeat' (first|refine xk ?_|(refine hK _ ?_;clear hK K)|refine xa fun K hK=>?_|refine xb ?_|refine wc ?_ ?_|refine wl ?_|refine fun (r2:Rnd _)=>?_|refine wn fun nb hnb=>?_|exact ‹_<+:_› |exact we|refine wd fun hc=>?_|clear hK K|(clear fx tk;apply_rules (newGoals:= .nonDependentOnly) (maxDepth:=1) only [lo2];constructor))):Q:=t fx tk
theorem zgH (st:Stp n) (fx:F) (tk:TabOk P T) (t:Stp n→F→TabOk P T→Q:=by intro st fx tk;repeat' (first|(refine hdt st rfl ?_;clear fx tk st;apply_rules (newGoals:= .nonDependentOnly) (maxDepth:=1) only [lo2];constructor)|(refine hK _ ?_;clear hK K)|refine wa fun K hK=>?_|refine wb ?_|refine wc ?_ ?_|refine wn fun nb hnb=>?_|exact we|refine wd fun hc=>?_|clear hK K|(clear fx tk st;apply_rules (newGoals:= .nonDependentOnly) (maxDepth:=1) only [lo2];constructor))):Q:=t st fx tk
theorem zhv (st:Stp n) (fx:F) (tk:TabOk P T) (t:Stp n→F→TabOk P T→Q:=by intro st fx tk;repeat' (first|(refine hdt st rfl ?_;clear fx tk st;apply_rules (newGoals:= .nonDependentOnly) (maxDepth:=1) only [lo2];constructor)|(refine hK _ ?_;clear hK K)|refine wa fun K hK=>?_|refine wb ?_|refine wc ?_ ?_|refine wl ?_|refine fun (r2:Rnd _)=>?_|refine wn fun nb hnb=>?_|exact ‹_<+:_› |exact we|refine wd fun hc=>?_|clear hK K|(clear fx tk st;apply_rules (newGoals:= .nonDependentOnly) (maxDepth:=1) only [lo2];constructor))):Q:=t st fx tk
theorem zqp (ow:Ow l) (fx:F) (tk:TabOk P T) (t:Ow l→F→TabOk P T→Q:=by intro ow fx tk;repeat' (first|(refine hK _ ?_;clear hK K)|refine wao fun K hK=>?_|refine wbo ?_|refine wa fun K hK=>?_|refine wb ?_|refine wc ?_ ?_|refine wn fun nb hnb=>?_|exact we|refine wd fun hc=>?_|clear hK K|(clear fx tk ow;apply_rules (newGoals:= .nonDependentOnly) (maxDepth:=1) only [lo2];constructor))):Q:=t ow fx tk
theorem zc (fx:F) (t:F→Q:=by intro fx;repeat' (first|(refine hK _ ?_;clear hK K)|refine wa fun K hK=>?_|refine wb ?_|refine wc ?_ ?_|refine wn fun nb hnb=>?_|exact we|refine wd fun hc=>?_|clear hK K|(clear fx;apply_rules (newGoals:= .nonDependentOnly) (maxDepth:=1) only [lo2];constructor))):Q:=t fx
theorem zdo (fx:F) (t:F→Q:=by intro fx;repeat' (first|(refine hK _ ?_;clear hK K)|refine wa fun K hK=>?_|refine wb ?_|refine wc ?_ ?_|refine wl ?_|refine fun (r2:Rnd _)=>?_|refine wn fun nb hnb=>?_|exact ‹_<+:_› |exact we|refine wd fun hc=>?_|clear hK K|(clear fx;apply_rules (newGoals:= .nonDependentOnly) (maxDepth:=1) only [lo2];constructor))):Q:=t fx
theorem zal (fx:F) (t:F→Q:=by intro fx;repeat' (first|refine xk ?_|(refine hK _ ?_;clear hK K)|refine xa fun K hK=>?_|refine xb ?_|refine wc ?_ ?_|refine wl ?_|refine fun (r2:Rnd _)=>?_|refine wn fun nb hnb=>?_|exact ‹_<+:_› |exact we|refine wd fun hc=>?_|clear hK K|(clear fx;apply_rules (newGoals:= .nonDependentOnly) (maxDepth:=1) only [lo2];constructor))):Q:=t fx
theorem zb0 (st:Stp n) (fx:F) (t:Stp n→F→Q:=by intro st fx;repeat' (first|(refine hdt st rfl ?_;clear fx st;apply_rules (newGoals:= .nonDependentOnly) (maxDepth:=1) only [lo2];constructor)|(refine hK _ ?_;clear hK K)|refine wa fun K hK=>?_|refine wb ?_|refine wc ?_ ?_|refine wn fun nb hnb=>?_|exact we|refine wd fun hc=>?_|clear hK K|(clear fx st;apply_rules (newGoals:= .nonDependentOnly) (maxDepth:=1) only [lo2];constructor))):Q:=t st fx
theorem zqq (st:Stp n) (fx:F) (t:Stp n→F→Q:=by intro st fx;repeat' (first|(refine hdt st rfl ?_;clear fx st;apply_rules (newGoals:= .nonDependentOnly) (maxDepth:=1) only [lo2];constructor)|refine xk ?_|(refine hK _ ?_;clear hK K)|refine xa fun K hK=>?_|refine xb ?_|refine wc ?_ ?_|refine wl ?_|refine fun (r2:Rnd _)=>?_|refine wn fun nb hnb=>?_|exact ‹_<+:_› |exact we|refine wd fun hc=>?_|clear hK K|(clear fx st;apply_rules (newGoals:= .nonDependentOnly) (maxDepth:=1) only [lo2];constructor))):Q:=t st fx
theorem zdz (ow:Ow l) (fx:F) (t:Ow l→F→Q:=by intro ow fx;repeat' (first|(refine hK _ ?_;clear hK K)|refine wao fun K hK=>?_|refine wbo ?_|refine wa fun K hK=>?_|refine wb ?_|refine wc ?_ ?_|refine wn fun nb hnb=>?_|exact we|refine wd fun hc=>?_|clear hK K|(clear fx ow;apply_rules (newGoals:= .nonDependentOnly) (maxDepth:=1) only [lo2];constructor))):Q:=t ow fx
end
open Go
def never:AHeap:= [(0,.var [.vp 1 0])]
theorem zkD {cx:Cx} {E:Env} {s:AS} {a:Act} {w:World} (hs:Sat cx E s a w) (h:s.h=never):False:=by
 have:=hs.hp.heap 0 (.var [.vp 1 0]) (by rw [h];simp [never,hget])
 simp only [RepObj,Reps,Rep] at this
 obtain ⟨b,c,T,fz,_,_,⟨v,r,_,⟨b2,cs,h2,_⟩,_⟩,_⟩:=this
 rw [h] at h2
 simp [never,hget] at h2
theorem zsL {cx:Cx} {c:Code} {Q:Exit→AS→Prop} {t:List (Nat×(Bool×AV))} {g:Option (List (List AV))} :AW cx c Q ⟨t,never,g⟩:=
 fun E a w hs=>(zkD hs rfl).elim
theorem zoF {cx:Cx} {c:Code} {Q:Exit→AS→Prop} {s:AS} (h:AW cx c (fun e s=>Q e s∨s.h=never) s):AW cx c Q s:=by
 intro E a w hs
 refine wpIn_mono (h E a w hs) ?_
 rintro e a1 w1 ⟨E1,s1,hq,hs1,he⟩
 rcases hq with hq|hq
 ·exact ⟨E1,s1,hq,hs1,he⟩
 ·exact (zkD hs1 hq).elim
open Classical in
theorem zcu {cx:Cx} {s:AS} {Q:Exit→AS→Prop} {g:Operand} {ps:Array Tmp} {assign body:Code} {f:FuncId} {fs caps:List AV} (fl:Nat) {items:List (List AV)} (Good:List (List AV)→Prop) (I:List (List AV)→AHeap×Option (List (List AV))) (J:Code→AHeap→Option (List (List AV))→Prop)
  (hit:AIter cx.P f fl fs caps [] items (fun g h'=>(∀xs,g=some xs→xs=items)∧h'= [])) (hg:s.ev g=(true,.fn (.func f) fs caps)) (hro:cx.ro=none)
  (hfl:∀i,(hget s.h i).isSome→i<fl) (hfc:cx.fl≤fl) (hids:AV.idsL fs++AV.idsL caps= [])
  (hG0:Good []) (hI:leH s.h (I []).1) (hIn:inH (I []).1 (idsH (I []).1)) (hIg:(I []).2=s.g)
  (hlen:∀x∈items,x.length=ps.size) (hps:∀t∈ps.toList,t<cx.nt)
  (hround:∀xs x,(xs++ [x])<+:items→Good xs→∀ (l:Nat) (r1:Rnd cx),AW (cx.inR l fl r1) assign (AsgK fun s1=>∀r2:Rnd cx,AW (cx.inR l fl r2) body (zj (fun h' g'=>Good (xs++ [x])∧leH h' (I (xs++ [x])).1∧inH (I (xs++ [x])).1 (idsH (I (xs++ [x])).1)∧g'=(I (xs++ [x])).2) J) s1)
   { t:=zek ps.toList x (keepT (I xs).1 s.t),h:=(I xs).1,g:=(I xs).2 })
  (hdone:Good items→Q .normal { t:=keepT (I items).1 s.t,h:=(I items).1,g:=(I items).2 })
  (hstop:∀c h3 g3,J c h3 g3→AW cx c Q { t:=keepT h3 s.t,h:=h3,g:=g3 }):
  AW cx (.rangeFunc g ps assign body) Q s:=by
 refine zoF (zqi fl (fun xs=>if Good xs then I xs else (never,none)) J hit hg hro hfl hfc hids ?_ ?_ ?_ hlen hps ?_ ?_ ?_)
 ·simp only [if_pos hG0];exact hI
 ·simp only [if_pos hG0];exact hIn
 ·simp only [if_pos hG0];exact hIg
 ·intro xs x hp l r1
  by_cases hgd:Good xs
  ·simp only [if_pos hgd]
   refine (hround xs x hp hgd l r1).mono ?_
   intro e s1 h1
   cases e with
   | normal=>
    intro r2
    refine (h1 r2).mono ?_
    intro e2 s2 h2
    cases e2 with
    |normal=>
     obtain ⟨g1,g2,g3,g4⟩:=h2
     simp only [zj,if_pos g1]
     exact ⟨g2,g3,g4⟩
    |_=>exact h2
   |_=>exact h1
  ·simp only [if_neg hgd]
   exact zsL
 ·by_cases hgd:Good items
  ·simp only [if_pos hgd];exact .inl (hdone hgd)
  ·simp only [if_neg hgd];exact .inr trivial
 ·intro c h3 g3 hj
  exact (hstop c h3 g3 hj).mono fun e s h=> .inl h
theorem zex {α β:Type} {g:α→β} {xs:List β} {x:β} {l:List α} (h:(xs++ [x])<+:l.map g):∃ys q zs,xs=ys.map g∧x=g q∧l=ys++q::zs:=by
 obtain ⟨r,hr⟩:=h
 rw [List.append_assoc,List.singleton_append] at hr
 obtain ⟨ys,zs,hl,h1,h2⟩:=List.map_eq_append_iff.1 hr.symm
 obtain ⟨q,zs',hz,h3,h4⟩:=List.map_eq_cons_iff.1 h2
 exact ⟨ys,q,zs',h1.symm,h3.symm,by rw [hl,hz]⟩
theorem zoG {α:Type} {p:α→Bool} {ys zs:List α} {q:α} (h:ys.any p=false) (hq:p q=true):(ys++q::zs).find? p=some q:=by
 rw [List.find?_append,List.find?_eq_none.2 (fun x hx=>by simpa using List.any_eq_false.1 h x hx),List.find?_cons,hq]
 rfl
theorem zhA {cx:Cx} {c:Code} {Q:Exit→AS→Prop} {s:AS} (h:AW cx c (fun e s=>Q e { t:= [],h:= [],g:=s.g }) s):AW cx c Q s:=by
 intro E a w hs
 refine wpIn_mono (h E a w hs) ?_
 rintro e a1 w1 ⟨E1,s1,hq,hs1,he⟩
 have hno:∀b,¬Own E1 [] b:=fun b ⟨i,hi,_⟩=>by simp [hget] at hi
 refine ⟨E1, { t:= [],h:= [],g:=s1.g },hq,⟨fun k g v hk=>by simp [lk] at hk,hs1.nt,⟨fun i o ho=>by simp [hget] at ho,fun i j b hi=>by simp [hget] at hi,fun b hb=>absurd hb (hno b),hs1.hp.mlt,hs1.hp.nlt⟩,hs1.base,hs1.marks,?_⟩,
  ⟨he.os,he.tape,he.output,he.size,he.keep,fun b hb=>absurd hb (hno b),he.m1,he.m2,he.n,fun i _ h=>by simp [hget] at h⟩⟩
 exact cx.stab _ _ _ _ _ w1 _ (fun _ _ _=>rfl) (fun b hb=> .inl (hb.elim (fun h=>absurd h (hno b)) .inr)) (fun b hb=>hb.elim (fun h=>absurd h (hno b)) hs1.marks.lt) (Nat.le_refl _) rfl rfl rfl hs1.ghost
open Go
def zd3 (v:AV):AV:=if v.scal=true then v else .any
def zstep (cx:Cx) (o:Oper) (s f:AS) (K:AS→AS→Prop):Prop:=
 dstOk cx.nt o.dst∧o.guard=none∧
 match o.op with
 | .move x=>known s x=true∧(s.ev x).1=true∧K (s.put o.dst true ((s.ev x).2.tag cx.P o.type)) (f.put o.dst true (zd3 ((s.ev x).2.tag cx.P o.type)))
 | .assign x=>known s x=true∧(s.ev x).1=true∧K (s.put o.dst true ((s.ev x).2.tag cx.P o.type)) (f.put o.dst true (zd3 ((s.ev x).2.tag cx.P o.type)))
 | .call c=>isVal cx.P (.call c)=true∧(aval cx.P f (.call c)).1∧K (s.put o.dst true (zd3 (aval cx.P f (.call c)).2)) (f.put o.dst true (aval cx.P f (.call c)).2)
 | .load t x=>isVal cx.P (.load t x)=true∧(aval cx.P f (.load t x)).1∧K (s.put o.dst true .any) (f.put o.dst true (aval cx.P f (.load t x)).2)
 |op=>isVal cx.P op=true∧(aval cx.P f op).1∧K (s.put o.dst true (zd3 (aval cx.P f op).2)) (f.put o.dst true (aval cx.P f op).2)
def ziQ (cx:Cx):List Oper→AS→AS→(AS→Prop)→Prop
 | [],s,_,K=>K s
 |o::r,s,f,K=>zstep cx o s f (fun s' f'=>ziQ cx r s' f' K)
section
variable {cx : Cx} {tab : Tab} {E F : Env} {s f : AS} {a : Act} {w : World}
theorem zkN {W W':World} {E E':Env} {h h':AHeap} {v:AV} {x:Value} (hr:Rep W E h v x):Rep W' E' h' (zd3 v) x:=by
 unfold zd3
 split
 ·rename_i hs;exact Rep.scal v x hs hr
 ·simp only [Rep]
theorem zkO {d:Option Nat} {v:AV} {x:Value} (hs:Slots w F f a) (hsz:∀k,d=some k→k<a.tmps.size) (hv:Rep w F f.h v x):Slots w F (f.put d true v) (a.put d x):=by
 cases d with
 |none=>exact hs
 | some d=>
  intro k g u hk
  have hd:=hsz d rfl
  rw [zqh] at hk
  have hh:(f.put (some d) true v).h=f.h:=rfl
  rw [hh]
  split at hk
  ·rename_i e
   simp only [Option.some.injEq] at e
   subst e
   simp only [Option.some.injEq,Prod.mk.injEq] at hk
   obtain ⟨rfl,rfl⟩:=hk
   refine ⟨x,?_,fun _=>hv,fun e=>by cases e⟩
   simp [Act.put,hd]
  ·rename_i e
   have e:¬d=k:=fun h=>e (by rw [h])
   obtain ⟨y,h1,h2,h3⟩:=hs k g u hk
   refine ⟨y,?_,h2,h3⟩
   simpa [Act.put,Array.getElem?_setIfInBounds_ne e] using h1
theorem zs3 {o:Oper} {K:AS→AS→Prop} {Q:Exit→Act→World→Prop} {next:Act→World→Prop} (hs:Sat cx E s a w) (hp:SatH F f.h w) (hf:Slots w F f a) (h:zstep cx o s f K)
  (hn:∀s' f' a',Sat cx E s' a' w→SatH F f'.h w→Slots w F f' a'→s'.h=s.h→K s' f'→next a' w):o.wpIn cx.F 0 cx.P a w next Q:=by
 obtain ⟨hd,hg,h⟩:=h
 have hdst:∀k,o.dst=some k→k<cx.nt:=fun k e=>by rw [e] at hd;exact hd
 have hdst':∀k,o.dst=some k→k<a.tmps.size:=fun k e=>by rw [hs.nt];exact hdst k e
 have hputh:∀ (u:AS) (v:AV),(u.put o.dst true v).h=u.h:=fun u v=>by unfold AS.put;cases o.dst<;>rfl
 have hval:∀u:AV,(u= .any∨u=zd3 (aval cx.P f o.op).2)→isVal cx.P o.op=true→(aval cx.P f o.op).1→K (s.put o.dst true u) (f.put o.dst true (aval cx.P f o.op).2)→o.wpIn cx.F 0 cx.P a w next Q:=by
  intro u hu h0 h1 h2
  obtain ⟨v,hv,hr⟩:=zlS hp hf o h1
  refine Does.wpIn (zhf h0) (R:=fun v' w'=>v'=v∧w'=w) (.inl ⟨v,w,hv,rfl,rfl⟩) ?_
  rintro v' w' ⟨rfl,rfl⟩
  refine hn _ _ _ (hs.put hdst (fun _=>?_) (fun e=>by cases e)) (by rw [hputh];exact hp) (zkO hf hdst' hr) (hputh _ _) h2
  rcases hu with rfl|rfl
  ·simp only [Rep]
  ·exact zkN hr
 have hmove:∀x,(execOp a.eval o=pure (.value (a.eval x)))→(∀c,o.op≠ .defer c)→(s.ev x).1=true→K (s.put o.dst true ((s.ev x).2.tag cx.P o.type)) (f.put o.dst true (zd3 ((s.ev x).2.tag cx.P o.type)))→o.wpIn cx.F 0 cx.P a w next Q:=by
  intro x he h3 h1 h2
  refine Does.wpIn h3 (R:=fun v' w'=>v'=a.eval x∧w'=w) (.inl ⟨a.eval x,w,by rw [he];rfl,rfl,rfl⟩) ?_
  rintro v' w' ⟨rfl,rfl⟩
  have hr:=Rep.tag (P:=cx.P) (t:=o.type) (ev_ok hs.slots x h1)
  exact hn _ _ _ (hs.put hdst (fun _=>hr) (fun e=>by cases e)) (by rw [hputh];exact hp) (zkO hf hdst' (zkN hr)) (hputh _ _) h2
 obtain ⟨dst,op,ot,pos,after,guard⟩:=o
 dsimp only at h hval hmove
 split at h
 ·exact hmove _ rfl (by simp) h.2.1 h.2.2
 ·exact hmove _ rfl (by simp) h.2.1 h.2.2
 ·exact hval _ (.inr rfl) h.1 h.2.1 h.2.2
 ·exact hval _ (.inl rfl) h.1 h.2.1 h.2.2
 ·exact hval _ (.inr rfl) h.1 h.2.1 h.2.2
theorem zkP (ht:TabOk cx.P tab) {all:Array Oper} :∀ (l:List Nat) (pre rest:List Oper) {K:AS→Prop} {s f:AS} {a:Act},l.map (all[·]?)=(pre++rest).map some→Sat cx E s a w→SatH F f.h w→Slots w F f a→ziQ cx pre s f (fun s'=>aopsY cx tab all rest K s')→
  wpOpsIn cx.F 0 cx.P all (fun e a' w'=>e= .normal∧Reach cx E s.h w K a' w') l a w
 |l,[],rest,K,s,f,a,hl,hs,_,_,h=>zgZ ht l rest (by simpa using hl) hs h
 | [],o::pre,rest,K,s,f,a,hl,hs,_,_,h=>by simp at hl
 | i::l,o::pre,rest,K,s,f,a,hl,hs,hp,hf,h=>by
  simp only [List.cons_append,List.map_cons,List.cons.injEq] at hl
  obtain ⟨hi,hl⟩:=hl
  simp only [ziQ] at h
  simp only [wpOpsIn,hi]
  have hw:Region.wanted o (yielded all a.tmps)=true:=by
   unfold Region.wanted
   rw [h.2.1]
  rw [if_pos hw]
  refine zs3 hs hp hf h ?_
  intro s' f' a' hs' hp' hf' he hK
  have:=zkP ht l pre rest hl hs' hp' hf' hK
  rw [he] at this
  exact this
theorem zoO {β:Type} {id:Nat} {ops:Array Oper} {Q:Exit→AS→Prop} (tab:Tab) (ht:TabOk cx.P tab) (pre rest:List Oper) (hsp:ops.toList=pre++rest) (f:β→AS)
  (hS:∀g M N A w,cx.G g M N A w→∃F b,SatH F (f b).h w∧∀k g v,lk (f b).t k=some (g,v)→g=true∧∃u,lk s.t k=some (true,.raw u)∧Rep w F (f b).h v u)
  (h:∀b,ziQ cx pre s (f b) (fun s'=>aopsY cx tab ops rest (Q .normal) s')):AW cx (.region id ops false) Q s:=fun E a w hs=>by
 obtain ⟨F,b,hp,hl⟩:=hS _ _ _ _ _ hs.ghost
 refine wpIn_region (zaK _ (zkP (F:=F) ht _ pre rest (by rw [← hsp];exact zhh ops) hs hp (fun k g v hk=>?_) (h b)) (by rintro e a' w' ⟨rfl,hr⟩;exact hr))
 obtain ⟨rfl,u,h1,h2⟩:=hl k g v hk
 obtain ⟨x,h3,h4,_⟩:=hs.slots k true _ h1
 have:=h4 rfl
 simp only [Rep] at this
 subst this
 exact ⟨x,h3,fun _=>h2,fun e=>by cases e⟩
theorem ze9 {β:Type} {id:Nat} {ops:Array Oper} {y:Code} {Q:Exit→AS→Prop} (tab:Tab) (ht:TabOk cx.P tab) (pre rest:List Oper) (hsp:ops.toList=pre++rest) (f:β→AS)
  (hS:∀g M N A w,cx.G g M N A w→∃F b,SatH F (f b).h w∧∀k g v,lk (f b).t k=some (g,v)→g=true∧∃u,lk s.t k=some (true,.raw u)∧Rep w F (f b).h v u)
  (h:∀K,(∀s',AW cx y Q s'→K s')→∀b,ziQ cx pre s (f b) (fun s'=>aopsY cx tab ops rest K s')):AW cx (.seq (.region id ops false) y) Q s:=
 zaD fun K hK=>zoO tab ht pre rest hsp f hS (h K hK)
end
attribute [go_sem] ziQ zstep zd3 List.take_succ_cons List.take_zero List.drop_succ_cons List.drop_zero
theorem zoP {cx:Cx} {s:AS} {Q:Exit→AS→Prop} {g:Operand} {ps:Array Tmp} {assign body:Code} {f:FuncId} {q:Nat} (fl:Nat) {items:List (List AV)} (I:List (List AV)→AHeap×Option (List (List AV)))
  (hg:s.ev g=(true,.fn (.func f) [] [.vp q 0])) (hro:cx.ro=none) (hen:zfy cx.P f)
  (hrun:∀ (y:Yo cx.P items) (v0:Value),(∀g M N A w,y.G g M N A w→∃F xs,SatH F (I xs).1 w∧Rep w F (I xs).1 (.vp q 0) v0)→∀E w,SatH E [] w→y.G (some []) E.M E.N (Own E []) w→
   Calls cx.P f (#[]++ #[Value.func (.yield y.yl) #[] #[]]++ #[v0]) w (fun e w'=>∃v E' h' g,e= .returned v∧((∀xs,g=some xs→xs=items)∧h'= [])∧SatH E' h' w'∧Evo fl E [] w E' h' w'∧y.G g E'.M E'.N (Own E' h') w'))
  (hfl:∀i,(hget s.h i).isSome→i<fl) (hfc:cx.fl≤fl) (hq:∃cs,hget s.h q=some (.var cs)) (hqI:∀xs,∃cs,hget (I xs).1 q=some (.var cs))
  (hI:leH s.h (I []).1) (hIn:inH (I []).1 (idsH (I []).1)) (hIg:(I []).2=s.g)
  (hlen:∀x∈items,x.length=ps.size) (hps:∀t∈ps.toList,t<cx.nt)
  (hround:∀xs x,(xs++ [x])<+:items→∀ (l:Nat) (r1:Rnd cx),AW (cx.inR l fl r1) assign (AsgK fun s1=>∀r2:Rnd cx,AW (cx.inR l fl r2) body (zj (fun h' g'=>leH h' (I (xs++ [x])).1∧inH (I (xs++ [x])).1 (idsH (I (xs++ [x])).1)∧g'=(I (xs++ [x])).2) (fun _ _ _=>False)) s1)
   { t:=zek ps.toList x (keepT (I xs).1 s.t),h:=(I xs).1,g:=(I xs).2 })
  (hdone:Q .normal { t:=keepT (I items).1 s.t,h:=(I items).1,g:=(I items).2 }):
  AW cx (.rangeFunc g ps assign body) Q s:=by
 have hs0:hsel (fun _=>false) s.h= []:=by
  induction s.h with
  |nil=>rfl
  |cons a h ih=>simp only [hsel];rw [if_neg (by simp)];exact ih
 have hs1:hsel (fun i=> !(fun _=>false) i) s.h=s.h:=zgY (fun q _=>rfl)
 refine zfA (Kit:=fun g h'=>(∀xs,g=some xs→xs=items)∧h'= []) (items:=items) (fl:=fl) (caps':= [.any]) (fun _=>false) I (fun _ _ _=>False) hro hg (by simp [AV.leL,AV.le]) hen ?_ hfl hfc ?_ ?_ (by rw [hs1];exact hI) hIn hIg (fun _ _ _ _=>rfl) (fun _ _ _ h=>h.elim) ?_ hlen hps hround ?_ ?_
 ·intro E0 w0 pf qc h0 hpf hqc
  have hpf':pf= #[]:=by simp only [Reps] at hpf;simpa using hpf
  subst hpf'
  simp only [Reps] at hqc
  obtain ⟨v0,r,hv0,hr0,hr⟩:=hqc
  subst hr
  have hqc':qc= #[v0]:=by
   apply Array.ext'
   simpa using hv0
  subst hqc'
  refine ⟨fun w=>∃F xs,SatH F (I xs).1 w∧Rep w F (I xs).1 (.vp q 0) v0,?_,?_,fun _ _ _ h=>h.elim⟩
  ·intro y hy E w hsE _ _ hG
   rw [hs0] at hsE hG ⊢
   exact hrun y v0 hy E w hsE hG
  ·intro xs E w hsE hgo
   refine ⟨E,xs,hsE,?_⟩
   obtain ⟨cs,hc⟩:=hqI xs
   obtain ⟨cs0,hc0⟩:=hq
   have hgq:=hgo q (hfl q (by rw [hc0];rfl)) (by rw [hc];rfl)
   simp only [Rep] at hr0 ⊢
   obtain ⟨b,cs',h1,h2,h3⟩:=hr0
   unfold GoesOn at hgq
   rw [hc0] at hgq
   exact ⟨b,cs,hc,hgq.1.trans h2,h3⟩
 ·intro i o _ h;cases h
 ·intro j hj;simp [AV.idsL,AV.ids] at hj
 ·rintro g h' ⟨h1,rfl⟩
  exact ⟨fun i hi=>by simp [hget] at hi,h1⟩
 ·rintro h1 ⟨_,rfl⟩
  exact hdone
 ·exact fun _ _ _ _ _ h=>h.elim
open Go
end Go.Aw
