/-
 Parts of the proof: lemmas.
-/
import Derived.Test.YtgldbfelccddbaaGreatPart4
import Derived.OrdersIn
set_option maxRecDepth 100000
set_option maxHeartbeats 2000000
set_option linter.unusedSimpArgs false
set_option linter.unusedVariables false
namespace Go.Aw
open Go
structure Yo (P:Program) (items:List (List AV)) where
 yl:Nat
 G:Option (List (List AV))→(Nat→Prop)→(Nat→Prop)→(Nat→Prop)→World→Prop
 stab:∀g M N A A' w w',(∀b,b<w.heap.size→¬A b→w'.heap[b]?=w.heap[b]?)→(∀b,A' b→A b∨w.heap.size≤b)→(∀b,A' b→b<w'.heap.size)→w.heap.size≤w'.heap.size→w'.tape=w.tape→w'.os=w.os→w'.output=w.output→G g M N A w→G g M N A' w'
 yok:∀xs x X M N A w (vs:Array Value),G (some xs) M N A w→(∀b,M b∨N b∨A b→X b)→Reps w (bare X) [] x vs.toList→(xs++ [x])<+:items→
  zj9 P yl vs w (fun e w'=>∃b M',e= .returned (.bool b)∧w'.os=w.os∧w'.tape=w.tape∧w'.output=w.output∧w.heap.size≤w'.heap.size∧(∀k,k<w.heap.size→¬M k→w'.heap[k]?=w.heap[k]?)∧
   (∀k,M k→M' k)∧(∀k,M' k→M k∨(w.heap.size≤k∧k<w'.heap.size))∧G (if b=true then some (xs++ [x]) else none) M' N A w')
def cxY (P:Program) {items:List (List AV)} (base nt fl:Nat) (y:Yo P items) (rq:Bool:=false):Cx:= { P:=P,ro:=none,base:=base,nt:=nt,fl:=fl,rq:=rq,G:=y.G,stab:=y.stab,yl:=y.yl,items:=items,yok:=y.yok }
def AIter (P:Program) (f:FuncId) (fl:Nat) (pre caps:List AV) (h:AHeap) (items:List (List AV)) (K:Option (List (List AV))→AHeap→Prop):Prop:=
 zdG P f∧∀ (y:Yo P items) E w (us vs:Array Value),SatH E h w→Reps w E h pre us.toList→Reps w E h caps vs.toList→y.G (some []) E.M E.N (Own E h) w→
  Calls P f (us++ #[Value.func (.yield y.yl) #[] #[]]++vs) w (fun e w'=>∃v E' h' g,e= .returned v∧K g h'∧SatH E' h' w'∧Evo fl E h w E' h' w'∧y.G g E'.M E'.N (Own E' h') w')
def IterK (K:Option (List (List AV))→AHeap→Prop):Exit→AS→Prop
 | .normal,s=>K s.g s.h
 | .ret,s=>K s.g s.h
 |_,_=>False
section
variable {P : Program}
theorem zh8 {rq:Bool} {f:FuncId} {fn:Func} {c:Code} {nt fl:Nat} {pre caps:List AV} {h:AHeap} {items:List (List AV)} {K:Option (List (List AV))→AHeap→Prop} (hf:P.funcs[f]?=some fn) (hb:fn.body=some c) (hnt:fn.ntmps=nt) (hres:fn.results= #[]) (hn:pre.length+caps.length+1≤nt) (y:Yo P items)
  (haw:∀base,AW (cxY P base nt fl y rq) c (IterK K) { t:=zaG 0 (pre++ .fn (.yield y.yl) [] []::caps),h:=h,g:=some [] }) {E:Env} {w:World} {us vs:Array Value} (hs:SatH E h w) (hp:Reps w E h pre us.toList) (hc:Reps w E h caps vs.toList) (hG:y.G (some []) E.M E.N (Own E h) w):
  Calls P f (us++ #[Value.func (.yield y.yl) #[] #[]]++vs) w (fun e w'=>∃v E' h' g,e= .returned v∧K g h'∧SatH E' h' w'∧Evo fl E h w E' h' w'∧y.G g E'.M E'.N (Own E' h') w'):=by
 refine (callsIn_wide (n:=0)).1 (callsIn_of_wp_marks hf hb trivial ?_ rfl)
 subst hnt
 have hargs:Reps w E h (pre++ .fn (.yield y.yl) [] []::caps) (us++ #[Value.func (.yield y.yl) #[] #[]]++vs).toList:=by
  simp only [Array.toList_append,List.append_assoc]
  refine hp.append ?_
  simp only [List.singleton_append,Reps]
  exact ⟨_,_,rfl,by simp [Rep,Reps],hc⟩
 have hlen:=Reps.length hargs
 have hsat:Sat (cxY P w.heap.size fn.ntmps fl y rq) E { t:=zaG 0 (pre++ .fn (.yield y.yl) [] []::caps),h:=h,g:=some [] } { tmps:=(us++ #[Value.func (.yield y.yl) #[] #[]]++vs)++Array.replicate (fn.ntmps - (us++ #[Value.func (.yield y.yl) #[] #[]]++vs).size) undef,defers:= [] } w:=by
  refine ⟨fun k g v hk=>?_,?_,hs,⟨Nat.le_refl _,fun _=>rfl⟩,⟨aa,aa⟩,?_⟩
  ·obtain ⟨rfl,_,hv⟩:=zdI _ 0 k hk
   obtain ⟨x,hx,hrx⟩:=Reps.get hargs hv
   have hx':(us++ #[Value.func (.yield y.yl) #[] #[]]++vs)[k]?=some x:=by rw [← Array.getElem?_toList];simpa using hx
   have hk':=(Array.getElem?_eq_some_iff.1 hx').1
   exact ⟨x,cX,fun _=>hrx,fun e=>ai⟩
  ·have:(us++ #[Value.func (.yield y.yl) #[] #[]]++vs).size=pre.length+(caps.length+1):=by
    have:=hlen
    rw [Array.length_toList] at this
    simpa using this
   show (_++Array.replicate _ undef).size=fn.ntmps
   rw [Array.size_append,Array.size_replicate]
   omega
  ·exact y.stab _ _ _ _ _ w _ (fun _ _ _=>rfl) (fun b hb=> .inl (hb.elim id (fun ⟨d,hd,_⟩=>by simp at hd))) (fun b hb=>hb.elim (fun h=>(hs.own b h).1) (fun ⟨d,hd,_⟩=>by simp at hd)) (Nat.le_refl _) rfl rfl rfl hG
 refine wpIn_mono (haw w.heap.size E _ w hsat) ?_
 intro e a2 w2 hr2
 have key:Reach (cxY P w.heap.size fn.ntmps fl y rq) E h w (fun s=>K s.g s.h) a2 w2→LeavesInM Fence.wide 0 P fn a2.tmps (fun e w'=>∃v E' h' g,e= .returned v∧K g h'∧SatH E' h' w'∧Evo fl E h w E' h' w'∧y.G g E'.M E'.N (Own E' h') w') a2.defers .returning w2:=by
  rintro ⟨E2,s2,hK,hs2,he2⟩
  refine zeM a2.defers w2 hs2.marks (fun w3 sh hoth=>?_)
  have hp3:SatH E2 s2.h w3:=hs2.hp.refit sh rfl rfl (fun _ _ h=>h) (fun b hb=>(hs2.hp.own b hb).2) hs2.hp.mlt hs2.hp.nlt
  refine ⟨.tuple #[],by rw [zjr,hres];simp,_,E2,s2.h,s2.g,rfl,hK,hp3,?_,?_⟩
  ·refine ⟨sh.os.trans he2.os,sh.tape.trans he2.tape,sh.output.trans he2.output,by rw [sh.size];exact he2.size,fun b hb ho hm=>(sh.low b hb).trans (he2.keep b hb ho hm),he2.own,he2.m1,he2.m2,he2.n,he2.go⟩
  ·exact y.stab _ _ _ _ _ w2 _ (fun b _ hb=>hoth b (fun hm=>hb (.inr hm))) (fun b hb=> .inl (.inl hb)) (fun b hb=>(hp3.own b hb).1) (by rw [sh.size];exact Nat.le_refl _) sh.tape sh.os sh.output hs2.ghost
 cases e with
 |normal=>exact key hr2
 |ret=>exact key hr2
 |exit id=>obtain ⟨_,_,h,_⟩:=hr2;exact h.elim
 |goto id=>obtain ⟨_,_,h,_⟩:=hr2;exact h.elim
 |panic c=>obtain ⟨_,_,h,_⟩:=hr2;exact h.elim
 |outgrown=>obtain ⟨_,_,h,_⟩:=hr2;exact h.elim
theorem zky {f:FuncId} {fn:Func} {c:Code} {nt fl:Nat} {pre caps:List AV} {h:AHeap} {items:List (List AV)} {K:Option (List (List AV))→AHeap→Prop} (hf:P.funcs[f]?=some fn) (hb:fn.body=some c) (hen:zdG P f) (hnt:fn.ntmps=nt) (hres:fn.results= #[]) (hn:pre.length+caps.length+1≤nt)
  (haw:∀base (y:Yo P items),AW (cxY P base nt fl y) c (IterK K) { t:=zaG 0 (pre++ .fn (.yield y.yl) [] []::caps),h:=h,g:=some [] }):AIter P f fl pre caps h items K:=
 ⟨hen,fun y _ _ _ _ hs hp hc hG=>zh8 hf hb hnt hres hn y (fun base=>haw base y) hs hp hc hG⟩
end
def zgU (P:Program) (s:AS) (c:Call):Option (Nat×List AV×Prop):=
 match c.callee with
 | .value f=>match s.ev f with
  |(g,.fn (.yield l) [] [])=>some (l,((c.args.toList.zip (c.argTypes.toList++List.replicate c.args.size 0)).map fun p=>(s.ev p.1).2.tag P p.2),g=true∧(c.args.toList.all fun x=>(s.ev x).1)=true)
  |_=>none
 |_=>none
def aopY (cx:Cx) (tab:Tab) (G:Bool) (o:Oper) (K:AS→Prop) (s:AS):Prop:=
 match o.op with
 | .call c=>(match zgU cx.P s c with
  |some (l,args,vc)=>dstOk cx.nt o.dst∧(if G=true then vc∧l=cx.yl∧AV.idsL args= []∧(match s.g with
   |some xs=>(xs++ [args])<+:cx.items∧K ({ s with g:=some (xs++ [args]) }.put o.dst true (.d (.bool true)))∧K ({ s with g:=none }.put o.dst true (.d (.bool false)))
   |none=>False) else K (s.put o.dst false (.d (.bool false))))
  |none=>aopT cx tab G o K s)
 |_=>aopT cx tab G o K s
def aopsY (cx:Cx) (tab:Tab) (all:Array Oper):List Oper→(AS→Prop)→AS→Prop
 | [],K,s=>K s
 |o::r,K,s=>match za3 s all o.guard with
  |some G=>aopY cx tab G o (aopsY cx tab all r K) s
  |none=>False
section
variable {cx : Cx} {tab : Tab} {E : Env} {s : AS} {a : Act} {w : World}
theorem znK {ro:Option Nat} {P:Program} {l:Nat} {f:FuncId} {tmps:Array Value} {assign body:Code} {w:World} {R:Ending→World→Prop} (n:Nat) (h:RoundIn Fence.wide n P l f tmps assign body w R):RoundIn { Fence.wide with round:=ro } n P l f tmps assign body w R:=h
theorem zu8 {o:Oper} {c:Call} (hop:o.op= .call c) {l:Nat} {args:List AV} {vc:Prop} (hy:zgU cx.P s c=some (l,args,vc)) {K:AS→Prop} {Q:Exit→Act→World→Prop} (hs:Sat cx E s a w) (hd:dstOk cx.nt o.dst) (hvc:vc) (hl:l=cx.yl) (hids:AV.idsL args= [])
    {xs:List (List AV)} (hg:s.g=some xs) (hpre:(xs++ [args])<+:cx.items) (k1:K ({ s with g:=some (xs++ [args]) }.put o.dst true (.d (.bool true)))) (k2:K ({ s with g:=none }.put o.dst true (.d (.bool false)))):
    o.wpIn cx.F 0 cx.P a w (Reach cx E s.h w K) Q:=by
  obtain ⟨dst,op,ot,pos,after,guard⟩:=o
  dsimp only at hop hd k1 k2
  subst hop
  obtain ⟨callee,cargs,ctypes⟩:=c
  have hdst:∀k,dst=some k→k<cx.nt:=fun k e=>bm
  cases callee with
  |invoke r m=>simp [zgU] at hy
  |builtin b=>simp [zgU] at hy
  | value fo=>
    simp only [zgU] at hy
    split at hy
    case h_2=>cases hy
    case h_1 g n hef=>
      simp only [Option.some.injEq,Prod.mk.injEq] at hy
      obtain ⟨rfl,rfl,rfl⟩:=hy
      obtain ⟨hgd,hall⟩:=hvc
      subst hl
      have hf:=ev_ok hs.slots fo (by rw [hef];exact hgd)
      rw [hef] at hf
      simp only [Rep] at hf
      obtain ⟨pf,qc,hfv,hfs,hcs⟩:=hf
      have hpf:pf= #[]:=by simp only [Reps] at hfs;simpa using hfs
      have hqc:qc= #[]:=by simp only [Reps] at hcs;simpa using hcs
      subst hpf hqc
      have hargs:Reps w E s.h ((cargs.toList.zip (ctypes.toList++List.replicate cargs.size 0)).map fun p=>(s.ev p.1).2.tag cx.P p.2) (cargs.map a.eval).toList:=by
        have key:∀ (l:List Operand) (ts:List TypeId),l.length≤ts.length→(l.all fun x=>(s.ev x).1)=true→Reps w E s.h ((l.zip ts).map fun p=>(s.ev p.1).2.tag cx.P p.2) (l.map a.eval):=by
          intro l
          induction l with
          |nil=>intro ts _ _;simp [Reps]
          | cons x l ih=>
            intro ts hl ha
            cases ts with
            |nil=>simp at hl
            | cons t ts=>
              simp only [List.all_cons,Bool.and_eq_true] at ha
              simp only [List.zip_cons_cons,List.map_cons,Reps]
              exact ⟨_,_,rfl,Rep.tag (ev_ok hs.slots x ha.1),ih ts aH ha.2⟩
        rw [Array.toList_map]
        exact key _ _ aa hall
      obtain ⟨X,hX⟩:∃X:Nat→Prop,X=fun b=>Xs E s.h b∨zap a.defers b:=⟨_,rfl⟩
      have hb:Reps w (bare X) [] ((cargs.toList.zip (ctypes.toList++List.replicate cargs.size 0)).map fun p=>(s.ev p.1).2.tag cx.P p.2) (cargs.map a.eval).toList:=by
        refine Reps.stepc (fun b o hc hb hx=>?_) (fun _ _ h _ _=>h) _ _ (by rw [hids];simp) hargs
        rcases hx with ⟨i,hi,_⟩|hx|hx
        · simp [hget] at hi
        · exact hx.elim
        · rw [hX] at hx
          rcases hx with hx|⟨d,hdm,hdt⟩
          · exact hx
          · obtain ⟨r,h1,h2,_⟩:=hs.marks.1 d hdm
            rw [h1] at hdt
            cases hdt
            rw [h2] at hc;cases hc;cases hb
      have hgh:=hs.ghost
      rw [hg] at hgh
      obtain ⟨fn,tmps,assign,body,hrun,hround⟩:=cx.yok xs _ X E.M E.N _ w (cargs.map a.eval) hgh (fun b hb=>by
        rw [hX]
        rcases hb with hb|hb|hb|hb
        · exact .inl (.inr (.inl hb))
        · exact .inl (.inr (.inr hb))
        · exact .inl (.inl hb)
        · exact .inr hb) hb hpre
      refine ⟨fun _ _=>trivial,?_⟩
      rw [Oper.semAt_eq _ _ _ aa]
      have hexec:(execOp a.eval ⟨dst,.call ⟨.value fo,cargs,ctypes⟩,ot,pos,after,guard⟩).run cx.P w= .ok (.round cx.yl fn tmps assign body) w:=by
        simp only [execOp,resolve,hfv,Deferred.ofValue,Sem.run_bind,Sem.run_pure,Result.andThen_ok,invoke]
        have e1:(#[]:Array Value)++cargs.map a.eval=cargs.map a.eval:=aa
        rw [e1]
        exact hrun
      rw [hexec]
      simp only [Oper.uponIn_round]
      refine ⟨(fun h=>aB),?_⟩
      refine (znK _ hround).mono ?_
      rintro e w' ⟨b,M',rfl,q1,q2,q3,q4,q5,q6,q7,q8⟩
      obtain ⟨E',hE'⟩:∃E':Env,E'= { E with M:=M' } :=⟨_,rfl⟩
      have hO:E'.O=E.O:=by rw [hE']
      have hC:E'.C=E.C:=by rw [hE']
      have hM:E'.M=M':=by rw [hE']
      have hN:E'.N=E.N:=by rw [hE']
      have hown:∀k,Own E' s.h k↔Own E s.h k:=fun k=>by unfold Own;rw [hO]
      have hXk:∀k,k<w.heap.size→Xs E' s.h k→Xs E s.h k:=fun k hk hx=>by
        rcases hx with hx|hx|hx
        · exact .inl ((hown k).1 hx)
        · rw [hM] at hx
          rcases q7 k hx with h|h
          · exact .inr (.inl h)
          · omega
        · exact .inr (.inr (by rwa [hN] at hx))
      have hKk:∀k,k<w.heap.size→¬Xs E s.h k→w'.heap[k]?=w.heap[k]?:=fun k hk hx=>q5 k hk (fun hm=>hx (.inr (.inl hm)))
      have hKo:∀k,Own E s.h k→w'.heap[k]?=w.heap[k]?:=fun k ho=>q5 k (hs.hp.own k ho).1 (hs.hp.own k ho).2.1
      have hgo:∀j,GoesOn E s.h E' s.h j:=fun j=>by
        unfold GoesOn
        rw [hO,hC]
        split<;>simp_all
      have hrep:∀x y,Rep w E s.h x y→Rep w' E' s.h x y:=fun x y hxy=>Rep.step hXk hKk x y (fun j _=>hgo j) hxy
      have hp':SatH E' s.h w':=by
        refine ⟨fun i ob ho=>?_,by rw [hO];exact hs.hp.inj,fun k hk=>?_,fun k hk=>?_,fun k hk=>?_⟩
        · have:=hs.hp.heap i ob ho
          have hoi:∀k,E.O i=some k→w'.heap[k]?=w.heap[k]?:=fun k hk=>hKo k ⟨i,aX,hk⟩
          cases ob with
          | var cs=>
            simp only [RepObj,hO] at this ⊢
            obtain ⟨b,c,T,fz,g1,g2,g3,g4⟩:=this
            exact ⟨b,c,T,fz,g1,(hoi b g1).trans g2,Reps.step hXk hKk _ _ (fun j _=>hgo j) g3,g4⟩
          | tvar tt cs=>
            simp only [RepObj,hO] at this ⊢
            obtain ⟨b,c,T,fz,g1,g2,g3,g4⟩:=this
            exact ⟨b,c,T,fz,g1,(hoi b g1).trans g2,Reps.step hXk hKk _ _ (fun j _=>hgo j) g3,g4⟩
          | arr k xs=>
            simp only [RepObj,hO,hC] at this ⊢
            rcases this with g|⟨b,c,T,fz,g1,g2,g3,g4,g5,g6⟩
            · exact .inl g
            · exact .inr ⟨b,c,T,fz,g1,(hoi b g1).trans g2,g3,g4,RepRows.step hXk hKk _ _ _ g5,g6⟩
          | buf tt xs=>
            simp only [RepObj,hO,hC] at this ⊢
            rcases this with g|⟨b,c,T,fz,g1,g2,g3,g4,g5,g6⟩
            · exact .inl g
            · exact .inr ⟨b,c,T,fz,g1,(hoi b g1).trans g2,g3,g4,g5,g6⟩
          | strit l q=>
            simp only [RepObj,hO] at this ⊢
            obtain ⟨b,g1,g2⟩:=this
            exact ⟨b,g1,(hoi b g1).trans g2⟩
          | omap es=>
            simp only [RepObj,hO] at this ⊢
            obtain ⟨b,m,cl,g1,g2,g3⟩:=this
            exact ⟨b,m,cl,g1,(hoi b g1).trans g2,g3⟩
        · have ho:=hs.hp.own k ((hown k).1 hk)
          refine ⟨Nat.lt_of_lt_of_le ho.1 q4,fun hm=>?_,by rw [hN];exact ho.2.2⟩
          rw [hM] at hm
          rcases q7 k hm with h|h
          · exact ho.2.1 h
          · omega
        · rw [hM] at hk
          rcases q7 k hk with h|h
          · exact Nat.lt_of_lt_of_le (hs.hp.mlt k h) q4
          · exact h.2
        · rw [hN] at hk;exact Nat.lt_of_lt_of_le (hs.hp.nlt k hk) q4
      have hev:Evo cx.fl E s.h w E' s.h w':=⟨q1,q2,q3,q4,fun k hk _ hm=>q5 k hk hm,fun k hk=> .inl ((hown k).1 hk),fun k hk=>by rw [hM];exact q6 k hk,fun k hk=>by rw [hM] at hk;exact (q7 k hk).imp id (·.1),hN,fun i _ hi=>⟨hi,hgo i⟩⟩
      have hsat:∀g',cx.G g' M' E.N (fun b=>Own E s.h b∨zap a.defers b) w'→Sat cx E' { s with g:=g' } a w':=fun g' hG=>
        { slots:=fun k gg v hk=>by
            obtain ⟨x,h1,h2,h3⟩:=hs.slots k gg v hk
            exact ⟨x,h1,fun e=>hrep _ _ (h2 e),h3⟩
          nt:=hs.nt
          hp:=hp'
          base:=⟨Nat.le_trans hs.base.1 q4,hs.base.2⟩
          marks:=⟨fun d hd=>by
            obtain ⟨r,h1,h2,h3,h4⟩:=hs.marks.1 d hd
            have hr:=(Array.getElem?_eq_some_iff.1 h2).1
            exact ⟨r,h1,(q5 r hr h4).trans h2,h3,fun hm=>by
              rw [hM] at hm
              rcases q7 r hm with h|h
              · exact h4 h
              · omega⟩,hs.marks.2⟩
          ghost:=by
            rw [hM,hN]
            refine cx.stab _ _ _ _ _ w' _ (fun _ _ _=>rfl) (fun k hk=> .inl (hk.imp (hown k).1 id)) (fun k hk=>hk.elim (fun h=>(hp'.own k h).1) (fun h=>Nat.lt_of_lt_of_le (hs.marks.lt h) q4)) (Nat.le_refl _) rfl rfl rfl hG }
      cases b with
      | true=>
        simp only [if_true] at q8
        have:=hsat _ q8
        exact ⟨E',_,k1,this.put hdst (fun _=>aK) (fun e=>ai),by cases dst<;>exact hev⟩
      | false=>
        simp only [Bool.false_eq_true,if_false] at q8
        have:=hsat _ q8
        exact ⟨E',_,k2,this.put hdst (fun _=>aK) (fun e=>ai),by cases dst<;>exact hev⟩
theorem zxu (ht:TabOk cx.P tab) {all:Array Oper} {o:Oper} {G:Bool} {K:AS→Prop} {Q:Exit→Act→World→Prop} (hs:Sat cx E s a w) (hg:za3 s all o.guard=some G) (h:aopY cx tab G o K s):
  if Region.wanted o (yielded all a.tmps) then o.wpIn cx.F 0 cx.P a w (Reach cx E s.h w K) Q else (∀f,o.about cx.P w a.eval=some f→cx.F.fn f)∧Reach cx E s.h w K (a.put o.dst undef) w:=by
 unfold aopY at h
 split at h
 ·rename_i c hop
  split at h
  ·rename_i l args vc hy
   obtain ⟨hd,h⟩:=h
   rw [zcT hs.slots hg]
   cases G with
   | true=>
    simp only [if_true] at h ⊢
    obtain ⟨h1,h2,h3,h4⟩:=h
    split at h4
    ·rename_i xs hx
     exact zu8 hop hy hs hd h1 h2 h3 hx h4.1 h4.2.1 h4.2.2
    ·exact h4.elim
   |false=>
    simp only [Bool.false_eq_true,if_false] at h ⊢
    exact ⟨fun _ _=>trivial,E,_,h,hs.put (fun k e=>bm) (fun e=>ai) (fun _=>rfl),bS⟩
  ·exact zeN ht hs hg h
 ·exact zeN ht hs hg h
theorem zf3 (ht:TabOk cx.P tab) {all:Array Oper} :∀ (l:List Nat) (ops:List Oper) {K:AS→Prop} {s:AS} {E:Env} {a:Act} {w:World},l.map (all[·]?)=ops.map some→Sat cx E s a w→aopsY cx tab all ops K s→
  wpOpsIn cx.F 0 cx.P all (fun e a' w'=>e= .normal∧Reach cx E s.h w K a' w') l a w
 | [],ops,K,s,E,a,w,hl,hs,h=>by
  have:ops= []:=cJ
  subst this
  exact ⟨rfl,zgI hs h⟩
 |i::l,[],K,s,E,a,w,hl,hs,h=>aW
 | i::l,o::ops,K,s,E,a,w,hl,hs,h=>by
  simp only [List.map_cons,List.cons.injEq] at hl
  obtain ⟨hi,hl⟩:=hl
  simp only [aopsY] at h
  split at h
  ·rename_i G hg
   simp only [wpOpsIn,hi]
   have:=zxu ht (Q:=fun _ _ _=>False) hs hg h
   split at this
   ·rename_i hw
    rw [if_pos hw]
    refine zaR this ?_
    rintro a1 w1 ⟨E1,s1,hk,hs1,he1⟩
    have ih:=zf3 ht l ops hl hs1 hk
    refine zL _ ih ?_
    rintro e a2 w2 ⟨rfl,hr⟩
    exact ⟨rfl,hr.trans he1⟩
   ·rename_i hw
    rw [if_neg hw]
    refine ⟨this.1,?_⟩
    obtain ⟨E1,s1,hk,hs1,he1⟩:=this.2
    have ih:=zf3 ht l ops hl hs1 hk
    refine zL _ ih ?_
    rintro e a2 w2 ⟨rfl,hr⟩
    exact ⟨rfl,hr.trans he1⟩
  ·exact h.elim
theorem zjt {id:Nat} {ops:Array Oper} {Q:Exit→AS→Prop} (tab:Tab) (ht:TabOk cx.P tab) (h:aopsY cx tab ops ops.toList (Q .normal) s):AW cx (.region id ops false) Q s:=fun E a w hs=>
 wpIn_region (zL _ (zf3 ht _ _ (zdo ops) hs h) cu)
theorem zi4 {id:Nat} {ops:Array Oper} {y:Code} {Q:Exit→AS→Prop} (tab:Tab) (ht:TabOk cx.P tab) (h:∀K,(∀s',AW cx y Q s'→K s')→aopsY cx tab ops ops.toList K s):AW cx (.seq (.region id ops false) y) Q s:=
 zbm fun K hK=>zjt tab ht (h K hK)
def keepT (h:AHeap) (t:List (Nat×(Bool×AV))):List (Nat×(Bool×AV)):=t.map fun q=>(q.1,(q.2.1,if (q.2.2.ids.all fun i=>(hget h i).isSome)=true then q.2.2 else .any))
theorem zkz {h:AHeap} :∀ (t:List (Nat×(Bool×AV))) (k:Nat),lk (keepT h t) k=(lk t k).map fun q=>(q.1,if (q.2.ids.all fun i=>(hget h i).isSome)=true then q.2 else .any)
  | [],k=>rfl
  | (j,(g,v))::r,k=>by
    have ih:=zkz (h:=h) r k
    unfold keepT at ih ⊢
    simp only [List.map_cons,lk]
    by_cases e:j=k
    · simp [e]
    · simp only [e,if_false];exact ih
theorem zxv {c:Code} {Q:Exit→AS→Prop} (p:Nat→Bool) (hin:inH (hsel p s.h) (idsH (hsel p s.h))) (h:AW cx c Q { t:=keepT (hsel p s.h) s.t,h:=hsel p s.h,g:=s.g }):AW cx c Q s:=fun E a w hs=>by
  have hcl:Closed p s.h:=fun i o ho hp j hj=>by
    have h1:hget (hsel p s.h) i=some o:=dw
    have:=zeb hin j (ze9 h1 j hj)
    rw [zr] at this
    split at this
    · assumption
    · simp at this
  have hs':Sat cx E { t:=keepT (hsel p s.h) s.t,h:=hsel p s.h,g:=s.g } a w:=
    { slots:=fun k g v hk=>by
        have hk':lk (keepT (hsel p s.h) s.t) k=some (g,v):=hk
        rw [zkz] at hk'
        obtain ⟨q,hq,e⟩:=Option.map_eq_some_iff.1 hk'
        obtain ⟨g',v'⟩:=q
        simp only [Prod.mk.injEq] at e
        obtain ⟨rfl,rfl⟩:=e
        obtain ⟨x,h1,h2,h3⟩:=hs.slots k g' v' hq
        refine ⟨x,h1,fun e=>?_,h3⟩
        split
        · rename_i hall
          refine zsw (fun j hj=>?_) (h2 e)
          have:=List.all_eq_true.1 hall j hj
          rw [zr] at this
          split at this
          · assumption
          · simp at this
        · simp only [Rep]
      nt:=hs.nt
      hp:=zkx hs.hp hcl
      base:=hs.base
      marks:=hs.marks
      ghost:=cx.stab _ _ _ _ _ w _ (fun _ _ _=>rfl) (fun _ hb=> .inl (hb.imp z7 id)) (fun b hb=>hb.elim (fun h=>(hs.hp.own b (z7 h)).1) hs.marks.lt) (Nat.le_refl _) rfl rfl rfl hs.ghost }
  refine wpIn_mono (h E a w hs') (fun _ _ _ hr=>hr.trans ?_)
  exact ⟨rfl,rfl,rfl,Nat.le_refl _,fun _ _ _ _=>rfl,fun b hb=> .inl (z7 hb),fun _ h=>h,fun _ h=> .inl h,rfl,fun j _ hj=>by
    have hj':(hget (hsel p s.h) j).isSome:=hj
    rw [zr] at hj'
    split at hj'
    · rename_i hp
      exact ⟨hj',zfg j hp⟩
    · simp at hj'⟩
end
attribute [go_sem] aopsY aopY zgU cxY IterK keepT
open Go
structure Rnd (cx:Cx) where
 G:Option (List (List AV))→(Nat→Prop)→(Nat→Prop)→(Nat→Prop)→World→Prop
 stab:∀g M N A A' w w',(∀b,b<w.heap.size→¬A b→w'.heap[b]?=w.heap[b]?)→(∀b,A' b→A b∨w.heap.size≤b)→(∀b,A' b→b<w'.heap.size)→w.heap.size≤w'.heap.size→w'.tape=w.tape→w'.os=w.os→w'.output=w.output→G g M N A w→G g M N A' w'
 yok:∀xs x X M N A w (vs:Array Value),G (some xs) M N A w→(∀b,M b∨N b∨A b→X b)→Reps w (bare X) [] x vs.toList→(xs++ [x])<+:cx.items→
  zj9 cx.P cx.yl vs w (fun e w'=>∃b M',e= .returned (.bool b)∧w'.os=w.os∧w'.tape=w.tape∧w'.output=w.output∧w.heap.size≤w'.heap.size∧(∀k,k<w.heap.size→¬M k→w'.heap[k]?=w.heap[k]?)∧
   (∀k,M k→M' k)∧(∀k,M' k→M k∨(w.heap.size≤k∧k<w'.heap.size))∧G (if b=true then some (xs++ [x]) else none) M' N A w')
def Cx.inR (cx:Cx) (l fl:Nat) (r:Rnd cx):Cx:= { P:=cx.P,ro:=some l,base:=cx.base,nt:=cx.nt,fl:=fl,G:=r.G,stab:=r.stab,yl:=cx.yl,items:=cx.items,yok:=r.yok }
def zc6:List Tmp→List AV→List (Nat×(Bool×AV))→List (Nat×(Bool×AV))
 |t::ts,v::vs,r=>zc6 ts vs ((t,(true,v))::r)
 |_,_,r=>r
def zf (Kn:AHeap→Option (List (List AV))→Prop) (J:Code→AHeap→Option (List (List AV))→Prop):Exit→AS→Prop
 | .normal,s=>Kn s.h s.g
 | .ret,s=>J .ret s.h s.g
 | .exit id,s=>J (.exit id) s.h s.g
 | .goto t,s=>J (.goto t) s.h s.g
 |_,_=>False
def AsgK (K:AS→Prop):Exit→AS→Prop
 | .normal,s=>K s
 |_,_=>False
section
variable {cx : Cx} {E : Env} {s : AS} {a : Act} {w : World} {h : AHeap}
theorem zhn {E:Env} {a:Act} {w:World} {h:AHeap} {g:Option (List (List AV))} :∀ (ps:List Tmp) (xs:List AV) (vs:List Value) (t:List (Nat×(Bool×AV))) (tmps:Array Value),ps.length=vs.length→(∀p∈ps,p<tmps.size)→Reps w E h xs vs→Slots w E ⟨t,h,g⟩ { tmps:=tmps,defers:=a.defers } →
  Slots w E ⟨zc6 ps xs t,h,g⟩ { tmps:=(ps.zip vs).foldl (fun (t:Array Value) (q:Tmp×Value)=>t.setIfInBounds q.1 q.2) tmps,defers:=a.defers }
 | [],xs,vs,t,tmps,hl,_,hr,hs=>by
  have:vs= []:=cJ
  subst this
  simpa [zc6] using hs
 |p::ps,[],vs,t,tmps,hl,_,hr,hs=>by
  simp only [Reps] at hr;subst hr;simp at hl
 | p::ps,x::xs,vs,t,tmps,hl,hb,hr,hs=>by
  simp only [Reps] at hr
  obtain ⟨v,r,rfl,h1,h2⟩:=hr
  simp only [List.zip_cons_cons,List.foldl_cons,zc6]
  refine zhn ps xs r _ _ aH (fun q hq=>by simpa using hb q bx) h2 ?_
  intro k g v' hk
  simp only [lk] at hk
  split at hk
  ·rename_i e;subst e
   simp only [Option.some.injEq,Prod.mk.injEq] at hk
   obtain ⟨rfl,rfl⟩:=hk
   exact ⟨v,by simp [hb p aa],fun _=>h1,fun e=>ai⟩
  ·rename_i e
   obtain ⟨y,q1,q2⟩:=hs k g v' hk
   exact ⟨y,by simp only;rw [Array.getElem?_setIfInBounds_ne e];exact q1,q2⟩
theorem SatH.others {E':Env} {w':World} (hs:SatH E h w) (hO:E'.O=E.O) (hC:E'.C=E.C) (hX:∀b,b<w.heap.size→Xs E' h b→Xs E h b) (hK:KIn w w' (Xs E h)) (hown:∀b,Own E h b→w'.heap[b]?=w.heap[b]?) (hsz:w.heap.size≤w'.heap.size)
  (ho:∀b,Own E h b→¬E'.M b∧¬E'.N b) (hm:∀b,E'.M b→b<w'.heap.size) (hn:∀b,E'.N b→b<w'.heap.size):SatH E' h w'∧(∀x v,Rep w E h x v→Rep w' E' h x v):=by
 have hgo:∀j,GoesOn E h E' h j:=fun j=>by
  unfold GoesOn
  rw [hO,hC]
  split<;>simp_all
 have hXc:XIn w (Xs E' h) (Xs E h):=hX_of hX
 refine ⟨⟨fun i o hi=>?_,by rw [hO];exact hs.inj,fun b hb=>?_,hm,hn⟩,fun x v hr=>Rep.stepc hXc hK x v (fun j _=>hgo j) hr⟩
 ·have:=hs.heap i o hi
  have hoi:∀b,E.O i=some b→w'.heap[b]?=w.heap[b]?:=fun b hb=>hown b ⟨i,al,hb⟩
  cases o with
  |var cs=>
   simp only [RepObj,hO] at this ⊢
   obtain ⟨b,c,T,fz,g1,g2,g3,g4⟩:=this
   exact ⟨b,c,T,fz,g1,(hoi b g1).trans g2,Reps.stepc hXc hK _ _ (fun j _=>hgo j) g3,g4⟩
  |tvar tt cs=>
   simp only [RepObj,hO] at this ⊢
   obtain ⟨b,c,T,fz,g1,g2,g3,g4⟩:=this
   exact ⟨b,c,T,fz,g1,(hoi b g1).trans g2,Reps.stepc hXc hK _ _ (fun j _=>hgo j) g3,g4⟩
  |arr k xs=>
   simp only [RepObj,hO,hC] at this ⊢
   rcases this with g|⟨b,c,T,fz,g1,g2,g3,g4,g5,g6⟩
   ·exact .inl g
   ·exact .inr ⟨b,c,T,fz,g1,(hoi b g1).trans g2,g3,g4,RepRows.stepc hXc hK _ _ _ g5,g6⟩
  |buf tt xs=>
   simp only [RepObj,hO,hC] at this ⊢
   rcases this with g|⟨b,c,T,fz,g1,g2,g3,g4,g5,g6⟩
   ·exact .inl g
   ·exact .inr ⟨b,c,T,fz,g1,(hoi b g1).trans g2,g3,g4,g5,g6⟩
  |strit l q=>
   simp only [RepObj,hO] at this ⊢
   obtain ⟨b,g1,g2⟩:=this
   exact ⟨b,g1,(hoi b g1).trans g2⟩
  |omap es=>
   simp only [RepObj,hO] at this ⊢
   obtain ⟨b,m,cl,g1,g2,g3⟩:=this
   exact ⟨b,m,cl,g1,(hoi b g1).trans g2,g3⟩
 ·have hb':Own E h b:=by
   obtain ⟨i,hi,he⟩:=hb
   exact ⟨i,hi,by rw [← hO];exact he⟩
  exact ⟨Nat.lt_of_lt_of_le (hs.own b hb').1 hsz,ho b hb'⟩
structure Far (fl:Nat) (E0:Env) (h0:AHeap) (w0:World) (E:Env) (h:AHeap) (w:World):Prop where
 os:w.os=w0.os
 tape:w.tape=w0.tape
 output:w.output=w0.output
 size:w0.heap.size≤w.heap.size
 keep:∀b,b<w0.heap.size→¬Own E0 h0 b→¬E0.M b→w.heap[b]?=w0.heap[b]?
 own:∀b,Own E h b→Own E0 h0 b∨w0.heap.size≤b
 m1:∀b,E0.M b→E.M b
 m2:∀b,E.M b→E0.M b∨w0.heap.size≤b
 go:∀i,i<fl→(hget h i).isSome→(hget h0 i).isSome∧GoesOn E0 h0 E h i
structure Kept (cx:Cx) (l d fl:Nat) (p:Nat→Bool) (E0:Env) (h0:AHeap) (w0:World) (ds:List Deferred) (M1 N1 A1:Nat→Prop) (E2:Env) (hI:AHeap) (gI:Option (List (List AV))) (w:World):Prop where
 hp:SatH E2 hI w
 names:∀i,(hget hI i).isSome→p i=false
 n1:∀b,N1 b↔E0.N b
 a1:∀b,A1 b→Own E0 (hsel p h0) b∨w0.heap.size+2≤b
 n2:∀b,E2.N b↔E0.N b∨A1 b∨b=l∨b=d
 am:∀b,A1 b→¬E2.M b
 m1:∀b,Own E2 hI b∨E2.M b→M1 b
 ml:M1 l∧M1 d
 far:Far fl E0 h0 w0 E2 hI w
 own0:∀b,Own E2 hI b→Own E0 (hsel (fun i=> !p i) h0) b∨w0.heap.size+2≤b
 m0:∀b,E2.M b→E0.M b∨w0.heap.size+2≤b
 size:w0.heap.size+2≤w.heap.size
 dd:w.heap[d]?=some (.deferred (some []))
 ghost:cx.G gI E2.M E0.N (fun b=>Own E2 hI b∨A1 b∨b=l∨b=d∨zap ds b) w
section
variable {cx : Cx} {l d fl : Nat} {p : Nat → Bool} {E0 : Env} {h0 : AHeap} {w0 : World} {ds : List Deferred}
theorem Far.block {E2:Env} {hI:AHeap} {w:World} (f:Far fl E0 h0 w0 E2 hI w):∀b,b<w0.heap.size→Xs E0 h0 b∨w.heap[b]?=w0.heap[b]?:=fun b hb=>by
 by_cases h1:Own E0 h0 b
 ·exact .inl (.inl h1)
 ·by_cases h2:E0.M b
  ·exact .inl (.inr (.inl h2))
  ·exact .inr (f.keep b hb h1 h2)
theorem Kept.step (hl:l=w0.heap.size+1) (hd:d=w0.heap.size) (hs0:SatH E0 h0 w0) (hmk:∀b,zap ds b→b<w0.heap.size) {M1 N1 A1 A1':Nat→Prop} {E2:Env} {hI:AHeap} {gI:Option (List (List AV))} {w w':World}
  (k:Kept cx l d fl p E0 h0 w0 ds M1 N1 A1 E2 hI gI w) (hk:∀b,b<w.heap.size→¬A1 b→w'.heap[b]?=w.heap[b]?) (hA:∀b,A1' b→A1 b∨w.heap.size≤b) (hAb:∀b,A1' b→b<w'.heap.size) (hsz:w.heap.size≤w'.heap.size) (ht:w'.tape=w.tape) (ho:w'.os=w.os) (hout:w'.output=w.output):
  ∃E2',Kept cx l d fl p E0 h0 w0 ds M1 N1 A1' E2' hI gI w'∧¬A1 l:=by
 have hnl:¬A1 l:=fun h=>by
  rcases k.a1 l h with h|h
  ·have:=(hs0.own l (z7 h)).1;omega
  ·omega
 have hnd:¬A1 d:=fun h=>by
  rcases k.a1 d h with h|h
  ·have:=(hs0.own d (z7 h)).1;omega
  ·omega
 have hsz0:=k.size
 obtain ⟨E2',hE⟩:∃E2':Env,E2'= { E2 with N:=fun b=>E0.N b∨A1' b∨b=l∨b=d } :=⟨_,rfl⟩
 have hO:E2'.O=E2.O:=by rw [hE]
 have hC:E2'.C=E2.C:=by rw [hE]
 have hM:E2'.M=E2.M:=by rw [hE]
 have hN:∀b,E2'.N b↔E0.N b∨A1' b∨b=l∨b=d:=fun b=>by rw [hE]
 have hown:∀b,Own E2' hI b↔Own E2 hI b:=fun b=>by unfold Own;rw [hO]
 have hX:∀b,b<w.heap.size→Xs E2' hI b→Xs E2 hI b:=by
  rintro b hb (hx|hx|hx)
  ·exact .inl ((hown b).1 hx)
  ·exact .inr (.inl (by rwa [hM] at hx))
  ·refine .inr (.inr ((k.n2 b).2 ?_))
   rcases (hN b).1 hx with hx|hx|hx
   ·exact .inl hx
   ·rcases hA b hx with h|h
    ·exact .inr (.inl h)
    ·omega
   ·exact .inr (.inr hx)
 have hnown:∀b,Own E2 hI b→¬A1 b:=fun b hb ha=>(k.hp.own b hb).2.2 ((k.n2 b).2 (.inr (.inl ha)))
 obtain ⟨hp', -⟩:=k.hp.others (E':=E2') (w':=w') hO hC hX (fun b o hc _ hx=>(hk b (Array.getElem?_eq_some_iff.1 hc).1 (fun ha=>hx (.inr (.inr ((k.n2 b).2 (.inr (.inl ha))))))).trans hc) (fun b hb=>hk b (k.hp.own b hb).1 (hnown b hb)) hsz
  (fun b hb=>⟨by rw [hM];exact (k.hp.own b hb).2.1,fun hn=>by
   rcases (hN b).1 hn with hn|hn|hn
   ·exact (k.hp.own b hb).2.2 ((k.n2 b).2 (.inl hn))
   ·rcases hA b hn with h|h
    ·exact hnown b hb h
    ·have:=(k.hp.own b hb).1;omega
   ·exact (k.hp.own b hb).2.2 ((k.n2 b).2 (.inr (.inr hn)))⟩)
  (fun b hb=>Nat.lt_of_lt_of_le (k.hp.mlt b (by rwa [hM] at hb)) hsz)
  (fun b hb=>by
   rcases (hN b).1 hb with hn|hn|hn|hn
   ·exact Nat.lt_of_lt_of_le (hs0.nlt b hn) U
   ·exact hAb b hn
   ·omega
   ·omega)
 refine ⟨E2',⟨hp',k.names,k.n1,fun b hb=>?_,hN,fun b hb hm=>?_,fun b hb=>?_,k.ml,⟨ho.trans k.far.os,ht.trans k.far.tape,hout.trans k.far.output,Nat.le_trans k.far.size hsz,fun b hb h1 h2=>?_,fun b hb=>k.far.own b ((hown b).1 hb),fun b hb=>by rw [hM];exact k.far.m1 b hb,fun b hb=>k.far.m2 b (by rwa [hM] at hb),fun i hi hg=>?_⟩,
  fun b hb=>k.own0 b ((hown b).1 hb),fun b hb=>k.m0 b (by rwa [hM] at hb),U,(hk d U hnd).trans k.dd,?_⟩,hnl⟩
 ·rcases hA b hb with h|h
  ·exact k.a1 b h
  ·exact .inr U
 ·rw [hM] at hm
  rcases hA b hb with h|h
  ·exact k.am b h hm
  ·have:=k.hp.mlt b hm;omega
 ·rw [hM] at hb
  exact k.m1 b (hb.imp (hown b).1 id)
 ·refine (hk b (by have:=k.far.size;omega) (fun ha=>?_)).trans (k.far.keep b hb h1 h2)
  rcases k.a1 b ha with h|h
  ·exact h1 (z7 h)
  ·omega
 ·obtain ⟨g1,g2⟩:=k.far.go i hi hg
  refine ⟨g1,?_⟩
  unfold GoesOn at g2 ⊢
  rw [hO,hC]
  exact g2
 ·rw [hM]
  refine cx.stab _ _ _ _ _ w _ (fun b hb hn=>hk b hb (fun h=>hn (.inr (.inl h)))) (fun b hb=>?_) (fun b hb=>?_) hsz ht ho hout k.ghost
  ·rcases hb with h|h|h
   ·exact .inl (.inl ((hown b).1 h))
   ·rcases hA b h with h|h
    ·exact .inl (.inr (.inl h))
    ·exact .inr h
   ·exact .inl (.inr (.inr h))
  ·rcases hb with h|h|h|h|h
   ·exact (hp'.own b h).1
   ·exact hAb b h
   ·omega
   ·omega
   ·have:=hmk b h;omega
end
def rnd (cx:Cx) (l d:Nat) (N0 Z:Nat→Prop) (rc:Loop) (ds:List Deferred) (hd:Z d) (hl:Z l) (hz:∀b,zap ds b→Z b):Rnd cx where
 G:=fun g M N A w=>cx.G g M N0 (fun b=>A b∨Z b) w∧(∀b,Z b→¬A b∧¬M b∧b<w.heap.size)∧w.heap[l]?=some (.loop rc)∧w.heap[d]?=some (.deferred (some []))∧(∀b,N0 b∨(Z b∧¬zap ds b)→N b)∧(∀b,zap ds b→w.heap[b]?=some (.deferred (some [])))
 stab:=fun g M N A A' w w' hk hA hAb hsz ht ho hout ⟨q1,q2,q3,q4,q5,q6⟩=>by
  have hZ:∀b,Z b→w'.heap[b]?=w.heap[b]?:=fun b hb=>hk b (q2 b hb).2.2 (q2 b hb).1
  refine ⟨cx.stab _ _ _ _ _ w _ (fun b hb hn=>hk b hb (fun h=>hn (.inl h))) (fun b hb=>?_) (fun b hb=>?_) hsz ht ho hout q1,fun b hb=>⟨fun ha=>?_,(q2 b hb).2.1,Nat.lt_of_lt_of_le (q2 b hb).2.2 hsz⟩,(hZ l hl).trans q3,(hZ d hd).trans q4,q5,fun b hb=>(hZ b (hz b hb)).trans (q6 b hb)⟩
  ·rcases hb with h|h
   ·exact (hA b h).imp .inl id
   ·exact .inl (.inr h)
  ·rcases hb with h|h
   ·exact hAb b h
   ·exact Nat.lt_of_lt_of_le (q2 b h).2.2 hsz
  ·rcases hA b ha with h|h
   ·exact (q2 b hb).1 h
   ·have:=(q2 b hb).2.2;omega
 yok :=fun xs x X M N A w vs ⟨q1,q2,q3,q4,q5,q6⟩ hX hr hpre=>by
  obtain ⟨fn,tmps,assign,body,hrun,hround⟩:=cx.yok xs x (fun b=>X b∨zap ds b) M N0 (fun b=>A b∨Z b) w vs q1 (fun b hb=>by
   rcases hb with hb|hb|hb|hb
   ·exact .inl (hX b (.inl hb))
   ·exact .inl (hX b (.inr (.inl (q5 b (.inl hb)))))
   ·exact .inl (hX b (.inr (.inr hb)))
   ·by_cases hm:zap ds b
    ·exact .inr hm
    ·exact .inl (hX b (.inr (.inl (q5 b (.inr ⟨hb,hm⟩)))))) (Reps.stepc (E:=bare X) (E':=bare fun b=>X b∨zap ds b) (h:= []) (h':= []) (fun b o hc hb hx=>by
    rcases hx with ⟨i,hi,_⟩|hx|hx
    ·simp [hget] at hi
    ·exact hx.elim
    ·rcases hx with hx|hx
     ·exact .inr (.inr hx)
     ·rw [q6 b hx] at hc;cases hc;cases hb) (fun _ _ h _ _=>h) _ _ (fun j _=>by simp [GoesOn,hget]) hr) hpre
  refine ⟨fn,tmps,assign,body,hrun,hround.mono ?_⟩
  rintro e w' ⟨b,M',h1,h2,h3,h4,h5,h6,h7,h8,h9⟩
  have hZ:∀b,Z b→w'.heap[b]?=w.heap[b]?:=fun b hb=>h6 b (q2 b hb).2.2 (q2 b hb).2.1
  exact ⟨b,M',h1,h2,h3,h4,h5,h6,h7,h8,h9,fun k hk=>⟨(q2 k hk).1,fun hm=>by
   rcases h8 k hm with h|h
   ·exact (q2 k hk).2.1 h
   ·have:=(q2 k hk).2.2;omega,Nat.lt_of_lt_of_le (q2 k hk).2.2 h5⟩,(hZ l hl).trans q3,(hZ d hd).trans q4,q5,fun k hk=>(hZ k (hz k hk)).trans (q6 k hk)⟩
section
variable {cx : Cx} {s : AS}
def zbA (cx:Cx) (l d fl:Nat) (p:Nat→Bool) (E0:Env) (h0:AHeap) (w0:World) (ds:List Deferred) (I:List (List AV)→AHeap×Option (List (List AV))) (J:Code→AHeap→Option (List (List AV))→Prop) (rec:LoopState→Option Code→Loop)
  (g:Option (List (List AV))) (M1 N1 A1:Nat→Prop) (w:World):Prop:=
 match g with
 |some xs=>∃E2,Kept cx l d fl p E0 h0 w0 ds M1 N1 A1 E2 (I xs).1 (I xs).2 w∧w.heap[l]?=some (.loop (rec .ready none))
 |none=>∃E2 c h3 g3,Kept cx l d fl p E0 h0 w0 ds M1 N1 A1 E2 h3 g3 w∧w.heap[l]?=some (.loop (rec .done (some c)))∧J c h3 g3
theorem zju {E0 E2:Env} {h0 hI:AHeap} {w0 w:World} {a:Act} {t:List (Nat×(Bool×AV))} {g g':Option (List (List AV))} (hs:Slots w0 E0 ⟨t,h0,g⟩ a)
  (hX:XIn w0 (Xs E2 hI) (Xs E0 h0)) (hK:KIn w0 w (Xs E0 h0)) (hgo:∀j,(hget hI j).isSome→GoesOn E0 h0 E2 hI j):
  Slots w E2 ⟨keepT hI t,hI,g'⟩ a:=fun k gg v hk=>by
 have hk':lk (keepT hI t) k=some (gg,v):=hk
 rw [zkz] at hk'
 obtain ⟨q,hq,e⟩:=Option.map_eq_some_iff.1 hk'
 obtain ⟨g1,v1⟩:=q
 simp only [Prod.mk.injEq] at e
 obtain ⟨rfl,rfl⟩:=e
 obtain ⟨x,h1,h2,h3⟩:=hs k g1 v1 hq
 refine ⟨x,h1,fun e=>?_,h3⟩
 split
 ·rename_i hall
  exact Rep.stepc hX hK _ _ (fun j hj=>hgo j (List.all_eq_true.1 hall j hj)) (h2 e)
 ·simp only [Rep]
end
end
open Go
structure EvoL (l fl:Nat) (E:Env) (h:AHeap) (w:World) (E':Env) (h':AHeap) (w':World):Prop where
 os:w'.os=w.os
 tape:w'.tape=w.tape
 output:w'.output=w.output
 size:w.heap.size≤w'.heap.size
 keep:∀b,b<w.heap.size→¬Own E h b→¬E.M b→b≠l→w'.heap[b]?=w.heap[b]?
 own:∀b,Own E' h' b→Own E h b∨w.heap.size≤b
 m1:∀b,E.M b→E'.M b
 m2:∀b,E'.M b→E.M b∨w.heap.size≤b
 n:E'.N=E.N
 go:∀i,i<fl→(hget h' i).isSome→(hget h i).isSome∧GoesOn E h E' h' i
theorem Evo.l {l fl:Nat} {E E':Env} {h h':AHeap} {w w':World} (e:Evo fl E h w E' h' w'):EvoL l fl E h w E' h' w':=
 ⟨e.os,e.tape,e.output,e.size,fun b hb ho hm _=>e.keep b hb ho hm,e.own,e.m1,e.m2,e.n,e.go⟩
theorem EvoL.put {l fl:Nat} {E:Env} {h:AHeap} {w:World} (o:Obj):EvoL l fl E h w E h (w.putObj l o):=
 ⟨rfl,rfl,rfl,aa,fun b _ _ _ hb=>World.putObj_heap_other hb,fun _ h=> .inl h,fun _ h=>h,fun _ h=> .inl h,rfl,fun i _ h=>⟨h,GoesOn.refl E _ i⟩⟩
theorem EvoL.trans {l fl:Nat} {E E' E'':Env} {h h' h'':AHeap} {w w' w'':World} (a:EvoL l fl E h w E' h' w') (b:EvoL l fl E' h' w' E'' h'' w''):EvoL l fl E h w E'' h'' w'' where
 os:=b.os.trans a.os
 tape:=b.tape.trans a.tape
 output:=b.output.trans a.output
 size:=Nat.le_trans a.size b.size
 keep:=fun k hk ho hm hl=>(b.keep k (Nat.lt_of_lt_of_le hk a.size) (fun h=>(a.own k h).elim ho (fun h=>U)) (fun h=>(a.m2 k h).elim hm (fun h=>U)) hl).trans (a.keep k hk ho hm hl)
 own:=fun k h=>(b.own k h).elim (fun h=>a.own k h) (fun h=> .inr (Nat.le_trans a.size h))
 m1:=fun k h=>b.m1 k (a.m1 k h)
 m2:=fun k h=>(b.m2 k h).elim (fun h=>a.m2 k h) (fun h=> .inr (Nat.le_trans a.size h))
 n:=b.n.trans a.n
 go:=fun i hi h=>by
  obtain ⟨h1,g1⟩:=b.go i hi h
  obtain ⟨h2,g2⟩:=a.go i hi h1
  exact ⟨h2,g2.trans g1⟩
section
variable {cx : Cx} {l d fl : Nat} {p : Nat → Bool} {E0 : Env} {h0 : AHeap} {w0 : World} {ds : List Deferred}
theorem Kept.round (hl:l=w0.heap.size+1) (hd:d=w0.heap.size) {M1 N1 A1:Nat→Prop} {E2 E4:Env} {hI h4 h':AHeap} {gI g':Option (List (List AV))} {w w4:World}
  (k:Kept cx l d fl p E0 h0 w0 ds M1 N1 A1 E2 hI gI w) (e:EvoL l fl E2 hI w E4 h4 w4) (hs4:SatH E4 h4 w4) (hs':SatH E4 h' w4) (hown:∀b,Own E4 h' b→Own E4 h4 b) (hgo:∀i,(hget h' i).isSome→(hget h4 i).isSome∧GoesOn E4 h4 E4 h' i) (hn:∀i,(hget h' i).isSome→p i=false) (hdd:w4.heap[d]?=some (.deferred (some [])))
  (hG:cx.G g' E4.M E0.N (fun b=>Own E4 h' b∨A1 b∨b=l∨b=d∨zap ds b) w4):
  Kept cx l d fl p E0 h0 w0 ds (fun b=>M1 b∨(w.heap.size≤b∧b<w4.heap.size)) N1 A1 E4 h' g' w4 where
 hp:=hs'
 names:=hn
 n1:=k.n1
 a1:=k.a1
 n2:=fun b=>by rw [e.n];exact k.n2 b
 am:=fun b hb hm=>by
  have:=k.hp.nlt b ((k.n2 b).2 (.inr (.inl hb)))
  rcases e.m2 b hm with h|h
  ·exact k.am b hb h
  ·omega
 m1:=fun b hb=>by
  rcases hb with hb|hb
  ·rcases e.own b (hown b hb) with h|h
   ·exact .inl (k.m1 b (.inl h))
   ·exact .inr ⟨h,(hs4.own b (hown b hb)).1⟩
  ·rcases e.m2 b hb with h|h
   ·exact .inl (k.m1 b (.inr h))
   ·exact .inr ⟨h,hs4.mlt b hb⟩
 ml:=⟨.inl k.ml.1,.inl k.ml.2⟩
 far:=by
  refine ⟨e.os.trans k.far.os,e.tape.trans k.far.tape,e.output.trans k.far.output,Nat.le_trans k.far.size e.size,fun b hb h1 h2=>?_,fun b hb=>?_,fun b hb=>e.m1 b (k.far.m1 b hb),fun b hb=>?_,fun i hi hg=>?_⟩
  ·refine (e.keep b (Nat.lt_of_lt_of_le hb k.far.size) (fun h=>?_) (fun h=>?_) U).trans (k.far.keep b hb h1 h2)
   ·rcases k.far.own b h with h|h
    ·exact h1 h
    ·omega
   ·rcases k.far.m2 b h with h|h
    ·exact h2 h
    ·omega
  ·rcases e.own b (hown b hb) with h|h
   ·exact k.far.own b h
   ·exact .inr (Nat.le_trans k.far.size h)
  ·rcases e.m2 b hb with h|h
   ·exact k.far.m2 b h
   ·exact .inr (Nat.le_trans k.far.size h)
  ·obtain ⟨hg4,q5⟩:=hgo i hg
   obtain ⟨q1,q2⟩:=e.go i hi hg4
   obtain ⟨q3,q4⟩:=k.far.go i hi q1
   exact ⟨q3,(q4.trans q2).trans q5⟩
 own0:=fun b hb=>by
  rcases e.own b (hown b hb) with h|h
  ·exact k.own0 b h
  ·exact .inr (Nat.le_trans k.size h)
 m0:=fun b hb=>by
  rcases e.m2 b hb with h|h
  ·exact k.m0 b h
  ·exact .inr (Nat.le_trans k.size h)
 size:=Nat.le_trans k.size e.size
 dd:=hdd
 ghost:=hG
theorem znL {cx1 cx2:Cx} {E:Env} {s:AS} {a:Act} {w:World} {l:Nat} {rc:Loop} (o:Obj) (hs:Sat cx1 E s a w) (hl:w.heap[l]?=some (.loop rc)) (hb:cx2.base=cx1.base) (hq:cx2.rq=false) (hn:cx2.nt=cx1.nt)
    (hG:cx2.G s.g E.M E.N (fun b=>Own E s.h b∨zap a.defers b) (w.putObj l o)):Sat cx2 E s a (w.putObj l o):=by
  have hll:=(Array.getElem?_eq_some_iff.1 hl).1
  have hne:∀ (b:Nat) (ob:Obj),w.heap[b]?=some ob→(∀r,ob≠ .loop r)→b≠l:=fun b ob hb ho e=>by
    subst e
    rw [hl] at hb;cases hb
    exact ho _ rfl
  have hown:∀b,Own E s.h b→b≠l:=fun b ⟨i,hi,hb⟩=>by
    obtain ⟨ob,ho⟩:=Option.isSome_iff_exists.1 hi
    have:=hs.hp.heap i ob ho
    cases ob with
    |var cs=>simp only [RepObj] at this;obtain ⟨b',c,T,fz,g1,g2,_⟩:=this;rw [hb] at g1;cases g1;exact hne _ _ g2 aa
    |tvar tt cs=>simp only [RepObj] at this;obtain ⟨b',c,T,fz,g1,g2,_⟩:=this;rw [hb] at g1;cases g1;exact hne _ _ g2 aa
    | arr k xs=>
      simp only [RepObj] at this
      rcases this with ⟨g1,_⟩|⟨b',c,T,fz,g1,g2,_⟩
      · rw [hb] at g1;cases g1
      · rw [hb] at g1;cases g1;exact hne _ _ g2 aa
    | buf tt xs=>
      simp only [RepObj] at this
      rcases this with ⟨g1,_⟩|⟨b',c,T,fz,g1,g2,_⟩
      · rw [hb] at g1;cases g1
      · rw [hb] at g1;cases g1;exact hne _ _ g2 aa
    |strit l' q=>simp only [RepObj] at this;obtain ⟨b',g1,g2⟩:=this;rw [hb] at g1;cases g1;exact hne _ _ g2 aa
    |omap es=>simp only [RepObj] at this;obtain ⟨b',m,cl,g1,g2,_⟩:=this;rw [hb] at g1;cases g1;exact hne _ _ g2 aa
  obtain ⟨hp',hrep⟩:=hs.hp.others (E':=E) (w':=w.putObj l o) rfl rfl (fun _ _ h=>h) (fun b o hc hb _=>(World.putObj_heap_other (hne b _ hc (by rintro r rfl;cases hb))).trans hc) (fun b hb=>World.putObj_heap_other (hown b hb)) aa
    (fun b hb=>(hs.hp.own b hb).2) (fun b hb=>by simpa using hs.hp.mlt b hb) (fun b hb=>by simpa using hs.hp.nlt b hb)
  exact { slots:=fun k g v hk=>by
            obtain ⟨x,h1,h2,h3⟩:=hs.slots k g v hk
            exact ⟨x,h1,fun e=>hrep _ _ (h2 e),h3⟩
          nt:=hs.nt.trans hn.symm
          hp:=hp'
          base:=⟨by rw [hb];simpa using hs.base.1,fun h=>by rw [hq] at h;cases h⟩
          marks:=⟨fun d hd=>by
            obtain ⟨r,h1,h2,h3,h4⟩:=hs.marks.1 d hd
            exact ⟨r,h1,(World.putObj_heap_other (hne r _ h2 aa)).trans h2,by rw [hb];exact h3,h4⟩,hs.marks.2⟩
          ghost:=hG }
def tick:List AV:= [.vp 0 0]
theorem zu9 {w:World} {X:Nat→Prop} {vs:List Value} (h:Reps w (bare X) [] tick vs):False:=by
 simp only [tick,Reps,Rep,hget] at h
 obtain ⟨_,_,_,⟨_,_,h,_⟩,_⟩:=h
 cases h
theorem zsA {s:AS} {a:Act} {ps:Array Tmp} {assign body:Code} {fn:FuncId} {items:List (List AV)} (hl:l=w0.heap.size+1) (hd:d=w0.heap.size) (hs0:Sat cx E0 s a w0)
  (I:List (List AV)→AHeap×Option (List (List AV))) (J:Code→AHeap→Option (List (List AV))→Prop)
  (hnames:∀xs,xs<+:items→∀i,(hget (I xs).1 i).isSome→p i=false) (hJ:∀c h3 g3,J c h3 g3→∀i,(hget h3 i).isSome→p i=false)
  (hlen:∀x∈items,x≠tick→x.length=ps.size) (hps:∀t∈ps.toList,t<cx.nt) (hfl:∀i,(hget s.h i).isSome→i<fl)
  (hround:∀xs x,x≠tick→(xs++ [x])<+:items→∀ (l:Nat) (r1:Rnd cx),AW (cx.inR l fl r1) assign (AsgK fun s1=>∀r2:Rnd cx,AW (cx.inR l fl r2) body (zf (fun h' g'=>leH h' (I (xs++ [x])).1∧inH (I (xs++ [x])).1 (idsH (I (xs++ [x])).1)∧g'=(I (xs++ [x])).2) J) s1)
   { t:=zc6 ps.toList x (keepT (I xs).1 s.t),h:=(I xs).1,g:=(I xs).2 })
  (rec:LoopState→Option Code→Loop) (hrec:rec=fun st pe=> { state:=st,pending:=pe,fn:=fn,tmps:=a.tmps,params:=ps,assign:=assign,body:=body,defers:=d }):
  ∀xs x X M N A w (vs:Array Value),zbA cx l d fl p E0 s.h w0 a.defers I J rec (some xs) M N A w→(∀b,M b∨N b∨A b→X b)→Reps w (bare X) [] x vs.toList→(xs++ [x])<+:items→
  zj9 cx.P l vs w (fun e w'=>∃b M',e= .returned (.bool b)∧w'.os=w.os∧w'.tape=w.tape∧w'.output=w.output∧w.heap.size≤w'.heap.size∧(∀k,k<w.heap.size→¬M k→w'.heap[k]?=w.heap[k]?)∧
   (∀k,M k→M' k)∧(∀k,M' k→M k∨(w.heap.size≤k∧k<w'.heap.size))∧zbA cx l d fl p E0 s.h w0 a.defers I J rec (if b=true then some (xs++ [x]) else none) M' N A w'):=by
 intro xs x X M N A w vs hG hX hr hpre
 have hnt:x≠tick:=fun e=>zu9 (e ▸ hr)
 simp only [zbA] at hG
 obtain ⟨E2,k,hrl⟩:=hG
 have hmk:∀b,zap a.defers b→b<w0.heap.size:=fun b hb=>hs0.marks.lt hb
 have hxin:x∈items:=by
  obtain ⟨t,rfl⟩:=hpre
  simp
 have hxl:=hlen x hxin hnt
 have hvl:vs.size=ps.size:=by
  have:=Reps.length hr
  simp at this;omega
 obtain ⟨Z,hZ⟩:∃Z:Nat→Prop,Z=fun b=>A b∨b=l∨b=d∨zap a.defers b:=⟨_,rfl⟩
 have zd:Z d:=by rw [hZ];exact .inr (.inr (.inl rfl))
 have zl:Z l:=by rw [hZ];exact .inr (.inl rfl)
 have zm:∀b,zap a.defers b→Z b:=fun b hb=>by rw [hZ];exact .inr (.inr (.inr hb))
 have hxpre:xs<+:items:=(List.prefix_append xs [x]).trans hpre
 have hsz:=k.size
 have hmk2:∀b,zap a.defers b→w.heap[b]?=some (.deferred (some [])):=fun b ⟨dd,hdm,hdt⟩=>by
  obtain ⟨r,h1,h2,h3,h4⟩:=hs0.marks.1 dd hdm
  rw [h1] at hdt
  cases hdt
  exact (k.far.keep b (Array.getElem?_eq_some_iff.1 h2).1 (hs0.hp.not_mark h2) h4).trans h2
 have hmM:∀b,zap a.defers b→¬E2.M b:=fun b hb hm=>by
  have hlt:=hmk b hb
  obtain ⟨dd,hdm,hdt⟩:=hb
  obtain ⟨r,h1,h2,h3,h4⟩:=hs0.marks.1 dd hdm
  rw [h1] at hdt
  cases hdt
  rcases k.far.m2 b hm with h|h
  ·exact h4 h
  ·omega
 have hZM:∀b,Z b→¬Own E2 (I xs).1 b∧¬E2.M b∧b<w.heap.size:=fun b hb=>by
  rw [hZ] at hb
  rcases hb with hb|rfl|rfl|hb
  ·have hn:=(k.n2 b).2 (.inr (.inl hb))
   exact ⟨fun ho=>(k.hp.own b ho).2.2 hn,k.am b hb,k.hp.nlt b hn⟩
  ·refine ⟨fun ho=>?_,fun hm=>?_,U⟩
   ·rcases k.own0 _ ho with h|h
    ·have:=(hs0.hp.own _ (z7 h)).1;omega
    ·omega
   ·rcases k.m0 _ hm with h|h
    ·have:=hs0.hp.mlt _ h;omega
    ·omega
  ·refine ⟨fun ho=>?_,fun hm=>?_,U⟩
   ·rcases k.own0 _ ho with h|h
    ·have:=(hs0.hp.own _ (z7 h)).1;omega
    ·omega
   ·rcases k.m0 _ hm with h|h
    ·have:=hs0.hp.mlt _ h;omega
    ·omega
  ·exact ⟨k.hp.not_mark (hmk2 b hb),hmM b hb,(Array.getElem?_eq_some_iff.1 (hmk2 b hb)).1⟩
 have hX0:XIn w0 (Xs E2 (I xs).1) (Xs E0 s.h):=fun b o hc _ hx=>by
  have hb:=(Array.getElem?_eq_some_iff.1 hc).1
  rcases hx with hx|hx|hx
  ·rcases k.far.own b hx with h|h
   ·exact .inl h
   ·omega
  ·rcases k.far.m2 b hx with h|h
   ·exact .inr (.inl h)
   ·omega
  ·rcases (k.n2 b).1 hx with h|h|h|h
   ·exact .inr (.inr h)
   ·rcases k.a1 b h with h|h
    ·exact .inl (z7 h)
    ·omega
   ·omega
   ·omega
 have hK0:KIn w0 w (Xs E0 s.h):=fun b o hc _ hx=>by
  rcases k.far.block b (Array.getElem?_eq_some_iff.1 hc).1 with h|h
  ·exact absurd h hx
  ·exact h.trans hc
 have hgo0:∀j,(hget (I xs).1 j).isSome→GoesOn E0 s.h E2 (I xs).1 j:=fun j hj=>by
  by_cases hj0:(hget s.h j).isSome
  ·exact (k.far.go j (hfl j hj0) hj).2
  ·unfold GoesOn
   split
   ·rename_i cs hh;exact (hj0 aq).elim
   ·rename_i k xs hh;exact (hj0 aq).elim
   ·rename_i l p hh;exact (hj0 aq).elim
   ·rename_i es hh;exact (hj0 aq).elim
   ·rename_i tt cs hh;exact (hj0 aq).elim
   ·rename_i tt cs hh;exact (hj0 aq).elim
   ·trivial
 have hsl0:Slots w E2 ⟨keepT (I xs).1 s.t,(I xs).1,(I xs).2⟩ a:=zju (g:=s.g) hs0.slots hX0 hK0 hgo0
 have hr2:Reps w E2 (I xs).1 x vs.toList:=Reps.stepc (E:=bare X) (h:= []) (fun b o hc hb hx=>by
   refine .inr (.inr ?_)
   rcases hx with hx|hx|hx
   ·exact hX b (.inl (k.m1 b (.inl hx)))
   ·exact hX b (.inl (k.m1 b (.inr hx)))
   ·rcases (k.n2 b).1 hx with h|h|h|h
    ·exact hX b (.inr (.inl ((k.n1 b).2 h)))
    ·exact hX b (.inr (.inr h))
    ·rw [h];exact hX l (.inl k.ml.1)
    ·rw [h];exact hX d (.inl k.ml.2)) (fun _ _ h _ _=>h) _ _ (fun j _=>by simp [GoesOn,hget]) hr
 have hsl:=zhn (a:=a) (g:=(I xs).2) ps.toList x vs.toList (keepT (I xs).1 s.t) a.tmps (by simp [hvl]) (fun t ht=>by have:=hps t ht;rw [hs0.nt];exact this) hr2 hsl0
 obtain ⟨tmps,htm⟩:∃tmps,tmps=(ps.toList.zip vs.toList).foldl (fun (t:Array Value) (q:Tmp×Value)=>t.setIfInBounds q.1 q.2) a.tmps:=⟨_,rfl⟩
 have htm2:(ps.zip vs).foldl (fun (t:Array Value) (x:Tmp×Value)=>match x with|(t',v)=>t.setIfInBounds t' v) a.tmps=tmps:=by
  rw [htm,← Array.foldl_toList,Array.toList_zip]
 have htsz:∀ (l:List (Tmp×Value)) (t:Array Value),(l.foldl (fun (t:Array Value) (q:Tmp×Value)=>t.setIfInBounds q.1 q.2) t).size=t.size:=by
  intro l
  induction l with
  |nil=>intro t;rfl
  |cons q l ih=>intro t;simp only [List.foldl_cons];rw [ih];simp
 have hrun:=run_yield (P:=cx.P) (args:=vs) hrl (by rw [hrec];exact hvl)
 rw [hrec] at hrun
 dsimp only at hrun
 rw [htm2] at hrun
 obtain ⟨r1,hr1⟩:∃r1:Rnd cx,r1=rnd cx l d E0.N Z (rec .ready none) a.defers zd zl zm:=⟨_,rfl⟩
 have hsat1:Sat (cx.inR l fl r1) E2 { t:=zc6 ps.toList x (keepT (I xs).1 s.t),h:=(I xs).1,g:=(I xs).2 } { tmps:=tmps,defers:= [] } w:=by
  refine ⟨fun kk g v hk=>by rw [htm];exact hsl kk g v hk,?_,k.hp,⟨Nat.le_trans hs0.base.1 k.far.size,fun _=>rfl⟩,⟨aa,aa⟩,?_⟩
  ·show tmps.size=cx.nt
   rw [htm,htsz];exact hs0.nt
  ·rw [hr1]
   show cx.G _ _ _ _ _∧_
   refine ⟨?_,fun b hb=>⟨fun ho=>?_,(hZM b hb).2⟩,hrl,k.dd,fun b hb=>?_,hmk2⟩
   ·refine cx.stab _ _ _ _ _ w _ (fun _ _ _=>rfl) (fun b hb=> .inl ?_) (fun b hb=>?_) (Nat.le_refl _) rfl rfl rfl k.ghost
    ·rcases hb with (hb|⟨dd,hdd,_⟩)|hb
     ·exact .inl hb
     ·simp at hdd
     ·rw [hZ] at hb;exact .inr hb
    ·rcases hb with (hb|⟨dd,hdd,_⟩)|hb
     ·exact (k.hp.own b hb).1
     ·simp at hdd
     ·exact (hZM b hb).2.2
   ·rcases ho with ho|⟨dd,hdd,_⟩
    ·exact (hZM b hb).1 ho
    ·simp at hdd
   ·refine (k.n2 b).2 ?_
    rcases hb with hb|⟨hb,hnm⟩
    ·exact .inl hb
    ·rw [hZ] at hb
     rcases hb with hb|hb|hb|hb
     ·exact .inr (.inl hb)
     ·exact .inr (.inr (.inl hb))
     ·exact .inr (.inr (.inr hb))
     ·exact absurd hb hnm
 refine ⟨fn,tmps,assign,body,hrun,roundIn_of_wpIn trivial ?_⟩
 refine wpIn_mono (hround xs x hnt hpre l r1 E2 _ w hsat1) ?_
 intro e a1 w1 hre
 cases e with
 | normal=>
  obtain ⟨E3,s3,hbody,hs3,he3⟩:=hre
  have hg3:=hs3.ghost
  rw [hr1] at hg3
  obtain ⟨q1,q2,q3,q4,q5,q6⟩:=hg3
  have hbr:=run_beginRound (P:=cx.P) q3 (by rw [hrec])
  refine ⟨_,hbr,?_⟩
  obtain ⟨r2,hr2e⟩:∃r2:Rnd cx,r2=rnd cx l d E0.N Z { rec .ready none with state:= .busy } a.defers zd zl zm:=⟨_,rfl⟩
  have hne:∀b,b≠l→(w1.putObj l (.loop { rec .ready none with state:= .busy })).heap[b]?=w1.heap[b]?:=fun b hb=>World.putObj_heap_other hb
  have hdl:d≠l:=U
  have hsat2:Sat (cx.inR l fl r2) E3 s3 a1 (w1.putObj l (.loop { rec .ready none with state:= .busy })):=by
   refine znL _ hs3 q3 rfl rfl rfl ?_
   rw [hr2e]
   refine ⟨cx.stab _ _ _ _ _ w1 _ (fun b _ hb=>hne b (fun e=>hb (by rw [e];exact .inr zl))) (fun b hb=> .inl hb) (fun b hb=>?_) aa rfl rfl rfl q1,fun b hb=>⟨(q2 b hb).1,(q2 b hb).2.1,by simpa using (q2 b hb).2.2⟩,World.putObj_heap_same (Array.getElem?_eq_some_iff.1 q3).1,(hne d hdl).trans q4,q5,fun b hb=>(hne b (fun e=>by
    rw [e] at hb
    have:=hmk _ hb;omega)).trans (q6 b hb)⟩
   rw [World.putObj_size]
   rcases hb with hb|hb
   ·rcases hb with hb|hb
    ·exact (hs3.hp.own b hb).1
    ·exact hs3.marks.lt hb
   ·exact (q2 b hb).2.2
  refine wpIn_mono (hbody r2 E3 a1 _ hsat2) ?_
  have fin:∀ (jump:Option Code) (a4:Act) (w3:World) (E4:Env) (s4:AS),Sat (cx.inR l fl r2) E4 s4 a4 w3→Evo fl E3 s3.h (w1.putObj l (.loop { rec .ready none with state:= .busy })) E4 s4.h w3→
    (∀w4,w4.heap[l]?=some (.loop (rec (if jump.isNone then .ready else .done) jump))→(∀h',SatH E4 h' w4→(∀b,Own E4 h' b→Own E4 s4.h b)→(∀i,(hget h' i).isSome→(hget s4.h i).isSome∧GoesOn E4 s4.h E4 h' i)→(∀i,(hget h' i).isSome→p i=false)→Kept cx l d fl p E0 s.h w0 a.defers (fun b=>M b∨(w.heap.size≤b∧b<w4.heap.size)) N A E4 h' s4.g w4)→SatH E4 s4.h w4→
     zbA cx l d fl p E0 s.h w0 a.defers I J rec (if jump.isNone=true then some (xs++ [x]) else none) (fun b=>M b∨(w.heap.size≤b∧b<w4.heap.size)) N A w4)→
    ∃v w',(Instr.endRound l jump).run cx.P w3= .ok v w'∧(∃b M',(Ending.returned v:Ending)= .returned (.bool b)∧w'.os=w.os∧w'.tape=w.tape∧w'.output=w.output∧w.heap.size≤w'.heap.size∧(∀k,k<w.heap.size→¬M k→w'.heap[k]?=w.heap[k]?)∧
     (∀k,M k→M' k)∧(∀k,M' k→M k∨(w.heap.size≤k∧k<w'.heap.size))∧zbA cx l d fl p E0 s.h w0 a.defers I J rec (if b=true then some (xs++ [x]) else none) M' N A w'):=by
   intro jump a4 w3 E4 s4 hs4 he4 hfin
   have hg4:=hs4.ghost
   rw [hr2e] at hg4
   obtain ⟨t1,t2,t3,t4,t5,t6⟩:=hg4
   have hend:=run_endRound (P:=cx.P) jump t3
   obtain ⟨w4,hw4⟩:∃w4,w4=w3.putObj l (.loop (rec (if jump.isNone then .ready else .done) jump)):=⟨_,rfl⟩
   have hend':(Instr.endRound l jump).run cx.P w3= .ok (.bool jump.isNone) w4:=by
    rw [hend,hw4,hrec]
   have hl4:w4.heap[l]?=some (.loop (rec (if jump.isNone then .ready else .done) jump)):=by rw [hw4];exact World.putObj_heap_same (Array.getElem?_eq_some_iff.1 t3).1
   have hne4:∀b,b≠l→w4.heap[b]?=w3.heap[b]?:=fun b hb=>by rw [hw4];exact World.putObj_heap_other hb
   have hG4:∀h',(∀b,Own E4 h' b→Own E4 s4.h b)→cx.G s4.g E4.M E0.N (fun b=>Own E4 h' b∨A b∨b=l∨b=d∨zap a.defers b) w4:=fun h' hown=>by
    refine cx.stab _ _ _ _ _ w3 _ (fun b _ hb=>hne4 b (fun e=>hb (by rw [e];exact .inr zl))) (fun b hb=> .inl ?_) (fun b hb=>?_) (by rw [hw4];simp) (by rw [hw4];rfl) (by rw [hw4];rfl) (by rw [hw4];rfl) t1
    ·rcases hb with hb|hb
     ·exact .inl (.inl (hown b hb))
     ·exact .inr (by rw [hZ];exact hb)
    ·rw [hw4,World.putObj_size]
     rcases hb with hb|hb
     ·exact (hs4.hp.own b (hown b hb)).1
     ·exact (t2 b (by rw [hZ];exact hb)).2.2
   have hs4':SatH E4 s4.h w4:=by
    rw [hw4]
    exact (znL (cx1:=cx.inR l fl r2) (cx2:=cxOf cx.P cx.base cx.nt fl) _ hs4 t3 rfl rfl rfl trivial).hp
   have hev:EvoL l fl E2 (I xs).1 w E4 s4.h w4:=by
    rw [hw4]
    exact ((he3.l.trans (EvoL.put _)).trans he4.l).trans (EvoL.put _)
   refine ⟨_,w4,hend',jump.isNone,fun b=>M b∨(w.heap.size≤b∧b<w4.heap.size),rfl,hev.os,hev.tape,hev.output,hev.size,fun kk hk hm=>hev.keep kk hk (fun h=>hm (k.m1 kk (.inl h))) (fun h=>hm (k.m1 kk (.inr h))) (fun e=>hm (by rw [e];exact k.ml.1)),fun kk hk=> .inl hk,fun kk hk=>hk,?_⟩
   exact hfin w4 hl4 (fun h' hs' hown hgo hn=>k.round hl hd hev hs4' hs' hown hgo hn ((hne4 d hdl).trans t4) (hG4 h' hown)) hs4'
  rintro e a4 w3 hr4
  cases e with
  | normal=>
   obtain ⟨E4,s4,⟨hle,hin,hgg⟩,hs4,he4⟩:=hr4
   refine fin none a4 w3 E4 s4 hs4 he4 (fun w4 hl4 hk4 hs4'=>?_)
   simp only [Option.isNone_none,if_true,zbA]
   have:=hk4 (I (xs++ [x])).1 (hs4'.le hle hin) (fun b hb=>zhe hle hb) (fun i hg=>⟨by
    obtain ⟨o',ho'⟩:=Option.isSome_iff_exists.1 hg
    obtain ⟨o,ho,_⟩:=zcw hle ho'
    simp [ho],zcQ hle hg⟩) (hnames _ hpre)
   rw [hgg] at this
   exact ⟨E4,this,hl4⟩
  |ret=>
   obtain ⟨E4,s4,hj,hs4,he4⟩:=hr4
   refine fin (some .ret) a4 w3 E4 s4 hs4 he4 (fun w4 hl4 hk4 hs4'=>?_)
   simp only [Option.isNone_some,Bool.false_eq_true,if_false,zbA]
   exact ⟨E4,_,_,_,hk4 s4.h hs4' (fun _ h=>h) (fun i h=>⟨h,GoesOn.refl E4 _ i⟩) (hJ _ _ _ hj),hl4,hj⟩
  |exit id=>
   obtain ⟨E4,s4,hj,hs4,he4⟩:=hr4
   refine fin (some (.exit id)) a4 w3 E4 s4 hs4 he4 (fun w4 hl4 hk4 hs4'=>?_)
   simp only [Option.isNone_some,Bool.false_eq_true,if_false,zbA]
   exact ⟨E4,_,_,_,hk4 s4.h hs4' (fun _ h=>h) (fun i h=>⟨h,GoesOn.refl E4 _ i⟩) (hJ _ _ _ hj),hl4,hj⟩
  |goto id=>
   obtain ⟨E4,s4,hj,hs4,he4⟩:=hr4
   refine fin (some (.goto id)) a4 w3 E4 s4 hs4 he4 (fun w4 hl4 hk4 hs4'=>?_)
   simp only [Option.isNone_some,Bool.false_eq_true,if_false,zbA]
   exact ⟨E4,_,_,_,hk4 s4.h hs4' (fun _ h=>h) (fun i h=>⟨h,GoesOn.refl E4 _ i⟩) (hJ _ _ _ hj),hl4,hj⟩
  |panic ch=>obtain ⟨_,_,h,_⟩:=hr4;exact h.elim
  |outgrown=>obtain ⟨_,_,h,_⟩:=hr4;exact h.elim
 |ret=>obtain ⟨_,_,h,_⟩:=hre;exact h.elim
 |exit id=>obtain ⟨_,_,h,_⟩:=hre;exact h.elim
 |goto id=>obtain ⟨_,_,h,_⟩:=hre;exact h.elim
 |panic ch=>obtain ⟨_,_,h,_⟩:=hre;exact h.elim
 |outgrown=>obtain ⟨_,_,h,_⟩:=hre;exact h.elim
end
open Go
section
variable {cx : Cx} {s : AS} {Q : Exit → AS → Prop}
theorem zf4 {g:Operand} {ps:Array Tmp} {assign body:Code} {f:FuncId} {fs caps caps':List AV} {fl:Nat} {items:List (List AV)} {Kit:Option (List (List AV))→AHeap→Prop} (p:Nat→Bool) (I:List (List AV)→AHeap×Option (List (List AV))) (J:Code→AHeap→Option (List (List AV))→Prop)
    (hro:cx.lone=true) (hg:s.ev g=(true,.fn (.func f) fs caps)) (hcle:AV.leL caps caps') (hen:zdG cx.P f)
    (hit:∀E0 w0 ds rec (pf qc:Array Value),SatH E0 s.h w0→Reps w0 E0 s.h fs pf.toList→Reps w0 E0 s.h caps qc.toList→(∀b,zap ds b→b<w0.heap.size)→
      ∀ y:Yo cx.P items,y.G=zbA cx (w0.heap.size+1) w0.heap.size fl p E0 s.h w0 ds I J rec→∀E w,SatH E (hsel p s.h) w→Reps w E (hsel p s.h) fs pf.toList→Reps w E (hsel p s.h) caps' qc.toList→y.G (some []) E.M E.N (Own E (hsel p s.h)) w→
        Calls cx.P f (pf++ #[Value.func (.yield y.yl) #[] #[]]++qc) w (fun e w'=>∃v E' h' g,e= .returned v∧Kit g h'∧SatH E' h' w'∧Evo fl E (hsel p s.h) w E' h' w'∧y.G g E'.M E'.N (Own E' h') w'))
    (hfl:∀i,(hget s.h i).isSome→i<fl) (hfc:cx.fl≤fl) (hcl:Closed p s.h) (hids:∀j∈AV.idsL fs++AV.idsL caps',p j=true)
    (hI:leH (hsel (fun i=> !p i) s.h) (I []).1) (hIn:inH (I []).1 (idsH (I []).1)) (hIg:(I []).2=s.g)
    (hnames:∀xs,xs<+:items→∀i,(hget (I xs).1 i).isSome→p i=false) (hJ:∀c h3 g3,J c h3 g3→∀i,(hget h3 i).isSome→p i=false) (hK1:∀g h',Kit g h'→(∀i,(hget h' i).isSome→p i=true)∧(∀xs,g=some xs→xs=items))
    (hlen:∀x∈items,x≠tick→x.length=ps.size) (hps:∀t∈ps.toList,t<cx.nt)
    (hround:∀xs x,x≠tick→(xs++ [x])<+:items→∀ (l:Nat) (r1:Rnd cx),AW (cx.inR l fl r1) assign (AsgK fun s1=>∀r2:Rnd cx,AW (cx.inR l fl r2) body (zf (fun h' g'=>leH h' (I (xs++ [x])).1∧inH (I (xs++ [x])).1 (idsH (I (xs++ [x])).1)∧g'=(I (xs++ [x])).2) J) s1)
      { t:=zc6 ps.toList x (keepT (I xs).1 s.t),h:=(I xs).1,g:=(I xs).2 })
    (hdone:∀h1,Kit (some items) h1→Q .normal { t:=keepT (h1++(I items).1) s.t,h:=h1++(I items).1,g:=(I items).2 })
    (hstop:∀c h1 h3 g3,Kit none h1→J c h3 g3→AW cx c Q { t:=keepT (h1++h3) s.t,h:=h1++h3,g:=g3 }):
    AW cx (.rangeFunc g ps assign body) Q s:=by
  intro E0 a w0 hs0
  refine wpIn_rangeFunc ?_
  intro fn hfn
  obtain ⟨l,hl⟩:∃l,l=w0.heap.size+1:=⟨_,rfl⟩
  obtain ⟨d,hd⟩:∃d,d=w0.heap.size:=⟨_,rfl⟩
  obtain ⟨rec,hrec⟩:∃rec:LoopState→Option Code→Loop,rec=fun st pe=> { state:=st,pending:=pe,fn:=fn,tmps:=a.tmps,params:=ps,assign:=assign,body:=body,defers:=d } :=⟨_,rfl⟩
  obtain ⟨w1,hw1⟩:∃w1,w1=(w0.alloc (.deferred (some []))).alloc (.loop (rec .ready none)):=⟨_,rfl⟩
  have hsz1:w1.heap.size=w0.heap.size+2:=by rw [hw1];simp
  have hk1:∀b,b<w0.heap.size→w1.heap[b]?=w0.heap[b]?:=fun b hb=>by
    rw [hw1]
    show ((w0.heap.push _).push _)[b]?=_
    rw [Array.getElem?_push,if_neg af,Array.getElem?_push,if_neg U]
  have hd1:w1.heap[d]?=some (.deferred (some [])):=by
    rw [hw1,hd]
    show ((w0.heap.push _).push _)[w0.heap.size]?=_
    rw [Array.getElem?_push,if_neg aa,Array.getElem?_push,if_pos rfl]
  have hl1:w1.heap[l]?=some (.loop (rec .ready none)):=by
    rw [hw1,hl]
    show ((w0.heap.push _).push _)[w0.heap.size+1]?=_
    rw [Array.getElem?_push,if_pos aa]
  have hfv:=ev_ok hs0.slots g (by rw [hg])
  rw [hg] at hfv
  simp only [Rep] at hfv
  obtain ⟨pf,qc,hgv,hfs,hcs⟩:=hfv
  have hitG:=hit E0 w0 a.defers rec pf qc hs0.hp hfs hcs (fun b hb=>hs0.marks.lt hb)
  replace hcs:Reps w0 E0 s.h caps' qc.toList:=Reps.le _ _ _ hcle hcs
  have hids1:∀j∈AV.idsL fs,p j=true:=fun j hj=>hids j (List.mem_append_left _ hj)
  have hids2:∀j∈AV.idsL caps',p j=true:=fun j hj=>hids j (List.mem_append_right _ hj)
  have hmk:∀b,zap a.defers b→b<w0.heap.size:=fun b hb=>hs0.marks.lt hb
  have howns:∀b,Own E0 (hsel p s.h) b→¬Own E0 (hsel (fun i=> !p i) s.h) b:=by
    rintro b ⟨i,hi,hb⟩ ⟨j,hj,hb'⟩
    rw [zr] at hi hj
    split at hi
    · rename_i hpi
      split at hj
      · rename_i hpj
        have:=hs0.hp.inj i j b hi hj hb hb'
        subst this
        rw [hpi] at hpj;cases hpj
      · simp at hj
    · simp at hi
  obtain ⟨E1,hE1⟩:∃E1:Env,E1= { O:=E0.O,C:=E0.C,M:=fun b=>Own E0 (hsel (fun i=> !p i) s.h) b∨E0.M b∨b=l∨b=d,N:=E0.N } :=⟨_,rfl⟩
  have hX1:∀b,b<w0.heap.size→Xs E1 (hsel p s.h) b→Xs E0 s.h b:=by
    rw [hE1]
    rintro b hb (hx|(hx|hx|hx|hx)|hx)
    · exact .inl (z7 hx)
    · exact .inl (z7 hx)
    · exact .inr (.inl hx)
    · omega
    · omega
    · exact .inr (.inr hx)
  have hgo1:∀j,p j=true→GoesOn E0 s.h E1 (hsel p s.h) j:=fun j hj=>by
    rw [hE1]
    unfold GoesOn
    rw [zr,if_pos hj]
    split<;>simp_all
  have hs1:SatH E1 (hsel p s.h) w1:=by
    refine ⟨fun i o ho=>?_,fun i j b hi hj h1 h2=>?_,fun b hb=>?_,fun b hb=>?_,fun b hb=>?_⟩
    · have ho':=ho
      rw [zr] at ho'
      split at ho'
      · rename_i hpi
        have:=hs0.hp.heap i o ho'
        have hidso:=hcl i o ho' hpi
        have hlt:∀b,E0.O i=some b→w1.heap[b]?=w0.heap[b]?:=fun b hb=>hk1 b (hs0.hp.own b ⟨i,by simp [ho'],hb⟩).1
        have hO:E1.O=E0.O:=by rw [hE1]
        have hC:E1.C=E0.C:=by rw [hE1]
        cases o with
        | var cs=>
          simp only [RepObj,hO] at this ⊢
          obtain ⟨b,c,T,fz,g1,g2,g3,g4⟩:=this
          exact ⟨b,c,T,fz,g1,(hlt b g1).trans g2,Reps.step hX1 (fun b hb _=>hk1 b hb) _ _ (fun j hj=>hgo1 j (hidso j hj)) g3,g4⟩
        | tvar tt cs=>
          simp only [RepObj,hO] at this ⊢
          obtain ⟨b,c,T,fz,g1,g2,g3,g4⟩:=this
          exact ⟨b,c,T,fz,g1,(hlt b g1).trans g2,Reps.step hX1 (fun b hb _=>hk1 b hb) _ _ (fun j hj=>hgo1 j (hidso j hj)) g3,g4⟩
        | arr k xs=>
          simp only [RepObj,hO,hC] at this ⊢
          rcases this with g|⟨b,c,T,fz,g1,g2,g3,g4,g5,g6⟩
          · exact .inl g
          · exact .inr ⟨b,c,T,fz,g1,(hlt b g1).trans g2,g3,g4,RepRows.step hX1 (fun b hb _=>hk1 b hb) _ _ _ g5,g6⟩
        | buf tt xs=>
          simp only [RepObj,hO,hC] at this ⊢
          rcases this with g|⟨b,c,T,fz,g1,g2,g3,g4,g5,g6⟩
          · exact .inl g
          · exact .inr ⟨b,c,T,fz,g1,(hlt b g1).trans g2,g3,g4,g5,g6⟩
        | strit l q=>
          simp only [RepObj,hO] at this ⊢
          obtain ⟨b,g1,g2⟩:=this
          exact ⟨b,g1,(hlt b g1).trans g2⟩
        | omap es=>
          simp only [RepObj,hO] at this ⊢
          obtain ⟨b,m,cl,g1,g2,g3⟩:=this
          exact ⟨b,m,cl,g1,(hlt b g1).trans g2,g3⟩
      · cases ho'
    · rw [hE1] at h1 h2
      rw [zr] at hi hj
      split at hi
      · split at hj
        · exact hs0.hp.inj i j b hi hj h1 h2
        · simp at hj
      · simp at hi
    · have hb':Own E0 (hsel p s.h) b:=by rw [hE1] at hb;exact hb
      have:=hs0.hp.own b (z7 hb')
      rw [hE1]
      refine ⟨U,?_,this.2.2⟩
      rintro (hx|hx|hx|hx)
      · exact howns b hb' hx
      · exact this.2.1 hx
      · omega
      · omega
    · rw [hE1] at hb
      rcases hb with hx|hx|hx|hx
      · have:=(hs0.hp.own b (z7 hx)).1;omega
      · have:=hs0.hp.mlt b hx;omega
      · omega
      · omega
    · rw [hE1] at hb
      have:=hs0.hp.nlt b hb;omega
  have hfs1:Reps w1 E1 (hsel p s.h) fs pf.toList:=Reps.step hX1 (fun b hb _=>hk1 b hb) _ _ (fun j hj=>hgo1 j (hids1 j hj)) hfs
  have hcs1:Reps w1 E1 (hsel p s.h) caps' qc.toList:=Reps.step hX1 (fun b hb _=>hk1 b hb) _ _ (fun j hj=>hgo1 j (hids2 j hj)) hcs
  obtain ⟨E2,hE2⟩:∃E2:Env,E2= { O:=E0.O,C:=E0.C,M:=E0.M,N:=fun b=>E0.N b∨Own E0 (hsel p s.h) b∨b=l∨b=d } :=⟨_,rfl⟩
  have hown2:∀b,Own E2 (I []).1 b→Own E0 (hsel (fun i=> !p i) s.h) b:=fun b hb=>by
    have:Own E0 (I []).1 b:=by rw [hE2] at hb;exact hb
    exact zhe hI this
  have hX2:∀b,b<w0.heap.size→Xs E2 (I []).1 b→Xs E0 s.h b:=by
    intro b hb hx
    rcases hx with hx|hx|hx
    · exact .inl (z7 (hown2 b hx))
    · rw [hE2] at hx;exact .inr (.inl hx)
    · rw [hE2] at hx
      rcases hx with hx|hx|hx|hx
      · exact .inr (.inr hx)
      · exact .inl (z7 hx)
      · omega
      · omega
  have hO2:E2.O=E0.O:=by rw [hE2]
  have hC2:E2.C=E0.C:=by rw [hE2]
  have hM2:E2.M=E0.M:=by rw [hE2]
  have hs2:SatH E2 (I []).1 w1:=by
    have hp0:∀i o,hget (hsel (fun i=> !p i) s.h) i=some o→RepObj w0 E0 s.h i o:=fun i o ho=>by
      rw [zr] at ho
      split at ho
      · exact hs0.hp.heap i o ho
      · cases ho
    refine ⟨fun i o ho=>?_,fun i j b hi hj h1 h2=>?_,fun b hb=>?_,fun b hb=>?_,fun b hb=>?_⟩
    · obtain ⟨o1,ho1,hle⟩:=zcw hI ho
      have hr:=hp0 i o1 ho1
      have hlt:∀b,E0.O i=some b→w1.heap[b]?=w0.heap[b]?:=fun b hb=>hk1 b (hs0.hp.own b ⟨i,by
        rw [zr] at ho1
        split at ho1
        · simp [ho1]
        · simp at ho1,hb⟩).1
      have hgoI:∀j,(hget (I []).1 j).isSome→GoesOn E0 s.h E2 (I []).1 j:=fun j hj=>by
        have hj1:=zcQ (E:=E0) hI hj
        have hj2:(hget (hsel (fun i=> !p i) s.h) j).isSome:=by
          obtain ⟨o',ho'⟩:=Option.isSome_iff_exists.1 hj
          obtain ⟨oo,hoo,_⟩:=zcw hI ho'
          simp [hoo]
        have hpj:(!p j)=true:=by
          rw [zr] at hj2
          split at hj2
          · assumption
          · simp at hj2
        have hj3:=(zfg (E:=E0) (h:=s.h) (p:=fun i=> !p i) j hpj).trans hj1
        unfold GoesOn at hj3 ⊢
        rw [hO2,hC2]
        exact hj3
      have hidsI:∀j∈o.ids,(hget (I []).1 j).isSome:=fun j hj=>zeb hIn j (ze9 ho j hj)
      cases o1 with
      | var cs=>
        cases o<;>simp only [AObj.le] at hle
        simp only [RepObj,hO2] at hr ⊢
        obtain ⟨b,c,T,fz,g1,g2,g3,g4⟩:=hr
        exact ⟨b,c,T,fz,g1,(hlt b g1).trans g2,Reps.step hX2 (fun b hb _=>hk1 b hb) _ _ (fun j hj=>hgoI j (hidsI j hj)) (Reps.le _ _ _ hle g3),g4⟩
      | tvar tt cs=>
        cases o<;>simp only [AObj.le] at hle
        obtain ⟨rfl,hle⟩:=hle
        simp only [RepObj,hO2] at hr ⊢
        obtain ⟨b,c,T,fz,g1,g2,g3,g4⟩:=hr
        exact ⟨b,c,T,fz,g1,(hlt b g1).trans g2,Reps.step hX2 (fun b hb _=>hk1 b hb) _ _ (fun j hj=>hgoI j (hidsI j hj)) (Reps.le _ _ _ hle g3),g4⟩
      | arr k xs=>
        simp only [AObj.le] at hle;subst hle
        simp only [RepObj,hO2,hC2] at hr ⊢
        rcases hr with g|⟨b,c,T,fz,g1,g2,g3,g4,g5,g6⟩
        · exact .inl g
        · exact .inr ⟨b,c,T,fz,g1,(hlt b g1).trans g2,g3,g4,RepRows.step hX2 (fun b hb _=>hk1 b hb) _ _ _ g5,g6⟩
      | buf tt xs=>
        simp only [AObj.le] at hle;subst hle
        simp only [RepObj,hO2,hC2] at hr ⊢
        rcases hr with g|⟨b,c,T,fz,g1,g2,g3,g4,g5,g6⟩
        · exact .inl g
        · exact .inr ⟨b,c,T,fz,g1,(hlt b g1).trans g2,g3,g4,g5,g6⟩
      | strit l q=>
        simp only [AObj.le] at hle;subst hle
        simp only [RepObj,hO2] at hr ⊢
        obtain ⟨b,g1,g2⟩:=hr
        exact ⟨b,g1,(hlt b g1).trans g2⟩
      | omap es=>
        simp only [AObj.le] at hle;subst hle
        simp only [RepObj,hO2] at hr ⊢
        obtain ⟨b,m,cl,g1,g2,g3⟩:=hr
        exact ⟨b,m,cl,g1,(hlt b g1).trans g2,g3⟩
    · rw [hO2] at h1 h2
      have key:∀i,(hget (I []).1 i).isSome→(hget s.h i).isSome:=fun i hi=>by
        obtain ⟨o',ho'⟩:=Option.isSome_iff_exists.1 hi
        obtain ⟨oo,hoo,_⟩:=zcw hI ho'
        rw [zr] at hoo
        split at hoo
        · simp [hoo]
        · cases hoo
      exact hs0.hp.inj i j b (key i hi) (key j hj) h1 h2
    · have hb':=hown2 b hb
      have:=hs0.hp.own b (z7 hb')
      rw [hE2]
      refine ⟨U,this.2.1,?_⟩
      rintro (hx|hx|hx|hx)
      · exact this.2.2 hx
      · exact howns b hx hb'
      · omega
      · omega
    · rw [hM2] at hb
      have:=hs0.hp.mlt b hb;omega
    · rw [hE2] at hb
      rcases hb with hx|hx|hx|hx
      · have:=hs0.hp.nlt b hx;omega
      · have:=(hs0.hp.own b (z7 hx)).1;omega
      · omega
      · omega
  have hkept:Kept cx l d fl p E0 s.h w0 a.defers E1.M E1.N (Own E1 (hsel p s.h)) E2 (I []).1 (I []).2 w1:=by
    have hO1:∀b,Own E1 (hsel p s.h) b↔Own E0 (hsel p s.h) b:=fun b=>by rw [hE1];exact Iff.rfl
    refine ⟨hs2,hnames [] (List.nil_prefix),fun b=>by rw [hE1],fun b hb=> .inl ((hO1 b).1 hb),fun b=>by rw [hE2];simp only [hO1],fun b hb hm=>?_,fun b hb=>?_,?_,⟨bL,bL,bL,U,fun b hb _ _=>hk1 b hb,fun b hb=> .inl (z7 (hown2 b hb)),fun b hb=>by rwa [hM2],fun b hb=> .inl (by rwa [hM2] at hb),fun i hi hg=>?_⟩,fun b hb=> .inl (hown2 b hb),fun b hb=> .inl (by rwa [hM2] at hb),U,hd1,?_⟩
    · rw [hM2] at hm
      exact (hs0.hp.own b (z7 ((hO1 b).1 hb))).2.1 hm
    · rw [hE1]
      rcases hb with hb|hb
      · exact .inl (hown2 b hb)
      · exact .inr (.inl (by rwa [hM2] at hb))
    · rw [hE1];exact ⟨.inr (.inr (.inl rfl)),.inr (.inr (.inr rfl))⟩
    · have hj1:=zcQ (E:=E0) hI hg
      have hj2:(hget (hsel (fun i=> !p i) s.h) i).isSome:=by
        obtain ⟨o',ho'⟩:=Option.isSome_iff_exists.1 hg
        obtain ⟨oo,hoo,_⟩:=zcw hI ho'
        simp [hoo]
      have hpj:(!p i)=true:=by
        rw [zr] at hj2
        split at hj2
        · assumption
        · simp at hj2
      have hj3:=(zfg (E:=E0) (h:=s.h) (p:=fun i=> !p i) i hpj).trans hj1
      refine ⟨by rw [zr,if_pos hpj] at hj2;exact hj2,?_⟩
      unfold GoesOn at hj3 ⊢
      rw [hO2,hC2]
      exact hj3
    · rw [hIg,hM2]
      refine cx.stab _ _ _ _ _ w0 _ (fun b hb _=>hk1 b hb) (fun b hb=>?_) (fun b hb=>?_) U bL bL bL hs0.ghost
      · rcases hb with hb|hb|hb|hb|hb
        · exact .inl (.inl (z7 (hown2 b hb)))
        · exact .inl (.inl (z7 ((hO1 b).1 hb)))
        · exact .inr U
        · exact .inr U
        · exact .inl (.inr hb)
      · rcases hb with hb|hb|hb|hb|hb
        · have:=(hs0.hp.own b (z7 (hown2 b hb))).1;omega
        · have:=(hs0.hp.own b (z7 ((hO1 b).1 hb))).1;omega
        · omega
        · omega
        · have:=hmk b hb;omega
  let y : Yo cx.P items:=
    { yl:=l
      G:=zbA cx l d fl p E0 s.h w0 a.defers I J rec
      stab:=fun gg M N A A' w w' hk hA hAb hsz ht ho hout hG=>by
        cases gg with
        | some xs=>
          simp only [zbA] at hG ⊢
          obtain ⟨E3,k,hrl⟩:=hG
          obtain ⟨E3',k',hnl⟩:=k.step hl hd hs0.hp hmk hk hA hAb hsz ht ho hout
          exact ⟨E3',k',(hk l (by have:=k.size;omega) hnl).trans hrl⟩
        | none=>
          simp only [zbA] at hG ⊢
          obtain ⟨E3,c,h3,g3,k,hrl,hj⟩:=hG
          obtain ⟨E3',k',hnl⟩:=k.step hl hd hs0.hp hmk hk hA hAb hsz ht ho hout
          exact ⟨E3',c,h3,g3,k',(hk l (by have:=k.size;omega) hnl).trans hrl,hj⟩
      yok:=zsA hl hd hs0 I J hnames hJ hlen hps hfl hround rec hrec }
  have hG1:zbA cx l d fl p E0 s.h w0 a.defers I J rec (some []) E1.M E1.N (Own E1 (hsel p s.h)) w1:=by
    simp only [zbA]
    exact ⟨E2,hkept,hl1⟩
  have hcalls:=hitG y (by rw [← hl,← hd]) E1 w1 hs1 hfs1 hcs1 hG1
  refine ⟨l,[{ target:= .collected d,args:= #[] }],w1, { target:= .fn (.func f) qc,args:=pf++ #[Value.func (.yield l) #[] #[]] },w1,f,pf++ #[Value.func (.yield l) #[] #[]]++qc,w1,?_,?_,fun _ _=>trivial,?_,fun h=>aB,?_⟩
  · have hround0:cx.F.round=none:=(Cx.lone_ok hro).1
    rw [hround0,hw1,hrec,hl,hd]
    exact run_enterLoop_outer fn a.tmps ps assign body
  · simp only [resolve,rangeCall,hgv,Deferred.ofValue,Sem.run_pure,Sem.run_bind]
    simp [Act.eval]
  · simp only [invoke]
    exact hen _ _
  · refine (zkj 0 hcalls).mono ?_
    rintro e w5 ⟨v,E5,h5,g5,rfl,hKit,hs5,hev5,hG5⟩
    have hG5':zbA cx l d fl p E0 s.h w0 a.defers I J rec g5 E5.M E5.N (Own E5 h5) w5:=hG5
    obtain ⟨hn5,hit5⟩:=hK1 g5 h5 hKit
    have fin:∀ (st:LoopState) (pe:Option Code) (E4:Env) (hI':AHeap) (gI':Option (List (List AV))),st≠ .busy→Kept cx l d fl p E0 s.h w0 a.defers E5.M E5.N (Own E5 h5) E4 hI' gI' w5→w5.heap[l]?=some (.loop (rec st pe))→
        ∃w6 E6,(Instr.endLoop l).run cx.P w5= .ok pe w6∧Sat cx E6 { t:=keepT (h5++hI') s.t,h:=h5++hI',g:=gI' } { a with defers:= { target:= .collected d,args:= #[] } ::a.defers } w6∧Evo cx.fl E0 s.h w0 E6 (h5++hI') w6:=by
      intro st pe E4 hI' gI' hst k hrl
      have hend:=run_endLoop (P:=cx.P) hrl (by rw [hrec];exact hst)
      obtain ⟨w6,hw6⟩:∃w6,w6=w5.putObj l (.loop { rec st pe with state:= .exhausted }):=⟨_,rfl⟩
      have hsz5:=k.size
      have ap:Apart p E5 h5 E4 hI' E4.M E0.N:=
        { n1:=hn5,n2:=k.names,o1:=fun b hb=> .inr ((k.n2 b).2 (.inr (.inl hb))),o2:=fun b hb=> .inl (k.m1 b (.inl hb)),m1:=fun b hb=> .inl (k.m1 b (.inr hb)),m2:=fun b hb=> .inl hb,k1:=fun b hb=> .inr ((k.n1 b).2 hb),k2:=fun b hb=> .inr ((k.n2 b).2 (.inl hb)) }
      have hs6':=ap.sat hs5 k.hp k.hp.mlt (fun b hb=>k.hp.nlt b ((k.n2 b).2 (.inl hb)))
      obtain ⟨E6,hE6⟩:∃E6,E6=joinE p E5 E4 E4.M E0.N:=⟨_,rfl⟩
      rw [← hE6] at hs6'
      have hM6:E6.M=E4.M:=by rw [hE6];rfl
      have hN6:E6.N=E0.N:=by rw [hE6];rfl
      have hown6:∀b,Own E6 (h5++hI') b→Own E5 h5 b∨Own E4 hI' b:=fun b hb=>by rw [hE6] at hb;exact ap.own hb
      have ho5:∀b,Own E5 h5 b→Own E0 s.h b∨w1.heap.size≤b:=fun b hb=>(hev5.own b hb).imp (fun h=>by rw [hE1] at h;exact z7 h) id
      have hgoE:∀j,(hget (h5++hI') j).isSome→GoesOn E0 s.h E6 (h5++hI') j∧(j<fl→(hget s.h j).isSome):=fun j hj=>by
        by_cases hpj:p j=true
        · have hj5:(hget h5 j).isSome:=by rw [ap.get1 hpj] at hj;exact hj
          have key:j<fl→(hget s.h j).isSome∧GoesOn E0 s.h E6 (h5++hI') j:=fun hjf=>by
            obtain ⟨q1,q2⟩:=hev5.go j hjf hj5
            rw [zr,if_pos hpj] at q1
            refine ⟨q1,?_⟩
            have q3:GoesOn E0 s.h E5 h5 j:=by
              unfold GoesOn at q2 ⊢
              rw [zr,if_pos hpj,hE1] at q2
              exact q2
            rw [hE6]
            exact q3.trans (ap.goes1 j)
          by_cases hj0:(hget s.h j).isSome
          · exact ⟨(key (hfl j hj0)).2,fun _=>hj0⟩
          · refine ⟨?_,fun hjf=>(key hjf).1⟩
            unfold GoesOn
            split
            · rename_i cs hh;exact (hj0 aq).elim
            · rename_i k xs hh;exact (hj0 aq).elim
            · rename_i l p hh;exact (hj0 aq).elim
            · rename_i es hh;exact (hj0 aq).elim
            · rename_i tt cs hh;exact (hj0 aq).elim
            · rename_i tt cs hh;exact (hj0 aq).elim
            · trivial
        · have hpj':p j=false:=by simpa using hpj
          have hj4:(hget hI' j).isSome:=by rw [ap.get2 hpj'] at hj;exact hj
          by_cases hj0:(hget s.h j).isSome
          · refine ⟨?_,fun _=>hj0⟩
            rw [hE6]
            exact (k.far.go j (hfl j hj0) hj4).2.trans (ap.goes2 j)
          · refine ⟨?_,fun hjf=>(k.far.go j hjf hj4).1⟩
            unfold GoesOn
            split
            · rename_i cs hh;exact (hj0 aq).elim
            · rename_i k xs hh;exact (hj0 aq).elim
            · rename_i l p hh;exact (hj0 aq).elim
            · rename_i es hh;exact (hj0 aq).elim
            · rename_i tt cs hh;exact (hj0 aq).elim
            · rename_i tt cs hh;exact (hj0 aq).elim
            · trivial
      have hXf:XIn w0 (Xs E6 (h5++hI')) (Xs E0 s.h):=fun b o hc _ hx=>by
        have hb:=(Array.getElem?_eq_some_iff.1 hc).1
        rcases hx with hx|hx|hx
        · rcases hown6 b hx with h|h
          · rcases ho5 b h with h|h
            · exact .inl h
            · omega
          · rcases k.far.own b h with h|h
            · exact .inl h
            · omega
        · rw [hM6] at hx
          rcases k.far.m2 b hx with h|h
          · exact .inr (.inl h)
          · omega
        · rw [hN6] at hx;exact .inr (.inr hx)
      have hKf:KIn w0 w5 (Xs E0 s.h):=fun b o hc _ hx=>by
        rcases k.far.block b (Array.getElem?_eq_some_iff.1 hc).1 with h|h
        · exact absurd h hx
        · exact h.trans hc
      have hslots:Slots w5 E6 ⟨keepT (h5++hI') s.t,h5++hI',gI'⟩ a:=zju (g:=s.g) hs0.slots hXf hKf (fun j hj=>(hgoE j hj).1)
      have hdM:¬E4.M d:=fun hm=>by
        rcases k.m0 d hm with h|h
        · have:=hs0.hp.mlt d h;omega
        · omega
      have hmarks5:Marks cx.base E6 w5 ({ target:= .collected d,args:= #[] } ::a.defers):=by
        have hb0:=hs0.base.1
        refine ⟨fun dd hdd=>?_,?_⟩
        · rcases List.mem_cons.1 hdd with rfl|hdd
          · exact ⟨d,rfl,k.dd,U,by rw [hM6];exact hdM⟩
          · obtain ⟨r,q1,q2,q3,q4⟩:=hs0.marks.1 dd hdd
            have hr:=(Array.getElem?_eq_some_iff.1 q2).1
            refine ⟨r,q1,(k.far.keep r hr (hs0.hp.not_mark q2) q4).trans q2,q3,fun hm=>?_⟩
            rw [hM6] at hm
            rcases k.far.m2 r hm with h|h
            · exact q4 h
            · omega
        · simp only [List.map_cons,List.nodup_cons]
          refine ⟨?_,hs0.marks.2⟩
          simp only [List.mem_map,not_exists,not_and]
          intro dd hdd e
          obtain ⟨r,q1,q2,q3,q4⟩:=hs0.marks.1 dd hdd
          have hr:=(Array.getElem?_eq_some_iff.1 q2).1
          rw [q1] at e
          simp only at e
          omega
      have hghost5:cx.G gI' E6.M E6.N (fun b=>Own E6 (h5++hI') b∨zap ({ target:= .collected d,args:= #[] } ::a.defers) b) (w5.putObj l (.loop { rec st pe with state:= .exhausted })):=by
        rw [hM6,hN6]
        refine cx.stab _ _ _ _ _ w5 _ (fun b _ hb=>World.putObj_heap_other (fun e=>hb (by rw [e];exact .inr (.inr (.inl rfl))))) (fun b hb=> .inl ?_) (fun b hb=>?_) aa rfl rfl rfl k.ghost
        · rcases hb with hb|⟨dd,hdd,hdt⟩
          · rcases hown6 b hb with h|h
            · exact .inr (.inl h)
            · exact .inl h
          · rcases List.mem_cons.1 hdd with rfl|hdd
            · have:b=d:=by simpa using hdt.symm
              exact .inr (.inr (.inr (.inl this)))
            · exact .inr (.inr (.inr (.inr ⟨dd,hdd,hdt⟩)))
        · rw [World.putObj_size]
          rcases hb with hb|hb
          · exact (hs6'.own b hb).1
          · exact hmarks5.lt hb
      have hsat5:Sat (cxOf cx.P cx.base cx.nt cx.fl) E6 { t:=keepT (h5++hI') s.t,h:=h5++hI',g:=gI' } { a with defers:= { target:= .collected d,args:= #[] } ::a.defers } w5:=
        { slots:=fun kk g v hk=>hslots kk g v hk,nt:=hs0.nt,hp:=hs6',base:=⟨Nat.le_trans hs0.base.1 k.far.size,fun h=>aB⟩,marks:=hmarks5,ghost:=trivial }
      refine ⟨w6,E6,?_,?_,?_⟩
      · rw [hend,hw6,hrec]
      · rw [hw6]
        exact znL (cx1:=cxOf cx.P cx.base cx.nt cx.fl) (cx2:=cx) _ hsat5 hrl rfl (Cx.lone_ok hro).2 rfl hghost5
      · rw [hw6]
        refine ⟨k.far.os,k.far.tape,k.far.output,by simpa using k.far.size,fun b hb h1 h2=>?_,fun b hb=>?_,fun b hb=>by rw [hM6];exact k.far.m1 b hb,fun b hb=>by rw [hM6] at hb;exact k.far.m2 b hb,hN6,fun i hi hg=>?_⟩
        · exact (World.putObj_heap_other U).trans (k.far.keep b hb h1 h2)
        · rcases hown6 b hb with h|h
          · rcases ho5 b h with h|h
            · exact .inl h
            · exact .inr U
          · exact k.far.own b h
        · exact ⟨(hgoE i hg).2 U,(hgoE i hg).1⟩
    cases g5 with
    | some xs=>
      have hxs:=hit5 xs rfl
      subst hxs
      simp only [zbA] at hG5'
      obtain ⟨E4,k,hrl⟩:=hG5'
      obtain ⟨w6,E6,h1,h2,h3⟩:=fin .ready none E4 _ _ aa k hrl
      exact ⟨none,w6,h1,E6,_,hdone h5 hKit,h2,h3⟩
    | none=>
      simp only [zbA] at hG5'
      obtain ⟨E4,c,h3',g3',k,hrl,hj⟩:=hG5'
      obtain ⟨w6,E6,h1,h2,h3⟩:=fin .done (some c) E4 _ _ aa k hrl
      refine ⟨some c,w6,h1,?_⟩
      exact wpIn_mono (hstop c h5 h3' g3' hKit hj E6 _ w6 h2) (fun _ _ _ hr=>hr.trans h3)
theorem zf5 {g:Operand} {ps:Array Tmp} {assign body:Code} {f:FuncId} {fs caps caps':List AV} {fl:Nat} {items:List (List AV)} {Kit:Option (List (List AV))→AHeap→Prop} (p:Nat→Bool) (I:List (List AV)→AHeap×Option (List (List AV))) (J:Code→AHeap→Option (List (List AV))→Prop)
  (hro:cx.lone=true) (hg:s.ev g=(true,.fn (.func f) fs caps)) (hcle:AV.leL caps caps') (hen:zdG cx.P f)
  (hit:∀E0 w0 (pf qc:Array Value),SatH E0 s.h w0→Reps w0 E0 s.h fs pf.toList→Reps w0 E0 s.h caps qc.toList→∃S:World→Prop,
   (∀y:Yo cx.P items,(∀g M N A w,y.G g M N A w→S w)→∀E w,SatH E (hsel p s.h) w→Reps w E (hsel p s.h) fs pf.toList→Reps w E (hsel p s.h) caps' qc.toList→y.G (some []) E.M E.N (Own E (hsel p s.h)) w→
    Calls cx.P f (pf++ #[Value.func (.yield y.yl) #[] #[]]++qc) w (fun e w'=>∃v E' h' g,e= .returned v∧Kit g h'∧SatH E' h' w'∧Evo fl E (hsel p s.h) w E' h' w'∧y.G g E'.M E'.N (Own E' h') w'))∧
   (∀xs E w,SatH E (I xs).1 w→(∀i,i<fl→(hget (I xs).1 i).isSome→GoesOn E0 s.h E (I xs).1 i)→S w)∧
   (∀c h3 g3,J c h3 g3→∀E w,SatH E h3 w→(∀i,i<fl→(hget h3 i).isSome→GoesOn E0 s.h E h3 i)→S w))
  (hfl:∀i,(hget s.h i).isSome→i<fl) (hfc:cx.fl≤fl) (hcl:Closed p s.h) (hids:∀j∈AV.idsL fs++AV.idsL caps',p j=true)
  (hI:leH (hsel (fun i=> !p i) s.h) (I []).1) (hIn:inH (I []).1 (idsH (I []).1)) (hIg:(I []).2=s.g)
  (hnames:∀xs,xs<+:items→∀i,(hget (I xs).1 i).isSome→p i=false) (hJ:∀c h3 g3,J c h3 g3→∀i,(hget h3 i).isSome→p i=false) (hK1:∀g h',Kit g h'→(∀i,(hget h' i).isSome→p i=true)∧(∀xs,g=some xs→xs=items))
  (hlen:∀x∈items,x.length=ps.size) (hps:∀t∈ps.toList,t<cx.nt)
  (hround:∀xs x,(xs++ [x])<+:items→∀ (l:Nat) (r1:Rnd cx),AW (cx.inR l fl r1) assign (AsgK fun s1=>∀r2:Rnd cx,AW (cx.inR l fl r2) body (zf (fun h' g'=>leH h' (I (xs++ [x])).1∧inH (I (xs++ [x])).1 (idsH (I (xs++ [x])).1)∧g'=(I (xs++ [x])).2) J) s1)
   { t:=zc6 ps.toList x (keepT (I xs).1 s.t),h:=(I xs).1,g:=(I xs).2 })
  (hdone:∀h1,Kit (some items) h1→Q .normal { t:=keepT (h1++(I items).1) s.t,h:=h1++(I items).1,g:=(I items).2 })
  (hstop:∀c h1 h3 g3,Kit none h1→J c h3 g3→AW cx c Q { t:=keepT (h1++h3) s.t,h:=h1++h3,g:=g3 }):
  AW cx (.rangeFunc g ps assign body) Q s:=
 zf4 p I J hro hg hcle hen (fun E0 w0 ds rec pf qc hs0 hfs hcs hmk y hy=>by
  obtain ⟨S,hitS,hSI,hSJ⟩:=hit E0 w0 pf qc hs0 hfs hcs
  refine hitS y fun g M N A w hG=>?_
  rw [hy] at hG
  cases g with
  |some xs=>
   simp only [zbA] at hG
   obtain ⟨E3,k,hrl⟩:=hG
   exact hSI xs E3 w k.hp (fun i hi hh=>(k.far.go i hi hh).2)
  |none=>
   simp only [zbA] at hG
   obtain ⟨E3,c,h3,g3,k,hrl,hj⟩:=hG
   exact hSJ c h3 g3 hj E3 w k.hp (fun i hi hh=>(k.far.go i hi hh).2))
  hfl hfc hcl hids hI hIn hIg hnames hJ hK1 (fun x hx _=>hlen x hx) hps (fun xs x _=>hround xs x) hdone hstop
theorem zho {g:Operand} {ps:Array Tmp} {assign body:Code} {f:FuncId} {fs caps:List AV} {fl:Nat} {items:List (List AV)} {Kit:Option (List (List AV))→AHeap→Prop} (p:Nat→Bool) (I:List (List AV)→AHeap×Option (List (List AV))) (J:Code→AHeap→Option (List (List AV))→Prop)
  (hro:cx.lone=true) (hg:s.ev g=(true,.fn (.func f) fs caps)) (hit:AIter cx.P f fl fs caps (hsel p s.h) items Kit)
  (hfl:∀i,(hget s.h i).isSome→i<fl) (hfc:cx.fl≤fl) (hcl:Closed p s.h) (hids:∀j∈AV.idsL fs++AV.idsL caps,p j=true)
  (hI:leH (hsel (fun i=> !p i) s.h) (I []).1) (hIn:inH (I []).1 (idsH (I []).1)) (hIg:(I []).2=s.g)
  (hnames:∀xs,xs<+:items→∀i,(hget (I xs).1 i).isSome→p i=false) (hJ:∀c h3 g3,J c h3 g3→∀i,(hget h3 i).isSome→p i=false) (hK1:∀g h',Kit g h'→(∀i,(hget h' i).isSome→p i=true)∧(∀xs,g=some xs→xs=items))
  (hlen:∀x∈items,x.length=ps.size) (hps:∀t∈ps.toList,t<cx.nt)
  (hround:∀xs x,(xs++ [x])<+:items→∀ (l:Nat) (r1:Rnd cx),AW (cx.inR l fl r1) assign (AsgK fun s1=>∀r2:Rnd cx,AW (cx.inR l fl r2) body (zf (fun h' g'=>leH h' (I (xs++ [x])).1∧inH (I (xs++ [x])).1 (idsH (I (xs++ [x])).1)∧g'=(I (xs++ [x])).2) J) s1)
   { t:=zc6 ps.toList x (keepT (I xs).1 s.t),h:=(I xs).1,g:=(I xs).2 })
  (hdone:∀h1,Kit (some items) h1→Q .normal { t:=keepT (h1++(I items).1) s.t,h:=h1++(I items).1,g:=(I items).2 })
  (hstop:∀c h1 h3 g3,Kit none h1→J c h3 g3→AW cx c Q { t:=keepT (h1++h3) s.t,h:=h1++h3,g:=g3 }):
  AW cx (.rangeFunc g ps assign body) Q s:=
 zf5 p I J hro hg (AV.leL_refl _) hit.1 (fun E0 w0 pf qc _ _ _=>⟨fun _=>True,fun y _ E w hs hf hc hy=>hit.2 y E w pf qc hs hf hc hy,fun _ _ _ _ _=>trivial,fun _ _ _ _ _ _ _ _=>trivial⟩)
  hfl hfc hcl hids hI hIn hIg hnames hJ hK1 hlen hps hround hdone hstop
end
attribute [go_sem] Cx.inR zc6 AsgK zf
open Go
def za4:Op→List Operand
 | .move x=> [x]
 | .assign x=> [x]
 | .pick c a b=> [c,a,b]
 | .binOp _ _ x y _=> [x,y]
 | .unOp _ _ x=> [x]
 | .convert _ _ x=> [x]
 | .makeInterface _ x=> [x]
 | .makeFunc _ fs cs=>(fs++cs).toList
 | .field _ x _=> [x]
 | .fieldAddr _ x _=> [x]
 | .indexAddr _ x y=> [x,y]
 | .index _ x y=> [x,y]
 | .slice _ x lo hi mx=>x::(lo.toList++hi.toList++mx.toList)
 | .load _ x=> [x]
 | .nilCheck x=> [x]
 | .range _ x=> [x]
 | .next x _=> [x]
 | .extract x _=> [x]
 | .call c=>(match c.callee with| .value f=> [f]| .invoke f _=> [f]|_=> [])++c.args.toList
 | .box _ x=> [x]
 | .build _ parts=>parts.toList.map (·.2)
 | .buildSlice _ _ parts=>parts.toList.map (·.2)
 | .store _ x y=> [x,y]
 | .makeSlice _ x y=> [x,y]
 | .lookup _ x y _=> [x,y]
 | .typeAssert x _ _ _=> [x]
 | .mapUpdate _ x y z=> [x,y,z]
 |_=> []
def detOp (P:Program):Op→Bool
 | .binOp _ _ _ _ _=>false
 | .lookup _ _ _ _=>false
 | .makeMap _ _=>false
 | .range _ _=>false
 | .next _ _=>false
 | .convert _ d _=>(match (ty P d).td with| .slice _=>false|_=>true)
 |_=>true
def isEff:Op→Bool
 | .alloc _=>true
 | .makeSlice _ _ _=>true
 | .call c=>(match c.callee with| .builtin .append=>true| .builtin .copy=>true| .builtin .clear=>true|_=>false)
 | .box _ _=>true
 | .buildSlice _ _ _=>true
 | .store _ _ _=>true
 | .mapUpdate _ _ _ _=>true
 |_=>false
theorem zsB {P:Program} {s:AS} {c:Call} {q:FuncId×List AV×Prop} (h:zbg P s c=some q):isEff (.call c)=false:=by
 unfold zbg at h
 cases hc:c.callee<;>rw [hc] at h<;>first|cases h;done|simp [isEff,hc]
def fop (cx:Cx) (tab:Tab) (s:AS) (G:Bool) (o:Oper) (R:Bool→AV→AHeap→Prop):Prop:=
 match o.op with
 | .move x=>known s x=true∧R (G&&(s.ev x).1) ((s.ev x).2.tag cx.P o.type) s.h
 | .assign x=>known s x=true∧R (G&&(s.ev x).1) ((s.ev x).2.tag cx.P o.type) s.h
 | .pick c a b=>(match s.ev c with
  |(gc,.d (.bool c))=>(G=true→gc=true∧(c=true→(s.ev a).1=true∧(s.ev a).2.isB=true)∧(c=false→(s.ev b).1=true∧(s.ev b).2.isB=true))∧R G (.d (.bool (bif c then (s.ev a).2.toB else (s.ev b).2.toB))) s.h
  |_=>False)
 | .call c=>if isVal cx.P (.call c) then (G=true→(aval cx.P s (.call c)).1)∧R G (aval cx.P s (.call c)).2 s.h else
  (match zbg cx.P s c with
  |some (f,args,vc)=>(match tab f (args.map (frz 9 s.h)) with
   |some (pre,r)=>(G=true→vc∧pre∧(r.scal=true∨AV.idsL args= []))∧R G r s.h
   |none=>False)
  |none=>G=true∧aeff cx.fl cx.P s (.call c) (fun r h'=>R true r h'))
 |op=>if isVal cx.P op then (G=true→(aval cx.P s op).1)∧R G (aval cx.P s op).2 s.h else G=true∧detOp cx.P op=true∧aeff cx.fl cx.P s op (fun r h'=>R true r h')
section
variable {cx : Cx} {tab : Tab} {P : Program} {s s' : AS}
theorem zqt {fl:Nat} {op:Op} {K:AV→AHeap→Prop} (hdet:detOp P op=true) (h:zaw fl P s op K):∃r h',K r h'∧(∀K',K' r h'→zaw fl P s op K')∧(isEff op=false→h'=s.h):=by
 unfold zaw at h
 split at h
 ·rename_i src dt x
  split at h
  ·rename_i e hs hd
   split at h
   ·rename_i g l hx
    exact ⟨_,_,h.2.2,fun K' hk=>by unfold zaw;dsimp only;rw [hs,hd];dsimp only;rw [hx];exact ⟨h.1,h.2.1,hk⟩,fun e=>by simp [detOp,hd] at hdet⟩
   ·exact h.elim
  ·rename_i e hs hd
   split at h
   ·rename_i rows hr
    exact ⟨_,_,h.2.2.2,fun K' hk=>by unfold zaw;dsimp only;rw [hs,hd];dsimp only;rw [hr];exact ⟨h.1,h.2.1,h.2.2.1,hk⟩,fun _=>rfl⟩
   ·exact h.elim
  ·exact h.elim
 ·cases hdet
 ·rename_i t l c
  split at h
  ·rename_i e gl n gc m ht hl hc
   obtain ⟨h1,h2,h3,h4,h5,h6,h7,h8,h9,h⟩:=h
   split at h
   ·rename_i z hz
    exact ⟨_,_,h,fun K' hk=>by unfold zaw;dsimp only;rw [ht,hl,hc];dsimp only;rw [hz];exact ⟨h1,h2,h3,h4,h5,h6,h7,h8,h9,hk⟩,fun e=>ai⟩
   ·exact h.elim
  ·exact h.elim
 ·cases hdet
 ·cases hdet
 ·cases hdet
 ·rename_i t m k v
  split at h
  ·rename_i kt et gm i gk kd gv vd ht hm hk hv
   obtain ⟨h1,h2,h3,h4,h⟩:=h
   split at h
   ·rename_i es hes
    exact ⟨_,_,h.2.2,fun K' hk'=>by unfold zaw;dsimp only;rw [ht,hm,hk,hv];dsimp only;refine ⟨h1,h2,h3,h4,?_⟩;rw [hes];exact ⟨h.1,h.2.1,hk'⟩,fun e=>ai⟩
   ·exact h.elim
  ·exact h.elim
 ·rename_i c
  split at h
  ·rename_i hcal
   split at h
   ·rename_i x y t u ha ht
    split at h
    ·rename_i e hte
     obtain ⟨h1,h2,h3,h4,h5,h⟩:=h
     split at h
     ·rename_i rows hr
      split at h
      ·rename_i k hx
       exact ⟨_,_,h.2.2,fun K' hk=>by unfold zaw;dsimp only;rw [hcal];dsimp only;rw [ha,ht];dsimp only;rw [hte];refine ⟨h1,h2,h3,h4,h5,?_⟩;rw [hr];dsimp only;rw [hx];exact ⟨h.1,h.2.1,hk⟩,fun e=>bZ⟩
      ·rename_i i k m off len hx
       split at h
       ·rename_i k' xs hi
        obtain ⟨g1,g2,g3,g4,h⟩:=h
        by_cases hlm:len=m
        ·rw [if_pos hlm] at h
         obtain ⟨g6,g7,h⟩:=h
         exact ⟨_,_,h,fun K' hk=>by unfold zaw;dsimp only;rw [hcal];dsimp only;rw [ha,ht];dsimp only;rw [hte];refine ⟨h1,h2,h3,h4,h5,?_⟩;rw [hr];dsimp only;rw [hx];dsimp only;rw [hi];refine ⟨g1,g2,g3,g4,?_⟩;rw [if_pos hlm];exact ⟨g6,g7,hk⟩,fun e=>bZ⟩
        ·rw [if_neg hlm] at h
         obtain ⟨g6,h⟩:=h
         exact ⟨_,_,h,fun K' hk=>by unfold zaw;dsimp only;rw [hcal];dsimp only;rw [ha,ht];dsimp only;rw [hte];refine ⟨h1,h2,h3,h4,h5,?_⟩;rw [hr];dsimp only;rw [hx];dsimp only;rw [hi];refine ⟨g1,g2,g3,g4,?_⟩;rw [if_neg hlm];exact ⟨g6,hk⟩,fun e=>bZ⟩
       ·exact h.elim
      ·exact h.elim
     ·exact h.elim
    ·exact h.elim
   ·exact h.elim
  ·rename_i hcal
   split at h
   ·rename_i x y t u ha ht
    split at h
    ·rename_i e hte
     obtain ⟨h1,h2,h3,h4,h⟩:=h
     split at h
     ·rename_i rows hr
      split at h
      ·rename_i i k m off len hx
       split at h
       ·rename_i k' xs hi
        obtain ⟨g1,g2,g3,g4,g5,h⟩:=h
        exact ⟨_,_,h,fun K' hk=>by unfold zaw;dsimp only;rw [hcal];dsimp only;rw [ha,ht];dsimp only;rw [hte];refine ⟨h1,h2,h3,h4,?_⟩;rw [hr];dsimp only;rw [hx];dsimp only;rw [hi];exact ⟨g1,g2,g3,g4,g5,hk⟩,fun e=>bZ⟩
       ·exact h.elim
      ·exact h.elim
     ·exact h.elim
    ·exact h.elim
   ·exact h.elim
  ·rename_i hcal
   split at h
   ·rename_i x t ha ht
    split at h
    ·rename_i e hte
     obtain ⟨h1,h2,h3,h4,h⟩:=h
     split at h
     ·rename_i z hz
      split at h
      ·rename_i i k m off len hx
       split at h
       ·rename_i k' xs hi
        obtain ⟨g1,g2,g3,g4,h⟩:=h
        exact ⟨_,_,h,fun K' hk=>by unfold zaw;dsimp only;rw [hcal];dsimp only;rw [ha,ht];dsimp only;rw [hte];refine ⟨h1,h2,h3,h4,?_⟩;rw [hz];dsimp only;rw [hx];dsimp only;rw [hi];exact ⟨g1,g2,g3,g4,hk⟩,fun e=>bZ⟩
       ·exact h.elim
      ·exact h.elim
     ·exact h.elim
    ·exact h.elim
   ·exact h.elim
  ·exact h.elim
 ·exact h.elim
theorem zpt {fl:Nat} {op:Op} {K:AV→AHeap→Prop} (hdet:detOp P op=true) (h:aeff fl P s op K):∃r h',K r h'∧(∀K',K' r h'→aeff fl P s op K')∧(isEff op=false→h'=s.h):=by
 unfold aeff at h
 split at h
 ·exact ⟨_,_,h.2,fun K' hk=>by unfold aeff;exact ⟨h.1,hk⟩,fun e=>ai⟩
 ·exact ⟨_,_,h.2.2,fun K' hk=>by unfold aeff;exact ⟨h.1,h.2.1,hk⟩,fun e=>ai⟩
 ·rename_i t parts
  obtain ⟨h1,h2,h3⟩:=h
  split at h3
  ·rename_i fs hf
   exact ⟨_,_,h3.2.2,fun K' hk=>ed,fun _=>rfl⟩
  ·rename_i n e hf
   exact ⟨_,_,h3.2.2,fun K' hk=>ed,fun _=>rfl⟩
  ·exact h3.elim
 ·rename_i t len parts
  split at h
  ·rename_i e hf
   obtain ⟨h1,h2,h3,h4,h5,h6,h7⟩:=h
   split at h7
   ·rename_i ds hds
    exact ⟨_,_,h7,fun K' hk=>by unfold aeff;dsimp only;rw [hf];refine ⟨h1,h2,h3,h4,h5,h6,?_⟩;rw [hds];exact hk,fun e=>ai⟩
   ·rename_i hds
    exact ⟨_,_,h7.2,fun K' hk=>by unfold aeff;dsimp only;rw [hf];refine ⟨h1,h2,h3,h4,h5,h6,?_⟩;rw [hds];exact ⟨h7.1,hk⟩,fun e=>ai⟩
  ·exact h.elim
 ·rename_i t x y
  obtain ⟨h1,h2,h3,h4,h5,h6⟩:=h
  split at h6
  ·rename_i i o hx
   split at h6
   ·rename_i cs hi
    exact ⟨_,_,h6.2,fun K' hk=>dR,fun e=>ai⟩
   ·exact h6.elim
  ·rename_i i o hx
   split at h6
   ·rename_i tt cs hi
    exact ⟨_,_,h6.2,fun K' hk=>dR,fun e=>ai⟩
   ·exact h6.elim
  ·rename_i i n k r o hx
   split at h6
   ·rename_i k' xs hi
    obtain ⟨g1,g2,g3,g4,g5⟩:=h6
    split at g5
    ·rename_i ds hds
     exact ⟨_,_,g5,fun K' hk=>by unfold aeff;dsimp only;refine ⟨h1,h2,h3,h4,h5,?_⟩;rw [hx];dsimp only;rw [hi];refine ⟨g1,g2,g3,g4,?_⟩;rw [hds];exact hk,fun e=>ai⟩
    ·exact g5.elim
   ·exact h6.elim
  ·exact h6.elim
 ·rename_i op n1 n2 n3 n4 n5
  obtain ⟨r,h',q1,q2,q3⟩:=zqt hdet h
  refine ⟨r,h',q1,fun K' hk=>?_,q3⟩
  have:=q2 K' hk
  unfold aeff
  split
  ·rename_i t;exact (n1 t rfl).elim
  ·rename_i t x;exact (n2 t x rfl).elim
  ·rename_i t x;exact (n3 t x rfl).elim
  ·rename_i t x y;exact (n4 t x y rfl).elim
  ·rename_i t x y;exact (n5 t x y rfl).elim
  ·exact this
theorem zaf {G:Bool} {o:Oper} {R:Bool→AV→AHeap→Prop} (n1:∀x,o.op= .move x→False) (n2:∀x,o.op= .assign x→False) (n3:∀x y z,o.op= .pick x y z→False) (n4:∀c,o.op= .call c→False):
  fop cx tab s G o R↔(if isVal cx.P o.op=true then (G=true→(aval cx.P s o.op).1)∧R G (aval cx.P s o.op).2 s.h else G=true∧detOp cx.P o.op=true∧aeff cx.fl cx.P s o.op (fun r h'=>R true r h')):=by
 unfold fop
 split
 ·rename_i x ho;exact (n1 x ho).elim
 ·rename_i x ho;exact (n2 x ho).elim
 ·rename_i x y z ho;exact (n3 x y z ho).elim
 ·rename_i x ho;exact (n4 x ho).elim
 ·exact Iff.rfl
theorem zxw {G:Bool} {o:Oper} {R:Bool→AV→AHeap→Prop} (h:fop cx tab s G o R):∃g v h',R g v h'∧(∀R':Bool→AV→AHeap→Prop,R' g v h'→fop cx tab s G o R')∧(isEff o.op=false→h'=s.h):=by
 unfold fop at h
 split at h
 ·rename_i x ho
  exact ⟨_,_,_,h.2,fun R' hk=>by unfold fop;rw [ho];exact ⟨h.1,hk⟩,fun _=>rfl⟩
 ·rename_i x ho
  exact ⟨_,_,_,h.2,fun R' hk=>by unfold fop;rw [ho];exact ⟨h.1,hk⟩,fun _=>rfl⟩
 ·rename_i c a b ho
  split at h
  ·rename_i g1 c1 h1
   exact ⟨_,_,_,h.2,fun R' hk=>by unfold fop;rw [ho];dsimp only;rw [h1];exact ⟨h.1,hk⟩,fun _=>rfl⟩
  ·exact h.elim
 ·rename_i c ho
  split at h
  ·rename_i hv
   exact ⟨_,_,_,h.2,fun R' hk=>by unfold fop;rw [ho];dsimp only;rw [if_pos hv];exact ⟨h.1,hk⟩,fun _=>rfl⟩
  ·rename_i hv
   split at h
   ·rename_i f args vc hc
    split at h
    ·rename_i pre r ht
     exact ⟨_,_,_,h.2,fun R' hk=>by unfold fop;rw [ho];dsimp only;rw [if_neg hv,hc];dsimp only;rw [ht];exact ⟨h.1,hk⟩,fun _=>rfl⟩
    ·exact h.elim
   ·rename_i hc
    obtain ⟨rfl,h⟩:=h
    obtain ⟨r,h',q1,q2,q3⟩:=zpt rfl h
    exact ⟨true,r,h',q1,fun R' hk=>by unfold fop;rw [ho];dsimp only;rw [if_neg hv,hc];exact ⟨rfl,q2 _ hk⟩,by rw [ho];exact q3⟩
 ·rename_i n1 n2 n3 n4
  split at h
  ·rename_i hv
   refine ⟨_,_,_,h.2,fun R' hk=>?_,fun _=>rfl⟩
   unfold fop
   split
   ·rename_i x ho;exact (n1 x ho).elim
   ·rename_i x ho;exact (n2 x ho).elim
   ·rename_i x y z ho;exact (n3 x y z ho).elim
   ·rename_i x ho;exact (n4 x ho).elim
   ·rw [if_pos hv];exact ⟨h.1,hk⟩
  ·rename_i hv
   obtain ⟨rfl,hdt,h⟩:=h
   obtain ⟨r,h',q1,q2,q3⟩:=zpt hdt h
   refine ⟨true,r,h',q1,fun R' hk=>?_,q3⟩
   unfold fop
   split
   ·rename_i x ho;exact (n1 x ho).elim
   ·rename_i x ho;exact (n2 x ho).elim
   ·rename_i x y z ho;exact (n3 x y z ho).elim
   ·rename_i x ho;exact (n4 x ho).elim
   ·rw [if_neg hv];exact ⟨rfl,hdt,q2 _ hk⟩
theorem zva {G:Bool} {o:Oper} {K:AS→Prop} (hd:dstOk cx.nt o.dst) (h:fop cx tab s G o (fun g v h'=>K ({ s with h:=h' }.put o.dst g v))):aopT cx tab G o K s:=by
 unfold fop at h
 split at h
 ·rename_i x ho
  unfold aopT;rw [ho];dsimp only;rw [if_pos (show zdq cx.P _=true from rfl)];unfold aop;rw [ho];exact ⟨hd,h⟩
 ·rename_i x ho
  unfold aopT;rw [ho];dsimp only;rw [if_pos (show zdq cx.P _=true from rfl)];unfold aop;rw [ho];exact ⟨hd,h⟩
 ·rename_i c a b ho
  unfold aopT;rw [ho];dsimp only;rw [if_pos (show zdq cx.P _=true from rfl)];unfold aop;rw [ho]
  refine ⟨hd,?_⟩
  dsimp only
  split at h
  ·rename_i g1 c1 h1
   rw [h1];exact h
  ·exact h.elim
 ·rename_i c ho
  unfold aopT;rw [ho];dsimp only
  split at h
  ·rename_i hv
   rw [if_pos hv];unfold aop;rw [ho];dsimp only;rw [if_pos hv];exact ⟨hd,h⟩
  ·rename_i hv
   rw [if_neg hv]
   split at h
   ·rename_i f args vc hc
    rw [hc]
    dsimp only
    split at h
    ·rename_i pre r ht
     rw [ht];exact ⟨hd,h⟩
    ·exact h.elim
   ·rename_i hc
    rw [hc]
    obtain ⟨rfl,h⟩:=h
    refine ⟨hd,?_⟩
    rw [if_pos rfl]
    unfold aop1
    rw [ho];dsimp only
    rw [if_neg hv,hc]
    exact h
 ·rename_i n1 n2 n3 n4
  have hq:zdq cx.P o.op=isVal cx.P o.op:=by
   unfold zdq
   split
   ·rename_i x ho;exact (n1 x ho).elim
   ·rename_i x ho;exact (n2 x ho).elim
   ·rename_i x y z ho;exact (n3 x y z ho).elim
   ·rfl
  have e1:aopT cx tab G o K s=if zdq cx.P o.op then aop cx G o K s else aopS cx G o K s:=by
   unfold aopT
   split
   ·rename_i x ho;exact (n4 x ho).elim
   ·rfl
  rw [e1,hq]
  split at h
  ·rename_i hv
   rw [if_pos hv]
   refine ⟨hd,?_⟩
   split
   ·rename_i x ho;exact (n1 x ho).elim
   ·rename_i x ho;exact (n2 x ho).elim
   ·rename_i x y z ho;exact (n3 x y z ho).elim
   ·rw [if_pos hv];exact h
  ·rename_i hv
   rw [if_neg hv]
   obtain ⟨rfl, -,h⟩:=h
   refine ⟨hd,?_⟩
   rw [if_pos rfl]
   unfold aop1
   split
   ·rename_i x ho;exact (n1 x ho).elim
   ·rename_i x ho;exact (n2 x ho).elim
   ·rename_i x y z ho;exact (n3 x y z ho).elim
   ·rename_i x ho;exact (n4 x ho).elim
   ·rw [if_neg hv];exact h
theorem zyC {i:Nat} (hh:s.h=s'.h):s.esOf i=s'.esOf i:=by unfold AS.esOf;rw [hh]
theorem zqu {t:TypeId} {x y:AV} {ok:Bool} (hh:s.h=s'.h):zcc P s t x y ok=zcc P s' t x y ok:=by unfold zcc AS.esOf;rw [hh]
theorem zvb {t:TypeId} {x:AV} (hh:s.h=s'.h):zdF P s t x=zdF P s' t x:=by unfold zdF;rw [hh]
theorem zkA {t:TypeId} {x:AV} {f:Nat} (hh:s.h=s'.h):zaK P s t x f=zaK P s' t x f:=by unfold zaK AS.cur;rw [hh]
theorem zkB {t:TypeId} {x y:AV} (hh:s.h=s'.h):zaL P s t x y=zaL P s' t x y:=by unfold zaL AS.cur;rw [hh]
theorem zxx {t:TypeId} {x:AV} (hh:s.h=s'.h):avLen P s t x=avLen P s' t x:=by unfold avLen AS.cur;rw [hh]
theorem bnd_e {x:Option Operand} {d:Int} (he:∀y∈x.toList,s.ev y=s'.ev y):s.bnd x d=s'.bnd x d:=by
 cases x with
 |none=>rfl
 |some y=>simp only [AS.bnd,he y aa]
theorem all_e {l:List Operand} (he:∀y∈l,s.ev y=s'.ev y):(l.all fun x=>(s.ev x).1)=l.all fun x=>(s'.ev x).1:=by
 induction l with
 |nil=>rfl
 |cons a l ih=>simp only [List.all_cons,he a aa,ih (fun y hy=>he y (by simp [hy]))]
theorem map_e {l:List Operand} (he:∀y∈l,s.ev y=s'.ev y):(l.map fun x=>(s.ev x).2)=l.map fun x=>(s'.ev x).2:=List.map_congr_left fun y hy=>by rw [he y hy]
theorem zip_e {l:List Operand} (he:∀y∈l,s.ev y=s'.ev y) (ts:List TypeId):((l.zip ts).map fun p=>(s.ev p.1).2.tag P p.2)=(l.zip ts).map fun p=>(s'.ev p.1).2.tag P p.2:=
 List.map_congr_left fun p hp=>by rw [he p.1 (List.of_mem_zip hp).1]
theorem zwU {l:List (Nat×Operand)} (he:∀y∈l.map (·.2),s.ev y=s'.ev y):(l.all fun p=>(s.ev p.2).1)=l.all fun p=>(s'.ev p.2).1:=by
 induction l with
 |nil=>rfl
 |cons a l ih=>simp only [List.all_cons,he a.2 aa,ih (fun y hy=>he y (by simp only [List.map_cons,List.mem_cons];exact .inr hy))]
theorem zwV {l:List (Nat×Operand)} (he:∀y∈l.map (·.2),s.ev y=s'.ev y) (f:Nat→TypeId):(l.map fun p=>(p.1,((s.ev p.2).2.tag P (f p.1))))=l.map fun p=>(p.1,((s'.ev p.2).2.tag P (f p.1))):=
 List.map_congr_left fun p hp=>by rw [he p.2 (List.mem_map.2 ⟨p,hp,rfl⟩)]
end
open Go
section
variable {cx : Cx} {tab : Tab} {P : Program} {s s' : AS}
theorem zsC {t:TypeId} {x:AV} {lo hi mx:Option Operand} (hl:∀y∈lo.toList,s.ev y=s'.ev y) (hhi:∀y∈hi.toList,s.ev y=s'.ev y) (hm:∀y∈mx.toList,s.ev y=s'.ev y) (hh:s.h=s'.h):zc0 P s t x lo hi mx=zc0 P s' t x lo hi mx:=by
 unfold zc0
 cases mx<;>simp only [bnd_e hl,bnd_e hhi,bnd_e hm,AS.cur,hh]
theorem zvc {c:Call} (he:∀y∈c.args.toList,s.ev y=s'.ev y) (hh:s.h=s'.h):zeJ P s c=zeJ P s' c:=by
 have hm:c.args.toList.map s.ev=c.args.toList.map s'.ev:=List.map_congr_left he
 unfold zeJ
 rw [hm]
 split
 ·split
  ·rename_i x t hx ht
   rw [he x (by rw [hx];simp),zxx hh]
  ·rfl
 ·rfl
 ·rfl
 ·rfl
theorem zwW {op:Op} (he:∀x∈za4 op,s.ev x=s'.ev x) (hh:s.h=s'.h):aval P s op=aval P s' op:=by
 cases op
 case makeFunc f fs cs=>
  simp only [za4,Array.toList_append,List.mem_append] at he
  simp only [aval,Array.toList_append,List.all_append,all_e (fun y hy=>he y (.inl hy)),all_e (fun y hy=>he y (.inr hy)),map_e (fun y hy=>he y (.inl hy)),map_e (fun y hy=>he y (.inr hy))]
 case slice t x lo hi mx=>
  simp only [za4,List.mem_cons,List.mem_append] at he
  simp only [aval,he x (.inl rfl),zsC (fun y hy=>he y (.inr (.inl (.inl hy)))) (fun y hy=>he y (.inr (.inl (.inr hy)))) (fun y hy=>he y (.inr (.inr hy))) hh]
 case call c=>
  simp only [za4,List.mem_append] at he
  simp only [aval,zvc (fun y hy=>he y (.inr hy)) hh]
 all_goals
  simp only [za4,List.mem_cons,List.not_mem_nil,or_false,forall_eq_or_imp,forall_eq] at he
  simp only [aval,he,hh,zqu hh,zvb hh,zkA hh,zkB hh,AS.cur]
theorem zfk {c:Call} (he:∀x∈za4 (.call c),s.ev x=s'.ev x):zbg P s c=zbg P s' c:=by
 simp only [za4,List.mem_append] at he
 unfold zbg
 split
 ·rename_i f hf
  rw [hf] at he
  rw [he f (.inl aa),all_e (fun y hy=>he y (.inr hy)),zip_e (fun y hy=>he y (.inr hy))]
 ·rename_i f m hf
  rw [hf] at he
  rw [he f (.inl aa),all_e (fun y hy=>he y (.inr hy)),zip_e (fun y hy=>he y (.inr hy))]
 ·rfl
theorem zsD {k:Nat} {x:AV} (hh:s.h=s'.h):rowsK s k x=rowsK s' k x:=by unfold rowsK;rw [hh]
theorem zsE {k:Nat} {t:TypeId} {x:AV} (hh:s.h=s'.h):rowsT P s k t x=rowsT P s' k t x:=by unfold rowsT;rw [zsD hh]
theorem zsF {x:AV} {R:Bool→Prop} (hh:s.h=s'.h):zeL s x R=zeL s' x R:=by unfold zeL AS.cur;rw [hh]
theorem zvd {fl:Nat} {op:Op} {K:AV→AHeap→Prop} (he:∀x∈za4 op,s.ev x=s'.ev x) (hh:s.h=s'.h) (h:zaw fl P s op K):zaw fl P s' op K:=by
  cases op
  case call c=>
    simp only [za4,List.mem_append] at he
    unfold zaw at h ⊢
    dsimp only at h ⊢
    split at h
    · rename_i hcal
      try rw [hcal]
      try dsimp only
      split at h
      · rename_i x y t u ha ht
        try rw [ha,ht]
        try dsimp only
        rw [ha] at he
        rw [← he x (.inr aa),← he y (.inr aa),← hh]
        split at h
        · rename_i e hte
          try rw [hte]
          try dsimp only
          rw [← zsE hh]
          exact h
        · exact h.elim
      · exact h.elim
    · rename_i hcal
      try rw [hcal]
      try dsimp only
      split at h
      · rename_i x y t u ha ht
        try rw [ha,ht]
        try dsimp only
        rw [ha] at he
        rw [← he x (.inr aa),← he y (.inr aa),← hh]
        split at h
        · rename_i e hte
          try rw [hte]
          try dsimp only
          rw [← zsE hh]
          exact h
        · exact h.elim
      · exact h.elim
    · rename_i hcal
      try rw [hcal]
      try dsimp only
      split at h
      · rename_i x t ha ht
        try rw [ha,ht]
        try dsimp only
        rw [ha] at he
        rw [← he x (.inr aa),← hh]
        split at h
        · rename_i e hte
          try rw [hte]
          try dsimp only
          exact h
        · exact h.elim
      · exact h.elim
    · exact h.elim
  all_goals first
    | (simp only [za4,List.mem_cons,List.not_mem_nil,or_false,forall_eq_or_imp,forall_eq] at he
       simp only [zaw,he,hh,zyC hh,zsD hh,zsF hh] at h ⊢ <;>exact h)
    |(simp only [zaw,hh] at h ⊢ <;>exact h)
theorem zwX {fl:Nat} {op:Op} {K:AV→AHeap→Prop} (he:∀x∈za4 op,s.ev x=s'.ev x) (hh:s.h=s'.h) (h:aeff fl P s op K):aeff fl P s' op K:=by
  cases op
  case build t parts=>
    simp only [za4] at he
    have e1:=zwU he
    have e2:∀f:Nat→TypeId,(parts.toList.map fun p=>(p.1,((s.ev p.2).2.tag P (f p.1))))=parts.toList.map fun p=>(p.1,((s'.ev p.2).2.tag P (f p.1))):=fun f=>zwV he f
    simp only [aeff] at h ⊢
    rw [← e1,← hh]
    refine ⟨h.1,h.2.1,?_⟩
    have h3:=h.2.2
    split at h3
    · rename_i fs hf
      rw [← e2 (fun i=>(fs.getD i (0,0)).2)]
      exact h3
    · rename_i n e hf
      rw [← e2 (fun _=>e)]
      exact h3
    · exact h3
  case buildSlice t len parts=>
    simp only [za4] at he
    have e1:=zwU he
    have e2:∀f:Nat→TypeId,(parts.toList.map fun p=>(p.1,((s.ev p.2).2.tag P (f p.1))))=parts.toList.map fun p=>(p.1,((s'.ev p.2).2.tag P (f p.1))):=fun f=>zwV he f
    simp only [aeff] at h ⊢
    split at h
    · rename_i e hf
      rw [← e1,← hh,← e2 (fun _=>e)]
      exact h
    · exact h
  all_goals first
    |(have h2:=zvd (fl:=fl) (K:=K) he hh (by simpa only [aeff] using h);simpa only [aeff] using h2)
    | (simp only [za4,List.mem_cons,List.not_mem_nil,or_false,forall_eq_or_imp,forall_eq] at he
       simp only [aeff,he,hh] at h ⊢ <;>exact h)
    |(simp only [aeff,hh] at h ⊢ <;>exact h)
theorem fop_e {G:Bool} {o:Oper} {R:Bool→AV→AHeap→Prop} (he:∀x∈za4 o.op,s.ev x=s'.ev x∧known s x=known s' x) (hh:s.h=s'.h) (h:fop cx tab s G o R):fop cx tab s' G o R:=by
 have he1:∀x∈za4 o.op,s.ev x=s'.ev x:=fun x hx=>(he x hx).1
 unfold fop at h
 split at h
 ·rename_i x ho
  rw [ho] at he
  have:=he x (by simp [za4])
  rw [this.1,this.2,hh] at h
  unfold fop;rw [ho];exact h
 ·rename_i x ho
  rw [ho] at he
  have:=he x (by simp [za4])
  rw [this.1,this.2,hh] at h
  unfold fop;rw [ho];exact h
 ·rename_i c a b ho
  rw [ho] at he1
  simp only [za4,List.mem_cons,List.not_mem_nil,or_false,forall_eq_or_imp,forall_eq] at he1
  rw [he1.1,he1.2.1,he1.2.2,hh] at h
  unfold fop;rw [ho];exact h
 ·rename_i c ho
  rw [ho] at he1
  have hae:∀ (K:AV→AHeap→Prop),aeff cx.fl cx.P s (.call c) K→aeff cx.fl cx.P s' (.call c) K:=fun K hk=>zwX he1 hh hk
  rw [zwW he1 hh,zfk he1,hh] at h
  unfold fop;rw [ho];dsimp only
  split at h
  ·rename_i hv;rw [if_pos hv];exact h
  ·rename_i hv
   rw [if_neg hv]
   split at h
   ·exact h
   ·exact ⟨h.1,hae _ h.2⟩
 ·rename_i n1 n2 n3 n4
  rw [zwW he1 hh,hh] at h
  refine (zaf n1 n2 n3 n4).mpr ?_
  split at h
  ·rename_i hv
   rw [if_pos hv];exact h
  ·rename_i hv
   rw [if_neg hv]
   exact ⟨h.1,h.2.1,zwX he1 hh h.2.2⟩
end
end Go.Aw
