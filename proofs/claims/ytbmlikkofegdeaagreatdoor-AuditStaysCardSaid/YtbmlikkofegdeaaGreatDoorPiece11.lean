/-
  Parts of the proof: AwIter, AwRange (short names; the readable texts lie in the repo, under wip).
-/
import Derived.Test.YtbmlikkofegdeaaGreatDoorPiece10
set_option maxRecDepth 100000
set_option maxHeartbeats 2000000
set_option linter.unusedSimpArgs false
set_option linter.unusedVariables false
namespace Go.Aw
open Go
structure Yo (P:Program) (items:List (List AV)) where
 yl:Nat
 G:Option (List (List AV))->(Nat->Prop)->(Nat->Prop)->(Nat->Prop)->World->Prop
 stab:∀g M N A A' w w',(∀b,b<w.heap.size->¬A b->w'.heap[b]?=w.heap[b]?)->(∀b,A' b->A b\/w.heap.size<=b)->(∀b,A' b->b<w'.heap.size)->w.heap.size<=w'.heap.size->w'.tape=w.tape->w'.os=w.os->w'.output=w.output->G g M N A w->G g M N A' w'
 yok:∀xs x X M N A w (vs:Array Value),G (some xs) M N A w->(∀b,M b\/N b\/A b->X b)->Reps w (bare X) [] x vs.toList->(xs++ [x])<+:items->
  zkG P yl vs w (λe w'=>∃b M',e= .returned (.bool b)/\w'.os=w.os/\w'.tape=w.tape/\w'.output=w.output/\w.heap.size<=w'.heap.size/\(∀k,k<w.heap.size->¬M k->w'.heap[k]?=w.heap[k]?)/\
   (∀k,M k->M' k)/\(∀k,M' k->M k\/(w.heap.size<=k/\k<w'.heap.size))/\G (if b=true then some (xs++ [x]) else none) M' N A w')
def cxY (P:Program) {items:List (List AV)} (base nt fl:Nat) (y:Yo P items):Cx:= { P:=P,ro:=none,base:=base,nt:=nt,fl:=fl,G:=y.G,stab:=y.stab,yl:=y.yl,items:=items,yok:=y.yok }
def AIter (P:Program) (f:FuncId) (fl:Nat) (pre caps:List AV) (h:AHeap) (items:List (List AV)) (K:Option (List (List AV))->AHeap->Prop):Prop:=
 zgy P f/\∀ (y:Yo P items) E w (us vs:Array Value),SatH E h w->Reps w E h pre us.toList->Reps w E h caps vs.toList->y.G (some []) E.M E.N (Own E h) w->
  Calls P f (us++ #[Value.func (.yield y.yl) #[] #[]]++vs) w (λe w'=>∃v E' h' g,e= .returned v/\K g h'/\SatH E' h' w'/\Evo fl E h w E' h' w'/\y.G g E'.M E'.N (Own E' h') w')
def IterK (K:Option (List (List AV))->AHeap->Prop):Exit->AS->Prop
 | .normal,s=>K s.g s.h
 | .ret,s=>K s.g s.h
 |_,_=>False
section
variable {P : Program}
theorem zmb {f:FuncId} {fn:Func} {c:Code} {nt fl:Nat} {pre caps:List AV} {h:AHeap} {items:List (List AV)} {K:Option (List (List AV))->AHeap->Prop} (hf:P.funcs[f]?=some fn) (hb:fn.body=some c) (hnt:fn.ntmps=nt) (hres:fn.results= #[]) (hn:pre.length+caps.length+1<=nt) (y:Yo P items)
  (haw:∀base,AW (cxY P base nt fl y) c (IterK K) { t:=za8 0 (pre++ .fn (.yield y.yl) [] []::caps),h:=h,g:=some [] }) {E:Env} {w:World} {us vs:Array Value} (hs:SatH E h w) (hp:Reps w E h pre us.toList) (hc:Reps w E h caps vs.toList) (hG:y.G (some []) E.M E.N (Own E h) w):
  Calls P f (us++ #[Value.func (.yield y.yl) #[] #[]]++vs) w (λe w'=>∃v E' h' g,e= .returned v/\K g h'/\SatH E' h' w'/\Evo fl E h w E' h' w'/\y.G g E'.M E'.N (Own E' h') w'):=by
 refine (callsIn_wide (n:=0)).1 (callsIn_of_wp_marks hf hb trivial ?_ rfl);subst hnt
 have hargs:Reps w E h (pre++ .fn (.yield y.yl) [] []::caps) (us++ #[Value.func (.yield y.yl) #[] #[]]++vs).toList:=by simp only [Array.toList_append,List.append_assoc];refine hp.append ?_;simp only [List.singleton_append,Reps];exact ⟨_,_,rfl,by simp [Rep,Reps],hc⟩
 have hlen:=Reps.length hargs
 have hsat:Sat (cxY P w.heap.size fn.ntmps fl y) E { t:=za8 0 (pre++ .fn (.yield y.yl) [] []::caps),h:=h,g:=some [] } { tmps:=(us++ #[Value.func (.yield y.yl) #[] #[]]++vs)++Array.replicate (fn.ntmps - (us++ #[Value.func (.yield y.yl) #[] #[]]++vs).size) undef,defers:= [] } w:=by
  refine ⟨λk g v hk=>?_,?_,hs,Nat.le_refl _,⟨by simp,by simp⟩,?_⟩
  ·obtain ⟨rfl,_,hv⟩:=zfm _ 0 k hk;obtain ⟨x,hx,hrx⟩:=Reps.get hargs hv;have hx':(us++ #[Value.func (.yield y.yl) #[] #[]]++vs)[k]?=some x:=by rw [<-Array.getElem?_toList];simpa using hx
   have hk':=(Array.getElem?_eq_some_iff.1 hx').1;exact ⟨x,by rw [Array.getElem?_append_left hk'];exact hx',λ_=>hrx,λe=>by cases e⟩
  ·have:(us++ #[Value.func (.yield y.yl) #[] #[]]++vs).size=pre.length+(caps.length+1):=by have:=hlen;rw [Array.length_toList] at this;simpa using this
   show (_++Array.replicate _ undef).size=fn.ntmps;rw [Array.size_append,Array.size_replicate];omega
  ·exact y.stab _ _ _ _ _ w _ (λ_ _ _=>rfl) (λb hb=> .inl (hb.elim id (λ⟨d,hd,_⟩=>by simp at hd))) (λb hb=>hb.elim (λh=>(hs.own b h).1) (λ⟨d,hd,_⟩=>by simp at hd)) (Nat.le_refl _) rfl rfl rfl hG
 refine wpIn_mono (haw w.heap.size E _ w hsat) ?_;intro e a2 w2 hr2
 have key:Reach (cxY P w.heap.size fn.ntmps fl y) E h w (λs=>K s.g s.h) a2 w2->LeavesInM Fence.wide 0 P fn a2.tmps (λe w'=>∃v E' h' g,e= .returned v/\K g h'/\SatH E' h' w'/\Evo fl E h w E' h' w'/\y.G g E'.M E'.N (Own E' h') w') a2.defers .returning w2:=by
  rintro ⟨E2,s2,hK,hs2,he2⟩;refine zfn a2.defers w2 hs2.marks (λw3 sh hoth=>?_);have hp3:SatH E2 s2.h w3:=hs2.hp.refit sh rfl rfl (λ_ _ h=>h) (λb hb=>(hs2.hp.own b hb).2) hs2.hp.mlt hs2.hp.nlt;refine ⟨.tuple #[],by rw [zkb,hres];simp,_,E2,s2.h,s2.g,rfl,hK,hp3,?_,?_⟩
  ·refine ⟨sh.os.trans he2.os,sh.tape.trans he2.tape,sh.output.trans he2.output,by rw [sh.size];exact he2.size,λb hb ho hm=>(sh.low b hb).trans (he2.keep b hb ho hm),he2.own,he2.m1,he2.m2,he2.n,he2.go⟩
  ·exact y.stab _ _ _ _ _ w2 _ (λb _ hb=>hoth b (λhm=>hb (.inr hm))) (λb hb=> .inl (.inl hb)) (λb hb=>(hp3.own b hb).1) (by rw [sh.size];exact Nat.le_refl _) sh.tape sh.os sh.output hs2.ghost
 cases e with
 |normal=>exact key hr2
 |ret=>exact key hr2
 |exit id=>obtain ⟨_,_,h,_⟩:=hr2;exact h.elim
 |goto id=>obtain ⟨_,_,h,_⟩:=hr2;exact h.elim
 |panic c=>obtain ⟨_,_,h,_⟩:=hr2;exact h.elim
 |outgrown=>obtain ⟨_,_,h,_⟩:=hr2;exact h.elim
theorem zkR {f:FuncId} {fn:Func} {c:Code} {nt fl:Nat} {pre caps:List AV} {h:AHeap} {items:List (List AV)} {K:Option (List (List AV))->AHeap->Prop} (hf:P.funcs[f]?=some fn) (hb:fn.body=some c) (hen:zgy P f) (hnt:fn.ntmps=nt) (hres:fn.results= #[]) (hn:pre.length+caps.length+1<=nt)
  (haw:∀base (y:Yo P items),AW (cxY P base nt fl y) c (IterK K) { t:=za8 0 (pre++ .fn (.yield y.yl) [] []::caps),h:=h,g:=some [] }):AIter P f fl pre caps h items K:=
 ⟨hen,λy _ _ _ _ hs hp hc hG=>zmb hf hb hnt hres hn y (λbase=>haw base y) hs hp hc hG⟩
end
def zha (P:Program) (s:AS) (c:Call):Option (Nat×List AV×Prop):=
 match c.callee with
 | .value f=>match s.ev f with
  |(g,.fn (.yield l) [] [])=>some (l,((c.args.toList.zip (c.argTypes.toList++List.replicate c.args.size 0)).map λp=>(s.ev p.1).2.tag P p.2),g=true/\(c.args.toList.all λx=>(s.ev x).1)=true)
  |_=>none
 |_=>none
def aopY (cx:Cx) (tab:Tab) (G:Bool) (o:Oper) (K:AS->Prop) (s:AS):Prop:=
 match o.op with
 | .call c=>(match zha cx.P s c with
  |some (l,args,vc)=>dstOk cx.nt o.dst/\(if G=true then vc/\l=cx.yl/\AV.idsL args= []/\(match s.g with
   |some xs=>(xs++ [args])<+:cx.items/\K ({ s with g:=some (xs++ [args]) }.put o.dst true (.d (.bool true)))/\K ({ s with g:=none }.put o.dst true (.d (.bool false)))
   |none=>False) else K (s.put o.dst false (.d (.bool false))))
  |none=>aopT cx tab G o K s)
 |_=>aopT cx tab G o K s
def aopsY (cx:Cx) (tab:Tab) (all:Array Oper):List Oper->(AS->Prop)->AS->Prop
 | [],K,s=>K s
 |o::r,K,s=>match zbi s all o.guard with
  |some G=>aopY cx tab G o (aopsY cx tab all r K) s
  |none=>False
section
variable {cx : Cx} {tab : Tab} {E : Env} {s : AS} {a : Act} {w : World}
theorem znH {ro:Option Nat} {P:Program} {l:Nat} {f:FuncId} {tmps:Array Value} {assign body:Code} {w:World} {R:Ending->World->Prop} (n:Nat) (h:RoundIn Fence.wide n P l f tmps assign body w R):RoundIn { Fence.wide with round:=ro } n P l f tmps assign body w R:=h
theorem zul {o:Oper} {c:Call} (hop:o.op= .call c) {l:Nat} {args:List AV} {vc:Prop} (hy:zha cx.P s c=some (l,args,vc)) {K:AS→Prop} {Q:Exit→Act→World→Prop} (hs:Sat cx E s a w) (hd:dstOk cx.nt o.dst) (hvc:vc) (hl:l=cx.yl) (hids:AV.idsL args= [])
    {xs:List (List AV)} (hg:s.g=some xs) (hpre:(xs++ [args])<+:cx.items) (k1:K ({ s with g:=some (xs++ [args]) }.put o.dst true (.d (.bool true)))) (k2:K ({ s with g:=none }.put o.dst true (.d (.bool false)))):
    o.wpIn cx.F 0 cx.P a w (Reach cx E s.h w K) Q:=by
  obtain ⟨dst,op,ot,pos,after,guard⟩:=o
  dsimp only at hop hd k1 k2
  subst hop
  obtain ⟨callee,cargs,ctypes⟩:=c
  have hdst:∀k,dst=some k→k<cx.nt:=fun k e=>by rw [e] at hd;exact hd
  cases callee with
  |invoke r m=>simp [zha] at hy
  |builtin b=>simp [zha] at hy
  | value fo=>
    simp only [zha] at hy
    split at hy
    case h_2=>cases hy
    case h_1 g n hef=>
      simp only [Option.some.injEq,Prod.mk.injEq] at hy
      obtain ⟨rfl,rfl,rfl⟩:=hy
      obtain ⟨hgd,hall⟩:=hvc
      subst hl
      have hf:=ev_ok hs.slots fo (by rw [hef];exact hgd)
      rw [hef] at hf
      simp only [Rep] at hf
      obtain ⟨pf,qc,hfv,hfs,hcs⟩:=hf
      have hpf:pf= #[]:=by simp only [Reps] at hfs;simpa using hfs
      have hqc:qc= #[]:=by simp only [Reps] at hcs;simpa using hcs
      subst hpf hqc
      have hargs:Reps w E s.h ((cargs.toList.zip (ctypes.toList++List.replicate cargs.size 0)).map fun p=>(s.ev p.1).2.tag cx.P p.2) (cargs.map a.eval).toList:=by
        have key:∀ (l:List Operand) (ts:List TypeId),l.length≤ts.length→(l.all fun x=>(s.ev x).1)=true→Reps w E s.h ((l.zip ts).map fun p=>(s.ev p.1).2.tag cx.P p.2) (l.map a.eval):=by
          intro l
          induction l with
          |nil=>intro ts _ _;simp [Reps]
          | cons x l ih=>
            intro ts hl ha
            cases ts with
            |nil=>simp at hl
            | cons t ts=>
              simp only [List.all_cons,Bool.and_eq_true] at ha
              simp only [List.zip_cons_cons,List.map_cons,Reps]
              exact ⟨_,_,rfl,Rep.tag (ev_ok hs.slots x ha.1),ih ts (by simpa using hl) ha.2⟩
        rw [Array.toList_map]
        exact key _ _ (by simp) hall
      obtain ⟨X,hX⟩:∃X:Nat→Prop,X=fun b=>Xs E s.h b∨zaV a.defers b:=⟨_,rfl⟩
      have hb:Reps w (bare X) [] ((cargs.toList.zip (ctypes.toList++List.replicate cargs.size 0)).map fun p=>(s.ev p.1).2.tag cx.P p.2) (cargs.map a.eval).toList:=by
        refine Reps.stepc (fun b c T fz hc hx=>?_) (fun _ _ _ _ h _=>h) _ _ (by rw [hids];simp) hargs
        rcases hx with ⟨i,hi,_⟩|hx|hx
        · simp [hget] at hi
        · exact hx.elim
        · rw [hX] at hx
          rcases hx with hx|⟨d,hdm,hdt⟩
          · exact hx
          · obtain ⟨r,h1,h2,_⟩:=hs.marks.1 d hdm
            rw [h1] at hdt
            cases hdt
            rw [h2] at hc;cases hc
      have hgh:=hs.ghost
      rw [hg] at hgh
      obtain ⟨fn,tmps,assign,body,hrun,hround⟩:=cx.yok xs _ X E.M E.N _ w (cargs.map a.eval) hgh (fun b hb=>by
        rw [hX]
        rcases hb with hb|hb|hb|hb
        · exact .inl (.inr (.inl hb))
        · exact .inl (.inr (.inr hb))
        · exact .inl (.inl hb)
        · exact .inr hb) hb hpre
      refine ⟨fun _ _=>trivial,?_⟩
      rw [Oper.semAt_eq _ _ _ (by simp)]
      have hexec:(execOp a.eval ⟨dst,.call ⟨.value fo,cargs,ctypes⟩,ot,pos,after,guard⟩).run cx.P w= .ok (.round cx.yl fn tmps assign body) w:=by
        simp only [execOp,resolve,hfv,Deferred.ofValue,Sem.run_bind,Sem.run_pure,Result.andThen_ok,invoke]
        have e1:(#[]:Array Value)++cargs.map a.eval=cargs.map a.eval:=by simp
        rw [e1]
        exact hrun
      rw [hexec]
      simp only [Oper.uponIn_round]
      refine ⟨(fun h=>by cases h),?_⟩
      refine (znH _ hround).mono ?_
      rintro e w' ⟨b,M',rfl,q1,q2,q3,q4,q5,q6,q7,q8⟩
      obtain ⟨E',hE'⟩:∃E':Env,E'= { E with M:=M' } :=⟨_,rfl⟩
      have hO:E'.O=E.O:=by rw [hE']
      have hC:E'.C=E.C:=by rw [hE']
      have hM:E'.M=M':=by rw [hE']
      have hN:E'.N=E.N:=by rw [hE']
      have hown:∀k,Own E' s.h k↔Own E s.h k:=fun k=>by unfold Own;rw [hO]
      have hXk:∀k,k<w.heap.size→Xs E' s.h k→Xs E s.h k:=fun k hk hx=>by
        rcases hx with hx|hx|hx
        · exact .inl ((hown k).1 hx)
        · rw [hM] at hx
          rcases q7 k hx with h|h
          · exact .inr (.inl h)
          · omega
        · exact .inr (.inr (by rwa [hN] at hx))
      have hKk:∀k,k<w.heap.size→¬Xs E s.h k→w'.heap[k]?=w.heap[k]?:=fun k hk hx=>q5 k hk (fun hm=>hx (.inr (.inl hm)))
      have hKo:∀k,Own E s.h k→w'.heap[k]?=w.heap[k]?:=fun k ho=>q5 k (hs.hp.own k ho).1 (hs.hp.own k ho).2.1
      have hgo:∀j,GoesOn E s.h E' s.h j:=fun j=>by
        unfold GoesOn
        rw [hO,hC]
        split<;>simp_all
      have hrep:∀x y,Rep w E s.h x y→Rep w' E' s.h x y:=fun x y hxy=>Rep.step hXk hKk x y (fun j _=>hgo j) hxy
      have hp':SatH E' s.h w':=by
        refine ⟨fun i ob ho=>?_,by rw [hO];exact hs.hp.inj,fun k hk=>?_,fun k hk=>?_,fun k hk=>?_⟩
        · have:=hs.hp.heap i ob ho
          have hoi:∀k,E.O i=some k→w'.heap[k]?=w.heap[k]?:=fun k hk=>hKo k ⟨i,by simp [ho],hk⟩
          cases ob with
          | var cs=>
            simp only [RepObj,hO] at this ⊢
            obtain ⟨b,c,T,fz,g1,g2,g3,g4⟩:=this
            exact ⟨b,c,T,fz,g1,(hoi b g1).trans g2,Reps.step hXk hKk _ _ (fun j _=>hgo j) g3,g4⟩
          | tvar tt cs=>
            simp only [RepObj,hO] at this ⊢
            obtain ⟨b,c,T,fz,g1,g2,g3,g4⟩:=this
            exact ⟨b,c,T,fz,g1,(hoi b g1).trans g2,Reps.step hXk hKk _ _ (fun j _=>hgo j) g3,g4⟩
          | arr k xs=>
            simp only [RepObj,hO,hC] at this ⊢
            rcases this with g|⟨b,c,T,fz,g1,g2,g3,g4,g5,g6⟩
            · exact .inl g
            · exact .inr ⟨b,c,T,fz,g1,(hoi b g1).trans g2,g3,g4,RepRows.step hXk hKk _ _ _ g5,g6⟩
          | buf tt xs=>
            simp only [RepObj,hO,hC] at this ⊢
            rcases this with g|⟨b,c,T,fz,g1,g2,g3,g4,g5,g6⟩
            · exact .inl g
            · exact .inr ⟨b,c,T,fz,g1,(hoi b g1).trans g2,g3,g4,g5,g6⟩
          | strit l q=>
            simp only [RepObj,hO] at this ⊢
            obtain ⟨b,g1,g2⟩:=this
            exact ⟨b,g1,(hoi b g1).trans g2⟩
          | omap es=>
            simp only [RepObj,hO] at this ⊢
            obtain ⟨b,m,cl,g1,g2,g3⟩:=this
            exact ⟨b,m,cl,g1,(hoi b g1).trans g2,g3⟩
        · have ho:=hs.hp.own k ((hown k).1 hk)
          refine ⟨Nat.lt_of_lt_of_le ho.1 q4,fun hm=>?_,by rw [hN];exact ho.2.2⟩
          rw [hM] at hm
          rcases q7 k hm with h|h
          · exact ho.2.1 h
          · omega
        · rw [hM] at hk
          rcases q7 k hk with h|h
          · exact Nat.lt_of_lt_of_le (hs.hp.mlt k h) q4
          · exact h.2
        · rw [hN] at hk;exact Nat.lt_of_lt_of_le (hs.hp.nlt k hk) q4
      have hev:Evo cx.fl E s.h w E' s.h w':=⟨q1,q2,q3,q4,fun k hk _ hm=>q5 k hk hm,fun k hk=> .inl ((hown k).1 hk),fun k hk=>by rw [hM];exact q6 k hk,fun k hk=>by rw [hM] at hk;exact (q7 k hk).imp id (·.1),hN,fun i _ hi=>⟨hi,hgo i⟩⟩
      have hsat:∀g',cx.G g' M' E.N (fun b=>Own E s.h b∨zaV a.defers b) w'→Sat cx E' { s with g:=g' } a w':=fun g' hG=>
        { slots:=fun k gg v hk=>by
            obtain ⟨x,h1,h2,h3⟩:=hs.slots k gg v hk
            exact ⟨x,h1,fun e=>hrep _ _ (h2 e),h3⟩
          nt:=hs.nt
          hp:=hp'
          base:=Nat.le_trans hs.base q4
          marks:=⟨fun d hd=>by
            obtain ⟨r,h1,h2,h3,h4⟩:=hs.marks.1 d hd
            have hr:=(Array.getElem?_eq_some_iff.1 h2).1
            exact ⟨r,h1,(q5 r hr h4).trans h2,h3,fun hm=>by
              rw [hM] at hm
              rcases q7 r hm with h|h
              · exact h4 h
              · omega⟩,hs.marks.2⟩
          ghost:=by
            rw [hM,hN]
            refine cx.stab _ _ _ _ _ w' _ (fun _ _ _=>rfl) (fun k hk=> .inl (hk.imp (hown k).1 id)) (fun k hk=>hk.elim (fun h=>(hp'.own k h).1) (fun h=>Nat.lt_of_lt_of_le (hs.marks.lt h) q4)) (Nat.le_refl _) rfl rfl rfl hG }
      cases b with
      | true=>
        simp only [if_true] at q8
        have:=hsat _ q8
        exact ⟨E',_,k1,this.put hdst (fun _=>by simp [Rep,RepD]) (fun e=>by cases e),by cases dst<;>exact hev⟩
      | false=>
        simp only [Bool.false_eq_true,if_false] at q8
        have:=hsat _ q8
        exact ⟨E',_,k2,this.put hdst (fun _=>by simp [Rep,RepD]) (fun e=>by cases e),by cases dst<;>exact hev⟩
theorem zkS (ht:TabOk cx.P tab) {all:Array Oper} {o:Oper} {G:Bool} {K:AS->Prop} {Q:Exit->Act->World->Prop} (hs:Sat cx E s a w) (hg:zbi s all o.guard=some G) (h:aopY cx tab G o K s):
  if Region.wanted o (yielded all a.tmps) then o.wpIn cx.F 0 cx.P a w (Reach cx E s.h w K) Q else (∀f,o.about cx.P w a.eval=some f->cx.F.fn f)/\Reach cx E s.h w K (a.put o.dst undef) w:=by
 unfold aopY at h;split at h
 ·rename_i c hop;split at h
  ·rename_i l args vc hy;obtain ⟨hd,h⟩:=h;rw [zev hs.slots hg];cases G with
   | true=>
    simp only [if_true] at h ⊢;obtain ⟨h1,h2,h3,h4⟩:=h;split at h4
    ·rename_i xs hx;exact zul hop hy hs hd h1 h2 h3 hx h4.1 h4.2.1 h4.2.2
    ·exact h4.elim
   |false=>
    simp only [Bool.false_eq_true,if_false] at h ⊢;exact ⟨λ_ _=>trivial,E,_,h,hs.put (λk e=>by rw [e] at hd;exact hd) (λe=>by cases e) (λ_=>rfl),by cases o.dst<;>exact Evo.refl _ _ _ _⟩
  ·exact ziq ht hs hg h
 ·exact ziq ht hs hg h
theorem zh1 (ht:TabOk cx.P tab) {all:Array Oper} :∀ (l:List Nat) (ops:List Oper) {K:AS->Prop} {s:AS} {E:Env} {a:Act} {w:World},l.map (all[·]?)=ops.map some->Sat cx E s a w->aopsY cx tab all ops K s->
  wpOpsIn cx.F 0 cx.P all (λe a' w'=>e= .normal/\Reach cx E s.h w K a' w') l a w
 | [],ops,K,s,E,a,w,hl,hs,h=>by
  have:ops= []:=by simpa using hl.symm
  subst this;exact ⟨rfl,zgg hs h⟩
 |i::l,[],K,s,E,a,w,hl,hs,h=>by simp at hl
 | i::l,o::ops,K,s,E,a,w,hl,hs,h=>by
  simp only [List.map_cons,List.cons.injEq] at hl;obtain ⟨hi,hl⟩:=hl;simp only [aopsY] at h;split at h
  ·rename_i G hg;simp only [wpOpsIn,hi];have:=zkS ht (Q:=λ_ _ _=>False) hs hg h;split at this
   ·rename_i hw;rw [if_pos hw];refine zbx this ?_;rintro a1 w1 ⟨E1,s1,hk,hs1,he1⟩;have ih:=zh1 ht l ops hl hs1 hk;refine zaR _ ih ?_;rintro e a2 w2 ⟨rfl,hr⟩;exact ⟨rfl,hr.trans he1⟩
   ·rename_i hw;rw [if_neg hw];refine ⟨this.1,?_⟩;obtain ⟨E1,s1,hk,hs1,he1⟩:=this.2;have ih:=zh1 ht l ops hl hs1 hk;refine zaR _ ih ?_;rintro e a2 w2 ⟨rfl,hr⟩;exact ⟨rfl,hr.trans he1⟩
  ·exact h.elim
theorem zkd {id:Nat} {ops:Array Oper} {Q:Exit->AS->Prop} (tab:Tab) (ht:TabOk cx.P tab) (h:aopsY cx tab ops ops.toList (Q .normal) s):AW cx (.region id ops false) Q s:=λE a w hs=>
 wpIn_region (zaR _ (zh1 ht _ _ (zim ops) hs h) (by rintro e a' w' ⟨rfl,hr⟩;exact hr))
theorem zjH {id:Nat} {ops:Array Oper} {y:Code} {Q:Exit->AS->Prop} (tab:Tab) (ht:TabOk cx.P tab) (h:∀K,(∀s',AW cx y Q s'->K s')->aopsY cx tab ops ops.toList K s):AW cx (.seq (.region id ops false) y) Q s:=
 zaM λK hK=>zkd tab ht (h K hK)
def keepT (h:AHeap) (t:List (Nat×(Bool×AV))):List (Nat×(Bool×AV)):=t.map λq=>(q.1,(q.2.1,if (q.2.2.ids.all λi=>(hget h i).isSome)=true then q.2.2 else .any))
theorem zkT {h:AHeap} :∀ (t:List (Nat×(Bool×AV))) (k:Nat),lk (keepT h t) k=(lk t k).map λq=>(q.1,if (q.2.ids.all λi=>(hget h i).isSome)=true then q.2 else .any)
  | [],k=>rfl
  | (j,(g,v))::r,k=>by
    have ih:=zkT (h:=h) r k;unfold keepT at ih ⊢;simp only [List.map_cons,lk];by_cases e:j=k
    · simp [e]
    · simp only [e,if_false];exact ih
theorem zwI {c:Code} {Q:Exit→AS→Prop} (p:Nat→Bool) (hin:inH (hsel p s.h) (idsH (hsel p s.h))) (h:AW cx c Q { t:=keepT (hsel p s.h) s.t,h:=hsel p s.h,g:=s.g }):AW cx c Q s:=fun E a w hs=>by
  have hcl:zhI p s.h:=fun i o ho hp j hj=>by
    have h1:hget (hsel p s.h) i=some o:=by rw [zx,if_pos hp];exact ho
    have:=zgZ hin j (zgu h1 j hj)
    rw [zx] at this
    split at this
    · assumption
    · simp at this
  have hs':Sat cx E { t:=keepT (hsel p s.h) s.t,h:=hsel p s.h,g:=s.g } a w:=
    { slots:=fun k g v hk=>by
        have hk':lk (keepT (hsel p s.h) s.t) k=some (g,v):=hk
        rw [zkT] at hk'
        obtain ⟨q,hq,e⟩:=Option.map_eq_some_iff.1 hk'
        obtain ⟨g',v'⟩:=q
        simp only [Prod.mk.injEq] at e
        obtain ⟨rfl,rfl⟩:=e
        obtain ⟨x,h1,h2,h3⟩:=hs.slots k g' v' hq
        refine ⟨x,h1,fun e=>?_,h3⟩
        split
        · rename_i hall
          refine zrR (fun j hj=>?_) (h2 e)
          have:=List.all_eq_true.1 hall j hj
          rw [zx] at this
          split at this
          · assumption
          · simp at this
        · simp only [Rep]
      nt:=hs.nt
      hp:=znG hs.hp hcl
      base:=hs.base
      marks:=hs.marks
      ghost:=cx.stab _ _ _ _ _ w _ (fun _ _ _=>rfl) (fun _ hb=> .inl (hb.imp zY id)) (fun b hb=>hb.elim (fun h=>(hs.hp.own b (zY h)).1) hs.marks.lt) (Nat.le_refl _) rfl rfl rfl hs.ghost }
  refine wpIn_mono (h E a w hs') (fun _ _ _ hr=>hr.trans ?_)
  exact ⟨rfl,rfl,rfl,Nat.le_refl _,fun _ _ _ _=>rfl,fun b hb=> .inl (zY hb),fun _ h=>h,fun _ h=> .inl h,rfl,fun j _ hj=>by
    have hj':(hget (hsel p s.h) j).isSome:=hj
    rw [zx] at hj'
    split at hj'
    · rename_i hp
      exact ⟨hj',zfH j hp⟩
    · simp at hj'⟩
end
attribute [go_sem] aopsY aopY zha cxY IterK keepT
open Go
structure Rnd (cx:Cx) where
 G:Option (List (List AV))->(Nat->Prop)->(Nat->Prop)->(Nat->Prop)->World->Prop
 stab:∀g M N A A' w w',(∀b,b<w.heap.size->¬A b->w'.heap[b]?=w.heap[b]?)->(∀b,A' b->A b\/w.heap.size<=b)->(∀b,A' b->b<w'.heap.size)->w.heap.size<=w'.heap.size->w'.tape=w.tape->w'.os=w.os->w'.output=w.output->G g M N A w->G g M N A' w'
 yok:∀xs x X M N A w (vs:Array Value),G (some xs) M N A w->(∀b,M b\/N b\/A b->X b)->Reps w (bare X) [] x vs.toList->(xs++ [x])<+:cx.items->
  zkG cx.P cx.yl vs w (λe w'=>∃b M',e= .returned (.bool b)/\w'.os=w.os/\w'.tape=w.tape/\w'.output=w.output/\w.heap.size<=w'.heap.size/\(∀k,k<w.heap.size->¬M k->w'.heap[k]?=w.heap[k]?)/\
   (∀k,M k->M' k)/\(∀k,M' k->M k\/(w.heap.size<=k/\k<w'.heap.size))/\G (if b=true then some (xs++ [x]) else none) M' N A w')
def Cx.inR (cx:Cx) (l fl:Nat) (r:Rnd cx):Cx:= { P:=cx.P,ro:=some l,base:=cx.base,nt:=cx.nt,fl:=fl,G:=r.G,stab:=r.stab,yl:=cx.yl,items:=cx.items,yok:=r.yok }
def zfd:List Tmp->List AV->List (Nat×(Bool×AV))->List (Nat×(Bool×AV))
 |t::ts,v::vs,r=>zfd ts vs ((t,(true,v))::r)
 |_,_,r=>r
def zf (Kn:AHeap->Option (List (List AV))->Prop) (J:Code->AHeap->Option (List (List AV))->Prop):Exit->AS->Prop
 | .normal,s=>Kn s.h s.g
 | .ret,s=>J .ret s.h s.g
 | .exit id,s=>J (.exit id) s.h s.g
 | .goto t,s=>J (.goto t) s.h s.g
 |_,_=>False
def AsgK (K:AS->Prop):Exit->AS->Prop
 | .normal,s=>K s
 |_,_=>False
section
variable {cx : Cx} {E : Env} {s : AS} {a : Act} {w : World} {h : AHeap}
theorem zhJ {E:Env} {a:Act} {w:World} {h:AHeap} {g:Option (List (List AV))} :∀ (ps:List Tmp) (xs:List AV) (vs:List Value) (t:List (Nat×(Bool×AV))) (tmps:Array Value),ps.length=vs.length->(∀p∈ps,p<tmps.size)->Reps w E h xs vs->Slots w E ⟨t,h,g⟩ { tmps:=tmps,defers:=a.defers } ->
  Slots w E ⟨zfd ps xs t,h,g⟩ { tmps:=(ps.zip vs).foldl (λ(t:Array Value) (q:Tmp×Value)=>t.setIfInBounds q.1 q.2) tmps,defers:=a.defers }
 | [],xs,vs,t,tmps,hl,_,hr,hs=>by
  have:vs= []:=by simpa using hl.symm
  subst this;simpa [zfd] using hs
 |p::ps,[],vs,t,tmps,hl,_,hr,hs=>by simp only [Reps] at hr;subst hr;simp at hl
 | p::ps,x::xs,vs,t,tmps,hl,hb,hr,hs=>by
  simp only [Reps] at hr;obtain ⟨v,r,rfl,h1,h2⟩:=hr;simp only [List.zip_cons_cons,List.foldl_cons,zfd];refine zhJ ps xs r _ _ (by simpa using hl) (λq hq=>by simpa using hb q (by simp [hq])) h2 ?_;intro k g v' hk;simp only [lk] at hk;split at hk
  ·rename_i e;subst e;simp only [Option.some.injEq,Prod.mk.injEq] at hk;obtain ⟨rfl,rfl⟩:=hk;exact ⟨v,by simp [hb p (by simp)],λ_=>h1,λe=>by cases e⟩
  ·rename_i e;obtain ⟨y,q1,q2⟩:=hs k g v' hk;exact ⟨y,by simp only;rw [Array.getElem?_setIfInBounds_ne e];exact q1,q2⟩
theorem SatH.others {E':Env} {w':World} (hs:SatH E h w) (hO:E'.O=E.O) (hC:E'.C=E.C) (hX:∀b,b<w.heap.size->Xs E' h b->Xs E h b) (hK:∀b c T fz,w.heap[b]?=some (.cells c T fz)->¬Xs E h b->w'.heap[b]?=some (.cells c T fz)) (hown:∀b,Own E h b->w'.heap[b]?=w.heap[b]?) (hsz:w.heap.size<=w'.heap.size)
  (ho:∀b,Own E h b->¬E'.M b/\¬E'.N b) (hm:∀b,E'.M b->b<w'.heap.size) (hn:∀b,E'.N b->b<w'.heap.size):SatH E' h w'/\(∀x v,Rep w E h x v->Rep w' E' h x v):=by
 have hgo:∀j,GoesOn E h E' h j:=λj=>by unfold GoesOn;rw [hO,hC];split<;>simp_all
 have hXc:∀b c T fz,w.heap[b]?=some (.cells c T fz)->Xs E' h b->Xs E h b:=hX_of hX;refine ⟨⟨λi o hi=>?_,by rw [hO];exact hs.inj,λb hb=>?_,hm,hn⟩,λx v hr=>Rep.stepc hXc hK x v (λj _=>hgo j) hr⟩
 ·have:=hs.heap i o hi;have hoi:∀b,E.O i=some b->w'.heap[b]?=w.heap[b]?:=λb hb=>hown b ⟨i,by simp [hi],hb⟩;cases o with
  |var cs=>
   simp only [RepObj,hO] at this ⊢;obtain ⟨b,c,T,fz,g1,g2,g3,g4⟩:=this;exact ⟨b,c,T,fz,g1,(hoi b g1).trans g2,Reps.stepc hXc hK _ _ (λj _=>hgo j) g3,g4⟩
  |tvar tt cs=>
   simp only [RepObj,hO] at this ⊢;obtain ⟨b,c,T,fz,g1,g2,g3,g4⟩:=this;exact ⟨b,c,T,fz,g1,(hoi b g1).trans g2,Reps.stepc hXc hK _ _ (λj _=>hgo j) g3,g4⟩
  |arr k xs=>
   simp only [RepObj,hO,hC] at this ⊢;rcases this with g|⟨b,c,T,fz,g1,g2,g3,g4,g5,g6⟩
   ·exact .inl g
   ·exact .inr ⟨b,c,T,fz,g1,(hoi b g1).trans g2,g3,g4,RepRows.stepc hXc hK _ _ _ g5,g6⟩
  |buf tt xs=>
   simp only [RepObj,hO,hC] at this ⊢;rcases this with g|⟨b,c,T,fz,g1,g2,g3,g4,g5,g6⟩
   ·exact .inl g
   ·exact .inr ⟨b,c,T,fz,g1,(hoi b g1).trans g2,g3,g4,g5,g6⟩
  |strit l q=>
   simp only [RepObj,hO] at this ⊢;obtain ⟨b,g1,g2⟩:=this;exact ⟨b,g1,(hoi b g1).trans g2⟩
  |omap es=>
   simp only [RepObj,hO] at this ⊢;obtain ⟨b,m,cl,g1,g2,g3⟩:=this;exact ⟨b,m,cl,g1,(hoi b g1).trans g2,g3⟩
 ·have hb':Own E h b:=by obtain ⟨i,hi,he⟩:=hb;exact ⟨i,hi,by rw [<-hO];exact he⟩
  exact ⟨Nat.lt_of_lt_of_le (hs.own b hb').1 hsz,ho b hb'⟩
structure Far (fl:Nat) (E0:Env) (h0:AHeap) (w0:World) (E:Env) (h:AHeap) (w:World):Prop where
 os:w.os=w0.os
 tape:w.tape=w0.tape
 output:w.output=w0.output
 size:w0.heap.size<=w.heap.size
 keep:∀b,b<w0.heap.size->¬Own E0 h0 b->¬E0.M b->w.heap[b]?=w0.heap[b]?
 own:∀b,Own E h b->Own E0 h0 b\/w0.heap.size<=b
 m1:∀b,E0.M b->E.M b
 m2:∀b,E.M b->E0.M b\/w0.heap.size<=b
 go:∀i,i<fl->(hget h i).isSome->(hget h0 i).isSome/\GoesOn E0 h0 E h i
structure Kept (cx:Cx) (l d fl:Nat) (p:Nat->Bool) (E0:Env) (h0:AHeap) (w0:World) (ds:List Deferred) (M1 N1 A1:Nat->Prop) (E2:Env) (hI:AHeap) (gI:Option (List (List AV))) (w:World):Prop where
 hp:SatH E2 hI w
 names:∀i,(hget hI i).isSome->p i=false
 n1:∀b,N1 b↔E0.N b
 a1:∀b,A1 b->Own E0 (hsel p h0) b\/w0.heap.size+2<=b
 n2:∀b,E2.N b↔E0.N b\/A1 b\/b=l\/b=d
 am:∀b,A1 b->¬E2.M b
 m1:∀b,Own E2 hI b\/E2.M b->M1 b
 ml:M1 l/\M1 d
 far:Far fl E0 h0 w0 E2 hI w
 own0:∀b,Own E2 hI b->Own E0 (hsel (λi=> !p i) h0) b\/w0.heap.size+2<=b
 m0:∀b,E2.M b->E0.M b\/w0.heap.size+2<=b
 size:w0.heap.size+2<=w.heap.size
 dd:w.heap[d]?=some (.deferred (some []))
 ghost:cx.G gI E2.M E0.N (λb=>Own E2 hI b\/A1 b\/b=l\/b=d\/zaV ds b) w
section
variable {cx : Cx} {l d fl : Nat} {p : Nat -> Bool} {E0 : Env} {h0 : AHeap} {w0 : World} {ds : List Deferred}
theorem Far.block {E2:Env} {hI:AHeap} {w:World} (f:Far fl E0 h0 w0 E2 hI w):∀b,b<w0.heap.size->Xs E0 h0 b\/w.heap[b]?=w0.heap[b]?:=λb hb=>by
 by_cases h1:Own E0 h0 b
 ·exact .inl (.inl h1)
 ·by_cases h2:E0.M b
  ·exact .inl (.inr (.inl h2))
  ·exact .inr (f.keep b hb h1 h2)
theorem Kept.step (hl:l=w0.heap.size+1) (hd:d=w0.heap.size) (hs0:SatH E0 h0 w0) (hmk:∀b,zaV ds b->b<w0.heap.size) {M1 N1 A1 A1':Nat->Prop} {E2:Env} {hI:AHeap} {gI:Option (List (List AV))} {w w':World}
  (k:Kept cx l d fl p E0 h0 w0 ds M1 N1 A1 E2 hI gI w) (hk:∀b,b<w.heap.size->¬A1 b->w'.heap[b]?=w.heap[b]?) (hA:∀b,A1' b->A1 b\/w.heap.size<=b) (hAb:∀b,A1' b->b<w'.heap.size) (hsz:w.heap.size<=w'.heap.size) (ht:w'.tape=w.tape) (ho:w'.os=w.os) (hout:w'.output=w.output):
  ∃E2',Kept cx l d fl p E0 h0 w0 ds M1 N1 A1' E2' hI gI w'/\¬A1 l:=by
 have hnl:¬A1 l:=λh=>by
  rcases k.a1 l h with h|h
  ·have:=(hs0.own l (zY h)).1;omega
  ·omega
 have hnd:¬A1 d:=λh=>by
  rcases k.a1 d h with h|h
  ·have:=(hs0.own d (zY h)).1;omega
  ·omega
 have hsz0:=k.size;obtain ⟨E2',hE⟩:∃E2':Env,E2'= { E2 with N:=λb=>E0.N b\/A1' b\/b=l\/b=d } :=⟨_,rfl⟩
 have hO:E2'.O=E2.O:=by rw [hE]
 have hC:E2'.C=E2.C:=by rw [hE]
 have hM:E2'.M=E2.M:=by rw [hE]
 have hN:∀b,E2'.N b↔E0.N b\/A1' b\/b=l\/b=d:=λb=>by rw [hE]
 have hown:∀b,Own E2' hI b↔Own E2 hI b:=λb=>by unfold Own;rw [hO]
 have hX:∀b,b<w.heap.size->Xs E2' hI b->Xs E2 hI b:=by
  rintro b hb (hx|hx|hx)
  ·exact .inl ((hown b).1 hx)
  ·exact .inr (.inl (by rwa [hM] at hx))
  ·refine .inr (.inr ((k.n2 b).2 ?_));rcases (hN b).1 hx with hx|hx|hx
   ·exact .inl hx
   ·rcases hA b hx with h|h
    ·exact .inr (.inl h)
    ·omega
   ·exact .inr (.inr hx)
 have hnown:∀b,Own E2 hI b->¬A1 b:=λb hb ha=>(k.hp.own b hb).2.2 ((k.n2 b).2 (.inr (.inl ha)))
 obtain ⟨hp', -⟩:=k.hp.others (E':=E2') (w':=w') hO hC hX (λb c T fz hc hx=>(hk b (Array.getElem?_eq_some_iff.1 hc).1 (λha=>hx (.inr (.inr ((k.n2 b).2 (.inr (.inl ha))))))).trans hc) (λb hb=>hk b (k.hp.own b hb).1 (hnown b hb)) hsz
  (λb hb=>⟨by rw [hM];exact (k.hp.own b hb).2.1,λhn=>by
   rcases (hN b).1 hn with hn|hn|hn
   ·exact (k.hp.own b hb).2.2 ((k.n2 b).2 (.inl hn))
   ·rcases hA b hn with h|h
    ·exact hnown b hb h
    ·have:=(k.hp.own b hb).1;omega
   ·exact (k.hp.own b hb).2.2 ((k.n2 b).2 (.inr (.inr hn)))⟩)
  (λb hb=>Nat.lt_of_lt_of_le (k.hp.mlt b (by rwa [hM] at hb)) hsz)
  (λb hb=>by
   rcases (hN b).1 hb with hn|hn|hn|hn
   ·exact Nat.lt_of_lt_of_le (hs0.nlt b hn) (by omega)
   ·exact hAb b hn
   ·omega
   ·omega)
 refine ⟨E2',⟨hp',k.names,k.n1,λb hb=>?_,hN,λb hb hm=>?_,λb hb=>?_,k.ml,⟨ho.trans k.far.os,ht.trans k.far.tape,hout.trans k.far.output,Nat.le_trans k.far.size hsz,λb hb h1 h2=>?_,λb hb=>k.far.own b ((hown b).1 hb),λb hb=>by rw [hM];exact k.far.m1 b hb,λb hb=>k.far.m2 b (by rwa [hM] at hb),λi hi hg=>?_⟩,
  λb hb=>k.own0 b ((hown b).1 hb),λb hb=>k.m0 b (by rwa [hM] at hb),by omega,(hk d (by omega) hnd).trans k.dd,?_⟩,hnl⟩
 ·rcases hA b hb with h|h
  ·exact k.a1 b h
  ·exact .inr (by omega)
 ·rw [hM] at hm;rcases hA b hb with h|h
  ·exact k.am b h hm
  ·have:=k.hp.mlt b hm;omega
 ·rw [hM] at hb;exact k.m1 b (hb.imp (hown b).1 id)
 ·refine (hk b (by have:=k.far.size;omega) (λha=>?_)).trans (k.far.keep b hb h1 h2);rcases k.a1 b ha with h|h
  ·exact h1 (zY h)
  ·omega
 ·obtain ⟨g1,g2⟩:=k.far.go i hi hg;refine ⟨g1,?_⟩;unfold GoesOn at g2 ⊢;rw [hO,hC];exact g2
 ·rw [hM];refine cx.stab _ _ _ _ _ w _ (λb hb hn=>hk b hb (λh=>hn (.inr (.inl h)))) (λb hb=>?_) (λb hb=>?_) hsz ht ho hout k.ghost
  ·rcases hb with h|h|h
   ·exact .inl (.inl ((hown b).1 h))
   ·rcases hA b h with h|h
    ·exact .inl (.inr (.inl h))
    ·exact .inr h
   ·exact .inl (.inr (.inr h))
  ·rcases hb with h|h|h|h|h
   ·exact (hp'.own b h).1
   ·exact hAb b h
   ·omega
   ·omega
   ·have:=hmk b h;omega
end
def rnd (cx:Cx) (l d:Nat) (N0 Z:Nat→Prop) (rc:Loop) (ds:List Deferred) (hd:Z d) (hl:Z l) (hz:∀b,zaV ds b→Z b):Rnd cx where
 G:=fun g M N A w=>cx.G g M N0 (fun b=>A b∨Z b) w∧(∀b,Z b→¬A b∧¬M b∧b<w.heap.size)∧w.heap[l]?=some (.loop rc)∧w.heap[d]?=some (.deferred (some []))∧(∀b,N0 b∨(Z b∧¬zaV ds b)→N b)∧(∀b,zaV ds b→w.heap[b]?=some (.deferred (some [])))
 stab:=fun g M N A A' w w' hk hA hAb hsz ht ho hout ⟨q1,q2,q3,q4,q5,q6⟩=>by
  have hZ:∀b,Z b→w'.heap[b]?=w.heap[b]?:=fun b hb=>hk b (q2 b hb).2.2 (q2 b hb).1
  refine ⟨cx.stab _ _ _ _ _ w _ (fun b hb hn=>hk b hb (fun h=>hn (.inl h))) (fun b hb=>?_) (fun b hb=>?_) hsz ht ho hout q1,fun b hb=>⟨fun ha=>?_,(q2 b hb).2.1,Nat.lt_of_lt_of_le (q2 b hb).2.2 hsz⟩,(hZ l hl).trans q3,(hZ d hd).trans q4,q5,fun b hb=>(hZ b (hz b hb)).trans (q6 b hb)⟩
  ·rcases hb with h|h
   ·exact (hA b h).imp .inl id
   ·exact .inl (.inr h)
  ·rcases hb with h|h
   ·exact hAb b h
   ·exact Nat.lt_of_lt_of_le (q2 b h).2.2 hsz
  ·rcases hA b ha with h|h
   ·exact (q2 b hb).1 h
   ·have:=(q2 b hb).2.2;omega
 yok :=fun xs x X M N A w vs ⟨q1,q2,q3,q4,q5,q6⟩ hX hr hpre=>by
  obtain ⟨fn,tmps,assign,body,hrun,hround⟩:=cx.yok xs x (fun b=>X b∨zaV ds b) M N0 (fun b=>A b∨Z b) w vs q1 (fun b hb=>by
   rcases hb with hb|hb|hb|hb
   ·exact .inl (hX b (.inl hb))
   ·exact .inl (hX b (.inr (.inl (q5 b (.inl hb)))))
   ·exact .inl (hX b (.inr (.inr hb)))
   ·by_cases hm:zaV ds b
    ·exact .inr hm
    ·exact .inl (hX b (.inr (.inl (q5 b (.inr ⟨hb,hm⟩)))))) (Reps.stepc (E:=bare X) (E':=bare fun b=>X b∨zaV ds b) (h:= []) (h':= []) (fun b c T fz hc hx=>by
    rcases hx with ⟨i,hi,_⟩|hx|hx
    ·simp [hget] at hi
    ·exact hx.elim
    ·rcases hx with hx|hx
     ·exact .inr (.inr hx)
     ·rw [q6 b hx] at hc;cases hc) (fun _ _ _ _ h _=>h) _ _ (fun j _=>by simp [GoesOn,hget]) hr) hpre
  refine ⟨fn,tmps,assign,body,hrun,hround.mono ?_⟩
  rintro e w' ⟨b,M',h1,h2,h3,h4,h5,h6,h7,h8,h9⟩
  have hZ:∀b,Z b→w'.heap[b]?=w.heap[b]?:=fun b hb=>h6 b (q2 b hb).2.2 (q2 b hb).2.1
  exact ⟨b,M',h1,h2,h3,h4,h5,h6,h7,h8,h9,fun k hk=>⟨(q2 k hk).1,fun hm=>by
   rcases h8 k hm with h|h
   ·exact (q2 k hk).2.1 h
   ·have:=(q2 k hk).2.2;omega,Nat.lt_of_lt_of_le (q2 k hk).2.2 h5⟩,(hZ l hl).trans q3,(hZ d hd).trans q4,q5,fun k hk=>(hZ k (hz k hk)).trans (q6 k hk)⟩
section
variable {cx : Cx} {s : AS}
def zcb (cx:Cx) (l d fl:Nat) (p:Nat->Bool) (E0:Env) (h0:AHeap) (w0:World) (ds:List Deferred) (I:List (List AV)->AHeap×Option (List (List AV))) (J:Code->AHeap->Option (List (List AV))->Prop) (rec:LoopState->Option Code->Loop)
  (g:Option (List (List AV))) (M1 N1 A1:Nat->Prop) (w:World):Prop:=
 match g with
 |some xs=>∃E2,Kept cx l d fl p E0 h0 w0 ds M1 N1 A1 E2 (I xs).1 (I xs).2 w/\w.heap[l]?=some (.loop (rec .ready none))
 |none=>∃E2 c h3 g3,Kept cx l d fl p E0 h0 w0 ds M1 N1 A1 E2 h3 g3 w/\w.heap[l]?=some (.loop (rec .done (some c)))/\J c h3 g3
theorem zke {E0 E2:Env} {h0 hI:AHeap} {w0 w:World} {a:Act} {t:List (Nat×(Bool×AV))} {g g':Option (List (List AV))} (hs:Slots w0 E0 ⟨t,h0,g⟩ a)
  (hX:∀b c T fz,w0.heap[b]?=some (.cells c T fz)->Xs E2 hI b->Xs E0 h0 b) (hK:∀b c T fz,w0.heap[b]?=some (.cells c T fz)->¬Xs E0 h0 b->w.heap[b]?=some (.cells c T fz)) (hgo:∀j,(hget hI j).isSome->GoesOn E0 h0 E2 hI j):
  Slots w E2 ⟨keepT hI t,hI,g'⟩ a:=λk gg v hk=>by
 have hk':lk (keepT hI t) k=some (gg,v):=hk;rw [zkT] at hk';obtain ⟨q,hq,e⟩:=Option.map_eq_some_iff.1 hk';obtain ⟨g1,v1⟩:=q;simp only [Prod.mk.injEq] at e;obtain ⟨rfl,rfl⟩:=e;obtain ⟨x,h1,h2,h3⟩:=hs k g1 v1 hq;refine ⟨x,h1,λe=>?_,h3⟩;split
 ·rename_i hall;exact Rep.stepc hX hK _ _ (λj hj=>hgo j (List.all_eq_true.1 hall j hj)) (h2 e)
 ·simp only [Rep]
end
end
end Go.Aw
