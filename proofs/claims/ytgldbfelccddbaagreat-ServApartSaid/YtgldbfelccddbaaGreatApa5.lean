/- Lemmas. -/
import Derived.Test.YtgldbfelccddbaaGreatApa4
import Derived.OrdersIn
set_option linter.all false
set_option maxRecDepth 100000
set_option maxHeartbeats 2000000
namespace Go.Aw
open Go
structure Rnd (cx:Cx) where
 G:Option (List (List AV))->(Nat->Prop)->(Nat->Prop)->(Nat->Prop)->World->Prop
 stab:∀g M N A A' w w',(∀b,b<w.heap.size->¬A b->w'.heap[b]?=w.heap[b]?)->(∀b,A' b->A b\/w.heap.size<=b)->(∀b,A' b->b<w'.heap.size)->w.heap.size<=w'.heap.size->w'.tape=w.tape->w'.os=w.os->w'.output=w.output->G g M N A w->G g M N A' w'
 yok:∀xs x X M N A w (vs:Array Value),G (some xs) M N A w->(∀b,M b\/N b\/A b->X b)->Reps w (bare X) [] x vs.toList->(xs++ [x])<+:cx.items->
  zmr cx.P cx.yl vs w (λe w'=>∃b M',e= .returned (.bool b)/\w'.os=w.os/\w'.tape=w.tape/\w'.output=w.output/\w.heap.size<=w'.heap.size/\(∀k,k<w.heap.size->¬M k->w'.heap[k]?=w.heap[k]?)/\
   (∀k,M k->M' k)/\(∀k,M' k->M k\/(w.heap.size<=k/\k<w'.heap.size))/\G (if b=true then some (xs++ [x]) else none) M' N A w')
def Cx.inR (cx:Cx) (l fl:Nat) (r:Rnd cx):Cx:= { P:=cx.P,ro:=some l,base:=cx.base,nt:=cx.nt,fl:=fl,G:=r.G,stab:=r.stab,yl:=cx.yl,items:=cx.items,yok:=r.yok }
def zeu:List Tmp->List AV->List (Nat×(Bool×AV))->List (Nat×(Bool×AV))
 |t::ts,v::vs,r=>zeu ts vs ((t,(true,v))::r)
 |_,_,r=>r
def ze (Kn:AHeap->Option (List (List AV))->Prop) (J:Code->AHeap->Option (List (List AV))->Prop):Exit->AS->Prop
 | .normal,s=>Kn s.h s.g
 | .ret,s=>J .ret s.h s.g
 | .exit id,s=>J (.exit id) s.h s.g
 | .goto t,s=>J (.goto t) s.h s.g
 |_,_=>False
def AsgK (K:AS->Prop):Exit->AS->Prop
 | .normal,s=>K s
 |_,_=>False
section
variable {cx : Cx} {E : Env} {s : AS} {a : Act} {w : World} {h : AHeap}
def zjg {E} {a:Act} {w} {h} {g} :∀ (ps:List Tmp) (xs:List AV) (vs:List Value) (t:List (Nat×(Bool×AV))) (tmps:Array Value),ps.length=vs.length->(∀p∈ps,p<tmps.size)->Reps w E h xs vs->Slots w E ⟨t,h,g⟩ { tmps:=tmps,defers:=a.defers } ->
  Slots w E ⟨zeu ps xs t,h,g⟩ { tmps:=(ps.zip vs).foldl (λ(t:Array Value) (q:Tmp×Value)=>t.setIfInBounds q.1 q.2) tmps,defers:=a.defers }
 | [],xs,vs,t,tmps,hl,_,J,hs=>by have:vs= []:=fU;subst this;simpa [zeu] using hs
 |p::ps,[],vs,t,tmps,hl,_,J,hs=>by simp only [Reps] at J;grind
 | p::ps,x::xs,vs,t,tmps,hl,hb,J,hs=>by
  refine' Ip;obtain ⟨v,r,rfl,h1,h2⟩:=J;simp only [fm,cA,zeu];refine zjg ps xs r _ _ fU fU h2 ?_;intro k g v' hk;simp only [lk] at hk;split at hk
  .grind
  .rename_i e;obtain ⟨y,q1,q2⟩:=hs k g v' hk
   grind
def SatH.others {E'} {w'} (J:SatH E h w) (hO:E'.O=E.O) (hC:E'.C=E.C) (hX:∀b,b<w.heap.size->Xs E' h b->Xs E h b) (hK:KIn w w' (Xs E h)) (ik:∀b,Own E h b->w'.heap[b]?=w.heap[b]?) (gd:w.heap.size<=w'.heap.size)
  (ho:∀b,Own E h b->¬E'.M b/\¬E'.N b) (hm:∀b,E'.M b->b<w'.heap.size) (hn:∀b,E'.N b->b<w'.heap.size):SatH E' h w'/\(∀x v,Rep w E h x v->Rep w' E' h x v):=by
 have kn:∀j,GoesOn E h E' h j:=λj=>by
  unfold GoesOn
  grind
 have sr:XIn w (Xs E' h) (Xs E h):=hX_of hX;refine ⟨⟨λi o hi=>?_,by rw [hO];exact J.inj,λb hb=>?_,hm,hn⟩,λx v hr=>Rep.stepc sr hK x v fU hr⟩
 .have:=J.heap i o hi;have CZ:∀b,E.O i=some b->w'.heap[b]?=w.heap[b]?:=λb hb=>ik b ⟨i,fU,hb⟩;cases o with
  |var cs=>
   refine' DG;refine' DK;exact ⟨b,c,T,fz,g1,fU,Reps.stepc sr hK _ _ fU g3,g4⟩
  |tvar tt cs=>
   refine' DG;refine' DK;exact ⟨b,c,T,fz,g1,fU,Reps.stepc sr hK _ _ fU g3,g4⟩
  |arr k xs=>
   refine' EK;refine' Eb
   .grind
   .exact .inr ⟨b,c,T,fz,g1,fU,g3,g4,RepRows.stepc sr hK _ _ _ g5,g6⟩
  |buf tt xs=>
   refine' EK
   grind
  |strit l q=>
   refine' DG
   grind
  |omap es=>
   refine' DG
   grind
 .have ib:Own E h b:=by obtain ⟨i,hi,he⟩:=hb;exact ⟨i,hi,fU⟩
  exact ⟨aE (J.own b ib).1 gd,fU⟩
structure Far (fl:Nat) (E0:Env) (h0:AHeap) (w0:World) (E:Env) (h:AHeap) (w:World):Prop where
 os:w.os=w0.os
 tape:w.tape=w0.tape
 output:w.output=w0.output
 size:w0.heap.size<=w.heap.size
 keep:∀b,b<w0.heap.size->¬Own E0 h0 b->¬E0.M b->w.heap[b]?=w0.heap[b]?
 own:∀b,Own E h b->Own E0 h0 b\/w0.heap.size<=b
 m1:∀b,E0.M b->E.M b
 m2:∀b,E.M b->E0.M b\/w0.heap.size<=b
 go:∀i,i<fl->(hget h i).isSome->(hget h0 i).isSome/\GoesOn E0 h0 E h i
structure Kept (cx:Cx) (l d fl:Nat) (p:Nat->Bool) (E0:Env) (h0:AHeap) (w0:World) (ds:List Deferred) (M1 N1 A1:Nat->Prop) (E2:Env) (hI:AHeap) (gI:Option (List (List AV))) (w:World):Prop where
 hp:SatH E2 hI w
 names:∀i,(hget hI i).isSome->p i=false
 n1:∀b,N1 b↔E0.N b
 a1:∀b,A1 b->Own E0 (hsel p h0) b\/w0.heap.size+2<=b
 n2:∀b,E2.N b↔E0.N b\/A1 b\/b=l\/b=d
 am:∀b,A1 b->¬E2.M b
 m1:∀b,Own E2 hI b\/E2.M b->M1 b
 ml:M1 l/\M1 d
 far:Far fl E0 h0 w0 E2 hI w
 own0:∀b,Own E2 hI b->Own E0 (hsel (λi=> !p i) h0) b\/w0.heap.size+2<=b
 m0:∀b,E2.M b->E0.M b\/w0.heap.size+2<=b
 size:w0.heap.size+2<=w.heap.size
 dd:w.heap[d]?=some (.deferred (some []))
 ghost:cx.G gI E2.M E0.N (λb=>Own E2 hI b\/A1 b\/b=l\/b=d\/zaL ds b) w
section
variable {cx : Cx} {l d fl : Nat} {p : Nat -> Bool} {E0 : Env} {h0 : AHeap} {w0 : World} {ds : List Deferred}
def Far.block {E2} {hI} {w} (f:Far fl E0 h0 w0 E2 hI w):∀b,b<w0.heap.size->Xs E0 h0 b\/w.heap[b]?=w0.heap[b]?:=λb J=>by
 by_cases h1:Own E0 h0 b
 .exact .inl (.inl h1)
 .by_cases h2:E0.M b
  .exact .inl (.inr (.inl h2))
  .exact .inr (f.keep b J h1 h2)
def Kept.step (hl:l=w0.heap.size+1) (hd:d=w0.heap.size) (e1:SatH E0 h0 w0) (mv:∀b,zaL ds b->b<w0.heap.size) {M1 N1 A1 q3} {E2} {hI} {gI} {w w'}
  (k:Kept cx l d fl p E0 h0 w0 ds M1 N1 A1 E2 hI gI w) (hk:∀b,b<w.heap.size->¬A1 b->w'.heap[b]?=w.heap[b]?) (hA:∀b,q3 b->A1 b\/w.heap.size<=b) (C0:∀b,q3 b->b<w'.heap.size) (gd:w.heap.size<=w'.heap.size) (ht:w'.tape=w.tape) (ho:w'.os=w.os) (n8:w'.output=w.output):
  ∃lM,Kept cx l d fl p E0 h0 w0 ds M1 N1 q3 lM hI gI w'/\¬A1 l:=by
 have nU:¬A1 l:=λh=>by
  rcases k.a1 l h with h|h
  .have:=(e1.own l (zan h)).1;omega
  .omega
 have se:¬A1 d:=λh=>by
  rcases k.a1 d h with h|h
  .have:=(e1.own d (zan h)).1;omega
  .omega
 have C1:=k.size;obtain ⟨lM,hE⟩:∃lM:Env,lM= { E2 with N:=λb=>E0.N b\/q3 b\/b=l\/b=d } :=⟨_,rfl⟩
 have hO:lM.O=E2.O:=by rw [hE]
 have hC:lM.C=E2.C:=by rw [hE]
 have hM:lM.M=E2.M:=by rw [hE]
 have hN:∀b,lM.N b↔E0.N b\/q3 b\/b=l\/b=d:=λb=>by rw [hE]
 have ik:∀b,Own lM hI b↔Own E2 hI b:=λb=>by unfold Own;rw [hO]
 have hX:∀b,b<w.heap.size->Xs lM hI b->Xs E2 hI b:=by
  rintro b J (hx|hx|hx)
  .exact .inl fU
  .exact .inr fU
  .refine .inr (.inr ((k.n2 b).2 ?_))
   grind
 have C2:∀b,Own E2 hI b->¬A1 b:=λb J ha=>(k.hp.own b J).2.2 ((k.n2 b).2 fU)
 obtain ⟨j2, -⟩:=k.hp.others (E':=lM) (w':=w') hO hC hX (λb o hc _ hx=>(hk b (aI.1 hc).1 (λha=>hx (.inr (.inr ((k.n2 b).2 fU))))).trans hc) (λb J=>hk b (k.hp.own b J).1 fU) gd
  (λb J=>⟨by rw [hM];exact (k.hp.own b J).2.1,λhn=>by
   rcases (hN b).1 hn with hn|hn|hn
   .exact (k.hp.own b J).2.2 ((k.n2 b).2 fU)
   .rcases hA b hn with h|h
    .grind
    .have:=(k.hp.own b J).1;omega
   .exact (k.hp.own b J).2.2 ((k.n2 b).2 fU)⟩)
  (λb J=>aE (k.hp.mlt b fU) gd)
  (λb J=>by
   rcases (hN b).1 J with hn|hn|hn|hn
   .exact aE (e1.nlt b hn) fT
   .grind
   .omega
   .omega)
 refine ⟨lM,⟨j2,k.names,k.n1,λb J=>?_,hN,λb J hm=>?_,λb J=>?_,k.ml,⟨ho.trans k.far.os,ht.trans k.far.tape,n8.trans k.far.output,fU,λb J h1 h2=>?_,λb J=>k.far.own b fU,λb J=>by rw [hM];exact k.far.m1 b J,λb J=>k.far.m2 b fU,λi hi hg=>?_⟩,
  λb J=>k.own0 b fU,λb J=>k.m0 b fU,fT,(hk d fT se).trans k.dd,?_⟩,nU⟩
 .rcases hA b J with h|h
  .exact k.a1 b h
  .grind
 .rw [hM] at hm;rcases hA b J with h|h
  .exact k.am b h hm
  .have:=k.hp.mlt b hm;omega
 .rw [hM] at J;exact k.m1 b fU
 .refine (hk b fU (λha=>?_)).trans (k.far.keep b J h1 h2);rcases k.a1 b ha with h|h
  .exact h1 (zan h)
  .omega
 .obtain ⟨g1,g2⟩:=k.far.go i hi hg;refine ⟨g1,?_⟩;unfold GoesOn at g2 |-;simp_all
 .rw [hM];refine cx.stab _ _ _ _ _ w _ fU (λb J=>?_) (λb J=>?_) gd ht ho n8 k.ghost
  .grind
  .rcases J with h|h|h|h|h
   .exact (j2.own b h).1
   .grind
   .omega
   .omega
   .grind
end
def rnd (cx:Cx) (l d:Nat) (N0 Z:Nat→Prop) (rc:Loop) (ds:List Deferred) (hd:Z d) (hl:Z l) (hz:∀b,zaL ds b→Z b):Rnd cx where
 G:=fun g M N A w=>cx.G g M N0 (fun b=>A b∨Z b) w∧(∀b,Z b→¬A b∧¬M b∧b<w.heap.size)∧w.heap[l]?=some (.loop rc)∧w.heap[d]?=some (.deferred (some []))∧(∀b,N0 b∨(Z b∧¬zaL ds b)→N b)∧(∀b,zaL ds b→w.heap[b]?=some (.deferred (some [])))
 stab:=fun g M N A A' w w' hk hA hAb hsz ht ho hout ⟨q1,q2,q3,q4,q5,q6⟩=>by
  have hZ:∀b,Z b→w'.heap[b]?=w.heap[b]?:=fun b hb=>hk b (q2 b hb).2.2 (q2 b hb).1
  refine ⟨cx.stab _ _ _ _ _ w _ (fun b hb hn=>hk b hb (fun h=>hn (.inl h))) (fun b hb=>?_) (fun b hb=>?_) hsz ht ho hout q1,fun b hb=>⟨fun ha=>?_,(q2 b hb).2.1,aE (q2 b hb).2.2 hsz⟩,(hZ l hl).trans q3,(hZ d hd).trans q4,q5,fun b hb=>(hZ b (hz b hb)).trans (q6 b hb)⟩
  ·rcases hb with h|h
   ·exact (hA b h).imp .inl id
   ·exact .inl (.inr h)
  ·rcases hb with h|h
   ·exact hAb b h
   ·exact aE (q2 b h).2.2 hsz
  ·rcases hA b ha with h|h
   ·exact (q2 b hb).1 h
   ·have:=(q2 b hb).2.2;omega
 yok :=fun xs x X M N A w vs ⟨q1,q2,q3,q4,q5,q6⟩ hX hr hpre=>by
  obtain ⟨fn,tmps,assign,body,hrun,hround⟩:=cx.yok xs x (fun b=>X b∨zaL ds b) M N0 (fun b=>A b∨Z b) w vs q1 (fun b hb=>by
   rcases hb with hb|hb|hb|hb
   ·exact .inl (hX b (.inl hb))
   ·exact .inl (hX b (.inr (.inl (q5 b (.inl hb)))))
   ·exact .inl (hX b (.inr (.inr hb)))
   ·by_cases hm:zaL ds b
    ·exact .inr hm
    ·exact .inl (hX b (.inr (.inl (q5 b (.inr ⟨hb,hm⟩)))))) (Reps.stepc (E:=bare X) (E':=bare fun b=>X b∨zaL ds b) (h:= []) (h':= []) (fun b o hc hb hx=>by
    rcases hx with ⟨i,hi,_⟩|hx|hx
    ·simp [hget] at hi
    ·exact hx.elim
    ·rcases hx with hx|hx
     ·exact .inr (.inr hx)
     ·rw [q6 b hx] at hc;cases hc;cases hb) (fun _ _ h _ _=>h) _ _ (fun j _=>by simp [GoesOn,hget]) hr) hpre
  refine ⟨fn,tmps,assign,body,hrun,hround.mono ?_⟩
  rintro e w' ⟨b,M',h1,h2,h3,h4,h5,h6,h7,h8,h9⟩
  have hZ:∀b,Z b→w'.heap[b]?=w.heap[b]?:=fun b hb=>h6 b (q2 b hb).2.2 (q2 b hb).2.1
  exact ⟨b,M',h1,h2,h3,h4,h5,h6,h7,h8,h9,fun k hk=>⟨(q2 k hk).1,fun hm=>by
   rcases h8 k hm with h|h
   ·exact (q2 k hk).2.1 h
   ·have:=(q2 k hk).2.2;omega,aE (q2 k hk).2.2 h5⟩,(hZ l hl).trans q3,(hZ d hd).trans q4,q5,fun k hk=>(hZ k (hz k hk)).trans (q6 k hk)⟩
section
variable {cx : Cx} {s : AS}
def zcZ (cx:Cx) (l d fl:Nat) (p:Nat->Bool) (E0:Env) (h0:AHeap) (w0:World) (ds:List Deferred) (I:List (List AV)->AHeap×Option (List (List AV))) (J:Code->AHeap->Option (List (List AV))->Prop) (rec:LoopState->Option Code->Loop)
  (g:Option (List (List AV))) (M1 N1 A1:Nat->Prop) (w:World):Prop:=
 match g with
 |some xs=>∃E2,Kept cx l d fl p E0 h0 w0 ds M1 N1 A1 E2 (I xs).1 (I xs).2 w/\w.heap[l]?=some (.loop (rec .ready none))
 |none=>∃E2 c h3 g3,Kept cx l d fl p E0 h0 w0 ds M1 N1 A1 E2 h3 g3 w/\w.heap[l]?=some (.loop (rec .done (some c)))/\J c h3 g3
def zlL {E0 E2} {h0 hI} {w0 w} {a} {t} {g g'} (J:Slots w0 E0 ⟨t,h0,g⟩ a)
  (hX:XIn w0 (Xs E2 hI) (Xs E0 h0)) (hK:KIn w0 w (Xs E0 h0)) (kn:∀j,(hget hI j).isSome->GoesOn E0 h0 E2 hI j):
  Slots w E2 ⟨keepT hI t,hI,g'⟩ a:=λk gg v hk=>by
 have gR:lk (keepT hI t) k=some (gg,v):=hk;rw [zmL] at gR;obtain ⟨q,hq,e⟩:=bF.1 gR;obtain ⟨g1,v1⟩:=q;simp only [aJ] at e;refine' GA;obtain ⟨x,h1,h2,h3⟩:=J k g1 v1 hq;refine ⟨x,h1,λe=>?_,h3⟩;split
 .rename_i iy;exact Rep.stepc hX hK _ _ fU (h2 e)
 .refine' Fg
end
end
open Go
structure EvoL (l fl:Nat) (E:Env) (h:AHeap) (w:World) (E':Env) (h':AHeap) (w':World):Prop where
 os:w'.os=w.os
 tape:w'.tape=w.tape
 output:w'.output=w.output
 size:w.heap.size<=w'.heap.size
 keep:∀b,b<w.heap.size->¬Own E h b->¬E.M b->b≠l->w'.heap[b]?=w.heap[b]?
 own:∀b,Own E' h' b->Own E h b\/w.heap.size<=b
 m1:∀b,E.M b->E'.M b
 m2:∀b,E'.M b->E.M b\/w.heap.size<=b
 n:E'.N=E.N
 go:∀i,i<fl->(hget h' i).isSome->(hget h i).isSome/\GoesOn E h E' h' i
def Evo.l {l fl} {E E'} {h h'} {w w'} (e:Evo fl E h w E' h' w'):EvoL l fl E h w E' h' w':=
 ⟨e.os,e.tape,e.output,e.size,λb J ho hm _=>e.keep b J ho hm,e.own,e.m1,e.m2,e.n,e.go⟩
def EvoL.put {l fl} {E} {h} {w} o:EvoL l fl E h w E h (w.putObj l o):=
 ⟨rfl,rfl,rfl,fZ,λb _ _ _ J=>cf J,λ_ h=> .inl h,λ_ h=>h,λ_ h=> .inl h,rfl,λi _ h=>⟨h,GoesOn.refl E _ i⟩⟩
def EvoL.trans {l fl} {E E' E''} {h h' h''} {w w' w''} (a:EvoL l fl E h w E' h' w') (b:EvoL l fl E' h' w' E'' h'' w''):EvoL l fl E h w E'' h'' w'' where
 os:=b.os.trans a.os
 tape:=b.tape.trans a.tape
 output:=b.output.trans a.output
 size:=aD a.size b.size
 keep:=λk J ho hm hl=>(b.keep k (aE J a.size) (λh=>(a.own k h).elim ho fU) (λh=>(a.m2 k h).elim hm fU) hl).trans (a.keep k J ho hm hl)
 own:=λk h=>(b.own k h).elim (λh=>a.own k h) (λh=> .inr (aD a.size h))
 m1:=λk h=>b.m1 k (a.m1 k h)
 m2:=λk h=>(b.m2 k h).elim (λh=>a.m2 k h) (λh=> .inr (aD a.size h))
 n:=b.n.trans a.n
 go:=λi hi h=>by refine' Iy
section
variable {cx : Cx} {l d fl : Nat} {p : Nat -> Bool} {E0 : Env} {h0 : AHeap} {w0 : World} {ds : List Deferred}
def Kept.round (hl:l=w0.heap.size+1) (hd:d=w0.heap.size) {M1 N1 A1} {E2 E4} {hI h4 h'} {gI g'} {w w4}
  (k:Kept cx l d fl p E0 h0 w0 ds M1 N1 A1 E2 hI gI w) (e:EvoL l fl E2 hI w E4 h4 w4) (kf:SatH E4 h4 w4) (ga:SatH E4 h' w4) (ik:∀b,Own E4 h' b->Own E4 h4 b) (kn:∀i,(hget h' i).isSome->(hget h4 i).isSome/\GoesOn E4 h4 E4 h' i) (hn:∀i,(hget h' i).isSome->p i=false) (oQ:w4.heap[d]?=some (.deferred (some [])))
  (hG:cx.G g' E4.M E0.N (λb=>Own E4 h' b\/A1 b\/b=l\/b=d\/zaL ds b) w4):
  Kept cx l d fl p E0 h0 w0 ds (λb=>M1 b\/(w.heap.size<=b/\b<w4.heap.size)) N1 A1 E4 h' g' w4 where
 hp:=ga
 names:=hn
 n1:=k.n1
 a1:=k.a1
 n2:=λb=>by rw [e.n];exact k.n2 b
 am:=λb J hm=>by
  have:=k.hp.nlt b ((k.n2 b).2 fU);rcases e.m2 b hm with h|h
  .exact k.am b J h
  .omega
 m1:=λb J=>by
  rcases J with J|J
  .rcases e.own b fU with h|h
   .exact .inl (k.m1 b fU)
   .exact .inr ⟨h,(kf.own b fU).1⟩
  .rcases e.m2 b J with h|h
   .exact .inl (k.m1 b fU)
   .exact .inr ⟨h,kf.mlt b J⟩
 ml:=⟨.inl k.ml.1,.inl k.ml.2⟩
 far:=by
  refine ⟨e.os.trans k.far.os,e.tape.trans k.far.tape,e.output.trans k.far.output,fU,λb J h1 h2=>?_,λb J=>?_,λb J=>e.m1 b (k.far.m1 b J),λb J=>?_,λi hi hg=>?_⟩
  .refine (e.keep b (aE J k.far.size) (λh=>?_) (λh=>?_) fT).trans (k.far.keep b J h1 h2)
   .rcases k.far.own b h with h|h;all_goals grind
   .rcases k.far.m2 b h with h|h;all_goals grind
  .rcases e.own b fU with h|h
   .exact k.far.own b h
   .exact .inr (aD k.far.size h)
  .rcases e.m2 b J with h|h
   .exact k.far.m2 b h
   .exact .inr (aD k.far.size h)
  .obtain ⟨ss,q5⟩:=kn i hg;obtain ⟨q1,q2⟩:=e.go i hi ss;obtain ⟨q3,q4⟩:=k.far.go i hi q1;exact ⟨q3,(q4.trans q2).trans q5⟩
 own0:=λb J=>by
  rcases e.own b fU with h|h
  .exact k.own0 b h
  .exact .inr (aD k.size h)
 m0:=λb J=>by
  rcases e.m2 b J with h|h
  .exact k.m0 b h
  .exact .inr (aD k.size h)
 size:=aD k.size e.size
 dd:=oQ
 ghost:=hG
def zqx {cx1 cx2} {E} {s} {a} {w} {l} {rc} o (hs:Sat cx1 E s a w) (hl:w.heap[l]?=some (.loop rc)) (hb:cx2.base=cx1.base) (hq:cx2.rq=false) (hn:cx2.nt=cx1.nt)
    (hG:cx2.G s.g E.M E.N (fun b=>Own E s.h b∨zaL a.defers b) (w.putObj l o)):Sat cx2 E s a (w.putObj l o):=by
  have hne:∀ (b:Nat) (ob:Obj),w.heap[b]?=some ob→(∀r,ob≠ .loop r)→b≠l:=fun b ob hb ho e=>fU
  have hown:∀b,Own E s.h b→b≠l:=fun b ⟨i,hi,hb⟩=>by
    obtain ⟨ob,ho⟩:=bE.1 hi
    have:=hs.hp.heap i ob ho
    cases ob with
    |var cs=>simp only [RepObj] at this;grind
    |tvar tt cs=>simp only [RepObj] at this;grind
    | arr k xs=>
      simp only [RepObj] at this
      grind
    | buf tt xs=>
      simp only [RepObj] at this
      grind
    |strit l' q=>simp only [RepObj] at this;grind
    |omap es=>simp only [RepObj] at this;grind
  obtain ⟨hp',hrep⟩:=hs.hp.others (E':=E) (w':=w.putObj l o) rfl rfl fU (fun b o hc hb _=>(cf (hne b _ hc (by rintro r rfl;cases hb))).trans hc) (fun b hb=>cf fU) fZ
    (fun b hb=>(hs.hp.own b hb).2) (fun b hb=>by simpa using hs.hp.mlt b hb) (fun b hb=>by simpa using hs.hp.nlt b hb)
  exact { slots:=fun k g v hk=>by
            obtain ⟨x,h1,h2,h3⟩:=hs.slots k g v hk
            grind
          nt:=hs.nt.trans hn.symm
          hp:=hp'
          base:=⟨by rw [hb];simpa using hs.base.1,fun h=>fU⟩
          marks:=⟨fun d hd=>by
            obtain ⟨r,h1,h2,h3,h4⟩:=hs.marks.1 d hd
            exact ⟨r,h1,(cf fU).trans h2,fU,h4⟩,hs.marks.2⟩
          ghost:=hG }
def tick:List AV:= [.vp 0 0]
def zzj {w} {X} {vs} (h:Reps w (bare X) [] tick vs):False:=by grind [Reps,bare,tick,Rep,hget]
def zwk {s} {a} {ps:Array Tmp} {assign body} {fn} {items} (hl:l=w0.heap.size+1) (hd:d=w0.heap.size) (e1:Sat cx E0 s a w0)
  I J 
  (b4:∀xs,xs<+:items->∀i,(hget (I xs).1 i).isSome->p i=false) (hJ:∀c h3 g3,J c h3 g3->∀i,(hget h3 i).isSome->p i=false)
  (hlen:∀x∈items,x≠tick->x.length=ps.size) (jY:∀t∈ps.toList,t<cx.nt) (gy:∀i,(hget s.h i).isSome->i<fl)
  (mS:∀xs x,x≠tick->(xs++ [x])<+:items->∀ (l:Nat) (r1:Rnd cx),AW (cx.inR l fl r1) assign (AsgK λs1=>∀r2:Rnd cx,AW (cx.inR l fl r2) body (ze (λh' g'=>leH h' (I (xs++ [x])).1/\inH (I (xs++ [x])).1 (idsH (I (xs++ [x])).1)/\g'=(I (xs++ [x])).2) J) s1)
   { t:=zeu ps.toList x (keepT (I xs).1 s.t),h:=(I xs).1,g:=(I xs).2 })
  rec (su:rec=λst pe=> { state:=st,pending:=pe,fn:=fn,tmps:=a.tmps,params:=ps,assign:=assign,body:=body,defers:=d }):
  ∀xs x X M N A w (vs:Array Value),zcZ cx l d fl p E0 s.h w0 a.defers I J rec (some xs) M N A w->(∀b,M b\/N b\/A b->X b)->Reps w (bare X) [] x vs.toList->(xs++ [x])<+:items->
  zmr cx.P l vs w (λe w'=>∃b M',e= .returned (.bool b)/\w'.os=w.os/\w'.tape=w.tape/\w'.output=w.output/\w.heap.size<=w'.heap.size/\(∀k,k<w.heap.size->¬M k->w'.heap[k]?=w.heap[k]?)/\
   (∀k,M k->M' k)/\(∀k,M' k->M k\/(w.heap.size<=k/\k<w'.heap.size))/\zcZ cx l d fl p E0 s.h w0 a.defers I J rec (if b=true then some (xs++ [x]) else none) M' N A w'):=by
 intro xs x X M N A w vs hG hX hr bu;have jL:x≠tick:=λe=>zzj (e ▸ hr);obtain ⟨E2,k,jw⟩:=hG;have mv:∀b,zaL a.defers b->b<w0.heap.size:=λb hb=>e1.marks.lt hb
 have AN:x∈items:=by obtain ⟨t,rfl⟩:=bu;simp
 have jG:=hlen x AN jL
 have mJ:vs.size=ps.size:=by
  have:=Reps.length hr
  grind
 obtain ⟨Z,hZ⟩:∃Z:Nat->Prop,Z=λb=>A b\/b=l\/b=d\/zaL a.defers b:=⟨_,rfl⟩
 have zd:Z d:=fU;have zl:Z l:=fU;have zm:∀b,zaL a.defers b->Z b:=λb hb=>fU;have gd:=k.size
 have uR:∀b,zaL a.defers b->w.heap[b]?=some (.deferred (some [])):=λb ⟨dd,rI,hdt⟩=>by obtain ⟨r,h1,h2,h3,h4⟩:=e1.marks.1 dd rI;rw [h1] at hdt;cases hdt;exact (k.far.keep b (aI.1 h2).1 (e1.hp.not_mark h2) h4).trans h2
 have C3:∀b,zaL a.defers b->¬E2.M b:=λb hb hm=>by obtain ⟨dd,rI,hdt⟩:=hb;obtain ⟨r,h1,h2,h3,h4⟩:=e1.marks.1 dd rI;rw [h1] at hdt;rcases k.far.m2 b hm with h|h;all_goals grind
 have AO:∀b,Z b->¬Own E2 (I xs).1 b/\¬E2.M b/\b<w.heap.size:=λb hb=>by
  rw [hZ] at hb;rcases hb with hb|rfl|rfl|hb
  .have hn:=(k.n2 b).2 fU;exact ⟨λho=>(k.hp.own b ho).2.2 hn,k.am b hb,k.hp.nlt b hn⟩
  .refine ⟨λho=>?_,λhm=>?_,fT⟩
   .rcases k.own0 _ ho with h|h
    .have:=(e1.hp.own _ (zan h)).1;omega
    .omega
   .rcases k.m0 _ hm with h|h
    .have:=e1.hp.mlt _ h;omega
    .omega
  .refine ⟨λho=>?_,λhm=>?_,fT⟩
   .rcases k.own0 _ ho with h|h
    .have:=(e1.hp.own _ (zan h)).1;omega
    .omega
   .rcases k.m0 _ hm with h|h
    .have:=e1.hp.mlt _ h;omega
    .omega
  .exact ⟨k.hp.not_mark (uR b hb),fU,(aI.1 (uR b hb)).1⟩
 have rM:XIn w0 (Xs E2 (I xs).1) (Xs E0 s.h):=λb o hc _ hx=>by
  have hb:=(aI.1 hc).1;refine' Gz
  .rcases k.far.own b hx with h|h
   .exact .inl h
   .omega
  .rcases k.far.m2 b hx with h|h
   .exact .inr fU
   .omega
  .rcases (k.n2 b).1 hx with h|h|h|h
   .exact .inr fU
   .rcases k.a1 b h with h|h
    .exact .inl (zan h)
    .omega
   all_goals grind
 have AP:KIn w0 w (Xs E0 s.h):=λb o hc _ hx=>by rcases k.far.block b (aI.1 hc).1 with h|h;all_goals grind
 have AQ:∀j,(hget (I xs).1 j).isSome->GoesOn E0 s.h E2 (I xs).1 j:=λj hj=>by
  by_cases C4:(hget s.h j).isSome
  .exact (k.far.go j fU hj).2
  .unfold GoesOn
   grind
 have AR:Slots w E2 ⟨keepT (I xs).1 s.t,(I xs).1,(I xs).2⟩ a:=zlL (g:=s.g) e1.slots rM AP AQ
 have jj:Reps w E2 (I xs).1 x vs.toList:=Reps.stepc (E:=bare X) (h:= []) (λb o hc hb hx=>by
   refine .inr (.inr ?_);refine' Gz
   .exact hX b (.inl (k.m1 b (.inl hx)))
   .exact hX b (.inl (k.m1 b (.inr hx)))
   .rcases (k.n2 b).1 hx with h|h|h|h
    .exact hX b (.inr (.inl ((k.n1 b).2 h)))
    .exact hX b (.inr (.inr h))
    .rw [h];exact hX l (.inl k.ml.1)
    .rw [h];exact hX d (.inl k.ml.2)) (λ_ _ h _ _=>h) _ _ (λj _=>by simp [GoesOn,hget]) hr
 have jU:=zjg (a:=a) (g:=(I xs).2) ps.toList x vs.toList (keepT (I xs).1 s.t) a.tmps (by simp [mJ]) (λt ht=>by have:=jY t ht;rw [e1.nt];exact this) jj AR;obtain ⟨tmps,qU⟩:∃tmps,tmps=(ps.toList.zip vs.toList).foldl (λ(t:Array Value) (q:Tmp×Value)=>t.setIfInBounds q.1 q.2) a.tmps:=⟨_,rfl⟩
 have AT:(ps.zip vs).foldl (λ(t:Array Value) (x:Tmp×Value)=>match x with|(t',v)=>t.setIfInBounds t' v) a.tmps=tmps:=by rw [qU,<-Array.foldl_toList,Array.toList_zip]
 have AU:∀ (l:List (Tmp×Value)) (t:Array Value),(l.foldl (λ(t:Array Value) (q:Tmp×Value)=>t.setIfInBounds q.1 q.2) t).size=t.size:=by
  intro l;induction l with
  |nil=>intro t;rfl
  |cons q l ih=>intro t;simp only [cA];rw [ih];simp
 have iS:=run_yield (P:=cx.P) (args:=vs) jw (by rw [su];exact mJ);rw [su] at iS;rw [AT] at iS;obtain ⟨r1,ka⟩:∃r1:Rnd cx,r1=rnd cx l d E0.N Z (rec .ready none) a.defers zd zl zm:=⟨_,rfl⟩
 have AX:Sat (cx.inR l fl r1) E2 { t:=zeu ps.toList x (keepT (I xs).1 s.t),h:=(I xs).1,g:=(I xs).2 } { tmps:=tmps,defers:= [] } w:=by
  refine ⟨λkk g v hk=>by rw [qU];exact jU kk g v hk,?_,k.hp,⟨aD e1.base.1 k.far.size,λ_=>rfl⟩,⟨fZ,fZ⟩,?_⟩
  .show tmps.size=cx.nt;rw [qU,AU];exact e1.nt
  .rw [ka];refine ⟨?_,λb hb=>⟨λho=>?_,(AO b hb).2⟩,jw,k.dd,λb hb=>?_,uR⟩
   .refine cx.stab _ _ _ _ _ w _ (λ_ _ _=>rfl) (λb hb=> .inl ?_) (λb hb=>?_) (aj _) rfl rfl rfl k.ghost
    .rcases hb with (hb|⟨dd,oQ,_⟩)|hb;all_goals grind
    .rcases hb with (hb|⟨dd,oQ,_⟩)|hb
     .exact (k.hp.own b hb).1
     all_goals grind
   .rcases ho with ho|⟨dd,oQ,_⟩
    all_goals grind
   .refine (k.n2 b).2 ?_
    grind
 refine ⟨fn,tmps,assign,body,iS,roundIn_of_wpIn trivial ?_⟩;refine aT (mS xs x jL bu l r1 E2 _ w AX) ?_;intro e a1 w1 pZ;cases e with
 | normal=>
  obtain ⟨E3,s3,AY,kB,AZ⟩:=pZ;have wU:=kB.ghost;rw [ka] at wU;obtain ⟨q1,q2,q3,q4,q5,q6⟩:=wU;have nn:=run_beginRound (P:=cx.P) q3 (by rw [su]);refine ⟨_,nn,?_⟩;obtain ⟨r2,wV⟩:∃r2:Rnd cx,r2=rnd cx l d E0.N Z { rec .ready none with state:= .busy } a.defers zd zl zm:=⟨_,rfl⟩
  have b5:∀b,b≠l->(w1.putObj l (.loop { rec .ready none with state:= .busy })).heap[b]?=w1.heap[b]?:=λb hb=>cf hb;have gw:d≠l:=fT
  have A0:Sat (cx.inR l fl r2) E3 s3 a1 (w1.putObj l (.loop { rec .ready none with state:= .busy })):=by
   refine zqx _ kB q3 rfl rfl rfl ?_;rw [wV];refine ⟨cx.stab _ _ _ _ _ w1 _ (λb _ hb=>b5 b (λe=>hb (by rw [e];exact .inr zl))) (λb hb=> .inl hb) (λb hb=>?_) fZ rfl rfl rfl q1,λb hb=>⟨(q2 b hb).1,(q2 b hb).2.1,by simpa using (q2 b hb).2.2⟩,World.putObj_heap_same (aI.1 q3).1,(b5 d gw).trans q4,q5,λb hb=>(b5 b (λe=>by have:=mv _ hb;omega)).trans (q6 b hb)⟩;rw [fp];rcases hb with hb|hb
   .rcases hb with hb|hb
    .exact (kB.hp.own b hb).1
    .exact kB.marks.lt hb
   .grind
  refine aT (AY r2 E3 a1 _ A0) ?_
  have fin:∀ (jump:Option Code) (a4:Act) (w3:World) (E4:Env) (s4:AS),Sat (cx.inR l fl r2) E4 s4 a4 w3->Evo fl E3 s3.h (w1.putObj l (.loop { rec .ready none with state:= .busy })) E4 s4.h w3->
    (∀w4,w4.heap[l]?=some (.loop (rec (if jump.isNone then .ready else .done) jump))->(∀h',SatH E4 h' w4->(∀b,Own E4 h' b->Own E4 s4.h b)->(∀i,(hget h' i).isSome->(hget s4.h i).isSome/\GoesOn E4 s4.h E4 h' i)->(∀i,(hget h' i).isSome->p i=false)->Kept cx l d fl p E0 s.h w0 a.defers (λb=>M b\/(w.heap.size<=b/\b<w4.heap.size)) N A E4 h' s4.g w4)->SatH E4 s4.h w4->
     zcZ cx l d fl p E0 s.h w0 a.defers I J rec (if jump.isNone=true then some (xs++ [x]) else none) (λb=>M b\/(w.heap.size<=b/\b<w4.heap.size)) N A w4)->
    ∃v w',(Instr.endRound l jump).run cx.P w3= .ok v w'/\(∃b M',(Ending.returned v:Ending)= .returned (.bool b)/\w'.os=w.os/\w'.tape=w.tape/\w'.output=w.output/\w.heap.size<=w'.heap.size/\(∀k,k<w.heap.size->¬M k->w'.heap[k]?=w.heap[k]?)/\
     (∀k,M k->M' k)/\(∀k,M' k->M k\/(w.heap.size<=k/\k<w'.heap.size))/\zcZ cx l d fl p E0 s.h w0 a.defers I J rec (if b=true then some (xs++ [x]) else none) M' N A w'):=by
   intro jump a4 w3 E4 s4 kf nC k6;have ss:=kf.ghost;rw [wV] at ss;obtain ⟨t1,t2,t3,t4,t5,t6⟩:=ss;have ao:=run_endRound (P:=cx.P) jump t3;obtain ⟨w4,gX⟩:∃w4,w4=w3.putObj l (.loop (rec (if jump.isNone then .ready else .done) jump)):=⟨_,rfl⟩
   have A2:(Instr.endRound l jump).run cx.P w3= .ok (.bool jump.isNone) w4:=by rw [ao,gX,su]
   have iA:w4.heap[l]?=some (.loop (rec (if jump.isNone then .ready else .done) jump)):=by rw [gX];exact World.putObj_heap_same (aI.1 t3).1
   have wW:∀b,b≠l->w4.heap[b]?=w3.heap[b]?:=λb hb=>by rw [gX];exact cf hb
   have A3:∀h',(∀b,Own E4 h' b->Own E4 s4.h b)->cx.G s4.g E4.M E0.N (λb=>Own E4 h' b\/A b\/b=l\/b=d\/zaL a.defers b) w4:=λh' ik=>by
    refine cx.stab _ _ _ _ _ w3 _ (λb _ hb=>wW b (λe=>hb (by rw [e];exact .inr zl))) (λb hb=> .inl ?_) (λb hb=>?_) (by rw [gX];simp) (by rw [gX];rfl) (by rw [gX];rfl) (by rw [gX];rfl) t1
    .grind
    .rw [gX,fp];rcases hb with hb|hb
     .exact (kf.hp.own b (ik b hb)).1
     all_goals grind
   have mT:SatH E4 s4.h w4:=by rw [gX];exact (zqx (cx1:=cx.inR l fl r2) (cx2:=cxOf cx.P cx.base cx.nt fl) _ kf t3 rfl rfl rfl trivial).hp
   have bo:EvoL l fl E2 (I xs).1 w E4 s4.h w4:=by rw [gX];exact ((AZ.l.trans (EvoL.put _)).trans nC.l).trans (EvoL.put _)
   refine ⟨_,w4,A2,jump.isNone,λb=>M b\/(w.heap.size<=b/\b<w4.heap.size),rfl,bo.os,bo.tape,bo.output,bo.size,λkk hk hm=>bo.keep kk hk (λh=>hm (k.m1 kk (.inl h))) (λh=>hm (k.m1 kk (.inr h))) (λe=>hm (by rw [e];exact k.ml.1)),λkk hk=> .inl hk,λkk hk=>hk,?_⟩;exact k6 w4 iA (λh' ga ik kn hn=>k.round hl hd bo mT ga ik kn hn ((wW d gw).trans t4) (A3 h' ik)) mT
  rintro e a4 w3 p1;cases e with
  | normal=>
   obtain ⟨E4,s4,⟨hle,iq,rf⟩,kf,nC⟩:=p1;refine fin none a4 w3 E4 s4 kf nC (λw4 iA pb mT=>?_);simp only [Option.isNone_none,av,zcZ]
   have:=pb (I (xs++ [x])).1 (mT.le hle iq) (λb hb=>zi7 hle hb) (λi hg=>⟨by obtain ⟨o',iO⟩:=bE.1 hg;obtain ⟨o,ho,_⟩:=zdL hle iO;simp [ho],zd9 hle hg⟩) (b4 _ bu)
   grind
  |ret=>
   obtain ⟨E4,s4,hj,kf,nC⟩:=p1;refine fin (some .ret) a4 w3 E4 s4 kf nC (λw4 iA pb mT=>?_);refine' EE
  |exit id=>
   obtain ⟨E4,s4,hj,kf,nC⟩:=p1;refine fin (some (.exit id)) a4 w3 E4 s4 kf nC (λw4 iA pb mT=>?_);refine' EE
  |goto id=>
   obtain ⟨E4,s4,hj,kf,nC⟩:=p1;refine fin (some (.goto id)) a4 w3 E4 s4 kf nC (λw4 iA pb mT=>?_);refine' EE
  |panic ch=>obtain ⟨_,_,h,_⟩:=p1;exact h.elim
  |outgrown=>obtain ⟨_,_,h,_⟩:=p1;exact h.elim
 |ret=>obtain ⟨_,_,h,_⟩:=pZ;exact h.elim
 |exit id=>obtain ⟨_,_,h,_⟩:=pZ;exact h.elim
 |goto id=>obtain ⟨_,_,h,_⟩:=pZ;exact h.elim
 |panic ch=>obtain ⟨_,_,h,_⟩:=pZ;exact h.elim
 |outgrown=>obtain ⟨_,_,h,_⟩:=pZ;exact h.elim
end
open Go
section
variable {cx : Cx} {s : AS} {Q : Exit -> AS -> Prop}
def zh6 {g} {ps:Array Tmp} {assign body} {f} {fs caps caps'} {fl} {items} {Kit:Option (List (List AV))→AHeap→Prop} p I J 
    (hro:cx.lone=true) (hg:s.ev g=(true,.fn (.func f) fs caps)) (hcle:AV.leL caps caps') (hen:zfe cx.P f)
    (hit:∀E0 w0 ds rec (pf qc:Array Value),SatH E0 s.h w0→Reps w0 E0 s.h fs pf.toList→Reps w0 E0 s.h caps qc.toList→(∀b,zaL ds b→b<w0.heap.size)→
      ∀ y:Yo cx.P items,y.G=zcZ cx (w0.heap.size+1) w0.heap.size fl p E0 s.h w0 ds I J rec→∀E w,SatH E (hsel p s.h) w→Reps w E (hsel p s.h) fs pf.toList→Reps w E (hsel p s.h) caps' qc.toList→y.G (some []) E.M E.N (Own E (hsel p s.h)) w→
        Calls cx.P f (pf++ #[Value.func (.yield y.yl) #[] #[]]++qc) w (fun e w'=>∃v E' h' g,e= .returned v∧Kit g h'∧SatH E' h' w'∧Evo fl E (hsel p s.h) w E' h' w'∧y.G g E'.M E'.N (Own E' h') w'))
    (hfl:∀i,(hget s.h i).isSome→i<fl) (hfc:cx.fl≤fl) (hcl:Closed p s.h) (hids:∀j∈AV.idsL fs++AV.idsL caps',p j=true)
    (hI:leH (hsel (fun i=> !p i) s.h) (I []).1) (hIn:inH (I []).1 (idsH (I []).1)) (hIg:(I []).2=s.g)
    (hnames:∀xs,xs<+:items→∀i,(hget (I xs).1 i).isSome→p i=false) (hJ:∀c h3 g3,J c h3 g3→∀i,(hget h3 i).isSome→p i=false) (hK1:∀g h',Kit g h'→(∀i,(hget h' i).isSome→p i=true)∧(∀xs,g=some xs→xs=items))
    (hlen:∀x∈items,x≠tick→x.length=ps.size) (hps:∀t∈ps.toList,t<cx.nt)
    (hround:∀xs x,x≠tick→(xs++ [x])<+:items→∀ (l:Nat) (r1:Rnd cx),AW (cx.inR l fl r1) assign (AsgK fun s1=>∀r2:Rnd cx,AW (cx.inR l fl r2) body (ze (fun h' g'=>leH h' (I (xs++ [x])).1∧inH (I (xs++ [x])).1 (idsH (I (xs++ [x])).1)∧g'=(I (xs++ [x])).2) J) s1)
      { t:=zeu ps.toList x (keepT (I xs).1 s.t),h:=(I xs).1,g:=(I xs).2 })
    (hdone:∀h1,Kit (some items) h1→Q .normal { t:=keepT (h1++(I items).1) s.t,h:=h1++(I items).1,g:=(I items).2 })
    (hstop:∀c h1 h3 g3,Kit none h1→J c h3 g3→AW cx c Q { t:=keepT (h1++h3) s.t,h:=h1++h3,g:=g3 }):
    AW cx (.rangeFunc g ps assign body) Q s:=by
  intro E0 a w0 hs0
  refine wpIn_rangeFunc ?_
  intro fn hfn
  refine' Hu
  obtain ⟨rec,hrec⟩:∃rec:LoopState→Option Code→Loop,rec=fun st pe=> { state:=st,pending:=pe,fn:=fn,tmps:=a.tmps,params:=ps,assign:=assign,body:=body,defers:=d } :=⟨_,rfl⟩
  obtain ⟨w1,hw1⟩:∃w1,w1=(w0.alloc (.deferred (some []))).alloc (.loop (rec .ready none)):=⟨_,rfl⟩
  have hsz1:w1.heap.size=w0.heap.size+2:=by rw [hw1];simp
  have hk1:∀b,b<w0.heap.size→w1.heap[b]?=w0.heap[b]?:=fun b hb=>by
    rw [hw1]
    show ((w0.heap.push _).push _)[b]?=_
    grind
  have hd1:w1.heap[d]?=some (.deferred (some [])):=by
    rw [hw1,hd]
    show ((w0.heap.push _).push _)[w0.heap.size]?=_
    grind
  have hl1:w1.heap[l]?=some (.loop (rec .ready none)):=by
    rw [hw1,hl]
    show ((w0.heap.push _).push _)[w0.heap.size+1]?=_
    grind
  have hfv:=ev_ok hs0.slots g (by rw [hg])
  rw [hg] at hfv
  simp only [Rep] at hfv
  obtain ⟨pf,qc,hgv,hfs,hcs⟩:=hfv
  have hitG:=hit E0 w0 a.defers rec pf qc hs0.hp hfs hcs (fun b hb=>hs0.marks.lt hb)
  replace hcs:Reps w0 E0 s.h caps' qc.toList:=Reps.le _ _ _ hcle hcs
  have hids1:∀j∈AV.idsL fs,p j=true:=fun j hj=>hids j fU
  have hids2:∀j∈AV.idsL caps',p j=true:=fun j hj=>hids j fU
  have hmk:∀b,zaL a.defers b→b<w0.heap.size:=fun b hb=>hs0.marks.lt hb
  have howns:∀b,Own E0 (hsel p s.h) b→¬Own E0 (hsel (fun i=> !p i) s.h) b:=by
    rintro b ⟨i,hi,hb⟩ ⟨j,hj,hb'⟩
    rw [zE] at hi hj
    split at hi
    · rename_i hpi
      split at hj
      · rename_i hpj
        have:=hs0.hp.inj i j b hi hj hb hb'
        grind
      · grind
    · grind
  obtain ⟨E1,hE1⟩:∃E1:Env,E1= { O:=E0.O,C:=E0.C,M:=fun b=>Own E0 (hsel (fun i=> !p i) s.h) b∨E0.M b∨b=l∨b=d,N:=E0.N } :=⟨_,rfl⟩
  have hX1:∀b,b<w0.heap.size→Xs E1 (hsel p s.h) b→Xs E0 s.h b:=by
    rw [hE1]
    rintro b hb (hx|(hx|hx|hx|hx)|hx)
    · exact .inl (zan hx)
    · exact .inl (zan hx)
    · exact .inr fU
    · omega
    · omega
    · exact .inr fU
  have hgo1:∀j,p j=true→GoesOn E0 s.h E1 (hsel p s.h) j:=fun j hj=>by
    rw [hE1]
    unfold GoesOn
    rw [zE,aa hj]
    grind
  have hs1:SatH E1 (hsel p s.h) w1:=by
    refine' Ij
    · have ho':=ho
      rw [zE] at ho'
      split at ho'
      · rename_i hpi
        have:=hs0.hp.heap i o ho'
        have hidso:=hcl i o ho' hpi
        have hlt:∀b,E0.O i=some b→w1.heap[b]?=w0.heap[b]?:=fun b hb=>hk1 b (hs0.hp.own b ⟨i,fU,hb⟩).1
        have hO:E1.O=E0.O:=by rw [hE1]
        have hC:E1.C=E0.C:=by rw [hE1]
        cases o with
        | var cs=>
          refine' DG
          refine' DK
          refine' IY
        | tvar tt cs=>
          refine' DG
          refine' DK
          refine' IY
        | arr k xs=>
          refine' EK
          refine' Eb
          · grind
          · exact .inr ⟨b,c,T,fz,g1,fU,g3,g4,RepRows.step hX1 fU _ _ _ g5,g6⟩
        | buf tt xs=>
          refine' EK
          grind
        | strit l q=>
          refine' DG
          grind
        | omap es=>
          refine' DG
          grind
      · grind
    · rw [hE1] at h1 h2
      rw [zE] at hi hj
      split at hi
      · split at hj
        · exact hs0.hp.inj i j b hi hj h1 h2
        · grind
      · grind
    · have hb':Own E0 (hsel p s.h) b:=by rw [hE1] at hb;exact hb
      have:=hs0.hp.own b (zan hb')
      rw [hE1]
      grind
    · rw [hE1] at hb
      rcases hb with hx|hx|hx|hx
      · have:=(hs0.hp.own b (zan hx)).1;omega
      · have:=hs0.hp.mlt b hx;omega
      · omega
      · omega
    · rw [hE1] at hb
      have:=hs0.hp.nlt b hb;omega
  have hfs1:Reps w1 E1 (hsel p s.h) fs pf.toList:=Reps.step hX1 fU _ _ fU hfs
  have hcs1:Reps w1 E1 (hsel p s.h) caps' qc.toList:=Reps.step hX1 fU _ _ fU hcs
  obtain ⟨E2,hE2⟩:∃E2:Env,E2= { O:=E0.O,C:=E0.C,M:=E0.M,N:=fun b=>E0.N b∨Own E0 (hsel p s.h) b∨b=l∨b=d } :=⟨_,rfl⟩
  have hown2:∀b,Own E2 (I []).1 b→Own E0 (hsel (fun i=> !p i) s.h) b:=fun b hb=>by
    have:Own E0 (I []).1 b:=by rw [hE2] at hb;exact hb
    exact zi7 hI this
  have hX2:∀b,b<w0.heap.size→Xs E2 (I []).1 b→Xs E0 s.h b:=by
    intro b hb hx
    refine' Gz
    · exact .inl (zan (hown2 b hx))
    · rw [hE2] at hx;exact .inr fU
    · rw [hE2] at hx
      rcases hx with hx|hx|hx|hx
      · exact .inr (.inr hx)
      · exact .inl (zan hx)
      · omega
      · omega
  have hO2:E2.O=E0.O:=by rw [hE2]
  have hC2:E2.C=E0.C:=by rw [hE2]
  have hM2:E2.M=E0.M:=by rw [hE2]
  have hs2:SatH E2 (I []).1 w1:=by
    have hp0:∀i o,hget (hsel (fun i=> !p i) s.h) i=some o→RepObj w0 E0 s.h i o:=fun i o ho=>by
      rw [zE] at ho
      split at ho
      · exact hs0.hp.heap i o ho
      · cases ho
    refine' Ij
    · obtain ⟨o1,ho1,hle⟩:=zdL hI ho
      have hr:=hp0 i o1 ho1
      have hlt:∀b,E0.O i=some b→w1.heap[b]?=w0.heap[b]?:=fun b hb=>hk1 b (hs0.hp.own b ⟨i,by
        rw [zE] at ho1
        split at ho1
        · simp [ho1]
        · simp at ho1,hb⟩).1
      have hgoI:∀j,(hget (I []).1 j).isSome→GoesOn E0 s.h E2 (I []).1 j:=fun j hj=>by
        have hj1:=zd9 (E:=E0) hI hj
        have hj2:(hget (hsel (fun i=> !p i) s.h) j).isSome:=by
          obtain ⟨o',ho'⟩:=bE.1 hj
          obtain ⟨oo,hoo,_⟩:=zdL hI ho'
          simp [hoo]
        have hpj:(!p j)=true:=by
          rw [zE] at hj2
          split at hj2
          · assumption
          · simp at hj2
        have hj3:=(zg9 (E:=E0) (h:=s.h) (p:=fun i=> !p i) j hpj).trans hj1
        unfold GoesOn at hj3 ⊢
        rw [hO2,hC2]
        exact hj3
      have hidsI:∀j∈o.ids,(hget (I []).1 j).isSome:=fun j hj=>zfW hIn j (zg3 ho j hj)
      cases o1 with
      | var cs=>
        cases o<;>simp only [AObj.le] at hle
        refine' Ex
      | tvar tt cs=>
        cases o<;>simp only [AObj.le] at hle
        obtain ⟨rfl,hle⟩:=hle
        refine' Ex
      | arr k xs=>
        refine' FZ
        refine' IQ
        · exact .inl g
        · exact .inr ⟨b,c,T,fz,g1,(hlt b g1).trans g2,g3,g4,RepRows.step hX2 (fun b hb _=>hk1 b hb) _ _ _ g5,g6⟩
      | buf tt xs=>
        refine' FZ
        refine' IQ
        · exact .inl g
        · exact .inr ⟨b,c,T,fz,g1,(hlt b g1).trans g2,g3,g4,g5,g6⟩
      | strit l q=>
        refine' FZ
        simp only [RepObj,hO2] at hr ⊢
        obtain ⟨b,g1,g2⟩:=hr
        exact ⟨b,g1,(hlt b g1).trans g2⟩
      | omap es=>
        refine' FZ
        simp only [RepObj,hO2] at hr ⊢
        obtain ⟨b,m,cl,g1,g2,g3⟩:=hr
        exact ⟨b,m,cl,g1,(hlt b g1).trans g2,g3⟩
    · rw [hO2] at h1 h2
      have key:∀i,(hget (I []).1 i).isSome→(hget s.h i).isSome:=fun i hi=>by
        obtain ⟨o',ho'⟩:=bE.1 hi
        obtain ⟨oo,hoo,_⟩:=zdL hI ho'
        rw [zE] at hoo
        split at hoo
        · simp [hoo]
        · cases hoo
      exact hs0.hp.inj i j b (key i hi) (key j hj) h1 h2
    · have hb':=hown2 b hb
      have:=hs0.hp.own b (zan hb')
      rw [hE2]
      refine ⟨fT,this.2.1,?_⟩
      rintro (hx|hx|hx|hx)
      · exact this.2.2 hx
      · exact howns b hx hb'
      · omega
      · omega
    · rw [hM2] at hb
      have:=hs0.hp.mlt b hb;omega
    · rw [hE2] at hb
      rcases hb with hx|hx|hx|hx
      · have:=hs0.hp.nlt b hx;omega
      · have:=(hs0.hp.own b (zan hx)).1;omega
      · omega
      · omega
  have hkept:Kept cx l d fl p E0 s.h w0 a.defers E1.M E1.N (Own E1 (hsel p s.h)) E2 (I []).1 (I []).2 w1:=by
    have hO1:∀b,Own E1 (hsel p s.h) b↔Own E0 (hsel p s.h) b:=fun b=>by rw [hE1];exact Iff.rfl
    refine ⟨hs2,hnames [] (List.nil_prefix),fun b=>by rw [hE1],fun b hb=> .inl ((hO1 b).1 hb),fun b=>by rw [hE2];simp only [hO1],fun b hb hm=>?_,fun b hb=>?_,?_,⟨nh,nh,nh,fT,fun b hb _ _=>hk1 b hb,fun b hb=> .inl (zan (hown2 b hb)),fun b hb=>by rwa [hM2],fun b hb=> .inl xS,fun i hi hg=>?_⟩,fun b hb=> .inl (hown2 b hb),fun b hb=> .inl xS,fT,hd1,?_⟩
    · rw [hM2] at hm
      exact (hs0.hp.own b (zan ((hO1 b).1 hb))).2.1 hm
    · rw [hE1]
      rcases hb with hb|hb
      · exact .inl (hown2 b hb)
      · exact .inr (.inl xS)
    · rw [hE1];exact ⟨.inr (.inr (.inl rfl)),.inr (.inr (.inr rfl))⟩
    · have hj1:=zd9 (E:=E0) hI hg
      have hj2:(hget (hsel (fun i=> !p i) s.h) i).isSome:=by
        obtain ⟨o',ho'⟩:=bE.1 hg
        obtain ⟨oo,hoo,_⟩:=zdL hI ho'
        simp [hoo]
      have hpj:(!p i)=true:=by
        rw [zE] at hj2
        split at hj2
        · assumption
        · simp at hj2
      have hj3:=(zg9 (E:=E0) (h:=s.h) (p:=fun i=> !p i) i hpj).trans hj1
      refine ⟨by rw [zE,aa hpj] at hj2;exact hj2,?_⟩
      unfold GoesOn at hj3 ⊢
      rw [hO2,hC2]
      exact hj3
    · rw [hIg,hM2]
      refine cx.stab _ _ _ _ _ w0 _ (fun b hb _=>hk1 b hb) (fun b hb=>?_) (fun b hb=>?_) fT nh nh nh hs0.ghost
      · rcases hb with hb|hb|hb|hb|hb
        · exact .inl (.inl (zan (hown2 b hb)))
        · exact .inl (.inl (zan ((hO1 b).1 hb)))
        · exact .inr fT
        · exact .inr fT
        · exact .inl (.inr hb)
      · rcases hb with hb|hb|hb|hb|hb
        · have:=(hs0.hp.own b (zan (hown2 b hb))).1;omega
        · have:=(hs0.hp.own b (zan ((hO1 b).1 hb))).1;omega
        · omega
        · omega
        · have:=hmk b hb;omega
  let y : Yo cx.P items:=
    { yl:=l
      G:=zcZ cx l d fl p E0 s.h w0 a.defers I J rec
      stab:=fun gg M N A A' w w' hk hA hAb hsz ht ho hout hG=>by
        cases gg with
        | some xs=>
          simp only [zcZ] at hG ⊢
          obtain ⟨E3,k,hrl⟩:=hG
          obtain ⟨E3',k',hnl⟩:=k.step hl hd hs0.hp hmk hk hA hAb hsz ht ho hout
          exact ⟨E3',k',(hk l (by have:=k.size;omega) hnl).trans hrl⟩
        | none=>
          simp only [zcZ] at hG ⊢
          obtain ⟨E3,c,h3,g3,k,hrl,hj⟩:=hG
          obtain ⟨E3',k',hnl⟩:=k.step hl hd hs0.hp hmk hk hA hAb hsz ht ho hout
          exact ⟨E3',c,h3,g3,k',(hk l (by have:=k.size;omega) hnl).trans hrl,hj⟩
      yok:=zwk hl hd hs0 I J hnames hJ hlen hps hfl hround rec hrec }
  have hG1:zcZ cx l d fl p E0 s.h w0 a.defers I J rec (some []) E1.M E1.N (Own E1 (hsel p s.h)) w1:=by
    simp only [zcZ]
    exact ⟨E2,hkept,hl1⟩
  have hcalls:=hitG y (by rw [← hl,← hd]) E1 w1 hs1 hfs1 hcs1 hG1
  refine ⟨l,[{ target:= .collected d,args:= #[] }],w1, { target:= .fn (.func f) qc,args:=pf++ #[Value.func (.yield l) #[] #[]] },w1,f,pf++ #[Value.func (.yield l) #[] #[]]++qc,w1,?_,?_,fun _ _=>trivial,?_,fun h=>gS,?_⟩
  · have hround0:cx.F.round=none:=(Cx.lone_ok hro).1
    rw [hround0,hw1,hrec,hl,hd]
    exact run_enterLoop_outer fn a.tmps ps assign body
  · simp only [resolve,rangeCall,hgv,Deferred.ofValue,ar,ai]
    simp [Act.eval]
  · simp only [invoke]
    exact hen _ _
  · refine (zmA 0 hcalls).mono ?_
    rintro e w5 ⟨v,E5,h5,g5,rfl,hKit,hs5,hev5,hG5⟩
    have hG5':zcZ cx l d fl p E0 s.h w0 a.defers I J rec g5 E5.M E5.N (Own E5 h5) w5:=hG5
    obtain ⟨hn5,hit5⟩:=hK1 g5 h5 hKit
    have fin:∀ (st:LoopState) (pe:Option Code) (E4:Env) (hI':AHeap) (gI':Option (List (List AV))),st≠ .busy→Kept cx l d fl p E0 s.h w0 a.defers E5.M E5.N (Own E5 h5) E4 hI' gI' w5→w5.heap[l]?=some (.loop (rec st pe))→
        ∃w6 E6,(Instr.endLoop l).run cx.P w5= .ok pe w6∧Sat cx E6 { t:=keepT (h5++hI') s.t,h:=h5++hI',g:=gI' } { a with defers:= { target:= .collected d,args:= #[] } ::a.defers } w6∧Evo cx.fl E0 s.h w0 E6 (h5++hI') w6:=by
      intro st pe E4 hI' gI' hst k hrl
      have hend:=run_endLoop (P:=cx.P) hrl (by rw [hrec];exact hst)
      obtain ⟨w6,hw6⟩:∃w6,w6=w5.putObj l (.loop { rec st pe with state:= .exhausted }):=⟨_,rfl⟩
      have hsz5:=k.size
      have ap:Apart p E5 h5 E4 hI' E4.M E0.N:=
        { n1:=hn5,n2:=k.names,o1:=fun b hb=> .inr ((k.n2 b).2 (.inr (.inl hb))),o2:=fun b hb=> .inl (k.m1 b (.inl hb)),m1:=fun b hb=> .inl (k.m1 b (.inr hb)),m2:=fun b hb=> .inl hb,k1:=fun b hb=> .inr ((k.n1 b).2 hb),k2:=fun b hb=> .inr ((k.n2 b).2 (.inl hb)) }
      have hs6':=ap.sat hs5 k.hp k.hp.mlt (fun b hb=>k.hp.nlt b ((k.n2 b).2 (.inl hb)))
      obtain ⟨E6,hE6⟩:∃E6,E6=joinE p E5 E4 E4.M E0.N:=⟨_,rfl⟩
      rw [← hE6] at hs6'
      have hM6:E6.M=E4.M:=by rw [hE6];rfl
      have hN6:E6.N=E0.N:=by rw [hE6];rfl
      have hown6:∀b,Own E6 (h5++hI') b→Own E5 h5 b∨Own E4 hI' b:=fun b hb=>by rw [hE6] at hb;exact ap.own hb
      have ho5:∀b,Own E5 h5 b→Own E0 s.h b∨w1.heap.size≤b:=fun b hb=>(hev5.own b hb).imp (fun h=>by rw [hE1] at h;exact zan h) id
      have hgoE:∀j,(hget (h5++hI') j).isSome→GoesOn E0 s.h E6 (h5++hI') j∧(j<fl→(hget s.h j).isSome):=fun j hj=>by
        by_cases hpj:p j=true
        · have hj5:(hget h5 j).isSome:=by rw [ap.get1 hpj] at hj;exact hj
          have key:j<fl→(hget s.h j).isSome∧GoesOn E0 s.h E6 (h5++hI') j:=fun hjf=>by
            obtain ⟨q1,q2⟩:=hev5.go j hjf hj5
            rw [zE,aa hpj] at q1
            refine ⟨q1,?_⟩
            have q3:GoesOn E0 s.h E5 h5 j:=by
              unfold GoesOn at q2 ⊢
              rw [zE,aa hpj,hE1] at q2
              exact q2
            rw [hE6]
            exact q3.trans (ap.goes1 j)
          by_cases hj0:(hget s.h j).isSome
          · exact ⟨(key (hfl j hj0)).2,fun _=>hj0⟩
          · refine ⟨?_,fun hjf=>(key hjf).1⟩
            unfold GoesOn
            split
            · rename_i cs hh;exact (hj0 jO).elim
            · rename_i k xs hh;exact (hj0 jO).elim
            · rename_i l p hh;exact (hj0 jO).elim
            · rename_i es hh;exact (hj0 jO).elim
            · refine' Iw
            · refine' Iw
            · trivial
        · have hpj':p j=false:=by simpa using hpj
          have hj4:(hget hI' j).isSome:=by rw [ap.get2 hpj'] at hj;exact hj
          by_cases hj0:(hget s.h j).isSome
          · refine ⟨?_,fun _=>hj0⟩
            rw [hE6]
            exact (k.far.go j (hfl j hj0) hj4).2.trans (ap.goes2 j)
          · refine ⟨?_,fun hjf=>(k.far.go j hjf hj4).1⟩
            unfold GoesOn
            split
            · rename_i cs hh;exact (hj0 jO).elim
            · rename_i k xs hh;exact (hj0 jO).elim
            · rename_i l p hh;exact (hj0 jO).elim
            · rename_i es hh;exact (hj0 jO).elim
            · refine' Iw
            · refine' Iw
            · trivial
      have hXf:XIn w0 (Xs E6 (h5++hI')) (Xs E0 s.h):=fun b o hc _ hx=>by
        have hb:=(aI.1 hc).1
        refine' Gz
        · rcases hown6 b hx with h|h
          · rcases ho5 b h with h|h
            · exact .inl h
            · omega
          · rcases k.far.own b h with h|h
            · exact .inl h
            · omega
        · rw [hM6] at hx
          rcases k.far.m2 b hx with h|h
          · exact .inr (.inl h)
          · omega
        · rw [hN6] at hx;exact .inr (.inr hx)
      have hKf:KIn w0 w5 (Xs E0 s.h):=fun b o hc _ hx=>by
        rcases k.far.block b (aI.1 hc).1 with h|h
        · exact absurd h hx
        · exact h.trans hc
      have hslots:Slots w5 E6 ⟨keepT (h5++hI') s.t,h5++hI',gI'⟩ a:=zlL (g:=s.g) hs0.slots hXf hKf (fun j hj=>(hgoE j hj).1)
      have hdM:¬E4.M d:=fun hm=>by
        rcases k.m0 d hm with h|h
        · have:=hs0.hp.mlt d h;omega
        · omega
      have hmarks5:Marks cx.base E6 w5 ({ target:= .collected d,args:= #[] } ::a.defers):=by
        have hb0:=hs0.base.1
        refine ⟨fun dd hdd=>?_,?_⟩
        · rcases bg.1 hdd with rfl|hdd
          · exact ⟨d,rfl,k.dd,fT,by rw [hM6];exact hdM⟩
          · obtain ⟨r,q1,q2,q3,q4⟩:=hs0.marks.1 dd hdd
            have hr:=(aI.1 q2).1
            refine ⟨r,q1,(k.far.keep r hr (hs0.hp.not_mark q2) q4).trans q2,q3,fun hm=>?_⟩
            rw [hM6] at hm
            rcases k.far.m2 r hm with h|h
            · exact q4 h
            · omega
        · simp only [au,List.nodup_cons]
          refine ⟨?_,hs0.marks.2⟩
          simp only [ba,not_exists,not_and]
          intro dd hdd e
          obtain ⟨r,q1,q2,q3,q4⟩:=hs0.marks.1 dd hdd
          have hr:=(aI.1 q2).1
          rw [q1] at e
          simp only at e
          omega
      have hghost5:cx.G gI' E6.M E6.N (fun b=>Own E6 (h5++hI') b∨zaL ({ target:= .collected d,args:= #[] } ::a.defers) b) (w5.putObj l (.loop { rec st pe with state:= .exhausted })):=by
        rw [hM6,hN6]
        refine cx.stab _ _ _ _ _ w5 _ (fun b _ hb=>cf (fun e=>hb (by rw [e];exact .inr (.inr (.inl rfl))))) (fun b hb=> .inl ?_) (fun b hb=>?_) fZ rfl rfl rfl k.ghost
        · rcases hb with hb|⟨dd,hdd,hdt⟩
          · rcases hown6 b hb with h|h
            · exact .inr (.inl h)
            · exact .inl h
          · rcases bg.1 hdd with rfl|hdd
            · have:b=d:=by simpa using hdt.symm
              exact .inr (.inr (.inr (.inl this)))
            · exact .inr (.inr (.inr (.inr ⟨dd,hdd,hdt⟩)))
        · rw [fp]
          rcases hb with hb|hb
          · exact (hs6'.own b hb).1
          · exact hmarks5.lt hb
      have hsat5:Sat (cxOf cx.P cx.base cx.nt cx.fl) E6 { t:=keepT (h5++hI') s.t,h:=h5++hI',g:=gI' } { a with defers:= { target:= .collected d,args:= #[] } ::a.defers } w5:=
        { slots:=fun kk g v hk=>hslots kk g v hk,nt:=hs0.nt,hp:=hs6',base:=⟨aD hs0.base.1 k.far.size,fun h=>gS⟩,marks:=hmarks5,ghost:=trivial }
      refine ⟨w6,E6,?_,?_,?_⟩
      · rw [hend,hw6,hrec]
      · rw [hw6]
        exact zqx (cx1:=cxOf cx.P cx.base cx.nt cx.fl) (cx2:=cx) _ hsat5 hrl rfl (Cx.lone_ok hro).2 rfl hghost5
      · rw [hw6]
        refine ⟨k.far.os,k.far.tape,k.far.output,by simpa using k.far.size,fun b hb h1 h2=>?_,fun b hb=>?_,fun b hb=>by rw [hM6];exact k.far.m1 b hb,fun b hb=>by rw [hM6] at hb;exact k.far.m2 b hb,hN6,fun i hi hg=>?_⟩
        · exact (cf fT).trans (k.far.keep b hb h1 h2)
        · rcases hown6 b hb with h|h
          · rcases ho5 b h with h|h
            · exact .inl h
            · exact .inr fT
          · exact k.far.own b h
        · exact ⟨(hgoE i hg).2 fT,(hgoE i hg).1⟩
    cases g5 with
    | some xs=>
      have hxs:=hit5 xs rfl
      subst hxs
      simp only [zcZ] at hG5'
      obtain ⟨E4,k,hrl⟩:=hG5'
      obtain ⟨w6,E6,h1,h2,h3⟩:=fin .ready none E4 _ _ fZ k hrl
      exact ⟨none,w6,h1,E6,_,hdone h5 hKit,h2,h3⟩
    | none=>
      simp only [zcZ] at hG5'
      obtain ⟨E4,c,h3',g3',k,hrl,hj⟩:=hG5'
      obtain ⟨w6,E6,h1,h2,h3⟩:=fin .done (some c) E4 _ _ fZ k hrl
      refine ⟨some c,w6,h1,?_⟩
      exact aT (hstop c h5 h3' g3' hKit hj E6 _ w6 h2) (fun _ _ _ hr=>hr.trans h3)
def zh7 {g} {ps:Array Tmp} {assign body} {f} {fs caps caps'} {fl} {items} {Kit:Option (List (List AV))->AHeap->Prop} p (I:List (List AV)->AHeap×Option (List (List AV))) J 
  (kV:cx.lone=true) (hg:s.ev g=(true,.fn (.func f) fs caps)) (A4:AV.leL caps caps') (ix:zfe cx.P f)
  (jV:∀E0 w0 (pf qc:Array Value),SatH E0 s.h w0->Reps w0 E0 s.h fs pf.toList->Reps w0 E0 s.h caps qc.toList->∃S:World->Prop,
   (∀y:Yo cx.P items,(∀g M N A w,y.G g M N A w->S w)->∀E w,SatH E (hsel p s.h) w->Reps w E (hsel p s.h) fs pf.toList->Reps w E (hsel p s.h) caps' qc.toList->y.G (some []) E.M E.N (Own E (hsel p s.h)) w->
    Calls cx.P f (pf++ #[Value.func (.yield y.yl) #[] #[]]++qc) w (λe w'=>∃v E' h' g,e= .returned v/\Kit g h'/\SatH E' h' w'/\Evo fl E (hsel p s.h) w E' h' w'/\y.G g E'.M E'.N (Own E' h') w'))/\
   (∀xs E w,SatH E (I xs).1 w->(∀i,i<fl->(hget (I xs).1 i).isSome->GoesOn E0 s.h E (I xs).1 i)->S w)/\
   (∀c h3 g3,J c h3 g3->∀E w,SatH E h3 w->(∀i,i<fl->(hget h3 i).isSome->GoesOn E0 s.h E h3 i)->S w))
  (gy:∀i,(hget s.h i).isSome->i<fl) (nD:cx.fl<=fl) (c6:Closed p s.h) (gL:∀j∈AV.idsL fs++AV.idsL caps',p j=true)
  (hI:leH (hsel (λi=> !p i) s.h) (I []).1) (hIn:inH (I []).1 (idsH (I []).1)) (kv:(I []).2=s.g)
  (q4:∀xs,xs<+:items->∀i,(hget (I xs).1 i).isSome->p i=false) (hJ:∀c h3 g3,J c h3 g3->∀i,(hget h3 i).isSome->p i=false) (mZ:∀g h',Kit g h'->(∀i,(hget h' i).isSome->p i=true)/\(∀xs,g=some xs->xs=items))
  (hlen:∀x∈items,x.length=ps.size) (jY:∀t∈ps.toList,t<cx.nt)
  (mS:∀xs x,(xs++ [x])<+:items->∀ (l:Nat) (r1:Rnd cx),AW (cx.inR l fl r1) assign (AsgK λs1=>∀r2:Rnd cx,AW (cx.inR l fl r2) body (ze (λh' g'=>leH h' (I (xs++ [x])).1/\inH (I (xs++ [x])).1 (idsH (I (xs++ [x])).1)/\g'=(I (xs++ [x])).2) J) s1)
   { t:=zeu ps.toList x (keepT (I xs).1 s.t),h:=(I xs).1,g:=(I xs).2 })
  (oe:∀h1,Kit (some items) h1->Q .normal { t:=keepT (h1++(I items).1) s.t,h:=h1++(I items).1,g:=(I items).2 })
  (p2:∀c h1 h3 g3,Kit none h1->J c h3 g3->AW cx c Q { t:=keepT (h1++h3) s.t,h:=h1++h3,g:=g3 }):
  AW cx (.rangeFunc g ps assign body) Q s:=
 zh6 p I J kV hg A4 ix (λE0 w0 ds rec pf qc e1 rb lA mv y hy=>by
  obtain ⟨S,A5,A6,A7⟩:=jV E0 w0 pf qc e1 rb lA;refine A5 y λg M N A w hG=>?_;rw [hy] at hG;cases g with
  |some xs=>
   simp only [zcZ] at hG;obtain ⟨E3,k,jw⟩:=hG;exact A6 xs E3 w k.hp (λi hi hh=>(k.far.go i hi hh).2)
  |none=>
   simp only [zcZ] at hG;obtain ⟨E3,c,h3,g3,k,jw,hj⟩:=hG;exact A7 c h3 g3 hj E3 w k.hp (λi hi hh=>(k.far.go i hi hh).2))
  gy nD c6 gL hI hIn kv q4 hJ mZ fU jY fU oe p2
def zjh {g} {ps:Array Tmp} {assign body} {f} {fs caps} {fl} {items} {Kit} p (I:List (List AV)->AHeap×Option (List (List AV))) J 
  (kV:cx.lone=true) (hg:s.ev g=(true,.fn (.func f) fs caps)) (jV:AIter cx.P f fl fs caps (hsel p s.h) items Kit)
  (gy:∀i,(hget s.h i).isSome->i<fl) (nD:cx.fl<=fl) (c6:Closed p s.h) (gL:∀j∈AV.idsL fs++AV.idsL caps,p j=true)
  (hI:leH (hsel (λi=> !p i) s.h) (I []).1) (hIn:inH (I []).1 (idsH (I []).1)) (kv:(I []).2=s.g)
  (q4:∀xs,xs<+:items->∀i,(hget (I xs).1 i).isSome->p i=false) (hJ:∀c h3 g3,J c h3 g3->∀i,(hget h3 i).isSome->p i=false) (mZ:∀g h',Kit g h'->(∀i,(hget h' i).isSome->p i=true)/\(∀xs,g=some xs->xs=items))
  (hlen:∀x∈items,x.length=ps.size) (jY:∀t∈ps.toList,t<cx.nt)
  (mS:∀xs x,(xs++ [x])<+:items->∀ (l:Nat) (r1:Rnd cx),AW (cx.inR l fl r1) assign (AsgK λs1=>∀r2:Rnd cx,AW (cx.inR l fl r2) body (ze (λh' g'=>leH h' (I (xs++ [x])).1/\inH (I (xs++ [x])).1 (idsH (I (xs++ [x])).1)/\g'=(I (xs++ [x])).2) J) s1)
   { t:=zeu ps.toList x (keepT (I xs).1 s.t),h:=(I xs).1,g:=(I xs).2 })
  (oe:∀h1,Kit (some items) h1->Q .normal { t:=keepT (h1++(I items).1) s.t,h:=h1++(I items).1,g:=(I items).2 })
  (p2:∀c h1 h3 g3,Kit none h1->J c h3 g3->AW cx c Q { t:=keepT (h1++h3) s.t,h:=h1++h3,g:=g3 }):
  AW cx (.rangeFunc g ps assign body) Q s:=
 zh7 p I J kV hg (AV.leL_refl _) jV.1 (λE0 w0 pf qc _ _ _=>⟨λ_=>True,λy _ E w hs hf hc hy=>jV.2 y E w pf qc hs hf hc hy,λ_ _ _ _ _=>trivial,λ_ _ _ _ _ _ _ _=>trivial⟩)
  gy nD c6 gL hI hIn kv q4 hJ mZ hlen jY mS oe p2
end
attribute [go_sem] Cx.inR zeu AsgK ze
open Go
def zbD:Op->List Operand
 | .move x=> [x]
 | .assign x=> [x]
 | .pick c a b=> [c,a,b]
 | .binOp _ _ x y _=> [x,y]
 | .unOp _ _ x=> [x]
 | .convert _ _ x=> [x]
 | .makeInterface _ x=> [x]
 | .makeFunc _ fs cs=>(fs++cs).toList
 | .field _ x _=> [x]
 | .fieldAddr _ x _=> [x]
 | .indexAddr _ x y=> [x,y]
 | .index _ x y=> [x,y]
 | .slice _ x lo hi mx=>x::(lo.toList++hi.toList++mx.toList)
 | .load _ x=> [x]
 | .nilCheck x=> [x]
 | .range _ x=> [x]
 | .next x _=> [x]
 | .extract x _=> [x]
 | .call c=>(match c.callee with| .value f=> [f]| .invoke f _=> [f]|_=> [])++c.args.toList
 | .box _ x=> [x]
 | .build _ parts=>parts.toList.map (·.2)
 | .buildSlice _ _ parts=>parts.toList.map (·.2)
 | .store _ x y=> [x,y]
 | .makeSlice _ x y=> [x,y]
 | .lookup _ x y _=> [x,y]
 | .typeAssert x _ _ _=> [x]
 | .mapUpdate _ x y z=> [x,y,z]
 |_=> []
def detOp (P:Program):Op->Bool
 | .binOp _ _ _ _ _=>false
 | .lookup _ _ _ _=>false
 | .makeMap _ _=>false
 | .range _ _=>false
 | .next _ _=>false
 | .convert _ d _=>(match (ty P d).td with| .slice _=>false|_=>true)
 |_=>true
def isEff:Op->Bool
 | .alloc _=>true
 | .makeSlice _ _ _=>true
 | .call c=>(match c.callee with| .builtin .append=>true| .builtin .copy=>true| .builtin .clear=>true|_=>false)
 | .box _ _=>true
 | .buildSlice _ _ _=>true
 | .store _ _ _=>true
 | .mapUpdate _ _ _ _=>true
 |_=>false
def zwl {P} {s} {c} {q} (h:zbG P s c=some q):isEff (.call c)=false:=by unfold zbG at h;cases hc:c.callee<;>rw [hc] at h<;>first|cases h;done|simp [isEff,hc]
def fop (cx:Cx) (tab:Tab) (s:AS) (G:Bool) (o:Oper) (R:Bool->AV->AHeap->Prop):Prop:=
 match o.op with
 | .move x=>known s x=true/\R (G&&(s.ev x).1) ((s.ev x).2.tag cx.P o.type) s.h
 | .assign x=>known s x=true/\R (G&&(s.ev x).1) ((s.ev x).2.tag cx.P o.type) s.h
 | .pick c a b=>(match s.ev c with
  |(gc,.d (.bool c))=>(G=true->gc=true/\(c=true->(s.ev a).1=true/\(s.ev a).2.isB=true)/\(c=false->(s.ev b).1=true/\(s.ev b).2.isB=true))/\R G (.d (.bool (bif c then (s.ev a).2.toB else (s.ev b).2.toB))) s.h
  |_=>False)
 | .call c=>if isVal cx.P (.call c) then (G=true->(aval cx.P s (.call c)).1)/\R G (aval cx.P s (.call c)).2 s.h else
  (match zbG cx.P s c with
  |some (f,args,J)=>(match tab f (args.map (frz 9 s.h)) with
   |some (pre,r)=>(G=true->J/\pre/\(r.scal=true\/AV.idsL args= []))/\R G r s.h
   |none=>False)
  |none=>G=true/\aeff cx.fl cx.P s (.call c) (λr h'=>R true r h'))
 |op=>if isVal cx.P op then (G=true->(aval cx.P s op).1)/\R G (aval cx.P s op).2 s.h else G=true/\detOp cx.P op=true/\aeff cx.fl cx.P s op (λr h'=>R true r h')
section
variable {cx : Cx} {tab : Tab} {P : Program} {s s' : AS}
def ztY {fl} {op} {K} (hdet:detOp P op=true) (h:zaU fl P s op K):∃r h',K r h'∧(∀K',K' r h'→zaU fl P s op K')∧(isEff op=false→h'=s.h):=by
 unfold zaU at h
 split at h
 ·rename_i src dt x
  split at h
  ·rename_i e hs hd
   split at h
   ·rename_i g l hx
    exact ⟨_,_,h.2.2,fun K' hk=>kI,fun e=>by simp [detOp,hd] at hdet⟩
   ·grind
  ·rename_i e hs hd
   split at h
   ·rename_i rows hr
    exact ⟨_,_,h.2.2.2,fun K' hk=>kI,fun _=>rfl⟩
   ·grind
  ·grind
 ·cases hdet
 ·rename_i t l c
  split at h
  ·rename_i e gl n gc m ht hl hc
   obtain ⟨h1,h2,h3,h4,h5,h6,h7,h8,h9,h⟩:=h
   split at h
   ·rename_i z hz
    exact ⟨_,_,h,fun K' hk=>kI,fun e=>gN⟩
   ·grind
  ·grind
 ·cases hdet
 ·cases hdet
 ·cases hdet
 ·rename_i t m k v
  split at h
  ·rename_i kt et gm i gk kd gv vd ht hm hk hv
   obtain ⟨h1,h2,h3,h4,h⟩:=h
   split at h
   ·rename_i es hes
    exact ⟨_,_,h.2.2,fun K' hk'=>kI,fun e=>gN⟩
   ·grind
  ·grind
 ·rename_i c
  split at h
  ·rename_i hcal
   split at h
   ·rename_i x y t u ha ht
    split at h
    ·rename_i e hte
     obtain ⟨h1,h2,h3,h4,h5,h⟩:=h
     split at h
     ·rename_i rows hr
      split at h
      ·rename_i k hx
       exact ⟨_,_,h.2.2,fun K' hk=>kI,fun e=>og⟩
      ·rename_i i k m off len hx
       split at h
       ·rename_i k' xs hi
        obtain ⟨g1,g2,g3,g4,h⟩:=h
        by_cases hlm:len=m
        ·rw [aa hlm] at h
         obtain ⟨g6,g7,h⟩:=h
         refine' Hz
        ·rw [U hlm] at h
         obtain ⟨g6,h⟩:=h
         refine' Hz
       ·grind
      ·grind
     ·grind
    ·grind
   ·grind
  ·rename_i hcal
   split at h
   ·rename_i x y t u ha ht
    split at h
    ·rename_i e hte
     obtain ⟨h1,h2,h3,h4,h⟩:=h
     split at h
     ·rename_i rows hr
      split at h
      ·rename_i i k m off len hx
       split at h
       ·rename_i k' xs hi
        obtain ⟨g1,g2,g3,g4,g5,h⟩:=h
        refine' Hz
       ·grind
      ·grind
     ·grind
    ·grind
   ·grind
  ·rename_i hcal
   split at h
   ·rename_i x t ha ht
    split at h
    ·rename_i e hte
     obtain ⟨h1,h2,h3,h4,h⟩:=h
     split at h
     ·rename_i z hz
      split at h
      ·rename_i i k m off len hx
       split at h
       ·rename_i k' xs hi
        obtain ⟨g1,g2,g3,g4,h⟩:=h
        refine' Hz
       ·grind
      ·grind
     ·grind
    ·grind
   ·grind
  ·grind
 ·grind
def zsA {fl} {op} {K} (A8:detOp P op=true) (h:aeff fl P s op K):∃r h',K r h'/\(∀K',K' r h'->aeff fl P s op K')/\(isEff op=false->h'=s.h):=by
 unfold aeff at h;split at h
 .exact ⟨_,_,h.2,λK' J=>kH,λe=>gN⟩
 .exact ⟨_,_,h.2.2,λK' J=>kH,λe=>gN⟩
 .rename_i t parts;obtain ⟨h1,h2,h3⟩:=h;split at h3
  .rename_i fs hf;exact ⟨_,_,h3.2.2,λK' J=>kH,λ_=>rfl⟩
  .rename_i n e hf;exact ⟨_,_,h3.2.2,λK' J=>kH,λ_=>rfl⟩
  .grind
 .rename_i t len parts;split at h
  .rename_i e hf;obtain ⟨h1,h2,h3,h4,h5,h6,h7⟩:=h;split at h7
   .rename_i ds hds;exact ⟨_,_,h7,λK' J=>kH,λe=>gN⟩
   .rename_i hds;exact ⟨_,_,h7.2,λK' J=>kH,λe=>gN⟩
  .grind
 .rename_i t x y;obtain ⟨h1,h2,h3,h4,h5,h6⟩:=h;split at h6
  .rename_i i o hx;split at h6
   .rename_i cs hi;exact ⟨_,_,h6.2,λK' J=>kH,λe=>gN⟩
   .grind
  .rename_i i o hx;split at h6
   .rename_i tt cs hi;exact ⟨_,_,h6.2,λK' J=>kH,λe=>gN⟩
   .grind
  .rename_i i n k r o hx;split at h6
   .rename_i k' xs hi;obtain ⟨g1,g2,g3,g4,g5⟩:=h6;split at g5
    .rename_i ds hds;exact ⟨_,_,g5,λK' J=>kH,λe=>gN⟩
    .grind
   .grind
  .grind
 .rename_i op n1 n2 n3 n4 n5;obtain ⟨r,h',q1,q2,q3⟩:=ztY A8 h;refine ⟨r,h',q1,λK' J=>?_,q3⟩;have:=q2 K' J;unfold aeff
  grind
def zax {G} {o} {R} (n1:∀x,o.op= .move x->False) (n2:∀x,o.op= .assign x->False) (J:∀x y z,o.op= .pick x y z->False) (n4:∀c,o.op= .call c->False):
  fop cx tab s G o R↔(if isVal cx.P o.op=true then (G=true->(aval cx.P s o.op).1)/\R G (aval cx.P s o.op).2 s.h else G=true/\detOp cx.P o.op=true/\aeff cx.fl cx.P s o.op (λr h'=>R true r h')):=by
 unfold fop
 grind
def zCj {G} {o} {R} (h:fop cx tab s G o R):∃g v h',R g v h'/\(∀R':Bool->AV->AHeap->Prop,R' g v h'->fop cx tab s G o R')/\(isEff o.op=false->h'=s.h):=by
 unfold fop at h;split at h
 .rename_i x ho;refine' FF
 .rename_i x ho;refine' FF
 .rename_i c a b ho;split at h
  .rename_i g1 c1 h1;refine' FF
  .grind
 .rename_i c ho;split at h
  .rename_i hv;refine' FF
  .rename_i hv;split at h
   .rename_i f args vc hc;split at h
    .rename_i pre r ht;refine' FF
    .grind
   .rename_i hc;obtain ⟨rfl,h⟩:=h;obtain ⟨r,h',q1,q2,q3⟩:=zsA rfl h;exact ⟨true,r,h',q1,λR' J=>mP,fU⟩
 .rename_i n1 n2 n3 n4;split at h
  .rename_i hv;refine ⟨_,_,_,h.2,λR' J=>?_,λ_=>rfl⟩;unfold fop
   grind
  .rename_i hv;obtain ⟨rfl,hdt,h⟩:=h;obtain ⟨r,h',q1,q2,q3⟩:=zsA hdt h;refine ⟨true,r,h',q1,λR' J=>?_,q3⟩;unfold fop
   grind
def zzk {G} {o} {K} (hd:dstOk cx.nt o.dst) (h:fop cx tab s G o (λg v h'=>K ({ s with h:=h' }.put o.dst g v))):aopT cx tab G o K s:=by
 unfold fop at h;split at h
 .refine' Hw
 .refine' Hw
 .rename_i c a b J;unfold aopT;rw [J];dsimp only;rw [aa (show zeV cx.P _=true from rfl)];unfold aop;rw [J];refine ⟨hd,?_⟩;omega
 .rename_i c J;unfold aopT;rw [J];dsimp only;split at h
  .rename_i hv;rw [aa hv];unfold aop;simp_all
  .rename_i hv;rw [U hv];split at h
   .rename_i f args vc hc;rw [hc];dsimp only;split at h
    .simp_all
    .grind
   .rename_i hc;rw [hc];obtain ⟨rfl,h⟩:=h;refine ⟨hd,?_⟩;rw [aa rfl];unfold aop1
    grind
 .rename_i n1 n2 n3 n4
  have hq:zeV cx.P o.op=isVal cx.P o.op:=by
   unfold zeV
   grind
  have e1:aopT cx tab G o K s=if zeV cx.P o.op then aop cx G o K s else aopS cx G o K s:=by
   unfold aopT
   grind
  rw [e1,hq];split at h
  .rename_i hv;rw [aa hv];refine ⟨hd,?_⟩;simp_all
  .rename_i hv;rw [U hv];obtain ⟨rfl, -,h⟩:=h;refine ⟨hd,?_⟩;rw [aa rfl];unfold aop1
   grind
def zDN {i} (hh:s.h=s'.h):s.esOf i=s'.esOf i:=by unfold AS.esOf;rw [hh]
def ztZ {t} {x y} {ok} (hh:s.h=s'.h):zda P s t x y ok=zda P s' t x y ok:=by unfold zda AS.esOf;rw [hh]
def zzl {t} {x} (hh:s.h=s'.h):zfd P s t x=zfd P s' t x:=by unfold zfd;rw [hh]
def zmM {t} {x} {f} (hh:s.h=s'.h):zbe P s t x f=zbe P s' t x f:=by unfold zbe AS.cur;rw [hh]
def zmN {t} {x y} (hh:s.h=s'.h):zbf P s t x y=zbf P s' t x y:=by unfold zbf AS.cur;rw [hh]
def zCk {t} {x} (hh:s.h=s'.h):avLen P s t x=avLen P s' t x:=by unfold avLen AS.cur;rw [hh]
def bnd_e {x} {d} (he:∀y∈x.toList,s.ev y=s'.ev y):s.bnd x d=s'.bnd x d:=by
 cases x with
 |none=>rfl
 |some y=>simp only [AS.bnd,he y fZ]
def all_e {l:List Operand} (he:∀y∈l,s.ev y=s'.ev y):(l.all λx=>(s.ev x).1)=l.all λx=>(s'.ev x).1:=by
 grind
def map_e {l:List Operand} (he:∀y∈l,s.ev y=s'.ev y):(l.map λx=>(s.ev x).2)=l.map λx=>(s'.ev x).2:=dT λy J=>fU
def zip_e {l:List Operand} (he:∀y∈l,s.ev y=s'.ev y) ts:((l.zip ts).map λp=>(s.ev p.1).2.tag P p.2)=(l.zip ts).map λp=>(s'.ev p.1).2.tag P p.2:=
 dT λp hp=>by rw [he p.1 (List.of_mem_zip hp).1]
def zBC {l:List (Nat×Operand)} (he:∀y∈l.map (·.2),s.ev y=s'.ev y):(l.all λp=>(s.ev p.2).1)=l.all λp=>(s'.ev p.2).1:=by
 grind
def zBD {l:List (Nat×Operand)} (he:∀y∈l.map (·.2),s.ev y=s'.ev y) (f:Nat->TypeId):(l.map λp=>(p.1,((s.ev p.2).2.tag P (f p.1))))=l.map λp=>(p.1,((s'.ev p.2).2.tag P (f p.1))):=
 dT λp hp=>fU
end
open Go
section
variable {cx : Cx} {tab : Tab} {P : Program} {s s' : AS}
def zwm {t} {x} {lo hi mx} (J:∀y∈lo.toList,s.ev y=s'.ev y) (qF:∀y∈hi.toList,s.ev y=s'.ev y) (hm:∀y∈mx.toList,s.ev y=s'.ev y) (hh:s.h=s'.h):zeq P s t x lo hi mx=zeq P s' t x lo hi mx:=by unfold zeq;cases mx<;>simp only [bnd_e J,bnd_e qF,bnd_e hm,AS.cur,hh]
def zzm {c} (he:∀y∈c.args.toList,s.ev y=s'.ev y) (hh:s.h=s'.h):zgC P s c=zgC P s' c:=by
 have hm:c.args.toList.map s.ev=c.args.toList.map s'.ev:=ig;unfold zgC;rw [hm];split
 .split
  .rename_i x t J ht;rw [he x fU,zCk hh]
  .rfl
 .rfl
 .rfl
 .rfl
def zBE {op} (he:∀x∈zbD op,s.ev x=s'.ev x) (hh:s.h=s'.h):aval P s op=aval P s' op:=by
 cases op
 case makeFunc f fs cs=>
  simp only [zbD,cS,aS] at he;simp only [aval,cS,ey,all_e (λy J=>he y (.inl J)),all_e (λy J=>he y (.inr J)),map_e (λy J=>he y (.inl J)),map_e (λy J=>he y (.inr J))]
 case slice t x lo hi mx=>
  simp only [zbD,bg,aS] at he;simp only [aval,he x fU,zwm (λy J=>he y (.inr (.inl (.inl J)))) (λy J=>he y (.inr (.inl (.inr J)))) (λy J=>he y (.inr (.inr J))) hh]
 case call c=>
  simp only [zbD,aS] at he;simp only [aval,zzm (λy J=>he y (.inr J)) hh]
 all_goals
  simp only [zbD,bg,dU,or_false,eI,forall_eq] at he;simp only [aval,he,hh,ztZ hh,zzl hh,zmM hh,zmN hh,AS.cur]
def zhd {c} (he:∀x∈zbD (.call c),s.ev x=s'.ev x):zbG P s c=zbG P s' c:=by
 simp only [zbD,aS] at he;unfold zbG;split
 .rename_i f hf;refine' ID
 .rename_i f m hf;refine' ID
 .rfl
def zwn {k} {x} (hh:s.h=s'.h):rowsK s k x=rowsK s' k x:=by unfold rowsK;rw [hh]
def zwo {k} {t} {x} (hh:s.h=s'.h):rowsT P s k t x=rowsT P s' k t x:=by unfold rowsT;rw [zwn hh]
def zwp {x} {R} (hh:s.h=s'.h):zgF s x R=zgF s' x R:=by unfold zgF AS.cur;rw [hh]
def zzn {fl} {op} {K} (he:∀x∈zbD op,s.ev x=s'.ev x) (hh:s.h=s'.h) (h:zaU fl P s op K):zaU fl P s' op K:=by
  cases op
  case call c=>
    simp only [zbD,aS] at he
    unfold zaU at h ⊢
    dsimp only at h ⊢
    split at h
    · refine' Ih
      · refine' G4
        · rename_i e hte
          try rw [hte]
          try dsimp only
          rw [← zwo hh]
          exact h
        · grind
      · grind
    · refine' Ih
      · refine' G4
        · rename_i e hte
          try rw [hte]
          try dsimp only
          rw [← zwo hh]
          exact h
        · grind
      · grind
    · refine' Ih
      · simp_all
      · grind
    · grind
  all_goals first
    | (simp only [zbD,bg,dU,or_false,eI,forall_eq] at he
       simp only [zaU,he,hh,zDN hh,zwn hh,zwp hh] at h ⊢ <;>exact h)
    |(simp only [zaU,hh] at h ⊢ <;>exact h)
def zBF {fl} {op} {K} (he:∀x∈zbD op,s.ev x=s'.ev x) (hh:s.h=s'.h) (h:aeff fl P s op K):aeff fl P s' op K:=by
  cases op
  case build t parts=>
    refine' Em
    rw [← e1,← hh]
    refine ⟨h.1,h.2.1,?_⟩
    have h3:=h.2.2
    split at h3
    · rename_i fs hf
      rw [← e2 (fun i=>(fs.getD i (0,0)).2)]
      omega
    · rename_i n e hf
      rw [← e2 (fun _=>e)]
      omega
    · omega
  case buildSlice t len parts=>
    refine' Em
    split at h
    · rename_i e hf
      rw [← e1,← hh,← e2 (fun _=>e)]
      exact h
    · exact h
  all_goals first
    |(have h2:=zzn (fl:=fl) (K:=K) he hh (by simpa only [aeff] using h);simpa only [aeff] using h2)
    | (simp only [zbD,bg,dU,or_false,eI,forall_eq] at he
       simp only [aeff,he,hh] at h ⊢ <;>exact h)
    |(simp only [aeff,hh] at h ⊢ <;>exact h)
def fop_e {G} {o} {R} (he:∀x∈zbD o.op,s.ev x=s'.ev x/\known s x=known s' x) (hh:s.h=s'.h) (h:fop cx tab s G o R):fop cx tab s' G o R:=by
 have et:∀x∈zbD o.op,s.ev x=s'.ev x:=λx hx=>(he x hx).1;unfold fop at h;split at h
 .refine' Ig
 .refine' Ig
 .rename_i c a b J;rw [J] at et;simp only [zbD,bg,dU,or_false,eI,forall_eq] at et;rw [et.1,et.2.1,et.2.2,hh] at h;unfold fop;grind
 .rename_i c J;rw [J] at et;have vy:∀ (K:AV->AHeap->Prop),aeff cx.fl cx.P s (.call c) K->aeff cx.fl cx.P s' (.call c) K:=λK hk=>zBF et hh hk;rw [zBE et hh,zhd et,hh] at h;unfold fop;grind
 .rename_i n1 n2 n3 n4;rw [zBE et hh,hh] at h;refine (zax n1 n2 n3 n4).mpr ?_;split at h
  .grind
  .rename_i hv;rw [U hv];exact ⟨h.1,h.2.1,zBF et hh h.2.2⟩
end
open Go
def anc (ops:Array Oper):Nat->Nat->Nat->Bool
 |0,_,_=>false
 |f+1,j,i=>match ops[j]? with
  |some o=>o.after.toList.any λe=>Region.binds .any e&&(e.on==i||(decide (i<e.on)&&anc ops f e.on i))
  |none=>false
def gslot (all:Array Oper) (o:Oper):List Nat:=
 match o.guard with
 |some (j,_)=>(match (all[j]?).bind (·.dst) with
  |some d=> [d]
  |none=> [])
 |none=> []
def zmO (all:Array Oper) (o:Oper):List Nat:=
 ((zbD o.op).filterMap fun
  | .tmp t=>some t
  |_=>none)++gslot all o
def zwq (s:AS) d g v k:lk (s.put d g v).t k=if d=some k then some (g,v) else lk s.t k:=by
 unfold AS.put;cases d with
 |none=>simp
 |some j=>
  simp only [lk,aB]
section
variable {cx : Cx} {tab : Tab}
def Sat.drawn {E} {s} {a} {w} (J:Sat cx E s a w):Sat cx E s a { w with drawn:=w.drawn+1 } where
 slots:=λk g v hk=>by obtain ⟨x,h1,h2,h3⟩:=J.slots k g v hk;exact ⟨x,h1,λe=>Rep.step (W:=w) (W':= { w with drawn:=w.drawn+1 }) fU fU _ _ (λj _=>GoesOn.refl E s.h j) (h2 e),h3⟩
 nt:=J.nt
 hp:=J.hp.refit ⟨rfl,rfl,rfl,rfl,λ_ _=>rfl,λ_ _ h _ _=>h⟩ (base:=0) rfl rfl fU (λb hb=>(J.hp.own b hb).2) J.hp.mlt J.hp.nlt
 base:=J.base
 marks:=J.marks
 ghost:=cx.stab _ _ _ _ _ w _ fU fU (λb hb=>hb.elim (λh=>(J.hp.own b h).1) J.marks.lt) fU rfl rfl rfl J.ghost
def zfD {ops} {S:Nat->Bool} (hc:∀ (i:Nat) o,ops[i]?=some o->S i=true->∀e∈o.after.toList,Region.binds .any e=true->S e.on=true):∀ (f j i:Nat),anc ops f j i=true->(∀o,ops[j]?=some o->∀e∈o.after.toList,Region.binds .any e=true->S e.on=true)->S i=true
 |0,_,_,h,_=>gS
 | f+1,j,i,h,J=>by
  unfold anc at h;split at h
  .rename_i o ho;obtain ⟨e,he,h⟩:=List.any_eq_true.1 h;simp only [aq,aH,aF] at h;obtain ⟨hb,h⟩:=h;have hS:=J o ho e he hb;rcases h with rfl|⟨_,h⟩
   .omega
   .exact zfD hc f _ i h fU
  .cases h
def zzo {s s'} {l:List Operand} (h:∀k,k∈(l.filterMap fun| .tmp t=>some t|_=>none)->lk s.t k=lk s'.t k):∀x∈l,s.ev x=s'.ev x/\known s x=known s' x:=by
 intro x J;cases x with
 |tmp t=>
  have:=h t (List.mem_filterMap.2 ⟨.tmp t,J,rfl⟩);exact ⟨by simp only [AS.ev,this],by simp only [known,this]⟩
 |_=>exact ⟨rfl,rfl⟩
def zqy {s s'} {all} {o} (h:∀k∈gslot all o,lk s.t k=lk s'.t k):zbu s all o.guard=zbu s' all o.guard:=by
 unfold gslot at h;unfold zbu
 grind
end
open Go
def zsB (l:Array Bool) i k (hi:i<l.size):(l.setIfInBounds i true).getD k false=if k=i then true else l.getD k false:=by
 simp only [fq]
 grind
def zkd (l:Array Bool) i n (hi:l[i]?=some false) (hc:l.toList.countP (λb=>b==false)=n+1):(l.setIfInBounds i true).toList.countP (λb=>b==false)=n:=by
 grind
section
variable {cx : Cx} {tab : Tab} {ops : Array Oper}
end
attribute [go_sem] fop detOp
open Go
inductive Foot where
 |cold|on (i:Nat)|new (i:Nat)|whole
 deriving DecidableEq
def footA:AV->Foot
 | .vp _ _=> .cold
 | .tp _ _=> .cold
 | .dp _=> .cold
 | .d _=> .cold
 | .vsl _ _ _ _=> .cold
 | .ap i _ _ _ _=> .on i
 | .osl i _ _ _ _=> .on i
 |_=> .whole
def footL:AV->Foot
 | .vp i _=> .on i
 | .tp i _=> .on i
 | .dp _=> .cold
 | .ap i _ _ _ _=> .on i
 |_=> .whole
def foot (fl:Nat) (P:Program) (s:AS) (op:Op):Foot:=
 match op with
 | .alloc _=> .new (fresh fl s.h)
 | .call c=>(match zbG P s c with
  |some (_,args,_)=>if AV.idsL args= [] then .cold else .whole
  |none=> .whole)
 | .move _=> .cold
 | .assign _=> .cold
 | .pick _ _ _=> .cold
 | .binOp o t x y u=>if isVal P (.binOp o t x y u) then .cold else .whole
 | .unOp _ _ _=> .cold
 | .extract _ _=> .cold
 | .makeFunc _ _ _=> .cold
 | .field _ _ _=> .cold
 | .fieldAddr _ x _=>footA (s.ev x).2
 | .nilCheck x=>footA (s.ev x).2
 | .indexAddr _ x _=>footA (s.ev x).2
 | .load _ x=>footL (s.ev x).2
 | .store _ x _=>(match (s.ev x).2 with
  | .vp i _=> .on i
  | .tp i _=> .on i
  | .ap i _ _ _ _=> .on i
  |_=> .whole)
 |_=> .whole
def zh8:∀ {h:AHeap} {j:Nat} {o:AObj},hget h j=none->hset h j o=h
  | [],_,_,_=>rfl
  | (k,x)::r,j,o,J=>by
    simp only [hget] at J;simp only [hset];split
    · grind
    · rename_i e
      rw [U e] at J;rw [zh8 J]
def zos:∀ (h:AHeap) {i j:Nat} {a b:AObj},i≠j→hset (hset h i a) j b=hset (hset h j b) i a
  | [],i,j,a,b,_=>rfl
  | (k, x)::r,i,j,a,b,hne=>by
    by_cases h1:k=i
    · subst h1
      simp [hset,hne]
    · by_cases h2:k=j
      · subst h2
        simp [hset,h1]
      · simp [hset,h1,h2,zos r hne]
section
variable {cx : Cx} {tab : Tab} {s : AS}
def zjJ {k} {i n J} (e:hget k i=hget s.h i):AS.cur { s with h:=k } i n J=AS.cur s i n J:=by unfold AS.cur;grind
def zgs {P} {t} {x y} {k} (hf:footA x= .cold∨∃i,footA x= .on i∧hget k i=hget s.h i):zbf P { s with h:=k } t x y=zbf P s t x y:=by
 unfold zbf
 cases y with
 | d z=>
  cases z with
  | int kk j=>
   dsimp only
   generalize (ty P t).td=dd
   cases x with
   | osl i k' n off len=>
    have e:hget k i=hget s.h i:=by
     rcases hf with h|⟨j,h,e⟩
     ·cases h
     ·refine' Hm
    cases dd<;>first|rfl|simp only [zjJ e]
   | ap i n k' r off=>
    have e:hget k i=hget s.h i:=by
     rcases hf with h|⟨j,h,e⟩
     ·cases h
     ·refine' Hm
    cases dd<;>first|rfl|simp only [zjJ e]
   |d z=>grind
   |_=>grind
  |_=>rfl
 |_=>rfl
def zgt {P} {t} {x} {f} {k} (J:footA x= .cold\/∃i,footA x= .on i/\hget k i=hget s.h i):zbe P { s with h:=k } t x f=zbe P s t x f:=by
 unfold zbe;split
 .cases x with
  | ap i n k' r off=>
   have e:hget k i=hget s.h i:=by
    rcases J with h|⟨j,h,e⟩
    .cases h
    .refine' Hm
   simp only [zjJ e]
  |_=>rfl
 .rfl
def zlM {P} {x} {k} (hf:footA (s.ev x).2= .cold\/∃i,footA (s.ev x).2= .on i/\hget k i=hget s.h i):aval P { s with h:=k } (.nilCheck x)=aval P s (.nilCheck x):=by
 have J:AS.ev { s with h:=k } x=s.ev x:=lK;simp only [aval,J];generalize s.ev x=q at hf |-;obtain ⟨g,v⟩:=q;cases v with
 | ap i n k' r off=>
  have e:hget k i=hget s.h i:=by
   rcases hf with h|⟨j,h,e⟩
   .cases h
   .refine' Hm
  simp only [zjJ e]
 |fn f fs cs=>grind
 |_=>rfl
def zke {P} {t} {x} {k} (J:footL x= .cold\/∃i,footL x= .on i/\hget k i=hget s.h i):zfd P { s with h:=k } t x=zfd P s t x:=by
 unfold zfd;cases x with
 | ap i n k' r off=>
  have e:hget k i=hget s.h i:=by
   rcases J with h|⟨j,h,e⟩
   .cases h
   .simp only [footL,Foot.on.injEq] at h;grind
  grind
 | vp i off=>
  have e:hget k i=hget s.h i:=by
   rcases J with h|⟨j,h,e⟩
   .cases h
   .simp only [footL,Foot.on.injEq] at h;grind
  grind
 | tp i off=>
  have e:hget k i=hget s.h i:=by
   rcases J with h|⟨j,h,e⟩
   .cases h
   .simp only [footL,Foot.on.injEq] at h;grind
  grind
 |_=>rfl
def zzp {G} {o} {g} {v} {h'} (h:∀R:Bool->AV->AHeap->Prop,R g v h'->fop cx tab s G o R) (b5:isEff o.op=false->h'=s.h):
  (foot cx.fl cx.P s o.op= .cold->isEff o.op=false/\∀ (k:AHeap) (R:Bool->AV->AHeap->Prop),R g v k->fop cx tab { s with h:=k } G o R)/\
  (∀i,foot cx.fl cx.P s o.op= .on i->∀ (k:AHeap),hget k i=hget s.h i->(isEff o.op=false->∀R:Bool->AV->AHeap->Prop,R g v k->fop cx tab { s with h:=k } G o R)/\
   (isEff o.op=true->∃ob,hget h' i=some ob/\h'=hset s.h i ob/\∀R:Bool->AV->AHeap->Prop,R g v (hset k i ob)->fop cx tab { s with h:=k } G o R)):=by
 have ao:∀ (k:AHeap) (x:Operand),AS.ev { s with h:=k } x=s.ev x:=λk x=>lK;have kM:∀ (k:AHeap) (x:Operand),known { s with h:=k } x=known s x:=λk x=>lK
 have val:∀ (k:AHeap),isVal cx.P o.op=true->(∀x,o.op= .move x->False)->(∀x,o.op= .assign x->False)->(∀x y z,o.op= .pick x y z->False)->(∀c,o.op= .call c->False)->aval cx.P { s with h:=k } o.op=aval cx.P s o.op->
   ∀ (k':AHeap) (R:Bool->AV->AHeap->Prop),k'=k->R g v k'->fop cx tab { s with h:=k } G o R:=by
  intro k hv n1 n2 n3 n4 ha k' R hk hR;subst hk;have h1:=h (λg v _=>R g v k') hR;rw [zax n1 n2 n3 n4,aa hv] at h1 |-
  grind
 have nv:∀ (k:AHeap) (R:Bool->AV->AHeap->Prop),isVal cx.P o.op=true->(∀x,o.op= .move x->False)->(∀x,o.op= .assign x->False)->(∀x y z,o.op= .pick x y z->False)->(∀c,o.op= .call c->False)->aval cx.P { s with h:=k } o.op=aval cx.P s o.op->R g v k->fop cx tab { s with h:=k } G o R:=λk R hv n1 n2 n3 n4 ha hR=>val k hv n1 n2 n3 n4 ha k R rfl hR;have cur:∀ (k:AHeap) (i n kk:Nat),hget k i=hget s.h i->AS.cur { s with h:=k } i n kk=AS.cur s i n kk:=λk i n kk e=>by unfold AS.cur;grind
 constructor
 .intro J;cases an:o.op
  case move x=>
   refine' Fj
   grind
  case assign x=>
   refine' Fj
   grind
  case pick c a b=>
   refine' Fj;simp_all
  case binOp bo t x y u=>
   refine' DN;split at J
   .rename_i hv;refine ⟨rfl,λk R hR=>nv k R fU fU fU fU fU nH hR⟩
   .cases J
  case unOp a b c=>exact ⟨rfl,λk R hR=>nv k R jK fU fU fU fU nH hR⟩
  case extract a b=>exact ⟨rfl,λk R hR=>nv k R jK fU fU fU fU nH hR⟩
  case makeFunc a b c=>exact ⟨rfl,λk R hR=>nv k R jK fU fU fU fU nH hR⟩
  case field a b c=>exact ⟨rfl,λk R hR=>nv k R jK fU fU fU fU nH hR⟩
  case fieldAddr a x c=>
   refine' DN;refine' EZ;simp only [aval,ao,zgt (.inl J)]
  case nilCheck x=>
   refine' DN;refine' EZ;exact zlM fU
  case indexAddr a x y=>
   refine' DN;refine' EZ;simp only [aval,ao,zgs (.inl J)]
  case load a x=>
   refine' DN;refine' EZ;simp only [aval,ao,zke (.inl J)]
  case store a x y=>
   refine' DN
   grind
  case call c=>
   refine' DN;cases b9:zbG cx.P s c with
   |none=>grind
   | some q=>
    obtain ⟨f,args,vc⟩:=q;rw [b9] at J;dsimp only at J;split at J
    .rename_i gL
     have mi:∀k,zbG cx.P { s with h:=k } c=some (f,args,vc):=λk=>by rw [<-b9];unfold zbG;simp_all
     refine ⟨zwl b9,λk R hR=>?_⟩;have h1:=h (λg v _=>R g v k) hR;unfold fop at h1 |-;rw [an] at h1 |-;dsimp only at h1 |-;have hv:¬isVal cx.P (.call c)=true:=mI;rw [U hv,b9] at h1;rw [U hv,mi];dsimp only at h1 |-;rw [zeC args 9 k s.h gL]
     grind
    .cases J
  all_goals (rw [an] at J;simp only [foot] at J;cases J)
 .intro i J k hk;cases an:o.op
  case binOp bo t x y u=>
   refine' DN;split at J<;>cases J
  case fieldAddr a x c=>
   refine' DN;refine' EI;simp only [aval,ao,zgt (.inr ⟨i,J,hk⟩)]
  case nilCheck x=>
   refine' DN;refine' EI;exact zlM (.inr ⟨i,J,hk⟩)
  case indexAddr a x y=>
   refine' DN;refine' EI;simp only [aval,ao,zgs (.inr ⟨i,J,hk⟩)]
  case load a x=>
   refine' DN;refine' EI;simp only [aval,ao,zke (.inr ⟨i,J,hk⟩)]
  case store t x y=>
   refine' DN;refine ⟨λe=>gN,λ_=>?_⟩;have h1:=h (λg1 v1 h1=>g1=g/\v1=v/\h1=h') ⟨rfl,rfl,rfl⟩;have n1:∀x,o.op= .move x->False:=gT;have n2:∀x,o.op= .assign x->False:=gT;have n3:∀x y z,o.op= .pick x y z->False:=gT;have n4:∀c,o.op= .call c->False:=gT;rw [zax n1 n2 n3 n4] at h1;have hv:¬isVal cx.P o.op=true:=by rw [an];simp [isVal,zff]
   rw [U hv,an] at h1;obtain ⟨rfl,hdt,h1⟩:=h1;unfold aeff at h1;dsimp only at h1;obtain ⟨q1,q2,q3,q4,q5,h1⟩:=h1;split at h1
   .rename_i i' off hx;refine' GU
    .rename_i cs hi;obtain ⟨q6,q7,q8,q9⟩:=h1;refine' DC;refine ⟨q6,?_⟩;rw [<-q7,<-q8] at hR;exact hR
    .exact h1.elim
   .rename_i i' off hx;refine' GU
    .rename_i tt cs hi;obtain ⟨q6,q7,q8,q9⟩:=h1;refine' DC;refine ⟨q6,?_⟩;rw [<-q7,<-q8] at hR;exact hR
    .exact h1.elim
   .rename_i i' n' kk r off hx;refine' GU
    .rename_i kx xs hi;obtain ⟨g1,g2,g3,g4,h1⟩:=h1;split at h1
     .rename_i ds hds;obtain ⟨q7,q8,q9⟩:=h1;refine' DC;refine ⟨g1,g2,g3,g4,?_⟩;rw [hds];rw [<-q7,<-q8] at hR;exact hR
     .exact h1.elim
    .exact h1.elim
   .rename_i n5 A9 n6;split at J
    .rename_i a b hx;exact (n5 _ _ hx).elim
    .rename_i a b hx;exact (A9 _ _ hx).elim
    .rename_i a b c d e hx;exact (n6 _ _ _ _ _ hx).elim
    .cases J
  case call c=>
   refine' DN;split at J
   .split at J<;>cases J
   .cases J
  all_goals (rw [an] at J;simp only [foot] at J;cases J)
end
end Go.Aw
