/-
 Parts of the proof: lemmas.
-/
import Derived.Test.YtgldbfelccddbaaGreatBeg4
import Derived.OrdersIn
set_option maxRecDepth 100000
set_option maxHeartbeats 2000000
set_option linter.unusedSimpArgs false
set_option linter.unusedVariables false
namespace Go.Aw
open Go
structure Rnd (cx:Cx) where
 G:Option (List (List AV))→(Nat→Prop)→(Nat→Prop)→(Nat→Prop)→World→Prop
 stab:∀g M N A A' w w',(∀b,b<w.heap.size→¬A b→w'.heap[b]?=w.heap[b]?)→(∀b,A' b→A b∨w.heap.size≤b)→(∀b,A' b→b<w'.heap.size)→w.heap.size≤w'.heap.size→w'.tape=w.tape→w'.os=w.os→w'.output=w.output→G g M N A w→G g M N A' w'
 yok:∀xs x X M N A w (vs:Array Value),G (some xs) M N A w→(∀b,M b∨N b∨A b→X b)→Reps w (bare X) [] x vs.toList→(xs++ [x])<+:cx.items→
  zfQ cx.P cx.yl vs w (fun e w'=>∃b M',e= .returned (.bool b)∧w'.os=w.os∧w'.tape=w.tape∧w'.output=w.output∧w.heap.size≤w'.heap.size∧(∀k,k<w.heap.size→¬M k→w'.heap[k]?=w.heap[k]?)∧
   (∀k,M k→M' k)∧(∀k,M' k→M k∨(w.heap.size≤k∧k<w'.heap.size))∧G (if b=true then some (xs++ [x]) else none) M' N A w')
def Cx.inR (cx:Cx) (l fl:Nat) (r:Rnd cx):Cx:= { P:=cx.P,ro:=some l,base:=cx.base,nt:=cx.nt,fl:=fl,G:=r.G,stab:=r.stab,yl:=cx.yl,items:=cx.items,yok:=r.yok }
def zaX:List Tmp→List AV→List (Nat×(Bool×AV))→List (Nat×(Bool×AV))
 |t::ts,v::vs,r=>zaX ts vs ((t,(true,v))::r)
 |_,_,r=>r
def zh (Kn:AHeap→Option (List (List AV))→Prop) (J:Code→AHeap→Option (List (List AV))→Prop):Exit→AS→Prop
 | .normal,s=>Kn s.h s.g
 | .ret,s=>J .ret s.h s.g
 | .exit id,s=>J (.exit id) s.h s.g
 | .goto t,s=>J (.goto t) s.h s.g
 |_,_=>False
def AsgK (K:AS→Prop):Exit→AS→Prop
 | .normal,s=>K s
 |_,_=>False
section
variable {cx : Cx} {E : Env} {s : AS} {a : Act} {w : World} {h : AHeap}
theorem zdU {E:Env} {a:Act} {w:World} {h:AHeap} {g:Option (List (List AV))} :∀ (ps:List Tmp) (xs:List AV) (vs:List Value) (t:List (Nat×(Bool×AV))) (tmps:Array Value),ps.length=vs.length→(∀p∈ps,p<tmps.size)→Reps w E h xs vs→Slots w E ⟨t,h,g⟩ { tmps:=tmps,defers:=a.defers } →
  Slots w E ⟨zaX ps xs t,h,g⟩ { tmps:=(ps.zip vs).foldl (fun (t:Array Value) (q:Tmp×Value)=>t.setIfInBounds q.1 q.2) tmps,defers:=a.defers }
 | [],xs,vs,t,tmps,hl,_,hr,hs=>by
  have:vs= []:=by simpa using hl.symm
  subst this
  simpa [zaX] using hs
 |p::ps,[],vs,t,tmps,hl,_,hr,hs=>by
  simp only [Reps] at hr;subst hr;simp at hl
 | p::ps,x::xs,vs,t,tmps,hl,hb,hr,hs=>by
  simp only [Reps] at hr
  obtain ⟨v,r,rfl,h1,h2⟩:=hr
  simp only [List.zip_cons_cons,List.foldl_cons,zaX]
  refine zdU ps xs r _ _ (by simpa using hl) (fun q hq=>by simpa using hb q (by simp [hq])) h2 ?_
  intro k g v' hk
  simp only [lk] at hk
  split at hk
  ·rename_i e;subst e
   simp only [Option.some.injEq,Prod.mk.injEq] at hk
   obtain ⟨rfl,rfl⟩:=hk
   exact ⟨v,by simp [hb p (by simp)],fun _=>h1,fun e=>by cases e⟩
  ·rename_i e
   obtain ⟨y,q1,q2⟩:=hs k g v' hk
   exact ⟨y,by simp only;rw [Array.getElem?_setIfInBounds_ne e];exact q1,q2⟩
theorem SatH.others {E':Env} {w':World} (hs:SatH E h w) (hO:E'.O=E.O) (hC:E'.C=E.C) (hX:∀b,b<w.heap.size→Xs E' h b→Xs E h b) (hK:KIn w w' (Xs E h)) (hown:∀b,Own E h b→w'.heap[b]?=w.heap[b]?) (hsz:w.heap.size≤w'.heap.size)
  (ho:∀b,Own E h b→¬E'.M b∧¬E'.N b) (hm:∀b,E'.M b→b<w'.heap.size) (hn:∀b,E'.N b→b<w'.heap.size):SatH E' h w'∧(∀x v,Rep w E h x v→Rep w' E' h x v):=by
 have hgo:∀j,GoesOn E h E' h j:=fun j=>by
  unfold GoesOn
  rw [hO,hC]
  split<;>simp_all
 have hXc:XIn w (Xs E' h) (Xs E h):=hX_of hX
 refine ⟨⟨fun i o hi=>?_,by rw [hO];exact hs.inj,fun b hb=>?_,hm,hn⟩,fun x v hr=>Rep.stepc hXc hK x v (fun j _=>hgo j) hr⟩
 ·have:=hs.heap i o hi
  have hoi:∀b,E.O i=some b→w'.heap[b]?=w.heap[b]?:=fun b hb=>hown b ⟨i,by simp [hi],hb⟩
  cases o with
  |var cs=>
   simp only [RepObj,hO] at this ⊢
   obtain ⟨b,c,T,fz,g1,g2,g3,g4⟩:=this
   exact ⟨b,c,T,fz,g1,(hoi b g1).trans g2,Reps.stepc hXc hK _ _ (fun j _=>hgo j) g3,g4⟩
  |tvar tt cs=>
   simp only [RepObj,hO] at this ⊢
   obtain ⟨b,c,T,fz,g1,g2,g3,g4⟩:=this
   exact ⟨b,c,T,fz,g1,(hoi b g1).trans g2,Reps.stepc hXc hK _ _ (fun j _=>hgo j) g3,g4⟩
  |arr k xs=>
   simp only [RepObj,hO,hC] at this ⊢
   rcases this with g|⟨b,c,T,fz,g1,g2,g3,g4,g5,g6⟩
   ·exact .inl g
   ·exact .inr ⟨b,c,T,fz,g1,(hoi b g1).trans g2,g3,g4,RepRows.stepc hXc hK _ _ _ g5,g6⟩
  |buf tt xs=>
   simp only [RepObj,hO,hC] at this ⊢
   rcases this with g|⟨b,c,T,fz,g1,g2,g3,g4,g5,g6⟩
   ·exact .inl g
   ·exact .inr ⟨b,c,T,fz,g1,(hoi b g1).trans g2,g3,g4,g5,g6⟩
  |strit l q=>
   simp only [RepObj,hO] at this ⊢
   obtain ⟨b,g1,g2⟩:=this
   exact ⟨b,g1,(hoi b g1).trans g2⟩
  |omap es=>
   simp only [RepObj,hO] at this ⊢
   obtain ⟨b,m,cl,g1,g2,g3⟩:=this
   exact ⟨b,m,cl,g1,(hoi b g1).trans g2,g3⟩
 ·have hb':Own E h b:=by
   obtain ⟨i,hi,he⟩:=hb
   exact ⟨i,hi,by rw [← hO];exact he⟩
  exact ⟨Nat.lt_of_lt_of_le (hs.own b hb').1 hsz,ho b hb'⟩
structure Far (fl:Nat) (E0:Env) (h0:AHeap) (w0:World) (E:Env) (h:AHeap) (w:World):Prop where
 os:w.os=w0.os
 tape:w.tape=w0.tape
 output:w.output=w0.output
 size:w0.heap.size≤w.heap.size
 keep:∀b,b<w0.heap.size→¬Own E0 h0 b→¬E0.M b→w.heap[b]?=w0.heap[b]?
 own:∀b,Own E h b→Own E0 h0 b∨w0.heap.size≤b
 m1:∀b,E0.M b→E.M b
 m2:∀b,E.M b→E0.M b∨w0.heap.size≤b
 go:∀i,i<fl→(hget h i).isSome→(hget h0 i).isSome∧GoesOn E0 h0 E h i
structure Kept (cx:Cx) (l d fl:Nat) (p:Nat→Bool) (E0:Env) (h0:AHeap) (w0:World) (ds:List Deferred) (M1 N1 A1:Nat→Prop) (E2:Env) (hI:AHeap) (gI:Option (List (List AV))) (w:World):Prop where
 hp:SatH E2 hI w
 names:∀i,(hget hI i).isSome→p i=false
 n1:∀b,N1 b↔E0.N b
 a1:∀b,A1 b→Own E0 (hsel p h0) b∨w0.heap.size+2≤b
 n2:∀b,E2.N b↔E0.N b∨A1 b∨b=l∨b=d
 am:∀b,A1 b→¬E2.M b
 m1:∀b,Own E2 hI b∨E2.M b→M1 b
 ml:M1 l∧M1 d
 far:Far fl E0 h0 w0 E2 hI w
 own0:∀b,Own E2 hI b→Own E0 (hsel (fun i=> !p i) h0) b∨w0.heap.size+2≤b
 m0:∀b,E2.M b→E0.M b∨w0.heap.size+2≤b
 size:w0.heap.size+2≤w.heap.size
 dd:w.heap[d]?=some (.deferred (some []))
 ghost:cx.G gI E2.M E0.N (fun b=>Own E2 hI b∨A1 b∨b=l∨b=d∨zQ ds b) w
section
variable {cx : Cx} {l d fl : Nat} {p : Nat → Bool} {E0 : Env} {h0 : AHeap} {w0 : World} {ds : List Deferred}
theorem Far.block {E2:Env} {hI:AHeap} {w:World} (f:Far fl E0 h0 w0 E2 hI w):∀b,b<w0.heap.size→Xs E0 h0 b∨w.heap[b]?=w0.heap[b]?:=fun b hb=>by
 by_cases h1:Own E0 h0 b
 ·exact .inl (.inl h1)
 ·by_cases h2:E0.M b
  ·exact .inl (.inr (.inl h2))
  ·exact .inr (f.keep b hb h1 h2)
theorem Kept.step (hl:l=w0.heap.size+1) (hd:d=w0.heap.size) (hs0:SatH E0 h0 w0) (hmk:∀b,zQ ds b→b<w0.heap.size) {M1 N1 A1 A1':Nat→Prop} {E2:Env} {hI:AHeap} {gI:Option (List (List AV))} {w w':World}
  (k:Kept cx l d fl p E0 h0 w0 ds M1 N1 A1 E2 hI gI w) (hk:∀b,b<w.heap.size→¬A1 b→w'.heap[b]?=w.heap[b]?) (hA:∀b,A1' b→A1 b∨w.heap.size≤b) (hAb:∀b,A1' b→b<w'.heap.size) (hsz:w.heap.size≤w'.heap.size) (ht:w'.tape=w.tape) (ho:w'.os=w.os) (hout:w'.output=w.output):
  ∃E2',Kept cx l d fl p E0 h0 w0 ds M1 N1 A1' E2' hI gI w'∧¬A1 l:=by
 have hnl:¬A1 l:=fun h=>by
  rcases k.a1 l h with h|h
  ·have:=(hs0.own l (zB h)).1;omega
  ·omega
 have hnd:¬A1 d:=fun h=>by
  rcases k.a1 d h with h|h
  ·have:=(hs0.own d (zB h)).1;omega
  ·omega
 have hsz0:=k.size
 obtain ⟨E2',hE⟩:∃E2':Env,E2'= { E2 with N:=fun b=>E0.N b∨A1' b∨b=l∨b=d } :=⟨_,rfl⟩
 have hO:E2'.O=E2.O:=by rw [hE]
 have hC:E2'.C=E2.C:=by rw [hE]
 have hM:E2'.M=E2.M:=by rw [hE]
 have hN:∀b,E2'.N b↔E0.N b∨A1' b∨b=l∨b=d:=fun b=>by rw [hE]
 have hown:∀b,Own E2' hI b↔Own E2 hI b:=fun b=>by unfold Own;rw [hO]
 have hX:∀b,b<w.heap.size→Xs E2' hI b→Xs E2 hI b:=by
  rintro b hb (hx|hx|hx)
  ·exact .inl ((hown b).1 hx)
  ·exact .inr (.inl (by rwa [hM] at hx))
  ·refine .inr (.inr ((k.n2 b).2 ?_))
   rcases (hN b).1 hx with hx|hx|hx
   ·exact .inl hx
   ·rcases hA b hx with h|h
    ·exact .inr (.inl h)
    ·omega
   ·exact .inr (.inr hx)
 have hnown:∀b,Own E2 hI b→¬A1 b:=fun b hb ha=>(k.hp.own b hb).2.2 ((k.n2 b).2 (.inr (.inl ha)))
 obtain ⟨hp', -⟩:=k.hp.others (E':=E2') (w':=w') hO hC hX (fun b o hc _ hx=>(hk b (Array.getElem?_eq_some_iff.1 hc).1 (fun ha=>hx (.inr (.inr ((k.n2 b).2 (.inr (.inl ha))))))).trans hc) (fun b hb=>hk b (k.hp.own b hb).1 (hnown b hb)) hsz
  (fun b hb=>⟨by rw [hM];exact (k.hp.own b hb).2.1,fun hn=>by
   rcases (hN b).1 hn with hn|hn|hn
   ·exact (k.hp.own b hb).2.2 ((k.n2 b).2 (.inl hn))
   ·rcases hA b hn with h|h
    ·exact hnown b hb h
    ·have:=(k.hp.own b hb).1;omega
   ·exact (k.hp.own b hb).2.2 ((k.n2 b).2 (.inr (.inr hn)))⟩)
  (fun b hb=>Nat.lt_of_lt_of_le (k.hp.mlt b (by rwa [hM] at hb)) hsz)
  (fun b hb=>by
   rcases (hN b).1 hb with hn|hn|hn|hn
   ·exact Nat.lt_of_lt_of_le (hs0.nlt b hn) (by omega)
   ·exact hAb b hn
   ·omega
   ·omega)
 refine ⟨E2',⟨hp',k.names,k.n1,fun b hb=>?_,hN,fun b hb hm=>?_,fun b hb=>?_,k.ml,⟨ho.trans k.far.os,ht.trans k.far.tape,hout.trans k.far.output,Nat.le_trans k.far.size hsz,fun b hb h1 h2=>?_,fun b hb=>k.far.own b ((hown b).1 hb),fun b hb=>by rw [hM];exact k.far.m1 b hb,fun b hb=>k.far.m2 b (by rwa [hM] at hb),fun i hi hg=>?_⟩,
  fun b hb=>k.own0 b ((hown b).1 hb),fun b hb=>k.m0 b (by rwa [hM] at hb),by omega,(hk d (by omega) hnd).trans k.dd,?_⟩,hnl⟩
 ·rcases hA b hb with h|h
  ·exact k.a1 b h
  ·exact .inr (by omega)
 ·rw [hM] at hm
  rcases hA b hb with h|h
  ·exact k.am b h hm
  ·have:=k.hp.mlt b hm;omega
 ·rw [hM] at hb
  exact k.m1 b (hb.imp (hown b).1 id)
 ·refine (hk b (by have:=k.far.size;omega) (fun ha=>?_)).trans (k.far.keep b hb h1 h2)
  rcases k.a1 b ha with h|h
  ·exact h1 (zB h)
  ·omega
 ·obtain ⟨g1,g2⟩:=k.far.go i hi hg
  refine ⟨g1,?_⟩
  unfold GoesOn at g2 ⊢
  rw [hO,hC]
  exact g2
 ·rw [hM]
  refine cx.stab _ _ _ _ _ w _ (fun b hb hn=>hk b hb (fun h=>hn (.inr (.inl h)))) (fun b hb=>?_) (fun b hb=>?_) hsz ht ho hout k.ghost
  ·rcases hb with h|h|h
   ·exact .inl (.inl ((hown b).1 h))
   ·rcases hA b h with h|h
    ·exact .inl (.inr (.inl h))
    ·exact .inr h
   ·exact .inl (.inr (.inr h))
  ·rcases hb with h|h|h|h|h
   ·exact (hp'.own b h).1
   ·exact hAb b h
   ·omega
   ·omega
   ·have:=hmk b h;omega
end
def rnd (cx:Cx) (l d:Nat) (N0 Z:Nat→Prop) (rc:Loop) (ds:List Deferred) (hd:Z d) (hl:Z l) (hz:∀b,zQ ds b→Z b):Rnd cx where
 G:=fun g M N A w=>cx.G g M N0 (fun b=>A b∨Z b) w∧(∀b,Z b→¬A b∧¬M b∧b<w.heap.size)∧w.heap[l]?=some (.loop rc)∧w.heap[d]?=some (.deferred (some []))∧(∀b,N0 b∨(Z b∧¬zQ ds b)→N b)∧(∀b,zQ ds b→w.heap[b]?=some (.deferred (some [])))
 stab:=fun g M N A A' w w' hk hA hAb hsz ht ho hout ⟨q1,q2,q3,q4,q5,q6⟩=>by
  have hZ:∀b,Z b→w'.heap[b]?=w.heap[b]?:=fun b hb=>hk b (q2 b hb).2.2 (q2 b hb).1
  refine ⟨cx.stab _ _ _ _ _ w _ (fun b hb hn=>hk b hb (fun h=>hn (.inl h))) (fun b hb=>?_) (fun b hb=>?_) hsz ht ho hout q1,fun b hb=>⟨fun ha=>?_,(q2 b hb).2.1,Nat.lt_of_lt_of_le (q2 b hb).2.2 hsz⟩,(hZ l hl).trans q3,(hZ d hd).trans q4,q5,fun b hb=>(hZ b (hz b hb)).trans (q6 b hb)⟩
  ·rcases hb with h|h
   ·exact (hA b h).imp .inl id
   ·exact .inl (.inr h)
  ·rcases hb with h|h
   ·exact hAb b h
   ·exact Nat.lt_of_lt_of_le (q2 b h).2.2 hsz
  ·rcases hA b ha with h|h
   ·exact (q2 b hb).1 h
   ·have:=(q2 b hb).2.2;omega
 yok :=fun xs x X M N A w vs ⟨q1,q2,q3,q4,q5,q6⟩ hX hr hpre=>by
  obtain ⟨fn,tmps,assign,body,hrun,hround⟩:=cx.yok xs x (fun b=>X b∨zQ ds b) M N0 (fun b=>A b∨Z b) w vs q1 (fun b hb=>by
   rcases hb with hb|hb|hb|hb
   ·exact .inl (hX b (.inl hb))
   ·exact .inl (hX b (.inr (.inl (q5 b (.inl hb)))))
   ·exact .inl (hX b (.inr (.inr hb)))
   ·by_cases hm:zQ ds b
    ·exact .inr hm
    ·exact .inl (hX b (.inr (.inl (q5 b (.inr ⟨hb,hm⟩)))))) (Reps.stepc (E:=bare X) (E':=bare fun b=>X b∨zQ ds b) (h:= []) (h':= []) (fun b o hc hb hx=>by
    rcases hx with ⟨i,hi,_⟩|hx|hx
    ·simp [hget] at hi
    ·exact hx.elim
    ·rcases hx with hx|hx
     ·exact .inr (.inr hx)
     ·rw [q6 b hx] at hc;cases hc;cases hb) (fun _ _ h _ _=>h) _ _ (fun j _=>by simp [GoesOn,hget]) hr) hpre
  refine ⟨fn,tmps,assign,body,hrun,hround.mono ?_⟩
  rintro e w' ⟨b,M',h1,h2,h3,h4,h5,h6,h7,h8,h9⟩
  have hZ:∀b,Z b→w'.heap[b]?=w.heap[b]?:=fun b hb=>h6 b (q2 b hb).2.2 (q2 b hb).2.1
  exact ⟨b,M',h1,h2,h3,h4,h5,h6,h7,h8,h9,fun k hk=>⟨(q2 k hk).1,fun hm=>by
   rcases h8 k hm with h|h
   ·exact (q2 k hk).2.1 h
   ·have:=(q2 k hk).2.2;omega,Nat.lt_of_lt_of_le (q2 k hk).2.2 h5⟩,(hZ l hl).trans q3,(hZ d hd).trans q4,q5,fun k hk=>(hZ k (hz k hk)).trans (q6 k hk)⟩
section
variable {cx : Cx} {s : AS}
def zaz (cx:Cx) (l d fl:Nat) (p:Nat→Bool) (E0:Env) (h0:AHeap) (w0:World) (ds:List Deferred) (I:List (List AV)→AHeap×Option (List (List AV))) (J:Code→AHeap→Option (List (List AV))→Prop) (rec:LoopState→Option Code→Loop)
  (g:Option (List (List AV))) (M1 N1 A1:Nat→Prop) (w:World):Prop:=
 match g with
 |some xs=>∃E2,Kept cx l d fl p E0 h0 w0 ds M1 N1 A1 E2 (I xs).1 (I xs).2 w∧w.heap[l]?=some (.loop (rec .ready none))
 |none=>∃E2 c h3 g3,Kept cx l d fl p E0 h0 w0 ds M1 N1 A1 E2 h3 g3 w∧w.heap[l]?=some (.loop (rec .done (some c)))∧J c h3 g3
theorem zfB {E0 E2:Env} {h0 hI:AHeap} {w0 w:World} {a:Act} {t:List (Nat×(Bool×AV))} {g g':Option (List (List AV))} (hs:Slots w0 E0 ⟨t,h0,g⟩ a)
  (hX:XIn w0 (Xs E2 hI) (Xs E0 h0)) (hK:KIn w0 w (Xs E0 h0)) (hgo:∀j,(hget hI j).isSome→GoesOn E0 h0 E2 hI j):
  Slots w E2 ⟨keepT hI t,hI,g'⟩ a:=fun k gg v hk=>by
 have hk':lk (keepT hI t) k=some (gg,v):=hk
 rw [zgg] at hk'
 obtain ⟨q,hq,e⟩:=Option.map_eq_some_iff.1 hk'
 obtain ⟨g1,v1⟩:=q
 simp only [Prod.mk.injEq] at e
 obtain ⟨rfl,rfl⟩:=e
 obtain ⟨x,h1,h2,h3⟩:=hs k g1 v1 hq
 refine ⟨x,h1,fun e=>?_,h3⟩
 split
 ·rename_i hall
  exact Rep.stepc hX hK _ _ (fun j hj=>hgo j (List.all_eq_true.1 hall j hj)) (h2 e)
 ·simp only [Rep]
end
end
open Go
structure EvoL (l fl:Nat) (E:Env) (h:AHeap) (w:World) (E':Env) (h':AHeap) (w':World):Prop where
 os:w'.os=w.os
 tape:w'.tape=w.tape
 output:w'.output=w.output
 size:w.heap.size≤w'.heap.size
 keep:∀b,b<w.heap.size→¬Own E h b→¬E.M b→b≠l→w'.heap[b]?=w.heap[b]?
 own:∀b,Own E' h' b→Own E h b∨w.heap.size≤b
 m1:∀b,E.M b→E'.M b
 m2:∀b,E'.M b→E.M b∨w.heap.size≤b
 n:E'.N=E.N
 go:∀i,i<fl→(hget h' i).isSome→(hget h i).isSome∧GoesOn E h E' h' i
theorem Evo.l {l fl:Nat} {E E':Env} {h h':AHeap} {w w':World} (e:Evo fl E h w E' h' w'):EvoL l fl E h w E' h' w':=
 ⟨e.os,e.tape,e.output,e.size,fun b hb ho hm _=>e.keep b hb ho hm,e.own,e.m1,e.m2,e.n,e.go⟩
theorem EvoL.put {l fl:Nat} {E:Env} {h:AHeap} {w:World} (o:Obj):EvoL l fl E h w E h (w.putObj l o):=
 ⟨rfl,rfl,rfl,by simp,fun b _ _ _ hb=>World.putObj_heap_other hb,fun _ h=> .inl h,fun _ h=>h,fun _ h=> .inl h,rfl,fun i _ h=>⟨h,GoesOn.refl E _ i⟩⟩
theorem EvoL.trans {l fl:Nat} {E E' E'':Env} {h h' h'':AHeap} {w w' w'':World} (a:EvoL l fl E h w E' h' w') (b:EvoL l fl E' h' w' E'' h'' w''):EvoL l fl E h w E'' h'' w'' where
 os:=b.os.trans a.os
 tape:=b.tape.trans a.tape
 output:=b.output.trans a.output
 size:=Nat.le_trans a.size b.size
 keep:=fun k hk ho hm hl=>(b.keep k (Nat.lt_of_lt_of_le hk a.size) (fun h=>(a.own k h).elim ho (fun h=>by omega)) (fun h=>(a.m2 k h).elim hm (fun h=>by omega)) hl).trans (a.keep k hk ho hm hl)
 own:=fun k h=>(b.own k h).elim (fun h=>a.own k h) (fun h=> .inr (Nat.le_trans a.size h))
 m1:=fun k h=>b.m1 k (a.m1 k h)
 m2:=fun k h=>(b.m2 k h).elim (fun h=>a.m2 k h) (fun h=> .inr (Nat.le_trans a.size h))
 n:=b.n.trans a.n
 go:=fun i hi h=>by
  obtain ⟨h1,g1⟩:=b.go i hi h
  obtain ⟨h2,g2⟩:=a.go i hi h1
  exact ⟨h2,g2.trans g1⟩
section
variable {cx : Cx} {l d fl : Nat} {p : Nat → Bool} {E0 : Env} {h0 : AHeap} {w0 : World} {ds : List Deferred}
theorem Kept.round (hl:l=w0.heap.size+1) (hd:d=w0.heap.size) {M1 N1 A1:Nat→Prop} {E2 E4:Env} {hI h4 h':AHeap} {gI g':Option (List (List AV))} {w w4:World}
  (k:Kept cx l d fl p E0 h0 w0 ds M1 N1 A1 E2 hI gI w) (e:EvoL l fl E2 hI w E4 h4 w4) (hs4:SatH E4 h4 w4) (hs':SatH E4 h' w4) (hown:∀b,Own E4 h' b→Own E4 h4 b) (hgo:∀i,(hget h' i).isSome→(hget h4 i).isSome∧GoesOn E4 h4 E4 h' i) (hn:∀i,(hget h' i).isSome→p i=false) (hdd:w4.heap[d]?=some (.deferred (some [])))
  (hG:cx.G g' E4.M E0.N (fun b=>Own E4 h' b∨A1 b∨b=l∨b=d∨zQ ds b) w4):
  Kept cx l d fl p E0 h0 w0 ds (fun b=>M1 b∨(w.heap.size≤b∧b<w4.heap.size)) N1 A1 E4 h' g' w4 where
 hp:=hs'
 names:=hn
 n1:=k.n1
 a1:=k.a1
 n2:=fun b=>by rw [e.n];exact k.n2 b
 am:=fun b hb hm=>by
  have:=k.hp.nlt b ((k.n2 b).2 (.inr (.inl hb)))
  rcases e.m2 b hm with h|h
  ·exact k.am b hb h
  ·omega
 m1:=fun b hb=>by
  rcases hb with hb|hb
  ·rcases e.own b (hown b hb) with h|h
   ·exact .inl (k.m1 b (.inl h))
   ·exact .inr ⟨h,(hs4.own b (hown b hb)).1⟩
  ·rcases e.m2 b hb with h|h
   ·exact .inl (k.m1 b (.inr h))
   ·exact .inr ⟨h,hs4.mlt b hb⟩
 ml:=⟨.inl k.ml.1,.inl k.ml.2⟩
 far:=by
  refine ⟨e.os.trans k.far.os,e.tape.trans k.far.tape,e.output.trans k.far.output,Nat.le_trans k.far.size e.size,fun b hb h1 h2=>?_,fun b hb=>?_,fun b hb=>e.m1 b (k.far.m1 b hb),fun b hb=>?_,fun i hi hg=>?_⟩
  ·refine (e.keep b (Nat.lt_of_lt_of_le hb k.far.size) (fun h=>?_) (fun h=>?_) (by omega)).trans (k.far.keep b hb h1 h2)
   ·rcases k.far.own b h with h|h
    ·exact h1 h
    ·omega
   ·rcases k.far.m2 b h with h|h
    ·exact h2 h
    ·omega
  ·rcases e.own b (hown b hb) with h|h
   ·exact k.far.own b h
   ·exact .inr (Nat.le_trans k.far.size h)
  ·rcases e.m2 b hb with h|h
   ·exact k.far.m2 b h
   ·exact .inr (Nat.le_trans k.far.size h)
  ·obtain ⟨hg4,q5⟩:=hgo i hg
   obtain ⟨q1,q2⟩:=e.go i hi hg4
   obtain ⟨q3,q4⟩:=k.far.go i hi q1
   exact ⟨q3,(q4.trans q2).trans q5⟩
 own0:=fun b hb=>by
  rcases e.own b (hown b hb) with h|h
  ·exact k.own0 b h
  ·exact .inr (Nat.le_trans k.size h)
 m0:=fun b hb=>by
  rcases e.m2 b hb with h|h
  ·exact k.m0 b h
  ·exact .inr (Nat.le_trans k.size h)
 size:=Nat.le_trans k.size e.size
 dd:=hdd
 ghost:=hG
theorem ziq {cx1 cx2:Cx} {E:Env} {s:AS} {a:Act} {w:World} {l:Nat} {rc:Loop} (o:Obj) (hs:Sat cx1 E s a w) (hl:w.heap[l]?=some (.loop rc)) (hb:cx2.base=cx1.base) (hq:cx2.rq=false) (hn:cx2.nt=cx1.nt)
    (hG:cx2.G s.g E.M E.N (fun b=>Own E s.h b∨zQ a.defers b) (w.putObj l o)):Sat cx2 E s a (w.putObj l o):=by
  have hll:=(Array.getElem?_eq_some_iff.1 hl).1
  have hne:∀ (b:Nat) (ob:Obj),w.heap[b]?=some ob→(∀r,ob≠ .loop r)→b≠l:=fun b ob hb ho e=>by
    subst e
    rw [hl] at hb;cases hb
    exact ho _ rfl
  have hown:∀b,Own E s.h b→b≠l:=fun b ⟨i,hi,hb⟩=>by
    obtain ⟨ob,ho⟩:=Option.isSome_iff_exists.1 hi
    have:=hs.hp.heap i ob ho
    cases ob with
    |var cs=>simp only [RepObj] at this;obtain ⟨b',c,T,fz,g1,g2,_⟩:=this;rw [hb] at g1;cases g1;exact hne _ _ g2 (by simp)
    |tvar tt cs=>simp only [RepObj] at this;obtain ⟨b',c,T,fz,g1,g2,_⟩:=this;rw [hb] at g1;cases g1;exact hne _ _ g2 (by simp)
    | arr k xs=>
      simp only [RepObj] at this
      rcases this with ⟨g1,_⟩|⟨b',c,T,fz,g1,g2,_⟩
      · rw [hb] at g1;cases g1
      · rw [hb] at g1;cases g1;exact hne _ _ g2 (by simp)
    | buf tt xs=>
      simp only [RepObj] at this
      rcases this with ⟨g1,_⟩|⟨b',c,T,fz,g1,g2,_⟩
      · rw [hb] at g1;cases g1
      · rw [hb] at g1;cases g1;exact hne _ _ g2 (by simp)
    |strit l' q=>simp only [RepObj] at this;obtain ⟨b',g1,g2⟩:=this;rw [hb] at g1;cases g1;exact hne _ _ g2 (by simp)
    |omap es=>simp only [RepObj] at this;obtain ⟨b',m,cl,g1,g2,_⟩:=this;rw [hb] at g1;cases g1;exact hne _ _ g2 (by simp)
  obtain ⟨hp',hrep⟩:=hs.hp.others (E':=E) (w':=w.putObj l o) rfl rfl (fun _ _ h=>h) (fun b o hc hb _=>(World.putObj_heap_other (hne b _ hc (by rintro r rfl;cases hb))).trans hc) (fun b hb=>World.putObj_heap_other (hown b hb)) (by simp)
    (fun b hb=>(hs.hp.own b hb).2) (fun b hb=>by simpa using hs.hp.mlt b hb) (fun b hb=>by simpa using hs.hp.nlt b hb)
  exact { slots:=fun k g v hk=>by
            obtain ⟨x,h1,h2,h3⟩:=hs.slots k g v hk
            exact ⟨x,h1,fun e=>hrep _ _ (h2 e),h3⟩
          nt:=hs.nt.trans hn.symm
          hp:=hp'
          base:=⟨by rw [hb];simpa using hs.base.1,fun h=>by rw [hq] at h;cases h⟩
          marks:=⟨fun d hd=>by
            obtain ⟨r,h1,h2,h3,h4⟩:=hs.marks.1 d hd
            exact ⟨r,h1,(World.putObj_heap_other (hne r _ h2 (by simp))).trans h2,by rw [hb];exact h3,h4⟩,hs.marks.2⟩
          ghost:=hG }
def tick:List AV:= [.vp 0 0]
theorem znC {w:World} {X:Nat→Prop} {vs:List Value} (h:Reps w (bare X) [] tick vs):False:=by
 simp only [tick,Reps,Rep,hget] at h
 obtain ⟨_,_,_,⟨_,_,h,_⟩,_⟩:=h
 cases h
theorem zlz {s:AS} {a:Act} {ps:Array Tmp} {assign body:Code} {fn:FuncId} {items:List (List AV)} (hl:l=w0.heap.size+1) (hd:d=w0.heap.size) (hs0:Sat cx E0 s a w0)
  (I:List (List AV)→AHeap×Option (List (List AV))) (J:Code→AHeap→Option (List (List AV))→Prop)
  (hnames:∀xs,xs<+:items→∀i,(hget (I xs).1 i).isSome→p i=false) (hJ:∀c h3 g3,J c h3 g3→∀i,(hget h3 i).isSome→p i=false)
  (hlen:∀x∈items,x≠tick→x.length=ps.size) (hps:∀t∈ps.toList,t<cx.nt) (hfl:∀i,(hget s.h i).isSome→i<fl)
  (hround:∀xs x,x≠tick→(xs++ [x])<+:items→∀ (l:Nat) (r1:Rnd cx),AW (cx.inR l fl r1) assign (AsgK fun s1=>∀r2:Rnd cx,AW (cx.inR l fl r2) body (zh (fun h' g'=>leH h' (I (xs++ [x])).1∧inH (I (xs++ [x])).1 (idsH (I (xs++ [x])).1)∧g'=(I (xs++ [x])).2) J) s1)
   { t:=zaX ps.toList x (keepT (I xs).1 s.t),h:=(I xs).1,g:=(I xs).2 })
  (rec:LoopState→Option Code→Loop) (hrec:rec=fun st pe=> { state:=st,pending:=pe,fn:=fn,tmps:=a.tmps,params:=ps,assign:=assign,body:=body,defers:=d }):
  ∀xs x X M N A w (vs:Array Value),zaz cx l d fl p E0 s.h w0 a.defers I J rec (some xs) M N A w→(∀b,M b∨N b∨A b→X b)→Reps w (bare X) [] x vs.toList→(xs++ [x])<+:items→
  zfQ cx.P l vs w (fun e w'=>∃b M',e= .returned (.bool b)∧w'.os=w.os∧w'.tape=w.tape∧w'.output=w.output∧w.heap.size≤w'.heap.size∧(∀k,k<w.heap.size→¬M k→w'.heap[k]?=w.heap[k]?)∧
   (∀k,M k→M' k)∧(∀k,M' k→M k∨(w.heap.size≤k∧k<w'.heap.size))∧zaz cx l d fl p E0 s.h w0 a.defers I J rec (if b=true then some (xs++ [x]) else none) M' N A w'):=by
 intro xs x X M N A w vs hG hX hr hpre
 have hnt:x≠tick:=fun e=>znC (e ▸ hr)
 simp only [zaz] at hG
 obtain ⟨E2,k,hrl⟩:=hG
 have hmk:∀b,zQ a.defers b→b<w0.heap.size:=fun b hb=>hs0.marks.lt hb
 have hxin:x∈items:=by
  obtain ⟨t,rfl⟩:=hpre
  simp
 have hxl:=hlen x hxin hnt
 have hvl:vs.size=ps.size:=by
  have:=Reps.length hr
  simp at this;omega
 obtain ⟨Z,hZ⟩:∃Z:Nat→Prop,Z=fun b=>A b∨b=l∨b=d∨zQ a.defers b:=⟨_,rfl⟩
 have zd:Z d:=by rw [hZ];exact .inr (.inr (.inl rfl))
 have zl:Z l:=by rw [hZ];exact .inr (.inl rfl)
 have zm:∀b,zQ a.defers b→Z b:=fun b hb=>by rw [hZ];exact .inr (.inr (.inr hb))
 have hxpre:xs<+:items:=(List.prefix_append xs [x]).trans hpre
 have hsz:=k.size
 have hmk2:∀b,zQ a.defers b→w.heap[b]?=some (.deferred (some [])):=fun b ⟨dd,hdm,hdt⟩=>by
  obtain ⟨r,h1,h2,h3,h4⟩:=hs0.marks.1 dd hdm
  rw [h1] at hdt
  cases hdt
  exact (k.far.keep b (Array.getElem?_eq_some_iff.1 h2).1 (hs0.hp.not_mark h2) h4).trans h2
 have hmM:∀b,zQ a.defers b→¬E2.M b:=fun b hb hm=>by
  have hlt:=hmk b hb
  obtain ⟨dd,hdm,hdt⟩:=hb
  obtain ⟨r,h1,h2,h3,h4⟩:=hs0.marks.1 dd hdm
  rw [h1] at hdt
  cases hdt
  rcases k.far.m2 b hm with h|h
  ·exact h4 h
  ·omega
 have hZM:∀b,Z b→¬Own E2 (I xs).1 b∧¬E2.M b∧b<w.heap.size:=fun b hb=>by
  rw [hZ] at hb
  rcases hb with hb|rfl|rfl|hb
  ·have hn:=(k.n2 b).2 (.inr (.inl hb))
   exact ⟨fun ho=>(k.hp.own b ho).2.2 hn,k.am b hb,k.hp.nlt b hn⟩
  ·refine ⟨fun ho=>?_,fun hm=>?_,by omega⟩
   ·rcases k.own0 _ ho with h|h
    ·have:=(hs0.hp.own _ (zB h)).1;omega
    ·omega
   ·rcases k.m0 _ hm with h|h
    ·have:=hs0.hp.mlt _ h;omega
    ·omega
  ·refine ⟨fun ho=>?_,fun hm=>?_,by omega⟩
   ·rcases k.own0 _ ho with h|h
    ·have:=(hs0.hp.own _ (zB h)).1;omega
    ·omega
   ·rcases k.m0 _ hm with h|h
    ·have:=hs0.hp.mlt _ h;omega
    ·omega
  ·exact ⟨k.hp.not_mark (hmk2 b hb),hmM b hb,(Array.getElem?_eq_some_iff.1 (hmk2 b hb)).1⟩
 have hX0:XIn w0 (Xs E2 (I xs).1) (Xs E0 s.h):=fun b o hc _ hx=>by
  have hb:=(Array.getElem?_eq_some_iff.1 hc).1
  rcases hx with hx|hx|hx
  ·rcases k.far.own b hx with h|h
   ·exact .inl h
   ·omega
  ·rcases k.far.m2 b hx with h|h
   ·exact .inr (.inl h)
   ·omega
  ·rcases (k.n2 b).1 hx with h|h|h|h
   ·exact .inr (.inr h)
   ·rcases k.a1 b h with h|h
    ·exact .inl (zB h)
    ·omega
   ·omega
   ·omega
 have hK0:KIn w0 w (Xs E0 s.h):=fun b o hc _ hx=>by
  rcases k.far.block b (Array.getElem?_eq_some_iff.1 hc).1 with h|h
  ·exact absurd h hx
  ·exact h.trans hc
 have hgo0:∀j,(hget (I xs).1 j).isSome→GoesOn E0 s.h E2 (I xs).1 j:=fun j hj=>by
  by_cases hj0:(hget s.h j).isSome
  ·exact (k.far.go j (hfl j hj0) hj).2
  ·unfold GoesOn
   split
   ·rename_i cs hh;exact (hj0 (by simp [hh])).elim
   ·rename_i k xs hh;exact (hj0 (by simp [hh])).elim
   ·rename_i l p hh;exact (hj0 (by simp [hh])).elim
   ·rename_i es hh;exact (hj0 (by simp [hh])).elim
   ·rename_i tt cs hh;exact (hj0 (by simp [hh])).elim
   ·rename_i tt cs hh;exact (hj0 (by simp [hh])).elim
   ·trivial
 have hsl0:Slots w E2 ⟨keepT (I xs).1 s.t,(I xs).1,(I xs).2⟩ a:=zfB (g:=s.g) hs0.slots hX0 hK0 hgo0
 have hr2:Reps w E2 (I xs).1 x vs.toList:=Reps.stepc (E:=bare X) (h:= []) (fun b o hc hb hx=>by
   refine .inr (.inr ?_)
   rcases hx with hx|hx|hx
   ·exact hX b (.inl (k.m1 b (.inl hx)))
   ·exact hX b (.inl (k.m1 b (.inr hx)))
   ·rcases (k.n2 b).1 hx with h|h|h|h
    ·exact hX b (.inr (.inl ((k.n1 b).2 h)))
    ·exact hX b (.inr (.inr h))
    ·rw [h];exact hX l (.inl k.ml.1)
    ·rw [h];exact hX d (.inl k.ml.2)) (fun _ _ h _ _=>h) _ _ (fun j _=>by simp [GoesOn,hget]) hr
 have hsl:=zdU (a:=a) (g:=(I xs).2) ps.toList x vs.toList (keepT (I xs).1 s.t) a.tmps (by simp [hvl]) (fun t ht=>by have:=hps t ht;rw [hs0.nt];exact this) hr2 hsl0
 obtain ⟨tmps,htm⟩:∃tmps,tmps=(ps.toList.zip vs.toList).foldl (fun (t:Array Value) (q:Tmp×Value)=>t.setIfInBounds q.1 q.2) a.tmps:=⟨_,rfl⟩
 have htm2:(ps.zip vs).foldl (fun (t:Array Value) (x:Tmp×Value)=>match x with|(t',v)=>t.setIfInBounds t' v) a.tmps=tmps:=by
  rw [htm,← Array.foldl_toList,Array.toList_zip]
 have htsz:∀ (l:List (Tmp×Value)) (t:Array Value),(l.foldl (fun (t:Array Value) (q:Tmp×Value)=>t.setIfInBounds q.1 q.2) t).size=t.size:=by
  intro l
  induction l with
  |nil=>intro t;rfl
  |cons q l ih=>intro t;simp only [List.foldl_cons];rw [ih];simp
 have hrun:=run_yield (P:=cx.P) (args:=vs) hrl (by rw [hrec];exact hvl)
 rw [hrec] at hrun
 dsimp only at hrun
 rw [htm2] at hrun
 obtain ⟨r1,hr1⟩:∃r1:Rnd cx,r1=rnd cx l d E0.N Z (rec .ready none) a.defers zd zl zm:=⟨_,rfl⟩
 have hsat1:Sat (cx.inR l fl r1) E2 { t:=zaX ps.toList x (keepT (I xs).1 s.t),h:=(I xs).1,g:=(I xs).2 } { tmps:=tmps,defers:= [] } w:=by
  refine ⟨fun kk g v hk=>by rw [htm];exact hsl kk g v hk,?_,k.hp,⟨Nat.le_trans hs0.base.1 k.far.size,fun _=>rfl⟩,⟨by simp,by simp⟩,?_⟩
  ·show tmps.size=cx.nt
   rw [htm,htsz];exact hs0.nt
  ·rw [hr1]
   show cx.G _ _ _ _ _∧_
   refine ⟨?_,fun b hb=>⟨fun ho=>?_,(hZM b hb).2⟩,hrl,k.dd,fun b hb=>?_,hmk2⟩
   ·refine cx.stab _ _ _ _ _ w _ (fun _ _ _=>rfl) (fun b hb=> .inl ?_) (fun b hb=>?_) (Nat.le_refl _) rfl rfl rfl k.ghost
    ·rcases hb with (hb|⟨dd,hdd,_⟩)|hb
     ·exact .inl hb
     ·simp at hdd
     ·rw [hZ] at hb;exact .inr hb
    ·rcases hb with (hb|⟨dd,hdd,_⟩)|hb
     ·exact (k.hp.own b hb).1
     ·simp at hdd
     ·exact (hZM b hb).2.2
   ·rcases ho with ho|⟨dd,hdd,_⟩
    ·exact (hZM b hb).1 ho
    ·simp at hdd
   ·refine (k.n2 b).2 ?_
    rcases hb with hb|⟨hb,hnm⟩
    ·exact .inl hb
    ·rw [hZ] at hb
     rcases hb with hb|hb|hb|hb
     ·exact .inr (.inl hb)
     ·exact .inr (.inr (.inl hb))
     ·exact .inr (.inr (.inr hb))
     ·exact absurd hb hnm
 refine ⟨fn,tmps,assign,body,hrun,roundIn_of_wpIn trivial ?_⟩
 refine wpIn_mono (hround xs x hnt hpre l r1 E2 _ w hsat1) ?_
 intro e a1 w1 hre
 cases e with
 | normal=>
  obtain ⟨E3,s3,hbody,hs3,he3⟩:=hre
  have hg3:=hs3.ghost
  rw [hr1] at hg3
  obtain ⟨q1,q2,q3,q4,q5,q6⟩:=hg3
  have hbr:=run_beginRound (P:=cx.P) q3 (by rw [hrec])
  refine ⟨_,hbr,?_⟩
  obtain ⟨r2,hr2e⟩:∃r2:Rnd cx,r2=rnd cx l d E0.N Z { rec .ready none with state:= .busy } a.defers zd zl zm:=⟨_,rfl⟩
  have hne:∀b,b≠l→(w1.putObj l (.loop { rec .ready none with state:= .busy })).heap[b]?=w1.heap[b]?:=fun b hb=>World.putObj_heap_other hb
  have hdl:d≠l:=by omega
  have hsat2:Sat (cx.inR l fl r2) E3 s3 a1 (w1.putObj l (.loop { rec .ready none with state:= .busy })):=by
   refine ziq _ hs3 q3 rfl rfl rfl ?_
   rw [hr2e]
   refine ⟨cx.stab _ _ _ _ _ w1 _ (fun b _ hb=>hne b (fun e=>hb (by rw [e];exact .inr zl))) (fun b hb=> .inl hb) (fun b hb=>?_) (by simp) rfl rfl rfl q1,fun b hb=>⟨(q2 b hb).1,(q2 b hb).2.1,by simpa using (q2 b hb).2.2⟩,World.putObj_heap_same (Array.getElem?_eq_some_iff.1 q3).1,(hne d hdl).trans q4,q5,fun b hb=>(hne b (fun e=>by
    rw [e] at hb
    have:=hmk _ hb;omega)).trans (q6 b hb)⟩
   rw [World.putObj_size]
   rcases hb with hb|hb
   ·rcases hb with hb|hb
    ·exact (hs3.hp.own b hb).1
    ·exact hs3.marks.lt hb
   ·exact (q2 b hb).2.2
  refine wpIn_mono (hbody r2 E3 a1 _ hsat2) ?_
  have fin:∀ (jump:Option Code) (a4:Act) (w3:World) (E4:Env) (s4:AS),Sat (cx.inR l fl r2) E4 s4 a4 w3→Evo fl E3 s3.h (w1.putObj l (.loop { rec .ready none with state:= .busy })) E4 s4.h w3→
    (∀w4,w4.heap[l]?=some (.loop (rec (if jump.isNone then .ready else .done) jump))→(∀h',SatH E4 h' w4→(∀b,Own E4 h' b→Own E4 s4.h b)→(∀i,(hget h' i).isSome→(hget s4.h i).isSome∧GoesOn E4 s4.h E4 h' i)→(∀i,(hget h' i).isSome→p i=false)→Kept cx l d fl p E0 s.h w0 a.defers (fun b=>M b∨(w.heap.size≤b∧b<w4.heap.size)) N A E4 h' s4.g w4)→SatH E4 s4.h w4→
     zaz cx l d fl p E0 s.h w0 a.defers I J rec (if jump.isNone=true then some (xs++ [x]) else none) (fun b=>M b∨(w.heap.size≤b∧b<w4.heap.size)) N A w4)→
    ∃v w',(Instr.endRound l jump).run cx.P w3= .ok v w'∧(∃b M',(Ending.returned v:Ending)= .returned (.bool b)∧w'.os=w.os∧w'.tape=w.tape∧w'.output=w.output∧w.heap.size≤w'.heap.size∧(∀k,k<w.heap.size→¬M k→w'.heap[k]?=w.heap[k]?)∧
     (∀k,M k→M' k)∧(∀k,M' k→M k∨(w.heap.size≤k∧k<w'.heap.size))∧zaz cx l d fl p E0 s.h w0 a.defers I J rec (if b=true then some (xs++ [x]) else none) M' N A w'):=by
   intro jump a4 w3 E4 s4 hs4 he4 hfin
   have hg4:=hs4.ghost
   rw [hr2e] at hg4
   obtain ⟨t1,t2,t3,t4,t5,t6⟩:=hg4
   have hend:=run_endRound (P:=cx.P) jump t3
   obtain ⟨w4,hw4⟩:∃w4,w4=w3.putObj l (.loop (rec (if jump.isNone then .ready else .done) jump)):=⟨_,rfl⟩
   have hend':(Instr.endRound l jump).run cx.P w3= .ok (.bool jump.isNone) w4:=by
    rw [hend,hw4,hrec]
   have hl4:w4.heap[l]?=some (.loop (rec (if jump.isNone then .ready else .done) jump)):=by rw [hw4];exact World.putObj_heap_same (Array.getElem?_eq_some_iff.1 t3).1
   have hne4:∀b,b≠l→w4.heap[b]?=w3.heap[b]?:=fun b hb=>by rw [hw4];exact World.putObj_heap_other hb
   have hG4:∀h',(∀b,Own E4 h' b→Own E4 s4.h b)→cx.G s4.g E4.M E0.N (fun b=>Own E4 h' b∨A b∨b=l∨b=d∨zQ a.defers b) w4:=fun h' hown=>by
    refine cx.stab _ _ _ _ _ w3 _ (fun b _ hb=>hne4 b (fun e=>hb (by rw [e];exact .inr zl))) (fun b hb=> .inl ?_) (fun b hb=>?_) (by rw [hw4];simp) (by rw [hw4];rfl) (by rw [hw4];rfl) (by rw [hw4];rfl) t1
    ·rcases hb with hb|hb
     ·exact .inl (.inl (hown b hb))
     ·exact .inr (by rw [hZ];exact hb)
    ·rw [hw4,World.putObj_size]
     rcases hb with hb|hb
     ·exact (hs4.hp.own b (hown b hb)).1
     ·exact (t2 b (by rw [hZ];exact hb)).2.2
   have hs4':SatH E4 s4.h w4:=by
    rw [hw4]
    exact (ziq (cx1:=cx.inR l fl r2) (cx2:=cxOf cx.P cx.base cx.nt fl) _ hs4 t3 rfl rfl rfl trivial).hp
   have hev:EvoL l fl E2 (I xs).1 w E4 s4.h w4:=by
    rw [hw4]
    exact ((he3.l.trans (EvoL.put _)).trans he4.l).trans (EvoL.put _)
   refine ⟨_,w4,hend',jump.isNone,fun b=>M b∨(w.heap.size≤b∧b<w4.heap.size),rfl,hev.os,hev.tape,hev.output,hev.size,fun kk hk hm=>hev.keep kk hk (fun h=>hm (k.m1 kk (.inl h))) (fun h=>hm (k.m1 kk (.inr h))) (fun e=>hm (by rw [e];exact k.ml.1)),fun kk hk=> .inl hk,fun kk hk=>hk,?_⟩
   exact hfin w4 hl4 (fun h' hs' hown hgo hn=>k.round hl hd hev hs4' hs' hown hgo hn ((hne4 d hdl).trans t4) (hG4 h' hown)) hs4'
  rintro e a4 w3 hr4
  cases e with
  | normal=>
   obtain ⟨E4,s4,⟨hle,hin,hgg⟩,hs4,he4⟩:=hr4
   refine fin none a4 w3 E4 s4 hs4 he4 (fun w4 hl4 hk4 hs4'=>?_)
   simp only [Option.isNone_none,if_true,zaz]
   have:=hk4 (I (xs++ [x])).1 (hs4'.le hle hin) (fun b hb=>zeo hle hb) (fun i hg=>⟨by
    obtain ⟨o',ho'⟩:=Option.isSome_iff_exists.1 hg
    obtain ⟨o,ho,_⟩:=za0 hle ho'
    simp [ho],za8 hle hg⟩) (hnames _ hpre)
   rw [hgg] at this
   exact ⟨E4,this,hl4⟩
  |ret=>
   obtain ⟨E4,s4,hj,hs4,he4⟩:=hr4
   refine fin (some .ret) a4 w3 E4 s4 hs4 he4 (fun w4 hl4 hk4 hs4'=>?_)
   simp only [Option.isNone_some,Bool.false_eq_true,if_false,zaz]
   exact ⟨E4,_,_,_,hk4 s4.h hs4' (fun _ h=>h) (fun i h=>⟨h,GoesOn.refl E4 _ i⟩) (hJ _ _ _ hj),hl4,hj⟩
  |exit id=>
   obtain ⟨E4,s4,hj,hs4,he4⟩:=hr4
   refine fin (some (.exit id)) a4 w3 E4 s4 hs4 he4 (fun w4 hl4 hk4 hs4'=>?_)
   simp only [Option.isNone_some,Bool.false_eq_true,if_false,zaz]
   exact ⟨E4,_,_,_,hk4 s4.h hs4' (fun _ h=>h) (fun i h=>⟨h,GoesOn.refl E4 _ i⟩) (hJ _ _ _ hj),hl4,hj⟩
  |goto id=>
   obtain ⟨E4,s4,hj,hs4,he4⟩:=hr4
   refine fin (some (.goto id)) a4 w3 E4 s4 hs4 he4 (fun w4 hl4 hk4 hs4'=>?_)
   simp only [Option.isNone_some,Bool.false_eq_true,if_false,zaz]
   exact ⟨E4,_,_,_,hk4 s4.h hs4' (fun _ h=>h) (fun i h=>⟨h,GoesOn.refl E4 _ i⟩) (hJ _ _ _ hj),hl4,hj⟩
  |panic ch=>obtain ⟨_,_,h,_⟩:=hr4;exact h.elim
  |outgrown=>obtain ⟨_,_,h,_⟩:=hr4;exact h.elim
 |ret=>obtain ⟨_,_,h,_⟩:=hre;exact h.elim
 |exit id=>obtain ⟨_,_,h,_⟩:=hre;exact h.elim
 |goto id=>obtain ⟨_,_,h,_⟩:=hre;exact h.elim
 |panic ch=>obtain ⟨_,_,h,_⟩:=hre;exact h.elim
 |outgrown=>obtain ⟨_,_,h,_⟩:=hre;exact h.elim
end
open Go
section
variable {cx : Cx} {s : AS} {Q : Exit → AS → Prop}
theorem zgh {g:Operand} {ps:Array Tmp} {assign body:Code} {f:FuncId} {fs caps caps':List AV} {fl:Nat} {items:List (List AV)} {Kit:Option (List (List AV))→AHeap→Prop} (p:Nat→Bool) (I:List (List AV)→AHeap×Option (List (List AV))) (J:Code→AHeap→Option (List (List AV))→Prop)
    (hro:cx.lone=true) (hg:s.ev g=(true,.fn (.func f) fs caps)) (hcle:AV.leL caps caps') (hen:zbj cx.P f)
    (hit:∀E0 w0 ds rec (pf qc:Array Value),SatH E0 s.h w0→Reps w0 E0 s.h fs pf.toList→Reps w0 E0 s.h caps qc.toList→(∀b,zQ ds b→b<w0.heap.size)→
      ∀ y:Yo cx.P items,y.G=zaz cx (w0.heap.size+1) w0.heap.size fl p E0 s.h w0 ds I J rec→∀E w,SatH E (hsel p s.h) w→Reps w E (hsel p s.h) fs pf.toList→Reps w E (hsel p s.h) caps' qc.toList→y.G (some []) E.M E.N (Own E (hsel p s.h)) w→
        Calls cx.P f (pf++ #[Value.func (.yield y.yl) #[] #[]]++qc) w (fun e w'=>∃v E' h' g,e= .returned v∧Kit g h'∧SatH E' h' w'∧Evo fl E (hsel p s.h) w E' h' w'∧y.G g E'.M E'.N (Own E' h') w'))
    (hfl:∀i,(hget s.h i).isSome→i<fl) (hfc:cx.fl≤fl) (hcl:Closed p s.h) (hids:∀j∈AV.idsL fs++AV.idsL caps',p j=true)
    (hI:leH (hsel (fun i=> !p i) s.h) (I []).1) (hIn:inH (I []).1 (idsH (I []).1)) (hIg:(I []).2=s.g)
    (hnames:∀xs,xs<+:items→∀i,(hget (I xs).1 i).isSome→p i=false) (hJ:∀c h3 g3,J c h3 g3→∀i,(hget h3 i).isSome→p i=false) (hK1:∀g h',Kit g h'→(∀i,(hget h' i).isSome→p i=true)∧(∀xs,g=some xs→xs=items))
    (hlen:∀x∈items,x≠tick→x.length=ps.size) (hps:∀t∈ps.toList,t<cx.nt)
    (hround:∀xs x,x≠tick→(xs++ [x])<+:items→∀ (l:Nat) (r1:Rnd cx),AW (cx.inR l fl r1) assign (AsgK fun s1=>∀r2:Rnd cx,AW (cx.inR l fl r2) body (zh (fun h' g'=>leH h' (I (xs++ [x])).1∧inH (I (xs++ [x])).1 (idsH (I (xs++ [x])).1)∧g'=(I (xs++ [x])).2) J) s1)
      { t:=zaX ps.toList x (keepT (I xs).1 s.t),h:=(I xs).1,g:=(I xs).2 })
    (hdone:∀h1,Kit (some items) h1→Q .normal { t:=keepT (h1++(I items).1) s.t,h:=h1++(I items).1,g:=(I items).2 })
    (hstop:∀c h1 h3 g3,Kit none h1→J c h3 g3→AW cx c Q { t:=keepT (h1++h3) s.t,h:=h1++h3,g:=g3 }):
    AW cx (.rangeFunc g ps assign body) Q s:=by
  intro E0 a w0 hs0
  refine wpIn_rangeFunc ?_
  intro fn hfn
  obtain ⟨l,hl⟩:∃l,l=w0.heap.size+1:=⟨_,rfl⟩
  obtain ⟨d,hd⟩:∃d,d=w0.heap.size:=⟨_,rfl⟩
  obtain ⟨rec,hrec⟩:∃rec:LoopState→Option Code→Loop,rec=fun st pe=> { state:=st,pending:=pe,fn:=fn,tmps:=a.tmps,params:=ps,assign:=assign,body:=body,defers:=d } :=⟨_,rfl⟩
  obtain ⟨w1,hw1⟩:∃w1,w1=(w0.alloc (.deferred (some []))).alloc (.loop (rec .ready none)):=⟨_,rfl⟩
  have hsz1:w1.heap.size=w0.heap.size+2:=by rw [hw1];simp
  have hk1:∀b,b<w0.heap.size→w1.heap[b]?=w0.heap[b]?:=fun b hb=>by
    rw [hw1]
    show ((w0.heap.push _).push _)[b]?=_
    rw [Array.getElem?_push,if_neg (by simp;omega),Array.getElem?_push,if_neg (by omega)]
  have hd1:w1.heap[d]?=some (.deferred (some [])):=by
    rw [hw1,hd]
    show ((w0.heap.push _).push _)[w0.heap.size]?=_
    rw [Array.getElem?_push,if_neg (by simp),Array.getElem?_push,if_pos rfl]
  have hl1:w1.heap[l]?=some (.loop (rec .ready none)):=by
    rw [hw1,hl]
    show ((w0.heap.push _).push _)[w0.heap.size+1]?=_
    rw [Array.getElem?_push,if_pos (by simp)]
  have hfv:=ev_ok hs0.slots g (by rw [hg])
  rw [hg] at hfv
  simp only [Rep] at hfv
  obtain ⟨pf,qc,hgv,hfs,hcs⟩:=hfv
  have hitG:=hit E0 w0 a.defers rec pf qc hs0.hp hfs hcs (fun b hb=>hs0.marks.lt hb)
  replace hcs:Reps w0 E0 s.h caps' qc.toList:=Reps.le _ _ _ hcle hcs
  have hids1:∀j∈AV.idsL fs,p j=true:=fun j hj=>hids j (List.mem_append_left _ hj)
  have hids2:∀j∈AV.idsL caps',p j=true:=fun j hj=>hids j (List.mem_append_right _ hj)
  have hmk:∀b,zQ a.defers b→b<w0.heap.size:=fun b hb=>hs0.marks.lt hb
  have howns:∀b,Own E0 (hsel p s.h) b→¬Own E0 (hsel (fun i=> !p i) s.h) b:=by
    rintro b ⟨i,hi,hb⟩ ⟨j,hj,hb'⟩
    rw [zk] at hi hj
    split at hi
    · rename_i hpi
      split at hj
      · rename_i hpj
        have:=hs0.hp.inj i j b hi hj hb hb'
        subst this
        rw [hpi] at hpj;cases hpj
      · simp at hj
    · simp at hi
  obtain ⟨E1,hE1⟩:∃E1:Env,E1= { O:=E0.O,C:=E0.C,M:=fun b=>Own E0 (hsel (fun i=> !p i) s.h) b∨E0.M b∨b=l∨b=d,N:=E0.N } :=⟨_,rfl⟩
  have hX1:∀b,b<w0.heap.size→Xs E1 (hsel p s.h) b→Xs E0 s.h b:=by
    rw [hE1]
    rintro b hb (hx|(hx|hx|hx|hx)|hx)
    · exact .inl (zB hx)
    · exact .inl (zB hx)
    · exact .inr (.inl hx)
    · omega
    · omega
    · exact .inr (.inr hx)
  have hgo1:∀j,p j=true→GoesOn E0 s.h E1 (hsel p s.h) j:=fun j hj=>by
    rw [hE1]
    unfold GoesOn
    rw [zk,if_pos hj]
    split<;>simp_all
  have hs1:SatH E1 (hsel p s.h) w1:=by
    refine ⟨fun i o ho=>?_,fun i j b hi hj h1 h2=>?_,fun b hb=>?_,fun b hb=>?_,fun b hb=>?_⟩
    · have ho':=ho
      rw [zk] at ho'
      split at ho'
      · rename_i hpi
        have:=hs0.hp.heap i o ho'
        have hidso:=hcl i o ho' hpi
        have hlt:∀b,E0.O i=some b→w1.heap[b]?=w0.heap[b]?:=fun b hb=>hk1 b (hs0.hp.own b ⟨i,by simp [ho'],hb⟩).1
        have hO:E1.O=E0.O:=by rw [hE1]
        have hC:E1.C=E0.C:=by rw [hE1]
        cases o with
        | var cs=>
          simp only [RepObj,hO] at this ⊢
          obtain ⟨b,c,T,fz,g1,g2,g3,g4⟩:=this
          exact ⟨b,c,T,fz,g1,(hlt b g1).trans g2,Reps.step hX1 (fun b hb _=>hk1 b hb) _ _ (fun j hj=>hgo1 j (hidso j hj)) g3,g4⟩
        | tvar tt cs=>
          simp only [RepObj,hO] at this ⊢
          obtain ⟨b,c,T,fz,g1,g2,g3,g4⟩:=this
          exact ⟨b,c,T,fz,g1,(hlt b g1).trans g2,Reps.step hX1 (fun b hb _=>hk1 b hb) _ _ (fun j hj=>hgo1 j (hidso j hj)) g3,g4⟩
        | arr k xs=>
          simp only [RepObj,hO,hC] at this ⊢
          rcases this with g|⟨b,c,T,fz,g1,g2,g3,g4,g5,g6⟩
          · exact .inl g
          · exact .inr ⟨b,c,T,fz,g1,(hlt b g1).trans g2,g3,g4,RepRows.step hX1 (fun b hb _=>hk1 b hb) _ _ _ g5,g6⟩
        | buf tt xs=>
          simp only [RepObj,hO,hC] at this ⊢
          rcases this with g|⟨b,c,T,fz,g1,g2,g3,g4,g5,g6⟩
          · exact .inl g
          · exact .inr ⟨b,c,T,fz,g1,(hlt b g1).trans g2,g3,g4,g5,g6⟩
        | strit l q=>
          simp only [RepObj,hO] at this ⊢
          obtain ⟨b,g1,g2⟩:=this
          exact ⟨b,g1,(hlt b g1).trans g2⟩
        | omap es=>
          simp only [RepObj,hO] at this ⊢
          obtain ⟨b,m,cl,g1,g2,g3⟩:=this
          exact ⟨b,m,cl,g1,(hlt b g1).trans g2,g3⟩
      · cases ho'
    · rw [hE1] at h1 h2
      rw [zk] at hi hj
      split at hi
      · split at hj
        · exact hs0.hp.inj i j b hi hj h1 h2
        · simp at hj
      · simp at hi
    · have hb':Own E0 (hsel p s.h) b:=by rw [hE1] at hb;exact hb
      have:=hs0.hp.own b (zB hb')
      rw [hE1]
      refine ⟨by omega,?_,this.2.2⟩
      rintro (hx|hx|hx|hx)
      · exact howns b hb' hx
      · exact this.2.1 hx
      · omega
      · omega
    · rw [hE1] at hb
      rcases hb with hx|hx|hx|hx
      · have:=(hs0.hp.own b (zB hx)).1;omega
      · have:=hs0.hp.mlt b hx;omega
      · omega
      · omega
    · rw [hE1] at hb
      have:=hs0.hp.nlt b hb;omega
  have hfs1:Reps w1 E1 (hsel p s.h) fs pf.toList:=Reps.step hX1 (fun b hb _=>hk1 b hb) _ _ (fun j hj=>hgo1 j (hids1 j hj)) hfs
  have hcs1:Reps w1 E1 (hsel p s.h) caps' qc.toList:=Reps.step hX1 (fun b hb _=>hk1 b hb) _ _ (fun j hj=>hgo1 j (hids2 j hj)) hcs
  obtain ⟨E2,hE2⟩:∃E2:Env,E2= { O:=E0.O,C:=E0.C,M:=E0.M,N:=fun b=>E0.N b∨Own E0 (hsel p s.h) b∨b=l∨b=d } :=⟨_,rfl⟩
  have hown2:∀b,Own E2 (I []).1 b→Own E0 (hsel (fun i=> !p i) s.h) b:=fun b hb=>by
    have:Own E0 (I []).1 b:=by rw [hE2] at hb;exact hb
    exact zeo hI this
  have hX2:∀b,b<w0.heap.size→Xs E2 (I []).1 b→Xs E0 s.h b:=by
    intro b hb hx
    rcases hx with hx|hx|hx
    · exact .inl (zB (hown2 b hx))
    · rw [hE2] at hx;exact .inr (.inl hx)
    · rw [hE2] at hx
      rcases hx with hx|hx|hx|hx
      · exact .inr (.inr hx)
      · exact .inl (zB hx)
      · omega
      · omega
  have hO2:E2.O=E0.O:=by rw [hE2]
  have hC2:E2.C=E0.C:=by rw [hE2]
  have hM2:E2.M=E0.M:=by rw [hE2]
  have hs2:SatH E2 (I []).1 w1:=by
    have hp0:∀i o,hget (hsel (fun i=> !p i) s.h) i=some o→RepObj w0 E0 s.h i o:=fun i o ho=>by
      rw [zk] at ho
      split at ho
      · exact hs0.hp.heap i o ho
      · cases ho
    refine ⟨fun i o ho=>?_,fun i j b hi hj h1 h2=>?_,fun b hb=>?_,fun b hb=>?_,fun b hb=>?_⟩
    · obtain ⟨o1,ho1,hle⟩:=za0 hI ho
      have hr:=hp0 i o1 ho1
      have hlt:∀b,E0.O i=some b→w1.heap[b]?=w0.heap[b]?:=fun b hb=>hk1 b (hs0.hp.own b ⟨i,by
        rw [zk] at ho1
        split at ho1
        · simp [ho1]
        · simp at ho1,hb⟩).1
      have hgoI:∀j,(hget (I []).1 j).isSome→GoesOn E0 s.h E2 (I []).1 j:=fun j hj=>by
        have hj1:=za8 (E:=E0) hI hj
        have hj2:(hget (hsel (fun i=> !p i) s.h) j).isSome:=by
          obtain ⟨o',ho'⟩:=Option.isSome_iff_exists.1 hj
          obtain ⟨oo,hoo,_⟩:=za0 hI ho'
          simp [hoo]
        have hpj:(!p j)=true:=by
          rw [zk] at hj2
          split at hj2
          · assumption
          · simp at hj2
        have hj3:=(zcm (E:=E0) (h:=s.h) (p:=fun i=> !p i) j hpj).trans hj1
        unfold GoesOn at hj3 ⊢
        rw [hO2,hC2]
        exact hj3
      have hidsI:∀j∈o.ids,(hget (I []).1 j).isSome:=fun j hj=>zb0 hIn j (zcY ho j hj)
      cases o1 with
      | var cs=>
        cases o<;>simp only [AObj.le] at hle
        simp only [RepObj,hO2] at hr ⊢
        obtain ⟨b,c,T,fz,g1,g2,g3,g4⟩:=hr
        exact ⟨b,c,T,fz,g1,(hlt b g1).trans g2,Reps.step hX2 (fun b hb _=>hk1 b hb) _ _ (fun j hj=>hgoI j (hidsI j hj)) (Reps.le _ _ _ hle g3),g4⟩
      | tvar tt cs=>
        cases o<;>simp only [AObj.le] at hle
        obtain ⟨rfl,hle⟩:=hle
        simp only [RepObj,hO2] at hr ⊢
        obtain ⟨b,c,T,fz,g1,g2,g3,g4⟩:=hr
        exact ⟨b,c,T,fz,g1,(hlt b g1).trans g2,Reps.step hX2 (fun b hb _=>hk1 b hb) _ _ (fun j hj=>hgoI j (hidsI j hj)) (Reps.le _ _ _ hle g3),g4⟩
      | arr k xs=>
        simp only [AObj.le] at hle;subst hle
        simp only [RepObj,hO2,hC2] at hr ⊢
        rcases hr with g|⟨b,c,T,fz,g1,g2,g3,g4,g5,g6⟩
        · exact .inl g
        · exact .inr ⟨b,c,T,fz,g1,(hlt b g1).trans g2,g3,g4,RepRows.step hX2 (fun b hb _=>hk1 b hb) _ _ _ g5,g6⟩
      | buf tt xs=>
        simp only [AObj.le] at hle;subst hle
        simp only [RepObj,hO2,hC2] at hr ⊢
        rcases hr with g|⟨b,c,T,fz,g1,g2,g3,g4,g5,g6⟩
        · exact .inl g
        · exact .inr ⟨b,c,T,fz,g1,(hlt b g1).trans g2,g3,g4,g5,g6⟩
      | strit l q=>
        simp only [AObj.le] at hle;subst hle
        simp only [RepObj,hO2] at hr ⊢
        obtain ⟨b,g1,g2⟩:=hr
        exact ⟨b,g1,(hlt b g1).trans g2⟩
      | omap es=>
        simp only [AObj.le] at hle;subst hle
        simp only [RepObj,hO2] at hr ⊢
        obtain ⟨b,m,cl,g1,g2,g3⟩:=hr
        exact ⟨b,m,cl,g1,(hlt b g1).trans g2,g3⟩
    · rw [hO2] at h1 h2
      have key:∀i,(hget (I []).1 i).isSome→(hget s.h i).isSome:=fun i hi=>by
        obtain ⟨o',ho'⟩:=Option.isSome_iff_exists.1 hi
        obtain ⟨oo,hoo,_⟩:=za0 hI ho'
        rw [zk] at hoo
        split at hoo
        · simp [hoo]
        · cases hoo
      exact hs0.hp.inj i j b (key i hi) (key j hj) h1 h2
    · have hb':=hown2 b hb
      have:=hs0.hp.own b (zB hb')
      rw [hE2]
      refine ⟨by omega,this.2.1,?_⟩
      rintro (hx|hx|hx|hx)
      · exact this.2.2 hx
      · exact howns b hx hb'
      · omega
      · omega
    · rw [hM2] at hb
      have:=hs0.hp.mlt b hb;omega
    · rw [hE2] at hb
      rcases hb with hx|hx|hx|hx
      · have:=hs0.hp.nlt b hx;omega
      · have:=(hs0.hp.own b (zB hx)).1;omega
      · omega
      · omega
  have hkept:Kept cx l d fl p E0 s.h w0 a.defers E1.M E1.N (Own E1 (hsel p s.h)) E2 (I []).1 (I []).2 w1:=by
    have hO1:∀b,Own E1 (hsel p s.h) b↔Own E0 (hsel p s.h) b:=fun b=>by rw [hE1];exact Iff.rfl
    refine ⟨hs2,hnames [] (List.nil_prefix),fun b=>by rw [hE1],fun b hb=> .inl ((hO1 b).1 hb),fun b=>by rw [hE2];simp only [hO1],fun b hb hm=>?_,fun b hb=>?_,?_,⟨by rw [hw1];rfl,by rw [hw1];rfl,by rw [hw1];rfl,by omega,fun b hb _ _=>hk1 b hb,fun b hb=> .inl (zB (hown2 b hb)),fun b hb=>by rwa [hM2],fun b hb=> .inl (by rwa [hM2] at hb),fun i hi hg=>?_⟩,fun b hb=> .inl (hown2 b hb),fun b hb=> .inl (by rwa [hM2] at hb),by omega,hd1,?_⟩
    · rw [hM2] at hm
      exact (hs0.hp.own b (zB ((hO1 b).1 hb))).2.1 hm
    · rw [hE1]
      rcases hb with hb|hb
      · exact .inl (hown2 b hb)
      · exact .inr (.inl (by rwa [hM2] at hb))
    · rw [hE1];exact ⟨.inr (.inr (.inl rfl)),.inr (.inr (.inr rfl))⟩
    · have hj1:=za8 (E:=E0) hI hg
      have hj2:(hget (hsel (fun i=> !p i) s.h) i).isSome:=by
        obtain ⟨o',ho'⟩:=Option.isSome_iff_exists.1 hg
        obtain ⟨oo,hoo,_⟩:=za0 hI ho'
        simp [hoo]
      have hpj:(!p i)=true:=by
        rw [zk] at hj2
        split at hj2
        · assumption
        · simp at hj2
      have hj3:=(zcm (E:=E0) (h:=s.h) (p:=fun i=> !p i) i hpj).trans hj1
      refine ⟨by rw [zk,if_pos hpj] at hj2;exact hj2,?_⟩
      unfold GoesOn at hj3 ⊢
      rw [hO2,hC2]
      exact hj3
    · rw [hIg,hM2]
      refine cx.stab _ _ _ _ _ w0 _ (fun b hb _=>hk1 b hb) (fun b hb=>?_) (fun b hb=>?_) (by omega) (by rw [hw1];rfl) (by rw [hw1];rfl) (by rw [hw1];rfl) hs0.ghost
      · rcases hb with hb|hb|hb|hb|hb
        · exact .inl (.inl (zB (hown2 b hb)))
        · exact .inl (.inl (zB ((hO1 b).1 hb)))
        · exact .inr (by omega)
        · exact .inr (by omega)
        · exact .inl (.inr hb)
      · rcases hb with hb|hb|hb|hb|hb
        · have:=(hs0.hp.own b (zB (hown2 b hb))).1;omega
        · have:=(hs0.hp.own b (zB ((hO1 b).1 hb))).1;omega
        · omega
        · omega
        · have:=hmk b hb;omega
  let y : Yo cx.P items:=
    { yl:=l
      G:=zaz cx l d fl p E0 s.h w0 a.defers I J rec
      stab:=fun gg M N A A' w w' hk hA hAb hsz ht ho hout hG=>by
        cases gg with
        | some xs=>
          simp only [zaz] at hG ⊢
          obtain ⟨E3,k,hrl⟩:=hG
          obtain ⟨E3',k',hnl⟩:=k.step hl hd hs0.hp hmk hk hA hAb hsz ht ho hout
          exact ⟨E3',k',(hk l (by have:=k.size;omega) hnl).trans hrl⟩
        | none=>
          simp only [zaz] at hG ⊢
          obtain ⟨E3,c,h3,g3,k,hrl,hj⟩:=hG
          obtain ⟨E3',k',hnl⟩:=k.step hl hd hs0.hp hmk hk hA hAb hsz ht ho hout
          exact ⟨E3',c,h3,g3,k',(hk l (by have:=k.size;omega) hnl).trans hrl,hj⟩
      yok:=zlz hl hd hs0 I J hnames hJ hlen hps hfl hround rec hrec }
  have hG1:zaz cx l d fl p E0 s.h w0 a.defers I J rec (some []) E1.M E1.N (Own E1 (hsel p s.h)) w1:=by
    simp only [zaz]
    exact ⟨E2,hkept,hl1⟩
  have hcalls:=hitG y (by rw [← hl,← hd]) E1 w1 hs1 hfs1 hcs1 hG1
  refine ⟨l,[{ target:= .collected d,args:= #[] }],w1, { target:= .fn (.func f) qc,args:=pf++ #[Value.func (.yield l) #[] #[]] },w1,f,pf++ #[Value.func (.yield l) #[] #[]]++qc,w1,?_,?_,fun _ _=>trivial,?_,fun h=>(by cases h),?_⟩
  · have hround0:cx.F.round=none:=(Cx.lone_ok hro).1
    rw [hround0,hw1,hrec,hl,hd]
    exact run_enterLoop_outer fn a.tmps ps assign body
  · simp only [resolve,rangeCall,hgv,Deferred.ofValue,Sem.run_pure,Sem.run_bind]
    simp [Act.eval]
  · simp only [invoke]
    exact hen _ _
  · refine (zfZ 0 hcalls).mono ?_
    rintro e w5 ⟨v,E5,h5,g5,rfl,hKit,hs5,hev5,hG5⟩
    have hG5':zaz cx l d fl p E0 s.h w0 a.defers I J rec g5 E5.M E5.N (Own E5 h5) w5:=hG5
    obtain ⟨hn5,hit5⟩:=hK1 g5 h5 hKit
    have fin:∀ (st:LoopState) (pe:Option Code) (E4:Env) (hI':AHeap) (gI':Option (List (List AV))),st≠ .busy→Kept cx l d fl p E0 s.h w0 a.defers E5.M E5.N (Own E5 h5) E4 hI' gI' w5→w5.heap[l]?=some (.loop (rec st pe))→
        ∃w6 E6,(Instr.endLoop l).run cx.P w5= .ok pe w6∧Sat cx E6 { t:=keepT (h5++hI') s.t,h:=h5++hI',g:=gI' } { a with defers:= { target:= .collected d,args:= #[] } ::a.defers } w6∧Evo cx.fl E0 s.h w0 E6 (h5++hI') w6:=by
      intro st pe E4 hI' gI' hst k hrl
      have hend:=run_endLoop (P:=cx.P) hrl (by rw [hrec];exact hst)
      obtain ⟨w6,hw6⟩:∃w6,w6=w5.putObj l (.loop { rec st pe with state:= .exhausted }):=⟨_,rfl⟩
      have hsz5:=k.size
      have ap:Apart p E5 h5 E4 hI' E4.M E0.N:=
        { n1:=hn5,n2:=k.names,o1:=fun b hb=> .inr ((k.n2 b).2 (.inr (.inl hb))),o2:=fun b hb=> .inl (k.m1 b (.inl hb)),m1:=fun b hb=> .inl (k.m1 b (.inr hb)),m2:=fun b hb=> .inl hb,k1:=fun b hb=> .inr ((k.n1 b).2 hb),k2:=fun b hb=> .inr ((k.n2 b).2 (.inl hb)) }
      have hs6':=ap.sat hs5 k.hp k.hp.mlt (fun b hb=>k.hp.nlt b ((k.n2 b).2 (.inl hb)))
      obtain ⟨E6,hE6⟩:∃E6,E6=joinE p E5 E4 E4.M E0.N:=⟨_,rfl⟩
      rw [← hE6] at hs6'
      have hM6:E6.M=E4.M:=by rw [hE6];rfl
      have hN6:E6.N=E0.N:=by rw [hE6];rfl
      have hown6:∀b,Own E6 (h5++hI') b→Own E5 h5 b∨Own E4 hI' b:=fun b hb=>by rw [hE6] at hb;exact ap.own hb
      have ho5:∀b,Own E5 h5 b→Own E0 s.h b∨w1.heap.size≤b:=fun b hb=>(hev5.own b hb).imp (fun h=>by rw [hE1] at h;exact zB h) id
      have hgoE:∀j,(hget (h5++hI') j).isSome→GoesOn E0 s.h E6 (h5++hI') j∧(j<fl→(hget s.h j).isSome):=fun j hj=>by
        by_cases hpj:p j=true
        · have hj5:(hget h5 j).isSome:=by rw [ap.get1 hpj] at hj;exact hj
          have key:j<fl→(hget s.h j).isSome∧GoesOn E0 s.h E6 (h5++hI') j:=fun hjf=>by
            obtain ⟨q1,q2⟩:=hev5.go j hjf hj5
            rw [zk,if_pos hpj] at q1
            refine ⟨q1,?_⟩
            have q3:GoesOn E0 s.h E5 h5 j:=by
              unfold GoesOn at q2 ⊢
              rw [zk,if_pos hpj,hE1] at q2
              exact q2
            rw [hE6]
            exact q3.trans (ap.goes1 j)
          by_cases hj0:(hget s.h j).isSome
          · exact ⟨(key (hfl j hj0)).2,fun _=>hj0⟩
          · refine ⟨?_,fun hjf=>(key hjf).1⟩
            unfold GoesOn
            split
            · rename_i cs hh;exact (hj0 (by simp [hh])).elim
            · rename_i k xs hh;exact (hj0 (by simp [hh])).elim
            · rename_i l p hh;exact (hj0 (by simp [hh])).elim
            · rename_i es hh;exact (hj0 (by simp [hh])).elim
            · rename_i tt cs hh;exact (hj0 (by simp [hh])).elim
            · rename_i tt cs hh;exact (hj0 (by simp [hh])).elim
            · trivial
        · have hpj':p j=false:=by simpa using hpj
          have hj4:(hget hI' j).isSome:=by rw [ap.get2 hpj'] at hj;exact hj
          by_cases hj0:(hget s.h j).isSome
          · refine ⟨?_,fun _=>hj0⟩
            rw [hE6]
            exact (k.far.go j (hfl j hj0) hj4).2.trans (ap.goes2 j)
          · refine ⟨?_,fun hjf=>(k.far.go j hjf hj4).1⟩
            unfold GoesOn
            split
            · rename_i cs hh;exact (hj0 (by simp [hh])).elim
            · rename_i k xs hh;exact (hj0 (by simp [hh])).elim
            · rename_i l p hh;exact (hj0 (by simp [hh])).elim
            · rename_i es hh;exact (hj0 (by simp [hh])).elim
            · rename_i tt cs hh;exact (hj0 (by simp [hh])).elim
            · rename_i tt cs hh;exact (hj0 (by simp [hh])).elim
            · trivial
      have hXf:XIn w0 (Xs E6 (h5++hI')) (Xs E0 s.h):=fun b o hc _ hx=>by
        have hb:=(Array.getElem?_eq_some_iff.1 hc).1
        rcases hx with hx|hx|hx
        · rcases hown6 b hx with h|h
          · rcases ho5 b h with h|h
            · exact .inl h
            · omega
          · rcases k.far.own b h with h|h
            · exact .inl h
            · omega
        · rw [hM6] at hx
          rcases k.far.m2 b hx with h|h
          · exact .inr (.inl h)
          · omega
        · rw [hN6] at hx;exact .inr (.inr hx)
      have hKf:KIn w0 w5 (Xs E0 s.h):=fun b o hc _ hx=>by
        rcases k.far.block b (Array.getElem?_eq_some_iff.1 hc).1 with h|h
        · exact absurd h hx
        · exact h.trans hc
      have hslots:Slots w5 E6 ⟨keepT (h5++hI') s.t,h5++hI',gI'⟩ a:=zfB (g:=s.g) hs0.slots hXf hKf (fun j hj=>(hgoE j hj).1)
      have hdM:¬E4.M d:=fun hm=>by
        rcases k.m0 d hm with h|h
        · have:=hs0.hp.mlt d h;omega
        · omega
      have hmarks5:Marks cx.base E6 w5 ({ target:= .collected d,args:= #[] } ::a.defers):=by
        have hb0:=hs0.base.1
        refine ⟨fun dd hdd=>?_,?_⟩
        · rcases List.mem_cons.1 hdd with rfl|hdd
          · exact ⟨d,rfl,k.dd,by omega,by rw [hM6];exact hdM⟩
          · obtain ⟨r,q1,q2,q3,q4⟩:=hs0.marks.1 dd hdd
            have hr:=(Array.getElem?_eq_some_iff.1 q2).1
            refine ⟨r,q1,(k.far.keep r hr (hs0.hp.not_mark q2) q4).trans q2,q3,fun hm=>?_⟩
            rw [hM6] at hm
            rcases k.far.m2 r hm with h|h
            · exact q4 h
            · omega
        · simp only [List.map_cons,List.nodup_cons]
          refine ⟨?_,hs0.marks.2⟩
          simp only [List.mem_map,not_exists,not_and]
          intro dd hdd e
          obtain ⟨r,q1,q2,q3,q4⟩:=hs0.marks.1 dd hdd
          have hr:=(Array.getElem?_eq_some_iff.1 q2).1
          rw [q1] at e
          simp only at e
          omega
      have hghost5:cx.G gI' E6.M E6.N (fun b=>Own E6 (h5++hI') b∨zQ ({ target:= .collected d,args:= #[] } ::a.defers) b) (w5.putObj l (.loop { rec st pe with state:= .exhausted })):=by
        rw [hM6,hN6]
        refine cx.stab _ _ _ _ _ w5 _ (fun b _ hb=>World.putObj_heap_other (fun e=>hb (by rw [e];exact .inr (.inr (.inl rfl))))) (fun b hb=> .inl ?_) (fun b hb=>?_) (by simp) rfl rfl rfl k.ghost
        · rcases hb with hb|⟨dd,hdd,hdt⟩
          · rcases hown6 b hb with h|h
            · exact .inr (.inl h)
            · exact .inl h
          · rcases List.mem_cons.1 hdd with rfl|hdd
            · have:b=d:=by simpa using hdt.symm
              exact .inr (.inr (.inr (.inl this)))
            · exact .inr (.inr (.inr (.inr ⟨dd,hdd,hdt⟩)))
        · rw [World.putObj_size]
          rcases hb with hb|hb
          · exact (hs6'.own b hb).1
          · exact hmarks5.lt hb
      have hsat5:Sat (cxOf cx.P cx.base cx.nt cx.fl) E6 { t:=keepT (h5++hI') s.t,h:=h5++hI',g:=gI' } { a with defers:= { target:= .collected d,args:= #[] } ::a.defers } w5:=
        { slots:=fun kk g v hk=>hslots kk g v hk,nt:=hs0.nt,hp:=hs6',base:=⟨Nat.le_trans hs0.base.1 k.far.size,fun h=>by cases h⟩,marks:=hmarks5,ghost:=trivial }
      refine ⟨w6,E6,?_,?_,?_⟩
      · rw [hend,hw6,hrec]
      · rw [hw6]
        exact ziq (cx1:=cxOf cx.P cx.base cx.nt cx.fl) (cx2:=cx) _ hsat5 hrl rfl (Cx.lone_ok hro).2 rfl hghost5
      · rw [hw6]
        refine ⟨k.far.os,k.far.tape,k.far.output,by simpa using k.far.size,fun b hb h1 h2=>?_,fun b hb=>?_,fun b hb=>by rw [hM6];exact k.far.m1 b hb,fun b hb=>by rw [hM6] at hb;exact k.far.m2 b hb,hN6,fun i hi hg=>?_⟩
        · exact (World.putObj_heap_other (by omega)).trans (k.far.keep b hb h1 h2)
        · rcases hown6 b hb with h|h
          · rcases ho5 b h with h|h
            · exact .inl h
            · exact .inr (by omega)
          · exact k.far.own b h
        · exact ⟨(hgoE i hg).2 (by omega),(hgoE i hg).1⟩
    cases g5 with
    | some xs=>
      have hxs:=hit5 xs rfl
      subst hxs
      simp only [zaz] at hG5'
      obtain ⟨E4,k,hrl⟩:=hG5'
      obtain ⟨w6,E6,h1,h2,h3⟩:=fin .ready none E4 _ _ (by simp) k hrl
      exact ⟨none,w6,h1,E6,_,hdone h5 hKit,h2,h3⟩
    | none=>
      simp only [zaz] at hG5'
      obtain ⟨E4,c,h3',g3',k,hrl,hj⟩:=hG5'
      obtain ⟨w6,E6,h1,h2,h3⟩:=fin .done (some c) E4 _ _ (by simp) k hrl
      refine ⟨some c,w6,h1,?_⟩
      exact wpIn_mono (hstop c h5 h3' g3' hKit hj E6 _ w6 h2) (fun _ _ _ hr=>hr.trans h3)
theorem zc7 {g:Operand} {ps:Array Tmp} {assign body:Code} {f:FuncId} {fs caps caps':List AV} {fl:Nat} {items:List (List AV)} {Kit:Option (List (List AV))→AHeap→Prop} (p:Nat→Bool) (I:List (List AV)→AHeap×Option (List (List AV))) (J:Code→AHeap→Option (List (List AV))→Prop)
  (hro:cx.lone=true) (hg:s.ev g=(true,.fn (.func f) fs caps)) (hcle:AV.leL caps caps') (hen:zbj cx.P f)
  (hit:∀E0 w0 (pf qc:Array Value),SatH E0 s.h w0→Reps w0 E0 s.h fs pf.toList→Reps w0 E0 s.h caps qc.toList→∃S:World→Prop,
   (∀y:Yo cx.P items,(∀g M N A w,y.G g M N A w→S w)→∀E w,SatH E (hsel p s.h) w→Reps w E (hsel p s.h) fs pf.toList→Reps w E (hsel p s.h) caps' qc.toList→y.G (some []) E.M E.N (Own E (hsel p s.h)) w→
    Calls cx.P f (pf++ #[Value.func (.yield y.yl) #[] #[]]++qc) w (fun e w'=>∃v E' h' g,e= .returned v∧Kit g h'∧SatH E' h' w'∧Evo fl E (hsel p s.h) w E' h' w'∧y.G g E'.M E'.N (Own E' h') w'))∧
   (∀xs E w,SatH E (I xs).1 w→(∀i,i<fl→(hget (I xs).1 i).isSome→GoesOn E0 s.h E (I xs).1 i)→S w)∧
   (∀c h3 g3,J c h3 g3→∀E w,SatH E h3 w→(∀i,i<fl→(hget h3 i).isSome→GoesOn E0 s.h E h3 i)→S w))
  (hfl:∀i,(hget s.h i).isSome→i<fl) (hfc:cx.fl≤fl) (hcl:Closed p s.h) (hids:∀j∈AV.idsL fs++AV.idsL caps',p j=true)
  (hI:leH (hsel (fun i=> !p i) s.h) (I []).1) (hIn:inH (I []).1 (idsH (I []).1)) (hIg:(I []).2=s.g)
  (hnames:∀xs,xs<+:items→∀i,(hget (I xs).1 i).isSome→p i=false) (hJ:∀c h3 g3,J c h3 g3→∀i,(hget h3 i).isSome→p i=false) (hK1:∀g h',Kit g h'→(∀i,(hget h' i).isSome→p i=true)∧(∀xs,g=some xs→xs=items))
  (hlen:∀x∈items,x.length=ps.size) (hps:∀t∈ps.toList,t<cx.nt)
  (hround:∀xs x,(xs++ [x])<+:items→∀ (l:Nat) (r1:Rnd cx),AW (cx.inR l fl r1) assign (AsgK fun s1=>∀r2:Rnd cx,AW (cx.inR l fl r2) body (zh (fun h' g'=>leH h' (I (xs++ [x])).1∧inH (I (xs++ [x])).1 (idsH (I (xs++ [x])).1)∧g'=(I (xs++ [x])).2) J) s1)
   { t:=zaX ps.toList x (keepT (I xs).1 s.t),h:=(I xs).1,g:=(I xs).2 })
  (hdone:∀h1,Kit (some items) h1→Q .normal { t:=keepT (h1++(I items).1) s.t,h:=h1++(I items).1,g:=(I items).2 })
  (hstop:∀c h1 h3 g3,Kit none h1→J c h3 g3→AW cx c Q { t:=keepT (h1++h3) s.t,h:=h1++h3,g:=g3 }):
  AW cx (.rangeFunc g ps assign body) Q s:=
 zgh p I J hro hg hcle hen (fun E0 w0 ds rec pf qc hs0 hfs hcs hmk y hy=>by
  obtain ⟨S,hitS,hSI,hSJ⟩:=hit E0 w0 pf qc hs0 hfs hcs
  refine hitS y fun g M N A w hG=>?_
  rw [hy] at hG
  cases g with
  |some xs=>
   simp only [zaz] at hG
   obtain ⟨E3,k,hrl⟩:=hG
   exact hSI xs E3 w k.hp (fun i hi hh=>(k.far.go i hi hh).2)
  |none=>
   simp only [zaz] at hG
   obtain ⟨E3,c,h3,g3,k,hrl,hj⟩:=hG
   exact hSJ c h3 g3 hj E3 w k.hp (fun i hi hh=>(k.far.go i hi hh).2))
  hfl hfc hcl hids hI hIn hIg hnames hJ hK1 (fun x hx _=>hlen x hx) hps (fun xs x _=>hround xs x) hdone hstop
theorem zdV {g:Operand} {ps:Array Tmp} {assign body:Code} {f:FuncId} {fs caps:List AV} {fl:Nat} {items:List (List AV)} {Kit:Option (List (List AV))→AHeap→Prop} (p:Nat→Bool) (I:List (List AV)→AHeap×Option (List (List AV))) (J:Code→AHeap→Option (List (List AV))→Prop)
  (hro:cx.lone=true) (hg:s.ev g=(true,.fn (.func f) fs caps)) (hit:AIter cx.P f fl fs caps (hsel p s.h) items Kit)
  (hfl:∀i,(hget s.h i).isSome→i<fl) (hfc:cx.fl≤fl) (hcl:Closed p s.h) (hids:∀j∈AV.idsL fs++AV.idsL caps,p j=true)
  (hI:leH (hsel (fun i=> !p i) s.h) (I []).1) (hIn:inH (I []).1 (idsH (I []).1)) (hIg:(I []).2=s.g)
  (hnames:∀xs,xs<+:items→∀i,(hget (I xs).1 i).isSome→p i=false) (hJ:∀c h3 g3,J c h3 g3→∀i,(hget h3 i).isSome→p i=false) (hK1:∀g h',Kit g h'→(∀i,(hget h' i).isSome→p i=true)∧(∀xs,g=some xs→xs=items))
  (hlen:∀x∈items,x.length=ps.size) (hps:∀t∈ps.toList,t<cx.nt)
  (hround:∀xs x,(xs++ [x])<+:items→∀ (l:Nat) (r1:Rnd cx),AW (cx.inR l fl r1) assign (AsgK fun s1=>∀r2:Rnd cx,AW (cx.inR l fl r2) body (zh (fun h' g'=>leH h' (I (xs++ [x])).1∧inH (I (xs++ [x])).1 (idsH (I (xs++ [x])).1)∧g'=(I (xs++ [x])).2) J) s1)
   { t:=zaX ps.toList x (keepT (I xs).1 s.t),h:=(I xs).1,g:=(I xs).2 })
  (hdone:∀h1,Kit (some items) h1→Q .normal { t:=keepT (h1++(I items).1) s.t,h:=h1++(I items).1,g:=(I items).2 })
  (hstop:∀c h1 h3 g3,Kit none h1→J c h3 g3→AW cx c Q { t:=keepT (h1++h3) s.t,h:=h1++h3,g:=g3 }):
  AW cx (.rangeFunc g ps assign body) Q s:=
 zc7 p I J hro hg (AV.leL_refl _) hit.1 (fun E0 w0 pf qc _ _ _=>⟨fun _=>True,fun y _ E w hs hf hc hy=>hit.2 y E w pf qc hs hf hc hy,fun _ _ _ _ _=>trivial,fun _ _ _ _ _ _ _ _=>trivial⟩)
  hfl hfc hcl hids hI hIn hIg hnames hJ hK1 hlen hps hround hdone hstop
end
attribute [go_sem] Cx.inR zaX AsgK zh
open Go
def zX:Op→List Operand
 | .move x=> [x]
 | .assign x=> [x]
 | .pick c a b=> [c,a,b]
 | .binOp _ _ x y _=> [x,y]
 | .unOp _ _ x=> [x]
 | .convert _ _ x=> [x]
 | .makeInterface _ x=> [x]
 | .makeFunc _ fs cs=>(fs++cs).toList
 | .field _ x _=> [x]
 | .fieldAddr _ x _=> [x]
 | .indexAddr _ x y=> [x,y]
 | .index _ x y=> [x,y]
 | .slice _ x lo hi mx=>x::(lo.toList++hi.toList++mx.toList)
 | .load _ x=> [x]
 | .nilCheck x=> [x]
 | .range _ x=> [x]
 | .next x _=> [x]
 | .extract x _=> [x]
 | .call c=>(match c.callee with| .value f=> [f]| .invoke f _=> [f]|_=> [])++c.args.toList
 | .box _ x=> [x]
 | .build _ parts=>parts.toList.map (·.2)
 | .buildSlice _ _ parts=>parts.toList.map (·.2)
 | .store _ x y=> [x,y]
 | .makeSlice _ x y=> [x,y]
 | .lookup _ x y _=> [x,y]
 | .typeAssert x _ _ _=> [x]
 | .mapUpdate _ x y z=> [x,y,z]
 |_=> []
def detOp (P:Program):Op→Bool
 | .binOp _ _ _ _ _=>false
 | .lookup _ _ _ _=>false
 | .makeMap _ _=>false
 | .range _ _=>false
 | .next _ _=>false
 | .convert _ d _=>(match (ty P d).td with| .slice _=>false|_=>true)
 |_=>true
def isEff:Op→Bool
 | .alloc _=>true
 | .makeSlice _ _ _=>true
 | .call c=>(match c.callee with| .builtin .append=>true| .builtin .copy=>true| .builtin .clear=>true|_=>false)
 | .box _ _=>true
 | .buildSlice _ _ _=>true
 | .store _ _ _=>true
 | .mapUpdate _ _ _ _=>true
 |_=>false
theorem zlA {P:Program} {s:AS} {c:Call} {q:FuncId×List AV×Prop} (h:z6 P s c=some q):isEff (.call c)=false:=by
 unfold z6 at h
 cases hc:c.callee<;>rw [hc] at h<;>first|cases h;done|simp [isEff,hc]
def fop (cx:Cx) (tab:Tab) (s:AS) (G:Bool) (o:Oper) (R:Bool→AV→AHeap→Prop):Prop:=
 match o.op with
 | .move x=>known s x=true∧R (G&&(s.ev x).1) ((s.ev x).2.tag cx.P o.type) s.h
 | .assign x=>known s x=true∧R (G&&(s.ev x).1) ((s.ev x).2.tag cx.P o.type) s.h
 | .pick c a b=>(match s.ev c with
  |(gc,.d (.bool c))=>(G=true→gc=true∧(c=true→(s.ev a).1=true∧(s.ev a).2.isB=true)∧(c=false→(s.ev b).1=true∧(s.ev b).2.isB=true))∧R G (.d (.bool (bif c then (s.ev a).2.toB else (s.ev b).2.toB))) s.h
  |_=>False)
 | .call c=>if isVal cx.P (.call c) then (G=true→(aval cx.P s (.call c)).1)∧R G (aval cx.P s (.call c)).2 s.h else
  (match z6 cx.P s c with
  |some (f,args,vc)=>(match tab f (args.map (frz 9 s.h)) with
   |some (pre,r)=>(G=true→vc∧pre∧(r.scal=true∨AV.idsL args= []))∧R G r s.h
   |none=>False)
  |none=>G=true∧aeff cx.fl cx.P s (.call c) (fun r h'=>R true r h'))
 |op=>if isVal cx.P op then (G=true→(aval cx.P s op).1)∧R G (aval cx.P s op).2 s.h else G=true∧detOp cx.P op=true∧aeff cx.fl cx.P s op (fun r h'=>R true r h')
section
variable {cx : Cx} {tab : Tab} {P : Program} {s s' : AS}
theorem zkg {fl:Nat} {op:Op} {K:AV→AHeap→Prop} (hdet:detOp P op=true) (h:zH fl P s op K):∃r h',K r h'∧(∀K',K' r h'→zH fl P s op K')∧(isEff op=false→h'=s.h):=by
 unfold zH at h
 split at h
 ·rename_i src dt x
  split at h
  ·rename_i e hs hd
   split at h
   ·rename_i g l hx
    exact ⟨_,_,h.2.2,fun K' hk=>by unfold zH;dsimp only;rw [hs,hd];dsimp only;rw [hx];exact ⟨h.1,h.2.1,hk⟩,fun e=>by simp [detOp,hd] at hdet⟩
   ·exact h.elim
  ·rename_i e hs hd
   split at h
   ·rename_i rows hr
    exact ⟨_,_,h.2.2.2,fun K' hk=>by unfold zH;dsimp only;rw [hs,hd];dsimp only;rw [hr];exact ⟨h.1,h.2.1,h.2.2.1,hk⟩,fun _=>rfl⟩
   ·exact h.elim
  ·exact h.elim
 ·cases hdet
 ·rename_i t l c
  split at h
  ·rename_i e gl n gc m ht hl hc
   obtain ⟨h1,h2,h3,h4,h5,h6,h7,h8,h9,h⟩:=h
   split at h
   ·rename_i z hz
    exact ⟨_,_,h,fun K' hk=>by unfold zH;dsimp only;rw [ht,hl,hc];dsimp only;rw [hz];exact ⟨h1,h2,h3,h4,h5,h6,h7,h8,h9,hk⟩,fun e=>by cases e⟩
   ·exact h.elim
  ·exact h.elim
 ·cases hdet
 ·cases hdet
 ·cases hdet
 ·rename_i t m k v
  split at h
  ·rename_i kt et gm i gk kd gv vd ht hm hk hv
   obtain ⟨h1,h2,h3,h4,h⟩:=h
   split at h
   ·rename_i es hes
    exact ⟨_,_,h.2.2,fun K' hk'=>by unfold zH;dsimp only;rw [ht,hm,hk,hv];dsimp only;refine ⟨h1,h2,h3,h4,?_⟩;rw [hes];exact ⟨h.1,h.2.1,hk'⟩,fun e=>by cases e⟩
   ·exact h.elim
  ·exact h.elim
 ·rename_i c
  split at h
  ·rename_i hcal
   split at h
   ·rename_i x y t u ha ht
    split at h
    ·rename_i e hte
     obtain ⟨h1,h2,h3,h4,h5,h⟩:=h
     split at h
     ·rename_i rows hr
      split at h
      ·rename_i k hx
       exact ⟨_,_,h.2.2,fun K' hk=>by unfold zH;dsimp only;rw [hcal];dsimp only;rw [ha,ht];dsimp only;rw [hte];refine ⟨h1,h2,h3,h4,h5,?_⟩;rw [hr];dsimp only;rw [hx];exact ⟨h.1,h.2.1,hk⟩,fun e=>by simp [isEff,hcal] at e⟩
      ·rename_i i k m off len hx
       split at h
       ·rename_i k' xs hi
        obtain ⟨g1,g2,g3,g4,h⟩:=h
        by_cases hlm:len=m
        ·rw [if_pos hlm] at h
         obtain ⟨g6,g7,h⟩:=h
         exact ⟨_,_,h,fun K' hk=>by unfold zH;dsimp only;rw [hcal];dsimp only;rw [ha,ht];dsimp only;rw [hte];refine ⟨h1,h2,h3,h4,h5,?_⟩;rw [hr];dsimp only;rw [hx];dsimp only;rw [hi];refine ⟨g1,g2,g3,g4,?_⟩;rw [if_pos hlm];exact ⟨g6,g7,hk⟩,fun e=>by simp [isEff,hcal] at e⟩
        ·rw [if_neg hlm] at h
         obtain ⟨g6,h⟩:=h
         exact ⟨_,_,h,fun K' hk=>by unfold zH;dsimp only;rw [hcal];dsimp only;rw [ha,ht];dsimp only;rw [hte];refine ⟨h1,h2,h3,h4,h5,?_⟩;rw [hr];dsimp only;rw [hx];dsimp only;rw [hi];refine ⟨g1,g2,g3,g4,?_⟩;rw [if_neg hlm];exact ⟨g6,hk⟩,fun e=>by simp [isEff,hcal] at e⟩
       ·exact h.elim
      ·exact h.elim
     ·exact h.elim
    ·exact h.elim
   ·exact h.elim
  ·rename_i hcal
   split at h
   ·rename_i x y t u ha ht
    split at h
    ·rename_i e hte
     obtain ⟨h1,h2,h3,h4,h⟩:=h
     split at h
     ·rename_i rows hr
      split at h
      ·rename_i i k m off len hx
       split at h
       ·rename_i k' xs hi
        obtain ⟨g1,g2,g3,g4,g5,h⟩:=h
        exact ⟨_,_,h,fun K' hk=>by unfold zH;dsimp only;rw [hcal];dsimp only;rw [ha,ht];dsimp only;rw [hte];refine ⟨h1,h2,h3,h4,?_⟩;rw [hr];dsimp only;rw [hx];dsimp only;rw [hi];exact ⟨g1,g2,g3,g4,g5,hk⟩,fun e=>by simp [isEff,hcal] at e⟩
       ·exact h.elim
      ·exact h.elim
     ·exact h.elim
    ·exact h.elim
   ·exact h.elim
  ·rename_i hcal
   split at h
   ·rename_i x t ha ht
    split at h
    ·rename_i e hte
     obtain ⟨h1,h2,h3,h4,h⟩:=h
     split at h
     ·rename_i z hz
      split at h
      ·rename_i i k m off len hx
       split at h
       ·rename_i k' xs hi
        obtain ⟨g1,g2,g3,g4,h⟩:=h
        exact ⟨_,_,h,fun K' hk=>by unfold zH;dsimp only;rw [hcal];dsimp only;rw [ha,ht];dsimp only;rw [hte];refine ⟨h1,h2,h3,h4,?_⟩;rw [hz];dsimp only;rw [hx];dsimp only;rw [hi];exact ⟨g1,g2,g3,g4,hk⟩,fun e=>by simp [isEff,hcal] at e⟩
       ·exact h.elim
      ·exact h.elim
     ·exact h.elim
    ·exact h.elim
   ·exact h.elim
  ·exact h.elim
 ·exact h.elim
theorem zjh {fl:Nat} {op:Op} {K:AV→AHeap→Prop} (hdet:detOp P op=true) (h:aeff fl P s op K):∃r h',K r h'∧(∀K',K' r h'→aeff fl P s op K')∧(isEff op=false→h'=s.h):=by
 unfold aeff at h
 split at h
 ·exact ⟨_,_,h.2,fun K' hk=>by unfold aeff;exact ⟨h.1,hk⟩,fun e=>by cases e⟩
 ·exact ⟨_,_,h.2.2,fun K' hk=>by unfold aeff;exact ⟨h.1,h.2.1,hk⟩,fun e=>by cases e⟩
 ·rename_i t parts
  obtain ⟨h1,h2,h3⟩:=h
  split at h3
  ·rename_i fs hf
   exact ⟨_,_,h3.2.2,fun K' hk=>by unfold aeff;dsimp only;rw [hf];exact ⟨h1,h2,h3.1,h3.2.1,hk⟩,fun _=>rfl⟩
  ·rename_i n e hf
   exact ⟨_,_,h3.2.2,fun K' hk=>by unfold aeff;dsimp only;rw [hf];exact ⟨h1,h2,h3.1,h3.2.1,hk⟩,fun _=>rfl⟩
  ·exact h3.elim
 ·rename_i t len parts
  split at h
  ·rename_i e hf
   obtain ⟨h1,h2,h3,h4,h5,h6,h7⟩:=h
   split at h7
   ·rename_i ds hds
    exact ⟨_,_,h7,fun K' hk=>by unfold aeff;dsimp only;rw [hf];refine ⟨h1,h2,h3,h4,h5,h6,?_⟩;rw [hds];exact hk,fun e=>by cases e⟩
   ·rename_i hds
    exact ⟨_,_,h7.2,fun K' hk=>by unfold aeff;dsimp only;rw [hf];refine ⟨h1,h2,h3,h4,h5,h6,?_⟩;rw [hds];exact ⟨h7.1,hk⟩,fun e=>by cases e⟩
  ·exact h.elim
 ·rename_i t x y
  obtain ⟨h1,h2,h3,h4,h5,h6⟩:=h
  split at h6
  ·rename_i i o hx
   split at h6
   ·rename_i cs hi
    exact ⟨_,_,h6.2,fun K' hk=>by unfold aeff;dsimp only;refine ⟨h1,h2,h3,h4,h5,?_⟩;rw [hx];dsimp only;rw [hi];exact ⟨h6.1,hk⟩,fun e=>by cases e⟩
   ·exact h6.elim
  ·rename_i i o hx
   split at h6
   ·rename_i tt cs hi
    exact ⟨_,_,h6.2,fun K' hk=>by unfold aeff;dsimp only;refine ⟨h1,h2,h3,h4,h5,?_⟩;rw [hx];dsimp only;rw [hi];exact ⟨h6.1,hk⟩,fun e=>by cases e⟩
   ·exact h6.elim
  ·rename_i i n k r o hx
   split at h6
   ·rename_i k' xs hi
    obtain ⟨g1,g2,g3,g4,g5⟩:=h6
    split at g5
    ·rename_i ds hds
     exact ⟨_,_,g5,fun K' hk=>by unfold aeff;dsimp only;refine ⟨h1,h2,h3,h4,h5,?_⟩;rw [hx];dsimp only;rw [hi];refine ⟨g1,g2,g3,g4,?_⟩;rw [hds];exact hk,fun e=>by cases e⟩
    ·exact g5.elim
   ·exact h6.elim
  ·exact h6.elim
 ·rename_i op n1 n2 n3 n4 n5
  obtain ⟨r,h',q1,q2,q3⟩:=zkg hdet h
  refine ⟨r,h',q1,fun K' hk=>?_,q3⟩
  have:=q2 K' hk
  unfold aeff
  split
  ·rename_i t;exact (n1 t rfl).elim
  ·rename_i t x;exact (n2 t x rfl).elim
  ·rename_i t x;exact (n3 t x rfl).elim
  ·rename_i t x y;exact (n4 t x y rfl).elim
  ·rename_i t x y;exact (n5 t x y rfl).elim
  ·exact this
theorem zE {G:Bool} {o:Oper} {R:Bool→AV→AHeap→Prop} (n1:∀x,o.op= .move x→False) (n2:∀x,o.op= .assign x→False) (n3:∀x y z,o.op= .pick x y z→False) (n4:∀c,o.op= .call c→False):
  fop cx tab s G o R↔(if isVal cx.P o.op=true then (G=true→(aval cx.P s o.op).1)∧R G (aval cx.P s o.op).2 s.h else G=true∧detOp cx.P o.op=true∧aeff cx.fl cx.P s o.op (fun r h'=>R true r h')):=by
 unfold fop
 split
 ·rename_i x ho;exact (n1 x ho).elim
 ·rename_i x ho;exact (n2 x ho).elim
 ·rename_i x y z ho;exact (n3 x y z ho).elim
 ·rename_i x ho;exact (n4 x ho).elim
 ·exact Iff.rfl
theorem zpd {G:Bool} {o:Oper} {R:Bool→AV→AHeap→Prop} (h:fop cx tab s G o R):∃g v h',R g v h'∧(∀R':Bool→AV→AHeap→Prop,R' g v h'→fop cx tab s G o R')∧(isEff o.op=false→h'=s.h):=by
 unfold fop at h
 split at h
 ·rename_i x ho
  exact ⟨_,_,_,h.2,fun R' hk=>by unfold fop;rw [ho];exact ⟨h.1,hk⟩,fun _=>rfl⟩
 ·rename_i x ho
  exact ⟨_,_,_,h.2,fun R' hk=>by unfold fop;rw [ho];exact ⟨h.1,hk⟩,fun _=>rfl⟩
 ·rename_i c a b ho
  split at h
  ·rename_i g1 c1 h1
   exact ⟨_,_,_,h.2,fun R' hk=>by unfold fop;rw [ho];dsimp only;rw [h1];exact ⟨h.1,hk⟩,fun _=>rfl⟩
  ·exact h.elim
 ·rename_i c ho
  split at h
  ·rename_i hv
   exact ⟨_,_,_,h.2,fun R' hk=>by unfold fop;rw [ho];dsimp only;rw [if_pos hv];exact ⟨h.1,hk⟩,fun _=>rfl⟩
  ·rename_i hv
   split at h
   ·rename_i f args vc hc
    split at h
    ·rename_i pre r ht
     exact ⟨_,_,_,h.2,fun R' hk=>by unfold fop;rw [ho];dsimp only;rw [if_neg hv,hc];dsimp only;rw [ht];exact ⟨h.1,hk⟩,fun _=>rfl⟩
    ·exact h.elim
   ·rename_i hc
    obtain ⟨rfl,h⟩:=h
    obtain ⟨r,h',q1,q2,q3⟩:=zjh rfl h
    exact ⟨true,r,h',q1,fun R' hk=>by unfold fop;rw [ho];dsimp only;rw [if_neg hv,hc];exact ⟨rfl,q2 _ hk⟩,by rw [ho];exact q3⟩
 ·rename_i n1 n2 n3 n4
  split at h
  ·rename_i hv
   refine ⟨_,_,_,h.2,fun R' hk=>?_,fun _=>rfl⟩
   unfold fop
   split
   ·rename_i x ho;exact (n1 x ho).elim
   ·rename_i x ho;exact (n2 x ho).elim
   ·rename_i x y z ho;exact (n3 x y z ho).elim
   ·rename_i x ho;exact (n4 x ho).elim
   ·rw [if_pos hv];exact ⟨h.1,hk⟩
  ·rename_i hv
   obtain ⟨rfl,hdt,h⟩:=h
   obtain ⟨r,h',q1,q2,q3⟩:=zjh hdt h
   refine ⟨true,r,h',q1,fun R' hk=>?_,q3⟩
   unfold fop
   split
   ·rename_i x ho;exact (n1 x ho).elim
   ·rename_i x ho;exact (n2 x ho).elim
   ·rename_i x y z ho;exact (n3 x y z ho).elim
   ·rename_i x ho;exact (n4 x ho).elim
   ·rw [if_neg hv];exact ⟨rfl,hdt,q2 _ hk⟩
theorem znD {G:Bool} {o:Oper} {K:AS→Prop} (hd:dstOk cx.nt o.dst) (h:fop cx tab s G o (fun g v h'=>K ({ s with h:=h' }.put o.dst g v))):aopT cx tab G o K s:=by
 unfold fop at h
 split at h
 ·rename_i x ho
  unfold aopT;rw [ho];dsimp only;rw [if_pos (show zbd cx.P _=true from rfl)];unfold aop;rw [ho];exact ⟨hd,h⟩
 ·rename_i x ho
  unfold aopT;rw [ho];dsimp only;rw [if_pos (show zbd cx.P _=true from rfl)];unfold aop;rw [ho];exact ⟨hd,h⟩
 ·rename_i c a b ho
  unfold aopT;rw [ho];dsimp only;rw [if_pos (show zbd cx.P _=true from rfl)];unfold aop;rw [ho]
  refine ⟨hd,?_⟩
  dsimp only
  split at h
  ·rename_i g1 c1 h1
   rw [h1];exact h
  ·exact h.elim
 ·rename_i c ho
  unfold aopT;rw [ho];dsimp only
  split at h
  ·rename_i hv
   rw [if_pos hv];unfold aop;rw [ho];dsimp only;rw [if_pos hv];exact ⟨hd,h⟩
  ·rename_i hv
   rw [if_neg hv]
   split at h
   ·rename_i f args vc hc
    rw [hc]
    dsimp only
    split at h
    ·rename_i pre r ht
     rw [ht];exact ⟨hd,h⟩
    ·exact h.elim
   ·rename_i hc
    rw [hc]
    obtain ⟨rfl,h⟩:=h
    refine ⟨hd,?_⟩
    rw [if_pos rfl]
    unfold aop1
    rw [ho];dsimp only
    rw [if_neg hv,hc]
    exact h
 ·rename_i n1 n2 n3 n4
  have hq:zbd cx.P o.op=isVal cx.P o.op:=by
   unfold zbd
   split
   ·rename_i x ho;exact (n1 x ho).elim
   ·rename_i x ho;exact (n2 x ho).elim
   ·rename_i x y z ho;exact (n3 x y z ho).elim
   ·rfl
  have e1:aopT cx tab G o K s=if zbd cx.P o.op then aop cx G o K s else aopS cx G o K s:=by
   unfold aopT
   split
   ·rename_i x ho;exact (n4 x ho).elim
   ·rfl
  rw [e1,hq]
  split at h
  ·rename_i hv
   rw [if_pos hv]
   refine ⟨hd,?_⟩
   split
   ·rename_i x ho;exact (n1 x ho).elim
   ·rename_i x ho;exact (n2 x ho).elim
   ·rename_i x y z ho;exact (n3 x y z ho).elim
   ·rw [if_pos hv];exact h
  ·rename_i hv
   rw [if_neg hv]
   obtain ⟨rfl, -,h⟩:=h
   refine ⟨hd,?_⟩
   rw [if_pos rfl]
   unfold aop1
   split
   ·rename_i x ho;exact (n1 x ho).elim
   ·rename_i x ho;exact (n2 x ho).elim
   ·rename_i x y z ho;exact (n3 x y z ho).elim
   ·rename_i x ho;exact (n4 x ho).elim
   ·rw [if_neg hv];exact h
theorem zqa {i:Nat} (hh:s.h=s'.h):s.esOf i=s'.esOf i:=by unfold AS.esOf;rw [hh]
theorem zkh {t:TypeId} {x y:AV} {ok:Bool} (hh:s.h=s'.h):zav P s t x y ok=zav P s' t x y ok:=by unfold zav AS.esOf;rw [hh]
theorem znE {t:TypeId} {x:AV} (hh:s.h=s'.h):zbi P s t x=zbi P s' t x:=by unfold zbi;rw [hh]
theorem zgi {t:TypeId} {x:AV} {f:Nat} (hh:s.h=s'.h):zM P s t x f=zM P s' t x f:=by unfold zM AS.cur;rw [hh]
theorem zgj {t:TypeId} {x y:AV} (hh:s.h=s'.h):zN P s t x y=zN P s' t x y:=by unfold zN AS.cur;rw [hh]
theorem zpe {t:TypeId} {x:AV} (hh:s.h=s'.h):avLen P s t x=avLen P s' t x:=by unfold avLen AS.cur;rw [hh]
theorem bnd_e {x:Option Operand} {d:Int} (he:∀y∈x.toList,s.ev y=s'.ev y):s.bnd x d=s'.bnd x d:=by
 cases x with
 |none=>rfl
 |some y=>simp only [AS.bnd,he y (by simp)]
theorem all_e {l:List Operand} (he:∀y∈l,s.ev y=s'.ev y):(l.all fun x=>(s.ev x).1)=l.all fun x=>(s'.ev x).1:=by
 induction l with
 |nil=>rfl
 |cons a l ih=>simp only [List.all_cons,he a (by simp),ih (fun y hy=>he y (by simp [hy]))]
theorem map_e {l:List Operand} (he:∀y∈l,s.ev y=s'.ev y):(l.map fun x=>(s.ev x).2)=l.map fun x=>(s'.ev x).2:=List.map_congr_left fun y hy=>by rw [he y hy]
theorem zip_e {l:List Operand} (he:∀y∈l,s.ev y=s'.ev y) (ts:List TypeId):((l.zip ts).map fun p=>(s.ev p.1).2.tag P p.2)=(l.zip ts).map fun p=>(s'.ev p.1).2.tag P p.2:=
 List.map_congr_left fun p hp=>by rw [he p.1 (List.of_mem_zip hp).1]
theorem zoH {l:List (Nat×Operand)} (he:∀y∈l.map (·.2),s.ev y=s'.ev y):(l.all fun p=>(s.ev p.2).1)=l.all fun p=>(s'.ev p.2).1:=by
 induction l with
 |nil=>rfl
 |cons a l ih=>simp only [List.all_cons,he a.2 (by simp),ih (fun y hy=>he y (by simp only [List.map_cons,List.mem_cons];exact .inr hy))]
theorem zoI {l:List (Nat×Operand)} (he:∀y∈l.map (·.2),s.ev y=s'.ev y) (f:Nat→TypeId):(l.map fun p=>(p.1,((s.ev p.2).2.tag P (f p.1))))=l.map fun p=>(p.1,((s'.ev p.2).2.tag P (f p.1))):=
 List.map_congr_left fun p hp=>by rw [he p.2 (List.mem_map.2 ⟨p,hp,rfl⟩)]
end
open Go
section
variable {cx : Cx} {tab : Tab} {P : Program} {s s' : AS}
theorem zlB {t:TypeId} {x:AV} {lo hi mx:Option Operand} (hl:∀y∈lo.toList,s.ev y=s'.ev y) (hhi:∀y∈hi.toList,s.ev y=s'.ev y) (hm:∀y∈mx.toList,s.ev y=s'.ev y) (hh:s.h=s'.h):za1 P s t x lo hi mx=za1 P s' t x lo hi mx:=by
 unfold za1
 cases mx<;>simp only [bnd_e hl,bnd_e hhi,bnd_e hm,AS.cur,hh]
theorem znF {c:Call} (he:∀y∈c.args.toList,s.ev y=s'.ev y) (hh:s.h=s'.h):zb1 P s c=zb1 P s' c:=by
 have hm:c.args.toList.map s.ev=c.args.toList.map s'.ev:=List.map_congr_left he
 unfold zb1
 rw [hm]
 split
 ·split
  ·rename_i x t hx ht
   rw [he x (by rw [hx];simp),zpe hh]
  ·rfl
 ·rfl
 ·rfl
 ·rfl
theorem zoJ {op:Op} (he:∀x∈zX op,s.ev x=s'.ev x) (hh:s.h=s'.h):aval P s op=aval P s' op:=by
 cases op
 case makeFunc f fs cs=>
  simp only [zX,Array.toList_append,List.mem_append] at he
  simp only [aval,Array.toList_append,List.all_append,all_e (fun y hy=>he y (.inl hy)),all_e (fun y hy=>he y (.inr hy)),map_e (fun y hy=>he y (.inl hy)),map_e (fun y hy=>he y (.inr hy))]
 case slice t x lo hi mx=>
  simp only [zX,List.mem_cons,List.mem_append] at he
  simp only [aval,he x (.inl rfl),zlB (fun y hy=>he y (.inr (.inl (.inl hy)))) (fun y hy=>he y (.inr (.inl (.inr hy)))) (fun y hy=>he y (.inr (.inr hy))) hh]
 case call c=>
  simp only [zX,List.mem_append] at he
  simp only [aval,znF (fun y hy=>he y (.inr hy)) hh]
 all_goals
  simp only [zX,List.mem_cons,List.not_mem_nil,or_false,forall_eq_or_imp,forall_eq] at he
  simp only [aval,he,hh,zkh hh,znE hh,zgi hh,zgj hh,AS.cur]
theorem zco {c:Call} (he:∀x∈zX (.call c),s.ev x=s'.ev x):z6 P s c=z6 P s' c:=by
 simp only [zX,List.mem_append] at he
 unfold z6
 split
 ·rename_i f hf
  rw [hf] at he
  rw [he f (.inl (by simp)),all_e (fun y hy=>he y (.inr hy)),zip_e (fun y hy=>he y (.inr hy))]
 ·rename_i f m hf
  rw [hf] at he
  rw [he f (.inl (by simp)),all_e (fun y hy=>he y (.inr hy)),zip_e (fun y hy=>he y (.inr hy))]
 ·rfl
theorem zlC {k:Nat} {x:AV} (hh:s.h=s'.h):rowsK s k x=rowsK s' k x:=by unfold rowsK;rw [hh]
theorem zlD {k:Nat} {t:TypeId} {x:AV} (hh:s.h=s'.h):rowsT P s k t x=rowsT P s' k t x:=by unfold rowsT;rw [zlC hh]
theorem zlE {x:AV} {R:Bool→Prop} (hh:s.h=s'.h):zb3 s x R=zb3 s' x R:=by unfold zb3 AS.cur;rw [hh]
theorem znG {fl:Nat} {op:Op} {K:AV→AHeap→Prop} (he:∀x∈zX op,s.ev x=s'.ev x) (hh:s.h=s'.h) (h:zH fl P s op K):zH fl P s' op K:=by
  cases op
  case call c=>
    simp only [zX,List.mem_append] at he
    unfold zH at h ⊢
    dsimp only at h ⊢
    split at h
    · rename_i hcal
      try rw [hcal]
      try dsimp only
      split at h
      · rename_i x y t u ha ht
        try rw [ha,ht]
        try dsimp only
        rw [ha] at he
        rw [← he x (.inr (by simp)),← he y (.inr (by simp)),← hh]
        split at h
        · rename_i e hte
          try rw [hte]
          try dsimp only
          rw [← zlD hh]
          exact h
        · exact h.elim
      · exact h.elim
    · rename_i hcal
      try rw [hcal]
      try dsimp only
      split at h
      · rename_i x y t u ha ht
        try rw [ha,ht]
        try dsimp only
        rw [ha] at he
        rw [← he x (.inr (by simp)),← he y (.inr (by simp)),← hh]
        split at h
        · rename_i e hte
          try rw [hte]
          try dsimp only
          rw [← zlD hh]
          exact h
        · exact h.elim
      · exact h.elim
    · rename_i hcal
      try rw [hcal]
      try dsimp only
      split at h
      · rename_i x t ha ht
        try rw [ha,ht]
        try dsimp only
        rw [ha] at he
        rw [← he x (.inr (by simp)),← hh]
        split at h
        · rename_i e hte
          try rw [hte]
          try dsimp only
          exact h
        · exact h.elim
      · exact h.elim
    · exact h.elim
  all_goals first
    | (simp only [zX,List.mem_cons,List.not_mem_nil,or_false,forall_eq_or_imp,forall_eq] at he
       simp only [zH,he,hh,zqa hh,zlC hh,zlE hh] at h ⊢ <;>exact h)
    |(simp only [zH,hh] at h ⊢ <;>exact h)
theorem zoK {fl:Nat} {op:Op} {K:AV→AHeap→Prop} (he:∀x∈zX op,s.ev x=s'.ev x) (hh:s.h=s'.h) (h:aeff fl P s op K):aeff fl P s' op K:=by
  cases op
  case build t parts=>
    simp only [zX] at he
    have e1:=zoH he
    have e2:∀f:Nat→TypeId,(parts.toList.map fun p=>(p.1,((s.ev p.2).2.tag P (f p.1))))=parts.toList.map fun p=>(p.1,((s'.ev p.2).2.tag P (f p.1))):=fun f=>zoI he f
    simp only [aeff] at h ⊢
    rw [← e1,← hh]
    refine ⟨h.1,h.2.1,?_⟩
    have h3:=h.2.2
    split at h3
    · rename_i fs hf
      rw [← e2 (fun i=>(fs.getD i (0,0)).2)]
      exact h3
    · rename_i n e hf
      rw [← e2 (fun _=>e)]
      exact h3
    · exact h3
  case buildSlice t len parts=>
    simp only [zX] at he
    have e1:=zoH he
    have e2:∀f:Nat→TypeId,(parts.toList.map fun p=>(p.1,((s.ev p.2).2.tag P (f p.1))))=parts.toList.map fun p=>(p.1,((s'.ev p.2).2.tag P (f p.1))):=fun f=>zoI he f
    simp only [aeff] at h ⊢
    split at h
    · rename_i e hf
      rw [← e1,← hh,← e2 (fun _=>e)]
      exact h
    · exact h
  all_goals first
    |(have h2:=znG (fl:=fl) (K:=K) he hh (by simpa only [aeff] using h);simpa only [aeff] using h2)
    | (simp only [zX,List.mem_cons,List.not_mem_nil,or_false,forall_eq_or_imp,forall_eq] at he
       simp only [aeff,he,hh] at h ⊢ <;>exact h)
    |(simp only [aeff,hh] at h ⊢ <;>exact h)
theorem fop_e {G:Bool} {o:Oper} {R:Bool→AV→AHeap→Prop} (he:∀x∈zX o.op,s.ev x=s'.ev x∧known s x=known s' x) (hh:s.h=s'.h) (h:fop cx tab s G o R):fop cx tab s' G o R:=by
 have he1:∀x∈zX o.op,s.ev x=s'.ev x:=fun x hx=>(he x hx).1
 unfold fop at h
 split at h
 ·rename_i x ho
  rw [ho] at he
  have:=he x (by simp [zX])
  rw [this.1,this.2,hh] at h
  unfold fop;rw [ho];exact h
 ·rename_i x ho
  rw [ho] at he
  have:=he x (by simp [zX])
  rw [this.1,this.2,hh] at h
  unfold fop;rw [ho];exact h
 ·rename_i c a b ho
  rw [ho] at he1
  simp only [zX,List.mem_cons,List.not_mem_nil,or_false,forall_eq_or_imp,forall_eq] at he1
  rw [he1.1,he1.2.1,he1.2.2,hh] at h
  unfold fop;rw [ho];exact h
 ·rename_i c ho
  rw [ho] at he1
  have hae:∀ (K:AV→AHeap→Prop),aeff cx.fl cx.P s (.call c) K→aeff cx.fl cx.P s' (.call c) K:=fun K hk=>zoK he1 hh hk
  rw [zoJ he1 hh,zco he1,hh] at h
  unfold fop;rw [ho];dsimp only
  split at h
  ·rename_i hv;rw [if_pos hv];exact h
  ·rename_i hv
   rw [if_neg hv]
   split at h
   ·exact h
   ·exact ⟨h.1,hae _ h.2⟩
 ·rename_i n1 n2 n3 n4
  rw [zoJ he1 hh,hh] at h
  refine (zE n1 n2 n3 n4).mpr ?_
  split at h
  ·rename_i hv
   rw [if_pos hv];exact h
  ·rename_i hv
   rw [if_neg hv]
   exact ⟨h.1,h.2.1,zoK he1 hh h.2.2⟩
end
open Go
def anc (ops:Array Oper):Nat→Nat→Nat→Bool
 |0,_,_=>false
 |f+1,j,i=>match ops[j]? with
  |some o=>o.after.toList.any fun e=>Region.binds .any e&&(e.on==i||(decide (i<e.on)&&anc ops f e.on i))
  |none=>false
def gslot (all:Array Oper) (o:Oper):List Nat:=
 match o.guard with
 |some (j,_)=>(match (all[j]?).bind (·.dst) with
  |some d=> [d]
  |none=> [])
 |none=> []
def zgk (all:Array Oper) (o:Oper):List Nat:=
 ((zX o.op).filterMap fun
  | .tmp t=>some t
  |_=>none)++gslot all o
abbrev Res:=Oper×Bool×AV×AHeap
def app (s:AS) (r:Res):AS:= { s with h:=if isEff r.1.op then r.2.2.2 else s.h }.put r.1.dst r.2.1 r.2.2.1
theorem zlF (s:AS) (d:Option Nat) (g:Bool) (v:AV) (k:Nat):lk (s.put d g v).t k=if d=some k then some (g,v) else lk s.t k:=by
 unfold AS.put
 cases d with
 |none=>simp
 |some j=>
  simp only [lk,Option.some.injEq]
section
variable {cx : Cx} {tab : Tab}
theorem Sat.drawn {E:Env} {s:AS} {a:Act} {w:World} (hs:Sat cx E s a w):Sat cx E s a { w with drawn:=w.drawn+1 } where
 slots:=fun k g v hk=>by
  obtain ⟨x,h1,h2,h3⟩:=hs.slots k g v hk
  exact ⟨x,h1,fun e=>Rep.step (W:=w) (W':= { w with drawn:=w.drawn+1 }) (fun _ _ h=>h) (fun _ _ _=>rfl) _ _ (fun j _=>GoesOn.refl E s.h j) (h2 e),h3⟩
 nt:=hs.nt
 hp:=hs.hp.refit ⟨rfl,rfl,rfl,rfl,fun _ _=>rfl,fun _ _ h _ _=>h⟩ (base:=0) rfl rfl (fun _ _ h=>h) (fun b hb=>(hs.hp.own b hb).2) hs.hp.mlt hs.hp.nlt
 base:=hs.base
 marks:=hs.marks
 ghost:=cx.stab _ _ _ _ _ w _ (fun _ _ _=>rfl) (fun _ hb=> .inl hb) (fun b hb=>hb.elim (fun h=>(hs.hp.own b h).1) hs.marks.lt) (Nat.le_refl _) rfl rfl rfl hs.ghost
theorem zbD {ops:Array Oper} {S:Nat→Bool} (hc:∀ (i:Nat) o,ops[i]?=some o→S i=true→∀e∈o.after.toList,Region.binds .any e=true→S e.on=true):∀ (f j i:Nat),anc ops f j i=true→(∀o,ops[j]?=some o→∀e∈o.after.toList,Region.binds .any e=true→S e.on=true)→S i=true
 |0,_,_,h,_=>by cases h
 | f+1,j,i,h,hj=>by
  unfold anc at h
  split at h
  ·rename_i o ho
   obtain ⟨e,he,h⟩:=List.any_eq_true.1 h
   simp only [Bool.and_eq_true,Bool.or_eq_true,beq_iff_eq] at h
   obtain ⟨hb,h⟩:=h
   have hS:=hj o ho e he hb
   rcases h with rfl|⟨_,h⟩
   ·exact hS
   ·exact zbD hc f _ i h (fun o' ho'=>hc _ o' ho' hS)
  ·cases h
theorem znH {s s':AS} {l:List Operand} (h:∀k,k∈(l.filterMap fun| .tmp t=>some t|_=>none)→lk s.t k=lk s'.t k):∀x∈l,s.ev x=s'.ev x∧known s x=known s' x:=by
 intro x hx
 cases x with
 |tmp t=>
  have:=h t (List.mem_filterMap.2 ⟨.tmp t,hx,rfl⟩)
  exact ⟨by simp only [AS.ev,this],by simp only [known,this]⟩
 |_=>exact ⟨rfl,rfl⟩
theorem zir {s s':AS} {all:Array Oper} {o:Oper} (h:∀k∈gslot all o,lk s.t k=lk s'.t k):zaa s all o.guard=zaa s' all o.guard:=by
 unfold gslot at h
 unfold zaa
 cases hg:o.guard with
 |none=>rfl
 | some p=>
  obtain ⟨j,want⟩:=p
  rw [hg] at h
  dsimp only at h ⊢
  cases hj:(all[j]?).bind (·.dst) with
  |none=>rfl
  |some d=>
   rw [hj] at h
   dsimp only at h ⊢
   rw [h d (by simp)]
end
open Go
theorem zji (l:Array Bool) (i k:Nat) (hi:i<l.size):(l.setIfInBounds i true).getD k false=if k=i then true else l.getD k false:=by
 simp only [Array.getD_eq_getD_getElem?]
 by_cases h:k=i
 ·subst h
  rw [if_pos rfl,Array.getElem?_setIfInBounds_self_of_lt hi]
  rfl
 ·rw [if_neg h,Array.getElem?_setIfInBounds_ne (Ne.symm h)]
theorem zhb (l:Array Bool) (i:Nat) (n:Nat) (hi:l[i]?=some false) (hc:l.toList.countP (fun b=>b==false)=n+1):(l.setIfInBounds i true).toList.countP (fun b=>b==false)=n:=by
 obtain ⟨hlt,he⟩:=Array.getElem?_eq_some_iff.1 hi
 rw [Array.toList_setIfInBounds,List.countP_set (by simpa using hlt)]
 have:l.toList[i]'(by simpa using hlt)=false:=by simpa using he
 rw [this,hc]
 simp
section
variable {cx : Cx} {tab : Tab} {ops : Array Oper}
end
attribute [go_sem] fop detOp
open Go
inductive Foot where
 |cold|on (i:Nat)|new (i:Nat)|whole
 deriving DecidableEq
def footA:AV→Foot
 | .vp _ _=> .cold
 | .tp _ _=> .cold
 | .dp _=> .cold
 | .d _=> .cold
 | .vsl _ _ _ _=> .cold
 | .ap i _ _ _ _=> .on i
 | .osl i _ _ _ _=> .on i
 |_=> .whole
def footL:AV→Foot
 | .vp i _=> .on i
 | .tp i _=> .on i
 | .dp _=> .cold
 | .ap i _ _ _ _=> .on i
 |_=> .whole
def foot (fl:Nat) (P:Program) (s:AS) (op:Op):Foot:=
 match op with
 | .alloc _=> .new (fresh fl s.h)
 | .call c=>(match z6 P s c with
  |some (_,args,_)=>if AV.idsL args= [] then .cold else .whole
  |none=> .whole)
 | .move _=> .cold
 | .assign _=> .cold
 | .pick _ _ _=> .cold
 | .binOp o t x y u=>if isVal P (.binOp o t x y u) then .cold else .whole
 | .unOp _ _ _=> .cold
 | .extract _ _=> .cold
 | .makeFunc _ _ _=> .cold
 | .field _ _ _=> .cold
 | .fieldAddr _ x _=>footA (s.ev x).2
 | .nilCheck x=>footA (s.ev x).2
 | .indexAddr _ x _=>footA (s.ev x).2
 | .load _ x=>footL (s.ev x).2
 | .store _ x _=>(match (s.ev x).2 with
  | .vp i _=> .on i
  | .tp i _=> .on i
  | .ap i _ _ _ _=> .on i
  |_=> .whole)
 |_=> .whole
theorem zc8:∀ {h:AHeap} {j:Nat} {o:AObj},hget h j=none→hset h j o=h
  | [],_,_,_=>rfl
  | (k,x)::r,j,o,hn=>by
    simp only [hget] at hn
    simp only [hset]
    split
    · rename_i e;rw [if_pos e] at hn;cases hn
    · rename_i e
      rw [if_neg e] at hn
      rw [zc8 hn]
theorem zhc:∀ (h:AHeap) {i j:Nat} {a b:AObj},i≠j→hset (hset h i a) j b=hset (hset h j b) i a
  | [],i,j,a,b,_=>rfl
  | (k, x)::r,i,j,a,b,hne=>by
    by_cases h1:k=i
    · subst h1
      simp [hset,hne]
    · by_cases h2:k=j
      · subst h2
        simp [hset,h1]
      · simp [hset,h1,h2,zhc r hne]
section
variable {cx : Cx} {tab : Tab} {s : AS}
theorem zec {k:AHeap} {i n kk:Nat} (e:hget k i=hget s.h i):AS.cur { s with h:=k } i n kk=AS.cur s i n kk:=by unfold AS.cur;dsimp only;rw [e]
theorem zbV {P:Program} {t:TypeId} {x y:AV} {k:AHeap} (hf:footA x= .cold∨∃i,footA x= .on i∧hget k i=hget s.h i):zN P { s with h:=k } t x y=zN P s t x y:=by
 unfold zN
 cases y with
 | d z=>
  cases z with
  | int kk j=>
   dsimp only
   generalize (ty P t).td=dd
   cases x with
   | osl i k' n off len=>
    have e:hget k i=hget s.h i:=by
     rcases hf with h|⟨j,h,e⟩
     ·cases h
     ·simp only [footA,Foot.on.injEq] at h;subst h;exact e
    cases dd<;>first|rfl|simp only [zec e]
   | ap i n k' r off=>
    have e:hget k i=hget s.h i:=by
     rcases hf with h|⟨j,h,e⟩
     ·cases h
     ·simp only [footA,Foot.on.injEq] at h;subst h;exact e
    cases dd<;>first|rfl|simp only [zec e]
   |d z=>cases dd<;>cases z<;>rfl
   |_=>cases dd<;>rfl
  |_=>rfl
 |_=>rfl
theorem zbW {P:Program} {t:TypeId} {x:AV} {f:Nat} {k:AHeap} (hf:footA x= .cold∨∃i,footA x= .on i∧hget k i=hget s.h i):zM P { s with h:=k } t x f=zM P s t x f:=by
 unfold zM
 split
 ·cases x with
  | ap i n k' r off=>
   have e:hget k i=hget s.h i:=by
    rcases hf with h|⟨j,h,e⟩
    ·cases h
    ·simp only [footA,Foot.on.injEq] at h;subst h;exact e
   simp only [zec e]
  |_=>rfl
 ·rfl
theorem zfC {P:Program} {x:Operand} {k:AHeap} (hf:footA (s.ev x).2= .cold∨∃i,footA (s.ev x).2= .on i∧hget k i=hget s.h i):aval P { s with h:=k } (.nilCheck x)=aval P s (.nilCheck x):=by
 have hev:AS.ev { s with h:=k } x=s.ev x:=by cases x<;>rfl
 simp only [aval,hev]
 generalize s.ev x=q at hf ⊢
 obtain ⟨g,v⟩:=q
 cases v with
 | ap i n k' r off=>
  have e:hget k i=hget s.h i:=by
   rcases hf with h|⟨j,h,e⟩
   ·cases h
   ·simp only [footA,Foot.on.injEq] at h;subst h;exact e
  simp only [zec e]
 |fn f fs cs=>rcases hf with h|⟨j,h,_⟩<;>cases h
 |_=>rfl
theorem zex {P:Program} {t:TypeId} {x:AV} {k:AHeap} (hf:footL x= .cold∨∃i,footL x= .on i∧hget k i=hget s.h i):zbi P { s with h:=k } t x=zbi P s t x:=by
 unfold zbi
 cases x with
 | ap i n k' r off=>
  have e:hget k i=hget s.h i:=by
   rcases hf with h|⟨j,h,e⟩
   ·cases h
   ·simp only [footL,Foot.on.injEq] at h;subst h;exact e
  simp only [e]
 | vp i off=>
  have e:hget k i=hget s.h i:=by
   rcases hf with h|⟨j,h,e⟩
   ·cases h
   ·simp only [footL,Foot.on.injEq] at h;subst h;exact e
  simp only [e]
 | tp i off=>
  have e:hget k i=hget s.h i:=by
   rcases hf with h|⟨j,h,e⟩
   ·cases h
   ·simp only [footL,Foot.on.injEq] at h;subst h;exact e
  simp only [e]
 |_=>rfl
theorem znI {G:Bool} {o:Oper} {g:Bool} {v:AV} {h':AHeap} (h:∀R:Bool→AV→AHeap→Prop,R g v h'→fop cx tab s G o R) (hne:isEff o.op=false→h'=s.h):
  (foot cx.fl cx.P s o.op= .cold→isEff o.op=false∧∀ (k:AHeap) (R:Bool→AV→AHeap→Prop),R g v k→fop cx tab { s with h:=k } G o R)∧
  (∀i,foot cx.fl cx.P s o.op= .on i→∀ (k:AHeap),hget k i=hget s.h i→(isEff o.op=false→∀R:Bool→AV→AHeap→Prop,R g v k→fop cx tab { s with h:=k } G o R)∧
   (isEff o.op=true→∃ob,hget h' i=some ob∧h'=hset s.h i ob∧∀R:Bool→AV→AHeap→Prop,R g v (hset k i ob)→fop cx tab { s with h:=k } G o R)):=by
 have hev:∀ (k:AHeap) (x:Operand),AS.ev { s with h:=k } x=s.ev x:=fun k x=>by cases x<;>rfl
 have hkn:∀ (k:AHeap) (x:Operand),known { s with h:=k } x=known s x:=fun k x=>by cases x<;>rfl
 have val:∀ (k:AHeap),isVal cx.P o.op=true→(∀x,o.op= .move x→False)→(∀x,o.op= .assign x→False)→(∀x y z,o.op= .pick x y z→False)→(∀c,o.op= .call c→False)→aval cx.P { s with h:=k } o.op=aval cx.P s o.op→
   ∀ (k':AHeap) (R:Bool→AV→AHeap→Prop),k'=k→R g v k'→fop cx tab { s with h:=k } G o R:=by
  intro k hv n1 n2 n3 n4 ha k' R hk hR
  subst hk
  have h1:=h (fun g v _=>R g v k') hR
  rw [zE n1 n2 n3 n4,if_pos hv] at h1 ⊢
  rw [ha]
  exact h1
 have nv:∀ (k:AHeap) (R:Bool→AV→AHeap→Prop),isVal cx.P o.op=true→(∀x,o.op= .move x→False)→(∀x,o.op= .assign x→False)→(∀x y z,o.op= .pick x y z→False)→(∀c,o.op= .call c→False)→aval cx.P { s with h:=k } o.op=aval cx.P s o.op→R g v k→fop cx tab { s with h:=k } G o R:=fun k R hv n1 n2 n3 n4 ha hR=>val k hv n1 n2 n3 n4 ha k R rfl hR
 have cur:∀ (k:AHeap) (i n kk:Nat),hget k i=hget s.h i→AS.cur { s with h:=k } i n kk=AS.cur s i n kk:=fun k i n kk e=>by unfold AS.cur;dsimp only;rw [e]
 constructor
 ·intro hf
  cases hop:o.op
  case move x=>
   refine ⟨rfl,fun k R hR=>?_⟩
   have h1:=h (fun g v _=>R g v k) hR
   unfold fop at h1 ⊢
   rw [hop] at h1 ⊢
   simp only [hev,hkn] at h1 ⊢
   exact h1
  case assign x=>
   refine ⟨rfl,fun k R hR=>?_⟩
   have h1:=h (fun g v _=>R g v k) hR
   unfold fop at h1 ⊢
   rw [hop] at h1 ⊢
   simp only [hev,hkn] at h1 ⊢
   exact h1
  case pick c a b=>
   refine ⟨rfl,fun k R hR=>?_⟩
   have h1:=h (fun g v _=>R g v k) hR
   unfold fop at h1 ⊢
   rw [hop] at h1 ⊢
   simp only [hev] at h1 ⊢
   exact h1
  case binOp bo t x y u=>
   rw [hop] at hf
   simp only [foot] at hf
   split at hf
   ·rename_i hv
    refine ⟨rfl,fun k R hR=>nv k R (by rw [hop];exact hv) (by simp [hop]) (by simp [hop]) (by simp [hop]) (by simp [hop]) (by rw [hop];simp only [aval,hev]) hR⟩
   ·cases hf
  case unOp a b c=>exact ⟨rfl,fun k R hR=>nv k R (by rw [hop];rfl) (by simp [hop]) (by simp [hop]) (by simp [hop]) (by simp [hop]) (by rw [hop];simp only [aval,hev]) hR⟩
  case extract a b=>exact ⟨rfl,fun k R hR=>nv k R (by rw [hop];rfl) (by simp [hop]) (by simp [hop]) (by simp [hop]) (by simp [hop]) (by rw [hop];simp only [aval,hev]) hR⟩
  case makeFunc a b c=>exact ⟨rfl,fun k R hR=>nv k R (by rw [hop];rfl) (by simp [hop]) (by simp [hop]) (by simp [hop]) (by simp [hop]) (by rw [hop];simp only [aval,hev]) hR⟩
  case field a b c=>exact ⟨rfl,fun k R hR=>nv k R (by rw [hop];rfl) (by simp [hop]) (by simp [hop]) (by simp [hop]) (by simp [hop]) (by rw [hop];simp only [aval,hev]) hR⟩
  case fieldAddr a x c=>
   rw [hop] at hf
   simp only [foot] at hf
   refine ⟨rfl,fun k R hR=>nv k R (by rw [hop];rfl) (by simp [hop]) (by simp [hop]) (by simp [hop]) (by simp [hop]) ?_ hR⟩
   rw [hop]
   simp only [aval,hev,zbW (.inl hf)]
  case nilCheck x=>
   rw [hop] at hf
   simp only [foot] at hf
   refine ⟨rfl,fun k R hR=>nv k R (by rw [hop];rfl) (by simp [hop]) (by simp [hop]) (by simp [hop]) (by simp [hop]) ?_ hR⟩
   rw [hop]
   exact zfC (.inl hf)
  case indexAddr a x y=>
   rw [hop] at hf
   simp only [foot] at hf
   refine ⟨rfl,fun k R hR=>nv k R (by rw [hop];rfl) (by simp [hop]) (by simp [hop]) (by simp [hop]) (by simp [hop]) ?_ hR⟩
   rw [hop]
   simp only [aval,hev,zbV (.inl hf)]
  case load a x=>
   rw [hop] at hf
   simp only [foot] at hf
   refine ⟨rfl,fun k R hR=>nv k R (by rw [hop];rfl) (by simp [hop]) (by simp [hop]) (by simp [hop]) (by simp [hop]) ?_ hR⟩
   rw [hop]
   simp only [aval,hev,zex (.inl hf)]
  case store a x y=>
   rw [hop] at hf
   simp only [foot] at hf
   split at hf<;>cases hf
  case call c=>
   rw [hop] at hf
   simp only [foot] at hf
   cases hco:z6 cx.P s c with
   |none=>rw [hco] at hf;cases hf
   | some q=>
    obtain ⟨f,args,vc⟩:=q
    rw [hco] at hf
    dsimp only at hf
    split at hf
    ·rename_i hids
     have hco':∀k,z6 cx.P { s with h:=k } c=some (f,args,vc):=fun k=>by
      rw [← hco];unfold z6;cases c.callee<;>simp only [hev]
     refine ⟨zlA hco,fun k R hR=>?_⟩
     have h1:=h (fun g v _=>R g v k) hR
     unfold fop at h1 ⊢
     rw [hop] at h1 ⊢
     dsimp only at h1 ⊢
     have hv:¬isVal cx.P (.call c)=true:=by rw [zby hco];decide
     rw [if_neg hv,hco] at h1
     rw [if_neg hv,hco']
     dsimp only at h1 ⊢
     rw [za4 args 9 k s.h hids]
     cases htb:tab f (args.map (frz 9 s.h)) with
     |none=>rw [htb] at h1;exact h1.elim
     |some pr=>
      obtain ⟨pre,r⟩:=pr
      rw [htb] at h1
      exact h1
    ·cases hf
  all_goals (rw [hop] at hf;simp only [foot] at hf;cases hf)
 ·intro i hf k hk
  cases hop:o.op
  case binOp bo t x y u=>
   rw [hop] at hf
   simp only [foot] at hf
   split at hf<;>cases hf
  case fieldAddr a x c=>
   rw [hop] at hf
   simp only [foot] at hf
   refine ⟨fun _ R hR=>nv k R (by rw [hop];rfl) (by simp [hop]) (by simp [hop]) (by simp [hop]) (by simp [hop]) ?_ hR,fun e=>by cases e⟩
   rw [hop]
   simp only [aval,hev,zbW (.inr ⟨i,hf,hk⟩)]
  case nilCheck x=>
   rw [hop] at hf
   simp only [foot] at hf
   refine ⟨fun _ R hR=>nv k R (by rw [hop];rfl) (by simp [hop]) (by simp [hop]) (by simp [hop]) (by simp [hop]) ?_ hR,fun e=>by cases e⟩
   rw [hop]
   exact zfC (.inr ⟨i,hf,hk⟩)
  case indexAddr a x y=>
   rw [hop] at hf
   simp only [foot] at hf
   refine ⟨fun _ R hR=>nv k R (by rw [hop];rfl) (by simp [hop]) (by simp [hop]) (by simp [hop]) (by simp [hop]) ?_ hR,fun e=>by cases e⟩
   rw [hop]
   simp only [aval,hev,zbV (.inr ⟨i,hf,hk⟩)]
  case load a x=>
   rw [hop] at hf
   simp only [foot] at hf
   refine ⟨fun _ R hR=>nv k R (by rw [hop];rfl) (by simp [hop]) (by simp [hop]) (by simp [hop]) (by simp [hop]) ?_ hR,fun e=>by cases e⟩
   rw [hop]
   simp only [aval,hev,zex (.inr ⟨i,hf,hk⟩)]
  case store t x y=>
   rw [hop] at hf
   simp only [foot] at hf
   refine ⟨fun e=>(by cases e),fun _=>?_⟩
   have h1:=h (fun g1 v1 h1=>g1=g∧v1=v∧h1=h') ⟨rfl,rfl,rfl⟩
   have n1:∀x,o.op= .move x→False:=by simp [hop]
   have n2:∀x,o.op= .assign x→False:=by simp [hop]
   have n3:∀x y z,o.op= .pick x y z→False:=by simp [hop]
   have n4:∀c,o.op= .call c→False:=by simp [hop]
   rw [zE n1 n2 n3 n4] at h1
   have hv:¬isVal cx.P o.op=true:=by rw [hop];simp [isVal,zbk]
   rw [if_neg hv,hop] at h1
   obtain ⟨rfl,hdt,h1⟩:=h1
   unfold aeff at h1
   dsimp only at h1
   obtain ⟨q1,q2,q3,q4,q5,h1⟩:=h1
   split at h1
   ·rename_i i' off hx
    rw [hx] at hf
    simp only [Foot.on.injEq] at hf
    subst hf
    split at h1
    ·rename_i cs hi
     obtain ⟨q6,q7,q8,q9⟩:=h1
     refine ⟨_,by rw [← q9];exact ze hi,q9.symm,fun R hR=>?_⟩
     rw [zE n1 n2 n3 n4,if_neg hv,hop]
     refine ⟨q7.symm ▸ rfl,hdt,?_⟩
     unfold aeff
     dsimp only
     simp only [hev]
     refine ⟨q1,q2,q3,q4,q5,?_⟩
     rw [hx]
     dsimp only
     rw [hk,hi]
     refine ⟨q6,?_⟩
     rw [← q7,← q8] at hR
     exact hR
    ·exact h1.elim
   ·rename_i i' off hx
    rw [hx] at hf
    simp only [Foot.on.injEq] at hf
    subst hf
    split at h1
    ·rename_i tt cs hi
     obtain ⟨q6,q7,q8,q9⟩:=h1
     refine ⟨_,by rw [← q9];exact ze hi,q9.symm,fun R hR=>?_⟩
     rw [zE n1 n2 n3 n4,if_neg hv,hop]
     refine ⟨q7.symm ▸ rfl,hdt,?_⟩
     unfold aeff
     dsimp only
     simp only [hev]
     refine ⟨q1,q2,q3,q4,q5,?_⟩
     rw [hx]
     dsimp only
     rw [hk,hi]
     refine ⟨q6,?_⟩
     rw [← q7,← q8] at hR
     exact hR
    ·exact h1.elim
   ·rename_i i' n' kk r off hx
    rw [hx] at hf
    simp only [Foot.on.injEq] at hf
    subst hf
    split at h1
    ·rename_i kx xs hi
     obtain ⟨g1,g2,g3,g4,h1⟩:=h1
     split at h1
     ·rename_i ds hds
      obtain ⟨q7,q8,q9⟩:=h1
      refine ⟨_,by rw [← q9];exact ze hi,q9.symm,fun R hR=>?_⟩
      rw [zE n1 n2 n3 n4,if_neg hv,hop]
      refine ⟨q7.symm ▸ rfl,hdt,?_⟩
      unfold aeff
      dsimp only
      simp only [hev]
      refine ⟨q1,q2,q3,q4,q5,?_⟩
      rw [hx]
      dsimp only
      rw [hk,hi]
      refine ⟨g1,g2,g3,g4,?_⟩
      rw [hds]
      rw [← q7,← q8] at hR
      exact hR
     ·exact h1.elim
    ·exact h1.elim
   ·rename_i n5 n56 n6
    split at hf
    ·rename_i a b hx;exact (n5 _ _ hx).elim
    ·rename_i a b hx;exact (n56 _ _ hx).elim
    ·rename_i a b c d e hx;exact (n6 _ _ _ _ _ hx).elim
    ·cases hf
  case call c=>
   rw [hop] at hf
   simp only [foot] at hf
   split at hf
   ·split at hf<;>cases hf
   ·cases hf
  all_goals (rw [hop] at hf;simp only [foot] at hf;cases hf)
end
end Go.Aw
