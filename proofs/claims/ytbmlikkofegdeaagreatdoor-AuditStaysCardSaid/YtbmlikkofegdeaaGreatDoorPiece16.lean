/-
 Regions that draw their order, names by place: the theorem.
-/
import Derived.Test.YtbmlikkofegdeaaGreatDoorPiece15
set_option maxRecDepth 100000
set_option maxHeartbeats 2000000
set_option linter.unusedSimpArgs false
set_option linter.unusedVariables false
namespace Go.Aw
open Go
structure RG where
 o:Oper
 g:Bool
 v:AV
 c:Ch
 rd:List Nat
def appG (s:AS) (r:RG):AS:= { s with h:=r.c.app s.h }.put r.o.dst r.g r.v
def selG:List RG->(Nat->Bool)->AS->AS
 | [],_,s=>s
 |x::L,S,s=>selG L (λi=>S (i+1)) (if S 0=true then appG s x else s)
def lexG (L:List RG) (n:Nat) (s:AS):AS:=selG L (λi=>decide (i<n)) s
theorem zkg (s:AS) (r:RG):(appG s r).h=r.c.app s.h:=by
 unfold appG AS.put;cases r.o.dst<;>rfl
theorem zyg (s:AS) (r:RG):(appG s r).g=s.g:=by
 unfold appG AS.put;cases r.o.dst<;>rfl
theorem zkY (s:AS) (r:RG) (k:Nat):lk (appG s r).t k=if r.o.dst=some k then some (r.g,r.v) else lk s.t k:=by unfold appG;rw [zr0]
theorem zmd:∀ (L:List RG) (S:Nat->Bool) (s:AS),(selG L S s).g=s.g
 | [],_,_=>rfl
 |x::L,S,s=>by
  rw [selG,zmd L];split
  ·exact zyg _ _
  ·rfl
theorem zix {Q:Nat->Prop} :∀ (L:List RG) (S S':Nat->Bool) (s s':AS),(∀k,Q k->lk s.t k=lk s'.t k)->(∀ (i:Nat) (r:RG),L[i]?=some r->(∃d,r.o.dst=some d/\Q d)->S i=S' i)->
  ∀k,Q k->lk (selG L S s).t k=lk (selG L S' s').t k
 | [],_,_,_,_,h,_=>h
 | x::L,S,S',s,s',h,hS=>by
  refine zix L _ _ _ _ (λk hk=>?_) (λi r hr hd=>hS (i+1) r (by simpa using hr) hd);by_cases hd:x.o.dst=some k
  ·rw [hS 0 x rfl ⟨k,hd,hk⟩];split
   ·rw [zkY,zkY,if_pos hd,if_pos hd]
   ·exact h k hk
  ·have e1:∀ (b:Bool) (u:AS),lk (if b=true then appG u x else u).t k=lk u.t k:=λb u=>by
    split
    ·rw [zkY,if_neg hd]
    ·rfl
   rw [e1,e1];exact h k hk
theorem zhb {c:Ch} {h:AHeap} {k:Nat} (hc:c.at≠some k):hget (c.app h) k=hget h k:=by
 cases c with
 |none=>rfl
 |put i ob=>exact zH (λe=>hc (by simp [Ch.at,e]))
 |new i ob=>
  have:i≠k:=λe=>hc (by simp [Ch.at,e]);simp [Ch.app,hget,this]
theorem zwe {c:Ch} {h h':AHeap} {k:Nat} (e:hget h k=hget h' k):hget (c.app h) k=hget (c.app h') k:=by
 by_cases hc:c.at=some k
 ·cases c with
  |none=>cases hc
  |put i ob=>
   simp only [Ch.at,Option.some.injEq] at hc;subst hc;simp only [Ch.app];cases hh:hget h i with
   |none=>rw [zgC hh,zgC (e ▸ hh)];exact e
   |some o=>rw [zh hh,zh (e ▸ hh)]
  |new i ob=>
   simp only [Ch.at,Option.some.injEq] at hc;subst hc;simp [Ch.app,hget]
 ·rw [zhb hc,zhb hc,e]
theorem zgE (k:Nat):∀ (L:List RG) (S S':Nat->Bool) (s s':AS),hget s.h k=hget s'.h k->(∀ (i:Nat) (r:RG),L[i]?=some r->r.c.at=some k->S i=S' i)->hget (selG L S s).h k=hget (selG L S' s').h k
 | [],_,_,_,_,h,_=>h
 | x::L,S,S',s,s',h,hS=>by
  refine zgE k L _ _ _ _ ?_ (λi r hr hm=>hS (i+1) r (by simpa using hr) hm);by_cases hm:x.c.at=some k
  ·rw [hS 0 x rfl hm];split
   ·rw [zkg,zkg];exact zwe h
   ·exact h
  ·have e1:∀ (b:Bool) (u:AS),hget (if b=true then appG u x else u).h k=hget u.h k:=λb u=>by
    split
    ·rw [zkg];exact zhb hm
    ·rfl
   rw [e1,e1];exact h
theorem zhc (k:Nat):∀ (L:List RG) (S:Nat->Bool) (s:AS),(∀ (i:Nat) (r:RG),L[i]?=some r->S i=true->r.c.at≠some k)->hget (selG L S s).h k=hget s.h k
 | [],_,_,_=>rfl
 | x::L,S,s,hS=>by
  rw [selG,zhc k L _ _ (λi r hr hs=>hS (i+1) r (by simpa using hr) hs)];split
  ·rename_i h0;rw [zkg];exact zhb (hS 0 x rfl h0)
  ·rfl
theorem zr5 (k:Nat):∀ (L:List RG) (n:Nat) (r:RG) (S:Nat->Bool) (s:AS),L[n]?=some r->S n=false->
  (∀ (i:Nat) (r':RG),L[i]?=some r'->n<i->S i=true->r.c.at=some k->r'.c.at≠some k)->hget (selG L (λi=>if i=n then true else S i) s).h k=hget (r.c.app (selG L S s).h) k
 | [],n,r,S,s,hr,_,_=>by simp at hr
 | x::L,0,r,S,s,hr,hS,hl=>by
  have:x=r:=by simpa using hr
  subst this;simp only [selG,if_true,hS,Bool.false_eq_true,if_false,Nat.succ_ne_zero];by_cases hc:x.c.at=some k
  ·have hno:∀ (i:Nat) (r':RG),L[i]?=some r'->S (i+1)=true->r'.c.at≠some k:=λi r' hr' hs'=>hl (i+1) r' (by simpa using hr') (by omega) hs' hc;rw [zhc k L _ _ hno,zkg];exact zwe (zhc k L _ _ hno).symm
  ·rw [zhb hc];refine zgE k L _ _ _ _ ?_ (λ_ _ _ _=>rfl);rw [zkg];exact zhb hc
 | x::L,n+1,r,S,s,hr,hS,hl=>by
  have e0:(if (0:Nat)=n+1 then true else S 0)=S 0:=if_neg (by omega);simp only [selG,e0]
  have e1:(λi=>if i+1=n+1 then true else S (i+1))=(λi=>if i=n then true else S (i+1)):=by
   funext i;by_cases h:i=n
   ·simp [h]
   ·simp [h]
  rw [e1];exact zr5 k L n r (λi=>S (i+1)) _ (by simpa using hr) hS (λi r' hr' hi hs'=>hl (i+1) r' (by simpa using hr') (by omega) hs')
theorem zdR:∀ (L:List RG) (s:AS),lexG L 0 s=s
 | [],s=>rfl
 |x::L,s=>by unfold lexG selG;have:=zdR L s;unfold lexG at this;simpa using this
theorem zfp (x:RG) (L:List RG) (n:Nat) (s:AS):lexG (x::L) (n+1) s=lexG L n (appG s x):=by unfold lexG;rw [selG];simp
theorem zme:∀ (L:List RG) (n:Nat) (s:AS) (r:RG),L[n]?=some r->lexG L (n+1) s=appG (lexG L n s) r
 | [],n,s,r,h=>by simp at h
 |x::L,0,s,r,h=>by
  have:x=r:=by simpa using h
  subst this;rw [zfp,zdR,zdR]
 |x::L,n+1,s,r,h=>by rw [zfp,zfp];exact zme L n _ r (by simpa using h)
section
variable {cx : Cx} {E E0 : Env} {s s' : AS} {a : Act} {w w0 : World} {h h' h0 : AHeap}
theorem zeR (hh:∀k,hget h k=hget h' k):Own E h=Own E h':=by funext b;unfold Own;simp only [hh]
theorem ziy (hh:∀k,hget h k=hget h' k) (i:Nat):GoesOn E h E h' i:=by unfold GoesOn;rw [<-hh];split<;>simp_all
theorem znK (hh:∀k,hget h k=hget h' k) {x:AV} {v:Value} (hr:Rep w E h x v):Rep w E h' x v:=
 Rep.step (λb _ hx=>by unfold Xs at hx ⊢;rwa [zeR hh]) (λ_ _ _=>rfl) x v (λj _=>ziy hh j) hr
theorem SatH.ext (hs:SatH E h w) (hh:∀k,hget h k=hget h' k):SatH E h' w where
 heap:=λi o ho=>by
  rw [<-hh] at ho;have:=hs.heap i o ho;have hX:∀b,b<w.heap.size->Xs E h' b->Xs E h b:=λb _ hx=>by unfold Xs at hx ⊢;rwa [zeR hh]
  cases o with
  |var cs=>
   simp only [RepObj] at this ⊢;obtain ⟨b,d,T,fz,h1,h2,h3,h4⟩:=this;exact ⟨b,d,T,fz,h1,h2,Reps.step hX (λ_ _ _=>rfl) _ _ (λj _=>ziy hh j) h3,h4⟩
  |tvar tt cs=>
   simp only [RepObj] at this ⊢;obtain ⟨b,d,T,fz,h1,h2,h3,h4⟩:=this;exact ⟨b,d,T,fz,h1,h2,Reps.step hX (λ_ _ _=>rfl) _ _ (λj _=>ziy hh j) h3,h4⟩
  |arr k xs=>
   simp only [RepObj] at this ⊢;rcases this with g|⟨b,d,T,fz,h1,h2,h3,h4,h5,h6⟩
   ·exact .inl g
   ·exact .inr ⟨b,d,T,fz,h1,h2,h3,h4,RepRows.step hX (λ_ _ _=>rfl) _ _ _ h5,h6⟩
  |buf tt xs=>
   simp only [RepObj] at this ⊢;rcases this with g|⟨b,d,T,fz,h1,h2,h3,h4,h5,h6⟩
   ·exact .inl g
   ·exact .inr ⟨b,d,T,fz,h1,h2,h3,h4,h5,h6⟩
  |strit l p=>exact this
  |omap es=>exact this
 inj:=λi j b hi hj=>hs.inj i j b (by rwa [hh]) (by rwa [hh])
 own:=λb hb=>hs.own b (by rwa [zeR hh])
 mlt:=hs.mlt
 nlt:=hs.nlt
theorem Sat.ext (hs:Sat cx E s a w) (ht:∀k,lk s.t k=lk s'.t k) (hh:∀k,hget s.h k=hget s'.h k) (hg:s.g=s'.g):Sat cx E s' a w where
 slots:=λk g v hk=>by obtain ⟨x,h1,h2,h3⟩:=hs.slots k g v (by rw [ht];exact hk);exact ⟨x,h1,λe=>znK hh (h2 e),h3⟩
 nt:=hs.nt
 hp:=hs.hp.ext hh
 base:=hs.base
 marks:=hs.marks
 ghost:=by rw [<-hg,<-zeR hh];exact hs.ghost
theorem Evo.ext {fl:Nat} (he:Evo fl E0 h0 w0 E h w) (hh:∀k,hget h k=hget h' k):Evo fl E0 h0 w0 E h' w where
 os:=he.os
 tape:=he.tape
 output:=he.output
 size:=he.size
 keep:=he.keep
 own:=λb hb=>he.own b (by rwa [zeR hh])
 m1:=he.m1
 m2:=he.m2
 n:=he.n
 go:=λi hi hs=>by rw [<-hh] at hs;obtain ⟨g1,g2⟩:=he.go i hi hs;exact ⟨g1,g2.trans (ziy hh i)⟩
theorem Evo.low {fl fl':Nat} (he:Evo fl' E0 h0 w0 E h w) (hl:fl<=fl'):Evo fl E0 h0 w0 E h w:=
 ⟨he.os,he.tape,he.output,he.size,he.keep,he.own,he.m1,he.m2,he.n,λi hi=>he.go i (by omega)⟩
theorem Sat.at {nm:Nat} (hs:Sat cx E s a w):Sat (atCx cx nm) E s a w:=⟨hs.slots,hs.nt,hs.hp,hs.base,hs.marks,hs.ghost⟩
theorem Sat.un {nm:Nat} (hs:Sat (atCx cx nm) E s a w):Sat cx E s a w:=⟨hs.slots,hs.nt,hs.hp,hs.base,hs.marks,hs.ghost⟩
theorem Reach.un {nm:Nat} (hl:cx.fl<=nm) {K:AS->Prop} (hr:Reach (atCx cx nm) E h w K a w0):Reach cx E h w K a w0:=by obtain ⟨E1,s1,hk,hs,he⟩:=hr;exact ⟨E1,s1,hk,hs.un,he.low hl⟩
end
def ownR (o:AV):List D->AV
 | []=>o
 |d::ds=> .tup (o::(d::ds).map .d)
theorem zmf:∀ds:List D,AV.idsL (ds.map .d)= []
 | []=>rfl
 |_::ds=>by simp only [List.map_cons,AV.idsL,AV.ids,zmf ds,List.append_nil]
theorem zwf {P:Program} {f:FuncId} {args:List AV} {k:Nat} {rows:List (List D)} {ds:List D} {h:AHeap} {nm fl j0:Nat} (hc:ACall P f 0 args [] (fun r h'=>r=ownR (.osl j0 k rows.length 0 rows.length) ds∧h'= [(j0,.arr k rows)])) (hids:AV.idsL args= []) (hnm:hget h nm=none) (hfl:fl≤nm):
    ACallAt P fl f args h (fun r h'=>r=ownR (.osl nm k rows.length 0 rows.length) ds∧h'=(nm,.arr k rows)::h):=by
  obtain ⟨hen,hc⟩:=hc
  refine ⟨hen,fun E w vs hs hr=>?_⟩
  have hno:∀ (E:Env) b,¬Own E [] b:=fun E b ⟨i,hi,_⟩=>by simp [hget] at hi
  have hs0:SatH (bare (Xs E h)) [] w:=⟨fun i o ho=>by simp [hget] at ho,fun i j b h1=>by simp [hget] at h1,fun b hb=>absurd hb (hno _ b),fun _ h=>h.elim,fun b hb=>by
    rcases hb with hb|hb|hb
    · exact (hs.own b hb).1
    · exact hs.mlt b hb
    · exact hs.nlt b hb⟩
  have hX0:∀b,b<w.heap.size→Xs (bare (Xs E h)) [] b→Xs E h b:=fun b _ hx=>by
    rcases hx with hx|hx|hx
    · exact absurd hx (hno _ b)
    · exact hx.elim
    · exact hx
  have hr0:Reps w (bare (Xs E h)) [] args vs.toList:=Reps.step hX0 (fun _ _ _=>rfl) _ _ (by rw [hids];simp) hr
  refine (hc _ w vs hs0 hr0).mono ?_
  rintro e w' ⟨v,E',r',h1,rfl,⟨rfl,rfl⟩,hs',hr',hev⟩
  have hkeep:∀b,b<w.heap.size→w'.heap[b]?=w.heap[b]?:=fun b hb=>hev.keep b hb (hno _ b)
  obtain ⟨E2,hE2⟩:∃E2,E2=E.set nm (E'.O j0) (E'.C j0):=⟨_,rfl⟩
  have hO:E2.O nm=E'.O j0:=by rw [hE2];simp [Env.set]
  have hC:E2.C nm=E'.C j0:=by rw [hE2];simp [Env.set]
  have hob:=hs'.heap j0 (.arr k rows) (by simp [hget])
  have hlt:∀b,E'.O j0=some b→w.heap.size≤b∧b<w'.heap.size:=fun b hb=>by
    have ho:Own E' [(j0,.arr k rows)] b:=⟨j0,by simp [hget],hb⟩
    exact ⟨(hev.own b ho).elim (fun h=>absurd h (hno _ b)) id,(hs'.own b ho).1⟩
  have c:Chg E h w E2 ((nm,.arr k rows)::h) w' nm:=
    { os:=hev.os,tape:=hev.tape,output:=hev.output,size:=hev.size
      envO:=fun j e=>by rw [hE2];simp [Env.set,e]
      envC:=fun j e=>by rw [hE2];simp [Env.set,e]
      M:=by rw [hE2];rfl
      N:=by rw [hE2];rfl
      hh:=fun j e=>by simp [hget,Ne.symm e]
      gi:=by unfold GoesOn;rw [hnm];trivial
      blk:=fun b hb _=>hkeep b hb
      new:=fun b _ hb=> .inr (hlt b (by rw [← hO];exact hb)) }
  have hXn:∀b,b<w'.heap.size→Xs E2 ((nm,.arr k rows)::h) b→Xs E' [(j0,.arr k rows)] b:=fun b _ hx=>by
    have hN:∀b,Xs E h b→Xs E' [(j0,.arr k rows)] b:=fun b hx=> .inr (.inr (by rw [hev.n];exact hx))
    rcases hx with ⟨j,hj,hb⟩|hx|hx
    · by_cases e:j=nm
      · subst e
        exact .inl ⟨j0,by simp [hget],by rw [← hO];exact hb⟩
      · exact hN b (.inl ⟨j,by simpa [hget,Ne.symm e] using hj,by rw [← c.envO j e];exact hb⟩)
    · exact hN b (.inr (.inl (by rwa [c.M] at hx)))
    · exact hN b (.inr (.inr (by rwa [c.N] at hx)))
  have hs2:SatH E2 ((nm,.arr k rows)::h) w':=c.satH hs (fun o ho=>by
    simp only [hget,if_true,Option.some.injEq] at ho
    subst ho
    simp only [RepObj,hO,hC] at hob ⊢
    rcases hob with g|⟨b,d,T,fz,h1,h2,h3,h4,h5,h6⟩
    · exact .inl g
    · exact .inr ⟨b,d,T,fz,h1,h2,h3,h4,RepRows.step hXn (fun _ _ _=>rfl) _ _ _ h5,h6⟩)
  refine ⟨v,E2,_,_,rfl,⟨rfl,rfl⟩,hs2,?_,?_,fun x y hxy=>c.rep hxy⟩
  · have base:∀v,Rep w' E' [(j0,.arr k rows)] (.osl j0 k rows.length 0 rows.length) v→Rep w' E2 ((nm,.arr k rows)::h) (.osl nm k rows.length 0 rows.length) v:=by
      intro v hr'
      simp only [Rep] at hr' ⊢
      obtain ⟨q1,xs,q2,q3,q4,q5⟩:=hr'
      simp only [hget,if_true,Option.some.injEq,AObj.arr.injEq] at q2
      obtain ⟨-,rfl⟩:=q2
      refine ⟨q1,rows,by simp [hget],q3,q4,?_⟩
      rw [hO,hC]
      exact q5
    cases ds with
    |nil=>exact base v hr'
    | cons d ds=>
      simp only [ownR] at hr' ⊢
      rw [Rep] at hr' ⊢
      obtain ⟨vs,rfl,hr'⟩:=hr'
      rw [Reps] at hr'
      obtain ⟨x,r,e,h2,h3⟩:=hr'
      refine ⟨vs,rfl,?_⟩
      rw [Reps]
      exact ⟨x,r,e,base x h2,Reps.step hXn (fun _ _ _=>rfl) _ _ (by rw [zmf];simp) h3⟩
  · have ev:=c.evo (fl:=fl) (.inr hfl)
    exact ⟨ev.os,ev.tape,ev.output,ev.size,fun b hb _=>hkeep b hb,ev.own,c.M,c.N,ev.go⟩
theorem EvoC.ext {E E':Env} {h0 h h1 h':AHeap} {w w':World} {fl fl':Nat} (he:EvoC fl E h0 w E' h w') (h0e:∀k,hget h0 k=hget h1 k) (hh:∀k,hget h k=hget h' k) (hfl:∀k,(hget h k).isSome->k<fl\/fl'<=k):EvoC fl' E h1 w E' h' w' where
 os:=he.os
 tape:=he.tape
 output:=he.output
 size:=he.size
 keep:=λb hb hn=>he.keep b hb (by rwa [zeR h0e])
 own:=λb hb=>by rw [<-zeR hh] at hb;rw [<-zeR h0e];exact he.own b hb
 m:=he.m
 n:=he.n
 go:=λi hi hs=>by
  rw [<-hh] at hs;rcases hfl i hs with hl|hl
  ·obtain ⟨g1,g2⟩:=he.go i hl hs;exact ⟨by rwa [<-h0e],((ziy (λk=>(h0e k).symm) i).trans g2).trans (ziy hh i)⟩
  ·omega
theorem ACall.ext {P:Program} {f:FuncId} {args:List AV} {fl fl':Nat} {h h':AHeap} {K:AV->AHeap->Prop} (hc:ACall P f fl args h K) (hh:∀k,hget h k=hget h' k) (hfl:∀r h2,K r h2->∀k,(hget h2 k).isSome->k<fl\/fl'<=k):ACall P f fl' args h' K:=by refine ⟨hc.1,λE w vs hs hr=>?_⟩;have hh':∀k,hget h' k=hget h k:=λk=>(hh k).symm;refine (hc.2 E w vs (hs.ext hh') (Reps.step (λb _ hx=>by unfold Xs at hx ⊢;rwa [zeR hh']) (λ_ _ _=>rfl) _ _ (λj _=>ziy hh' j) hr)).mono ?_;rintro e w' ⟨v,E',r,h2,rfl,hk,hs',hr',hev⟩;exact ⟨v,E',r,h2,rfl,hk,hs',hr',hev.ext hh (λ_=>rfl) (hfl r h2 hk)⟩
theorem zdc {P:Program} {f:FuncId} {args:List AV} {r0:AV} {h:AHeap} {i fl1 fl:Nat} {ob ob':AObj} (hc:ACall P f fl1 args [(i,ob)] (λr h'=>r=r0/\h'= [(i,ob')])) (hi:i<fl1) (hg:hget h i=some ob) (hcl:∀j∈ob.ids,j=i) (ha:∀j∈AV.idsL args,j=i):
  ACallAt P fl f args h (λr h'=>r=r0/\h'=hset h i ob'):=by
 obtain ⟨fl2,hfl2⟩:∃fl2,fl2=top fl h:=⟨_,rfl⟩
 have hlt:∀j,(hget h j).isSome->j<fl2:=λj hj=>by rw [hfl2];exact zrH hj
 have hil:i<fl2:=hlt i (by simp [hg]);obtain ⟨p,hp⟩:∃p:Nat->Bool,p=λj=>decide (j=i)||decide (fl2<=j):=⟨_,rfl⟩
 have hpi:p i=true:=by rw [hp];simp
 have hpj:∀j,(hget h j).isSome->p j=true->j=i:=λj hj hpj=>by
  have:=hlt j hj;rw [hp] at hpj;have:j=i\/fl2<=j:=by simpa using hpj
  omega
 have he1:∀k,hget [(i,ob)] k=hget (hsel p h) k:=λk=>by
  rw [zx];simp only [hget];by_cases hk:i=k
  ·subst hk;rw [if_pos rfl,if_pos hpi,hg]
  ·rw [if_neg hk];split
   ·rename_i hpk;cases hh:hget h k with
    |none=>rfl
    |some o=>exact absurd (hpj k (by simp [hh]) hpk).symm hk
   ·rfl
 have hc2:=hc.ext (fl':=fl2) he1 (λr h2 hk k hs=> .inl (by
  obtain ⟨_,rfl⟩:=hk;simp only [hget] at hs;split at hs
  ·omega
  ·cases hs))
 have:=ACall.frame (fl':=fl) hc2 hlt (λj hj=>by rw [hp];simp;exact .inr hj) (λj o ho hpj' k hk=>by
  have hj:=hpj j (by simp [ho]) hpj';subst hj;rw [hg] at ho;cases ho;rw [hcl k hk];exact hpi) (λj hj=>by rw [ha j hj];exact hpi) (by rw [hfl2];exact zgx _ _) (λr h' hk=>by
  obtain ⟨_,rfl⟩:=hk;refine ⟨λj hj hpj'=>?_,λj hj=>?_⟩
  ·rw [hpj j hj hpj'];simp [hget]
  ·simp only [hget] at hj;split at hj
   ·rename_i e;rw [<-e];exact hpi
   ·cases hj)
 refine ⟨this.1,λE w vs hs hr=>(this.2 E w vs hs hr).mono ?_⟩;rintro e w' ⟨v,E',r,h2,rfl,⟨h1,⟨rfl,rfl⟩,rfl⟩,hs',hr',hev,hmv⟩
 have hex:∀k,hget ([(i,ob')]++hsel (λj=> !p j) h) k=hget (hset h i ob') k:=λk=>by
  rw [zcP,zx];simp only [hget];by_cases hk:i=k
  ·subst hk;rw [if_pos rfl,zh hg];rfl
  ·rw [if_neg hk,Option.none_or,zH (λe=>hk e.symm)];split
   ·rfl
   ·rename_i hpk;cases hh:hget h k with
    |none=>rfl
    |some o=>exact absurd (hpj k (by simp [hh]) (by simpa using hpk)).symm hk
 exact ⟨v,E',r,_,rfl,⟨rfl,rfl⟩,hs'.ext hex,znK hex hr',hev.ext (λ_=>rfl) hex (λk hk=>by
  rcases Nat.lt_or_ge k fl with hl|hl
  ·exact .inl hl
  ·exact .inr hl),λx y hxy=>znK hex (hmv x y hxy)⟩
def gop (cx:Cx) (tab:Tab) (owns:List FuncId) (nm:Nat) (s:AS) (G:Bool) (o:Oper) (R:Bool->AV->Ch->List Nat->Prop):Prop:=
 let other:=fop (atCx cx nm) tab s G o (λg v h'=>match chOf nm cx.P s o.op h' with|some (c,rd)=>R g v c rd|none=>False)
 match o.op with
 | .call c=>(match zbh cx.P s c with
  |some (f,args,vc)=>if owns.contains f=true then G=true/\vc/\AV.idsL args= []/\∃k rows,(∀fl,ACall cx.P f fl args [] (λr h'=>r= .osl fl k rows.length 0 rows.length/\h'= [(fl,.arr k rows)]))/\R true (.osl nm k rows.length 0 rows.length) (.new nm (.arr k rows)) []
   else if owns.contains (f+1000000)=true then G=true/\vc/\∃i fl1 ob r0 ob',hget s.h i=some ob/\i<fl1/\(∀j∈ob.ids,j=i)/\(∀j∈AV.idsL args,j=i)/\ACall cx.P f fl1 args [(i,ob)] (λr h'=>r=r0/\h'= [(i,ob')])/\R true r0 (.put i ob') []
   else if owns.contains (f+3000000)=true then G=true/\vc/\AV.idsL args= []/\∃j k rows d,ACall cx.P f 0 args [] (λr h'=>r= .tup [.osl j k rows.length 0 rows.length,.d d]/\h'= [(j,.arr k rows)])/\R true (.tup [.osl nm k rows.length 0 rows.length,.d d]) (.new nm (.arr k rows)) []
   else if owns.contains (f+2000000)=true then G=true/\vc/\∃i fl1 ob r0,hget s.h i=some ob/\i<fl1/\(∀j∈ob.ids,j=i)/\(∀j∈AV.idsL args,j=i)/\ACall cx.P f fl1 args [(i,ob)] (λr h'=>r=r0/\h'= [(i,ob)])/\R true r0 .none [i] else other
  |none=>other)
 |_=>other
def touch (a b:Option Nat×List Nat):Bool:=match a.1 with
 |none=>false
 |some i=>b.1==some i||b.2.contains i
def confG (all:Array Oper) (fa fb:Option Nat×List Nat) (a b:Oper):Bool:=
 (match a.dst with
  |some d=>(zkW all b).contains d||b.dst==some d
  |none=>false)||
 (match b.dst with
  |some d=>(zkW all a).contains d
  |none=>false)||
 (touch fa fb||touch fb fa)
def zen (ops:Array Oper) (F:List (Option Nat×List Nat)):Bool:=
 (List.range ops.size).all λj=>match ops[j]? with
  |some b=>(b.after.toList.all λe=> !Region.binds .any e||decide (e.on<j))&&(List.range j).all λi=>match ops[i]? with
   |some a=> !confG ops (F.getD i (none,[])) (F.getD j (none,[])) a b||anc ops (j+1) j i
   |none=>true
  |none=>true
def zwg (ops:Array Oper) (F:List (Option Nat×List Nat)):Bool:=(List.range F.length).all λi=>anc ops (F.length+1) F.length i
def zwh (op:Op):Bool:=match op with
 | .call c=>(match c.callee with| .builtin .copy=>true| .builtin .clear=>true|_=>false)
 | .mapUpdate _ _ _ _=>true
 | .box _ _=>true
 |_=>false
def gops (cx:Cx) (tab:Tab) (owns:List FuncId) (all:Array Oper):Nat->List Oper->List (Option Nat×List Nat)->(AS->Prop)->AS->Prop
 |_,[],F,K,s=>zen all F.reverse=true/\K s
 | nm,o::r,F,K,s=>match zbi s all o.guard with
  |some G=>if ((owns.contains 0||zwh o.op)&&r.isEmpty)=true then zen all F.reverse=true/\zwg all F.reverse=true/\aopT cx tab G o K s
   else dstOk cx.nt o.dst/\hget s.h nm=none/\gop cx tab owns nm s G o (λg v c rd=>gops cx tab owns all (nm+1) r ((c.at,rd)::F) K ({ s with h:=c.app s.h }.put o.dst g v))
  |none=>False
section
variable {cx : Cx} {tab : Tab} {owns : List FuncId} {ops : Array Oper} {s : AS}
structure GLoc (cx:Cx) (all:Array Oper) (s:AS) (r:RG):Prop where
 put:∀i ob,r.c= .put i ob->(hget s.h i).isSome
 new:∀i ob,r.c= .new i ob->hget s.h i=none
 step:∃G,zbi s all r.o.guard=some G/\∀s':AS,(∀x∈za1 r.o.op,s.ev x=s'.ev x/\known s x=known s' x)->zbi s' all r.o.guard=some G->zkX s.h r.c r.rd s'.h->
  ∀ (E:Env) (a:Act) (w:World) (K:AS->Prop) (Q:Exit->Act->World->Prop),Sat cx E s' a w->K ({ s' with h:=r.c.app s'.h }.put r.o.dst r.g r.v)->
   if Region.wanted r.o (yielded all a.tmps) then r.o.wpIn cx.F 0 cx.P a w (Reach cx E s'.h w K) Q else (∀f,r.o.about cx.P w a.eval=some f->cx.F.fn f)/\Reach cx E s'.h w K (a.put r.o.dst undef) w
def Shaped (nm:Nat) (h':AHeap) (c:Ch):Prop:=(∀i ob,c= .put i ob->hget h' i=some ob)/\(∀i ob,c= .new i ob->i=nm)
theorem ziz {nm:Nat} {h':AHeap} :Shaped nm h' .none:=by
 constructor
 ·intro i ob e;cases e
 ·intro i ob e;cases e
theorem zkh {nm:Nat} {h':AHeap} {ob:AObj} :Shaped nm h' (.new nm ob):=by
 constructor
 ·intro i ob e;cases e
 ·intro i ob e;cases e;rfl
theorem zqc {nm i:Nat} {h':AHeap} {ob:AObj} (h:hget h' i=some ob):Shaped nm h' (.put i ob):=by
 constructor
 ·intro i ob e;cases e;exact h
 ·intro i ob e;cases e
theorem ziA {nm:Nat} {h':AHeap} {c:Ch} {rd l:List Nat} (h:(hget h' nm).map (λob=>(Ch.new nm ob,l))=some (c,rd)):Shaped nm h' c:=by obtain ⟨ob,e1,e2⟩:=Option.map_eq_some_iff.1 h;cases e2;exact zkh
theorem ziB {nm i:Nat} {h':AHeap} {c:Ch} {rd l:List Nat} (h:(hget h' i).map (λob=>(Ch.put i ob,l))=some (c,rd)):Shaped nm h' c:=by obtain ⟨ob,e1,e2⟩:=Option.map_eq_some_iff.1 h;cases e2;exact zqc e1
theorem zbc {nm:Nat} {h':AHeap} {c:Ch} {rd l:List Nat} (h:some (Ch.none,l)=some (c,rd)):Shaped nm h' c:=by cases h;exact ziz
theorem zuv {nm:Nat} {P:Program} {op:Op} {h':AHeap} {c:Ch} {rd:List Nat} (hc:chOf nm P s op h'=some (c,rd)):Shaped nm h' c:=by
 unfold chOf at hc;split at hc
 case h_1=>exact ziA hc
 case h_2=>
  simp only [Option.some.injEq] at hc;split at hc
  ·cases hc;exact zkh
  ·cases hc;exact ziz
 case h_3=>exact ziA hc
 case h_4=>exact zbc hc
 case h_5=>exact zbc hc
 case h_6=>exact zbc hc
 case h_7=>exact zbc hc
 case h_8=>
  split at hc
  ·split at hc
   ·split at hc
    ·exact ziB hc
    ·cases hc
   ·cases hc
  ·split at hc
   ·exact zbc hc
   ·cases hc
  ·exact zbc hc
  ·exact zbc hc
  ·split at hc
   ·exact zbc hc
   ·cases hc
  ·cases hc
 case h_9=>
  split at hc
  ·exact zbc hc
  ·split at hc
   ·exact ziB hc
   ·exact zbc hc
  ·cases hc
theorem zwL (ht:TabOk cx.P tab) {nm:Nat} {G:Bool} {o:Oper} {R:Bool->AV->Ch->List Nat->Prop} (hG:zbi s ops o.guard=some G) (hd:dstOk cx.nt o.dst) (hnm:hget s.h nm=none) (hl:cx.fl<=nm) (h:gop cx tab owns nm s G o R):
  ∃g v c rd,R g v c rd/\GLoc cx ops s ⟨o,g,v,c,rd⟩:=by
 have other:fop (atCx cx nm) tab s G o (λg v h'=>match chOf nm cx.P s o.op h' with|some (c,rd)=>R g v c rd|none=>False)->∃g v c rd,R g v c rd/\GLoc cx ops s ⟨o,g,v,c,rd⟩:=by
  intro h;obtain ⟨g,v,h',h1,h2,h3⟩:=zwJ h;split at h1
  ·rename_i c rd hc;obtain ⟨q1,q2⟩:=zuu hnm h2 h3 hc;obtain ⟨p1,p2⟩:=zuv hc;refine ⟨g,v,c,rd,h1,λi ob e=>?_,λi ob e=>?_,G,hG,?_⟩
   ·have hi:=p1 i ob e;have e:c= .put i ob:=e;rw [q1,e] at hi;cases hh:hget s.h i with
    |none=>simp only [Ch.app] at hi;rw [zgC hh,hh] at hi;cases hi
    |some o=>rfl
   ·have e:c= .new i ob:=e;rw [p2 i ob e];exact hnm
   ·intro s' hev hgd hgood E a w K Q hs hK;dsimp only at hev hgd hgood hK ⊢
    have hf:fop (atCx cx nm) tab s' G o (λg v h'=>K ({ s' with h:=h' }.put o.dst g v)):=by
     refine fop_e (s:= { s with h:=s'.h }) (λx hx=>?_) rfl (q2 s'.h hgood _ hK);have:=hev x hx;have e1:AS.ev { s with h:=s'.h } x=s.ev x:=by cases x<;>rfl
     have e2:known { s with h:=s'.h } x=known s x:=by cases x<;>rfl
     rw [e1,e2];exact this
    have hw:=ziq (cx:=atCx cx nm) ht (Q:=λ_ _ _=>False) (E:=E) hs.at hgd (zum (K:=K) hd hf);split at hw
    ·rename_i hwt;rw [if_pos hwt];exact zbx hw (λa w hr=>hr.un hl)
    ·rename_i hwt;rw [if_neg hwt];exact ⟨hw.1,hw.2.un hl⟩
  ·exact h1.elim
 unfold gop at h;dsimp only at h;split at h
 ·rename_i c hop;split at h
  ·rename_i f args vc hco;split at h
   ·obtain ⟨rfl,hvc,hids,k,rows,hcall,hR⟩:=h;refine ⟨true,_,_,_,hR,(by intro i ob e;cases e),(by intro i ob e;cases e;exact hnm),true,hG,?_⟩;intro s' hev hgd hgood E a w K Q hs hK;dsimp only at hev hgd hgood hK ⊢;rw [hop] at hev
    have hnv:¬isVal cx.P (.call c)=true:=by
     obtain ⟨fo,hcal⟩:∃fo,c.callee= .value fo:=by unfold zbh at hco;cases hc:c.callee<;>rw [hc] at hco<;>first|exact ⟨_,rfl⟩|cases hco
     simp [isVal,zcL,hcal]
    have hco':zbh cx.P s' c=some (f,args,vc):=by rw [<-zgB (λx hx=>(hev x hx).1)];exact hco
    rw [zev hs.slots hgd];simp only [if_true];refine zg8 hs hd ?_;unfold aop1;rw [hop];simp only [if_neg hnv,hco'];refine ⟨hvc,(zwf (ds:= []) (hcall 0) hids hgood.2 hl).mono ?_⟩;rintro r' h' ⟨rfl,rfl⟩;exact hK
   split at h
   ·obtain ⟨rfl,hvc,i,fl1,ob,r0,ob',hgi,hil,hcl,ha,hcall,hR⟩:=h;refine ⟨true,_,_,_,hR,(by intro i ob e;cases e;simp [hgi]),(by intro i ob e;cases e),true,hG,?_⟩;intro s' hev hgd hgood E a w K Q hs hK;dsimp only at hev hgd hgood hK ⊢;rw [hop] at hev
    have hnv:¬isVal cx.P (.call c)=true:=by
     obtain ⟨fo,hcal⟩:∃fo,c.callee= .value fo:=by unfold zbh at hco;cases hc:c.callee<;>rw [hc] at hco<;>first|exact ⟨_,rfl⟩|cases hco
     simp [isVal,zcL,hcal]
    have hco':zbh cx.P s' c=some (f,args,vc):=by rw [<-zgB (λx hx=>(hev x hx).1)];exact hco
    rw [zev hs.slots hgd];simp only [if_true];refine zg8 hs hd ?_;unfold aop1;rw [hop];simp only [if_neg hnv,hco'];refine ⟨hvc,(zdc hcall hil (hgood.2.trans hgi) hcl ha).mono ?_⟩;rintro r' h' ⟨rfl,rfl⟩;exact hK
   split at h
   ·obtain ⟨rfl,hvc,hids,j,k,rows,d,hcall,hR⟩:=h;refine ⟨true,_,_,_,hR,(by intro i ob e;cases e),(by intro i ob e;cases e;exact hnm),true,hG,?_⟩;intro s' hev hgd hgood E a w K Q hs hK;dsimp only at hev hgd hgood hK ⊢;rw [hop] at hev
    have hnv:¬isVal cx.P (.call c)=true:=by
     obtain ⟨fo,hcal⟩:∃fo,c.callee= .value fo:=by unfold zbh at hco;cases hc:c.callee<;>rw [hc] at hco<;>first|exact ⟨_,rfl⟩|cases hco
     simp [isVal,zcL,hcal]
    have hco':zbh cx.P s' c=some (f,args,vc):=by rw [<-zgB (λx hx=>(hev x hx).1)];exact hco
    rw [zev hs.slots hgd];simp only [if_true];refine zg8 hs hd ?_;unfold aop1;rw [hop];simp only [if_neg hnv,hco'];refine ⟨hvc,(zwf (ds:= [d]) hcall hids hgood.2 hl).mono ?_⟩;rintro r' h' ⟨rfl,rfl⟩;exact hK
   split at h
   ·obtain ⟨rfl,hvc,i,fl1,ob,r0,hgi,hil,hcl,ha,hcall,hR⟩:=h;refine ⟨true,_,_,_,hR,(by intro i ob e;cases e),(by intro i ob e;cases e),true,hG,?_⟩;intro s' hev hgd hgood E a w K Q hs hK;dsimp only at hev hgd hgood hK ⊢;rw [hop] at hev
    have hnv:¬isVal cx.P (.call c)=true:=by
     obtain ⟨fo,hcal⟩:∃fo,c.callee= .value fo:=by unfold zbh at hco;cases hc:c.callee<;>rw [hc] at hco<;>first|exact ⟨_,rfl⟩|cases hco
     simp [isVal,zcL,hcal]
    have hco':zbh cx.P s' c=some (f,args,vc):=by rw [<-zgB (λx hx=>(hev x hx).1)];exact hco
    rw [zev hs.slots hgd];simp only [if_true];refine zg8 hs hd ?_;unfold aop1;rw [hop];simp only [if_neg hnv,hco'];have hgs:=(hgood.1 i (by simp)).trans hgi;refine ⟨hvc,(zdc hcall hil hgs hcl ha).mono ?_⟩;rintro r' h' ⟨rfl,rfl⟩;rw [zg6 hgs];exact hK
   ·exact other h
  ·exact other h
 ·exact other h
def OutsG (cx:Cx) (all:Array Oper) (L:List RG) (s:AS):Prop:=∀ (i:Nat) (r:RG),L[i]?=some r->GLoc cx all (lexG L i s) r
def endG (cx:Cx) (tab:Tab) (ops:Array Oper) (L:List RG) (K:AS->Prop) (s:AS):Option Oper->Prop
 |none=>K s
 |some z=>(∀i,i<L.length->anc ops (L.length+1) L.length i=true)/\∃G,zbi s ops z.guard=some G/\aopT cx tab G z K s
theorem zmg (ht:TabOk cx.P tab):∀ (l:List Oper) (nm:Nat) (F:List RG) {K:AS->Prop} {s:AS},cx.fl<=nm->gops cx tab owns ops nm l (F.map (λr=>(r.c.at,r.rd))).reverse K s->
  ∃ (L:List RG) (T:Option Oper),L.map (·.o)++T.toList=l/\zen ops ((F++L).map (λr=>(r.c.at,r.rd)))=true/\endG cx tab ops (F++L) K (lexG L L.length s) T/\OutsG cx ops L s
 | [],nm,F,K,s,_,h=>⟨[],none,rfl,by simpa using h.1,h.2,λi r hr=>by simp at hr⟩
 | o::l,nm,F,K,s,hl,h=>by
  simp only [gops] at h;split at h
  ·rename_i G hG;split at h
   ·rename_i hq;simp only [Bool.and_eq_true,List.isEmpty_iff] at hq;obtain ⟨_,rfl⟩:=hq;obtain ⟨h1,h2,h3⟩:=h;rw [List.reverse_reverse] at h1 h2;refine ⟨[],some o,rfl,by simpa using h1,⟨λi hi=>?_,G,by rw [show ([]:List RG).length=0 from rfl,zdR];exact hG,by rw [show ([]:List RG).length=0 from rfl,zdR];exact h3⟩,λi r hr=>by simp at hr⟩;rw [List.append_nil] at hi ⊢;have:=List.all_eq_true.1 h2 i (by simpa using hi);simpa using this
   obtain ⟨hd,hnm,h⟩:=h;obtain ⟨g,v,c,rd,h1,h2⟩:=zwL ht hG hd hnm hl h;obtain ⟨L,T,q1,q2,q3,q4⟩:=zmg ht l (nm+1) (F++ [⟨o,g,v,c,rd⟩]) (by omega) (by simpa using h1);rw [List.append_assoc,List.singleton_append] at q2 q3;refine ⟨⟨o,g,v,c,rd⟩::L,T,by simp [q1],q2,by rw [List.length_cons,zfp];exact q3,λi r hr=>?_⟩;cases i with
   |zero=>
    have:RG.mk o g v c rd=r:=by simpa using hr
    subst this;rw [zdR];exact h2
   |succ i=>
    rw [zfp];exact q4 i r (by simpa using hr)
  ·exact h.elim
theorem zpg {F:List (Option Nat×List Nat)} (hd:zen ops F=true) {i j:Nat} {a b:Oper} (hij:i<j) (ha:ops[i]?=some a) (hb:ops[j]?=some b) (hc:confG ops (F.getD i (none,[])) (F.getD j (none,[])) a b=true):anc ops (j+1) j i=true:=by unfold zen at hd;have hj:j<ops.size:=(Array.getElem?_eq_some_iff.1 hb).1;have:=List.all_eq_true.1 hd j (by simpa using hj);rw [hb] at this;simp only [Bool.and_eq_true] at this;have:=List.all_eq_true.1 this.2 i (by simpa using hij);rw [ha] at this;dsimp only at this;rw [hc] at this;simpa using this
theorem zuw {F:List (Option Nat×List Nat)} (hd:zen ops F=true) {j:Nat} {b:Oper} (hb:ops[j]?=some b):∀e∈b.after.toList,Region.binds .any e=true->e.on<j:=by unfold zen at hd;have hj:j<ops.size:=(Array.getElem?_eq_some_iff.1 hb).1;have:=List.all_eq_true.1 hd j (by simpa using hj);rw [hb] at this;simp only [Bool.and_eq_true] at this;intro e he hbi;have:=List.all_eq_true.1 this.1 e he;simpa [hbi] using this
theorem znL {F:List (Option Nat×List Nat)} {listed:Array Bool} (hd:zen ops F=true) (hsz:listed.size=ops.size) (hr:Region.ready .any ops listed= []):∀i,i<ops.size→listed.getD i false=true:=by
 intro i
 induction i using Nat.strongRecOn with
 | _ i ih=>
  intro hi
  cases hl:listed.getD i false with
  |true=>rfl
  | false=>
   have hmem:i∈Region.ready .any ops listed:=by
    refine mem_ready.2 ⟨?_,ops[i],by simp [hi],fun e he hb=>?_⟩
    ·rw [Array.getD_eq_getD_getElem?] at hl ⊢
     rw [Array.getElem?_eq_getElem (by omega)] at hl ⊢
     exact hl
    ·have:=zuw hd (j:=i) (b:=ops[i]) (Array.getElem?_eq_getElem hi) e (Array.mem_toList_iff.2 he) hb
     exact ih _ this (by omega)
   rw [hr] at hmem
   cases hmem
theorem zkZ {a b:Option Nat×List Nat} {k:Nat} (ha:a.1=some k) (hb:b.1=some k\/k∈b.2):touch a b=true:=by
 unfold touch;rw [ha];rcases hb with hb|hb
 ·simp [hb]
 ·simp [hb]
theorem zr6 (ht:TabOk cx.P tab) {L:List RG} {T:Option Oper} (hd:zen ops (L.map (fun r=>(r.c.at,r.rd)))=true) (hL:L.map (·.o)++T.toList=ops.toList) {s0:AS} (ho:OutsG cx ops L s0) {E0:Env} {w0:World} {K:AS→Prop} (hK:endG cx tab ops L K (lexG L L.length s0) T):
  ∀ (fuel:Nat) (listed:Array Bool) (E:Env) (a:Act) (w:World),listed.size=ops.size→listed.toList.countP (fun b=>b==false)=fuel→
   (∀ (i:Nat) o,ops[i]?=some o→listed.getD i false=true→∀e∈o.after.toList,Region.binds .any e=true→listed.getD e.on false=true)→(T≠none→listed.getD L.length false=false)→
   Sat cx E (selG L (fun i=>listed.getD i false) s0) a w→Evo cx.fl E0 s0.h w0 E (selG L (fun i=>listed.getD i false) s0).h w→
   wpAnyIn cx.F 0 cx.P .any ops (fun e a' w'=>e= .normal∧Reach cx E0 s0.h w0 K a' w') fuel listed a w:=by
 have hlen:L.length+T.toList.length=ops.size:=by
  have:=congrArg List.length hL
  simpa using this
 have hget:∀ (l:Nat) (r:RG),L[l]?=some r→ops[l]?=some r.o:=fun l r hr=>by
  have hl:l<L.length:=(List.getElem?_eq_some_iff.1 hr).1
  have:=congrArg (fun x:List Oper=>x[l]?) hL
  simp only [List.getElem?_append_left (show l<(L.map (·.o)).length by simpa using hl),List.getElem?_map,hr,Option.map_some,Array.getElem?_toList] at this
  exact this.symm
 have hfoot:∀ (l:Nat) (r:RG),L[l]?=some r→(L.map (fun r=>(r.c.at,r.rd))).getD l (none,[])=(r.c.at,r.rd):=fun l r hr=>by simp [List.getD_eq_getElem?_getD,hr]
 have full:∀ (listed:Array Bool) (E:Env) (a:Act) (w:World),(∀i,i<L.length→listed.getD i false=true)→Sat cx E (selG L (fun i=>listed.getD i false) s0) a w→Evo cx.fl E0 s0.h w0 E (selG L (fun i=>listed.getD i false) s0).h w→
   Sat cx E (lexG L L.length s0) a w∧Evo cx.fl E0 s0.h w0 E (lexG L L.length s0).h w:=by
  intro listed E a w hall hs he
  have hSS:∀ (i:Nat) (r:RG),L[i]?=some r→listed.getD i false=decide (i<L.length):=fun i r hr=>by
   have hi:i<L.length:=(List.getElem?_eq_some_iff.1 hr).1
   rw [hall i (by omega),decide_eq_true hi]
  have hh:∀k,Go.Aw.hget (selG L (fun i=>listed.getD i false) s0).h k=Go.Aw.hget (lexG L L.length s0).h k:=fun k=>zgE k L _ _ _ _ rfl (fun i r hr _=>hSS i r hr)
  refine ⟨hs.ext (fun k=>zix (Q:=fun _=>True) L _ _ _ _ (fun _ _=>rfl) (fun i r hr _=>hSS i r hr) k trivial) hh ?_,he.ext hh⟩
  unfold lexG
  rw [zmd,zmd]
 have done:∀ (listed:Array Bool) (E:Env) (a:Act) (w:World),(∀i,i<ops.size→listed.getD i false=true)→(T≠none→listed.getD L.length false=false)→Sat cx E (selG L (fun i=>listed.getD i false) s0) a w→Evo cx.fl E0 s0.h w0 E (selG L (fun i=>listed.getD i false) s0).h w→
   (Exit.normal=Exit.normal∧Reach cx E0 s0.h w0 K a w):=by
  intro listed E a w hall hT hs he
  cases T with
  |some z=>
   have:=hT (by simp)
   rw [hall L.length (by simp at hlen;omega)] at this
   cases this
  |none=>
   obtain ⟨h1,h2⟩:=full listed E a w (fun i hi=>hall i (by omega)) hs he
   exact ⟨rfl,E,lexG L L.length s0,hK,h1,h2⟩
 have hr0:∀listed:Array Bool,listed.size=ops.size→(∀i,i<ops.size→listed.getD i false=true)→Region.ready .any ops listed= []:=by
  intro listed hsz hall
  cases hr:Region.ready .any ops listed with
  |nil=>rfl
  |cons i l=>
   have hi:i∈Region.ready .any ops listed:=by rw [hr];simp
   obtain ⟨h1,o,h2,_⟩:=mem_ready.1 hi
   have hlt:i<ops.size:=(Array.getElem?_eq_some_iff.1 h2).1
   have h3:=hall i hlt
   rw [Array.getD_eq_getD_getElem?,Array.getElem?_eq_getElem (by omega)] at h1 h3
   simp only [Option.getD_some] at h1 h3
   rw [h1] at h3;cases h3
 intro fuel
 induction fuel with
 | zero=>
  intro listed E a w hsz hc hcl hT hs he
  have hall:∀i,i<ops.size→listed.getD i false=true:=fun i hi=>by
   have h0:=List.countP_eq_zero.1 hc (listed[i]'(by omega)) (by simp)
   rw [Array.getD_eq_getD_getElem?,Array.getElem?_eq_getElem (by omega)]
   simpa using h0
  exact ⟨hr0 listed hsz hall,done listed E a w hall hT hs he⟩
 | succ fuel ih=>
  intro listed E a w hsz hc hcl hT hs he
  refine ⟨fun hr=>done listed E a w (znL hd hsz hr) hT hs he,fun i hi=>?_⟩
  obtain ⟨hun,o,hoi,hdep⟩:=mem_ready.1 hi
  have hlt:i<ops.size:=(Array.getElem?_eq_some_iff.1 hoi).1
  have hun':listed[i]?=some false:=by
   rw [Array.getD_eq_getD_getElem?,Array.getElem?_eq_getElem (by omega)] at hun
   rw [Array.getElem?_eq_getElem (by omega)]
   simpa using hun
  have hSi:listed.getD i false=false:=by rw [Array.getD_eq_getD_getElem?,hun'];rfl
  have hdep':∀o',ops[i]?=some o'→∀e∈o'.after.toList,Region.binds .any e=true→listed.getD e.on false=true:=fun o' ho' e he' hb=>by
   rw [hoi] at ho';cases ho'
   exact hdep e (by simpa using he') hb
  rcases Nat.lt_or_ge i L.length with hiL|hiL
  rotate_left
  ·-- the last one
   cases T with
   |none=>simp at hlen;omega
   | some z=>
    simp only [Option.toList_some,List.length_singleton] at hlen
    obtain rfl:i=L.length:=by omega
    have hoz:o=z:=by
     have:=congrArg (fun x:List Oper=>x[L.length]?) hL
     simp only [Option.toList_some] at this
     rw [List.getElem?_append_right (by simp)] at this
     simp only [List.length_map,Nat.sub_self,List.getElem?_cons_zero,Array.getElem?_toList] at this
     rw [hoi] at this
     exact (Option.some.inj this).symm
    subst hoz
    obtain ⟨hanc,G,hG,hz⟩:=hK
    have hall:∀l,l<L.length→listed.getD l false=true:=fun l hl=>zfJ (S:=fun i=>listed.getD i false) hcl _ L.length l (hanc l hl) hdep'
    obtain ⟨hs1,he1⟩:=full listed E a w hall hs he
    have hw:=ziq (Q:=fun _ _ _=>False) ht hs1 hG hz
    have hS':∀k,(listed.setIfInBounds L.length true).getD k false=if k=L.length then true else listed.getD k false:=fun k=>zpd listed L.length k (by omega)
    have hall':∀l,l<ops.size→(listed.setIfInBounds L.length true).getD l false=true:=fun l hl=>by
     rw [hS'];split
     ·rfl
     ·exact hall l (by omega)
    have hc':=zis listed L.length fuel hun' hc
    have hf0:fuel=0:=by
     rw [← hc',List.countP_eq_zero]
     intro b hb
     obtain ⟨k,hk,rfl⟩:=List.getElem_of_mem hb
     have hk':k<ops.size:=by simp at hk;omega
     have:=hall' k hk'
     rw [Array.getD_eq_getD_getElem?,Array.getElem?_eq_getElem (by simpa using hk)] at this
     rw [Array.getElem_toList]
     simp only [Option.getD_some] at this
     rw [this]
     decide
    have next:∀a1 w1,Reach cx E (lexG L L.length s0).h w K a1 w1→wpAnyIn cx.F 0 cx.P .any ops (fun e a' w'=>e= .normal∧Reach cx E0 s0.h w0 K a' w') fuel (listed.setIfInBounds L.length true) a1 w1:=by
     rintro a1 w1 ⟨E1,s1,hk1,hs2,he2⟩
     subst hf0
     exact ⟨hr0 _ (by simpa using hsz) hall',rfl,E1,s1,hk1,hs2,he1.trans he2⟩
    unfold wpOpIn
    rw [hoi]
    dsimp only
    split at hw
    ·rename_i hwt
     rw [if_pos hwt]
     exact zbx hw next
    ·rename_i hwt
     rw [if_neg hwt]
     exact ⟨hw.1,next _ _ hw.2⟩
  obtain ⟨r,hr⟩:∃r,L[i]?=some r:=⟨_,List.getElem?_eq_getElem hiL⟩
  have hro:r.o=o:=Option.some.inj ((hget i r hr).symm.trans hoi)
  subst hro
  obtain ⟨hput,hnew,G,hG,hstep⟩:=ho i r hr
  have before:∀ (l:Nat) (r':RG),L[l]?=some r'→l<i→confG ops (r'.c.at,r'.rd) (r.c.at,r.rd) r'.o r.o=true→listed.getD l false=true:=fun l r' hr' hl hcf=>
   zfJ (S:=fun i=>listed.getD i false) hcl _ i l (zpg hd hl (hget l r' hr') hoi (by rw [hfoot l r' hr',hfoot i r hr];exact hcf)) hdep'
  have behind:∀ (l:Nat) (r':RG),L[l]?=some r'→i<l→confG ops (r.c.at,r.rd) (r'.c.at,r'.rd) r.o r'.o=true→listed.getD l false=false:=fun l r' hr' hl hcf=>by
   cases hSl:listed.getD l false with
   |false=>rfl
   |true=>
    have:=zfJ (S:=fun i=>listed.getD i false) hcl _ l i (zpg hd hl hoi (hget l r' hr') (by rw [hfoot l r' hr',hfoot i r hr];exact hcf)) (fun o' ho'=>hcl l o' ho' hSl)
    rw [hSi] at this;cases this
  have agree:∀ (l:Nat) (r':RG),L[l]?=some r'→(l<i→confG ops (r'.c.at,r'.rd) (r.c.at,r.rd) r'.o r.o=true)→(i<l→confG ops (r.c.at,r.rd) (r'.c.at,r'.rd) r.o r'.o=true)→listed.getD l false=decide (l<i):=fun l r' hr' h1 h2=>by
   rcases Nat.lt_trichotomy l i with h|h|h
   ·rw [before l r' hr' h (h1 h),decide_eq_true h]
   ·subst h;rw [hSi];simp
   ·rw [behind l r' hr' h (h2 h),decide_eq_false (by omega)]
  have hslots:∀k,k∈zkW ops r.o→lk (selG L (fun i=>listed.getD i false) s0).t k=lk (lexG L i s0).t k:=
   zix (Q:=fun k=>k∈zkW ops r.o) L _ _ _ _ (fun _ _=>rfl) (fun l r' hr' ⟨d,hd1,hd2⟩=>agree l r' hr'
    (fun _=>by unfold confG;rw [hd1];simp [hd2])
    (fun _=>by unfold confG;rw [hd1];simp [hd2]))
  have hev:=zuq (s:=lexG L i s0) (s':=selG L (fun i=>listed.getD i false) s0) (l:=za1 r.o.op) (fun k hk=>(hslots k (List.mem_append_left _ hk)).symm)
  have hgd:zbi (selG L (fun i=>listed.getD i false) s0) ops r.o.guard=some G:=by
   rw [← hG]
   exact znJ (fun k hk=>hslots k (List.mem_append_right _ hk))
  have hname:∀k,r.c.at=some k∨k∈r.rd→Go.Aw.hget (selG L (fun i=>listed.getD i false) s0).h k=Go.Aw.hget (lexG L i s0).h k:=fun k hk=>
   zgE k L _ _ _ _ rfl (fun l r' hr' hm=>agree l r' hr'
    (fun _=>by
     have:=zkZ (a:=(r'.c.at,r'.rd)) (b:=(r.c.at,r.rd)) hm hk
     unfold confG;simp [this])
    (fun _=>by
     have:=zkZ (a:=(r'.c.at,r'.rd)) (b:=(r.c.at,r.rd)) hm hk
     unfold confG;simp [this]))
  have hgood:zkX (lexG L i s0).h r.c r.rd (selG L (fun i=>listed.getD i false) s0).h:=by
   refine ⟨fun k hk=>hname k (.inr hk),?_⟩
   cases hcc:r.c with
   |none=>trivial
   |put k ob=>exact hname k (.inl (by rw [hcc];rfl))
   |new k ob=>exact (hname k (.inl (by rw [hcc];rfl))).trans (hnew k ob hcc)
  have hw:=hstep (selG L (fun i=>listed.getD i false) s0) hev hgd hgood E a w (fun t=>t=({ selG L (fun i=>listed.getD i false) s0 with h:=r.c.app (selG L (fun i=>listed.getD i false) s0).h } :AS).put r.o.dst r.g r.v) (fun _ _ _=>False) hs rfl
  have next:∀a1 w1,Reach cx E (selG L (fun i=>listed.getD i false) s0).h w (fun t=>t=({ selG L (fun i=>listed.getD i false) s0 with h:=r.c.app (selG L (fun i=>listed.getD i false) s0).h } :AS).put r.o.dst r.g r.v) a1 w1→
    wpAnyIn cx.F 0 cx.P .any ops (fun e a' w'=>e= .normal∧Reach cx E0 s0.h w0 K a' w') fuel (listed.setIfInBounds i true) a1 w1:=by
   rintro a1 w1 ⟨E1,s1,rfl,hs1,he1⟩
   have hS':∀k,(listed.setIfInBounds i true).getD k false=if k=i then true else listed.getD k false:=fun k=>zpd listed i k (by omega)
   have hfun:(fun k=>(listed.setIfInBounds i true).getD k false)=fun k=>if k=i then true else listed.getD k false:=funext hS'
   have hputh:(({ selG L (fun i=>listed.getD i false) s0 with h:=r.c.app (selG L (fun i=>listed.getD i false) s0).h } :AS).put r.o.dst r.g r.v).h=r.c.app (selG L (fun i=>listed.getD i false) s0).h:=by unfold AS.put;cases r.o.dst<;>rfl
   have hputg:(({ selG L (fun i=>listed.getD i false) s0 with h:=r.c.app (selG L (fun i=>listed.getD i false) s0).h } :AS).put r.o.dst r.g r.v).g=(selG L (fun i=>listed.getD i false) s0).g:=by unfold AS.put;cases r.o.dst<;>rfl
   have agree':∀ (l:Nat) (r':RG),L[l]?=some r'→(l<i→confG ops (r'.c.at,r'.rd) (r.c.at,r.rd) r'.o r.o=true)→(i<l→confG ops (r.c.at,r.rd) (r'.c.at,r'.rd) r.o r'.o=true)→(listed.setIfInBounds i true).getD l false=decide (l<i+1):=fun l r' hr' h1 h2=>by
    rw [hS']
    rcases Nat.lt_trichotomy l i with h|h|h
    ·rw [if_neg (by omega),before l r' hr' h (h1 h),decide_eq_true (by omega)]
    ·subst h;rw [if_pos rfl];simp
    ·rw [if_neg (by omega),behind l r' hr' h (h2 h),decide_eq_false (by omega)]
   have hlk':∀k,lk (({ selG L (fun i=>listed.getD i false) s0 with h:=r.c.app (selG L (fun i=>listed.getD i false) s0).h } :AS).put r.o.dst r.g r.v).t k=lk (selG L (fun k=>(listed.setIfInBounds i true).getD k false) s0).t k:=by
    intro k
    rw [zr0]
    split
    ·rename_i hk
     have e1:lk (selG L (fun k=>(listed.setIfInBounds i true).getD k false) s0).t k=lk (lexG L (i+1) s0).t k:=
      zix (Q:=fun j=>j=k) L _ _ _ _ (fun _ _=>rfl) (fun l r' hr' ⟨d,hd1,hd2⟩=>agree' l r' hr'
       (fun _=>by unfold confG;rw [hd1,hk,hd2];simp)
       (fun _=>by unfold confG;rw [hd1,hk,hd2];simp)) k rfl
     rw [e1,zme L i s0 r hr,zkY,if_pos hk]
    ·rename_i hk
     refine zix (Q:=fun j=>j=k) L _ _ _ _ (fun _ _=>rfl) (fun l r' hr' ⟨d,hd1,hd2⟩=>?_) k rfl
     rw [hS',if_neg]
     intro e
     subst e
     rw [hr] at hr';cases hr'
     rw [hd2] at hd1
     exact hk hd1
   have hheap:∀k,Go.Aw.hget (({ selG L (fun i=>listed.getD i false) s0 with h:=r.c.app (selG L (fun i=>listed.getD i false) s0).h } :AS).put r.o.dst r.g r.v).h k=Go.Aw.hget (selG L (fun k=>(listed.setIfInBounds i true).getD k false) s0).h k:=by
    intro k
    rw [hputh,hfun]
    refine (zr5 k L i r (fun i=>listed.getD i false) s0 hr hSi (fun l r' hr' hl hsl hk hk'=>?_)).symm
    have:=behind l r' hr' hl (by
     have:=zkZ (a:=(r.c.at,r.rd)) (b:=(r'.c.at,r'.rd)) hk (.inl hk')
     unfold confG;simp [this])
    rw [hsl] at this;cases this
   refine ih (listed.setIfInBounds i true) E1 a1 w1 (by simpa using hsz) (zis listed i fuel hun' hc) ?_ (fun h=>by rw [hS',if_neg (by omega)];exact hT h) (hs1.ext hlk' hheap (by rw [hputg,zmd,zmd])) ?_
   ·intro l o' ho' hSl e he' hb
    rw [hS'] at hSl ⊢
    split
    ·rfl
    ·split at hSl
     ·rename_i hli
      subst hli
      exact hdep' o' ho' e he' hb
     ·exact hcl l o' ho' hSl e he' hb
   ·exact (he.trans he1).ext hheap
  unfold wpOpIn
  rw [hoi]
  dsimp only
  split at hw
  ·rename_i hwt
   rw [if_pos hwt]
   exact zbx hw next
  ·rename_i hwt
   rw [if_neg hwt]
   exact ⟨hw.1,next _ _ hw.2⟩
theorem zbJ {id:Nat} {Q:Exit->AS->Prop} (tab:Tab) (owns:List FuncId) (ht:TabOk cx.P tab) (hm:cx.P.follows .mixedOrders=true) (h:gops cx tab owns ops (top cx.fl s.h) ops.toList [] (Q .normal) s):AW cx (.region id ops true) Q s:=by
 intro E a w hs;obtain ⟨L,T,hL,hd,hK,ho⟩:=zmg ht ops.toList _ [] (zgx _ _) h;have hs':=hs.drawn;have hev:Evo cx.fl E s.h w E s.h { w with drawn:=w.drawn+1 } :=⟨rfl,rfl,rfl,Nat.le_refl _,λ_ _ _ _=>rfl,λ_ h=> .inl h,λ_ h=>h,λ_ h=> .inl h,rfl,λi _ h=>⟨h,GoesOn.refl E _ i⟩⟩
 have h0:∀i,(Array.replicate ops.size false).getD i false=false:=λi=>by rw [Array.getD_eq_getD_getElem?,Array.getElem?_replicate];split<;>rfl
 have hsel:selG L (λi=>(Array.replicate ops.size false).getD i false) s=s:=by
  have:(λi=>(Array.replicate ops.size false).getD i false)=λi=>decide (i<0):=by funext i;rw [h0];simp
  rw [this];exact zdR L s
 refine wpIn_mono (wpIn_region_any hm (zr6 ht (by simpa using hd) hL ho hK ops.size (Array.replicate ops.size false) E a _ (by simp) (by rw [Array.toList_replicate,List.countP_replicate];rfl) (λi o _ hi=>by rw [h0] at hi;cases hi) (λ_=>h0 _) (by rw [hsel];exact hs') (by rw [hsel];exact hev))) ?_;rintro e a' w' ⟨rfl,hr⟩;exact hr
theorem zbr {id:Nat} {y:Code} {Q:Exit->AS->Prop} (tab:Tab) (owns:List FuncId) (ht:TabOk cx.P tab) (hm:cx.P.follows .mixedOrders=true) (h:∀K,(∀s',AW cx y Q s'->K s')->gops cx tab owns ops (top cx.fl s.h) ops.toList [] K s):AW cx (.seq (.region id ops true) y) Q s:=
 zaM λK hK=>zbJ tab owns ht hm (h K hK)
end
attribute [go_sem] gops zwh gop chOf Ch.app Ch.at atCx isEff List.contains_cons List.contains_nil Option.map_some List.isEmpty_cons List.isEmpty_nil
attribute [go_sem] foot footA footL List.reverse_cons List.reverse_nil
end Go.Aw
