/-
  Parts of the proof: AwDraw8, AwLin, AwOne, AwScope, AwSt, AwRng, AwPeek, AwConv, Ty, Shelf, LibS, OnceA, OnceB, CrcA, CrcB, CrcE, CrcPB, CrcR, CrcRE, BldA, BldB (short names; the readable texts lie in the repo, under wip).
-/
import Derived.Test.YtbmlikkofegdeaaGreatPart3
import Derived.ScopeJumps
import Derived.KernelRfl
import Derived.Test.YtbmlikkofegdeaaGreatPart2
import Derived.Test.YtbmlikkofegdeaaGreatProg
import Derived.Shelf.Strings.Prefix
import Derived.Shelf.Strings.Repeat
import Derived.WalkKit
import Derived.Tactics
import Derived.Tactics2
import Derived.Defers
import Derived.Laws.Pointers
import Derived.Laws.LoneSync
import Derived.RegionTactic
import Derived.RegionCalls
import Derived.ChangeAlike
import Derived.Lib.Builder
import Derived.Lib.UnsafeStr
import Derived.Laws.Externs
import Derived.Lib.AppendStr
import Derived.Lib.Strings
import Derived.Lib.Slices
set_option maxRecDepth 100000
set_option maxHeartbeats 2000000
set_option linter.unusedSimpArgs false
set_option linter.unusedVariables false
namespace Go.Aw
open Go
structure RG where
 o:Oper
 g:Bool
 v:AV
 c:Ch
 rd:List Nat
def appG (s:AS) (r:RG):AS:= { s with h:=r.c.app s.h }.put r.o.dst r.g r.v
def selG:List RG→(Nat→Bool)→AS→AS
 | [],_,s=>s
 |x::L,S,s=>selG L (fun i=>S (i+1)) (if S 0=true then appG s x else s)
def lexG (L:List RG) (n:Nat) (s:AS):AS:=selG L (fun i=>decide (i<n)) s
theorem zg1 (s:AS) (r:RG):(appG s r).h=r.c.app s.h:=by
 unfold appG AS.put;cases r.o.dst<;>rfl
theorem zrt (s:AS) (r:RG):(appG s r).g=s.g:=by
 unfold appG AS.put;cases r.o.dst<;>rfl
theorem zhA (s:AS) (r:RG) (k:Nat):lk (appG s r).t k=if r.o.dst=some k then some (r.g,r.v) else lk s.t k:=by
 unfold appG
 rw [zmE]
theorem zik:∀ (L:List RG) (S:Nat→Bool) (s:AS),(selG L S s).g=s.g
 | [],_,_=>rfl
 |x::L,S,s=>by
  rw [selG,zik L]
  split
  ·exact zrt _ _
  ·rfl
theorem zfT {Q:Nat→Prop} :∀ (L:List RG) (S S':Nat→Bool) (s s':AS),(∀k,Q k→lk s.t k=lk s'.t k)→(∀ (i:Nat) (r:RG),L[i]?=some r→(∃d,r.o.dst=some d∧Q d)→S i=S' i)→
  ∀k,Q k→lk (selG L S s).t k=lk (selG L S' s').t k
 | [],_,_,_,_,h,_=>h
 | x::L,S,S',s,s',h,hS=>by
  refine zfT L _ _ _ _ (fun k hk=>?_) (fun i r hr hd=>hS (i+1) r (by simpa using hr) hd)
  by_cases hd:x.o.dst=some k
  ·rw [hS 0 x rfl ⟨k,hd,hk⟩]
   split
   ·rw [zhA,zhA,if_pos hd,if_pos hd]
   ·exact h k hk
  ·have e1:∀ (b:Bool) (u:AS),lk (if b=true then appG u x else u).t k=lk u.t k:=fun b u=>by
    split
    ·rw [zhA,if_neg hd]
    ·rfl
   rw [e1,e1]
   exact h k hk
theorem zeT {c:Ch} {h:AHeap} {k:Nat} (hc:c.at≠some k):hget (c.app h) k=hget h k:=by
 cases c with
 |none=>rfl
 |put i ob=>exact zB (fun e=>hc (by simp [Ch.at,e]))
 |new i ob=>
  have:i≠k:=fun e=>hc (by simp [Ch.at,e])
  simp [Ch.app,hget,this]
theorem zpM {c:Ch} {h h':AHeap} {k:Nat} (e:hget h k=hget h' k):hget (c.app h) k=hget (c.app h') k:=by
 by_cases hc:c.at=some k
 ·cases c with
  |none=>cases hc
  |put i ob=>
   simp only [Ch.at,Option.some.injEq] at hc
   subst hc
   simp only [Ch.app]
   cases hh:hget h i with
   |none=>rw [zev hh,zev (e ▸ hh)];exact e
   |some o=>rw [zf hh,zf (e ▸ hh)]
  |new i ob=>
   simp only [Ch.at,Option.some.injEq] at hc
   subst hc
   simp [Ch.app,hget]
 ·rw [zeT hc,zeT hc,e]
theorem zey (k:Nat):∀ (L:List RG) (S S':Nat→Bool) (s s':AS),hget s.h k=hget s'.h k→(∀ (i:Nat) (r:RG),L[i]?=some r→r.c.at=some k→S i=S' i)→hget (selG L S s).h k=hget (selG L S' s').h k
 | [],_,_,_,_,h,_=>h
 | x::L,S,S',s,s',h,hS=>by
  refine zey k L _ _ _ _ ?_ (fun i r hr hm=>hS (i+1) r (by simpa using hr) hm)
  by_cases hm:x.c.at=some k
  ·rw [hS 0 x rfl hm]
   split
   ·rw [zg1,zg1];exact zpM h
   ·exact h
  ·have e1:∀ (b:Bool) (u:AS),hget (if b=true then appG u x else u).h k=hget u.h k:=fun b u=>by
    split
    ·rw [zg1];exact zeT hm
    ·rfl
   rw [e1,e1]
   exact h
theorem zeU (k:Nat):∀ (L:List RG) (S:Nat→Bool) (s:AS),(∀ (i:Nat) (r:RG),L[i]?=some r→S i=true→r.c.at≠some k)→hget (selG L S s).h k=hget s.h k
 | [],_,_,_=>rfl
 | x::L,S,s,hS=>by
  rw [selG,zeU k L _ _ (fun i r hr hs=>hS (i+1) r (by simpa using hr) hs)]
  split
  ·rename_i h0
   rw [zg1]
   exact zeT (hS 0 x rfl h0)
  ·rfl
theorem zmI (k:Nat):∀ (L:List RG) (n:Nat) (r:RG) (S:Nat→Bool) (s:AS),L[n]?=some r→S n=false→
  (∀ (i:Nat) (r':RG),L[i]?=some r'→n<i→S i=true→r.c.at=some k→r'.c.at≠some k)→hget (selG L (fun i=>if i=n then true else S i) s).h k=hget (r.c.app (selG L S s).h) k
 | [],n,r,S,s,hr,_,_=>by simp at hr
 | x::L,0,r,S,s,hr,hS,hl=>by
  have:x=r:=by simpa using hr
  subst this
  simp only [selG,if_true,hS,Bool.false_eq_true,if_false,Nat.succ_ne_zero]
  by_cases hc:x.c.at=some k
  ·have hno:∀ (i:Nat) (r':RG),L[i]?=some r'→S (i+1)=true→r'.c.at≠some k:=fun i r' hr' hs'=>hl (i+1) r' (by simpa using hr') (by omega) hs' hc
   rw [zeU k L _ _ hno,zg1]
   exact zpM (zeU k L _ _ hno).symm
  ·rw [zeT hc]
   refine zey k L _ _ _ _ ?_ (fun _ _ _ _=>rfl)
   rw [zg1]
   exact zeT hc
 | x::L,n+1,r,S,s,hr,hS,hl=>by
  have e0:(if (0:Nat)=n+1 then true else S 0)=S 0:=if_neg (by omega)
  simp only [selG,e0]
  have e1:(fun i=>if i+1=n+1 then true else S (i+1))=(fun i=>if i=n then true else S (i+1)):=by
   funext i
   by_cases h:i=n
   ·simp [h]
   ·simp [h]
  rw [e1]
  exact zmI k L n r (fun i=>S (i+1)) _ (by simpa using hr) hS (fun i r' hr' hi hs'=>hl (i+1) r' (by simpa using hr') (by omega) hs')
theorem zcu:∀ (L:List RG) (s:AS),lexG L 0 s=s
 | [],s=>rfl
 |x::L,s=>by
  unfold lexG selG
  have:=zcu L s
  unfold lexG at this
  simpa using this
theorem zdC (x:RG) (L:List RG) (n:Nat) (s:AS):lexG (x::L) (n+1) s=lexG L n (appG s x):=by
 unfold lexG
 rw [selG]
 simp
theorem zil:∀ (L:List RG) (n:Nat) (s:AS) (r:RG),L[n]?=some r→lexG L (n+1) s=appG (lexG L n s) r
 | [],n,s,r,h=>by simp at h
 |x::L,0,s,r,h=>by
  have:x=r:=by simpa using h
  subst this
  rw [zdC,zcu,zcu]
 |x::L,n+1,s,r,h=>by
  rw [zdC,zdC]
  exact zil L n _ r (by simpa using h)
section
variable {cx : Cx} {E E0 : Env} {s s' : AS} {a : Act} {w w0 : World} {h h' h0 : AHeap}
theorem zdd (hh:∀k,hget h k=hget h' k):Own E h=Own E h':=by
 funext b
 unfold Own
 simp only [hh]
theorem zfU (hh:∀k,hget h k=hget h' k) (i:Nat):GoesOn E h E h' i:=by
 unfold GoesOn
 rw [← hh]
 split<;>simp_all
theorem zjm (hh:∀k,hget h k=hget h' k) {x:AV} {v:Value} (hr:Rep w E h x v):Rep w E h' x v:=
 Rep.step (fun b _ hx=>by unfold Xs at hx ⊢;rwa [zdd hh]) (fun _ _ _=>rfl) x v (fun j _=>zfU hh j) hr
theorem SatH.ext (hs:SatH E h w) (hh:∀k,hget h k=hget h' k):SatH E h' w where
 heap:=fun i o ho=>by
  rw [← hh] at ho
  have:=hs.heap i o ho
  have hX:∀b,b<w.heap.size→Xs E h' b→Xs E h b:=fun b _ hx=>by unfold Xs at hx ⊢;rwa [zdd hh]
  cases o with
  |var cs=>
   simp only [RepObj] at this ⊢
   obtain ⟨b,d,T,fz,h1,h2,h3,h4⟩:=this
   exact ⟨b,d,T,fz,h1,h2,Reps.step hX (fun _ _ _=>rfl) _ _ (fun j _=>zfU hh j) h3,h4⟩
  |tvar tt cs=>
   simp only [RepObj] at this ⊢
   obtain ⟨b,d,T,fz,h1,h2,h3,h4⟩:=this
   exact ⟨b,d,T,fz,h1,h2,Reps.step hX (fun _ _ _=>rfl) _ _ (fun j _=>zfU hh j) h3,h4⟩
  |arr k xs=>
   simp only [RepObj] at this ⊢
   rcases this with g|⟨b,d,T,fz,h1,h2,h3,h4,h5,h6⟩
   ·exact .inl g
   ·exact .inr ⟨b,d,T,fz,h1,h2,h3,h4,RepRows.step hX (fun _ _ _=>rfl) _ _ _ h5,h6⟩
  |buf tt xs=>
   simp only [RepObj] at this ⊢
   rcases this with g|⟨b,d,T,fz,h1,h2,h3,h4,h5,h6⟩
   ·exact .inl g
   ·exact .inr ⟨b,d,T,fz,h1,h2,h3,h4,h5,h6⟩
  |strit l p=>exact this
  |omap es=>exact this
 inj:=fun i j b hi hj=>hs.inj i j b (by rwa [hh]) (by rwa [hh])
 own:=fun b hb=>hs.own b (by rwa [zdd hh])
 mlt:=hs.mlt
 nlt:=hs.nlt
theorem Sat.ext (hs:Sat cx E s a w) (ht:∀k,lk s.t k=lk s'.t k) (hh:∀k,hget s.h k=hget s'.h k) (hg:s.g=s'.g):Sat cx E s' a w where
 slots:=fun k g v hk=>by
  obtain ⟨x,h1,h2,h3⟩:=hs.slots k g v (by rw [ht];exact hk)
  exact ⟨x,h1,fun e=>zjm hh (h2 e),h3⟩
 nt:=hs.nt
 hp:=hs.hp.ext hh
 base:=hs.base
 marks:=hs.marks
 ghost:=by rw [← hg,← zdd hh];exact hs.ghost
theorem Evo.ext {fl:Nat} (he:Evo fl E0 h0 w0 E h w) (hh:∀k,hget h k=hget h' k):Evo fl E0 h0 w0 E h' w where
 os:=he.os
 tape:=he.tape
 output:=he.output
 size:=he.size
 keep:=he.keep
 own:=fun b hb=>he.own b (by rwa [zdd hh])
 m1:=he.m1
 m2:=he.m2
 n:=he.n
 go:=fun i hi hs=>by
  rw [← hh] at hs
  obtain ⟨g1,g2⟩:=he.go i hi hs
  exact ⟨g1,g2.trans (zfU hh i)⟩
theorem Evo.low {fl fl':Nat} (he:Evo fl' E0 h0 w0 E h w) (hl:fl≤fl'):Evo fl E0 h0 w0 E h w:=
 ⟨he.os,he.tape,he.output,he.size,he.keep,he.own,he.m1,he.m2,he.n,fun i hi=>he.go i (by omega)⟩
theorem Sat.at {nm:Nat} (hs:Sat cx E s a w):Sat (atCx cx nm) E s a w:=⟨hs.slots,hs.nt,hs.hp,hs.base,hs.marks,hs.ghost⟩
theorem Sat.un {nm:Nat} (hs:Sat (atCx cx nm) E s a w):Sat cx E s a w:=⟨hs.slots,hs.nt,hs.hp,hs.base,hs.marks,hs.ghost⟩
theorem Reach.un {nm:Nat} (hl:cx.fl≤nm) {K:AS→Prop} (hr:Reach (atCx cx nm) E h w K a w0):Reach cx E h w K a w0:=by
 obtain ⟨E1,s1,hk,hs,he⟩:=hr
 exact ⟨E1,s1,hk,hs.un,he.low hl⟩
end
def ownR (o:AV):List D→AV
 | []=>o
 |d::ds=> .tup (o::(d::ds).map .d)
theorem zim:∀ds:List D,AV.idsL (ds.map .d)= []
 | []=>rfl
 |_::ds=>by simp only [List.map_cons,AV.idsL,AV.ids,zim ds,List.append_nil]
theorem zpN {P:Program} {f:FuncId} {args:List AV} {k:Nat} {rows:List (List D)} {ds:List D} {h:AHeap} {nm fl j0:Nat} (hc:ACall P f 0 args [] (fun r h'=>r=ownR (.osl j0 k rows.length 0 rows.length) ds∧h'= [(j0,.arr k rows)])) (hids:AV.idsL args= []) (hnm:hget h nm=none) (hfl:fl≤nm):
    ACallAt P fl f args h (fun r h'=>r=ownR (.osl nm k rows.length 0 rows.length) ds∧h'=(nm,.arr k rows)::h):=by
  obtain ⟨hen,hc⟩:=hc
  refine ⟨hen,fun E w vs hs hr=>?_⟩
  have hno:∀ (E:Env) b,¬Own E [] b:=fun E b ⟨i,hi,_⟩=>by simp [hget] at hi
  have hs0:SatH (bare (Xs E h)) [] w:=⟨fun i o ho=>by simp [hget] at ho,fun i j b h1=>by simp [hget] at h1,fun b hb=>absurd hb (hno _ b),fun _ h=>h.elim,fun b hb=>by
    rcases hb with hb|hb|hb
    · exact (hs.own b hb).1
    · exact hs.mlt b hb
    · exact hs.nlt b hb⟩
  have hX0:∀b,b<w.heap.size→Xs (bare (Xs E h)) [] b→Xs E h b:=fun b _ hx=>by
    rcases hx with hx|hx|hx
    · exact absurd hx (hno _ b)
    · exact hx.elim
    · exact hx
  have hr0:Reps w (bare (Xs E h)) [] args vs.toList:=Reps.step hX0 (fun _ _ _=>rfl) _ _ (by rw [hids];simp) hr
  refine (hc _ w vs hs0 hr0).mono ?_
  rintro e w' ⟨v,E',r',h1,rfl,⟨rfl,rfl⟩,hs',hr',hev⟩
  have hkeep:∀b,b<w.heap.size→w'.heap[b]?=w.heap[b]?:=fun b hb=>hev.keep b hb (hno _ b)
  obtain ⟨E2,hE2⟩:∃E2,E2=E.set nm (E'.O j0) (E'.C j0):=⟨_,rfl⟩
  have hO:E2.O nm=E'.O j0:=by rw [hE2];simp [Env.set]
  have hC:E2.C nm=E'.C j0:=by rw [hE2];simp [Env.set]
  have hob:=hs'.heap j0 (.arr k rows) (by simp [hget])
  have hlt:∀b,E'.O j0=some b→w.heap.size≤b∧b<w'.heap.size:=fun b hb=>by
    have ho:Own E' [(j0,.arr k rows)] b:=⟨j0,by simp [hget],hb⟩
    exact ⟨(hev.own b ho).elim (fun h=>absurd h (hno _ b)) id,(hs'.own b ho).1⟩
  have c:Chg E h w E2 ((nm,.arr k rows)::h) w' nm:=
    { os:=hev.os,tape:=hev.tape,output:=hev.output,size:=hev.size
      envO:=fun j e=>by rw [hE2];simp [Env.set,e]
      envC:=fun j e=>by rw [hE2];simp [Env.set,e]
      M:=by rw [hE2];rfl
      N:=by rw [hE2];rfl
      hh:=fun j e=>by simp [hget,Ne.symm e]
      gi:=by unfold GoesOn;rw [hnm];trivial
      blk:=fun b hb _=>hkeep b hb
      new:=fun b _ hb=> .inr (hlt b (by rw [← hO];exact hb)) }
  have hXn:∀b,b<w'.heap.size→Xs E2 ((nm,.arr k rows)::h) b→Xs E' [(j0,.arr k rows)] b:=fun b _ hx=>by
    have hN:∀b,Xs E h b→Xs E' [(j0,.arr k rows)] b:=fun b hx=> .inr (.inr (by rw [hev.n];exact hx))
    rcases hx with ⟨j,hj,hb⟩|hx|hx
    · by_cases e:j=nm
      · subst e
        exact .inl ⟨j0,by simp [hget],by rw [← hO];exact hb⟩
      · exact hN b (.inl ⟨j,by simpa [hget,Ne.symm e] using hj,by rw [← c.envO j e];exact hb⟩)
    · exact hN b (.inr (.inl (by rwa [c.M] at hx)))
    · exact hN b (.inr (.inr (by rwa [c.N] at hx)))
  have hs2:SatH E2 ((nm,.arr k rows)::h) w':=c.satH hs (fun o ho=>by
    simp only [hget,if_true,Option.some.injEq] at ho
    subst ho
    simp only [RepObj,hO,hC] at hob ⊢
    rcases hob with g|⟨b,d,T,fz,h1,h2,h3,h4,h5,h6⟩
    · exact .inl g
    · exact .inr ⟨b,d,T,fz,h1,h2,h3,h4,RepRows.step hXn (fun _ _ _=>rfl) _ _ _ h5,h6⟩)
  refine ⟨v,E2,_,_,rfl,⟨rfl,rfl⟩,hs2,?_,?_,fun x y hxy=>c.rep hxy⟩
  · have base:∀v,Rep w' E' [(j0,.arr k rows)] (.osl j0 k rows.length 0 rows.length) v→Rep w' E2 ((nm,.arr k rows)::h) (.osl nm k rows.length 0 rows.length) v:=by
      intro v hr'
      simp only [Rep] at hr' ⊢
      obtain ⟨q1,xs,q2,q3,q4,q5⟩:=hr'
      simp only [hget,if_true,Option.some.injEq,AObj.arr.injEq] at q2
      obtain ⟨-,rfl⟩:=q2
      refine ⟨q1,rows,by simp [hget],q3,q4,?_⟩
      rw [hO,hC]
      exact q5
    cases ds with
    |nil=>exact base v hr'
    | cons d ds=>
      simp only [ownR] at hr' ⊢
      rw [Rep] at hr' ⊢
      obtain ⟨vs,rfl,hr'⟩:=hr'
      rw [Reps] at hr'
      obtain ⟨x,r,e,h2,h3⟩:=hr'
      refine ⟨vs,rfl,?_⟩
      rw [Reps]
      exact ⟨x,r,e,base x h2,Reps.step hXn (fun _ _ _=>rfl) _ _ (by rw [zim];simp) h3⟩
  · have ev:=c.evo (fl:=fl) (.inr hfl)
    exact ⟨ev.os,ev.tape,ev.output,ev.size,fun b hb _=>hkeep b hb,ev.own,c.M,c.N,ev.go⟩
theorem EvoC.ext {E E':Env} {h0 h h1 h':AHeap} {w w':World} {fl fl':Nat} (he:EvoC fl E h0 w E' h w') (h0e:∀k,hget h0 k=hget h1 k) (hh:∀k,hget h k=hget h' k) (hfl:∀k,(hget h k).isSome→k<fl∨fl'≤k):EvoC fl' E h1 w E' h' w' where
 os:=he.os
 tape:=he.tape
 output:=he.output
 size:=he.size
 keep:=fun b hb hn=>he.keep b hb (by rwa [zdd h0e])
 own:=fun b hb=>by
  rw [← zdd hh] at hb
  rw [← zdd h0e]
  exact he.own b hb
 m:=he.m
 n:=he.n
 go:=fun i hi hs=>by
  rw [← hh] at hs
  rcases hfl i hs with hl|hl
  ·obtain ⟨g1,g2⟩:=he.go i hl hs
   exact ⟨by rwa [← h0e],((zfU (fun k=>(h0e k).symm) i).trans g2).trans (zfU hh i)⟩
  ·omega
theorem ACall.ext {P:Program} {f:FuncId} {args:List AV} {fl fl':Nat} {h h':AHeap} {K:AV→AHeap→Prop} (hc:ACall P f fl args h K) (hh:∀k,hget h k=hget h' k) (hfl:∀r h2,K r h2→∀k,(hget h2 k).isSome→k<fl∨fl'≤k):ACall P f fl' args h' K:=by
 refine ⟨hc.1,fun E w vs hs hr=>?_⟩
 have hh':∀k,hget h' k=hget h k:=fun k=>(hh k).symm
 refine (hc.2 E w vs (hs.ext hh') (Reps.step (fun b _ hx=>by unfold Xs at hx ⊢;rwa [zdd hh']) (fun _ _ _=>rfl) _ _ (fun j _=>zfU hh' j) hr)).mono ?_
 rintro e w' ⟨v,E',r,h2,rfl,hk,hs',hr',hev⟩
 exact ⟨v,E',r,h2,rfl,hk,hs',hr',hev.ext hh (fun _=>rfl) (hfl r h2 hk)⟩
theorem zdD {P:Program} {f:FuncId} {args:List AV} {r0:AV} {h:AHeap} {i fl1 fl:Nat} {ob ob':AObj} (hc:ACall P f fl1 args [(i,ob)] (fun r h'=>r=r0∧h'= [(i,ob')])) (hi:i<fl1) (hg:hget h i=some ob) (hcl:∀j∈ob.ids,j=i) (ha:∀j∈AV.idsL args,j=i):
  ACallAt P fl f args h (fun r h'=>r=r0∧h'=hset h i ob'):=by
 obtain ⟨fl2,hfl2⟩:∃fl2,fl2=top fl h:=⟨_,rfl⟩
 have hlt:∀j,(hget h j).isSome→j<fl2:=fun j hj=>by rw [hfl2];exact zmj hj
 have hil:i<fl2:=hlt i (by simp [hg])
 obtain ⟨p,hp⟩:∃p:Nat→Bool,p=fun j=>decide (j=i)||decide (fl2≤j):=⟨_,rfl⟩
 have hpi:p i=true:=by rw [hp];simp
 have hpj:∀j,(hget h j).isSome→p j=true→j=i:=fun j hj hpj=>by
  have:=hlt j hj
  rw [hp] at hpj
  have:j=i∨fl2≤j:=by simpa using hpj
  omega
 have he1:∀k,hget [(i,ob)] k=hget (hsel p h) k:=fun k=>by
  rw [zr]
  simp only [hget]
  by_cases hk:i=k
  ·subst hk;rw [if_pos rfl,if_pos hpi,hg]
  ·rw [if_neg hk]
   split
   ·rename_i hpk
    cases hh:hget h k with
    |none=>rfl
    |some o=>exact absurd (hpj k (by simp [hh]) hpk).symm hk
   ·rfl
 have hc2:=hc.ext (fl':=fl2) he1 (fun r h2 hk k hs=> .inl (by
  obtain ⟨_,rfl⟩:=hk
  simp only [hget] at hs
  split at hs
  ·omega
  ·cases hs))
 have:=ACall.frame (fl':=fl) hc2 hlt (fun j hj=>by rw [hp];simp;exact .inr hj) (fun j o ho hpj' k hk=>by
  have hj:=hpj j (by simp [ho]) hpj'
  subst hj
  rw [hg] at ho;cases ho
  rw [hcl k hk];exact hpi) (fun j hj=>by rw [ha j hj];exact hpi) (by rw [hfl2];exact zeq _ _) (fun r h' hk=>by
  obtain ⟨_,rfl⟩:=hk
  refine ⟨fun j hj hpj'=>?_,fun j hj=>?_⟩
  ·rw [hpj j hj hpj'];simp [hget]
  ·simp only [hget] at hj
   split at hj
   ·rename_i e;rw [← e];exact hpi
   ·cases hj)
 refine ⟨this.1,fun E w vs hs hr=>(this.2 E w vs hs hr).mono ?_⟩
 rintro e w' ⟨v,E',r,h2,rfl,⟨h1,⟨rfl,rfl⟩,rfl⟩,hs',hr',hev,hmv⟩
 have hex:∀k,hget ([(i,ob')]++hsel (fun j=> !p j) h) k=hget (hset h i ob') k:=fun k=>by
  rw [zbN,zr]
  simp only [hget]
  by_cases hk:i=k
  ·subst hk
   rw [if_pos rfl,zf hg]
   rfl
  ·rw [if_neg hk,Option.none_or,zB (fun e=>hk e.symm)]
   split
   ·rfl
   ·rename_i hpk
    cases hh:hget h k with
    |none=>rfl
    |some o=>exact absurd (hpj k (by simp [hh]) (by simpa using hpk)).symm hk
 exact ⟨v,E',r,_,rfl,⟨rfl,rfl⟩,hs'.ext hex,zjm hex hr',hev.ext (fun _=>rfl) hex (fun k hk=>by
  rcases Nat.lt_or_ge k fl with hl|hl
  ·exact .inl hl
  ·exact .inr hl),fun x y hxy=>zjm hex (hmv x y hxy)⟩
def gop (cx:Cx) (tab:Tab) (owns:List FuncId) (nm:Nat) (s:AS) (G:Bool) (o:Oper) (R:Bool→AV→Ch→List Nat→Prop):Prop:=
 let other:=fop (atCx cx nm) tab s G o (fun g v h'=>match chOf nm cx.P s o.op h' with|some (c,rd)=>R g v c rd|none=>False)
 match o.op with
 | .call c=>(match zaH cx.P s c with
  |some (f,args,vc)=>if owns.contains f=true then G=true∧vc∧AV.idsL args= []∧∃k rows,(∀fl,ACall cx.P f fl args [] (fun r h'=>r= .osl fl k rows.length 0 rows.length∧h'= [(fl,.arr k rows)]))∧R true (.osl nm k rows.length 0 rows.length) (.new nm (.arr k rows)) []
   else if owns.contains (f+1000000)=true then G=true∧vc∧∃i fl1 ob r0 ob',hget s.h i=some ob∧i<fl1∧(∀j∈ob.ids,j=i)∧(∀j∈AV.idsL args,j=i)∧ACall cx.P f fl1 args [(i,ob)] (fun r h'=>r=r0∧h'= [(i,ob')])∧R true r0 (.put i ob') []
   else if owns.contains (f+3000000)=true then G=true∧vc∧AV.idsL args= []∧∃j k rows d,ACall cx.P f 0 args [] (fun r h'=>r= .tup [.osl j k rows.length 0 rows.length,.d d]∧h'= [(j,.arr k rows)])∧R true (.tup [.osl nm k rows.length 0 rows.length,.d d]) (.new nm (.arr k rows)) []
   else if owns.contains (f+2000000)=true then G=true∧vc∧∃i fl1 ob r0,hget s.h i=some ob∧i<fl1∧(∀j∈ob.ids,j=i)∧(∀j∈AV.idsL args,j=i)∧ACall cx.P f fl1 args [(i,ob)] (fun r h'=>r=r0∧h'= [(i,ob)])∧R true r0 .none [i] else other
  |none=>other)
 |_=>other
def touch (a b:Option Nat×List Nat):Bool:=match a.1 with
 |none=>false
 |some i=>b.1==some i||b.2.contains i
def confG (all:Array Oper) (fa fb:Option Nat×List Nat) (a b:Oper):Bool:=
 (match a.dst with
  |some d=>(zhy all b).contains d||b.dst==some d
  |none=>false)||
 (match b.dst with
  |some d=>(zhy all a).contains d
  |none=>false)||
 (touch fa fb||touch fb fa)
def zcv (ops:Array Oper) (F:List (Option Nat×List Nat)):Bool:=
 (List.range ops.size).all fun j=>match ops[j]? with
  |some b=>(b.after.toList.all fun e=> !Region.binds .any e||decide (e.on<j))&&(List.range j).all fun i=>match ops[i]? with
   |some a=> !confG ops (F.getD i (none,[])) (F.getD j (none,[])) a b||anc ops (j+1) j i
   |none=>true
  |none=>true
def zpO (ops:Array Oper) (F:List (Option Nat×List Nat)):Bool:=(List.range F.length).all fun i=>anc ops (F.length+1) F.length i
def zpP (op:Op):Bool:=match op with
 | .call c=>(match c.callee with| .builtin .copy=>true| .builtin .clear=>true|_=>false)
 | .mapUpdate _ _ _ _=>true
 | .box _ _=>true
 |_=>false
def gops (cx:Cx) (tab:Tab) (owns:List FuncId) (all:Array Oper):Nat→List Oper→List (Option Nat×List Nat)→(AS→Prop)→AS→Prop
 |_,[],F,K,s=>zcv all F.reverse=true∧K s
 | nm,o::r,F,K,s=>match zaI s all o.guard with
  |some G=>if ((owns.contains 0||zpP o.op)&&r.isEmpty)=true then zcv all F.reverse=true∧zpO all F.reverse=true∧aopT cx tab G o K s
   else dstOk cx.nt o.dst∧hget s.h nm=none∧gop cx tab owns nm s G o (fun g v c rd=>gops cx tab owns all (nm+1) r ((c.at,rd)::F) K ({ s with h:=c.app s.h }.put o.dst g v))
  |none=>False
section
variable {cx : Cx} {tab : Tab} {owns : List FuncId} {ops : Array Oper} {s : AS}
structure GLoc (cx:Cx) (all:Array Oper) (s:AS) (r:RG):Prop where
 put:∀i ob,r.c= .put i ob→(hget s.h i).isSome
 new:∀i ob,r.c= .new i ob→hget s.h i=none
 step:∃G,zaI s all r.o.guard=some G∧∀s':AS,(∀x∈zaz r.o.op,s.ev x=s'.ev x∧known s x=known s' x)→zaI s' all r.o.guard=some G→zhz s.h r.c r.rd s'.h→
  ∀ (E:Env) (a:Act) (w:World) (K:AS→Prop) (Q:Exit→Act→World→Prop),Sat cx E s' a w→K ({ s' with h:=r.c.app s'.h }.put r.o.dst r.g r.v)→
   if Region.wanted r.o (yielded all a.tmps) then r.o.wpIn cx.F 0 cx.P a w (Reach cx E s'.h w K) Q else (∀f,r.o.about cx.P w a.eval=some f→cx.F.fn f)∧Reach cx E s'.h w K (a.put r.o.dst undef) w
def Shaped (nm:Nat) (h':AHeap) (c:Ch):Prop:=(∀i ob,c= .put i ob→hget h' i=some ob)∧(∀i ob,c= .new i ob→i=nm)
theorem zfV {nm:Nat} {h':AHeap} :Shaped nm h' .none:=by
 constructor
 ·intro i ob e;cases e
 ·intro i ob e;cases e
theorem zg2 {nm:Nat} {h':AHeap} {ob:AObj} :Shaped nm h' (.new nm ob):=by
 constructor
 ·intro i ob e;cases e
 ·intro i ob e;cases e;rfl
theorem zlg {nm i:Nat} {h':AHeap} {ob:AObj} (h:hget h' i=some ob):Shaped nm h' (.put i ob):=by
 constructor
 ·intro i ob e;cases e;exact h
 ·intro i ob e;cases e
theorem zfW {nm:Nat} {h':AHeap} {c:Ch} {rd l:List Nat} (h:(hget h' nm).map (fun ob=>(Ch.new nm ob,l))=some (c,rd)):Shaped nm h' c:=by
 obtain ⟨ob,e1,e2⟩:=Option.map_eq_some_iff.1 h
 cases e2
 exact zg2
theorem zfX {nm i:Nat} {h':AHeap} {c:Ch} {rd l:List Nat} (h:(hget h' i).map (fun ob=>(Ch.put i ob,l))=some (c,rd)):Shaped nm h' c:=by
 obtain ⟨ob,e1,e2⟩:=Option.map_eq_some_iff.1 h
 cases e2
 exact zlg e1
theorem zaF {nm:Nat} {h':AHeap} {c:Ch} {rd l:List Nat} (h:some (Ch.none,l)=some (c,rd)):Shaped nm h' c:=by
 cases h
 exact zfV
theorem zok {nm:Nat} {P:Program} {op:Op} {h':AHeap} {c:Ch} {rd:List Nat} (hc:chOf nm P s op h'=some (c,rd)):Shaped nm h' c:=by
 unfold chOf at hc
 split at hc
 case h_1=>exact zfW hc
 case h_2=>
  simp only [Option.some.injEq] at hc
  split at hc
  ·cases hc;exact zg2
  ·cases hc;exact zfV
 case h_3=>exact zfW hc
 case h_4=>exact zaF hc
 case h_5=>exact zaF hc
 case h_6=>exact zaF hc
 case h_7=>exact zaF hc
 case h_8=>
  split at hc
  ·split at hc
   ·split at hc
    ·exact zfX hc
    ·cases hc
   ·cases hc
  ·split at hc
   ·exact zaF hc
   ·cases hc
  ·exact zaF hc
  ·exact zaF hc
  ·split at hc
   ·exact zaF hc
   ·cases hc
  ·cases hc
 case h_9=>
  split at hc
  ·exact zaF hc
  ·split at hc
   ·exact zfX hc
   ·exact zaF hc
  ·cases hc
theorem zqh (ht:TabOk cx.P tab) {nm:Nat} {G:Bool} {o:Oper} {R:Bool→AV→Ch→List Nat→Prop} (hG:zaI s ops o.guard=some G) (hd:dstOk cx.nt o.dst) (hnm:hget s.h nm=none) (hl:cx.fl≤nm) (h:gop cx tab owns nm s G o R):
  ∃g v c rd,R g v c rd∧GLoc cx ops s ⟨o,g,v,c,rd⟩:=by
 have other:fop (atCx cx nm) tab s G o (fun g v h'=>match chOf nm cx.P s o.op h' with|some (c,rd)=>R g v c rd|none=>False)→∃g v c rd,R g v c rd∧GLoc cx ops s ⟨o,g,v,c,rd⟩:=by
  intro h
  obtain ⟨g,v,h',h1,h2,h3⟩:=zqe h
  split at h1
  ·rename_i c rd hc
   obtain ⟨q1,q2⟩:=zoj hnm h2 h3 hc
   obtain ⟨p1,p2⟩:=zok hc
   refine ⟨g,v,c,rd,h1,fun i ob e=>?_,fun i ob e=>?_,G,hG,?_⟩
   ·have hi:=p1 i ob e
    have e:c= .put i ob:=e
    rw [q1,e] at hi
    cases hh:hget s.h i with
    |none=>simp only [Ch.app] at hi;rw [zev hh,hh] at hi;cases hi
    |some o=>rfl
   ·have e:c= .new i ob:=e
    rw [p2 i ob e];exact hnm
   ·intro s' hev hgd hgood E a w K Q hs hK
    dsimp only at hev hgd hgood hK ⊢
    have hf:fop (atCx cx nm) tab s' G o (fun g v h'=>K ({ s' with h:=h' }.put o.dst g v)):=by
     refine fop_e (s:= { s with h:=s'.h }) (fun x hx=>?_) rfl (q2 s'.h hgood _ hK)
     have:=hev x hx
     have e1:AS.ev { s with h:=s'.h } x=s.ev x:=by cases x<;>rfl
     have e2:known { s with h:=s'.h } x=known s x:=by cases x<;>rfl
     rw [e1,e2]
     exact this
    have hw:=zfO (cx:=atCx cx nm) ht (Q:=fun _ _ _=>False) (E:=E) hs.at hgd (zob (K:=K) hd hf)
    split at hw
    ·rename_i hwt
     rw [if_pos hwt]
     exact zaV hw (fun a w hr=>hr.un hl)
    ·rename_i hwt
     rw [if_neg hwt]
     exact ⟨hw.1,hw.2.un hl⟩
  ·exact h1.elim
 unfold gop at h
 dsimp only at h
 split at h
 ·rename_i c hop
  split at h
  ·rename_i f args vc hco
   split at h
   ·obtain ⟨rfl,hvc,hids,k,rows,hcall,hR⟩:=h
    refine ⟨true,_,_,_,hR,(by intro i ob e;cases e),(by intro i ob e;cases e;exact hnm),true,hG,?_⟩
    intro s' hev hgd hgood E a w K Q hs hK
    dsimp only at hev hgd hgood hK ⊢
    rw [hop] at hev
    have hnv:¬isVal cx.P (.call c)=true:=by
     obtain ⟨fo,hcal⟩:∃fo,c.callee= .value fo:=by
      unfold zaH at hco
      cases hc:c.callee<;>rw [hc] at hco<;>first|exact ⟨_,rfl⟩|cases hco
     simp [isVal,zbK,hcal]
    have hco':zaH cx.P s' c=some (f,args,vc):=by rw [← zeu (fun x hx=>(hev x hx).1)];exact hco
    rw [zcV hs.slots hgd]
    simp only [if_true]
    refine zeQ hs hd ?_
    unfold aop1
    rw [hop]
    simp only [if_neg hnv,hco']
    refine ⟨hvc,(zpN (ds:= []) (hcall 0) hids hgood.2 hl).mono ?_⟩
    rintro r' h' ⟨rfl,rfl⟩
    exact hK
   split at h
   ·obtain ⟨rfl,hvc,i,fl1,ob,r0,ob',hgi,hil,hcl,ha,hcall,hR⟩:=h
    refine ⟨true,_,_,_,hR,(by intro i ob e;cases e;simp [hgi]),(by intro i ob e;cases e),true,hG,?_⟩
    intro s' hev hgd hgood E a w K Q hs hK
    dsimp only at hev hgd hgood hK ⊢
    rw [hop] at hev
    have hnv:¬isVal cx.P (.call c)=true:=by
     obtain ⟨fo,hcal⟩:∃fo,c.callee= .value fo:=by
      unfold zaH at hco
      cases hc:c.callee<;>rw [hc] at hco<;>first|exact ⟨_,rfl⟩|cases hco
     simp [isVal,zbK,hcal]
    have hco':zaH cx.P s' c=some (f,args,vc):=by rw [← zeu (fun x hx=>(hev x hx).1)];exact hco
    rw [zcV hs.slots hgd]
    simp only [if_true]
    refine zeQ hs hd ?_
    unfold aop1
    rw [hop]
    simp only [if_neg hnv,hco']
    refine ⟨hvc,(zdD hcall hil (hgood.2.trans hgi) hcl ha).mono ?_⟩
    rintro r' h' ⟨rfl,rfl⟩
    exact hK
   split at h
   ·obtain ⟨rfl,hvc,hids,j,k,rows,d,hcall,hR⟩:=h
    refine ⟨true,_,_,_,hR,(by intro i ob e;cases e),(by intro i ob e;cases e;exact hnm),true,hG,?_⟩
    intro s' hev hgd hgood E a w K Q hs hK
    dsimp only at hev hgd hgood hK ⊢
    rw [hop] at hev
    have hnv:¬isVal cx.P (.call c)=true:=by
     obtain ⟨fo,hcal⟩:∃fo,c.callee= .value fo:=by
      unfold zaH at hco
      cases hc:c.callee<;>rw [hc] at hco<;>first|exact ⟨_,rfl⟩|cases hco
     simp [isVal,zbK,hcal]
    have hco':zaH cx.P s' c=some (f,args,vc):=by rw [← zeu (fun x hx=>(hev x hx).1)];exact hco
    rw [zcV hs.slots hgd]
    simp only [if_true]
    refine zeQ hs hd ?_
    unfold aop1
    rw [hop]
    simp only [if_neg hnv,hco']
    refine ⟨hvc,(zpN (ds:= [d]) hcall hids hgood.2 hl).mono ?_⟩
    rintro r' h' ⟨rfl,rfl⟩
    exact hK
   split at h
   ·obtain ⟨rfl,hvc,i,fl1,ob,r0,hgi,hil,hcl,ha,hcall,hR⟩:=h
    refine ⟨true,_,_,_,hR,(by intro i ob e;cases e),(by intro i ob e;cases e),true,hG,?_⟩
    intro s' hev hgd hgood E a w K Q hs hK
    dsimp only at hev hgd hgood hK ⊢
    rw [hop] at hev
    have hnv:¬isVal cx.P (.call c)=true:=by
     obtain ⟨fo,hcal⟩:∃fo,c.callee= .value fo:=by
      unfold zaH at hco
      cases hc:c.callee<;>rw [hc] at hco<;>first|exact ⟨_,rfl⟩|cases hco
     simp [isVal,zbK,hcal]
    have hco':zaH cx.P s' c=some (f,args,vc):=by rw [← zeu (fun x hx=>(hev x hx).1)];exact hco
    rw [zcV hs.slots hgd]
    simp only [if_true]
    refine zeQ hs hd ?_
    unfold aop1
    rw [hop]
    simp only [if_neg hnv,hco']
    have hgs:=(hgood.1 i (by simp)).trans hgi
    refine ⟨hvc,(zdD hcall hil hgs hcl ha).mono ?_⟩
    rintro r' h' ⟨rfl,rfl⟩
    rw [zeO hgs]
    exact hK
   ·exact other h
  ·exact other h
 ·exact other h
def OutsG (cx:Cx) (all:Array Oper) (L:List RG) (s:AS):Prop:=∀ (i:Nat) (r:RG),L[i]?=some r→GLoc cx all (lexG L i s) r
def endG (cx:Cx) (tab:Tab) (ops:Array Oper) (L:List RG) (K:AS→Prop) (s:AS):Option Oper→Prop
 |none=>K s
 |some z=>(∀i,i<L.length→anc ops (L.length+1) L.length i=true)∧∃G,zaI s ops z.guard=some G∧aopT cx tab G z K s
theorem zin (ht:TabOk cx.P tab):∀ (l:List Oper) (nm:Nat) (F:List RG) {K:AS→Prop} {s:AS},cx.fl≤nm→gops cx tab owns ops nm l (F.map (fun r=>(r.c.at,r.rd))).reverse K s→
  ∃ (L:List RG) (T:Option Oper),L.map (·.o)++T.toList=l∧zcv ops ((F++L).map (fun r=>(r.c.at,r.rd)))=true∧endG cx tab ops (F++L) K (lexG L L.length s) T∧OutsG cx ops L s
 | [],nm,F,K,s,_,h=>⟨[],none,rfl,by simpa using h.1,h.2,fun i r hr=>by simp at hr⟩
 | o::l,nm,F,K,s,hl,h=>by
  simp only [gops] at h
  split at h
  ·rename_i G hG
   split at h
   ·rename_i hq
    simp only [Bool.and_eq_true,List.isEmpty_iff] at hq
    obtain ⟨_,rfl⟩:=hq
    obtain ⟨h1,h2,h3⟩:=h
    rw [List.reverse_reverse] at h1 h2
    refine ⟨[],some o,rfl,by simpa using h1,⟨fun i hi=>?_,G,by rw [show ([]:List RG).length=0 from rfl,zcu];exact hG,by rw [show ([]:List RG).length=0 from rfl,zcu];exact h3⟩,fun i r hr=>by simp at hr⟩
    rw [List.append_nil] at hi ⊢
    have:=List.all_eq_true.1 h2 i (by simpa using hi)
    simpa using this
   obtain ⟨hd,hnm,h⟩:=h
   obtain ⟨g,v,c,rd,h1,h2⟩:=zqh ht hG hd hnm hl h
   obtain ⟨L,T,q1,q2,q3,q4⟩:=zin ht l (nm+1) (F++ [⟨o,g,v,c,rd⟩]) (by omega) (by simpa using h1)
   rw [List.append_assoc,List.singleton_append] at q2 q3
   refine ⟨⟨o,g,v,c,rd⟩::L,T,by simp [q1],q2,by rw [List.length_cons,zdC];exact q3,fun i r hr=>?_⟩
   cases i with
   |zero=>
    have:RG.mk o g v c rd=r:=by simpa using hr
    subst this
    rw [zcu]
    exact h2
   |succ i=>
    rw [zdC]
    exact q4 i r (by simpa using hr)
  ·exact h.elim
theorem zkt {F:List (Option Nat×List Nat)} (hd:zcv ops F=true) {i j:Nat} {a b:Oper} (hij:i<j) (ha:ops[i]?=some a) (hb:ops[j]?=some b) (hc:confG ops (F.getD i (none,[])) (F.getD j (none,[])) a b=true):anc ops (j+1) j i=true:=by
 unfold zcv at hd
 have hj:j<ops.size:=(Array.getElem?_eq_some_iff.1 hb).1
 have:=List.all_eq_true.1 hd j (by simpa using hj)
 rw [hb] at this
 simp only [Bool.and_eq_true] at this
 have:=List.all_eq_true.1 this.2 i (by simpa using hij)
 rw [ha] at this
 dsimp only at this
 rw [hc] at this
 simpa using this
theorem zol {F:List (Option Nat×List Nat)} (hd:zcv ops F=true) {j:Nat} {b:Oper} (hb:ops[j]?=some b):∀e∈b.after.toList,Region.binds .any e=true→e.on<j:=by
 unfold zcv at hd
 have hj:j<ops.size:=(Array.getElem?_eq_some_iff.1 hb).1
 have:=List.all_eq_true.1 hd j (by simpa using hj)
 rw [hb] at this
 simp only [Bool.and_eq_true] at this
 intro e he hbi
 have:=List.all_eq_true.1 this.1 e he
 simpa [hbi] using this
theorem zjn {F:List (Option Nat×List Nat)} {listed:Array Bool} (hd:zcv ops F=true) (hsz:listed.size=ops.size) (hr:Region.ready .any ops listed= []):∀i,i<ops.size→listed.getD i false=true:=by
 intro i
 induction i using Nat.strongRecOn with
 | _ i ih=>
  intro hi
  cases hl:listed.getD i false with
  |true=>rfl
  | false=>
   have hmem:i∈Region.ready .any ops listed:=by
    refine mem_ready.2 ⟨?_,ops[i],by simp [hi],fun e he hb=>?_⟩
    ·rw [Array.getD_eq_getD_getElem?] at hl ⊢
     rw [Array.getElem?_eq_getElem (by omega)] at hl ⊢
     exact hl
    ·have:=zol hd (j:=i) (b:=ops[i]) (Array.getElem?_eq_getElem hi) e (Array.mem_toList_iff.2 he) hb
     exact ih _ this (by omega)
   rw [hr] at hmem
   cases hmem
theorem zhB {a b:Option Nat×List Nat} {k:Nat} (ha:a.1=some k) (hb:b.1=some k∨k∈b.2):touch a b=true:=by
 unfold touch
 rw [ha]
 rcases hb with hb|hb
 ·simp [hb]
 ·simp [hb]
theorem zmJ (ht:TabOk cx.P tab) {L:List RG} {T:Option Oper} (hd:zcv ops (L.map (fun r=>(r.c.at,r.rd)))=true) (hL:L.map (·.o)++T.toList=ops.toList) {s0:AS} (ho:OutsG cx ops L s0) {E0:Env} {w0:World} {K:AS→Prop} (hK:endG cx tab ops L K (lexG L L.length s0) T):
  ∀ (fuel:Nat) (listed:Array Bool) (E:Env) (a:Act) (w:World),listed.size=ops.size→listed.toList.countP (fun b=>b==false)=fuel→
   (∀ (i:Nat) o,ops[i]?=some o→listed.getD i false=true→∀e∈o.after.toList,Region.binds .any e=true→listed.getD e.on false=true)→(T≠none→listed.getD L.length false=false)→
   Sat cx E (selG L (fun i=>listed.getD i false) s0) a w→Evo cx.fl E0 s0.h w0 E (selG L (fun i=>listed.getD i false) s0).h w→
   wpAnyIn cx.F 0 cx.P .any ops (fun e a' w'=>e= .normal∧Reach cx E0 s0.h w0 K a' w') fuel listed a w:=by
 have hlen:L.length+T.toList.length=ops.size:=by
  have:=congrArg List.length hL
  simpa using this
 have hget:∀ (l:Nat) (r:RG),L[l]?=some r→ops[l]?=some r.o:=fun l r hr=>by
  have hl:l<L.length:=(List.getElem?_eq_some_iff.1 hr).1
  have:=congrArg (fun x:List Oper=>x[l]?) hL
  simp only [List.getElem?_append_left (show l<(L.map (·.o)).length by simpa using hl),List.getElem?_map,hr,Option.map_some,Array.getElem?_toList] at this
  exact this.symm
 have hfoot:∀ (l:Nat) (r:RG),L[l]?=some r→(L.map (fun r=>(r.c.at,r.rd))).getD l (none,[])=(r.c.at,r.rd):=fun l r hr=>by simp [List.getD_eq_getElem?_getD,hr]
 have full:∀ (listed:Array Bool) (E:Env) (a:Act) (w:World),(∀i,i<L.length→listed.getD i false=true)→Sat cx E (selG L (fun i=>listed.getD i false) s0) a w→Evo cx.fl E0 s0.h w0 E (selG L (fun i=>listed.getD i false) s0).h w→
   Sat cx E (lexG L L.length s0) a w∧Evo cx.fl E0 s0.h w0 E (lexG L L.length s0).h w:=by
  intro listed E a w hall hs he
  have hSS:∀ (i:Nat) (r:RG),L[i]?=some r→listed.getD i false=decide (i<L.length):=fun i r hr=>by
   have hi:i<L.length:=(List.getElem?_eq_some_iff.1 hr).1
   rw [hall i (by omega),decide_eq_true hi]
  have hh:∀k,Go.Aw.hget (selG L (fun i=>listed.getD i false) s0).h k=Go.Aw.hget (lexG L L.length s0).h k:=fun k=>zey k L _ _ _ _ rfl (fun i r hr _=>hSS i r hr)
  refine ⟨hs.ext (fun k=>zfT (Q:=fun _=>True) L _ _ _ _ (fun _ _=>rfl) (fun i r hr _=>hSS i r hr) k trivial) hh ?_,he.ext hh⟩
  unfold lexG
  rw [zik,zik]
 have done:∀ (listed:Array Bool) (E:Env) (a:Act) (w:World),(∀i,i<ops.size→listed.getD i false=true)→(T≠none→listed.getD L.length false=false)→Sat cx E (selG L (fun i=>listed.getD i false) s0) a w→Evo cx.fl E0 s0.h w0 E (selG L (fun i=>listed.getD i false) s0).h w→
   (Exit.normal=Exit.normal∧Reach cx E0 s0.h w0 K a w):=by
  intro listed E a w hall hT hs he
  cases T with
  |some z=>
   have:=hT (by simp)
   rw [hall L.length (by simp at hlen;omega)] at this
   cases this
  |none=>
   obtain ⟨h1,h2⟩:=full listed E a w (fun i hi=>hall i (by omega)) hs he
   exact ⟨rfl,E,lexG L L.length s0,hK,h1,h2⟩
 have hr0:∀listed:Array Bool,listed.size=ops.size→(∀i,i<ops.size→listed.getD i false=true)→Region.ready .any ops listed= []:=by
  intro listed hsz hall
  cases hr:Region.ready .any ops listed with
  |nil=>rfl
  |cons i l=>
   have hi:i∈Region.ready .any ops listed:=by rw [hr];simp
   obtain ⟨h1,o,h2,_⟩:=mem_ready.1 hi
   have hlt:i<ops.size:=(Array.getElem?_eq_some_iff.1 h2).1
   have h3:=hall i hlt
   rw [Array.getD_eq_getD_getElem?,Array.getElem?_eq_getElem (by omega)] at h1 h3
   simp only [Option.getD_some] at h1 h3
   rw [h1] at h3;cases h3
 intro fuel
 induction fuel with
 | zero=>
  intro listed E a w hsz hc hcl hT hs he
  have hall:∀i,i<ops.size→listed.getD i false=true:=fun i hi=>by
   have h0:=List.countP_eq_zero.1 hc (listed[i]'(by omega)) (by simp)
   rw [Array.getD_eq_getD_getElem?,Array.getElem?_eq_getElem (by omega)]
   simpa using h0
  exact ⟨hr0 listed hsz hall,done listed E a w hall hT hs he⟩
 | succ fuel ih=>
  intro listed E a w hsz hc hcl hT hs he
  refine ⟨fun hr=>done listed E a w (zjn hd hsz hr) hT hs he,fun i hi=>?_⟩
  obtain ⟨hun,o,hoi,hdep⟩:=mem_ready.1 hi
  have hlt:i<ops.size:=(Array.getElem?_eq_some_iff.1 hoi).1
  have hun':listed[i]?=some false:=by
   rw [Array.getD_eq_getD_getElem?,Array.getElem?_eq_getElem (by omega)] at hun
   rw [Array.getElem?_eq_getElem (by omega)]
   simpa using hun
  have hSi:listed.getD i false=false:=by rw [Array.getD_eq_getD_getElem?,hun'];rfl
  have hdep':∀o',ops[i]?=some o'→∀e∈o'.after.toList,Region.binds .any e=true→listed.getD e.on false=true:=fun o' ho' e he' hb=>by
   rw [hoi] at ho';cases ho'
   exact hdep e (by simpa using he') hb
  rcases Nat.lt_or_ge i L.length with hiL|hiL
  rotate_left
  ·-- the last one
   cases T with
   |none=>simp at hlen;omega
   | some z=>
    simp only [Option.toList_some,List.length_singleton] at hlen
    obtain rfl:i=L.length:=by omega
    have hoz:o=z:=by
     have:=congrArg (fun x:List Oper=>x[L.length]?) hL
     simp only [Option.toList_some] at this
     rw [List.getElem?_append_right (by simp)] at this
     simp only [List.length_map,Nat.sub_self,List.getElem?_cons_zero,Array.getElem?_toList] at this
     rw [hoi] at this
     exact (Option.some.inj this).symm
    subst hoz
    obtain ⟨hanc,G,hG,hz⟩:=hK
    have hall:∀l,l<L.length→listed.getD l false=true:=fun l hl=>zdV (S:=fun i=>listed.getD i false) hcl _ L.length l (hanc l hl) hdep'
    obtain ⟨hs1,he1⟩:=full listed E a w hall hs he
    have hw:=zfO (Q:=fun _ _ _=>False) ht hs1 hG hz
    have hS':∀k,(listed.setIfInBounds L.length true).getD k false=if k=L.length then true else listed.getD k false:=fun k=>zkq listed L.length k (by omega)
    have hall':∀l,l<ops.size→(listed.setIfInBounds L.length true).getD l false=true:=fun l hl=>by
     rw [hS'];split
     ·rfl
     ·exact hall l (by omega)
    have hc':=zfP listed L.length fuel hun' hc
    have hf0:fuel=0:=by
     rw [← hc',List.countP_eq_zero]
     intro b hb
     obtain ⟨k,hk,rfl⟩:=List.getElem_of_mem hb
     have hk':k<ops.size:=by simp at hk;omega
     have:=hall' k hk'
     rw [Array.getD_eq_getD_getElem?,Array.getElem?_eq_getElem (by simpa using hk)] at this
     rw [Array.getElem_toList]
     simp only [Option.getD_some] at this
     rw [this]
     decide
    have next:∀a1 w1,Reach cx E (lexG L L.length s0).h w K a1 w1→wpAnyIn cx.F 0 cx.P .any ops (fun e a' w'=>e= .normal∧Reach cx E0 s0.h w0 K a' w') fuel (listed.setIfInBounds L.length true) a1 w1:=by
     rintro a1 w1 ⟨E1,s1,hk1,hs2,he2⟩
     subst hf0
     exact ⟨hr0 _ (by simpa using hsz) hall',rfl,E1,s1,hk1,hs2,he1.trans he2⟩
    unfold wpOpIn
    rw [hoi]
    dsimp only
    split at hw
    ·rename_i hwt
     rw [if_pos hwt]
     exact zaV hw next
    ·rename_i hwt
     rw [if_neg hwt]
     exact ⟨hw.1,next _ _ hw.2⟩
  obtain ⟨r,hr⟩:∃r,L[i]?=some r:=⟨_,List.getElem?_eq_getElem hiL⟩
  have hro:r.o=o:=Option.some.inj ((hget i r hr).symm.trans hoi)
  subst hro
  obtain ⟨hput,hnew,G,hG,hstep⟩:=ho i r hr
  have before:∀ (l:Nat) (r':RG),L[l]?=some r'→l<i→confG ops (r'.c.at,r'.rd) (r.c.at,r.rd) r'.o r.o=true→listed.getD l false=true:=fun l r' hr' hl hcf=>
   zdV (S:=fun i=>listed.getD i false) hcl _ i l (zkt hd hl (hget l r' hr') hoi (by rw [hfoot l r' hr',hfoot i r hr];exact hcf)) hdep'
  have behind:∀ (l:Nat) (r':RG),L[l]?=some r'→i<l→confG ops (r.c.at,r.rd) (r'.c.at,r'.rd) r.o r'.o=true→listed.getD l false=false:=fun l r' hr' hl hcf=>by
   cases hSl:listed.getD l false with
   |false=>rfl
   |true=>
    have:=zdV (S:=fun i=>listed.getD i false) hcl _ l i (zkt hd hl hoi (hget l r' hr') (by rw [hfoot l r' hr',hfoot i r hr];exact hcf)) (fun o' ho'=>hcl l o' ho' hSl)
    rw [hSi] at this;cases this
  have agree:∀ (l:Nat) (r':RG),L[l]?=some r'→(l<i→confG ops (r'.c.at,r'.rd) (r.c.at,r.rd) r'.o r.o=true)→(i<l→confG ops (r.c.at,r.rd) (r'.c.at,r'.rd) r.o r'.o=true)→listed.getD l false=decide (l<i):=fun l r' hr' h1 h2=>by
   rcases Nat.lt_trichotomy l i with h|h|h
   ·rw [before l r' hr' h (h1 h),decide_eq_true h]
   ·subst h;rw [hSi];simp
   ·rw [behind l r' hr' h (h2 h),decide_eq_false (by omega)]
  have hslots:∀k,k∈zhy ops r.o→lk (selG L (fun i=>listed.getD i false) s0).t k=lk (lexG L i s0).t k:=
   zfT (Q:=fun k=>k∈zhy ops r.o) L _ _ _ _ (fun _ _=>rfl) (fun l r' hr' ⟨d,hd1,hd2⟩=>agree l r' hr'
    (fun _=>by unfold confG;rw [hd1];simp [hd2])
    (fun _=>by unfold confG;rw [hd1];simp [hd2]))
  have hev:=zof (s:=lexG L i s0) (s':=selG L (fun i=>listed.getD i false) s0) (l:=zaz r.o.op) (fun k hk=>(hslots k (List.mem_append_left _ hk)).symm)
  have hgd:zaI (selG L (fun i=>listed.getD i false) s0) ops r.o.guard=some G:=by
   rw [← hG]
   exact zjl (fun k hk=>hslots k (List.mem_append_right _ hk))
  have hname:∀k,r.c.at=some k∨k∈r.rd→Go.Aw.hget (selG L (fun i=>listed.getD i false) s0).h k=Go.Aw.hget (lexG L i s0).h k:=fun k hk=>
   zey k L _ _ _ _ rfl (fun l r' hr' hm=>agree l r' hr'
    (fun _=>by
     have:=zhB (a:=(r'.c.at,r'.rd)) (b:=(r.c.at,r.rd)) hm hk
     unfold confG;simp [this])
    (fun _=>by
     have:=zhB (a:=(r'.c.at,r'.rd)) (b:=(r.c.at,r.rd)) hm hk
     unfold confG;simp [this]))
  have hgood:zhz (lexG L i s0).h r.c r.rd (selG L (fun i=>listed.getD i false) s0).h:=by
   refine ⟨fun k hk=>hname k (.inr hk),?_⟩
   cases hcc:r.c with
   |none=>trivial
   |put k ob=>exact hname k (.inl (by rw [hcc];rfl))
   |new k ob=>exact (hname k (.inl (by rw [hcc];rfl))).trans (hnew k ob hcc)
  have hw:=hstep (selG L (fun i=>listed.getD i false) s0) hev hgd hgood E a w (fun t=>t=({ selG L (fun i=>listed.getD i false) s0 with h:=r.c.app (selG L (fun i=>listed.getD i false) s0).h } :AS).put r.o.dst r.g r.v) (fun _ _ _=>False) hs rfl
  have next:∀a1 w1,Reach cx E (selG L (fun i=>listed.getD i false) s0).h w (fun t=>t=({ selG L (fun i=>listed.getD i false) s0 with h:=r.c.app (selG L (fun i=>listed.getD i false) s0).h } :AS).put r.o.dst r.g r.v) a1 w1→
    wpAnyIn cx.F 0 cx.P .any ops (fun e a' w'=>e= .normal∧Reach cx E0 s0.h w0 K a' w') fuel (listed.setIfInBounds i true) a1 w1:=by
   rintro a1 w1 ⟨E1,s1,rfl,hs1,he1⟩
   have hS':∀k,(listed.setIfInBounds i true).getD k false=if k=i then true else listed.getD k false:=fun k=>zkq listed i k (by omega)
   have hfun:(fun k=>(listed.setIfInBounds i true).getD k false)=fun k=>if k=i then true else listed.getD k false:=funext hS'
   have hputh:(({ selG L (fun i=>listed.getD i false) s0 with h:=r.c.app (selG L (fun i=>listed.getD i false) s0).h } :AS).put r.o.dst r.g r.v).h=r.c.app (selG L (fun i=>listed.getD i false) s0).h:=by unfold AS.put;cases r.o.dst<;>rfl
   have hputg:(({ selG L (fun i=>listed.getD i false) s0 with h:=r.c.app (selG L (fun i=>listed.getD i false) s0).h } :AS).put r.o.dst r.g r.v).g=(selG L (fun i=>listed.getD i false) s0).g:=by unfold AS.put;cases r.o.dst<;>rfl
   have agree':∀ (l:Nat) (r':RG),L[l]?=some r'→(l<i→confG ops (r'.c.at,r'.rd) (r.c.at,r.rd) r'.o r.o=true)→(i<l→confG ops (r.c.at,r.rd) (r'.c.at,r'.rd) r.o r'.o=true)→(listed.setIfInBounds i true).getD l false=decide (l<i+1):=fun l r' hr' h1 h2=>by
    rw [hS']
    rcases Nat.lt_trichotomy l i with h|h|h
    ·rw [if_neg (by omega),before l r' hr' h (h1 h),decide_eq_true (by omega)]
    ·subst h;rw [if_pos rfl];simp
    ·rw [if_neg (by omega),behind l r' hr' h (h2 h),decide_eq_false (by omega)]
   have hlk':∀k,lk (({ selG L (fun i=>listed.getD i false) s0 with h:=r.c.app (selG L (fun i=>listed.getD i false) s0).h } :AS).put r.o.dst r.g r.v).t k=lk (selG L (fun k=>(listed.setIfInBounds i true).getD k false) s0).t k:=by
    intro k
    rw [zmE]
    split
    ·rename_i hk
     have e1:lk (selG L (fun k=>(listed.setIfInBounds i true).getD k false) s0).t k=lk (lexG L (i+1) s0).t k:=
      zfT (Q:=fun j=>j=k) L _ _ _ _ (fun _ _=>rfl) (fun l r' hr' ⟨d,hd1,hd2⟩=>agree' l r' hr'
       (fun _=>by unfold confG;rw [hd1,hk,hd2];simp)
       (fun _=>by unfold confG;rw [hd1,hk,hd2];simp)) k rfl
     rw [e1,zil L i s0 r hr,zhA,if_pos hk]
    ·rename_i hk
     refine zfT (Q:=fun j=>j=k) L _ _ _ _ (fun _ _=>rfl) (fun l r' hr' ⟨d,hd1,hd2⟩=>?_) k rfl
     rw [hS',if_neg]
     intro e
     subst e
     rw [hr] at hr';cases hr'
     rw [hd2] at hd1
     exact hk hd1
   have hheap:∀k,Go.Aw.hget (({ selG L (fun i=>listed.getD i false) s0 with h:=r.c.app (selG L (fun i=>listed.getD i false) s0).h } :AS).put r.o.dst r.g r.v).h k=Go.Aw.hget (selG L (fun k=>(listed.setIfInBounds i true).getD k false) s0).h k:=by
    intro k
    rw [hputh,hfun]
    refine (zmI k L i r (fun i=>listed.getD i false) s0 hr hSi (fun l r' hr' hl hsl hk hk'=>?_)).symm
    have:=behind l r' hr' hl (by
     have:=zhB (a:=(r.c.at,r.rd)) (b:=(r'.c.at,r'.rd)) hk (.inl hk')
     unfold confG;simp [this])
    rw [hsl] at this;cases this
   refine ih (listed.setIfInBounds i true) E1 a1 w1 (by simpa using hsz) (zfP listed i fuel hun' hc) ?_ (fun h=>by rw [hS',if_neg (by omega)];exact hT h) (hs1.ext hlk' hheap (by rw [hputg,zik,zik])) ?_
   ·intro l o' ho' hSl e he' hb
    rw [hS'] at hSl ⊢
    split
    ·rfl
    ·split at hSl
     ·rename_i hli
      subst hli
      exact hdep' o' ho' e he' hb
     ·exact hcl l o' ho' hSl e he' hb
   ·exact (he.trans he1).ext hheap
  unfold wpOpIn
  rw [hoi]
  dsimp only
  split at hw
  ·rename_i hwt
   rw [if_pos hwt]
   exact zaV hw next
  ·rename_i hwt
   rw [if_neg hwt]
   exact ⟨hw.1,next _ _ hw.2⟩
theorem zaZ {id:Nat} {Q:Exit→AS→Prop} (tab:Tab) (owns:List FuncId) (ht:TabOk cx.P tab) (hm:cx.P.follows .mixedOrders=true) (h:gops cx tab owns ops (top cx.fl s.h) ops.toList [] (Q .normal) s):AW cx (.region id ops true) Q s:=by
 intro E a w hs
 obtain ⟨L,T,hL,hd,hK,ho⟩:=zin ht ops.toList _ [] (zeq _ _) h
 have hs':=hs.drawn
 have hev:Evo cx.fl E s.h w E s.h { w with drawn:=w.drawn+1 } :=⟨rfl,rfl,rfl,Nat.le_refl _,fun _ _ _ _=>rfl,fun _ h=> .inl h,fun _ h=>h,fun _ h=> .inl h,rfl,fun i _ h=>⟨h,GoesOn.refl E _ i⟩⟩
 have h0:∀i,(Array.replicate ops.size false).getD i false=false:=fun i=>by
  rw [Array.getD_eq_getD_getElem?,Array.getElem?_replicate]
  split<;>rfl
 have hsel:selG L (fun i=>(Array.replicate ops.size false).getD i false) s=s:=by
  have:(fun i=>(Array.replicate ops.size false).getD i false)=fun i=>decide (i<0):=by
   funext i;rw [h0];simp
  rw [this]
  exact zcu L s
 refine wpIn_mono (wpIn_region_any hm (zmJ ht (by simpa using hd) hL ho hK ops.size (Array.replicate ops.size false) E a _ (by simp) (by rw [Array.toList_replicate,List.countP_replicate];rfl) (fun i o _ hi=>by rw [h0] at hi;cases hi) (fun _=>h0 _) (by rw [hsel];exact hs') (by rw [hsel];exact hev))) ?_
 rintro e a' w' ⟨rfl,hr⟩
 exact hr
theorem zaP {id:Nat} {y:Code} {Q:Exit→AS→Prop} (tab:Tab) (owns:List FuncId) (ht:TabOk cx.P tab) (hm:cx.P.follows .mixedOrders=true) (h:∀K,(∀s',AW cx y Q s'→K s')→gops cx tab owns ops (top cx.fl s.h) ops.toList [] K s):AW cx (.seq (.region id ops true) y) Q s:=
 zay fun K hK=>zaZ tab owns ht hm (h K hK)
end
attribute [go_sem] gops zpP gop chOf Ch.app Ch.at atCx isEff List.contains_cons List.contains_nil Option.map_some List.isEmpty_cons List.isEmpty_nil
attribute [go_sem] foot footA footL List.reverse_cons List.reverse_nil
open Go
def rdy (L:List Bool) (o:Oper):Bool:=o.after.toList.all fun e=> !Region.binds .any e||L.getD e.on false
def zhC (f:Nat→Oper→Prop) (L:List Bool):Nat→List Oper→Prop
 |_,[]=>True
 |i,o::r=>(if (!(L.getD i false)&&rdy L o)=true then f i o else True)∧zhC f L (i+1) r
def anyR (L:List Bool):Nat→List Oper→Bool
 |_,[]=>false
 |i,o::r=>(!(L.getD i false)&&rdy L o)||anyR L (i+1) r
abbrev Hot:=FuncId→List AV→AHeap→Option (AV×AHeap)
def HotOk (P:Program) (fl:Nat) (hot:Hot):Prop:=∀f args h r h',hot f args h=some (r,h')→∀K:AV→AHeap→Prop,K r h'→ACallAt P fl f args h K
def noHot:Hot:=fun _ _ _=>none
theorem zom (P:Program) (fl:Nat):HotOk P fl noHot:=fun _ _ _ _ _ h=>by cases h
open Classical in
noncomputable def hotOf (hot:Hot) (f:FuncId) (args:List AV) (h:AHeap) (r:AV) (h':AHeap):Hot:=fun f' args' h1=>if ((f':Nat)==(f:Nat))=true then (if args'=args∧h1=h then some (r,h') else none) else hot f' args' h1
theorem zon {P:Program} {fl:Nat} {hot:Hot} (hk:HotOk P fl hot) {f:FuncId} {args:List AV} {h:AHeap} {r:AV} {h':AHeap} (hc:∀K:AV→AHeap→Prop,K r h'→ACallAt P fl f args h K):HotOk P fl (hotOf hot f args h r h'):=by
 intro f1 args1 h1 r1 h1' he K hK
 unfold hotOf at he
 split at he
 ·rename_i hq
  have hq:f1=f:=by simpa using hq
  subst hq
  split at he
  ·rename_i hq
   obtain ⟨rfl,rfl⟩:=hq
   cases he
   exact hc K hK
  ·cases he
 ·exact hk _ _ _ _ _ he K hK
def aopH (cx:Cx) (tab:Tab) (hot:Hot) (G:Bool) (o:Oper) (K:AS→Prop) (s:AS):Prop:=
 match o.op with
 | .call c=>(match zaH cx.P s c with
  |some (f,args,vc)=>(match hot f args s.h with
   |some (r,h2)=>isVal cx.P (.call c)=false∧G=true∧dstOk cx.nt o.dst∧vc∧K ({ s with h:=h2 }.put o.dst true r)
   |none=>aopY cx tab G o K s)
  |none=>aopY cx tab G o K s)
 |_=>aopY cx tab G o K s
def linY (cx:Cx) (tab:Tab) (hot:Hot) (all:Array Oper) (lst:List Oper) (K:AS→Prop):Nat→List Bool→AS→Prop
 |0,_,s=>K s
 | n+1,L,s=>anyR L 0 lst=true∧zhC (fun i o=>match zaI s all o.guard with
   |some G=>aopH cx tab hot G o (linY cx tab hot all lst K n (L.set i true)) s
   |none=>False) L 0 lst
section
variable {cx : Cx} {tab : Tab} {hot : Hot} {ops : Array Oper} {K : AS → Prop}
theorem zqi (ht:TabOk cx.P tab) (hh:HotOk cx.P cx.fl hot) {E:Env} {s:AS} {a:Act} {w:World} {all:Array Oper} {o:Oper} {G:Bool} {K:AS→Prop} {Q:Exit→Act→World→Prop} (hs:Sat cx E s a w) (hg:zaI s all o.guard=some G) (h:aopH cx tab hot G o K s):
  if Region.wanted o (yielded all a.tmps) then o.wpIn cx.F 0 cx.P a w (Reach cx E s.h w K) Q else (∀f,o.about cx.P w a.eval=some f→cx.F.fn f)∧Reach cx E s.h w K (a.put o.dst undef) w:=by
 unfold aopH at h
 split at h
 ·rename_i c hop
  split at h
  ·rename_i f args vc hco
   split at h
   ·rename_i r h2 hhot
    obtain ⟨h1,rfl,h3,h4,h5⟩:=h
    refine zgS hs hg ⟨h3,?_⟩
    rw [hop]
    dsimp only
    rw [if_neg (by rw [h1];simp)]
    refine ⟨fun _=>?_,fun e=>by cases e⟩
    unfold aop1
    rw [hop]
    dsimp only
    rw [if_neg (by rw [h1];simp),hco]
    exact ⟨h4,hh _ _ _ _ _ hhot _ h5⟩
   ·exact zhu ht hs hg h
  ·exact zhu ht hs hg h
 ·exact zhu ht hs hg h
theorem zfc {F:Fence} {n:Nat} {P:Program} {md:Region.Mode} {Q Q':Exit→Act→World→Prop} (hq:∀a w,Q .normal a w→Q' .normal a w) (hf:∀i K a w,wpOpIn F n P ops Q i K a w→wpOpIn F n P ops Q' i K a w):∀ (fuel:Nat) (listed:Array Bool) (a:Act) (w:World),wpAnyIn F n P md ops Q fuel listed a w→wpAnyIn F n P md ops Q' fuel listed a w
 |0,listed,a,w,h=>⟨h.1,hq _ _ h.2⟩
 |fuel+1,listed,a,w,h=>⟨fun hr=>hq _ _ (h.1 hr),fun i hi=>hf _ _ _ _ (wpOpIn_mono (fun a w=>zfc hq hf fuel _ a w) (h.2 i hi))⟩
theorem zlh {f:Nat→Oper→Prop} {L:List Bool} (l:List Oper):∀ (k i:Nat) (o:Oper),zhC f L k l→l[i]?=some o→L.getD (k+i) false=false→rdy L o=true→f (k+i) o:=by
 induction l with
 |nil=>intro k i o h hi;simp at hi
 | cons x r ih=>
  intro k i o h hi h1 h2
  cases i with
  | zero=>
   simp only [List.getElem?_cons_zero,Option.some.injEq] at hi
   subst hi
   have h3:=h.1
   have hc:(!(L.getD k false)&&rdy L x)=true:=by
    have:L.getD k false=false:=h1
    rw [this,h2];rfl
   rw [if_pos hc] at h3
   exact h3
  |succ i=>
   have hi':r[i]?=some o:=by rw [← hi,List.getElem?_cons_succ]
   have:=ih (k+1) i o h.2 hi' (by rw [← h1];congr 1;omega) h2
   rwa [show k+1+i=k+(i+1) by omega] at this
theorem zmK {L:List Bool} :∀ (l:List Oper) (k:Nat),anyR L k l=true→∃i o,l[i]?=some o∧L.getD (k+i) false=false∧rdy L o=true
 | [],k,h=>by cases h
 | x::r,k,h=>by
  simp only [anyR,Bool.or_eq_true,Bool.and_eq_true,Bool.not_eq_true'] at h
  rcases h with ⟨h1,h2⟩|h
  ·exact ⟨0,x,rfl,h1,h2⟩
  ·obtain ⟨i,o,h1,h2,h3⟩:=zmK r (k+1) h
   exact ⟨i+1,o,by simpa using h1,by rw [← h2];congr 1;omega,h3⟩
theorem zde (l:Array Bool) (i:Nat) (d:Bool):l.toList.getD i d=l.getD i d:=by
 simp [List.getD_eq_getElem?_getD,Array.getD_eq_getD_getElem?]
theorem zmL (ht:TabOk cx.P tab) (hh:HotOk cx.P cx.fl hot):∀ (n:Nat) (listed:Array Bool) {s:AS} {E:Env} {a:Act} {w:World},listed.size=ops.size→listed.toList.countP (fun b=>b==false)=n→Sat cx E s a w→linY cx tab hot ops ops.toList K n listed.toList s→
  wpAnyIn cx.F 0 cx.P .any ops (fun e a' w'=>e= .normal∧Reach cx E s.h w K a' w') n listed a w
 | 0,listed,s,E,a,w,hsz,hc,hs,h=>by
  refine ⟨?_,rfl,zef hs h⟩
  cases hr:Region.ready .any ops listed with
  |nil=>rfl
  |cons i l=>
   have hi:i∈Region.ready .any ops listed:=by rw [hr];simp
   obtain ⟨h1,o,h2,_⟩:=mem_ready.1 hi
   have hlt:i<ops.size:=(Array.getElem?_eq_some_iff.1 h2).1
   have h0:=List.countP_eq_zero.1 hc (listed[i]'(by omega)) (by simp)
   rw [Array.getD_eq_getD_getElem?,Array.getElem?_eq_getElem (by omega)] at h1
   simp only [Option.getD_some] at h1
   rw [h1] at h0
   simp at h0
 | n + 1,listed,s,E,a,w,hsz,hc,hs,h=>by
  obtain ⟨hany,halt⟩:=h
  refine ⟨fun hr=>?_,fun i hi=>?_⟩
  ·exfalso
   obtain ⟨i,o,h1,h2,h3⟩:=zmK _ _ hany
   rw [Nat.zero_add,zde] at h2
   have hlt:i<ops.size:=(Array.getElem?_eq_some_iff.1 (by simpa using h1)).1
   have:i∈Region.ready .any ops listed:=mem_ready.2 ⟨by
    rw [Array.getD_eq_getD_getElem?,Array.getElem?_eq_getElem (by omega)] at h2 ⊢
    simpa using h2,o,by simpa using h1,fun e he hb=>by
    have:=List.all_eq_true.1 h3 e (by simpa using he)
    rw [hb,zde] at this
    simpa using this⟩
   rw [hr] at this
   cases this
  ·obtain ⟨h1,o,h2,h3⟩:=mem_ready.1 hi
   have hlt:i<ops.size:=(Array.getElem?_eq_some_iff.1 h2).1
   have hl:listed[i]?=some false:=by
    rw [Array.getD_eq_getD_getElem?,Array.getElem?_eq_getElem (by omega)] at h1
    rw [Array.getElem?_eq_getElem (by omega)]
    simpa using h1
   have hst:=zlh ops.toList 0 i o halt (by simpa using h2) (by rw [Nat.zero_add,zde,Array.getD_eq_getD_getElem?,hl];rfl) (by
    unfold rdy
    refine List.all_eq_true.2 fun e he=>?_
    rw [zde]
    cases hb:Region.binds .any e with
    |true=>simpa using h3 e (by simpa using he) hb
    |false=>rfl)
   rw [Nat.zero_add] at hst
   split at hst
   ·rename_i G hg
    have hcnt:(listed.setIfInBounds i true).toList.countP (fun b=>b==false)=n:=zfP listed i n hl hc
    have hlist:(listed.setIfInBounds i true).toList=listed.toList.set i true:=Array.toList_setIfInBounds ..
    have:=zqi ht hh (Q:=fun _ _ _=>False) hs hg hst
    have next:∀a1 w1,Reach cx E s.h w (linY cx tab hot ops ops.toList K n (listed.toList.set i true)) a1 w1→
      wpAnyIn cx.F 0 cx.P .any ops (fun e a' w'=>e= .normal∧Reach cx E s.h w K a' w') n (listed.setIfInBounds i true) a1 w1:=by
     rintro a1 w1 ⟨E1,s1,hk,hs1,he1⟩
     rw [← hlist] at hk
     have ih:=zmL ht hh n (listed.setIfInBounds i true) (by simpa using hsz) hcnt hs1 hk
     refine zfc (fun a w h=>⟨rfl,h.2.trans he1⟩) (fun i K a w h=>?_) _ _ _ _ ih
     unfold wpOpIn at h ⊢
     split at h
     ·exact h
     ·split at h
      ·rename_i hw
       rw [if_pos hw]
       exact zfL h (fun _ _ h=>h) (fun e a w h=>⟨h.1,h.2.trans he1⟩)
      ·rename_i hw
       rw [if_neg hw]
       exact h
    unfold wpOpIn
    rw [h2]
    dsimp only
    split at this
    ·rename_i hw
     rw [if_pos hw]
     exact zaV this next
    ·rename_i hw
     rw [if_neg hw]
     exact ⟨this.1,next _ _ this.2⟩
   ·exact hst.elim
theorem zhD {s:AS} {id:Nat} {Q:Exit→AS→Prop} (tab:Tab) (hot:Hot) (ht:TabOk cx.P tab) (hh:HotOk cx.P cx.fl hot) (hm:cx.P.follows .mixedOrders=true) (h:linY cx tab hot ops ops.toList (Q .normal) ops.size (List.replicate ops.size false) s):AW cx (.region id ops true) Q s:=by
 intro E a w hs
 have hs':=hs.drawn
 have hev:Evo cx.fl E s.h w E s.h { w with drawn:=w.drawn+1 } :=⟨rfl,rfl,rfl,Nat.le_refl _,fun _ _ _ _=>rfl,fun _ h=> .inl h,fun _ h=>h,fun _ h=> .inl h,rfl,fun i _ h=>⟨h,GoesOn.refl E _ i⟩⟩
 refine wpIn_mono (wpIn_region_any hm (zmL ht hh ops.size (Array.replicate ops.size false) (by simp) (by rw [Array.toList_replicate,List.countP_replicate];rfl) hs' (by rw [Array.toList_replicate];exact h))) ?_
 rintro e a' w' ⟨rfl,hr⟩
 exact hr.trans hev
end
attribute [go_sem] linY zhC anyR rdy Region.binds aopH noHot hotOf
open Go
theorem ACall.one {P:Program} {f:FuncId} {args:List AV} {fl fl' i:Nat} {ob:AObj} {h h2:AHeap} {R:AV→AObj→Prop} (hc:ACall P f fl args [(i,ob)] (fun r h'=>∃ob',h'= [(i,ob')]∧R r ob'))
  (h1:hsel (fun j=>decide (j=i)||decide (fl≤j)) h= [(i,ob)]) (h2e:hsel (fun j=> !(decide (j=i)||decide (fl≤j))) h=h2) (hfl:∀i,(hget h i).isSome→i<fl) (hg:hget h i=some ob)
  (hcl:∀j∈ob.ids,j=i) (ha:∀j∈AV.idsL args,j=i) (hle:fl'≤fl):ACallAt P fl' f args h (fun r h'=>∃ob',R r ob'∧h'=(i,ob')::h2):=by
 have hi:i<fl:=hfl i (by simp [hg])
 have :=ACall.frame (P:=P) (f:=f) (args:=args) (fl:=fl) (fl':=fl') (h:=h) (p:=fun j=>decide (j=i)||decide (fl≤j)) (K:=fun r h'=>∃ob',h'= [(i,ob')]∧R r ob') (by rw [h1];exact hc) hfl (fun j hj=>by simp;exact .inr hj)
  (fun j o ho hp k hk=>by
   have hj:=hfl j (by simp [ho])
   have:j=i:=by
    have:j=i∨fl≤j:=by simpa using hp
    omega
   subst this
   rw [hg] at ho;cases ho
   simp [hcl k hk]) (fun j hj=>by simp [ha j hj]) hle (fun r h' ⟨ob',he,_⟩=>by
    subst he
    refine ⟨fun j hj hp=>?_,fun j hj=>?_⟩
    ·have hjl:=hfl j hj
     have:j=i:=by
      have:j=i∨fl≤j:=by simpa using hp
      omega
     subst this
     simp [hget]
    ·simp only [hget] at hj
     split at hj
     ·rename_i e;simp [e]
     ·simp at hj)
 refine this.mono ?_
 rintro r h' ⟨h1',⟨ob',rfl,hR⟩,rfl⟩
 rw [h2e]
 exact ⟨ob',hR,rfl⟩
theorem zku:∀ {h:AHeap} {i:Nat} {o:AObj},hget h i=some o→(i,o)∈h
  | [],i,o,hg=>by simp [hget] at hg
  | (k,x)::r,i,o,hg=>by
    simp only [hget] at hg
    split at hg
    · rename_i e;subst e;cases hg;exact List.mem_cons_self ..
    · exact List.mem_cons_of_mem _ (zku hg)
theorem zV {P:Program} {f:FuncId} {args:List AV} {fl:Nat} {h:AHeap} {K:AV→AHeap→Prop} (p:Nat→Bool) (hc:ACall P f fl args h (fun r h'=>(hsel p h').all (fun q=>q.2.ids.all p)=true∧r.ids.all p=true∧K r (hsel p h'))):ACall P f fl args h K:=by
 refine ⟨hc.1,fun E w vs hs hr=>(hc.2 E w vs hs hr).mono ?_⟩
 rintro e w' ⟨v,E',r,h',h1,⟨h2,h3,h4⟩,h5,h6,h7⟩
 have hcl:zgW p h':=fun i o ho hp j hj=>by
  have hg:hget (hsel p h') i=some o:=by rw [zr,if_pos hp];exact ho
  have:=List.all_eq_true.1 h2 _ (zku hg)
  exact List.all_eq_true.1 this j hj
 refine ⟨v,E',r,hsel p h',h1,h4,zji h5 hcl,zmu (fun j hj=>List.all_eq_true.1 h3 j hj) h6,?_⟩
 refine ⟨h7.os,h7.tape,h7.output,h7.size,h7.keep,fun b ho=>h7.own b (zL ho),h7.m,h7.n,fun i hi hl=>?_⟩
 rw [zr] at hl
 by_cases hp:p i=true
 ·rw [if_pos hp] at hl
  obtain ⟨g1,g2⟩:=h7.go i hi hl
  exact ⟨g1,g2.trans (zdT i hp)⟩
 ·rw [if_neg hp] at hl
  cases hl
attribute [go_sem] AObj.ids List.all_nil List.all_cons List.all_append
open Go
section
variable {F : Fence} {n : Nat} {P : Program} {Q : Exit → Act → World → Prop} {a : Act} {w : World}
theorem zbO {b:Frame} {k:List Item} {cs:List Frame} {c:Code} :step P (lone (b.atR a (.code (.scope c)::k)) cs w)= .next (lone (b.atR a (.code c:: .inScope c::k)) cs w):=
 step_lone_go (by simp [stepG,stepG.exec,Frame.atR])
theorem zhE {b:Frame} {k:List Item} {cs:List Frame} {c:Code} :step P (lone (b.atR a (.inScope c::k)) cs w)= .next (lone (b.atR a k) cs w):=
 step_lone_go (by simp [stepG,stepG.exec,Frame.atR])
theorem zei {c:Code} (h:c.wpIn F n P (Exit.noGoto Q) a w):(Code.scope c).wpIn F n P Q a w:=by
 intro b k cs hro hb hr
 have h0:(lone (b.atR a (.code (.scope c)::k)) cs w).fenced P F:=fenced_calm hb hr rfl
 obtain ⟨e,a₁,w₁,hq,harr⟩:=h b (.inScope c::k) cs hro hb hr
 cases e with
 |normal=>exact ⟨.normal,a₁,w₁,hq,.head h0 zbO (StepsIn.trans harr (.one (fenced_calm hb hr rfl) zhE))⟩
 | exit id=>
  have hx:exitTo id (.inScope c::k)=exitTo id k:=by simp [exitTo]
  exact ⟨.exit id,a₁,w₁,hq,fun k' hk=> .head h0 zbO (harr.1 k' (by rw [hx];exact hk)),
   fun hr' hk=>let ⟨k₁,h1,h2⟩:=harr.2 hr' (by rw [hx];exact hk);⟨k₁,h1,.head h0 zbO h2⟩⟩
 |goto l=>exact hq.elim
 |ret=>exact ⟨_,a₁,w₁,hq,.of_steps (.one h0 zbO) harr⟩
 |panic ch=>exact ⟨_,a₁,w₁,hq,.of_steps (.one h0 zbO) harr⟩
 |outgrown=>exact ⟨_,a₁,w₁,hq,.of_steps (.one h0 zbO) harr⟩
end
def zpQ (Q:Exit→AS→Prop):Exit→AS→Prop
 | .goto _,_=>False
 |e,s=>Q e s
attribute [go_sem] zpQ
theorem zhF {cx:Cx} {Q:Exit→AS→Prop} {s:AS} {c:Code} (h:AW cx c (zpQ Q) s):AW cx (.scope c) Q s:=by
 intro E a w hs
 refine zei (wpIn_mono (h E a w hs) ?_)
 intro e a1 w1 hr
 cases e with
 |goto l=>obtain ⟨_,_,h,_⟩:=hr;exact h
 |_=>exact hr
open Go
theorem sa {P Q:Prop} (h:Q) (t:Q→P:=by first|exact ze _ ‹TabOk _ _› |exact zaP _ [] ‹TabOk _ _› mx):P:=t h
theorem sb {P Q:Prop} (h:Q) (t:Q→P:=by first|exact zag _ ‹TabOk _ _› |exact zc2|exact zc6|exact zd7|exact zhj|exact zaZ _ [] ‹TabOk _ _› mx):P:=t h
theorem sc {P Q:Prop} (h:Q) (t:Q→P:=by first|exact zaB|exact zhF|exact zfR rfl|exact zfS rfl):P:=t h
theorem le0 {P:Prop} (t:P:=by simp only [AS.le,leT,leH,zi,AsgK,AV.le,AV.leL,AObj.le,inH,idsT,idsH,AV.ids,AV.idsL,AV.idsR,AObj.ids,lk,hget,go_sem,aeq,aeq.aeqF,simprocAttr]):P:=t
theorem le1 {P:Prop} (t:P:=by simp only [AS.le,leT,leH,zi,AsgK,AV.le,AV.leL,AObj.le,inH,idsT,idsH,AV.ids,AV.idsL,AV.idsR,AObj.ids,lk,hget,go_sem,aeq,aeq.aeqF,simprocAttr]<;>and_intros<;>rfl):P:=t
theorem lew {P:Prop} (t:P:=by simp only [AS.le,leT,leH,zi,AsgK,AV.le,AV.leL,AObj.le,inH,idsT,idsH,AV.ids,AV.idsL,AV.idsR,AObj.ids,lk,hget,go_sem,aeq,aeq.aeqF,simprocAttr,hwi]):P:=t
theorem lev {P:Prop} (t:P:=by simp only [AS.le,leT,leH,zi,AsgK,AV.le,AV.leL,AObj.le,inH,idsT,idsH,AV.ids,AV.idsL,AV.idsR,AObj.ids,lk,hget,go_sem,aeq,aeq.aeqF,simprocAttr,hwi]<;>and_intros<;>rfl):P:=t
def fxd (n:Nat):Nat:=n
theorem fx:fxd 0=0:=rfl
theorem tk {P:Program} :TabOk P noTab:=zb P
theorem eqmp {A Q:Prop} (h:Q) (e:A=Q):A:=e ▸ h
section
variable {P : Prop} {cx : Cx} {y : Code} {Q : Exit → AS → Prop} {R : (AS → Prop) → Prop}
theorem wa (h:∀K:AS→Prop,(∀s',AW cx y Q s'→K s')→R K) (t:(∀K:AS→Prop,(∀s',AW cx y Q s'→K s')→R K)→P:=by
  intro h
  first
  |((first|refine ze _ tk (fun K hK=>eqmp (h K hK) ?_)|refine zaP _ [] tk mx (fun K hK=>eqmp (h K hK) ?_));simp only [go_sem,aeq,aeq.aeqF,simprocAttr,fx];rfl)
  |exact zay h):P:=t h
theorem xa (h:∀K:AS→Prop,(∀s',AW cx y Q s'→K s')→R K) (t:(∀K:AS→Prop,(∀s',AW cx y Q s'→K s')→R K)→P:=by
  intro h
  first
  |((first|refine zgy _ tk (fun K hK=>eqmp (h K hK) ?_)|refine zaP _ [] tk mx (fun K hK=>eqmp (h K hK) ?_));simp only [go_sem,aeq,aeq.aeqF,simprocAttr,fx];rfl)
  |exact zay h):P:=t h
end
theorem wb {P Q:Prop} (h:Q) (t:Q→P:=by
  intro h
  first
  |((first|refine zag _ tk (eqmp h ?_)|refine zc2 (eqmp h ?_)|refine zc6 (eqmp h ?_)|refine zd7 (eqmp h ?_)|refine zhj (eqmp h ?_)|refine zaZ _ [] tk mx (eqmp h ?_));simp only [go_sem,aeq,aeq.aeqF,simprocAttr,fx];rfl)
  |exact zaB h|exact zhF h|exact zfR rfl h|exact zfS rfl h):P:=t h
theorem xb {P Q:Prop} (h:Q) (t:Q→P:=by
  intro h
  first
  |((first|refine zgX _ tk (eqmp h ?_)|refine zc2 (eqmp h ?_)|refine zc6 (eqmp h ?_)|refine zd7 (eqmp h ?_)|refine zhj (eqmp h ?_)|refine zaZ _ [] tk mx (eqmp h ?_));simp only [go_sem,aeq,aeq.aeqF,simprocAttr,fx];rfl)
  |exact zaB h|exact zhF h|exact zfR rfl h|exact zfS rfl h):P:=t h
theorem wd {a b:Bool} {Q:Prop} (h:a=b→Q):a=b→Q:=h
theorem wn {R Y:Bool→Prop} (h:∀nb:Bool,(nb=true→R nb)→Y nb):∀nb:Bool,(nb=true→R nb)→Y nb:=h
@[go_sem] theorem cxY_fl {P:Program} {items:List (List AV)} (base nt fl:Nat) (y:Yo P items):(cxY P base nt fl y).fl=fl:=rfl
theorem zqj {cx:Cx} {Q:Exit→AS→Prop} {s:AS} (hin:inH (hsel (fun i=>decide (i<cx.fl)) s.h) (idsH (hsel (fun i=>decide (i<cx.fl)) s.h))) (h:Q .ret { t:=keepT (hsel (fun i=>decide (i<cx.fl)) s.h) s.t,h:=hsel (fun i=>decide (i<cx.fl)) s.h,g:=s.g }):AW cx .ret Q s:=zqd _ hin (zd7 h)
theorem xk {P Q:Prop} (h:Q) (t:Q→P:=by
  intro h
  refine zqj (by simp only [inH,idsH,hsel,AV.ids,AV.idsL,AV.idsR,AObj.ids,hget,go_sem,aeq,aeq.aeqF,simprocAttr]) (eqmp h ?_)
  simp only [go_sem,aeq,aeq.aeqF,simprocAttr,fx,hsel,keepT]
  rfl):P:=t h
theorem wl {P Q:Prop} (h:Q) (t:Q→P:=by
  intro h
  (first|refine (show AS.le _ _ from eqmp h ?_)|refine (show leH _ _ from eqmp h ?_)|refine (show inH _ _ from eqmp h ?_))
  simp only [AS.le,leT,leH,zi,AsgK,AV.le,AV.leL,AObj.le,inH,idsT,idsH,AV.ids,AV.idsL,AV.idsR,AObj.ids,lk,hget,go_sem,aeq,aeq.aeqF,simprocAttr,fx]
  rfl):P:=t h
theorem wc {P Q R:Prop} (h:Q) (g:R) (t:Q→R→P:=by first|with_reducible exact And.intro|exact zbf rfl):P:=t h g
theorem we {P:Prop} (t:P:=by first|with_reducible exact True.intro|((refine (show zcv _ _=true from ?_));kernel_rfl)|((refine (show zpO _ _=true from ?_));kernel_rfl)|omega|assumption):P:=t
section
variable {P : Program}
theorem bod {f:FuncId} {fn:Func} {c:Code} {nt fl:Nat} {args:List AV} {h:AHeap} {K:AV→AHeap→Prop} (hf:P.funcs[f]?=some fn) (hnt:fn.ntmps=nt)
  (haw:∀base,AW (cxOf P base nt fl) c (RetK P fn K) { t:=zaC 0 args,h:=h,g:=some [] }) (hb:fn.body=some c:=by rfl) (he:(fn.name== "runtime.NumGoroutine")=false:=by kernel_rfl) (hi:fn.body.isNone=false:=by rfl) (hn:args.length≤nt:=by simp):ACall P f fl args h K:=
 zao hf hb (zca hf he hi) hnt hn haw
theorem fbod {f:FuncId} {fn:Func} {c:Code} {nt:Nat} {args:List AV} {r:AV} (hf:P.funcs[f]?=some fn) (hnt:fn.ntmps=nt)
  (haw:∀base,AW (cxOf P base nt 0) c (RetK P fn (fun r' h'=>frz 9 h' r'=r)) { t:=zaC 0 args,h:= [],g:=some [] }) (hb:fn.body=some c:=by rfl) (he:(fn.name== "runtime.NumGoroutine")=false:=by kernel_rfl) (hi:fn.body.isNone=false:=by rfl) (hn:args.length≤nt:=by simp):ACall P f 0 args [] (fun r' _=>r'=r):=
 zmF (zao hf hb (zca hf he hi) hnt hn haw)
theorem itr {f:FuncId} {fn:Func} {c:Code} {nt fl:Nat} {pre caps:List AV} {h:AHeap} {items:List (List AV)} {K:Option (List (List AV))→AHeap→Prop} (hf:P.funcs[f]?=some fn) (hnt:fn.ntmps=nt)
  (haw:∀base (y:Yo P items),AW (cxY P base nt fl y) c (IterK K) { t:=zaC 0 (pre++ .fn (.yield y.yl) [] []::caps),h:=h,g:=some [] }) (hb:fn.body=some c:=by rfl) (he:(fn.name== "runtime.NumGoroutine")=false:=by kernel_rfl) (hi:fn.body.isNone=false:=by rfl) (hres:fn.results= #[]:=by rfl) (hn:pre.length+caps.length+1≤nt:=by simp):AIter P f fl pre caps h items K:=
 zht hf hb (zca hf he hi) hnt hres hn haw
end
inductive Lo {P:Prop} (h:P):Prop|mk
theorem lo2 {P:Prop} (h:P) (u:Lo h):P:=h
inductive Stp (n:Nat):Prop|mk
theorem zbj (n:Nat):Stp n:= .mk
theorem hdt {cx:Cx} {c:Code} {Q:Exit→AS→Prop} {s:AS} {n:Nat} (st:Stp n) (h:hdR c=some n) (g:AW cx c Q s):AW cx c Q s:=g
theorem zF {a b:Prop} (x:a) (y:b):a∧b:=⟨x,y⟩
theorem zG {a b c:Prop} (x:a) (y:b) (z:c):a∧b∧c:=⟨x,y,z⟩
theorem zaJ {a b c d:Prop} (x:a) (y:b) (z:c) (u:d):a∧b∧c∧d:=⟨x,y,z,u⟩
theorem zcW {a b c d e:Prop} (x:a) (y:b) (z:c) (u:d) (v:e):a∧b∧c∧d∧e:=⟨x,y,z,u,v⟩
theorem zaa {a b c d e f:Prop} (x:a) (y:b) (z:c) (u:d) (v:e) (w:f):a∧b∧c∧d∧e∧f:=⟨x,y,z,u,v,w⟩
theorem natC:∀n:Nat,((n:Int)).toNat=n:=Int.toNat_natCast
inductive Ow (l:List FuncId):Prop|mk
theorem ownsL (l:List FuncId):Ow l:= .mk
theorem zfY {cx:Cx} {ops:Array Oper} {s:AS} {id:Nat} {Q:Exit→AS→Prop} (tab:Tab) {l:List FuncId} (_:Ow l) (ht:TabOk cx.P tab) (hm:cx.P.follows .mixedOrders=true) (h:gops cx tab l ops (top cx.fl s.h) ops.toList [] (Q .normal) s):AW cx (.region id ops true) Q s:=zaZ tab l ht hm h
theorem zej {cx:Cx} {ops:Array Oper} {s:AS} {id:Nat} {y:Code} {Q:Exit→AS→Prop} (tab:Tab) {l:List FuncId} (_:Ow l) (ht:TabOk cx.P tab) (hm:cx.P.follows .mixedOrders=true) (h:∀K,(∀s',AW cx y Q s'→K s')→gops cx tab l ops (top cx.fl s.h) ops.toList [] K s):AW cx (.seq (.region id ops true) y) Q s:=zaP tab l ht hm h
theorem wao {P:Prop} {cx:Cx} {y:Code} {Q:Exit→AS→Prop} {R:(AS→Prop)→Prop} (h:∀K:AS→Prop,(∀s',AW cx y Q s'→K s')→R K) (t:(∀K:AS→Prop,(∀s',AW cx y Q s'→K s')→R K)→P:=by
  intro h
  refine zej _ ow tk mx (fun K hK=>eqmp (h K hK) ?_);simp only [go_sem,aeq,aeq.aeqF,simprocAttr,fx];rfl):P:=t h
theorem wbo {P Q:Prop} (h:Q) (t:Q→P:=by
  intro h
  refine zfY _ ow tk mx (eqmp h ?_);simp only [go_sem,aeq,aeq.aeqF,simprocAttr,fx];rfl):P:=t h
section
variable {Q F : Prop} {P : Program} {T : Tab} {l : List FuncId} {n : Nat}
theorem walkW (fx:F) (tk:TabOk P T) (t:F→TabOk P T→Q:=by intro fx tk;repeat' (first|(refine hK _ ?_;clear hK K)|refine wa fun K hK=>?_|refine wb ?_|refine wc ?_ ?_|refine wn fun nb hnb=>?_|exact we|refine wd fun hc=>?_|clear hK K|(clear fx tk;apply_rules (newGoals:= .nonDependentOnly) (maxDepth:=1) only [lo2];constructor))):Q:=t fx tk
theorem walkR (fx:F) (tk:TabOk P T) (t:F→TabOk P T→Q:=by intro fx tk;repeat' (first|(refine hK _ ?_;clear hK K)|refine wa fun K hK=>?_|refine wb ?_|refine wc ?_ ?_|refine wl ?_|refine fun (r2:Rnd _)=>?_|refine wn fun nb hnb=>?_|exact ‹_<+:_› |exact we|refine wd fun hc=>?_|clear hK K|(clear fx tk;apply_rules (newGoals:= .nonDependentOnly) (maxDepth:=1) only [lo2];constructor))):Q:=t fx tk
theorem walkX (fx:F) (tk:TabOk P T) (t:F→TabOk P T→Q:=by intro fx tk;repeat' (first|refine xk ?_|(refine hK _ ?_;clear hK K)|refine xa fun K hK=>?_|refine xb ?_|refine wc ?_ ?_|refine wl ?_|refine fun (r2:Rnd _)=>?_|refine wn fun nb hnb=>?_|exact ‹_<+:_› |exact we|refine wd fun hc=>?_|clear hK K|(clear fx tk;apply_rules (newGoals:= .nonDependentOnly) (maxDepth:=1) only [lo2];constructor))):Q:=t fx tk
theorem zio (st:Stp n) (fx:F) (tk:TabOk P T) (t:Stp n→F→TabOk P T→Q:=by intro st fx tk;repeat' (first|(refine hdt st rfl ?_;clear fx tk st;apply_rules (newGoals:= .nonDependentOnly) (maxDepth:=1) only [lo2];constructor)|(refine hK _ ?_;clear hK K)|refine wa fun K hK=>?_|refine wb ?_|refine wc ?_ ?_|refine wn fun nb hnb=>?_|exact we|refine wd fun hc=>?_|clear hK K|(clear fx tk st;apply_rules (newGoals:= .nonDependentOnly) (maxDepth:=1) only [lo2];constructor))):Q:=t st fx tk
theorem zfd (st:Stp n) (fx:F) (tk:TabOk P T) (t:Stp n→F→TabOk P T→Q:=by intro st fx tk;repeat' (first|(refine hdt st rfl ?_;clear fx tk st;apply_rules (newGoals:= .nonDependentOnly) (maxDepth:=1) only [lo2];constructor)|(refine hK _ ?_;clear hK K)|refine wa fun K hK=>?_|refine wb ?_|refine wc ?_ ?_|refine wl ?_|refine fun (r2:Rnd _)=>?_|refine wn fun nb hnb=>?_|exact ‹_<+:_› |exact we|refine wd fun hc=>?_|clear hK K|(clear fx tk st;apply_rules (newGoals:= .nonDependentOnly) (maxDepth:=1) only [lo2];constructor))):Q:=t st fx tk
theorem zmM (ow:Ow l) (fx:F) (tk:TabOk P T) (t:Ow l→F→TabOk P T→Q:=by intro ow fx tk;repeat' (first|(refine hK _ ?_;clear hK K)|refine wao fun K hK=>?_|refine wbo ?_|refine wa fun K hK=>?_|refine wb ?_|refine wc ?_ ?_|refine wn fun nb hnb=>?_|exact we|refine wd fun hc=>?_|clear hK K|(clear fx tk ow;apply_rules (newGoals:= .nonDependentOnly) (maxDepth:=1) only [lo2];constructor))):Q:=t ow fx tk
theorem zkv (ow:Ow l) (fx:F) (tk:TabOk P T) (t:Ow l→F→TabOk P T→Q:=by intro ow fx tk;repeat' (first|(refine hK _ ?_;clear hK K)|refine wao fun K hK=>?_|refine wbo ?_|refine wa fun K hK=>?_|refine wb ?_|refine wc ?_ ?_|refine wl ?_|refine fun (r2:Rnd _)=>?_|refine wn fun nb hnb=>?_|exact ‹_<+:_› |exact we|refine wd fun hc=>?_|clear hK K|(clear fx tk ow;apply_rules (newGoals:= .nonDependentOnly) (maxDepth:=1) only [lo2];constructor))):Q:=t ow fx tk
theorem zc (fx:F) (t:F→Q:=by intro fx;repeat' (first|(refine hK _ ?_;clear hK K)|refine wa fun K hK=>?_|refine wb ?_|refine wc ?_ ?_|refine wn fun nb hnb=>?_|exact we|refine wd fun hc=>?_|clear hK K|(clear fx;apply_rules (newGoals:= .nonDependentOnly) (maxDepth:=1) only [lo2];constructor))):Q:=t fx
theorem zdE (fx:F) (t:F→Q:=by intro fx;repeat' (first|(refine hK _ ?_;clear hK K)|refine wa fun K hK=>?_|refine wb ?_|refine wc ?_ ?_|refine wl ?_|refine fun (r2:Rnd _)=>?_|refine wn fun nb hnb=>?_|exact ‹_<+:_› |exact we|refine wd fun hc=>?_|clear hK K|(clear fx;apply_rules (newGoals:= .nonDependentOnly) (maxDepth:=1) only [lo2];constructor))):Q:=t fx
theorem zaK (fx:F) (t:F→Q:=by intro fx;repeat' (first|refine xk ?_|(refine hK _ ?_;clear hK K)|refine xa fun K hK=>?_|refine xb ?_|refine wc ?_ ?_|refine wl ?_|refine fun (r2:Rnd _)=>?_|refine wn fun nb hnb=>?_|exact ‹_<+:_› |exact we|refine wd fun hc=>?_|clear hK K|(clear fx;apply_rules (newGoals:= .nonDependentOnly) (maxDepth:=1) only [lo2];constructor))):Q:=t fx
theorem zeV (st:Stp n) (fx:F) (t:Stp n→F→Q:=by intro st fx;repeat' (first|(refine hdt st rfl ?_;clear fx st;apply_rules (newGoals:= .nonDependentOnly) (maxDepth:=1) only [lo2];constructor)|(refine hK _ ?_;clear hK K)|refine wa fun K hK=>?_|refine wb ?_|refine wc ?_ ?_|refine wn fun nb hnb=>?_|exact we|refine wd fun hc=>?_|clear hK K|(clear fx st;apply_rules (newGoals:= .nonDependentOnly) (maxDepth:=1) only [lo2];constructor))):Q:=t st fx
theorem zmN (st:Stp n) (fx:F) (t:Stp n→F→Q:=by intro st fx;repeat' (first|(refine hdt st rfl ?_;clear fx st;apply_rules (newGoals:= .nonDependentOnly) (maxDepth:=1) only [lo2];constructor)|refine xk ?_|(refine hK _ ?_;clear hK K)|refine xa fun K hK=>?_|refine xb ?_|refine wc ?_ ?_|refine wl ?_|refine fun (r2:Rnd _)=>?_|refine wn fun nb hnb=>?_|exact ‹_<+:_› |exact we|refine wd fun hc=>?_|clear hK K|(clear fx st;apply_rules (newGoals:= .nonDependentOnly) (maxDepth:=1) only [lo2];constructor))):Q:=t st fx
end
open Go
def never:AHeap:= [(0,.var [.vp 1 0])]
theorem ziw {cx:Cx} {E:Env} {s:AS} {a:Act} {w:World} (hs:Sat cx E s a w) (h:s.h=never):False:=by
 have:=hs.hp.heap 0 (.var [.vp 1 0]) (by rw [h];simp [never,hget])
 simp only [RepObj,Reps,Rep] at this
 obtain ⟨b,c,T,fz,_,_,⟨v,r,_,⟨b2,cs,h2,_⟩,_⟩,_⟩:=this
 rw [h] at h2
 simp [never,hget] at h2
theorem zot {cx:Cx} {c:Code} {Q:Exit→AS→Prop} {t:List (Nat×(Bool×AV))} {g:Option (List (List AV))} :AW cx c Q ⟨t,never,g⟩:=
 fun E a w hs=>(ziw hs rfl).elim
theorem zlo {cx:Cx} {c:Code} {Q:Exit→AS→Prop} {s:AS} (h:AW cx c (fun e s=>Q e s∨s.h=never) s):AW cx c Q s:=by
 intro E a w hs
 refine wpIn_mono (h E a w hs) ?_
 rintro e a1 w1 ⟨E1,s1,hq,hs1,he⟩
 rcases hq with hq|hq
 ·exact ⟨E1,s1,hq,hs1,he⟩
 ·exact (ziw hs1 hq).elim
open Classical in
theorem zbk {cx:Cx} {s:AS} {Q:Exit→AS→Prop} {g:Operand} {ps:Array Tmp} {assign body:Code} {f:FuncId} {fs caps:List AV} (fl:Nat) {items:List (List AV)} (Good:List (List AV)→Prop) (I:List (List AV)→AHeap×Option (List (List AV))) (J:Code→AHeap→Option (List (List AV))→Prop)
  (hit:AIter cx.P f fl fs caps [] items (fun g h'=>(∀xs,g=some xs→xs=items)∧h'= [])) (hg:s.ev g=(true,.fn (.func f) fs caps)) (hro:cx.ro=none)
  (hfl:∀i,(hget s.h i).isSome→i<fl) (hfc:cx.fl≤fl) (hids:AV.idsL fs++AV.idsL caps= [])
  (hG0:Good []) (hI:leH s.h (I []).1) (hIn:inH (I []).1 (idsH (I []).1)) (hIg:(I []).2=s.g)
  (hlen:∀x∈items,x.length=ps.size) (hps:∀t∈ps.toList,t<cx.nt)
  (hround:∀xs x,(xs++ [x])<+:items→Good xs→∀ (l:Nat) (r1:Rnd cx),AW (cx.inR l fl r1) assign (AsgK fun s1=>∀r2:Rnd cx,AW (cx.inR l fl r2) body (zi (fun h' g'=>Good (xs++ [x])∧leH h' (I (xs++ [x])).1∧inH (I (xs++ [x])).1 (idsH (I (xs++ [x])).1)∧g'=(I (xs++ [x])).2) J) s1)
   { t:=zds ps.toList x (keepT (I xs).1 s.t),h:=(I xs).1,g:=(I xs).2 })
  (hdone:Good items→Q .normal { t:=keepT (I items).1 s.t,h:=(I items).1,g:=(I items).2 })
  (hstop:∀c h3 g3,J c h3 g3→AW cx c Q { t:=keepT h3 s.t,h:=h3,g:=g3 }):
  AW cx (.rangeFunc g ps assign body) Q s:=by
 refine zlo (zmG fl (fun xs=>if Good xs then I xs else (never,none)) J hit hg hro hfl hfc hids ?_ ?_ ?_ hlen hps ?_ ?_ ?_)
 ·simp only [if_pos hG0];exact hI
 ·simp only [if_pos hG0];exact hIn
 ·simp only [if_pos hG0];exact hIg
 ·intro xs x hp l r1
  by_cases hgd:Good xs
  ·simp only [if_pos hgd]
   refine (hround xs x hp hgd l r1).mono ?_
   intro e s1 h1
   cases e with
   | normal=>
    intro r2
    refine (h1 r2).mono ?_
    intro e2 s2 h2
    cases e2 with
    |normal=>
     obtain ⟨g1,g2,g3,g4⟩:=h2
     simp only [zi,if_pos g1]
     exact ⟨g2,g3,g4⟩
    |_=>exact h2
   |_=>exact h1
  ·simp only [if_neg hgd]
   exact zot
 ·by_cases hgd:Good items
  ·simp only [if_pos hgd];exact .inl (hdone hgd)
  ·simp only [if_neg hgd];exact .inr trivial
 ·intro c h3 g3 hj
  exact (hstop c h3 g3 hj).mono fun e s h=> .inl h
theorem zdg {α β:Type} {g:α→β} {xs:List β} {x:β} {l:List α} (h:(xs++ [x])<+:l.map g):∃ys q zs,xs=ys.map g∧x=g q∧l=ys++q::zs:=by
 obtain ⟨r,hr⟩:=h
 rw [List.append_assoc,List.singleton_append] at hr
 obtain ⟨ys,zs,hl,h1,h2⟩:=List.map_eq_append_iff.1 hr.symm
 obtain ⟨q,zs',hz,h3,h4⟩:=List.map_eq_cons_iff.1 h2
 exact ⟨ys,q,zs',h1.symm,h3.symm,by rw [hl,hz]⟩
theorem zlp {α:Type} {p:α→Bool} {ys zs:List α} {q:α} (h:ys.any p=false) (hq:p q=true):(ys++q::zs).find? p=some q:=by
 rw [List.find?_append,List.find?_eq_none.2 (fun x hx=>by simpa using List.any_eq_false.1 h x hx),List.find?_cons,hq]
 rfl
theorem zf1 {cx:Cx} {c:Code} {Q:Exit→AS→Prop} {s:AS} (h:AW cx c (fun e s=>Q e { t:= [],h:= [],g:=s.g }) s):AW cx c Q s:=by
 intro E a w hs
 refine wpIn_mono (h E a w hs) ?_
 rintro e a1 w1 ⟨E1,s1,hq,hs1,he⟩
 have hno:∀b,¬Own E1 [] b:=fun b ⟨i,hi,_⟩=>by simp [hget] at hi
 refine ⟨E1, { t:= [],h:= [],g:=s1.g },hq,⟨fun k g v hk=>by simp [lk] at hk,hs1.nt,⟨fun i o ho=>by simp [hget] at ho,fun i j b hi=>by simp [hget] at hi,fun b hb=>absurd hb (hno b),hs1.hp.mlt,hs1.hp.nlt⟩,hs1.base,hs1.marks,?_⟩,
  ⟨he.os,he.tape,he.output,he.size,he.keep,fun b hb=>absurd hb (hno b),he.m1,he.m2,he.n,fun i _ h=>by simp [hget] at h⟩⟩
 exact cx.stab _ _ _ _ _ w1 _ (fun _ _ _=>rfl) (fun b hb=> .inl (hb.elim (fun h=>absurd h (hno b)) .inr)) (fun b hb=>hb.elim (fun h=>absurd h (hno b)) hs1.marks.lt) (Nat.le_refl _) rfl rfl rfl hs1.ghost
open Go
def zdi (v:AV):AV:=if v.scal=true then v else .any
def zstep (cx:Cx) (o:Oper) (s f:AS) (K:AS→AS→Prop):Prop:=
 dstOk cx.nt o.dst∧o.guard=none∧
 match o.op with
 | .move x=>known s x=true∧(s.ev x).1=true∧K (s.put o.dst true ((s.ev x).2.tag cx.P o.type)) (f.put o.dst true (zdi ((s.ev x).2.tag cx.P o.type)))
 | .assign x=>known s x=true∧(s.ev x).1=true∧K (s.put o.dst true ((s.ev x).2.tag cx.P o.type)) (f.put o.dst true (zdi ((s.ev x).2.tag cx.P o.type)))
 | .call c=>isVal cx.P (.call c)=true∧(aval cx.P f (.call c)).1∧K (s.put o.dst true (zdi (aval cx.P f (.call c)).2)) (f.put o.dst true (aval cx.P f (.call c)).2)
 | .load t x=>isVal cx.P (.load t x)=true∧(aval cx.P f (.load t x)).1∧K (s.put o.dst true .any) (f.put o.dst true (aval cx.P f (.load t x)).2)
 |op=>isVal cx.P op=true∧(aval cx.P f op).1∧K (s.put o.dst true (zdi (aval cx.P f op).2)) (f.put o.dst true (aval cx.P f op).2)
def zg5 (cx:Cx):List Oper→AS→AS→(AS→Prop)→Prop
 | [],s,_,K=>K s
 |o::r,s,f,K=>zstep cx o s f (fun s' f'=>zg5 cx r s' f' K)
section
variable {cx : Cx} {tab : Tab} {E F : Env} {s f : AS} {a : Act} {w : World}
theorem ziH {W W':World} {E E':Env} {h h':AHeap} {v:AV} {x:Value} (hr:Rep W E h v x):Rep W' E' h' (zdi v) x:=by
 unfold zdi
 split
 ·rename_i hs;exact Rep.scal v x hs hr
 ·simp only [Rep]
theorem ziI {d:Option Nat} {v:AV} {x:Value} (hs:Slots w F f a) (hsz:∀k,d=some k→k<a.tmps.size) (hv:Rep w F f.h v x):Slots w F (f.put d true v) (a.put d x):=by
 cases d with
 |none=>exact hs
 | some d=>
  intro k g u hk
  have hd:=hsz d rfl
  rw [zmE] at hk
  have hh:(f.put (some d) true v).h=f.h:=rfl
  rw [hh]
  split at hk
  ·rename_i e
   simp only [Option.some.injEq] at e
   subst e
   simp only [Option.some.injEq,Prod.mk.injEq] at hk
   obtain ⟨rfl,rfl⟩:=hk
   refine ⟨x,?_,fun _=>hv,fun e=>by cases e⟩
   simp [Act.put,hd]
  ·rename_i e
   have e:¬d=k:=fun h=>e (by rw [h])
   obtain ⟨y,h1,h2,h3⟩:=hs k g u hk
   refine ⟨y,?_,h2,h3⟩
   simpa [Act.put,Array.getElem?_setIfInBounds_ne e] using h1
theorem zoJ {o:Oper} {K:AS→AS→Prop} {Q:Exit→Act→World→Prop} {next:Act→World→Prop} (hs:Sat cx E s a w) (hp:SatH F f.h w) (hf:Slots w F f a) (h:zstep cx o s f K)
  (hn:∀s' f' a',Sat cx E s' a' w→SatH F f'.h w→Slots w F f' a'→s'.h=s.h→K s' f'→next a' w):o.wpIn cx.F 0 cx.P a w next Q:=by
 obtain ⟨hd,hg,h⟩:=h
 have hdst:∀k,o.dst=some k→k<cx.nt:=fun k e=>by rw [e] at hd;exact hd
 have hdst':∀k,o.dst=some k→k<a.tmps.size:=fun k e=>by rw [hs.nt];exact hdst k e
 have hputh:∀ (u:AS) (v:AV),(u.put o.dst true v).h=u.h:=fun u v=>by unfold AS.put;cases o.dst<;>rfl
 have hval:∀u:AV,(u= .any∨u=zdi (aval cx.P f o.op).2)→isVal cx.P o.op=true→(aval cx.P f o.op).1→K (s.put o.dst true u) (f.put o.dst true (aval cx.P f o.op).2)→o.wpIn cx.F 0 cx.P a w next Q:=by
  intro u hu h0 h1 h2
  obtain ⟨v,hv,hr⟩:=zi6 hp hf o h1
  refine Does.wpIn (zfK h0) (R:=fun v' w'=>v'=v∧w'=w) (.inl ⟨v,w,hv,rfl,rfl⟩) ?_
  rintro v' w' ⟨rfl,rfl⟩
  refine hn _ _ _ (hs.put hdst (fun _=>?_) (fun e=>by cases e)) (by rw [hputh];exact hp) (ziI hf hdst' hr) (hputh _ _) h2
  rcases hu with rfl|rfl
  ·simp only [Rep]
  ·exact ziH hr
 have hmove:∀x,(execOp a.eval o=pure (.value (a.eval x)))→(∀c,o.op≠ .defer c)→(s.ev x).1=true→K (s.put o.dst true ((s.ev x).2.tag cx.P o.type)) (f.put o.dst true (zdi ((s.ev x).2.tag cx.P o.type)))→o.wpIn cx.F 0 cx.P a w next Q:=by
  intro x he h3 h1 h2
  refine Does.wpIn h3 (R:=fun v' w'=>v'=a.eval x∧w'=w) (.inl ⟨a.eval x,w,by rw [he];rfl,rfl,rfl⟩) ?_
  rintro v' w' ⟨rfl,rfl⟩
  have hr:=Rep.tag (P:=cx.P) (t:=o.type) (ev_ok hs.slots x h1)
  exact hn _ _ _ (hs.put hdst (fun _=>hr) (fun e=>by cases e)) (by rw [hputh];exact hp) (ziI hf hdst' (ziH hr)) (hputh _ _) h2
 obtain ⟨dst,op,ot,pos,after,guard⟩:=o
 dsimp only at h hval hmove
 split at h
 ·exact hmove _ rfl (by simp) h.2.1 h.2.2
 ·exact hmove _ rfl (by simp) h.2.1 h.2.2
 ·exact hval _ (.inr rfl) h.1 h.2.1 h.2.2
 ·exact hval _ (.inl rfl) h.1 h.2.1 h.2.2
 ·exact hval _ (.inr rfl) h.1 h.2.1 h.2.2
theorem ziJ (ht:TabOk cx.P tab) {all:Array Oper} :∀ (l:List Nat) (pre rest:List Oper) {K:AS→Prop} {s f:AS} {a:Act},l.map (all[·]?)=(pre++rest).map some→Sat cx E s a w→SatH F f.h w→Slots w F f a→zg5 cx pre s f (fun s'=>aopsY cx tab all rest K s')→
  wpOpsIn cx.F 0 cx.P all (fun e a' w'=>e= .normal∧Reach cx E s.h w K a' w') l a w
 |l,[],rest,K,s,f,a,hl,hs,_,_,h=>zfu ht l rest (by simpa using hl) hs h
 | [],o::pre,rest,K,s,f,a,hl,hs,_,_,h=>by simp at hl
 | i::l,o::pre,rest,K,s,f,a,hl,hs,hp,hf,h=>by
  simp only [List.cons_append,List.map_cons,List.cons.injEq] at hl
  obtain ⟨hi,hl⟩:=hl
  simp only [zg5] at h
  simp only [wpOpsIn,hi]
  have hw:Region.wanted o (yielded all a.tmps)=true:=by
   unfold Region.wanted
   rw [h.2.1]
  rw [if_pos hw]
  refine zoJ hs hp hf h ?_
  intro s' f' a' hs' hp' hf' he hK
  have:=ziJ ht l pre rest hl hs' hp' hf' hK
  rw [he] at this
  exact this
theorem zlw {β:Type} {id:Nat} {ops:Array Oper} {Q:Exit→AS→Prop} (tab:Tab) (ht:TabOk cx.P tab) (pre rest:List Oper) (hsp:ops.toList=pre++rest) (f:β→AS)
  (hS:∀g M N A w,cx.G g M N A w→∃F b,SatH F (f b).h w∧∀k g v,lk (f b).t k=some (g,v)→g=true∧∃u,lk s.t k=some (true,.raw u)∧Rep w F (f b).h v u)
  (h:∀b,zg5 cx pre s (f b) (fun s'=>aopsY cx tab ops rest (Q .normal) s')):AW cx (.region id ops false) Q s:=fun E a w hs=>by
 obtain ⟨F,b,hp,hl⟩:=hS _ _ _ _ _ hs.ghost
 refine wpIn_region (zas _ (ziJ (F:=F) ht _ pre rest (by rw [← hsp];exact zfM ops) hs hp (fun k g v hk=>?_) (h b)) (by rintro e a' w' ⟨rfl,hr⟩;exact hr))
 obtain ⟨rfl,u,h1,h2⟩:=hl k g v hk
 obtain ⟨x,h3,h4,_⟩:=hs.slots k true _ h1
 have:=h4 rfl
 simp only [Rep] at this
 subst this
 exact ⟨x,h3,fun _=>h2,fun e=>by cases e⟩
theorem zed {β:Type} {id:Nat} {ops:Array Oper} {y:Code} {Q:Exit→AS→Prop} (tab:Tab) (ht:TabOk cx.P tab) (pre rest:List Oper) (hsp:ops.toList=pre++rest) (f:β→AS)
  (hS:∀g M N A w,cx.G g M N A w→∃F b,SatH F (f b).h w∧∀k g v,lk (f b).t k=some (g,v)→g=true∧∃u,lk s.t k=some (true,.raw u)∧Rep w F (f b).h v u)
  (h:∀K,(∀s',AW cx y Q s'→K s')→∀b,zg5 cx pre s (f b) (fun s'=>aopsY cx tab ops rest K s')):AW cx (.seq (.region id ops false) y) Q s:=
 zay fun K hK=>zlw tab ht pre rest hsp f hS (h K hK)
end
attribute [go_sem] zg5 zstep zdi List.take_succ_cons List.take_zero List.drop_succ_cons List.drop_zero
theorem zlx {cx:Cx} {s:AS} {Q:Exit→AS→Prop} {g:Operand} {ps:Array Tmp} {assign body:Code} {f:FuncId} {q:Nat} (fl:Nat) {items:List (List AV)} (I:List (List AV)→AHeap×Option (List (List AV)))
  (hg:s.ev g=(true,.fn (.func f) [] [.vp q 0])) (hro:cx.ro=none) (hen:zer cx.P f)
  (hrun:∀ (y:Yo cx.P items) (v0:Value),(∀g M N A w,y.G g M N A w→∃F xs,SatH F (I xs).1 w∧Rep w F (I xs).1 (.vp q 0) v0)→∀E w,SatH E [] w→y.G (some []) E.M E.N (Own E []) w→
   Calls cx.P f (#[]++ #[Value.func (.yield y.yl) #[] #[]]++ #[v0]) w (fun e w'=>∃v E' h' g,e= .returned v∧((∀xs,g=some xs→xs=items)∧h'= [])∧SatH E' h' w'∧Evo fl E [] w E' h' w'∧y.G g E'.M E'.N (Own E' h') w'))
  (hfl:∀i,(hget s.h i).isSome→i<fl) (hfc:cx.fl≤fl) (hq:∃cs,hget s.h q=some (.var cs)) (hqI:∀xs,∃cs,hget (I xs).1 q=some (.var cs))
  (hI:leH s.h (I []).1) (hIn:inH (I []).1 (idsH (I []).1)) (hIg:(I []).2=s.g)
  (hlen:∀x∈items,x.length=ps.size) (hps:∀t∈ps.toList,t<cx.nt)
  (hround:∀xs x,(xs++ [x])<+:items→∀ (l:Nat) (r1:Rnd cx),AW (cx.inR l fl r1) assign (AsgK fun s1=>∀r2:Rnd cx,AW (cx.inR l fl r2) body (zi (fun h' g'=>leH h' (I (xs++ [x])).1∧inH (I (xs++ [x])).1 (idsH (I (xs++ [x])).1)∧g'=(I (xs++ [x])).2) (fun _ _ _=>False)) s1)
   { t:=zds ps.toList x (keepT (I xs).1 s.t),h:=(I xs).1,g:=(I xs).2 })
  (hdone:Q .normal { t:=keepT (I items).1 s.t,h:=(I items).1,g:=(I items).2 }):
  AW cx (.rangeFunc g ps assign body) Q s:=by
 have hs0:hsel (fun _=>false) s.h= []:=by
  induction s.h with
  |nil=>rfl
  |cons a h ih=>simp only [hsel];rw [if_neg (by simp)];exact ih
 have hs1:hsel (fun i=> !(fun _=>false) i) s.h=s.h:=zft (fun q _=>rfl)
 refine zet (Kit:=fun g h'=>(∀xs,g=some xs→xs=items)∧h'= []) (items:=items) (fl:=fl) (caps':= [.any]) (fun _=>false) I (fun _ _ _=>False) hro hg (by simp [AV.leL,AV.le]) hen ?_ hfl hfc ?_ ?_ (by rw [hs1];exact hI) hIn hIg (fun _ _ _ _=>rfl) (fun _ _ _ h=>h.elim) ?_ hlen hps hround ?_ ?_
 ·intro E0 w0 pf qc h0 hpf hqc
  have hpf':pf= #[]:=by simp only [Reps] at hpf;simpa using hpf
  subst hpf'
  simp only [Reps] at hqc
  obtain ⟨v0,r,hv0,hr0,hr⟩:=hqc
  subst hr
  have hqc':qc= #[v0]:=by
   apply Array.ext'
   simpa using hv0
  subst hqc'
  refine ⟨fun w=>∃F xs,SatH F (I xs).1 w∧Rep w F (I xs).1 (.vp q 0) v0,?_,?_,fun _ _ _ h=>h.elim⟩
  ·intro y hy E w hsE _ _ hG
   rw [hs0] at hsE hG ⊢
   exact hrun y v0 hy E w hsE hG
  ·intro xs E w hsE hgo
   refine ⟨E,xs,hsE,?_⟩
   obtain ⟨cs,hc⟩:=hqI xs
   obtain ⟨cs0,hc0⟩:=hq
   have hgq:=hgo q (hfl q (by rw [hc0];rfl)) (by rw [hc];rfl)
   simp only [Rep] at hr0 ⊢
   obtain ⟨b,cs',h1,h2,h3⟩:=hr0
   unfold GoesOn at hgq
   rw [hc0] at hgq
   exact ⟨b,cs,hc,hgq.1.trans h2,h3⟩
 ·intro i o _ h;cases h
 ·intro j hj;simp [AV.idsL,AV.ids] at hj
 ·rintro g h' ⟨h1,rfl⟩
  exact ⟨fun i hi=>by simp [hget] at hi,h1⟩
 ·rintro h1 ⟨_,rfl⟩
  exact hdone
 ·exact fun _ _ _ _ _ h=>h.elim
open Go
open Go Go.Proofs
@[go_sem] theorem ty3:ty Go.Proofs.Tryz.prog 3=⟨.int .i64,1,8⟩:=by kernel_rfl
@[go_sem] theorem zk3:z8 Go.Proofs.Tryz.prog 3=true:=by kernel_rfl
@[go_sem] theorem tt3:zab Go.Proofs.Tryz.prog 12 3=false:=by kernel_rfl
@[go_sem] theorem zc3:zQ Go.Proofs.Tryz.prog 12 3= [.d (.int .i64 0)]:=by kernel_rfl
@[go_sem] theorem ty4:ty Go.Proofs.Tryz.prog 4=⟨.bool,1,1⟩:=by kernel_rfl
@[go_sem] theorem zk4:z8 Go.Proofs.Tryz.prog 4=true:=by kernel_rfl
@[go_sem] theorem tt4:zab Go.Proofs.Tryz.prog 12 4=false:=by kernel_rfl
@[go_sem] theorem zc4:zQ Go.Proofs.Tryz.prog 12 4= [.d (.bool false)]:=by kernel_rfl
@[go_sem] theorem ty5:ty Go.Proofs.Tryz.prog 5=⟨.int .u8,1,1⟩:=by kernel_rfl
@[go_sem] theorem zk5:z8 Go.Proofs.Tryz.prog 5=true:=by kernel_rfl
@[go_sem] theorem zc5:zQ Go.Proofs.Tryz.prog 12 5= [.d (.int .u8 0)]:=by kernel_rfl
@[go_sem] theorem ty9:ty Go.Proofs.Tryz.prog 9=⟨.str,1,16⟩:=by kernel_rfl
@[go_sem] theorem zk9:z8 Go.Proofs.Tryz.prog 9=true:=by kernel_rfl
@[go_sem] theorem tt9:zab Go.Proofs.Tryz.prog 12 9=false:=by kernel_rfl
@[go_sem] theorem zc9:zQ Go.Proofs.Tryz.prog 12 9= [.d (.str [])]:=by kernel_rfl
@[go_sem] theorem ty22:ty Go.Proofs.Tryz.prog 22=⟨.slice 146,1,24⟩:=by kernel_rfl
@[go_sem] theorem tt22:zab Go.Proofs.Tryz.prog 12 22=false:=by kernel_rfl
@[go_sem] theorem ty23:ty Go.Proofs.Tryz.prog 23=⟨.slice 3,1,24⟩:=by kernel_rfl
@[go_sem] theorem tt23:zab Go.Proofs.Tryz.prog 12 23=false:=by kernel_rfl
@[go_sem] theorem ty25:ty Go.Proofs.Tryz.prog 25=⟨.struct [(0,9),(1,22),(2,3),(3,4),(4,23)],5,80⟩:=by kernel_rfl
@[go_sem] theorem zk25:z8 Go.Proofs.Tryz.prog 25=true:=by kernel_rfl
@[go_sem] theorem tt25:zab Go.Proofs.Tryz.prog 12 25=false:=by kernel_rfl
@[go_sem] theorem zc25:zQ Go.Proofs.Tryz.prog 12 25= [.d (.str []),.nils 2,.d (.int .i64 0),.d (.bool false),.nils 1]:=by kernel_rfl
@[go_sem] theorem ty27:ty Go.Proofs.Tryz.prog 27=⟨.struct [(0,3),(1,3)],2,16⟩:=by kernel_rfl
@[go_sem] theorem zk27:z8 Go.Proofs.Tryz.prog 27=true:=by kernel_rfl
@[go_sem] theorem tt27:zab Go.Proofs.Tryz.prog 12 27=false:=by kernel_rfl
@[go_sem] theorem zc27:zQ Go.Proofs.Tryz.prog 12 27= [.d (.int .i64 0),.d (.int .i64 0)]:=by kernel_rfl
@[go_sem] theorem si27:(Go.Proofs.Tryz.prog.stoodInHeld 27)=false:=by kernel_rfl
@[go_sem] theorem eg27:(Go.Proofs.Tryz.prog.eqGuardType Go.Proofs.Tryz.prog.depth 27)=false:=by kernel_rfl
@[go_sem] theorem ty28:ty Go.Proofs.Tryz.prog 28=⟨.int .u64,1,8⟩:=by kernel_rfl
@[go_sem] theorem tt28:zab Go.Proofs.Tryz.prog 12 28=false:=by kernel_rfl
@[go_sem] theorem ty30:ty Go.Proofs.Tryz.prog 30=⟨.struct [(0,28),(1,3)],2,16⟩:=by kernel_rfl
@[go_sem] theorem zk30:z8 Go.Proofs.Tryz.prog 30=true:=by kernel_rfl
@[go_sem] theorem tt30:zab Go.Proofs.Tryz.prog 12 30=false:=by kernel_rfl
@[go_sem] theorem zc30:zQ Go.Proofs.Tryz.prog 12 30= [.d (.int .u64 0),.d (.int .i64 0)]:=by kernel_rfl
@[go_sem] theorem si30:(Go.Proofs.Tryz.prog.stoodInHeld 30)=false:=by kernel_rfl
@[go_sem] theorem eg30:(Go.Proofs.Tryz.prog.eqGuardType Go.Proofs.Tryz.prog.depth 30)=false:=by kernel_rfl
@[go_sem] theorem ty31:ty Go.Proofs.Tryz.prog 31=⟨.slice 105,1,24⟩:=by kernel_rfl
@[go_sem] theorem ty33:ty Go.Proofs.Tryz.prog 33=⟨.struct [(0,25),(5,27),(7,30),(9,31),(10,4)],11,144⟩:=by kernel_rfl
@[go_sem] theorem zk33:z8 Go.Proofs.Tryz.prog 33=true:=by kernel_rfl
@[go_sem] theorem tt33:zab Go.Proofs.Tryz.prog 12 33=false:=by kernel_rfl
@[go_sem] theorem zc33:zQ Go.Proofs.Tryz.prog 12 33= [.d (.str []),.nils 2,.d (.int .i64 0),.d (.bool false),.nils 1,.d (.int .i64 0),.d (.int .i64 0),.d (.int .u64 0),.d (.int .i64 0),.nils 66,.d (.bool false)]:=by kernel_rfl
@[go_sem] theorem ty34:ty Go.Proofs.Tryz.prog 34=⟨.slice 9,1,24⟩:=by kernel_rfl
@[go_sem] theorem zk34:z8 Go.Proofs.Tryz.prog 34=true:=by kernel_rfl
@[go_sem] theorem tt34:zab Go.Proofs.Tryz.prog 12 34=false:=by kernel_rfl
@[go_sem] theorem zc34:zQ Go.Proofs.Tryz.prog 12 34= [.nils 1]:=by kernel_rfl
@[go_sem] theorem ty36:ty Go.Proofs.Tryz.prog 36=⟨.struct [(0,23),(1,34)],2,48⟩:=by kernel_rfl
@[go_sem] theorem zk36:z8 Go.Proofs.Tryz.prog 36=true:=by kernel_rfl
@[go_sem] theorem tt36:zab Go.Proofs.Tryz.prog 12 36=false:=by kernel_rfl
@[go_sem] theorem zc36:zQ Go.Proofs.Tryz.prog 12 36= [.nils 1,.nils 1]:=by kernel_rfl
@[go_sem] theorem ty40:ty Go.Proofs.Tryz.prog 40=⟨.int .i64,1,8⟩:=by kernel_rfl
@[go_sem] theorem zk40:z8 Go.Proofs.Tryz.prog 40=true:=by kernel_rfl
@[go_sem] theorem tt40:zab Go.Proofs.Tryz.prog 12 40=false:=by kernel_rfl
@[go_sem] theorem zc40:zQ Go.Proofs.Tryz.prog 12 40= [.d (.int .i64 0)]:=by kernel_rfl
@[go_sem] theorem ty54:ty Go.Proofs.Tryz.prog 54=⟨.int .u32,1,4⟩:=by kernel_rfl
@[go_sem] theorem zk54:z8 Go.Proofs.Tryz.prog 54=true:=by kernel_rfl
@[go_sem] theorem tt54:zab Go.Proofs.Tryz.prog 12 54=false:=by kernel_rfl
@[go_sem] theorem zc54:zQ Go.Proofs.Tryz.prog 12 54= [.d (.int .u32 0)]:=by kernel_rfl
@[go_sem] theorem ty56:ty Go.Proofs.Tryz.prog 56=⟨.struct [(0,3),(1,54)],2,16⟩:=by kernel_rfl
@[go_sem] theorem zk56:z8 Go.Proofs.Tryz.prog 56=true:=by kernel_rfl
@[go_sem] theorem tt56:zab Go.Proofs.Tryz.prog 12 56=false:=by kernel_rfl
@[go_sem] theorem zc56:zQ Go.Proofs.Tryz.prog 12 56= [.d (.int .i64 0),.d (.int .u32 0)]:=by kernel_rfl
@[go_sem] theorem ty68:ty Go.Proofs.Tryz.prog 68=⟨.struct [(0,3),(1,3)],2,16⟩:=by kernel_rfl
@[go_sem] theorem zk68:z8 Go.Proofs.Tryz.prog 68=true:=by kernel_rfl
@[go_sem] theorem tt68:zab Go.Proofs.Tryz.prog 12 68=false:=by kernel_rfl
@[go_sem] theorem zc68:zQ Go.Proofs.Tryz.prog 12 68= [.d (.int .i64 0),.d (.int .i64 0)]:=by kernel_rfl
@[go_sem] theorem ty79:ty Go.Proofs.Tryz.prog 79=⟨.slice 5,1,24⟩:=by kernel_rfl
@[go_sem] theorem zk79:z8 Go.Proofs.Tryz.prog 79=true:=by kernel_rfl
@[go_sem] theorem tt79:zab Go.Proofs.Tryz.prog 12 79=false:=by kernel_rfl
@[go_sem] theorem zc79:zQ Go.Proofs.Tryz.prog 12 79= [.nils 1]:=by kernel_rfl
@[go_sem] theorem ty80:ty Go.Proofs.Tryz.prog 80=⟨.ptr 82,1,8⟩:=by kernel_rfl
@[go_sem] theorem tt80:zab Go.Proofs.Tryz.prog 12 80=false:=by kernel_rfl
@[go_sem] theorem ty82:ty Go.Proofs.Tryz.prog 82=⟨.struct [(0,33),(11,3),(12,3),(13,9),(14,56),(16,68),(18,36),(20,3),(21,9)],22,280⟩:=by kernel_rfl
@[go_sem] theorem zk82:z8 Go.Proofs.Tryz.prog 82=true:=by kernel_rfl
@[go_sem] theorem tt82:zab Go.Proofs.Tryz.prog 12 82=false:=by kernel_rfl
@[go_sem] theorem zc82:zQ Go.Proofs.Tryz.prog 12 82= [.d (.str []),.nils 2,.d (.int .i64 0),.d (.bool false),.nils 1,.d (.int .i64 0),.d (.int .i64 0),.d (.int .u64 0),.d (.int .i64 0),.nils 66,.d (.bool false),.d (.int .i64 0),.d (.int .i64 0),.d (.str []),.d (.int .i64 0),.d (.int .u32 0),.d (.int .i64 0),.d (.int .i64 0),.nils 1,.nils 1,.d (.int .i64 0),.d (.str [])]:=by kernel_rfl
@[go_sem] theorem ty83:ty Go.Proofs.Tryz.prog 83=⟨.func,1,8⟩:=by kernel_rfl
@[go_sem] theorem zk83:z8 Go.Proofs.Tryz.prog 83=true:=by kernel_rfl
@[go_sem] theorem zc83:zQ Go.Proofs.Tryz.prog 12 83= [.nilfn]:=by kernel_rfl
@[go_sem] theorem ty84:ty Go.Proofs.Tryz.prog 84=⟨.slice 83,1,24⟩:=by kernel_rfl
@[go_sem] theorem ty103:ty Go.Proofs.Tryz.prog 103=⟨.arr 64 4,64,64⟩:=by kernel_rfl
@[go_sem] theorem ty105:ty Go.Proofs.Tryz.prog 105=⟨.struct [(0,9),(1,4),(2,103)],66,88⟩:=by kernel_rfl
@[go_sem] theorem zk105:z8 Go.Proofs.Tryz.prog 105=true:=by kernel_rfl
@[go_sem] theorem zc105:zQ Go.Proofs.Tryz.prog 12 105= [.d (.str []),.d (.bool false)]++List.replicate 64 (.d (.bool false)):=by kernel_rfl
@[go_sem] theorem eg105:(Go.Proofs.Tryz.prog.eqGuardType Go.Proofs.Tryz.prog.depth 105)=false:=by kernel_rfl
@[go_sem] theorem ty120:ty Go.Proofs.Tryz.prog 120=⟨.func,1,8⟩:=by kernel_rfl
@[go_sem] theorem tt120:zab Go.Proofs.Tryz.prog 12 120=false:=by kernel_rfl
@[go_sem] theorem zk131:z8 Go.Proofs.Tryz.prog 131=true:=by kernel_rfl
@[go_sem] theorem tt131:zab Go.Proofs.Tryz.prog 12 131=true:=by kernel_rfl
@[go_sem] theorem zc131:zQ Go.Proofs.Tryz.prog 12 131= [.d .nilp,.nils 1]:=by kernel_rfl
@[go_sem] theorem ty146:ty Go.Proofs.Tryz.prog 146=⟨.struct [(0,3),(1,9)],2,24⟩:=by kernel_rfl
@[go_sem] theorem zk146:z8 Go.Proofs.Tryz.prog 146=true:=by kernel_rfl
@[go_sem] theorem tt146:zab Go.Proofs.Tryz.prog 12 146=false:=by kernel_rfl
@[go_sem] theorem zc146:zQ Go.Proofs.Tryz.prog 12 146= [.d (.int .i64 0),.d (.str [])]:=by kernel_rfl
@[go_sem] theorem si146:(Go.Proofs.Tryz.prog.stoodInHeld 146)=false:=by kernel_rfl
@[go_sem] theorem eg146:(Go.Proofs.Tryz.prog.eqGuardType Go.Proofs.Tryz.prog.depth 146)=false:=by kernel_rfl
@[go_sem] theorem ty165:ty Go.Proofs.Tryz.prog 165=⟨.struct [(0,28),(1,36)],3,56⟩:=by kernel_rfl
@[go_sem] theorem zk165:z8 Go.Proofs.Tryz.prog 165=true:=by kernel_rfl
@[go_sem] theorem tt165:zab Go.Proofs.Tryz.prog 12 165=false:=by kernel_rfl
@[go_sem] theorem zc165:zQ Go.Proofs.Tryz.prog 12 165= [.d (.int .u64 0),.nils 1,.nils 1]:=by kernel_rfl
@[go_sem] theorem ty170:ty Go.Proofs.Tryz.prog 170=⟨.struct [(0,25),(5,40)],6,88⟩:=by kernel_rfl
@[go_sem] theorem zk170:z8 Go.Proofs.Tryz.prog 170=true:=by kernel_rfl
@[go_sem] theorem tt170:zab Go.Proofs.Tryz.prog 12 170=false:=by kernel_rfl
@[go_sem] theorem zc170:zQ Go.Proofs.Tryz.prog 12 170= [.d (.str []),.nils 2,.d (.int .i64 0),.d (.bool false),.nils 1,.d (.int .i64 0)]:=by kernel_rfl
@[go_sem] theorem ty172:ty Go.Proofs.Tryz.prog 172=⟨.func,1,8⟩:=by kernel_rfl
@[go_sem] theorem zk172:z8 Go.Proofs.Tryz.prog 172=true:=by kernel_rfl
@[go_sem] theorem zc172:zQ Go.Proofs.Tryz.prog 12 172= [.nilfn]:=by kernel_rfl
@[go_sem] theorem ty195:ty Go.Proofs.Tryz.prog 195=⟨.func,1,8⟩:=by kernel_rfl
@[go_sem] theorem tt195:zab Go.Proofs.Tryz.prog 12 195=false:=by kernel_rfl
@[go_sem] theorem ty207:ty Go.Proofs.Tryz.prog 207=⟨.ptr 209,1,8⟩:=by kernel_rfl
@[go_sem] theorem tt207:zab Go.Proofs.Tryz.prog 12 207=false:=by kernel_rfl
@[go_sem] theorem ty209:ty Go.Proofs.Tryz.prog 209=⟨.struct [(0,36),(2,27),(4,25),(9,40)],10,152⟩:=by kernel_rfl
@[go_sem] theorem zk209:z8 Go.Proofs.Tryz.prog 209=true:=by kernel_rfl
@[go_sem] theorem tt209:zab Go.Proofs.Tryz.prog 12 209=false:=by kernel_rfl
@[go_sem] theorem zc209:zQ Go.Proofs.Tryz.prog 12 209= [.nils 1,.nils 1,.d (.int .i64 0),.d (.int .i64 0),.d (.str []),.nils 2,.d (.int .i64 0),.d (.bool false),.nils 1,.d (.int .i64 0)]:=by kernel_rfl
@[go_sem] theorem ty219:ty Go.Proofs.Tryz.prog 219=⟨.slice 172,1,24⟩:=by kernel_rfl
@[go_sem] theorem ty229:ty Go.Proofs.Tryz.prog 229=⟨.arr 4 5,4,4⟩:=by kernel_rfl
@[go_sem] theorem zk229:z8 Go.Proofs.Tryz.prog 229=true:=by kernel_rfl
@[go_sem] theorem tt229:zab Go.Proofs.Tryz.prog 12 229=false:=by kernel_rfl
@[go_sem] theorem zc229:zQ Go.Proofs.Tryz.prog 12 229= [.d (.int .u8 0),.d (.int .u8 0),.d (.int .u8 0),.d (.int .u8 0)]:=by kernel_rfl
@[go_sem] theorem ty240:ty Go.Proofs.Tryz.prog 240=⟨.func,1,8⟩:=by kernel_rfl
@[go_sem] theorem tt240:zab Go.Proofs.Tryz.prog 12 240=false:=by kernel_rfl
@[go_sem] theorem ty243:ty Go.Proofs.Tryz.prog 243=⟨.map 3 4,1,8⟩:=by kernel_rfl
@[go_sem] theorem zk243:z8 Go.Proofs.Tryz.prog 243=true:=by kernel_rfl
@[go_sem] theorem tt243:zab Go.Proofs.Tryz.prog 12 243=false:=by kernel_rfl
@[go_sem] theorem zc243:zQ Go.Proofs.Tryz.prog 12 243= [.nilmap]:=by kernel_rfl
@[go_sem] theorem ty260:ty Go.Proofs.Tryz.prog 260=⟨.bst [(0,251),(0,254),(1,258)],3,12⟩:=by kernel_rfl
@[go_sem] theorem ty261:ty Go.Proofs.Tryz.prog 261=⟨.arr 256 54,256,1024⟩:=by kernel_rfl
@[go_sem] theorem ty263:ty Go.Proofs.Tryz.prog 263=⟨.struct [(0,260),(3,261)],259,1036⟩:=by kernel_rfl
@[go_sem] theorem zk263:z8 Go.Proofs.Tryz.prog 263=true:=by kernel_rfl
@[go_sem] theorem tt263:zab Go.Proofs.Tryz.prog 12 263=false:=by kernel_rfl
@[go_sem] theorem zc263:zQ Go.Proofs.Tryz.prog 12 263= [.d (.int .u32 0),.d (.int .i32 0),.d (.int .u32 0)]++List.replicate 256 (.d (.int .u32 0)):=by kernel_rfl
@[go_sem] theorem ty264:ty Go.Proofs.Tryz.prog 264=⟨.slice 4,1,24⟩:=by kernel_rfl
@[go_sem] theorem ty269:ty Go.Proofs.Tryz.prog 269=⟨.slice 36,1,24⟩:=by kernel_rfl
attribute [go_sem] Tryz.results0 Tryz.results1 Tryz.results2 Tryz.results3 Tryz.results4 Tryz.results5 Tryz.results6 Tryz.results7 Tryz.results8 Tryz.results9 Tryz.results10 Tryz.results11 Tryz.results12 Tryz.results13 Tryz.results14 Tryz.results15 Tryz.results16 Tryz.results17 Tryz.results18 Tryz.results19 Tryz.results20 Tryz.results21 Tryz.results22 Tryz.results23 Tryz.results24 Tryz.results25 Tryz.results26 Tryz.results27 Tryz.results28 Tryz.results29 Tryz.results30 Tryz.results31 Tryz.results32 Tryz.results33 Tryz.results34 Tryz.results35 Tryz.results36 Tryz.results37 Tryz.results38 Tryz.results39
attribute [go_sem] Tryz.results40 Tryz.results41 Tryz.results42 Tryz.results43 Tryz.results44 Tryz.results45 Tryz.results46 Tryz.results47 Tryz.results48 Tryz.results49 Tryz.results50 Tryz.results51 Tryz.results52 Tryz.results53 Tryz.results54 Tryz.results55 Tryz.results56 Tryz.results57 Tryz.results58 Tryz.results59 Tryz.results60 Tryz.results61 Tryz.results62 Tryz.results63 Tryz.results64 Tryz.results65 Tryz.results66 Tryz.results67 Tryz.results68 Tryz.results69 Tryz.results70 Tryz.results71 Tryz.results72 Tryz.results73 Tryz.results74 Tryz.results75 Tryz.results76 Tryz.results77 Tryz.results78 Tryz.results79
attribute [go_sem] Tryz.results80 Tryz.results81 Tryz.results82 Tryz.results83 Tryz.results84 Tryz.results85 Tryz.results86 Tryz.results87 Tryz.results88 Tryz.results89 Tryz.results90 Tryz.results91 Tryz.results92 Tryz.results93 Tryz.results94 Tryz.results95 Tryz.results96 Tryz.results97 Tryz.results98 Tryz.results99 Tryz.results100 Tryz.results101 Tryz.results102 Tryz.results103 Tryz.results104 Tryz.results105 Tryz.results106 Tryz.results107 Tryz.results108 Tryz.results109 Tryz.results110 Tryz.results111 Tryz.results112 Tryz.results113 Tryz.results114 Tryz.results115 Tryz.results116 Tryz.results117 Tryz.results118 Tryz.results119
attribute [go_sem] Tryz.results120 Tryz.results121 Tryz.results122 Tryz.results123 Tryz.results124 Tryz.results125 Tryz.results126 Tryz.results127 Tryz.results128 Tryz.results129 Tryz.results130 Tryz.results131 Tryz.results132 Tryz.results133 Tryz.results134 Tryz.results135 Tryz.results136 Tryz.results137 Tryz.results138 Tryz.results139 Tryz.results140 Tryz.results141 Tryz.results142 Tryz.results143 Tryz.results144 Tryz.results145 Tryz.results146 Tryz.results147 Tryz.results148 Tryz.results149 Tryz.results150 Tryz.results151 Tryz.results152 Tryz.results153 Tryz.results154 Tryz.results155 Tryz.results156 Tryz.results157 Tryz.results158 Tryz.results159
attribute [go_sem] Tryz.results160 Tryz.results161 Tryz.results162 Tryz.results163 Tryz.results164 Tryz.results165 Tryz.results166 Tryz.results167 Tryz.results168 Tryz.results169 Tryz.results170 Tryz.results171 Tryz.results172 Tryz.results173 Tryz.results174 Tryz.results175 Tryz.results176 Tryz.results177 Tryz.results178 Tryz.results179 Tryz.results180 Tryz.results181 Tryz.results182 Tryz.results183 Tryz.results184 Tryz.results185 Tryz.results186 Tryz.results187 Tryz.results188 Tryz.results189 Tryz.results190 Tryz.results191 Tryz.results192 Tryz.results193 Tryz.results194 Tryz.results195 Tryz.results196 Tryz.results197 Tryz.results198 Tryz.results199
attribute [go_sem] Tryz.results200 Tryz.results201 Tryz.results202 Tryz.results203 Tryz.results204 Tryz.results205 Tryz.results206 Tryz.results207 Tryz.results208 Tryz.results209 Tryz.results210 Tryz.results211 Tryz.results212 Tryz.results213 Tryz.results214 Tryz.results215 Tryz.results216 Tryz.results217 Tryz.results218 Tryz.results219 Tryz.results220 Tryz.results221 Tryz.results222 Tryz.results223 Tryz.results224 Tryz.results225 Tryz.results226 Tryz.results227 Tryz.results228 Tryz.results229 Tryz.results230 Tryz.results231 Tryz.results232 Tryz.results233 Tryz.results234 Tryz.results235 Tryz.results236 Tryz.results237 Tryz.results238 Tryz.results239
attribute [go_sem] Tryz.results240 Tryz.results241 Tryz.results242 Tryz.results243 Tryz.results244 Tryz.results245 Tryz.results246 Tryz.results247
abbrev AC (f:FuncId) (args:List AV) (r:AV):Prop:=ACall Go.Proofs.Tryz.prog f 0 args [] fun v _=>v=r
theorem mx:Go.Proofs.Tryz.prog.follows .mixedOrders=true:=by kernel_rfl
end Go.Aw
namespace Go.Proofs
open Go.Shelf
def Tryz.lays99_ren:Go.Shelf.Ren:=⟨fun|99=>70|206=>117|n=>n,fun|9=>9|4=>4|3=>3|n=>n,fun|n=>n⟩
theorem Tryz.lays99:Go.Proofs.Lays.n99 Tryz.prog Tryz.lays99_ren:= {
 mixed:=by kernel_rfl
 f99:=Tryz.func70.trans (congrArg some (by kernel_rfl))
 f206:=Tryz.func117.trans (congrArg some (by kernel_rfl))
 t3:=Tryz.underlying3
 a3:=Tryz.isAgg3
 z3:=Tryz.sizeOf3
 v3:=Tryz.zeroValue3
 t4:=Tryz.underlying4
 a4:=Tryz.isAgg4
 z4:=Tryz.sizeOf4
 v4:=Tryz.zeroValue4
 t9:=Tryz.underlying9
 a9:=Tryz.isAgg9
 z9:=Tryz.sizeOf9
 v9:=Tryz.zeroValue9 }
open Go.RowKit Go.Lib in
theorem Tryz.strings_HasPrefix (s p:ByteArray) (w:World):
  Calls Tryz.prog 70 #[.string s,.string p] w fun e w'=>e= .returned (.bool (Lib.hasPrefix s.data.toList p.data.toList))∧w'=w:=Any.strings_HasPrefix Tryz.lays99 s p w
def Tryz.lays105_ren:Go.Shelf.Ren:=⟨fun|105=>26|212=>69|99=>70|165=>71|166=>72|170=>73|169=>74|263=>115|264=>116|206=>117|240=>118|241=>119|276=>160|277=>161|n=>n,fun|9=>9|3=>3|4=>4|20=>20|0=>0|46=>125|109=>126|5=>5|72=>131|76=>135|51=>54|146=>189|53=>28|148=>191|70=>129|37=>79|75=>134|127=>193|164=>225|80=>138|n=>n,fun|n=>n⟩
theorem Tryz.lays105:Go.Proofs.Lays.n105 Tryz.prog Tryz.lays105_ren:= {
 mixed:=by kernel_rfl
 f99:=Tryz.func70.trans (congrArg some (by kernel_rfl))
 f105:=Tryz.func26.trans (congrArg some (by kernel_rfl))
 f165:=Tryz.func71.trans (congrArg some (by kernel_rfl))
 f166:=Tryz.func72.trans (congrArg some (by kernel_rfl))
 f169:=Tryz.func74.trans (congrArg some (by kernel_rfl))
 f170:=Tryz.func73.trans (congrArg some (by kernel_rfl))
 f206:=Tryz.func117.trans (congrArg some (by kernel_rfl))
 f212:=Tryz.func69.trans (congrArg some (by kernel_rfl))
 f240:=Tryz.func118.trans (congrArg some (by kernel_rfl))
 f241:=Tryz.func119.trans (congrArg some (by kernel_rfl))
 f263:=Tryz.func115.trans (congrArg some (by kernel_rfl))
 f264:=Tryz.func116.trans (congrArg some (by kernel_rfl))
 f276:=Tryz.func160.trans (congrArg some (by kernel_rfl))
 f277:=Tryz.func161.trans (congrArg some (by kernel_rfl))
 t0:=Tryz.underlying0
 a0:=Tryz.isAgg0
 z0:=Tryz.sizeOf0
 v0:=Tryz.zeroValue0
 t3:=Tryz.underlying3
 a3:=Tryz.isAgg3
 z3:=Tryz.sizeOf3
 v3:=Tryz.zeroValue3
 t4:=Tryz.underlying4
 a4:=Tryz.isAgg4
 z4:=Tryz.sizeOf4
 v4:=Tryz.zeroValue4
 t5:=Tryz.underlying5
 a5:=Tryz.isAgg5
 z5:=Tryz.sizeOf5
 v5:=Tryz.zeroValue5
 t9:=Tryz.underlying9
 a9:=Tryz.isAgg9
 z9:=Tryz.sizeOf9
 v9:=Tryz.zeroValue9
 t20:=Tryz.underlying20
 a20:=Tryz.isAgg20
 z20:=Tryz.sizeOf20
 v20:=Tryz.zeroValue20
 t37:=Tryz.underlying79
 a37:=Tryz.isAgg79
 z37:=Tryz.sizeOf79
 v37:=Tryz.zeroValue79
 t46:=Tryz.underlying125
 a46:=Tryz.isAgg125
 z46:=Tryz.sizeOf125
 v46:=Tryz.zeroValue125
 t51:=Tryz.underlying54
 a51:=Tryz.isAgg54
 z51:=Tryz.sizeOf54
 v51:=Tryz.zeroValue54
 t53:=Tryz.underlying28
 a53:=Tryz.isAgg28
 z53:=Tryz.sizeOf28
 v53:=Tryz.zeroValue28
 t70:=Tryz.underlying129
 a70:=Tryz.isAgg129
 z70:=Tryz.sizeOf129
 v70:=Tryz.zeroValue129
 t72:=Tryz.underlying131
 a72:=Tryz.isAgg131
 z72:=Tryz.sizeOf131
 v72:=Tryz.zeroValue131
 t75:=Tryz.underlying134
 a75:=Tryz.isAgg134
 z75:=Tryz.sizeOf134
 v75:=Tryz.zeroValue134
 t76:=Tryz.underlying135
 a76:=Tryz.isAgg135
 z76:=Tryz.sizeOf135
 v76:=Tryz.zeroValue135
 t109:=Tryz.underlying126
 a109:=Tryz.isAgg126
 z109:=Tryz.sizeOf126
 v109:=Tryz.zeroValue126
 t127:=Tryz.underlying193
 a127:=Tryz.isAgg193
 z127:=Tryz.sizeOf193
 v127:=Tryz.zeroValue193
 t146:=Tryz.underlying189
 a146:=Tryz.isAgg189
 z146:=Tryz.sizeOf189
 v146:=Tryz.zeroValue189
 t148:=Tryz.underlying191
 a148:=Tryz.isAgg191
 z148:=Tryz.sizeOf191
 v148:=Tryz.zeroValue191
 t164:=Tryz.underlying225
 a164:=Tryz.isAgg225
 z164:=Tryz.sizeOf225
 v164:=Tryz.zeroValue225 }
theorem Tryz.Builder_Extra_105:Builder.Extra Tryz.prog Tryz.lays105_ren:= {
 sizeBuilder:=by kernel_rfl
 liesBuilder:=by kernel_rfl
 t5:=Tryz.underlying5
 a5:=Tryz.isAgg5
 z5:=Tryz.sizeOf5
 v5:=Tryz.zeroValue5
 infoByte:=by kernel_rfl
 cellsByte:=by kernel_rfl
 sizeByte:=by kernel_rfl
 neB5:=by decide }
open Go.RowKit Go.Lib in
theorem Tryz.strings_Repeat (s:ByteArray) (c:Nat) (w:World) (hc:c≤9223372036854775807) (hlen:s.size*c≤140737488355328):
  Calls Tryz.prog 26 #[.string s,.int .i64 c] w fun e w'=>e= .returned (.string ⟨(Lib.repeatL s.data.toList c).toArray⟩)∧Below w.heap.size w w':=Any.strings_Repeat Tryz.lays105 Tryz.Builder_Extra_105 s c w hc hlen
end Go.Proofs
namespace Go.Aw
open Go Go.Proofs Go.RowKit
theorem zfZ {P:Program} {f:FuncId} {args:List AV} {r:AV} {v:Value} (hen:zer P f) (h:∀E w (vs:Array Value),Reps w E [] args vs.toList→Calls P f vs w (fun e w'=>e= .returned v∧Below w.heap.size w w')) (hr:∀w E,Rep w E [] r v):ACall P f 0 args [] (fun r' _=>r'=r):=by
 refine ⟨hen,fun E w vs hs hra=>(h E w vs hra).mono ?_⟩
 rintro e w' ⟨rfl,hb⟩
 have hno:∀b,¬Own E [] b:=fun b ⟨i,hi,_⟩=>by simp [hget] at hi
 refine ⟨v,E,r,[],rfl,rfl,⟨fun i o ho=>by simp [hget] at ho,fun i j b h1=>by simp [hget] at h1,fun b hb=>absurd hb (hno b),fun b hm=>Nat.lt_of_lt_of_le (hs.mlt b hm) hb.size,fun b hm=>Nat.lt_of_lt_of_le (hs.nlt b hm) hb.size⟩,hr w' E,?_⟩
 exact ⟨hb.os,hb.tape,hb.output,hb.size,fun k hk _=>hb.block k hk,fun b ho=> .inl ho,rfl,rfl,fun i _ hi=>by simp [hget] at hi⟩
theorem zoo (n:Nat) (hn:n≤140737488355328):ACall Tryz.prog 26 0 [.d (.str [0]),.d (.int .i64 n)] [] (fun r _=>r= .d (.str (List.replicate n 0))):=by
 refine zfZ (v:= .string ⟨(List.replicate n 0).toArray⟩) (zca Tryz.func26 (by kernel_rfl) rfl) ?_ (fun w E=>by simp [Rep,RepD])
 intro E w vs hr
 simp only [Reps,Rep,RepD] at hr
 obtain ⟨v1,r1,e1,rfl,v2,r2,rfl,rfl,rfl⟩:=hr
 have hvs:vs= #[.string ⟨#[0]⟩,.int .i64 n]:=by cases vs;simpa using e1
 subst hvs
 have:=Tryz.strings_Repeat ⟨#[0]⟩ n w (by omega) (by simpa [ByteArray.size] using hn)
 refine this.mono ?_
 rintro e w' ⟨rfl,hb⟩
 refine ⟨?_,hb⟩
 have:=Lib.repeatL_replicate 0 1 n
 simp only [List.replicate_one,Nat.mul_one,Nat.one_mul] at this
 show Ending.returned (.string ⟨(Lib.repeatL [0] n).toArray⟩)=_
 rw [this]
theorem ziq (s p:List UInt8) (_:True):AC 70 [.d (.str s),.d (.str p)] (.d (.bool (p.isPrefixOf s))):=by
 refine zfZ (v:= .bool (p.isPrefixOf s)) (zca Tryz.func70 (by kernel_rfl) rfl) ?_ (fun w E=>by simp [Rep,RepD])
 intro E w vs hr
 simp only [Reps,Rep,RepD] at hr
 obtain ⟨v1,r1,e1,rfl,v2,r2,rfl,rfl,rfl⟩:=hr
 have hvs:vs= #[.string ⟨s.toArray⟩,.string ⟨p.toArray⟩]:=by cases vs;simpa using e1
 subst hvs
 have:=Tryz.strings_HasPrefix ⟨s.toArray⟩ ⟨p.toArray⟩ w
 refine this.mono ?_
 rintro e w' ⟨rfl,rfl⟩
 exact ⟨by simp [Lib.hasPrefix],Below.refl _ _⟩
@[go_sem] noncomputable def zd9:Ent Tryz.prog 70:= .m2 strT strT ziq
end Go.Aw
namespace Go.Proofs.YtbmlikkofegdeaaGreat
open Go Go.RowKit
theorem disable (w:World):(callFunc 215 #[]).run Tryz.prog w= .ok (.value (.tuple #[])) w:=run_call_mark0 Tryz.func215 (by kernel_rfl) (by kernel_rfl) (by kernel_rfl) .disable (by kernel_rfl) w
theorem enable (w:World):(callFunc 217 #[]).run Tryz.prog w= .ok (.value (.tuple #[])) w:=run_call_mark0 Tryz.func217 (by kernel_rfl) (by kernel_rfl) (by kernel_rfl) .enable (by kernel_rfl) w
theorem acquire (a:Addr) (w:World):(callFunc 218 #[.pointer (some a)]).run Tryz.prog w= .ok (.value (.tuple #[])) w:=run_call_marked Tryz.func218 (by kernel_rfl) (by kernel_rfl) (by kernel_rfl) .acquire (by kernel_rfl) a w
theorem releaseMerge (a:Addr) (w:World):(callFunc 220 #[.pointer (some a)]).run Tryz.prog w= .ok (.value (.tuple #[])) w:=run_call_marked Tryz.func220 (by kernel_rfl) (by kernel_rfl) (by kernel_rfl) .releaseMerge (by kernel_rfl) a w
theorem zgD (a:Addr) (x:Value) (u:FrameMode) (w:World) (hc:w.cell? a=some x) (hz:w.frozen? a=false):
  CallsD Tryz.prog 210 #[.pointer (some a),.bool true] u w fun e u' w'=>u'=u∧(e= .returned (.tuple #[])∧w'=w.drew.setCell a (.int .u32 1)):=by
 have hc':w.drew.cell? a=some x:=by go_simp
 have hz':w.drew.frozen? a=false:=by go_simp
 have hst:=run_call_store (P:=Tryz.prog) Tryz.func213 (by kernel_rfl) (by kernel_rfl) (by kernel_rfl) (by kernel_rfl) (k:= .u32) (y:=1) hc' hz'
 go_enter_d Tryz.func210,Tryz.ntmps210
 go_wp2
 go_region_calls
 all_goals (go_end0;exact ⟨rfl,rfl⟩)
theorem ziO (a:Addr) (w:World) (hc:w.cell? a=some (.int .i32 1)) (hz:w.frozen? a=false):
  Calls Tryz.prog 212 #[.pointer (some a)] w fun e w'=>e= .returned (.tuple #[])∧w'=w.setCell a (.int .i32 0):=by
 have hd:=disable
 have he:=enable
 have hr:=releaseMerge
 have hadd:=run_call_add (P:=Tryz.prog) Tryz.func221 (by kernel_rfl) (by kernel_rfl) (by kernel_rfl) .i32 (by kernel_rfl) (y:= -1) (s:=0) hc hz (by simp [go_sem];rfl)
 have hcv:=run_convert_to_unsafe (P:=Tryz.prog) (src:=288) (dst:=225) Tryz.underlying288 Tryz.underlying225 (by kernel_rfl) hc
 go_enter Tryz.func212,Tryz.ntmps212
 go_wp2
 go_end0
 exact ⟨rfl,rfl⟩
theorem zf8 (a:Addr) (u:FrameMode) (w:World) (hc:w.cell? a=some (.int .i32 1)) (hz:w.frozen? a=false):
  CallsD Tryz.prog 209 #[.pointer (some a)] u w fun e u' w'=>u'=u∧(e= .returned (.tuple #[])∧w'=w.setCell a (.int .i32 0)):=by
 go_enter_d Tryz.func209,Tryz.ntmps209
 go_wp2_with (go_at_call 212;refine (ziO a _ (by go_simp) (by go_simp)).mono ?_;rintro e w' ⟨rfl,rfl⟩)
 go_end0
 exact ⟨rfl,rfl⟩
theorem zlA (a:Addr) (w:World) (hc:w.cell? a=some (.int .i32 0)) (hz:w.frozen? a=false):
  Calls Tryz.prog 211 #[.pointer (some a)] w fun e w'=>e= .returned (.tuple #[])∧w'=w.setCell a (.int .i32 1):=by
 have hd:=disable
 have he:=enable
 have ha:=acquire
 have hcas:=run_call_cas_hit (P:=Tryz.prog) Tryz.func216 (by kernel_rfl) (by kernel_rfl) (by kernel_rfl) .i32 (by kernel_rfl) (y:=1) hc hz
 have hc':(w.setCell a (.int .i32 1)).cell? a=some (.int .i32 1):=World.cell?_setCell_same w a _ hc
 have hcv:=run_convert_to_unsafe (P:=Tryz.prog) (src:=288) (dst:=225) Tryz.underlying288 Tryz.underlying225 (by kernel_rfl) hc'
 go_enter Tryz.func211,Tryz.ntmps211
 go_wp2
 first|go_end0|(simp only [Exit.inBlock,Exit.then];refine bodyPost_ret (results_none rfl _ _ _) rfl ?_)|refine bodyPost_ret (results_none rfl _ _ _) rfl ?_
 exact ⟨rfl,rfl⟩
theorem zne (a:Addr) (w:World) (hc:w.cell? a=some (.int .i32 0)) (hz:w.frozen? a=false):
  Calls Tryz.prog 208 #[.pointer (some a)] w fun e w'=>e= .returned (.tuple #[])∧w'=w.setCell a (.int .i32 1):=by
 go_enter Tryz.func208,Tryz.ntmps208
 go_wp2_with (go_at_call 211;refine (zlA a _ (by go_simp) (by go_simp)).mono ?_;rintro e w' ⟨rfl,rfl⟩)
 go_end0
 exact ⟨rfl,rfl⟩
theorem ziP (a:Addr) (x:Int) (w:World) (hc:w.cell? a=some (.int .u32 x)):
  Calls Tryz.prog 205 #[.pointer (some a)] w fun e w'=>e= .returned (.bool (x !=0))∧w'=w:=by
 have hl:=run_call_load (P:=Tryz.prog) Tryz.func207 (by kernel_rfl) (by kernel_rfl) (by kernel_rfl) .u32 (by kernel_rfl) hc
 go_enter Tryz.func205,Tryz.ntmps205
 go_wp2
 go_ret
 exact ⟨rfl,rfl⟩
set_option maxHeartbeats 1600000 in
theorem zoN (b off:Nat) (p:Value) (w:World) (R:World→Prop)
  (h0:w.cell? ⟨b,off,none⟩=some (.int .u32 0)) (h1:w.cell? ⟨b,off+1,none⟩=some (.int .i32 0)) (f0:w.frozen? ⟨b,off,none⟩=false) (f1:w.frozen? ⟨b,off+1,none⟩=false)
  (hf:Calls Tryz.prog 201 #[p] (w.setCell ⟨b,off+1,none⟩ (.int .i32 1)) fun e w2=>e= .returned (.tuple #[])∧R w2)
  (hR:∀w2,R w2→w2.cell? ⟨b,off,none⟩=some (.int .u32 0)∧w2.cell? ⟨b,off+1,none⟩=some (.int .i32 1)∧w2.frozen? ⟨b,off,none⟩=false∧w2.frozen? ⟨b,off+1,none⟩=false):
  Calls Tryz.prog 206 #[.pointer (some ⟨b,off,none⟩),.func (.func 201) #[p] #[]] w fun e w'=>e= .returned (.tuple #[])∧
   ∃w2,R w2∧w'=(w2.drew.setCell ⟨b,off,none⟩ (.int .u32 1)).setCell ⟨b,off+1,none⟩ (.int .i32 0):=by
 have hnot:∀ (x:Bool) (w:World),(Op.unary .not (.bool x)).run Tryz.prog w= .ok (.bool (!x)) w:=fun _ _=>rfl
 have hld:(w.setCell ⟨b,off+1,none⟩ (.int .i32 1)).cell? ⟨b,off,none⟩=some (.int .u32 0):=(World.cell?_setCell_other _ ⟨b,off+1,none⟩ ⟨b,off,none⟩ _ (by simp)).trans h0
 go_enter_defers Tryz.func206,Tryz.ntmps206
 go_wp2_with (first
  |(go_at_call 208;refine (zne ⟨b,off+1,none⟩ _ (by go_simp) (by go_simp)).mono ?_;rintro e w' ⟨rfl,rfl⟩)
  |(go_at_call 205;refine (ziP ⟨b,off,none⟩ 0 _ hld).mono ?_;rintro e w' ⟨rfl,rfl⟩)
  |(go_at_call 201;refine hf.mono ?_;rintro e w2 ⟨rfl,hr⟩))
 obtain ⟨g0,g1,g2,g3⟩:=hR w2 hr
 refine leaves_cons (f:=210) (args:= #[.pointer (some ⟨b,off,none⟩),.bool true]) (by simp) (by simp [go_sem]) ?_
 refine (zgD ⟨b,off,none⟩ (.int .u32 0) .returning _ g0 g2).mono ?_
 rintro e u' w'' ⟨rfl,rfl,rfl⟩
 refine leaves_cons (f:=209) (args:= #[.pointer (some ⟨b,off+1,none⟩)]) (by simp [settle]) (by simp [go_sem]) ?_
 refine (zf8 ⟨b,off+1,none⟩ _ _ ?_ (by simp [g3])).mono ?_
 ·refine (World.cell?_setCell_other _ ⟨b,off,none⟩ ⟨b,off+1,none⟩ _ (by simp)).trans ?_
  rw [World.cell?_drew]
  exact g1
 rintro e u' w'' ⟨rfl,rfl,rfl⟩
 simp only [Leaves,settle]
 exact ⟨.tuple #[],by simp [results,Tryz.results206],rfl,w2,hr,rfl⟩
set_option maxHeartbeats 1600000 in
theorem do_first (b off:Nat) (p:Value) (w:World) (R:World→Prop)
  (h0:w.cell? ⟨b,off,none⟩=some (.int .u32 0)) (h1:w.cell? ⟨b,off+1,none⟩=some (.int .i32 0)) (f0:w.frozen? ⟨b,off,none⟩=false) (f1:w.frozen? ⟨b,off+1,none⟩=false)
  (hf:Calls Tryz.prog 201 #[p] (w.setCell ⟨b,off+1,none⟩ (.int .i32 1)) fun e w2=>e= .returned (.tuple #[])∧R w2)
  (hR:∀w2,R w2→w2.cell? ⟨b,off,none⟩=some (.int .u32 0)∧w2.cell? ⟨b,off+1,none⟩=some (.int .i32 1)∧w2.frozen? ⟨b,off,none⟩=false∧w2.frozen? ⟨b,off+1,none⟩=false):
  Calls Tryz.prog 200 #[.pointer (some ⟨b,off,none⟩),.func (.func 201) #[p] #[]] w fun e w'=>e= .returned (.tuple #[])∧
   ∃w2,R w2∧w'=(w2.drew.setCell ⟨b,off,none⟩ (.int .u32 1)).setCell ⟨b,off+1,none⟩ (.int .i32 0):=by
 have hnot:∀ (x:Bool) (w:World),(Op.unary .not (.bool x)).run Tryz.prog w= .ok (.bool (!x)) w:=fun _ _=>rfl
 go_enter Tryz.func200,Tryz.ntmps200
 go_wp2_with (first
  |(go_at_call 205;refine (ziP ⟨b,off,none⟩ 0 _ h0).mono ?_;rintro e w' ⟨rfl,rfl⟩)
  |(go_at_call 206;refine (zoN b off p _ R h0 h1 f0 f1 hf hR).mono ?_;rintro e w' ⟨rfl,w2,hr,rfl⟩))
 go_end0
 exact ⟨rfl,w2,hr,rfl⟩
end Go.Proofs.YtbmlikkofegdeaaGreat
namespace Go.Aw
open Go Go.Proofs
section
variable {P : Program} {w w' : World} {E E' : Env} {h h' : AHeap}
theorem zf9:∀ (h:AHeap) (i:Nat) (a b:AObj),hset (hset h i a) i b=hset h i b
  | [],_,_,_=>rfl
  | (k,o)::r,i,a,b=>by
    by_cases hk:k=i
    · simp [hset,hk]
    · simp [hset,hk,zf9 r]
theorem zat {h:AHeap} {i j:Nat} {o:AObj} (hi:(hget h i).isSome):(hget (hset h i o) j).isSome=(hget h j).isSome:=by
 by_cases hj:j=i
 ·subst hj
  obtain ⟨x,hx⟩:=Option.isSome_iff_exists.1 hi
  rw [zf hx,hx]
  rfl
 ·rw [zB hj]
theorem poke (hs:SatH E h w) {i o b:Nat} {cs:List AV} (hi:hget h i=some (.var cs)) (hb:E.O i=some b) {x:AV} {v:Value} (hr:Rep w E h x v):
  Chg E h w E (hset h i (.var (cs.set o x))) (w.setCell ⟨b,o,none⟩ v) i∧SatH E (hset h i (.var (cs.set o x))) (w.setCell ⟨b,o,none⟩ v):=by
 have hob:=hs.heap i _ hi
 simp only [RepObj] at hob
 obtain ⟨b',c,T,fz,g1,g2,g3,g4⟩:=hob
 rw [hb] at g1;cases g1
 rw [zc8 g2]
 have ch:=zmk hs hi (cs':=cs.set o x) (by simp) hb (.cells (c.setIfInBounds o v) T fz)
 refine ⟨ch,ch.satH hs (fun ob hob=>?_)⟩
 rw [zf hi] at hob
 cases hob
 simp only [RepObj]
 refine ⟨b,_,T,fz,hb,zcN (Array.getElem?_eq_some_iff.1 g2).1,?_,by simpa using g4⟩
 rw [Array.toList_setIfInBounds]
 exact ch.reps (g3.set hr)
theorem zfy {i:Nat} {o:AObj} (hi:(hget h i).isSome) {b:Nat} :Own E (hset h i o) b↔Own E h b:=by
 unfold Own
 constructor
 ·rintro ⟨j,h1,h2⟩;exact ⟨j,by rwa [zat hi] at h1,h2⟩
 ·rintro ⟨j,h1,h2⟩;exact ⟨j,by rwa [zat hi],h2⟩
end
section
variable {h : AHeap}
theorem zqx {fl i:Nat} {cs cs2:List AV} (hi:hget h i=some (.var cs)) (c0:cs[0]?=some (.d (.int .u32 0))) (c1:cs[1]?=some (.d (.int .i32 0)))
  (d0:cs2[0]?=some (.d (.int .u32 0))) (d1:cs2[1]?=some (.d (.int .i32 1)))
  (hf:ACallAt Tryz.prog fl 201 [.vp i 0] (hset h i (.var (cs.set 1 (.d (.int .i32 1))))) (fun r h'=>r= .tup []∧h'=hset h i (.var cs2))):
  ACallAt Tryz.prog fl 200 [.vp i 0,.fn (.func 201) [.vp i 0] []] h (fun r h'=>r= .tup []∧h'=hset h i (.var ((cs2.set 0 (.d (.int .u32 1))).set 1 (.d (.int .i32 0))))):=by
 refine ⟨zca Tryz.func200 (by kernel_rfl) rfl,fun E w vs hs hr=>?_⟩
 simp only [Reps] at hr
 obtain ⟨v0,r0,e0,q0,v1,r1,rfl,q1,rfl⟩:=hr
 simp only [Rep,Reps] at q1
 obtain ⟨fa,fb,rfl,⟨u,r2,e2,q2,rfl⟩,e3⟩:=q1
 have q0':=q0
 simp only [Rep] at q0 q2
 obtain ⟨b,cs',hi',hb,rfl⟩:=q0
 obtain ⟨b',cs'',hi'',hb',rfl⟩:=q2
 rw [hb] at hb';cases hb'
 have hfa:fa= #[.pointer (some ⟨b,0,none⟩)]:=by cases fa;simpa using e2
 have hfb:fb= #[]:=by cases fb;simpa using e3
 subst hfa hfb
 have hvs:vs= #[.pointer (some ⟨b,0,none⟩),.func (.func 201) #[.pointer (some ⟨b,0,none⟩)] #[]]:=by cases vs;simpa using e0
 subst hvs
 have look:∀ {E:Env} {h:AHeap} {w:World} {xs:List AV},SatH E h w→hget h i=some (.var xs)→E.O i=some b→∀ (o:Nat) (k:IntKind) (n:Int),xs[o]?=some (.d (.int k n))→w.cell? ⟨b,o,none⟩=some (.int k n)∧w.frozen? ⟨b,o,none⟩=false:=by
  intro E h w xs hs hi hb o k n ho
  have hob:=hs.heap i _ hi
  simp only [RepObj] at hob
  obtain ⟨b',c,T,fz,g1,g2,g3,g4⟩:=hob
  rw [hb] at g1;cases g1
  obtain ⟨v,h1,h2⟩:=Reps.get g3 ho
  simp only [Rep,RepD] at h2
  subst h2
  have h1':c[o]?=some (.int k n):=by simpa using h1
  have hlt:=(Array.getElem?_eq_some_iff.1 h1').1
  refine ⟨by rw [zZ g2];exact h1',?_⟩
  rw [zcq g2]
  have:=g4 o hlt
  simpa using this
 obtain ⟨a0,z0⟩:=look hs hi hb 0 _ _ c0
 obtain ⟨a1,z1⟩:=look hs hi hb 1 _ _ c1
 obtain ⟨ch1,hs1⟩:=poke hs hi hb (o:=1) (x:= .d (.int .i32 1)) (v:= .int .i32 1) (by simp [Rep,RepD])
 have hsome:(hget h i).isSome:=by simp [hi]
 have hp1:Rep (w.setCell ⟨b,1,none⟩ (.int .i32 1)) E (hset h i (.var (cs.set 1 (.d (.int .i32 1))))) (.vp i 0) (.pointer (some ⟨b,0,none⟩)):=ch1.rep q0'
 have hfill:=hf.2 E _ #[.pointer (some ⟨b,0,none⟩)] hs1 (by simp only [Reps];exact ⟨_,_,rfl,hp1,rfl⟩)
 let R:World→Prop:=fun w2=>∃E2,SatH E2 (hset h i (.var cs2)) w2∧EvoC fl E (hset h i (.var (cs.set 1 (.d (.int .i32 1))))) (w.setCell ⟨b,1,none⟩ (.int .i32 1)) E2 (hset h i (.var cs2)) w2∧
  (∀x y,Rep (w.setCell ⟨b,1,none⟩ (.int .i32 1)) E (hset h i (.var (cs.set 1 (.d (.int .i32 1))))) x y→Rep w2 E2 (hset h i (.var cs2)) x y)
 have hO:∀ {w2 E2},(∀x y,Rep (w.setCell ⟨b,1,none⟩ (.int .i32 1)) E (hset h i (.var (cs.set 1 (.d (.int .i32 1))))) x y→Rep w2 E2 (hset h i (.var cs2)) x y)→E2.O i=some b:=by
  intro w2 E2 hrep
  have:=hrep _ _ hp1
  simp only [Rep] at this
  obtain ⟨b2,_,_,h1,h2⟩:=this
  have:b=b2:=by
   have:=Value.pointer.inj h2
   have:=Option.some.inj this
   exact congrArg Addr.block this
  rw [h1,this]
 have hget2:hget (hset h i (.var cs2)) i=some (.var cs2):=zf hi
 refine (Go.Proofs.YtbmlikkofegdeaaGreat.do_first b 0 (.pointer (some ⟨b,0,none⟩)) w R a0 a1 z0 z1 (hfill.mono ?_) ?_).mono ?_
 ·rintro e w2 ⟨v,E2,r,h2,rfl,⟨rfl,rfl⟩,g1,g2,g3,g4⟩
  simp only [Rep,Reps] at g2
  obtain ⟨vs,rfl,g5⟩:=g2
  have:vs= #[]:=by cases vs;simpa using g5
  subst this
  exact ⟨rfl,E2,g1,g3,g4⟩
 ·rintro w2 ⟨E2,g1,g2,g3⟩
  obtain ⟨x0,y0⟩:=look g1 hget2 (hO g3) 0 _ _ d0
  obtain ⟨x1,y1⟩:=look g1 hget2 (hO g3) 1 _ _ d1
  exact ⟨x0,x1,y0,y1⟩
 ·rintro e w3 ⟨rfl,w2,⟨E2,g1,g2,g3⟩,rfl⟩
  have hb2:=hO g3
  have hsd:SatH E2 (hset h i (.var cs2)) w2.drew:=g1.refit ⟨rfl,rfl,rfl,rfl,fun _ _=>rfl,fun _ _ h _ _=>h⟩ (base:=0) rfl rfl (fun _ _ h=>h) (fun b hb=>(g1.own b hb).2) g1.mlt g1.nlt
  obtain ⟨ch2,hs2⟩:=poke hsd hget2 hb2 (o:=0) (x:= .d (.int .u32 1)) (v:= .int .u32 1) (by simp [Rep,RepD])
  have hget3:hget (hset (hset h i (.var cs2)) i (.var (cs2.set 0 (.d (.int .u32 1))))) i=some (.var (cs2.set 0 (.d (.int .u32 1)))):=zf hget2
  obtain ⟨ch3,hs3⟩:=poke hs2 hget3 hb2 (o:=1) (x:= .d (.int .i32 0)) (v:= .int .i32 0) (by simp [Rep,RepD])
  have hrep3:∀x y,Rep w2 E2 (hset h i (.var cs2)) x y→Rep _ E2 _ x y:=fun x y hxy=>
   ch3.rep (ch2.rep (Rep.step (W:=w2) (W':=w2.drew) (fun _ _ h=>h) (fun _ _ _=>rfl) x y (fun j _=>GoesOn.refl E2 _ j) hxy))
  have hs2some:(hget (hset h i (.var cs2)) i).isSome:=by simp [hget2]
  have hs3some:(hget (hset (hset h i (.var cs2)) i (.var (cs2.set 0 (.d (.int .u32 1))))) i).isSome:=by simp [hget3]
  have e4:hset (hset (hset h i (.var cs2)) i (.var (cs2.set 0 (.d (.int .u32 1))))) i (.var ((cs2.set 0 (.d (.int .u32 1))).set 1 (.d (.int .i32 0))))=hset h i (.var ((cs2.set 0 (.d (.int .u32 1))).set 1 (.d (.int .i32 0)))):=by rw [zf9,zf9]
  refine ⟨.tuple #[],E2,.tup [],_,rfl,⟨rfl,rfl⟩,e4 ▸ hs3,by simp [Rep,Reps],?_,fun x y hxy=>e4 ▸ hrep3 x y (g3 x y (ch1.rep hxy))⟩
  have hown:∀b',b'<w.heap.size→¬Own E h b'→w2.heap[b']?=w.heap[b']?:=fun b' hb' hno=>
   (g2.keep b' (by simpa using hb') (fun ho=>hno ((zfy hsome).1 ho))).trans (ch1.blk b' hb' (fun ⟨h1,h2⟩=>hno ⟨i,h1,h2⟩))
  have hsz:w.heap.size≤w2.heap.size:=Nat.le_trans ch1.size g2.size
  refine ⟨?_,?_,?_,?_,fun b' hb' hno=>?_,fun b' ho=>?_,g2.m,g2.n,fun j hj hjs=>?_⟩
  ·exact ch3.os.trans (ch2.os.trans (g2.os.trans ch1.os))
  ·exact ch3.tape.trans (ch2.tape.trans (g2.tape.trans ch1.tape))
  ·exact ch3.output.trans (ch2.output.trans (g2.output.trans ch1.output))
  ·exact Nat.le_trans hsz (Nat.le_trans ch2.size ch3.size)
  ·have hne:¬E2.O i=some b':=fun e=>by
    rw [hb2] at e;cases e
    exact hno ⟨i,hsome,hb⟩
   have h1:b'<w2.drew.heap.size:=Nat.lt_of_lt_of_le hb' hsz
   rw [ch3.blk b' (Nat.lt_of_lt_of_le h1 ch2.size) (fun h=>hne h.2),ch2.blk b' h1 (fun h=>hne h.2)]
   exact hown b' hb' hno
  ·rw [zfy hsome] at ho
   have ho2:Own E2 (hset h i (.var cs2)) b':=(zfy hsome).2 ho
   rcases g2.own b' ho2 with h1|h1
   ·exact .inl ((zfy hsome).1 h1)
   ·exact .inr (by simpa using h1)
  ·rw [zat hsome] at hjs
   have hj2:(hget (hset h i (.var cs2)) j).isSome:=by rwa [zat hsome]
   obtain ⟨p1,p2⟩:=g2.go j hj hj2
   refine ⟨hjs,?_⟩
   have p3:=(ch1.goesOn j).trans p2
   have p4:=p3.trans ((ch2.goesOn j).trans (ch3.goesOn j))
   exact e4 ▸ p4
end
open Go Go.Proofs
def bitT (c:Int):Int:=ibits .xor .u32 (ishr .u32 c 1) (IntKind.u32.wrap (ibits .and .u32 c 1*2197175160))
def bitsT:Nat→Int→Int
 |0,c=>c
 |n+1,c=>bitT (bitsT n c)
def tabF (j:Nat):Int:=bitsT 8 (IntKind.u32.wrap j)
def tblF (i:Nat):List D:=(List.range 256).map fun j=>D.int .u32 (if j<i then tabF j else 0)
theorem zkH (i:Nat):(tblF i).length=256:=by simp [tblF]
theorem zoM (i:Nat) (hi:i<256):(tblF i).set i (.int .u32 (tabF i))=tblF (i+1):=by
 apply List.ext_getElem?
 intro j
 rw [List.getElem?_set]
 unfold tblF
 simp only [List.length_map,List.length_range,List.getElem?_map]
 by_cases hj:i=j
 ·subst hj
  simp [hi]
 ·rw [if_neg hj]
  by_cases hj2:j<256
  ·rw [List.getElem?_range hj2]
   simp only [Option.map_some,Option.some.injEq,D.int.injEq,true_and]
   by_cases h1:j<i
   ·rw [if_pos h1,if_pos (by omega)]
   ·rw [if_neg h1,if_neg (by omega)]
  ·simp [hj2]
theorem zcz:∀ (l:List D),AV.leL (l.map AV.d) (l.map AV.d)
 | []=>by simp [AV.leL]
 |x::l=>by simp only [List.map_cons,AV.leL,AV.le,true_and];exact zcz l
theorem zlz (x y z:D):ACall Tryz.prog 201 1 [.vp 0 0] [(0,.var (.d x:: .d y:: .d z::(tblF 0).map AV.d))] (fun r h'=>r= .tup []∧h'= [(0,.var (.d x:: .d y:: .d z::(tblF 256).map AV.d))]):=by
 refine zao Tryz.func201 rfl (zca Tryz.func201 (by kernel_rfl) rfl) Tryz.ntmps201 (by simp) (fun base=>?_)
 refine ze noTab (zb _) (fun K hK=>?_);simp only [go_sem,Nat.le_refl,List.append_toArray,List.range_zero,List.append_eq,Int.toNat_natCast,aeq,aeq.aeqF,simprocAttr]
 refine hK _ ?_;clear hK K
 refine zaB ?_
 refine zy (fun i: {i:Nat // i≤256} =>⟨[(0,true,.vp 0 0),(4,true,.d (.int .i64 i.1))],[(0,.var (.d x:: .d y:: .d z::(tblF i.1).map AV.d))],some []⟩) (fun i=>256 - i.1) ⟨0,by omega⟩ (by simp only [AS.le,leT,leH,zi,AsgK,AV.le,AV.leL,AObj.le,inH,idsT,idsH,AV.ids,AV.idsL,AV.idsR,AObj.ids,lk,hget,go_sem,Nat.le_refl,List.append_toArray,List.range_zero,List.append_eq,Int.toNat_natCast,aeq,aeq.aeqF,simprocAttr]<;>simp [zcz,zbL,inH]) (fun i=>?_)
 obtain ⟨i,hi⟩:=i
 refine ze noTab (zb _) (fun K hK=>?_);simp only [go_sem,Nat.le_refl,List.append_toArray,List.range_zero,List.append_eq,Int.toNat_natCast,aeq,aeq.aeqF,simprocAttr]
 refine hK _ ?_;clear hK K
 refine zay (fun K hK=>?_)
 refine zbf rfl (fun hc=>?_) (fun hc=>?_)
 ·refine zc2 ?_;simp only [go_sem,Nat.le_refl,List.append_toArray,List.range_zero,List.append_eq,Int.toNat_natCast,aeq,aeq.aeqF,simprocAttr];refine hK _ ?_;clear hK K
  have hil:i<256:=by simp at hc;omega
  refine zay (fun K hK=>?_)
  refine zaB ?_
  refine ze noTab (zb _) (fun K hK=>?_);simp only [go_sem,Nat.le_refl,List.append_toArray,List.range_zero,List.append_eq,Int.toNat_natCast,aeq,aeq.aeqF,simprocAttr]
  refine hK _ ?_;clear hK K
  refine ze noTab (zb _) (fun K hK=>?_);simp only [go_sem,Nat.le_refl,List.append_toArray,List.range_zero,List.append_eq,Int.toNat_natCast,aeq,aeq.aeqF,simprocAttr]
  refine hK _ ?_;clear hK K
  refine zay (fun K2 hK2=>?_)
  refine ze noTab (zb _) (fun K hK=>?_);simp only [go_sem,Nat.le_refl,List.append_toArray,List.range_zero,List.append_eq,Int.toNat_natCast,aeq,aeq.aeqF,simprocAttr]
  refine hK _ ?_;clear hK K
  refine zaB ?_
  refine zy (fun k: {k:Nat // k≤8} =>⟨[(0,true,.vp 0 0),(4,true,.d (.int .i64 i)),(2,true,.d (.int .i64 i)),(3,true,.d (.int .u32 (bitsT k.1 (IntKind.u32.wrap i)))),(9,true,.d (.int .i64 k.1))],[(0,.var (.d x:: .d y:: .d z::(tblF i).map AV.d))],some []⟩) (fun k=>8 - k.1) ⟨0,by omega⟩ (by simp only [AS.le,leT,leH,zi,AsgK,AV.le,AV.leL,AObj.le,inH,idsT,idsH,AV.ids,AV.idsL,AV.idsR,AObj.ids,lk,hget,go_sem,Nat.le_refl,List.append_toArray,List.range_zero,List.append_eq,Int.toNat_natCast,aeq,aeq.aeqF,simprocAttr]<;>simp [zcz,zbL,inH,bitsT]) (fun k=>?_)
  obtain ⟨k,hk⟩:=k
  refine ze noTab (zb _) (fun K hK=>?_);simp only [go_sem,Nat.le_refl,List.append_toArray,List.range_zero,List.append_eq,Int.toNat_natCast,aeq,aeq.aeqF,simprocAttr]
  refine hK _ ?_;clear hK K
  refine zay (fun K3 hK3=>?_)
  refine zbf rfl (fun hc=>?_) (fun hc=>?_)
  ·refine zc2 ?_;simp only [go_sem,Nat.le_refl,List.append_toArray,List.range_zero,List.append_eq,Int.toNat_natCast,aeq,aeq.aeqF,simprocAttr];refine hK3 _ ?_;clear hK3 K3
   have hkl:k<8:=by simp at hc;omega
   refine zay (fun K hK=>?_)
   refine zaB ?_
   refine zag noTab (zb _) ?_;simp only [go_sem,Nat.le_refl,List.append_toArray,List.range_zero,List.append_eq,Int.toNat_natCast,aeq,aeq.aeqF,simprocAttr]
   refine hK _ ?_;clear hK K
   refine zag noTab (zb _) ?_;simp only [go_sem,Nat.le_refl,List.append_toArray,List.range_zero,List.append_eq,Int.toNat_natCast,aeq,aeq.aeqF,simprocAttr]
   have hw:IntKind.i64.wrap ((k:Int)+1)=((k+1:Nat):Int):=by rw [IntKind.wrap_i64];omega
   refine ⟨⟨k+1,by omega⟩,?_,by simp;omega⟩
   rw [hw]
   simp only [AS.le,leT,leH,zi,AsgK,AV.le,AV.leL,AObj.le,inH,idsT,idsH,AV.ids,AV.idsL,AV.idsR,AObj.ids,lk,hget,go_sem,Nat.le_refl,List.append_toArray,List.range_zero,List.append_eq,Int.toNat_natCast,aeq,aeq.aeqF,simprocAttr]
   simp [zcz,zbL,inH,bitsT,bitT]
  ·refine zc6 ?_;simp only [go_sem,Nat.le_refl,List.append_toArray,List.range_zero,List.append_eq,Int.toNat_natCast,aeq,aeq.aeqF,simprocAttr];refine hK2 _ ?_
   have hk8:k=8:=by simp at hc;omega
   subst hk8
   refine zag noTab (zb _) ?_;simp only [go_sem,Nat.le_refl,List.append_toArray,List.range_zero,List.append_eq,Int.toNat_natCast,aeq,aeq.aeqF,simprocAttr]
   refine ⟨⟨by omega,by omega⟩,by simp [zkH];omega,?_⟩
   have hset:(AV.d x::AV.d y::AV.d z::(tblF i).map AV.d).set (3+i*1) (.d (.int .u32 (bitsT 8 (IntKind.u32.wrap i))))=AV.d x::AV.d y::AV.d z::(tblF (i+1)).map AV.d:=by
    rw [show 3+i*1=i+1+1+1 by omega,List.set_cons_succ,List.set_cons_succ,List.set_cons_succ,← List.map_set]
    have:=zoM i hil
    unfold tabF at this
    rw [this]
   rw [hset]
   refine hK _ ?_
   refine zag noTab (zb _) ?_;simp only [go_sem,Nat.le_refl,List.append_toArray,List.range_zero,List.append_eq,Int.toNat_natCast,aeq,aeq.aeqF,simprocAttr]
   have hw:IntKind.i64.wrap ((i:Int)+1)=((i+1:Nat):Int):=by rw [IntKind.wrap_i64];omega
   refine ⟨⟨i+1,by omega⟩,?_,by simp;omega⟩
   rw [hw]
   simp only [AS.le,leT,leH,zi,AsgK,AV.le,AV.leL,AObj.le,inH,idsT,idsH,AV.ids,AV.idsL,AV.idsR,AObj.ids,lk,hget,go_sem,Nat.le_refl,List.append_toArray,List.range_zero,List.append_eq,Int.toNat_natCast,aeq,aeq.aeqF,simprocAttr]
   simp [zcz,zbL,inH]
 ·refine zc6 ?_
  simp only [go_sem,Nat.le_refl,List.append_toArray,List.range_zero,List.append_eq,Int.toNat_natCast,aeq,aeq.aeqF,simprocAttr,Tryz.results201]
  have:i=256:=by simp at hc;omega
  subst this
  rfl
open Go Go.Proofs
def byteS (c:Int) (b:UInt8):Int:=ibits .xor .u32 (tabF (ibits .xor .u8 (IntKind.u8.wrap c) b.toNat).toNat) (ishr .u32 c 8)
def sumS (c:Int) (l:List UInt8):Int:=l.foldl byteS c
def notS (c:Int):Int:=ibits .xor .u32 (if IntKind.u32.signed then -1 else IntKind.u32.max) c
def onceC (d m z:D) (i:Nat):List AV:= .d d:: .d m:: .d z::(tblF i).map AV.d
theorem do_ok:ACallAt Tryz.prog 1 200 [.vp 0 0,.fn (.func 201) [.vp 0 0] []] [(0,.var (onceC (.int .u32 0) (.int .i32 0) (.int .u32 0) 0))] (fun r h'=>r= .tup []∧h'= [(0,.var (onceC (.int .u32 1) (.int .i32 0) (.int .u32 0) 256))]):=by
 refine zqx (cs:=onceC (.int .u32 0) (.int .i32 0) (.int .u32 0) 0) (cs2:=onceC (.int .u32 0) (.int .i32 1) (.int .u32 0) 256) rfl rfl rfl rfl rfl ?_
 refine (zlz _ _ _).whole (fun i hi=>?_) (Nat.le_refl _) ?_
 ·by_cases h:i=0
  ·omega
  ·simp [hget,Ne.symm h] at hi
 ·rintro r h' ⟨rfl,rfl⟩ i hi
  by_cases h:i=0
  ·subst h;rfl
  ·simp [hget,Ne.symm h] at hi
theorem zqy (n:Int) (h0:0≤n) (h1:n<256) (d m z:D):(onceC d m z 256).getD (3+n.toNat*1) .any= .d (.int .u32 (tabF n.toNat)):=by
 have:n.toNat<256:=by omega
 unfold onceC
 rw [show 3+n.toNat*1=n.toNat+1+1+1 by omega]
 simp only [List.getD_cons_succ]
 rw [List.getD_eq_getElem?_getD,List.getElem?_map]
 unfold tblF
 rw [List.getElem?_map,List.getElem?_range this]
 simp [this]
theorem zqz (x y:Int):0≤ibits .xor .u8 x y∧ibits .xor .u8 x y<256:=by
 unfold ibits
 rw [IntKind.wrap_u8]
 omega
abbrev Mst (c:Int) (l:List UInt8):= { i:Nat // i≤l.length }
theorem zqA (c:Int) (l:List UInt8) (hl:l.length≤9223372036854775807):ACall Tryz.prog 187 1 [.vp 0 0,.d (.int .u32 c),.d (.str l)] [(0,.var (onceC (.int .u32 0) (.int .i32 0) (.int .u32 0) 0))] (fun r h'=>r= .d (.int .u32 (sumS c l))∧(hget h' 0).isSome):=by
 refine zao Tryz.func187 rfl (zca Tryz.func187 (by kernel_rfl) rfl) Tryz.ntmps187 (by simp) (fun base=>?_)
 refine ze noTab (zb _) (fun K hK=>?_);simp only [go_sem,Nat.le_refl,List.append_toArray,List.range_zero,List.append_eq,Int.toNat_natCast,aeq,aeq.aeqF,simprocAttr]
 refine hK _ ?_;clear hK K
 refine ze noTab (zb _) (fun K hK=>?_);simp only [go_sem,Nat.le_refl,List.append_toArray,List.range_zero,List.append_eq,Int.toNat_natCast,aeq,aeq.aeqF,simprocAttr]
 refine do_ok.mono ?_
 rintro r h' ⟨rfl,rfl⟩
 refine hK _ ?_;clear hK K
 refine zay (fun K2 hK2=>?_)
 refine ze noTab (zb _) (fun K hK=>?_);simp only [go_sem,Nat.le_refl,List.append_toArray,List.range_zero,List.append_eq,Int.toNat_natCast,aeq,aeq.aeqF,simprocAttr]
 refine ⟨by simp [zg],hK _ ?_⟩
 clear hK
 refine zaB ?_
 refine zy (fun i:Mst c l=>⟨[(0,true,.vp 0 0),(1,true,.d (.int .u32 (sumS c (l.take i.1)))),(16,true,.osl 1 1 l.length 0 l.length),(17,true,.d (.int .i64 l.length)),(18,true,.d (.int .i64 i.1))],[(1,.arr 1 (zg l)),(0,.var (onceC (.int .u32 1) (.int .i32 0) (.int .u32 0) 256))],some []⟩) (fun i=>l.length - i.1) ⟨0,Nat.zero_le _⟩ (by simp only [AS.le,leT,leH,zi,AsgK,AV.le,AV.leL,AObj.le,inH,idsT,idsH,AV.ids,AV.idsL,AV.idsR,AObj.ids,lk,hget,go_sem,Nat.le_refl,List.append_toArray,List.range_zero,List.append_eq,Int.toNat_natCast,aeq,aeq.aeqF,simprocAttr]<;>simp [onceC,zcz,zbL,inH,sumS,AV.leL,AV.le,AV.idsL,AV.ids]) (fun i=>?_)
 obtain ⟨i,hi⟩:=i
 refine ze noTab (zb _) (fun K hK=>?_);simp only [go_sem,Nat.le_refl,List.append_toArray,List.range_zero,List.append_eq,Int.toNat_natCast,aeq,aeq.aeqF,simprocAttr]
 refine hK _ ?_;clear hK K
 refine zay (fun K3 hK3=>?_)
 refine zbf rfl (fun hc=>?_) (fun hc=>?_)
 ·refine zc2 ?_;simp only [go_sem,Nat.le_refl,List.append_toArray,List.range_zero,List.append_eq,Int.toNat_natCast,aeq,aeq.aeqF,simprocAttr];refine hK3 _ ?_;clear hK3 K3
  have hil:i<l.length:=by simp at hc;omega
  obtain ⟨b,hb⟩:∃b,l[i]?=some b:=⟨l[i],by simp [hil]⟩
  have hrow:(zg l).getD i []= [.int .u8 b.toNat]:=by simp [zg,List.getD_eq_getElem?_getD,hb,zdy]
  have hrl:(zg l).length=l.length:=by simp [zg]
  refine zay (fun K4 hK4=>?_)
  refine zaB ?_
  refine ze noTab (zb _) (fun K hK=>?_);simp only [go_sem,Nat.le_refl,List.append_toArray,List.range_zero,List.append_eq,Int.toNat_natCast,aeq,aeq.aeqF,simprocAttr,hrow,hrl,Nat.zero_add]
  refine ⟨⟨by omega,by omega⟩,hil,hK _ ?_⟩
  clear hK
  obtain ⟨hb0,hb1⟩:=zqz (IntKind.u8.wrap (sumS c (l.take i))) b.toNat
  have htb:=zqy (ibits .xor .u8 (IntKind.u8.wrap (sumS c (l.take i))) b.toNat) hb0 hb1 (.int .u32 1) (.int .i32 0) (.int .u32 0)
  have hoc:(onceC (.int .u32 1) (.int .i32 0) (.int .u32 0) 256).length=259:=by simp [onceC,zkH]
  refine zag noTab (zb _) ?_;simp only [go_sem,Nat.le_refl,List.append_toArray,List.range_zero,List.append_eq,Int.toNat_natCast,aeq,aeq.aeqF,simprocAttr,htb,hoc]
  refine ⟨⟨hb0,hb1⟩,by omega,hK4 _ ?_⟩
  clear hK4
  refine zag noTab (zb _) ?_;simp only [go_sem,Nat.le_refl,List.append_toArray,List.range_zero,List.append_eq,Int.toNat_natCast,aeq,aeq.aeqF,simprocAttr]
  have hw:IntKind.i64.wrap ((i:Int)+1)=((i+1:Nat):Int):=by rw [IntKind.wrap_i64];omega
  have hs:ibits .xor .u32 (tabF (ibits .xor .u8 (IntKind.u8.wrap (sumS c (l.take i))) b.toNat).toNat) (ishr .u32 (sumS c (l.take i)) 8)=sumS c (l.take (i+1)):=by
   rw [List.take_add_one,hb]
   simp [sumS,byteS]
  refine ⟨⟨i+1,by omega⟩,?_,by simp;omega⟩
  rw [hw,hs]
  simp only [AS.le,leT,leH,zi,AsgK,AV.le,AV.leL,AObj.le,inH,idsT,idsH,AV.ids,AV.idsL,AV.idsR,AObj.ids,lk,hget,go_sem,Nat.le_refl,List.append_toArray,List.range_zero,List.append_eq,Int.toNat_natCast,aeq,aeq.aeqF,simprocAttr]
  simp [onceC,zcz,zbL,inH,AV.leL,AV.le,AV.idsL,AV.ids]
 ·refine zc6 ?_;simp only [go_sem,Nat.le_refl,List.append_toArray,List.range_zero,List.append_eq,Int.toNat_natCast,aeq,aeq.aeqF,simprocAttr];refine hK2 _ ?_
  have hil:i=l.length:=by simp at hc;omega
  subst hil
  refine ze noTab (zb _) (fun K hK=>?_);simp only [go_sem,Nat.le_refl,List.append_toArray,List.range_zero,List.append_eq,Int.toNat_natCast,aeq,aeq.aeqF,simprocAttr]
  refine hK _ ?_;clear hK K
  refine zd7 ?_;simp only [go_sem,Nat.le_refl,List.append_toArray,List.range_zero,List.append_eq,Int.toNat_natCast,aeq,aeq.aeqF,simprocAttr,Tryz.results187]
theorem zg7 (c:Int) (l:List UInt8) (hl:l.length≤9223372036854775807):ACall Tryz.prog 147 0 [.d (.int .u32 c),.d (.str l)] [] (fun r _=>r= .d (.int .u32 (notS (sumS (notS c) l)))):=by
 refine zao Tryz.func147 rfl (zca Tryz.func147 (by kernel_rfl) rfl) Tryz.ntmps147 (by simp) (fun base=>?_)
 refine ze noTab (zb _) (fun K hK=>?_);simp only [go_sem,Nat.le_refl,List.append_toArray,List.range_zero,List.append_eq,Int.toNat_natCast,aeq,aeq.aeqF,simprocAttr]
 refine hK _ ?_;clear hK K
 refine ze noTab (zb _) (fun K hK=>?_);simp only [go_sem,Nat.le_refl,List.append_toArray,List.range_zero,List.append_eq,Int.toNat_natCast,aeq,aeq.aeqF,simprocAttr]
 refine hK _ ?_;clear hK K
 refine ze noTab (zb _) (fun K hK=>?_);simp only [go_sem,Nat.le_refl,List.append_toArray,List.range_zero,List.append_eq,Int.toNat_natCast,aeq,aeq.aeqF,simprocAttr]
 refine ACallAt.mono (h:= [(0,.var (onceC (.int .u32 0) (.int .i32 0) (.int .u32 0) 0))]) (K:=fun r h'=>r= .d (.int .u32 (sumS (notS c) l))∧(hget h' 0).isSome) ((zqA (notS c) l hl).whole (fun i hi=>?_) (Nat.zero_le _) ?_) ?_
 ·by_cases h:i=0
  ·omega
  ·simp [hget,Ne.symm h] at hi
 ·rintro r h' ⟨rfl,hk⟩ i hi
  by_cases h:i=0
  ·subst h;exact hk
  ·simp [hget,Ne.symm h] at hi
 rintro r h' ⟨rfl,hk⟩
 simp only [go_sem,Nat.le_refl,List.append_toArray,List.range_zero,List.append_eq,Int.toNat_natCast,aeq,aeq.aeqF,simprocAttr]
 refine hK _ ?_;clear hK K
 refine zd7 ?_;simp only [go_sem,Nat.le_refl,List.append_toArray,List.range_zero,List.append_eq,Int.toNat_natCast,aeq,aeq.aeqF,simprocAttr,Tryz.results147]
 rfl
def sumOf (c:Int) (l:List UInt8):Int:=notS (sumS (notS c) l)
def tabM:Tab:=fun f args=>
 if f=147 then (match args with
  | [.d (.int .u32 c),.d (.str l)]=>some (l.length≤9223372036854775807,.d (.int .u32 (sumOf c l)))
  |_=>none)
 else none
@[go_sem] theorem tabM30 (c:Int) (l:List UInt8):tabM 147 [.d (.int .u32 c),.d (.str l)]=some (l.length≤9223372036854775807,.d (.int .u32 (sumOf c l))):=rfl
theorem zqB:TabOk Tryz.prog tabM:=⟨fun f args pre r h hp=>by
 unfold tabM at h
 split at h
 ·rename_i hf;subst hf
  split at h
  ·cases h;exact ⟨rfl,zg7 _ _ hp⟩
  ·cases h
 ·cases h⟩
theorem zoO (l:List UInt8) (hl:l.length≤9223372036854775807):ACall Tryz.prog 130 0 [.d (.str l)] [] (fun r _=>r= .d (.int .u32 (sumOf 0 l))):=by
 refine zao Tryz.func130 rfl (zca Tryz.func130 (by kernel_rfl) rfl) Tryz.ntmps130 (by simp) (fun base=>?_)
 refine ze noTab (zb _) (fun K hK=>?_);simp only [go_sem,Nat.le_refl,List.append_toArray,List.range_zero,List.append_eq,Int.toNat_natCast,aeq,aeq.aeqF,simprocAttr]
 refine hK _ ?_;clear hK K
 refine ze tabM zqB (fun K hK=>?_);simp only [go_sem,Nat.le_refl,List.append_toArray,List.range_zero,List.append_eq,Int.toNat_natCast,aeq,aeq.aeqF,simprocAttr]
 refine ⟨hl,hK _ ?_⟩
 clear hK K
 refine zd7 ?_;simp only [go_sem,Nat.le_refl,List.append_toArray,List.range_zero,List.append_eq,Int.toNat_natCast,aeq,aeq.aeqF,simprocAttr,Tryz.results130]
def zbG (c:Int) (j:Nat):Int:=IntKind.u8.wrap (ishr .u32 c (IntKind.i64.wrap (24 - IntKind.i64.wrap (8*(j:Int)))))
def bcell (c:Int) (i j:Nat):AV:= .d (.int .u8 (if j<i then zbG c j else 0))
def zga (c:Int) (i:Nat):List AV:= [bcell c i 0,bcell c i 1,bcell c i 2,bcell c i 3]
def zeB (c:Int):List UInt8:= [UInt8.ofNat (zbG c 0).toNat,UInt8.ofNat (zbG c 1).toNat,UInt8.ofNat (zbG c 2).toNat,UInt8.ofNat (zbG c 3).toNat]
theorem zjB (c:Int):ACall Tryz.prog 129 0 [.d (.int .u32 c)] [] (fun r _=>r= .d (.str (zeB c))):=by
 refine zao Tryz.func129 rfl (zca Tryz.func129 (by kernel_rfl) rfl) Tryz.ntmps129 (by simp) (fun base=>?_)
 refine ze noTab (zb _) (fun K hK=>?_);simp only [go_sem,Nat.le_refl,List.append_toArray,List.range_zero,List.append_eq,Int.toNat_natCast,aeq,aeq.aeqF,simprocAttr]
 refine hK _ ?_;clear hK K
 refine ze noTab (zb _) (fun K hK=>?_);simp only [go_sem,Nat.le_refl,List.append_toArray,List.range_zero,List.append_eq,Int.toNat_natCast,aeq,aeq.aeqF,simprocAttr]
 refine hK _ ?_;clear hK K
 refine zay (fun K2 hK2=>?_)
 refine ze noTab (zb _) (fun K hK=>?_);simp only [go_sem,Nat.le_refl,List.append_toArray,List.range_zero,List.append_eq,Int.toNat_natCast,aeq,aeq.aeqF,simprocAttr]
 refine hK _ ?_;clear hK K
 refine zaB ?_
 refine zy (fun i: {i:Nat // i≤4} =>⟨[(0,true,.d (.int .u32 c)),(3,true,.vp 0 0),(5,true,.d (.int .i64 i.1))],[(0,.var (zga c i.1))],some []⟩) (fun i=>4 - i.1) ⟨0,by omega⟩ (by simp only [AS.le,leT,leH,zi,AsgK,AV.le,AV.leL,AObj.le,inH,idsT,idsH,AV.ids,AV.idsL,AV.idsR,AObj.ids,lk,hget,go_sem,Nat.le_refl,List.append_toArray,List.range_zero,List.append_eq,Int.toNat_natCast,aeq,aeq.aeqF,simprocAttr]<;>simp [zga,bcell,AV.leL,AV.le,AV.idsL,AV.ids,inH]) (fun i=>?_)
 obtain ⟨i,hi⟩:=i
 refine ze noTab (zb _) (fun K hK=>?_);simp only [go_sem,Nat.le_refl,List.append_toArray,List.range_zero,List.append_eq,Int.toNat_natCast,aeq,aeq.aeqF,simprocAttr]
 refine hK _ ?_;clear hK K
 refine zay (fun K3 hK3=>?_)
 refine zbf rfl (fun hc=>?_) (fun hc=>?_)
 ·refine zc2 ?_;simp only [go_sem,Nat.le_refl,List.append_toArray,List.range_zero,List.append_eq,Int.toNat_natCast,aeq,aeq.aeqF,simprocAttr];refine hK3 _ ?_;clear hK3 K3
  have hil:i<4:=by simp at hc;omega
  refine zay (fun K4 hK4=>?_)
  refine zaB ?_
  refine ze noTab (zb _) (fun K hK=>?_);simp only [go_sem,Nat.le_refl,List.append_toArray,List.range_zero,List.append_eq,Int.toNat_natCast,aeq,aeq.aeqF,simprocAttr]
  refine hK _ ?_;clear hK K
  refine zag noTab (zb _) ?_;simp only [go_sem,Nat.le_refl,List.append_toArray,List.range_zero,List.append_eq,Int.toNat_natCast,aeq,aeq.aeqF,simprocAttr]
  have hset:(zga c i).set (i*1) (.d (.int .u8 (zbG c i)))=zga c (i+1):=by
   have:i=0∨i=1∨i=2∨i=3:=by omega
   rcases this with rfl|rfl|rfl|rfl<;>rfl
  unfold zbG at hset
  rw [hset]
  refine ⟨by simp only [IntKind.wrap_i64];omega,⟨by omega,by omega⟩,by simp [zga];omega,hK4 _ ?_⟩
  refine zag noTab (zb _) ?_;simp only [go_sem,Nat.le_refl,List.append_toArray,List.range_zero,List.append_eq,Int.toNat_natCast,aeq,aeq.aeqF,simprocAttr]
  have hw:IntKind.i64.wrap ((i:Int)+1)=((i+1:Nat):Int):=by rw [IntKind.wrap_i64];omega
  refine ⟨⟨i+1,by omega⟩,?_,by simp;omega⟩
  rw [hw]
  simp only [AS.le,leT,leH,zi,AsgK,AV.le,AV.leL,AObj.le,inH,idsT,idsH,AV.ids,AV.idsL,AV.idsR,AObj.ids,lk,hget,go_sem,Nat.le_refl,List.append_toArray,List.range_zero,List.append_eq,Int.toNat_natCast,aeq,aeq.aeqF,simprocAttr]
  simp [zga,bcell,AV.leL,AV.le,AV.idsL,AV.ids,inH]
 ·refine zc6 ?_;simp only [go_sem,Nat.le_refl,List.append_toArray,List.range_zero,List.append_eq,Int.toNat_natCast,aeq,aeq.aeqF,simprocAttr];refine hK2 _ ?_
  have hil:i=4:=by simp at hc;omega
  subst hil
  have hb4:zga c 4= [.d (.int .u8 (zbG c 0)),.d (.int .u8 (zbG c 1)),.d (.int .u8 (zbG c 2)),.d (.int .u8 (zbG c 3))]:=rfl
  rw [hb4]
  refine ze noTab (zb _) (fun K hK=>?_);simp only [go_sem,Nat.le_refl,List.append_toArray,List.range_zero,List.append_eq,Int.toNat_natCast,aeq,aeq.aeqF,simprocAttr]
  refine ⟨rfl,hK _ ?_⟩
  clear hK
  refine zd7 ?_;simp only [go_sem,Nat.le_refl,List.append_toArray,List.range_zero,List.append_eq,Int.toNat_natCast,aeq,aeq.aeqF,simprocAttr,Tryz.results129]
  rfl
open Go Go.Proofs
@[go_sem] noncomputable def zdF:Ent Tryz.prog 147:= .ofL (consL (intT .u32) (consL strT nilL)) (fun (c,l,_)=>l.length≤9223372036854775807) (fun (c,l,_)=> .d (.int .u32 (notS (sumS (notS c) l)))) (fun (c,l,_) hp=>⟨rfl,zg7 c l hp⟩)
@[go_sem] noncomputable def zck:Ent Tryz.prog 130:= .ofL (consL strT nilL) (fun (l,_)=>l.length≤9223372036854775807) (fun (l,_)=> .d (.int .u32 (sumOf 0 l))) (fun (l,_) hp=>⟨rfl,zoO l hp⟩)
@[go_sem] noncomputable def za8:Ent Tryz.prog 129:= .ofL (consL (intT .u32) nilL) (fun (c,_)=>True) (fun (c,_)=> .d (.str (zeB c))) (fun (c,_) hp=>⟨rfl,zjB c⟩)
open Go Go.Proofs
theorem zoQ (n k:Nat) (hk:k≤32):ishr .u32 (n:Int) (k:Int)=((n / 2 ^ k:Nat):Int):=by
 unfold ishr
 rw [show min ((k:Int).toNat) IntKind.u32.bits=k by show min ((k:Int).toNat) 32=k;omega]
 rw [Int.fdiv_eq_ediv_of_nonneg _ (Int.le_of_lt (Int.pow_pos (by decide)))]
 norm_cast
abbrev B32:=BitVec 32
def polyB:B32:=2197175160#32
def bT (x:B32):B32:=(x>>>1) ^^^ (if x.getLsbD 0 then polyB else 0#32)
def bN:Nat→B32→B32
 |0,x=>x
 |n+1,x=>bT (bN n x)
def u8B (b:UInt8):B32:=BitVec.ofNat 32 b.toNat
def stepB (c:B32) (b:UInt8):B32:=bN 8 (c ^^^ u8B b)
def sumB (c:B32) (l:List UInt8):B32:=l.foldl stepB c
theorem xor4 (a b c d:B32):(a ^^^ b) ^^^ (c ^^^ d)=(a ^^^ c) ^^^ (b ^^^ d):=by ac_rfl
theorem zrB (x y:B32):bT (x ^^^ y)=bT x ^^^ bT y:=by
 unfold bT
 rw [BitVec.ushiftRight_xor_distrib,xor4 (x>>>1)]
 congr 1
 rw [BitVec.getLsbD_xor]
 cases x.getLsbD 0<;>cases y.getLsbD 0<;>simp
theorem zg8 (n:Nat) (x y:B32):bN n (x ^^^ y)=bN n x ^^^ bN n y:=by
 induction n with
 |zero=>rfl
 |succ n ih=>simp only [bN,ih,zrB]
theorem zrC (x:B32):(bT x).getLsbD 31=x.getLsbD 0:=by
 unfold bT
 rw [BitVec.getLsbD_xor]
 have h1:(x>>>1).getLsbD 31=false:=by simp
 rw [h1]
 cases x.getLsbD 0<;>simp<;>decide
theorem zqC (x:B32) (h:bT x=0#32):x=0#32:=by
 have h0:x.getLsbD 0=false:=by rw [← zrC,h];simp
 unfold bT at h
 rw [h0] at h
 simp only [Bool.false_eq_true,if_false,BitVec.xor_zero] at h
 apply BitVec.eq_of_getLsbD_eq
 intro i hi
 cases i with
 |zero=>simpa using h0
 |succ i=>
  have:=congrArg (fun y:B32=>y.getLsbD i) h
  simpa [Nat.add_comm] using this
theorem znf (n:Nat) (x:B32) (h:bN n x=0#32):x=0#32:=by
 induction n with
 |zero=>exact h
 |succ n ih=>exact ih (zqC _ h)
theorem ziR (m n:Nat) (x:B32):bN (m+n) x=bN m (bN n x):=by
 induction m with
 |zero=>rw [Nat.zero_add];rfl
 |succ m ih=>rw [Nat.succ_add];simp only [bN,ih]
theorem zkJ (n:Nat):∀ (x:B32),(∀i,i<n→x.getLsbD i=false)→bN n x=x>>>n:=by
 induction n with
 |zero=>intro x _;simp [bN]
 |succ n ih=>
  intro x h
  simp only [bN]
  rw [ih x (fun i hi=>h i (by omega))]
  unfold bT
  have:(x>>>n).getLsbD 0=false:=by simpa using h n (by omega)
  rw [this]
  simp only [Bool.false_eq_true,if_false,BitVec.xor_zero]
  rw [← BitVec.shiftRight_add]
def low8 (x:B32):B32:=x&&& 255#32
def high8 (x:B32):B32:=x&&& 4294967040#32
theorem zoR (x:B32):x=low8 x ^^^ high8 x:=by
 have e:(4294967040#32)= ~~~(255#32):=by decide
 unfold low8 high8
 rw [e]
 apply BitVec.eq_of_getLsbD_eq
 intro i hi
 simp only [BitVec.getLsbD_xor,BitVec.getLsbD_and,BitVec.getLsbD_not,hi,decide_true,Bool.true_and]
 cases x.getLsbD i<;>cases (255#32).getLsbD i<;>rfl
theorem zng (x:B32) (i:Nat) (hi:i<8):(high8 x).getLsbD i=false:=by
 unfold high8
 rw [BitVec.getLsbD_and]
 have:∀i,i<8→(4294967040#32).getLsbD i=false:=by decide
 rw [this i hi,Bool.and_false]
theorem zjD (x:B32):high8 x>>>8=x>>>8:=by
 unfold high8
 apply BitVec.eq_of_getLsbD_eq
 intro i hi
 simp only [BitVec.getLsbD_ushiftRight,BitVec.getLsbD_and]
 by_cases h:8+i<32
 ·have:∀i,i<24→(4294967040#32).getLsbD (8+i)=true:=by decide
  rw [this i (by omega),Bool.and_true]
 ·rw [BitVec.getLsbD_of_ge x _ (by omega),Bool.false_and]
theorem znh (x:B32):bN 8 x=bN 8 (low8 x) ^^^ (x>>>8):=by
 conv=>lhs;rw [zoR x]
 rw [zg8,zkJ 8 (high8 x) (zng x),zjD]
theorem zoS (b:UInt8):u8B b>>>8=0#32:=by
 have:=b.toNat_lt
 apply BitVec.eq_of_toNat_eq
 simp [u8B,Nat.shiftRight_eq_div_pow]
 omega
theorem zqD (b:UInt8):low8 (u8B b)=u8B b:=by
 have:=b.toNat_lt
 apply BitVec.eq_of_toNat_eq
 simp only [low8,u8B,BitVec.toNat_and,BitVec.toNat_ofNat]
 rw [show 255 % 2 ^ 32=2 ^ 8 - 1 by decide,Nat.and_two_pow_sub_one_eq_mod]
 omega
theorem zni (c:B32) (b:UInt8):stepB c b=bN 8 (low8 c ^^^ u8B b) ^^^ (c>>>8):=by
 unfold stepB
 rw [znh]
 have h1:low8 (c ^^^ u8B b)=low8 c ^^^ u8B b:=by
  conv=>rhs;rw [← zqD b]
  unfold low8
  apply BitVec.eq_of_getLsbD_eq
  intro i hi
  simp only [BitVec.getLsbD_xor,BitVec.getLsbD_and]
  cases c.getLsbD i<;>cases (u8B b).getLsbD i<;>cases (255#32).getLsbD i<;>rfl
 rw [h1,BitVec.ushiftRight_xor_distrib,zoS,BitVec.xor_zero]
theorem zqE (a b:UInt8):u8B (a ^^^ b)=u8B a ^^^ u8B b:=by
 apply BitVec.eq_of_toNat_eq
 have:=a.toNat_lt
 have:=b.toNat_lt
 have h:=Nat.xor_lt_two_pow (n:=32) (x:=a.toNat) (y:=b.toNat) (by omega) (by omega)
 simp only [u8B,BitVec.toNat_xor,BitVec.toNat_ofNat,UInt8.toNat_xor]
 rw [Nat.mod_eq_of_lt (by omega),Nat.mod_eq_of_lt (by omega),Nat.mod_eq_of_lt (by omega)]
def xorL (a b:List UInt8):List UInt8:=List.zipWith (· ^^^ ·) a b
theorem znj (c d:B32) (a b:UInt8):stepB (c ^^^ d) (a ^^^ b)=stepB c a ^^^ stepB d b:=by
 unfold stepB
 rw [zqE,xor4,zg8]
theorem zhL:∀ (a b:List UInt8) (c d:B32),a.length=b.length→sumB (c ^^^ d) (xorL a b)=sumB c a ^^^ sumB d b
 | [],[],c,d,_=>rfl
 |x::a,y::b,c,d,h=>by
  simp only [xorL,List.zipWith_cons_cons,sumB,List.foldl_cons]
  rw [znj]
  exact zhL a b _ _ (by simpa using h)
 | [],_::_,_,_,h=>by simp at h
 |_::_,[],_,_,h=>by simp at h
theorem zcA (c:B32) (a b:List UInt8):sumB c (a++b)=sumB (sumB c a) b:=by simp [sumB,List.foldl_append]
theorem zlC (n:Nat) (c:B32):sumB c (List.replicate n 0)=bN (8*n) c:=by
 induction n generalizing c with
 |zero=>rfl
 |succ n ih=>
  rw [List.replicate_succ]
  simp only [sumB,List.foldl_cons]
  have:stepB c 0=bN 8 c:=by simp [stepB,u8B]
  rw [this]
  have:=ih (bN 8 c)
  unfold sumB at this
  rw [this,← ziR,Nat.mul_succ]
theorem sum4 (p q r s:UInt8):sumB 0#32 [p,q,r,s]=bN 32 (u8B p ^^^ (u8B q<<<8) ^^^ (u8B r<<<16) ^^^ (u8B s<<<24)):=by
 have sh:∀ (b:UInt8) (k:Nat),k≤24→bN k (u8B b<<<k)=u8B b:=fun b k hk=>by
  rw [zkJ k _ (fun i hi=>by rw [BitVec.getLsbD_shiftLeft];simp [hi])]
  have:=b.toNat_lt
  apply BitVec.eq_of_toNat_eq
  simp only [u8B,BitVec.toNat_ushiftRight,BitVec.toNat_shiftLeft,BitVec.toNat_ofNat]
  rw [Nat.mod_eq_of_lt (show b.toNat<2 ^ 32 by omega),Nat.shiftLeft_eq,Nat.shiftRight_eq_div_pow]
  have h2:b.toNat*2 ^ k<2 ^ 32:=by
   have:(2:Nat) ^ k≤2 ^ 24:=Nat.pow_le_pow_right (by omega) hk
   calc b.toNat*2 ^ k≤b.toNat*2 ^ 24:=Nat.mul_le_mul_left _ this
    _<2 ^ 32:=by omega
  rw [Nat.mod_eq_of_lt h2,Nat.mul_div_cancel _ (Nat.pow_pos (by omega))]
 simp only [sumB,List.foldl_cons,List.foldl_nil,stepB,BitVec.zero_xor]
 rw [zg8 32,zg8 32,zg8 32]
 rw [show bN 32 (u8B s<<<24)=bN 8 (u8B s) from (ziR 8 24 _).trans (congrArg (bN 8) (sh s 24 (by omega)))]
 rw [show bN 32 (u8B r<<<16)=bN 16 (u8B r) from (ziR 16 16 _).trans (congrArg (bN 16) (sh r 16 (by omega)))]
 rw [show bN 32 (u8B q<<<8)=bN 24 (u8B q) from (ziR 24 8 _).trans (congrArg (bN 24) (sh q 8 (by omega)))]
 simp only [zg8,← ziR]
theorem unlike (c:B32) (a m n z:List UInt8) (p q r s:UInt8) (hm:m=xorL n [p,q,r,s]) (hn:n.length=4) (h0:u8B p ^^^ (u8B q<<<8) ^^^ (u8B r<<<16) ^^^ (u8B s<<<24)≠0#32):sumB c (a++n++z)≠sumB c (a++m++z):=by
 intro h
 rw [zcA,zcA,zcA,zcA] at h
 subst hm
 have e1:sumB (sumB c a) (xorL n [p,q,r,s])=sumB (sumB c a) n ^^^ sumB 0#32 [p,q,r,s]:=by
  have:=zhL n [p,q,r,s] (sumB c a) 0#32 (by simpa using hn)
  rwa [BitVec.xor_zero] at this
 rw [e1] at h
 have zz:∀z:List UInt8,xorL z (List.replicate z.length 0)=z:=by
  intro z
  induction z with
  |nil=>rfl
  |cons x z ih=>
   rw [List.length_cons,List.replicate_succ]
   simp only [xorL,List.zipWith_cons_cons]
   unfold xorL at ih
   rw [ih];simp
 have e2:=zhL z (List.replicate z.length 0) (sumB (sumB c a) n) (sumB 0#32 [p,q,r,s]) (by simp)
 rw [zz,zlC] at e2
 rw [e2] at h
 have h3:bN (8*z.length) (sumB 0#32 [p,q,r,s])=0#32:=by
  have:=congrArg (fun x=>sumB (sumB (sumB c a) n) z ^^^ x) h
  simp only [BitVec.xor_self,← BitVec.xor_assoc,BitVec.zero_xor] at this
  exact this.symm
 have h4:=znf _ _ h3
 rw [sum4] at h4
 exact h0 (znf _ _ h4)
def toI (x:B32):Int:=x.toNat
theorem ziS (n:Nat) (h:n<4294967296):toI (BitVec.ofNat 32 n)=n:=by
 unfold toI
 rw [BitVec.toNat_ofNat,Nat.mod_eq_of_lt h]
theorem ofI (c:Int) (h0:0≤c) (h1:c≤4294967295):∃x:B32,c=toI x:=
 ⟨BitVec.ofNat 32 c.toNat,by rw [ziS _ (by omega)];omega⟩
theorem zkK (x:B32):BitVec.ofInt 32 (toI x)=x:=by
 unfold toI
 rw [BitVec.ofInt_natCast]
 simp
theorem zcY (x y:B32):ibits .xor .u32 (toI x) (toI y)=toI (x ^^^ y):=by
 show IntKind.u32.wrap ((BitVec.ofInt 32 (toI x) ^^^ BitVec.ofInt 32 (toI y)).toNat:Int)=_
 rw [zkK,zkK]
 have:=(x ^^^ y).isLt
 unfold toI
 rw [IntKind.wrap_u32]
 omega
theorem znk (x y:B32):ibits .and .u32 (toI x) (toI y)=toI (x&&& y):=by
 show IntKind.u32.wrap ((BitVec.ofInt 32 (toI x)&&& BitVec.ofInt 32 (toI y)).toNat:Int)=_
 rw [zkK,zkK]
 have:=(x&&& y).isLt
 unfold toI
 rw [IntKind.wrap_u32]
 omega
theorem zfz (x:B32) (k:Nat) (hk:k≤32):ishr .u32 (toI x) (k:Int)=toI (x>>>k):=by
 unfold toI
 rw [zoQ _ _ hk,BitVec.toNat_ushiftRight,Nat.shiftRight_eq_div_pow]
theorem zoT (x:B32):bitT (toI x)=toI (bT x):=by
 unfold bitT bT
 have h1:(1:Int)=toI 1#32:=by decide
 have hs:ishr .u32 (toI x) 1=toI (x>>>1):=zfz x 1 (by omega)
 rw [hs]
 have ha:ibits .and .u32 (toI x) 1=toI (x&&& 1#32):=by rw [h1,znk]
 rw [ha]
 have hb:x&&& 1#32=if x.getLsbD 0 then 1#32 else 0#32:=by
  apply BitVec.eq_of_getLsbD_eq
  intro i hi
  rw [BitVec.getLsbD_and]
  cases i with
  |zero=>cases x.getLsbD 0<;>rfl
  |succ i=>
   have:(1#32).getLsbD (i+1)=false:=by simp [BitVec.getLsbD_one]
   rw [this,Bool.and_false]
   split<;>simp
 rw [hb]
 cases x.getLsbD 0
 ·simp only [Bool.false_eq_true,if_false]
  rw [show IntKind.u32.wrap (toI 0#32*2197175160)=toI 0#32 by decide,zcY]
 ·simp only [if_true]
  rw [show IntKind.u32.wrap (toI 1#32*2197175160)=toI polyB by decide,zcY]
theorem znl (n:Nat) (x:B32):bitsT n (toI x)=toI (bN n x):=by
 induction n with
 |zero=>rfl
 |succ n ih=>simp only [bitsT,bN,ih,zoT]
theorem zoU (x:B32) (h:x.toNat<4294967296):tabF x.toNat=toI (bN 8 x):=by
 unfold tabF
 have:IntKind.u32.wrap (x.toNat:Int)=toI x:=by
  unfold toI
  rw [IntKind.wrap_u32];omega
 rw [this,znl]
theorem zlD (x:B32) (b:UInt8):(ibits .xor .u8 (IntKind.u8.wrap (toI x)) b.toNat).toNat=(low8 x ^^^ u8B b).toNat:=by
 have hb:=b.toNat_lt
 have h1:IntKind.u8.wrap (toI x)=((x.toNat % 256:Nat):Int):=by
  unfold toI
  rw [IntKind.wrap_u8];omega
 rw [h1]
 have hx:x.toNat % 256<256:=Nat.mod_lt _ (by omega)
 have h2:=Nat.xor_lt_two_pow (n:=8) (x:=x.toNat % 256) (y:=b.toNat) (by omega) (by omega)
 have h3:(low8 x ^^^ u8B b).toNat=(x.toNat % 256) ^^^ b.toNat:=by
  simp only [low8,u8B,BitVec.toNat_xor,BitVec.toNat_and,BitVec.toNat_ofNat]
  rw [show 255 % 2 ^ 32=2 ^ 8 - 1 by decide,Nat.and_two_pow_sub_one_eq_mod,Nat.mod_eq_of_lt (show b.toNat<2 ^ 32 by omega)]
 rw [h3]
 show (IntKind.u8.wrap ((BitVec.ofInt 8 ((x.toNat % 256:Nat):Int) ^^^ BitVec.ofInt 8 ((b.toNat:Nat):Int)).toNat:Int)).toNat=_
 rw [BitVec.ofInt_natCast,BitVec.ofInt_natCast,BitVec.toNat_xor,BitVec.toNat_ofNat,BitVec.toNat_ofNat,Nat.mod_eq_of_lt (show x.toNat % 256<2 ^ 8 by omega),Nat.mod_eq_of_lt (show b.toNat<2 ^ 8 by omega),IntKind.wrap_u8]
 omega
theorem znm (x:B32) (b:UInt8):byteS (toI x) b=toI (stepB x b):=by
 unfold byteS
 rw [zlD,zoU _ (BitVec.isLt _),show ishr .u32 (toI x) 8=toI (x>>>8) from zfz x 8 (by omega),zcY,zni]
theorem zoV (x:B32) (l:List UInt8):sumS (toI x) l=toI (sumB x l):=by
 induction l generalizing x with
 |nil=>rfl
 |cons b l ih=>
  simp only [sumS,sumB,List.foldl_cons,znm] at*
  exact ih _
def onesB:B32:=4294967295#32
theorem zhM (x:B32):notS (toI x)=toI (onesB ^^^ x):=by
 unfold notS
 rw [show (if IntKind.u32.signed=true then (-1:Int) else IntKind.u32.max)=toI onesB from by decide,zcY]
theorem ziT (x:B32) (l:List UInt8):sumOf (toI x) l=toI (onesB ^^^ sumB (onesB ^^^ x) l):=by
 unfold sumOf
 rw [zhM,zoV,zhM]
open Go Go.Proofs
theorem zqF (b:UInt8):IntKind.u32.wrap (b.toNat:Int)=toI (u8B b):=by
 have:=b.toNat_lt
 unfold u8B
 rw [ziS _ (by omega),IntKind.wrap_u32]
 omega
theorem rem2 (x:B32):((toI x).tmod 2==1)=x.getLsbD 0:=by
 unfold toI
 have h0:(x.toNat:Int).tmod 2=((x.toNat % 2:Nat):Int):=by rw [Int.tmod_eq_emod_of_nonneg (by omega)];omega
 rw [h0]
 have h1:x.getLsbD 0=decide (x.toNat % 2=1):=by
  rw [BitVec.getLsbD,Nat.testBit_zero]
 rw [h1]
 rcases Nat.mod_two_eq_zero_or_one x.toNat with h|h<;>rw [h]<;>rfl
theorem znn (x:B32) (h:x.getLsbD 0=true):ibits .xor .u32 (ishr .u32 (toI x) 1) 2197175160=toI (bT x):=by
 rw [show ishr .u32 (toI x) 1=toI (x>>>1) from zfz x 1 (by omega),show (2197175160:Int)=toI polyB by decide,zcY]
 unfold bT
 rw [h];rfl
theorem zlE (x:B32) (h:x.getLsbD 0=false):ishr .u32 (toI x) 1=toI (bT x):=by
 rw [show ishr .u32 (toI x) 1=toI (x>>>1) from zfz x 1 (by omega)]
 unfold bT
 rw [h];simp
theorem zlF (x:B32) (l:List UInt8) (hl:l.length≤9223372036854775807):ACall Tryz.prog 106 0 [.d (.int .u32 (toI x)),.d (.str l)] [] (fun r _=>r= .d (.int .u32 (toI (onesB ^^^ sumB (onesB ^^^ x) l)))):=by
 have hnot:∀y:B32,ibits .xor .u32 (if IntKind.u32.signed=true then (-1:Int) else IntKind.u32.max) (toI y)=toI (onesB ^^^ y):=zhM
 refine zao Tryz.func106 rfl (zca Tryz.func106 (by kernel_rfl) rfl) Tryz.ntmps106 (by simp) (fun base=>?_)
 refine ze noTab (zb _) (fun K hK=>?_);simp only [go_sem,Nat.le_refl,List.append_toArray,List.range_zero,List.append_eq,Int.toNat_natCast,aeq,aeq.aeqF,simprocAttr]
 refine hK _ ?_;clear hK K
 refine ze noTab (zb _) (fun K hK=>?_);simp only [go_sem,Nat.le_refl,List.append_toArray,List.range_zero,List.append_eq,Int.toNat_natCast,aeq,aeq.aeqF,simprocAttr,hnot]
 refine hK _ ?_;clear hK K
 refine zay (fun K1 hK1=>?_)
 refine ze noTab (zb _) (fun K hK=>?_);simp only [go_sem,Nat.le_refl,List.append_toArray,List.range_zero,List.append_eq,Int.toNat_natCast,aeq,aeq.aeqF,simprocAttr]
 refine hK _ ?_;clear hK K
 refine zaB ?_
 refine zy (fun i: {i:Nat // i≤l.length} =>⟨[(1,true,.d (.str l)),(5,true,.d (.int .u32 (toI (sumB (onesB ^^^ x) (l.take i.1))))),(6,true,.d (.int .i64 i.1))],[],some []⟩) (fun i=>l.length - i.1) ⟨0,by omega⟩ (by simp only [AS.le,leT,leH,zi,AsgK,AV.le,AV.leL,AObj.le,inH,idsT,idsH,AV.ids,AV.idsL,AV.idsR,AObj.ids,lk,hget,go_sem,Nat.le_refl,List.append_toArray,List.range_zero,List.append_eq,Int.toNat_natCast,aeq,aeq.aeqF,simprocAttr]<;>simp [sumB]) (fun i=>?_)
 obtain ⟨i,hi⟩:=i
 refine zay (fun K2 hK2=>?_)
 refine ze noTab (zb _) (fun K hK=>?_);simp only [go_sem,Nat.le_refl,List.append_toArray,List.range_zero,List.append_eq,Int.toNat_natCast,aeq,aeq.aeqF,simprocAttr]
 refine hK _ ?_;clear hK K
 refine zbf rfl (fun hc=>?_) (fun hc=>?_)
 ·refine zc2 ?_;simp only [go_sem,Nat.le_refl,List.append_toArray,List.range_zero,List.append_eq,Int.toNat_natCast,aeq,aeq.aeqF,simprocAttr];refine hK2 _ ?_;clear hK2 K2
  have hil:i<l.length:=by simp at hc;omega
  obtain ⟨b,hb⟩:∃b,l[i]?=some b:=⟨l[i],by simp [hil]⟩
  have hgd:l.getD i 0=b:=by simp [List.getD_eq_getElem?_getD,hb]
  refine zay (fun K3 hK3=>?_)
  refine zaB ?_
  refine ze noTab (zb _) (fun K hK=>?_);simp only [go_sem,Nat.le_refl,List.append_toArray,List.range_zero,List.append_eq,Int.toNat_natCast,aeq,aeq.aeqF,simprocAttr,hgd,zqF,zcY]
  refine ⟨⟨by omega,by omega⟩,hK _ ?_⟩
  clear hK
  refine ze noTab (zb _) (fun K hK=>?_);simp only [go_sem,Nat.le_refl,List.append_toArray,List.range_zero,List.append_eq,Int.toNat_natCast,aeq,aeq.aeqF,simprocAttr]
  refine hK _ ?_;clear hK K
  refine zaB ?_
  refine zy (fun k: {k:Nat // k≤8} =>⟨[(1,true,.d (.str l)),(6,true,.d (.int .i64 i)),(5,true,.d (.int .u32 (toI (bN k.1 (sumB (onesB ^^^ x) (l.take i) ^^^ u8B b))))),(7,true,.d (.int .i64 k.1))],[],some []⟩) (fun k=>8 - k.1) ⟨0,by omega⟩ (by simp only [AS.le,leT,leH,zi,AsgK,AV.le,AV.leL,AObj.le,inH,idsT,idsH,AV.ids,AV.idsL,AV.idsR,AObj.ids,lk,hget,go_sem,Nat.le_refl,List.append_toArray,List.range_zero,List.append_eq,Int.toNat_natCast,aeq,aeq.aeqF,simprocAttr]<;>simp [bN]) (fun k=>?_)
  obtain ⟨k,hk⟩:=k
  refine zay (fun K4 hK4=>?_)
  refine ze noTab (zb _) (fun K hK=>?_);simp only [go_sem,Nat.le_refl,List.append_toArray,List.range_zero,List.append_eq,Int.toNat_natCast,aeq,aeq.aeqF,simprocAttr]
  refine hK _ ?_;clear hK K
  refine zbf rfl (fun hc=>?_) (fun hc=>?_)
  ·refine zc2 ?_;simp only [go_sem,Nat.le_refl,List.append_toArray,List.range_zero,List.append_eq,Int.toNat_natCast,aeq,aeq.aeqF,simprocAttr];refine hK4 _ ?_;clear hK4 K4
   have hkl:k<8:=by simp at hc;omega
   have hw:IntKind.i64.wrap ((k:Int)+1)=((k+1:Nat):Int):=by rw [IntKind.wrap_i64];omega
   refine zay (fun K5 hK5=>?_)
   refine zaB ?_
   refine ze noTab (zb _) (fun K hK=>?_);simp only [go_sem,Nat.le_refl,List.append_toArray,List.range_zero,List.append_eq,Int.toNat_natCast,aeq,aeq.aeqF,simprocAttr,rem2]
   refine hK _ ?_;clear hK K
   refine zbf rfl (fun hc=>?_) (fun hc=>?_)
   ·have hb1:(bN k (sumB (onesB ^^^ x) (l.take i) ^^^ u8B b)).getLsbD 0=true:=by simpa using hc
    refine zag noTab (zb _) ?_;simp only [go_sem,Nat.le_refl,List.append_toArray,List.range_zero,List.append_eq,Int.toNat_natCast,aeq,aeq.aeqF,simprocAttr,znn _ hb1]
    refine hK5 _ ?_;clear hK5 K5
    refine zag noTab (zb _) ?_;simp only [go_sem,Nat.le_refl,List.append_toArray,List.range_zero,List.append_eq,Int.toNat_natCast,aeq,aeq.aeqF,simprocAttr]
    refine ⟨⟨k+1,by omega⟩,?_,by simp;omega⟩
    rw [hw]
    simp only [AS.le,leT,leH,zi,AsgK,AV.le,AV.leL,AObj.le,inH,idsT,idsH,AV.ids,AV.idsL,AV.idsR,AObj.ids,lk,hget,go_sem,Nat.le_refl,List.append_toArray,List.range_zero,List.append_eq,Int.toNat_natCast,aeq,aeq.aeqF,simprocAttr]
    try rfl
   ·have hb1:(bN k (sumB (onesB ^^^ x) (l.take i) ^^^ u8B b)).getLsbD 0=false:=by simpa using hc
    refine zag noTab (zb _) ?_;simp only [go_sem,Nat.le_refl,List.append_toArray,List.range_zero,List.append_eq,Int.toNat_natCast,aeq,aeq.aeqF,simprocAttr,zlE _ hb1]
    refine hK5 _ ?_;clear hK5 K5
    refine zag noTab (zb _) ?_;simp only [go_sem,Nat.le_refl,List.append_toArray,List.range_zero,List.append_eq,Int.toNat_natCast,aeq,aeq.aeqF,simprocAttr]
    refine ⟨⟨k+1,by omega⟩,?_,by simp;omega⟩
    rw [hw]
    simp only [AS.le,leT,leH,zi,AsgK,AV.le,AV.leL,AObj.le,inH,idsT,idsH,AV.ids,AV.idsL,AV.idsR,AObj.ids,lk,hget,go_sem,Nat.le_refl,List.append_toArray,List.range_zero,List.append_eq,Int.toNat_natCast,aeq,aeq.aeqF,simprocAttr]
    try rfl
  ·refine zc6 ?_;simp only [go_sem,Nat.le_refl,List.append_toArray,List.range_zero,List.append_eq,Int.toNat_natCast,aeq,aeq.aeqF,simprocAttr];refine hK3 _ ?_
   have hk8:k=8:=by simp at hc;omega
   subst hk8
   refine zag noTab (zb _) ?_;simp only [go_sem,Nat.le_refl,List.append_toArray,List.range_zero,List.append_eq,Int.toNat_natCast,aeq,aeq.aeqF,simprocAttr]
   have hw:IntKind.i64.wrap ((i:Int)+1)=((i+1:Nat):Int):=by rw [IntKind.wrap_i64];omega
   refine ⟨⟨i+1,by omega⟩,?_,by simp;omega⟩
   rw [hw]
   have hs:sumB (onesB ^^^ x) (l.take (i+1))=bN 8 (sumB (onesB ^^^ x) (l.take i) ^^^ u8B b):=by
    rw [List.take_add_one,hb,Option.toList_some,zcA];rfl
   rw [hs]
   simp only [AS.le,leT,leH,zi,AsgK,AV.le,AV.leL,AObj.le,inH,idsT,idsH,AV.ids,AV.idsL,AV.idsR,AObj.ids,lk,hget,go_sem,Nat.le_refl,List.append_toArray,List.range_zero,List.append_eq,Int.toNat_natCast,aeq,aeq.aeqF,simprocAttr]
 ·refine zc6 ?_;simp only [go_sem,Nat.le_refl,List.append_toArray,List.range_zero,List.append_eq,Int.toNat_natCast,aeq,aeq.aeqF,simprocAttr];refine hK1 _ ?_
  have hil:i=l.length:=by simp at hc;omega
  subst hil
  refine ze noTab (zb _) (fun K hK=>?_);simp only [go_sem,Nat.le_refl,List.append_toArray,List.range_zero,List.append_eq,Int.toNat_natCast,aeq,aeq.aeqF,simprocAttr,hnot]
  refine hK _ ?_;clear hK K
  refine zd7 ?_;simp only [go_sem,Nat.le_refl,List.append_toArray,List.range_zero,List.append_eq,Int.toNat_natCast,aeq,aeq.aeqF,simprocAttr,Tryz.results106]
  try rw [List.take_length]
theorem zjE (c:Int) (l:List UInt8) (h0:0≤c) (h1:c≤4294967295) (hl:l.length≤9223372036854775807):ACall Tryz.prog 106 0 [.d (.int .u32 c),.d (.str l)] [] (fun r _=>r= .d (.int .u32 (sumOf c l))):=by
 obtain ⟨x,rfl⟩:=ofI c h0 h1
 rw [ziT]
 exact zlF x l hl
theorem zjF (c:Int) (h0:0≤c) (h1:c≤4294967295):ACall Tryz.prog 51 0 [.d (.int .u32 c)] [] (fun r _=>r= .d (.str (zeB c))):=by
 refine zao Tryz.func51 rfl (zca Tryz.func51 (by kernel_rfl) rfl) Tryz.ntmps51 (by simp) (fun base=>?_)
 refine ze noTab (zb _) (fun K hK=>?_);simp only [go_sem,Nat.le_refl,List.append_toArray,List.range_zero,List.append_eq,Int.toNat_natCast,aeq,aeq.aeqF,simprocAttr]
 refine hK _ ?_;clear hK K
 refine ze noTab (zb _) (fun K hK=>?_);simp only [go_sem,Nat.le_refl,List.append_toArray,List.range_zero,List.append_eq,Int.toNat_natCast,aeq,aeq.aeqF,simprocAttr]
 refine ⟨rfl,hK _ ?_⟩
 clear hK K
 refine zd7 ?_;simp only [go_sem,Nat.le_refl,List.append_toArray,List.range_zero,List.append_eq,Int.toNat_natCast,aeq,aeq.aeqF,simprocAttr,Tryz.results51]
 have e3:zbG c 3=IntKind.u8.wrap c:=by
  unfold zbG ishr
  rw [show IntKind.i64.wrap (24 - IntKind.i64.wrap (8*((3:Nat):Int)))=0 by decide]
  simp
 have e2:zbG c 2=IntKind.u8.wrap (ishr .u32 c 8):=by
  unfold zbG
  rw [show IntKind.i64.wrap (24 - IntKind.i64.wrap (8*((2:Nat):Int)))=8 by decide]
 have e1:zbG c 1=IntKind.u8.wrap (ishr .u32 c 16):=by
  unfold zbG
  rw [show IntKind.i64.wrap (24 - IntKind.i64.wrap (8*((1:Nat):Int)))=16 by decide]
 have e0:zbG c 0=IntKind.u8.wrap (ishr .u32 c 24):=by
  unfold zbG
  rw [show IntKind.i64.wrap (24 - IntKind.i64.wrap (8*((0:Nat):Int)))=24 by decide]
 simp only [zeB,bytesOf,List.map_cons,List.map_nil,numOf,e0,e1,e2,e3]
theorem ze0 (c:Int) (l:List UInt8) (h0:0≤c) (h1:c≤4294967295):0≤sumOf c l∧sumOf c l≤4294967295:=by
 obtain ⟨x,rfl⟩:=ofI c h0 h1
 rw [ziT]
 unfold toI
 have:=(onesB ^^^ sumB (onesB ^^^ x) l).isLt
 omega
open Go Go.Proofs
@[go_sem] noncomputable def zaT:Ent Tryz.prog 106:= .ofL (consL (intT .u32) (consL strT nilL)) (fun (c,l,_)=>(0≤c)∧(c≤4294967295)∧(l.length≤9223372036854775807)) (fun (c,l,_)=> .d (.int .u32 (sumOf c l))) (fun (c,l,_) hp=>⟨rfl,zjE c l hp.1 hp.2.1 hp.2.2⟩)
@[go_sem] noncomputable def zar:Ent Tryz.prog 51:= .ofL (consL (intT .u32) nilL) (fun (c,_)=>(0≤c)∧(c≤4294967295)) (fun (c,_)=> .d (.str (zeB c))) (fun (c,_) hp=>⟨rfl,zjF c hp.1 hp.2⟩)
theorem zoW (l:List UInt8) (hl:l.length≤9223372036854775807):ACall Tryz.prog 52 0 [.d (.str l)] [] (fun r _=>r= .d (.int .u32 (sumOf 0 l))):=by
 refine bod Tryz.func52 Tryz.ntmps52 (fun base=>?_)
 refine' walkW fx (za zaT <| zb _)
@[go_sem] noncomputable def za9:Ent Tryz.prog 52:= .ofL (consL strT nilL) (fun (l,_)=>l.length≤9223372036854775807) (fun (l,_)=> .d (.int .u32 (sumOf 0 l))) (fun (l,_) hp=>⟨rfl,zoW l hp⟩)
end Go.Aw
namespace Go.Proofs.YtbmlikkofegdeaaGreat
open Go Go.RowKit
theorem bsize:∃j,Tryz.prog.info? 131=some j∧j.size=2:=by
 obtain ⟨j,hj,hjs⟩:=Option.map_eq_some_iff.1 (show (Tryz.prog.info? 131).map (·.size)=some 2 by kernel_rfl)
 exact ⟨j,hj,hjs⟩
theorem znB (b o:Nat) (w:World) (h0:w.cell? ⟨b,o,none⟩=some (.pointer (some ⟨b,o,none⟩))):
  Calls Tryz.prog 118 #[.pointer (some ⟨b,o,none⟩)] w fun e w'=>e= .returned (.tuple #[])∧w'=w:=by
 obtain ⟨j,hj,hjs⟩:=bsize
 go_enter Tryz.func118,Tryz.ntmps118
 go_wp2
 rw [Lib.run_neq_ptr_same w _ Tryz.underlying129 hj]
 go_wp2
 go_end0
 exact ⟨rfl,rfl⟩
theorem zlV (b o n:Nat) (T:TypeId) (w:World) (h0:w.cell? ⟨b,o,none⟩=some (.pointer none)) (hsh:w.shape? b=some (T,n)) (hlt:o<n) (hl:liesAt Tryz.prog Tryz.prog.depth T (n / Tryz.prog.cellsOf T) o 131 1=true) (hfz:w.frozen? ⟨b,o,none⟩=false):
  Calls Tryz.prog 118 #[.pointer (some ⟨b,o,none⟩)] w fun e w'=>e= .returned (.tuple #[])∧w'=w.setCell ⟨b,o,none⟩ (.pointer (some ⟨b,o,none⟩)):=by
 obtain ⟨j,hj,hjs⟩:=bsize
 go_enter Tryz.func118,Tryz.ntmps118
 go_wp2
 rw [Lib.run_to_unsafe w ⟨b,o,none⟩ Tryz.underlying129 Tryz.underlying225 hj (by rw [hjs];decide) hsh hlt]
 simp only [Result.andThen]
 rw [Oper.upon_value]
 go_wp2
 rw [run_callFunc_extern Tryz.func160 (by kernel_rfl) (by kernel_rfl) (by kernel_rfl) (e:=Extern.AbiNoEscape.same) (by kernel_rfl)]
 rw [Lib.run_noEscape]
 simp only [Result.andThen]
 rw [Oper.upon_value]
 go_wp2
 rw [Lib.run_from_unsafe w ⟨b,o,none⟩ Tryz.underlying225 Tryz.underlying129 hj hsh hl]
 simp only [Result.andThen]
 rw [Oper.upon_value]
 go_wp2
 go_end0
 exact ⟨rfl,rfl⟩
end Go.Proofs.YtbmlikkofegdeaaGreat
namespace Go.Proofs.YtbmlikkofegdeaaGreat
open Go
section
variable {P : Program}
open Go.Lib
theorem zgj (w:World) (base:Nat) (t u ty e:TypeId) (i:TypeInfo) (ht:P.underlying t=some (.slice e)) (hu:P.underlying u=some .string) (hi:P.info? e=some i) (hz:i.zero=some (.int .u8 0))
  (hsize:i.size=1) (hby:i.bytes=1)
  (v:Value) (n:Nat) (xs:List Value) (hown:w.ownsRow base e 1 v n xs) (s:ByteArray)
  (h63:n+s.size≤maxLen) (hbytes:n+s.size≤140737488355328) (hbase:base≤w.heap.size):
  ∃v' w',(Builtin.append_ #[t,u] ty #[v,.string s]).run P w= .ok v' w'∧w'.ownsRow base e 1 v' (n+s.size) (xs++strCells s)∧w.grownBy w' v.ownBlock∧
   ((∀g,v'.ownBlock=some g→v.ownBlock=some g∨(w.heap.size≤g∧g<w'.heap.size))∧(s.size=0→v'=v)):=by
 have hsmall:n+s.size≤9223372036854775807:=by simp only [maxLen] at h63;omega
 have hxl:xs.length=n:=by simpa using hown.1
 have hlen:(xs++strCells s).length=(n+s.size)*1:=by rw [List.length_append,hxl,strCells_length,Nat.mul_one]
 have grown:∀ (old:Nat),old<n+s.size→∀ (row:Option Nat),
   (w.drew.alloc (.cells (xs.toArray++(strCells s).toArray++Builtin.zeroCells (Value.int .u8 0).cells (grownCap w (n+s.size) old e - (n+s.size))) e)).ownsRow base e 1
    (.slice (some ⟨w.heap.size,0,none⟩) (n+s.size) (grownCap w (n+s.size) old e)) (n+s.size) (xs++strCells s)∧
   w.grownBy (w.drew.alloc (.cells (xs.toArray++(strCells s).toArray++Builtin.zeroCells (Value.int .u8 0).cells (grownCap w (n+s.size) old e - (n+s.size))) e)) row:=by
  intro old ho row
  have hge:=grownCap_ge w (n+s.size) old e
  have hcm:grownCap w (n+s.size) old e≤maxLen:=grownCap_le_maxLen w (n+s.size) old e h63
  refine ⟨⟨hlen,.inr ⟨w.heap.size,_,_,rfl,hbase,Go.heap_alloc_new w.drew _,hge,hcm,?_,?_⟩⟩,⟨rfl,rfl,rfl,by simp,fun k hk _=>Go.heap_alloc_old w.drew _ hk⟩⟩
  ·have hz1:(Value.int IntKind.u8 0).cells.size=1:=rfl
   simp only [Array.size_append,List.size_toArray,size_zeroCells,hz1,hxl,strCells_length]
   omega
  ·simp only [Array.toList_append,List.append_assoc]
   rw [← List.append_assoc,← hlen]
   exact List.take_left
 rcases hown.2 with ⟨rfl,rfl⟩|⟨g,cap,cur,rfl,hbg,hg,hnc,hcm,hcs,htake⟩
 ·have hx:xs= []:=List.eq_nil_of_length_eq_zero hxl
  subst hx
  by_cases hm:s.size=0
  ·have hn:strCells s= []:=List.eq_nil_of_length_eq_zero (by rw [strCells_length];exact hm)
   refine ⟨.slice none 0 0,w,?_,by rw [hm,hn];exact World.ownsRow_nil w base e 1,⟨rfl,rfl,rfl,Nat.le_refl _,fun _ _ _=>rfl⟩,fun g hg=> .inl hg,fun _=>rfl⟩
   have hf:=run_firstCells_string (P:=P) w 1 s
   rw [hm] at hf
   simp [Builtin.append_,run_underlying ht,run_underlying hu,sizeOf,typeInfo,hi,hsize,Builtin.lenOf,hm,hf]
  ·have hr:=run_append_nil_string (P:=P) w t u ty e i (.int .u8 0) ht hu hi hz s (by omega) (by omega) (by rw [hby];omega)
   have hgr:=grown 0 (by omega) (Value.ownBlock (.slice none 0 0))
   simp only [Nat.zero_add,List.nil_append,Array.empty_append] at hgr ⊢
   have e1:(s.data.map fun b=>Value.int .u8 b.toNat)=(strCells s).toArray:=by
    apply Array.ext'
    simp [strCells]
   rw [e1] at hr
   exact ⟨_,_,hr,hgr.1,hgr.2,fun g hg=> .inr (by simp [Value.ownBlock] at hg;subst hg;simp),fun e=>absurd e hm⟩
 ·by_cases hroom:n+s.size≤cap
  ·have hcs':cur.size=cap:=by simpa using hcs
   have hr:=run_append_room_string (P:=P) w t u ty e i ht hu hi hsize g n cap cur hg s hroom (by omega)
   refine ⟨_,_,hr,⟨hlen,.inr ⟨g,cap,_,rfl,hbg,setRow_heap w g cur _ e _ hg,hroom,hcm,?_,?_⟩⟩,⟨rfl,rfl,rfl,by simp,fun k _ hk=>setRow_other w g k _ (fun e=>hk (by simp [Value.ownBlock,e]))⟩,fun g hg=> .inl hg,fun e=>by rw [e];rfl⟩
   ·simp only [List.size_toArray,List.length_append,List.length_take,List.length_drop,Array.length_toList,strCells_length]
    omega
   ·have ht':cur.toList.take n=xs:=by simpa using htake
    rw [ht',← hlen]
    exact List.take_left
  ·have holds:∀j u,xs[j]?=some u→w.cell? ((⟨g,0,none⟩:Addr).add j)=some u:=hown.cells (g:=g) rfl
   have hr:=run_append_grow_string (P:=P) w t u ty e i (.int .u8 0) ht hu hi hz ⟨g,0,none⟩ n cap xs (by rw [hsize];simpa using hxl) holds s (by omega) (by omega) (by rw [hby];exact growslice_fits (by omega) (by omega))
   have hgr:=grown cap (by omega) (Value.ownBlock (.slice (some ⟨g,0,none⟩) n cap))
   exact ⟨_,_,hr,hgr.1,hgr.2,fun g hg=> .inr (by simp [Value.ownBlock] at hg;subst hg;simp),fun e=>by omega⟩
theorem zeH (w:World) {ops:Array Oper} {rest:List Oper} {o:Oper} {a:Act} {Q:Exit→Act→World→Prop} (hgd:o.guard=none) (sl x:Operand) (t u:TypeId)
  (ho:o.op= .call { callee:= .builtin .append,args:= #[sl,x],argTypes:= #[t,u] })
  (base:Nat) (e:TypeId) (i:TypeInfo) (ht:P.underlying t=some (.slice e)) (hu:P.underlying u=some .string) (hi:P.info? e=some i) (hz:i.zero=some (.int .u8 0))
  (hsize:i.size=1) (hby:i.bytes=1)
  (v:Value) (n:Nat) (xs:List Value) (hs:a.eval sl=v) (hown:w.ownsRow base e 1 v n xs) (s:ByteArray) (hx:a.eval x= .string s)
  (h63:n+s.size≤maxLen) (hbytes:n+s.size≤140737488355328) (hbase:base≤w.heap.size)
  (h:∀v' w',w'.ownsRow base e 1 v' (n+s.size) (xs++strCells s)→w.grownBy w' v.ownBlock→((∀g,v'.ownBlock=some g→v.ownBlock=some g∨(w.heap.size≤g∧g<w'.heap.size))∧(s.size=0→v'=v))→wpList P ops Q rest (a.put o.dst v') w'):wpList P ops Q (o::rest) a w:=by
 refine wpList_plain hgd fun K hK=>?_
 obtain ⟨v',w',hr,h2,h3,h4⟩:=zgj (P:=P) w base t u o.type e i ht hu hi hz hsize hby v n xs hown s h63 hbytes hbase
 unfold Oper.wp execOp
 simp only [ho,resolve,invoke,builtin,Sem.run_bind,Sem.run_pure,Result.andThen_ok,List.map_toArray,List.map_cons,List.map_nil,hs,hx,hr]
 exact hK _ _ (h v' w' h2 h3 h4)
end
open Go.RowKit
theorem zgF {w:World} {b o o':Nat} {v:Value} (h:o≠o'):(w.setCell ⟨b,o,none⟩ v).cell? ⟨b,o',none⟩=w.cell? ⟨b,o',none⟩:=by
 unfold World.setCell World.cell?
 simp only [Array.getElem?_modify,if_true]
 cases w.heap[b]? with
 |none=>rfl
 |some ob=>
  cases ob<;>simp [Array.getElem?_setIfInBounds_ne h]
theorem zfp {w:World} {b o o':Nat} {v:Value} :(w.setCell ⟨b,o,none⟩ v).frozen? ⟨b,o',none⟩=w.frozen? ⟨b,o',none⟩:=by
 unfold World.setCell World.frozen?
 simp only [Array.getElem?_modify,if_true]
 cases w.heap[b]? with
 |none=>rfl
 |some ob=>
  cases ob<;>simp
theorem zjU {w:World} {e:TypeId} {v:Value} {k:Nat} {bs:List Value} {b o:Nat} {x:Value} (h:w.ownsRow 0 e 1 v k bs) (hne:v.ownBlock≠some b):(w.setCell ⟨b,o,none⟩ x).ownsRow 0 e 1 v k bs:=by
 refine ⟨h.1,?_⟩
 rcases h.2 with hn|⟨g,cap,cur,rfl,hb,hgg,rest⟩
 ·exact .inl hn
 ·refine .inr ⟨g,cap,cur,rfl,hb,?_,rest⟩
  have:b≠g:=fun e=>hne (by simp [Value.ownBlock,e])
  unfold World.setCell
  rw [Array.getElem?_modify,if_neg this]
  exact hgg
theorem zlW (b o n:Nat) (T:TypeId) (w:World) (h0:w.cell? ⟨b,o,none⟩=some (.pointer none)∨w.cell? ⟨b,o,none⟩=some (.pointer (some ⟨b,o,none⟩))) (hsh:w.shape? b=some (T,n)) (hlt:o<n) (hl:liesAt Tryz.prog Tryz.prog.depth T (n / Tryz.prog.cellsOf T) o 131 1=true) (hfz:w.frozen? ⟨b,o,none⟩=false):
  Calls Tryz.prog 118 #[.pointer (some ⟨b,o,none⟩)] w fun e w'=>e= .returned (.tuple #[])∧((w'=w∧w.cell? ⟨b,o,none⟩=some (.pointer (some ⟨b,o,none⟩)))∨w'=w.setCell ⟨b,o,none⟩ (.pointer (some ⟨b,o,none⟩))):=by
 rcases h0 with h0|h0
 ·refine (zlV b o n T w h0 hsh hlt hl hfz).mono ?_
  rintro e w' ⟨rfl,rfl⟩
  exact ⟨rfl,.inr rfl⟩
 ·refine (znB b o w h0).mono ?_
  rintro e w' ⟨rfl,rfl⟩
  exact ⟨rfl,.inl ⟨rfl,h0⟩⟩
theorem zjV (b o n:Nat) (T:TypeId) (w:World) (v:Value) (k:Nat) (bs:List Value) (s:ByteArray) (h0:w.cell? ⟨b,o,none⟩=some (.pointer none)∨w.cell? ⟨b,o,none⟩=some (.pointer (some ⟨b,o,none⟩))) (h1:w.cell? ⟨b,o+1,none⟩=some v)
  (hsh:w.shape? b=some (T,n)) (hlt:o<n) (hl:liesAt Tryz.prog Tryz.prog.depth T (n / Tryz.prog.cellsOf T) o 131 1=true) (hfz:w.frozen? ⟨b,o,none⟩=false) (hfz1:w.frozen? ⟨b,o+1,none⟩=false)
  (hown:w.ownsRow 0 5 1 v k bs) (hne:v.ownBlock≠some b) (hlen:k+s.size≤140737488355328):
  Calls Tryz.prog 72 #[.pointer (some ⟨b,o,none⟩),.string s] w fun e w'=>e= .returned (.tuple #[.int .i64 s.size,.nilIface])∧
   ∃w1 v' w2,((w1=w∧w.cell? ⟨b,o,none⟩=some (.pointer (some ⟨b,o,none⟩)))∨w1=w.setCell ⟨b,o,none⟩ (.pointer (some ⟨b,o,none⟩)))∧w2.ownsRow 0 5 1 v' (k+s.size) (bs++Lib.strCells s)∧w1.grownBy w2 v.ownBlock∧((∀g,v'.ownBlock=some g→v.ownBlock=some g∨(w1.heap.size≤g∧g<w2.heap.size))∧(s.size=0→v'=v))∧w'=w2.setCell ⟨b,o+1,none⟩ v':=by
 obtain ⟨i0,hi,hz0⟩:=Option.map_eq_some_iff.1 (show (Tryz.prog.info? 5).map (fun i=>(i.zero,i.size,i.bytes))=some (some (.int .u8 0),1,1) by kernel_rfl)
 simp only [Prod.mk.injEq] at hz0
 obtain ⟨hz0,hz1,hz2⟩:=hz0
 go_enter Tryz.func72,Tryz.ntmps72
 go_wp2_with (go_at_call 118;refine (zlW b o n T _ h0 hsh hlt hl hfz).mono ?_)
 rintro e w1 ⟨rfl,hw1⟩
 have c1:w1.cell? ⟨b,o+1,none⟩=some v:=by
  rcases hw1 with ⟨rfl,_⟩|rfl
  ·exact h1
  ·rw [zgF (by omega)];exact h1
 have f1:w1.frozen? ⟨b,o+1,none⟩=false:=by
  rcases hw1 with ⟨rfl,_⟩|rfl
  ·exact hfz1
  ·rw [zfp];exact hfz1
 have hown1:w1.ownsRow 0 5 1 v k bs:=by
  rcases hw1 with ⟨rfl,_⟩|rfl
  ·exact hown
  ·exact zjU hown hne
 go_wp2_with (at_builtin;refine zeH _ rfl _ _ 79 9 rfl 0 5 i0 Tryz.underlying79 Tryz.underlying9 hi hz0 hz1 hz2 _ _ _ rfl hown1 s rfl ?c3 ?c4 ?c5 ?_)
 case c3=>unfold maxLen;omega
 case c4=>omega
 case c5=>omega
 intro v' w2 hown' hgrow hnew hnew2
 have hlt1:b<w1.heap.size:=by
  rcases Nat.lt_or_ge b w1.heap.size with h'|h'
  ·exact h'
  ·simp [World.cell?,Array.getElem?_eq_none h'] at c1
 have hb2:w2.heap[b]?=w1.heap[b]?:=hgrow.block b hlt1 (fun e=>hne e.symm)
 have d1:w2.cell? ⟨b,o+1,none⟩=some v:=by
  rw [← c1];simp only [World.cell?,hb2]
 have f2:w2.frozen? ⟨b,o+1,none⟩=false:=by
  rw [← f1];simp only [World.frozen?,hb2]
 obtain ⟨ao,n',cap,rfl⟩:∃ao n' cap,v'= .slice ao n' cap:=by
  rcases hown'.2 with ⟨hv,_⟩|⟨g,cap,cur,hv,_⟩
  ·exact ⟨_,_,_,hv⟩
  ·exact ⟨_,_,_,hv⟩
 go_wp2
 go_ret2
 exact ⟨rfl,w1,_,w2,hw1,hown',hgrow,⟨hnew,fun e=>hnew2 (by simpa using e)⟩,rfl⟩
end Go.Proofs.YtbmlikkofegdeaaGreat
