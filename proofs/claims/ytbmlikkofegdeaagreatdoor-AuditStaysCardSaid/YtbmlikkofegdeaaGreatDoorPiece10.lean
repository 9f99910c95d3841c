/-
  Parts of the proof: AwFrame, AwFrz (short names; the readable texts lie in the repo, under wip).
-/
import Derived.Test.YtbmlikkofegdeaaGreatDoorPiece9
set_option maxRecDepth 100000
set_option maxHeartbeats 2000000
set_option linter.unusedSimpArgs false
set_option linter.unusedVariables false
namespace Go.Aw
open Go
def hsel (p:Nat->Bool):AHeap->AHeap
 | []=> []
 |(i,o)::r=>if p i=true then (i,o)::hsel p r else hsel p r
theorem zx {p:Nat->Bool} :∀ (h:AHeap) (i:Nat),hget (hsel p h) i=if p i=true then hget h i else none
  | [],i=>by simp [hsel,hget]
  | (j,o)::r,i=>by
    simp only [hsel,hget];by_cases hj:p j=true
    · simp only [hj,if_true,hget]
      by_cases e:j=i
      · subst e;simp [hj]
      · simp only [e,if_false];exact zx r i
    · simp only [hj,if_false,Bool.false_eq_true]
      rw [zx r i];by_cases e:j=i
      · subst e;simp [hj]
      · simp only [e,if_false]
theorem zcP:∀ (a b:AHeap) (i:Nat),hget (a++b) i=(hget a i).or (hget b i)
  | [],b,i=>by simp [hget]
  | (j,o)::r,b,i=>by
    simp only [List.cons_append,hget];by_cases e:j=i
    · simp [e]
    · simp only [e,if_false];exact zcP r b i
section
variable {P : Program} {w w' : World} {E E1 E2 : Env} {h h1 h2 : AHeap} {p : Nat -> Bool}
theorem zfH (j:Nat) (hj:p j=true):GoesOn E h E (hsel p h) j:=by unfold GoesOn;rw [zx,if_pos hj];split<;>simp_all
theorem zY {b:Nat} (ho:Own E (hsel p h) b):Own E h b:=by
 obtain ⟨i,hi,hb⟩:=ho;rw [zx] at hi;split at hi
 ·exact ⟨i,hi,hb⟩
 ·simp at hi
theorem zrQ {b:Nat} (ho:Xs E (hsel p h) b):Xs E h b:=ho.imp zY id
def zhI (p:Nat->Bool) (h:AHeap):Prop:=∀i o,hget h i=some o->p i=true->∀j∈o.ids,p j=true
theorem zrR {a:AV} {v:Value} (ha:∀j∈a.ids,p j=true) (hr:Rep w E h a v):Rep w E (hsel p h) a v:=
 Rep.step (λ_ _=>zrQ) (λ_ _ _=>rfl) a v (λj hj=>zfH j (ha j hj)) hr
theorem zpb {a:List AV} {v:List Value} (ha:∀j∈AV.idsL a,p j=true) (hr:Reps w E h a v):Reps w E (hsel p h) a v:=
 Reps.step (λ_ _=>zrQ) (λ_ _ _=>rfl) a v (λj hj=>zfH j (ha j hj)) hr
theorem znG (hs:SatH E h w) (hc:zhI p h):SatH E (hsel p h) w where
 heap:=λi o ho=>by
  rw [zx] at ho;split at ho
  ·rename_i hpi;have:=hs.heap i o ho;have hcl:=hc i o ho hpi;cases o with
   |var cs=>
    simp only [RepObj] at this ⊢;obtain ⟨b,c,T,fz,g1,g2,g3,g4⟩:=this;exact ⟨b,c,T,fz,g1,g2,zpb hcl g3,g4⟩
   |tvar tt cs=>
    simp only [RepObj] at this ⊢;obtain ⟨b,c,T,fz,g1,g2,g3,g4⟩:=this;exact ⟨b,c,T,fz,g1,g2,zpb hcl g3,g4⟩
   |arr k xs=>
    simp only [RepObj] at this ⊢;rcases this with g|⟨b,c,T,fz,g1,g2,g3,g4,g5,g6⟩
    ·exact .inl g
    ·exact .inr ⟨b,c,T,fz,g1,g2,g3,g4,RepRows.step (λ_ _=>zrQ) (λ_ _ _=>rfl) _ _ _ g5,g6⟩
   |buf tt xs=>
    simp only [RepObj] at this ⊢;rcases this with g|⟨b,c,T,fz,g1,g2,g3,g4,g5,g6⟩
    ·exact .inl g
    ·exact .inr ⟨b,c,T,fz,g1,g2,g3,g4,g5,g6⟩
   |strit l q=>exact this
   |omap es=>exact this
  ·cases ho
 inj:=λi j b hi hj=>by
  rw [zx] at hi hj;split at hi
  ·split at hj
   ·exact hs.inj i j b hi hj
   ·simp at hj
  ·simp at hi
 own:=λb hb=>hs.own b (zY hb)
 mlt:=hs.mlt
 nlt:=hs.nlt
def joinE (p:Nat->Bool) (E1 E2:Env) (M N:Nat->Prop):Env:=
 { O:=λi=>if p i=true then E1.O i else E2.O i,C:=λi=>if p i=true then E1.C i else E2.C i,M:=M,N:=N }
structure Apart (p:Nat->Bool) (E1:Env) (h1:AHeap) (E2:Env) (h2:AHeap) (M N:Nat->Prop):Prop where
 n1:∀i,(hget h1 i).isSome->p i=true
 n2:∀i,(hget h2 i).isSome->p i=false
 o1:∀b,Own E1 h1 b->E2.M b\/E2.N b
 o2:∀b,Own E2 h2 b->E1.M b\/E1.N b
 m1:∀b,M b->E1.M b\/E1.N b
 m2:∀b,M b->E2.M b\/E2.N b
 k1:∀b,N b->E1.M b\/E1.N b
 k2:∀b,N b->E2.M b\/E2.N b
section
variable {M N : Nat -> Prop}
theorem Apart.get1 (ap:Apart p E1 h1 E2 h2 M N) {i:Nat} (hi:p i=true):hget (h1++h2) i=hget h1 i:=by
 rw [zcP];cases e:hget h1 i with
 |some o=>rfl
 |none=>
  cases e2:hget h2 i with
  |none=>rfl
  |some o=>have:=ap.n2 i (by simp [e2]);rw [hi] at this;cases this
theorem Apart.get2 (ap:Apart p E1 h1 E2 h2 M N) {i:Nat} (hi:p i=false):hget (h1++h2) i=hget h2 i:=by
 rw [zcP];cases e:hget h1 i with
 |some o=>have:=ap.n1 i (by simp [e]);rw [hi] at this;cases this
 |none=>rfl
theorem Apart.own (ap:Apart p E1 h1 E2 h2 M N) {b:Nat} (ho:Own (joinE p E1 E2 M N) (h1++h2) b):Own E1 h1 b\/Own E2 h2 b:=by
 obtain ⟨i,hi,hb⟩:=ho;by_cases hp:p i=true
 ·rw [ap.get1 hp] at hi;exact .inl ⟨i,hi,by simpa [joinE,hp] using hb⟩
 ·have hp':p i=false:=by simpa using hp
  rw [ap.get2 hp'] at hi;exact .inr ⟨i,hi,by simpa [joinE,hp'] using hb⟩
theorem Apart.xs1 (ap:Apart p E1 h1 E2 h2 M N) {b:Nat} (hx:Xs (joinE p E1 E2 M N) (h1++h2) b):Xs E1 h1 b:=by
 rcases hx with hx|hx|hx
 ·rcases ap.own hx with h|h
  ·exact .inl h
  ·exact .inr (ap.o2 b h)
 ·exact .inr (ap.m1 b hx)
 ·exact .inr (ap.k1 b hx)
theorem Apart.xs2 (ap:Apart p E1 h1 E2 h2 M N) {b:Nat} (hx:Xs (joinE p E1 E2 M N) (h1++h2) b):Xs E2 h2 b:=by
 rcases hx with hx|hx|hx
 ·rcases ap.own hx with h|h
  ·exact .inr (ap.o1 b h)
  ·exact .inl h
 ·exact .inr (ap.m2 b hx)
 ·exact .inr (ap.k2 b hx)
theorem Apart.goes1 (ap:Apart p E1 h1 E2 h2 M N) (i:Nat):GoesOn E1 h1 (joinE p E1 E2 M N) (h1++h2) i:=by
 unfold GoesOn;cases e:hget h1 i with
 |none=>trivial
 |some o=>
  have hp:=ap.n1 i (by simp [e]);rw [ap.get1 hp,e];cases o<;>simp [joinE,hp]
theorem Apart.goes2 (ap:Apart p E1 h1 E2 h2 M N) (i:Nat):GoesOn E2 h2 (joinE p E1 E2 M N) (h1++h2) i:=by
 unfold GoesOn;cases e:hget h2 i with
 |none=>trivial
 |some o=>
  have hp:=ap.n2 i (by simp [e]);rw [ap.get2 hp,e];cases o<;>simp [joinE,hp]
theorem RepObj.move {E E':Env} {h h':AHeap} {i:Nat} {o:AObj} (hO:E'.O i=E.O i) (hC:E'.C i=E.C i) (hX:∀b,Xs E' h' b->Xs E h b) (hg:∀j,GoesOn E h E' h' j) (hr:RepObj w E h i o):RepObj w E' h' i o:=by
 cases o with
 |var cs=>
  simp only [RepObj,hO] at hr ⊢;obtain ⟨b,c,T,fz,g1,g2,g3,g4⟩:=hr;exact ⟨b,c,T,fz,g1,g2,Reps.step (λb _=>hX b) (λ_ _ _=>rfl) _ _ (λj _=>hg j) g3,g4⟩
 |tvar tt cs=>
  simp only [RepObj,hO] at hr ⊢;obtain ⟨b,c,T,fz,g1,g2,g3,g4⟩:=hr;exact ⟨b,c,T,fz,g1,g2,Reps.step (λb _=>hX b) (λ_ _ _=>rfl) _ _ (λj _=>hg j) g3,g4⟩
 |arr k xs=>
  simp only [RepObj,hO,hC] at hr ⊢;rcases hr with g|⟨b,c,T,fz,g1,g2,g3,g4,g5,g6⟩
  ·exact .inl g
  ·exact .inr ⟨b,c,T,fz,g1,g2,g3,g4,RepRows.step (λb _=>hX b) (λ_ _ _=>rfl) _ _ _ g5,g6⟩
 |buf tt xs=>
  simp only [RepObj,hO,hC] at hr ⊢;rcases hr with g|⟨b,c,T,fz,g1,g2,g3,g4,g5,g6⟩
  ·exact .inl g
  ·exact .inr ⟨b,c,T,fz,g1,g2,g3,g4,g5,g6⟩
 |strit l q=>simp only [RepObj,hO] at hr ⊢;exact hr
 |omap es=>simp only [RepObj,hO] at hr ⊢;exact hr
theorem Apart.sat (ap:Apart p E1 h1 E2 h2 M N) (hs1:SatH E1 h1 w) (hs2:SatH E2 h2 w) (hM:∀b,M b->b<w.heap.size) (hN:∀b,N b->b<w.heap.size):SatH (joinE p E1 E2 M N) (h1++h2) w where
 heap:=λi o ho=>by
  by_cases hp:p i=true
  ·rw [ap.get1 hp] at ho;exact RepObj.move (by simp [joinE,hp]) (by simp [joinE,hp]) (λ_=>ap.xs1) ap.goes1 (hs1.heap i o ho)
  ·have hp':p i=false:=by simpa using hp
   rw [ap.get2 hp'] at ho;exact RepObj.move (by simp [joinE,hp']) (by simp [joinE,hp']) (λ_=>ap.xs2) ap.goes2 (hs2.heap i o ho)
 inj:=λi j b hi hj h1' h2'=>by
  have key:∀i j,p i=true->p j=false->(hget (h1++h2) i).isSome->(hget (h1++h2) j).isSome->(joinE p E1 E2 M N).O i=some b->(joinE p E1 E2 M N).O j=some b->False:=by
   intro i j hpi hpj hi hj e1 e2;rw [ap.get1 hpi] at hi;rw [ap.get2 hpj] at hj;have o1:Own E1 h1 b:=⟨i,hi,by simpa [joinE,hpi] using e1⟩
   have o2:Own E2 h2 b:=⟨j,hj,by simpa [joinE,hpj] using e2⟩
   have:=hs2.own b o2;exact (ap.o1 b o1).elim this.2.1 this.2.2
  by_cases hpi:p i=true
  ·by_cases hpj:p j=true
   ·rw [ap.get1 hpi] at hi;rw [ap.get1 hpj] at hj;exact hs1.inj i j b hi hj (by simpa [joinE,hpi] using h1') (by simpa [joinE,hpj] using h2')
   ·exact (key i j hpi (by simpa using hpj) hi hj h1' h2').elim
  ·have hpi':p i=false:=by simpa using hpi
   by_cases hpj:p j=true
   ·exact (key j i hpj hpi' hj hi h2' h1').elim
   ·have hpj':p j=false:=by simpa using hpj
    rw [ap.get2 hpi'] at hi;rw [ap.get2 hpj'] at hj;exact hs2.inj i j b hi hj (by simpa [joinE,hpi'] using h1') (by simpa [joinE,hpj'] using h2')
 own:=λb hb=>by
  rcases ap.own hb with ho|ho
  ·have:=hs1.own b ho;exact ⟨this.1,λhm=>(ap.m1 b hm).elim this.2.1 this.2.2,λhn=>(ap.k1 b hn).elim this.2.1 this.2.2⟩
  ·have:=hs2.own b ho;exact ⟨this.1,λhm=>(ap.m2 b hm).elim this.2.1 this.2.2,λhn=>(ap.k2 b hn).elim this.2.1 this.2.2⟩
 mlt:=hM
 nlt:=hN
end
theorem ACall.frame {f:FuncId} {args:List AV} {fl fl':Nat} {K:AV->AHeap->Prop} (hc:ACall P f fl args (hsel p h) K) (hfl:∀i,(hget h i).isSome->i<fl) (hp:∀i,fl<=i->p i=true) (hcl:zhI p h) (ha:∀j∈AV.idsL args,p j=true) (hle:fl'<=fl)
  (hk:∀r h',K r h'->(∀i,(hget h i).isSome->p i=true->(hget h' i).isSome)/\(∀i,(hget h' i).isSome->p i=true)):
  ACallAt P fl' f args h (λr h'=>∃h1,K r h1/\h'=h1++hsel (λi=> !p i) h):=by
 refine ⟨hc.1,λE w vs hs hr=>?_⟩;have hsp:SatH E (hsel p h) w:=znG hs hcl;let E1:Env:= { O:=E.O,C:=E.C,M:=E.M,N:=λb=>E.N b\/Own E (hsel (λi=> !p i) h) b }
 have hown:∀b,Own E (hsel p h) b->¬Own E (hsel (λi=> !p i) h) b:=by
  rintro b ⟨i,hi,hb⟩ ⟨j,hj,hb'⟩;rw [zx] at hi hj;split at hi
  ·rename_i hpi;split at hj
   ·rename_i hpj;have:=hs.inj i j b hi hj hb hb';subst this;rw [hpi] at hpj;cases hpj
   ·simp at hj
  ·simp at hi
 have hX:∀b,Xs E1 (hsel p h) b->Xs E h b:=by
  rintro b (hx|hx|hx|hx)
  ·exact .inl (zY hx)
  ·exact .inr (.inl hx)
  ·exact .inr (.inr hx)
  ·exact .inl (zY hx)
 have hgo2:∀j,p j=true->GoesOn E h E1 (hsel p h) j:=λj hj=>by unfold GoesOn;rw [zx,if_pos hj];split<;>simp_all [E1]
 have hs1:SatH E1 (hsel p h) w:=by
  refine ⟨λi o ho=>?_,hsp.inj,λb hb=>?_,hs.mlt,λb hb=>?_⟩
  ·have ho':=ho;rw [zx] at ho';split at ho'
   ·rename_i hpi;have:=hs.heap i o ho';have hids:=hcl i o ho' hpi;cases o with
    |var cs=>
     simp only [RepObj] at this ⊢;obtain ⟨b,c,T,fz,g1,g2,g3,g4⟩:=this;exact ⟨b,c,T,fz,g1,g2,Reps.step (λb _=>hX b) (λ_ _ _=>rfl) _ _ (λj hj=>hgo2 j (hids j hj)) g3,g4⟩
    |tvar tt cs=>
     simp only [RepObj] at this ⊢;obtain ⟨b,c,T,fz,g1,g2,g3,g4⟩:=this;exact ⟨b,c,T,fz,g1,g2,Reps.step (λb _=>hX b) (λ_ _ _=>rfl) _ _ (λj hj=>hgo2 j (hids j hj)) g3,g4⟩
    |arr k xs=>
     simp only [RepObj] at this ⊢;rcases this with g|⟨b,c,T,fz,g1,g2,g3,g4,g5,g6⟩
     ·exact .inl g
     ·exact .inr ⟨b,c,T,fz,g1,g2,g3,g4,RepRows.step (λb _=>hX b) (λ_ _ _=>rfl) _ _ _ g5,g6⟩
    |buf tt xs=>
     simp only [RepObj] at this ⊢;rcases this with g|⟨b,c,T,fz,g1,g2,g3,g4,g5,g6⟩
     ·exact .inl g
     ·exact .inr ⟨b,c,T,fz,g1,g2,g3,g4,g5,g6⟩
    |strit l q=>exact this
    |omap es=>exact this
   ·cases ho'
  ·have:=hsp.own b hb;exact ⟨this.1,this.2.1,λhn=>hn.elim this.2.2 (hown b hb)⟩
  ·exact hb.elim (hs.nlt b) (λh=>(hs.own b (zY h)).1)
 have hr1:Reps w E1 (hsel p h) args vs.toList:=Reps.step (λb _=>hX b) (λ_ _ _=>rfl) _ _ (λj hj=>hgo2 j (ha j hj)) hr;refine (hc.2 E1 w vs hs1 hr1).mono ?_;rintro e w' ⟨v,E',r,h',rfl,hK,hs',hr',hev⟩;obtain ⟨hk1,hk2⟩:=hk r h' hK;obtain ⟨q,hq⟩:∃q:Nat->Bool,q=λi=> !p i:=⟨_,rfl⟩
 obtain ⟨E2,hE2⟩:∃E2:Env,E2=joinE p E' E E.M E.N:=⟨_,rfl⟩
 have hg1:∀i,p i=true->hget (h'++hsel (λi=> !p i) h) i=hget h' i:=λi hi=>by rw [zcP,zx];simp [hi]
 have hg2:∀i,p i=false->hget (h'++hsel (λi=> !p i) h) i=hget h i:=λi hi=>by
  have hn:hget h' i=none:=by
   cases e:hget h' i with
   |none=>rfl
   |some o=>have:=hk2 i (by simp [e]);rw [hi] at this;cases this
  rw [zcP,zx,hn];simp [hi]
 have hO1:∀i,p i=true->E2.O i=E'.O i/\E2.C i=E'.C i:=λi hi=>by rw [hE2];simp [joinE,hi]
 have hO2:∀i,p i=false->E2.O i=E.O i/\E2.C i=E.C i:=λi hi=>by rw [hE2];simp [joinE,hi]
 have hM2:E2.M=E.M:=by rw [hE2];rfl
 have hN2:E2.N=E.N:=by rw [hE2];rfl
 have hnown':∀b,Own E' h' b->¬Own E (hsel (λi=> !p i) h) b:=λb hb ho=>by have:=(hs'.own b hb).2.2;rw [hev.n] at this;exact this (.inr ho)
 have hown2:∀b,Own E2 (h'++hsel (λi=> !p i) h) b->Own E' h' b\/Own E (hsel (λi=> !p i) h) b:=by
  rintro b ⟨i,hi,hb⟩;by_cases hpi:p i=true
  ·rw [hg1 i hpi] at hi;exact .inl ⟨i,hi,by rw [<-(hO1 i hpi).1];exact hb⟩
  ·have hpi':p i=false:=by simpa using hpi
   rw [hg2 i hpi'] at hi;exact .inr ⟨i,by rw [zx];simpa [hpi'] using hi,by rw [<-(hO2 i hpi').1];exact hb⟩
 have hkeep:∀b,b<w.heap.size->¬Own E (hsel p h) b->w'.heap[b]?=w.heap[b]?:=λb hb ho=>hev.keep b hb ho
 have hXb:∀b,b<w.heap.size->Xs E2 (h'++hsel (λi=> !p i) h) b->Xs E h b:=by
  rintro b hb (hx|hx|hx)
  ·rcases hown2 b hx with hx|hx
   ·exact (hev.own b hx).elim (λh=> .inl (zY h)) (λh=>by omega)
   ·exact .inl (zY hx)
  ·exact .inr (.inl (by rwa [hM2] at hx))
  ·exact .inr (.inr (by rwa [hN2] at hx))
 have hKb:∀b,b<w.heap.size->¬Xs E h b->w'.heap[b]?=w.heap[b]?:=λb hb hx=>hkeep b hb (λho=>hx (.inl (zY ho)))
 have hgo3:∀j,GoesOn E h E2 (h'++hsel (λi=> !p i) h) j:=by
  intro j;by_cases hj:(hget h j).isSome
  ·by_cases hpj:p j=true
   ·have hgj:=(hev.go j (hfl j hj) (hk1 j hj hpj)).2;unfold GoesOn at hgj ⊢;rw [zx,if_pos hpj] at hgj;rw [hg1 j hpj,(hO1 j hpj).1,(hO1 j hpj).2];exact hgj
   ·have hpj':p j=false:=by simpa using hpj
    unfold GoesOn;rw [hg2 j hpj',(hO2 j hpj').1,(hO2 j hpj').2];split<;>simp_all
  ·unfold GoesOn;split
   ·rename_i cs hh;exact (hj (by simp [hh])).elim
   ·rename_i k xs hh;exact (hj (by simp [hh])).elim
   ·rename_i l p hh;exact (hj (by simp [hh])).elim
   ·rename_i es hh;exact (hj (by simp [hh])).elim
   ·rename_i tt cs hh;exact (hj (by simp [hh])).elim
   ·rename_i tt cs hh;exact (hj (by simp [hh])).elim
   ·trivial
 have hrep:∀x y,Rep w E h x y->Rep w' E2 (h'++hsel (λi=> !p i) h) x y:=λx y hxy=>Rep.step hXb hKb x y (λj _=>hgo3 j) hxy
 have hX1:∀b,Xs E2 (h'++hsel (λi=> !p i) h) b->Xs E' h' b:=by
  rintro b (hx|hx|hx)
  ·rcases hown2 b hx with hx|hx
   ·exact .inl hx
   ·exact .inr (.inr (by rw [hev.n];exact .inr hx))
  ·exact .inr (.inl (by rw [hev.m];rwa [hM2] at hx))
  ·exact .inr (.inr (by rw [hev.n];exact .inl (by rwa [hN2] at hx)))
 have hgo1:∀j,GoesOn E' h' E2 (h'++hsel (λi=> !p i) h) j:=by
  intro j;unfold GoesOn;cases e:hget h' j with
  |none=>trivial
  |some o=>
   have hpj:=hk2 j (by simp [e]);rw [hg1 j hpj,e,(hO1 j hpj).1,(hO1 j hpj).2];cases o<;>simp
 have hlt:∀i o,hget h i=some o->p i=false->∀b,E.O i=some b->b<w.heap.size/\¬Own E (hsel p h) b:=λi o ho hpi b hb=>⟨(hs.own b ⟨i,by simp [ho],hb⟩).1,by
  rintro ⟨j,hj,hb'⟩;rw [zx] at hj;split at hj
  ·rename_i hpj;have:=hs.inj i j b (by simp [ho]) hj hb hb';subst this;rw [hpi] at hpj;cases hpj
  ·simp at hj⟩
 refine ⟨v,E2,r,_,rfl,⟨h',hK,rfl⟩,⟨λi o ho=>?_,λi j b hi hj h1' h2'=>?_,λb hb=>?_,λb hb=>?_,λb hb=>?_⟩,?_,?_,hrep⟩
 ·by_cases hpi:p i=true
  ·rw [hg1 i hpi] at ho;exact RepObj.move (hO1 i hpi).1 (hO1 i hpi).2 hX1 hgo1 (hs'.heap i o ho)
  ·have hpi':p i=false:=by simpa using hpi
   rw [hg2 i hpi'] at ho;have:=hs.heap i o ho;have hl:=hlt i o ho hpi';cases o with
   |var cs=>
    simp only [RepObj,(hO2 i hpi').1] at this ⊢;obtain ⟨b,c,T,fz,g1,g2,g3,g4⟩:=this;exact ⟨b,c,T,fz,g1,(hkeep b (hl b g1).1 (hl b g1).2).trans g2,Reps.step hXb hKb _ _ (λj _=>hgo3 j) g3,g4⟩
   |tvar tt cs=>
    simp only [RepObj,(hO2 i hpi').1] at this ⊢;obtain ⟨b,c,T,fz,g1,g2,g3,g4⟩:=this;exact ⟨b,c,T,fz,g1,(hkeep b (hl b g1).1 (hl b g1).2).trans g2,Reps.step hXb hKb _ _ (λj _=>hgo3 j) g3,g4⟩
   |arr k xs=>
    simp only [RepObj,(hO2 i hpi').1,(hO2 i hpi').2] at this ⊢;rcases this with g|⟨b,c,T,fz,g1,g2,g3,g4,g5,g6⟩
    ·exact .inl g
    ·exact .inr ⟨b,c,T,fz,g1,(hkeep b (hl b g1).1 (hl b g1).2).trans g2,g3,g4,RepRows.step hXb hKb _ _ _ g5,g6⟩
   |buf tt xs=>
    simp only [RepObj,(hO2 i hpi').1,(hO2 i hpi').2] at this ⊢;rcases this with g|⟨b,c,T,fz,g1,g2,g3,g4,g5,g6⟩
    ·exact .inl g
    ·exact .inr ⟨b,c,T,fz,g1,(hkeep b (hl b g1).1 (hl b g1).2).trans g2,g3,g4,g5,g6⟩
   |strit l q=>
    simp only [RepObj,(hO2 i hpi').1] at this ⊢;obtain ⟨b,g1,g2⟩:=this;exact ⟨b,g1,(hkeep b (hl b g1).1 (hl b g1).2).trans g2⟩
   |omap es=>
    simp only [RepObj,(hO2 i hpi').1] at this ⊢;obtain ⟨b,m,cl,g1,g2,g3⟩:=this;exact ⟨b,m,cl,g1,(hkeep b (hl b g1).1 (hl b g1).2).trans g2,g3⟩
 ·have key:∀i j,p i=true->p j=false->(hget (h'++hsel (λi=> !p i) h) i).isSome->(hget (h'++hsel (λi=> !p i) h) j).isSome->E2.O i=some b->E2.O j=some b->False:=by intro i j hpi hpj hi hj e1 e2;rw [hg1 i hpi] at hi;rw [hg2 j hpj] at hj;exact hnown' b ⟨i,hi,by rw [<-(hO1 i hpi).1];exact e1⟩ ⟨j,by rw [zx];simpa [hpj] using hj,by rw [<-(hO2 j hpj).1];exact e2⟩
  by_cases hpi:p i=true
  ·by_cases hpj:p j=true
   ·rw [hg1 i hpi] at hi;rw [hg1 j hpj] at hj;exact hs'.inj i j b hi hj (by rw [<-(hO1 i hpi).1];exact h1') (by rw [<-(hO1 j hpj).1];exact h2')
   ·exact (key i j hpi (by simpa using hpj) hi hj h1' h2').elim
  ·have hpi':p i=false:=by simpa using hpi
   by_cases hpj:p j=true
   ·exact (key j i hpj hpi' hj hi h2' h1').elim
   ·have hpj':p j=false:=by simpa using hpj
    rw [hg2 i hpi'] at hi;rw [hg2 j hpj'] at hj;exact hs.inj i j b hi hj (by rw [<-(hO2 i hpi').1];exact h1') (by rw [<-(hO2 j hpj').1];exact h2')
 ·rw [hM2,hN2];rcases hown2 b hb with ho|ho
  ·have:=hs'.own b ho;rw [hev.m,hev.n] at this;exact ⟨this.1,this.2.1,λhn=>this.2.2 (.inl hn)⟩
  ·have:=hs.own b (zY ho);exact ⟨Nat.lt_of_lt_of_le this.1 hev.size,this.2⟩
 ·rw [hM2] at hb;exact Nat.lt_of_lt_of_le (hs.mlt b hb) hev.size
 ·rw [hN2] at hb;exact Nat.lt_of_lt_of_le (hs.nlt b hb) hev.size
 ·exact Rep.step (λb _=>hX1 b) (λ_ _ _=>rfl) r v (λj _=>hgo1 j) hr'
 ·refine ⟨hev.os,hev.tape,hev.output,hev.size,λb hb ho=>hkeep b hb (λh=>ho (zY h)),λb hb=>?_,hM2,hN2,λi hi hl=>⟨?_,hgo3 i⟩⟩
  ·rcases hown2 b hb with ho|ho
   ·exact (hev.own b ho).imp zY id
   ·exact .inl (zY ho)
  ·by_cases hpi:p i=true
   ·rw [hg1 i hpi] at hl;have:=(hev.go i (by omega) hl).1;rw [zx,if_pos hpi] at this;exact this
   ·rw [hg2 i (by simpa using hpi)] at hl;exact hl
theorem ACall.whole {f:FuncId} {args:List AV} {fl fl':Nat} {K:AV->AHeap->Prop} (hc:ACall P f fl args h K) (hfl:∀i,(hget h i).isSome->i<fl) (hle:fl'<=fl) (hk:∀r h',K r h'->∀i,(hget h i).isSome->(hget h' i).isSome):ACallAt P fl' f args h K:=by
 refine ⟨hc.1,λE w vs hs hr=>(hc.2 E w vs hs hr).mono ?_⟩;rintro e w' ⟨v,E',r,h',h1,h2,h3,h4,h5⟩;refine ⟨v,E',r,h',h1,h2,h3,h4,⟨h5.os,h5.tape,h5.output,h5.size,h5.keep,h5.own,h5.m,h5.n,λi hi hs'=>h5.go i (by omega) hs'⟩,λx y hxy=>?_⟩;refine Rep.step (λb hb hx=>?_) (λb hb hx=>h5.keep b hb (λho=>hx (.inl ho))) x y (λj _=>?_) hxy
 ·rcases hx with hx|hx|hx
  ·exact (h5.own b hx).elim .inl (λh=>by omega)
  ·exact .inr (.inl (by rwa [h5.m] at hx))
  ·exact .inr (.inr (by rwa [h5.n] at hx))
 ·by_cases hj:(hget h j).isSome
  ·exact (h5.go j (hfl j hj) (hk _ _ h2 j hj)).2
  ·unfold GoesOn;split
   ·rename_i cs hh;exact (hj (by simp [hh])).elim
   ·rename_i k xs hh;exact (hj (by simp [hh])).elim
   ·rename_i l p hh;exact (hj (by simp [hh])).elim
   ·rename_i es hh;exact (hj (by simp [hh])).elim
   ·rename_i tt cs hh;exact (hj (by simp [hh])).elim
   ·rename_i tt cs hh;exact (hj (by simp [hh])).elim
   ·trivial
attribute [go_sem] hsel
end
open Go
mutual
def AV.fz (i:Nat) (o:AObj):AV->AV
 | .osl j k m off len=>if j=i then (match o with
  | .arr k' xs=>if k=k'/\m=xs.length/\off+len<=m then .d (.sl k ((xs.drop off).take len)) else .any
  |_=> .any) else .osl j k m off len
 | .ap j n k r off=>if j=i then .any else .ap j n k r off
 | .vp j off=>if j=i then (match o with
  | .var cs=>if ((AV.idsL cs).all λl=>l !=i)=true then .dp (cs.drop off) else .any
  |_=> .any) else .vp j off
 | .vsl j k off len=>if j=i then .any else .vsl j k off len
 | .map j=>if j=i then .any else .map j
 | .itr j=>if j=i then .any else .itr j
 | .agg cs=> .agg (AV.fzL i o cs)
 | .tup cs=> .tup (AV.fzL i o cs)
 | .dp cs=> .dp (AV.fzL i o cs)
 | .fn f fs cs=> .fn f (AV.fzL i o fs) (AV.fzL i o cs)
 | .asl k rows=> .asl k (AV.fzR i o rows)
 | .iface t v=> .iface t (v.fz i o)
 | .d x=> .d x
 | .nils k=> .nils k
 | .nilfn=> .nilfn
 | .any=> .any
 | .nilmap=> .nilmap
 | .raw v=> .raw v
 | .tp j off=>if j=i then .any else .tp j off
 | .bsl j n=>if j=i then .any else .bsl j n
def AV.fzL (i:Nat) (o:AObj):List AV->List AV
 | []=> []
 |x::xs=>x.fz i o::AV.fzL i o xs
def AV.fzR (i:Nat) (o:AObj):List (List AV)->List (List AV)
 | []=> []
 |x::xs=>AV.fzL i o x::AV.fzR i o xs
end
def AObj.fz (i:Nat) (o:AObj):AObj->AObj
 | .var cs=> .var (AV.fzL i o cs)
 | .tvar t cs=> .tvar t (AV.fzL i o cs)
 |x=>x
def hfz (i:Nat) (o:AObj):AHeap->AHeap
 | []=> []
 |(j,x)::r=>if j=i then hfz i o r else (j,AObj.fz i o x)::hfz i o r
def tfz (i:Nat) (o:AObj):List (Nat×(Bool×AV))->List (Nat×(Bool×AV))
 | []=> []
 |(k,(g,v))::r=>(k,(g,v.fz i o))::tfz i o r
theorem zl9:∀ {cs:List AV} {n l:Nat},l∈AV.idsL (cs.drop n)->l∈AV.idsL cs
 | [],n,l,h=>by simpa using h
 |x::xs,0,l,h=>h
 |x::xs,n+1,l,h=>by simp only [AV.idsL,List.mem_append];exact .inr (zl9 h)
theorem zfI (i:Nat) (o:AObj):∀cs:List AV,(AV.fzL i o cs).length=cs.length
 | []=>rfl
 |x::xs=>by simp [AV.fzL,zfI i o xs]
theorem zg9 (i:Nat) (o:AObj):∀cs:List (List AV),(AV.fzR i o cs).length=cs.length
 | []=>rfl
 |x::xs=>by simp [AV.fzR,zg9 i o xs]
theorem zeb (i:Nat) (o:AObj):∀ (h:AHeap) (j:Nat),hget (hfz i o h) j=if j=i then none else (hget h j).map (AObj.fz i o)
  | [],j=>by simp [hfz,hget]
  | (k,x)::r,j=>by
    simp only [hfz,hget];by_cases hk:k=i
    · rw [if_pos hk,zeb i o r j]
      by_cases hj:j=i
      · simp [hj]
      · rw [if_neg hj,if_neg hj,if_neg (by rintro rfl;exact hj hk)]
    · rw [if_neg hk]
      simp only [hget];by_cases hkj:k=j
      · subst hkj;simp [hk]
      · rw [if_neg hkj,if_neg hkj];exact zeb i o r j
theorem zv9 (i:Nat) (o:AObj):∀ (t:List (Nat×(Bool×AV))) (k:Nat),lk (tfz i o t) k=(lk t k).map λq=>(q.1,q.2.fz i o)
  | [],k=>by simp [tfz,lk]
  | (j,(g,v))::r,k=>by
    simp only [tfz,lk];by_cases e:j=k
    · simp [e]
    · simp only [e,if_false];exact zv9 i o r k
section
variable {w : World} {E : Env} {h : AHeap} {i : Nat} {o : AObj}
theorem zem (j:Nat) (hj:j≠i):GoesOn E h E (hfz i o h) j:=by
 unfold GoesOn;rw [zeb,if_neg hj];cases e:hget h j with
 |none=>trivial
 |some x=>cases x<;>simp [AObj.fz,zfI]
theorem zma {b:Nat} (ho:Own E (hfz i o h) b):Own E h b:=by
 obtain ⟨j,hj,hb⟩:=ho;rw [zeb] at hj;split at hj
 ·simp at hj
 ·exact ⟨j,by simpa using hj,hb⟩
theorem fz_xs {b:Nat} (ho:Xs E (hfz i o h) b):Xs E h b:=ho.imp zma id
theorem zrS (hs:SatH E h w) (hi:hget h i=some o) {b:Nat} (hb:E.O i=some b):¬Xs E (hfz i o h) b:=by
 have ho:Own E h b:=⟨i,by simp [hi],hb⟩
 have:=hs.own b ho;rintro (hx|hx|hx)
 ·obtain ⟨j,hj,hb'⟩:=hx;rw [zeb] at hj;split at hj
  ·simp at hj
  ·rename_i hne;exact hne (hs.inj j i b (by simpa using hj) (by simp [hi]) hb' hb)
 ·exact this.2.1 hx
 ·exact this.2.2 hx
mutual
theorem zrT (hs:SatH E h w) (hi:hget h i=some o):∀ (a:AV) (v:Value),Rep w E h a v->Rep w E (hfz i o h) (a.fz i o) v
 | .osl j k m off len,v,hr=>by
  simp only [AV.fz];split
  ·rename_i e;subst e;split
   ·rename_i k' xs;split
    ·rename_i hc;obtain ⟨rfl,rfl,hle⟩:=hc;simp only [Rep,RepD] at hr ⊢;obtain ⟨_,xs',h1,_,h3,h4⟩:=hr;rw [hi] at h1;cases h1;have hlen:((xs.drop off).take len).length=len:=by simp;omega
     have hob:=hs.heap j _ hi;simp only [RepObj] at hob;rcases h4 rfl with ⟨⟨g1,g10⟩,rfl⟩|⟨b,g1,rfl⟩|⟨g1,rfl,a,cap,rfl⟩
     ·obtain rfl:xs= []:=List.length_eq_zero_iff.1 g10;exact .inl ⟨by simp,none,0,rfl⟩
     ·rcases hob with ⟨q1,_⟩|⟨b',c,T,fz,q1,q2,q3,q4,q5,_⟩
      ·rw [g1] at q1;cases q1
      ·rw [g1] at q1;cases q1;exact .inr ⟨⟨b,off*k,none⟩,E.C j - off,c,T,fz,by rw [hlen],rfl,by rw [hlen];omega,zrS hs hi g1,q2,RepRows.step (λ_ _=>fz_xs) (λ_ _ _=>rfl) _ _ _ ((RepRows.drop q5 off).take len)⟩
     ·exact .inl ⟨by simp,a,cap,rfl⟩
    ·simp only [Rep]
   ·simp only [Rep]
  ·rename_i e;exact Rep.step (λ_ _=>fz_xs) (λ_ _ _=>rfl) (.osl j k m off len) v (λl hl=>by simp only [AV.ids,List.mem_singleton] at hl;subst hl;exact zem _ e) hr
 | .ap j n k r off,v,hr=>by
  simp only [AV.fz];split
  ·simp only [Rep]
  ·rename_i e;exact Rep.step (λ_ _=>fz_xs) (λ_ _ _=>rfl) (.ap j n k r off) v (λl hl=>by simp only [AV.ids,List.mem_singleton] at hl;subst hl;exact zem _ e) hr
 | .vp j off,v,hr=>by
  simp only [AV.fz];split
  ·rename_i e;subst e;split
   ·rename_i cs;split
    ·rename_i hc;simp only [Rep] at hr ⊢;obtain ⟨b,cs',g1,g2,rfl⟩:=hr;rw [hi] at g1;cases g1;have hob:=hs.heap j _ hi;simp only [RepObj] at hob;obtain ⟨b',c,T,fz,q1,q2,q3,q4⟩:=hob;rw [g2] at q1;cases q1;have h5:=Reps.drop q3 off;have hl:=Reps.length h5;refine ⟨⟨b,off,none⟩,c,T,fz,rfl,rfl,zrS hs hi g2,q2,?_⟩;rw [List.take_of_length_le (Nat.le_of_eq hl)]
     exact Reps.step (λ_ _=>fz_xs) (λ_ _ _=>rfl) _ _ (λl hl=>zem _ (by have:=List.all_eq_true.1 hc l (zl9 hl);simpa using this)) h5
    ·simp only [Rep]
   ·simp only [Rep]
  ·rename_i e;exact Rep.step (λ_ _=>fz_xs) (λ_ _ _=>rfl) (.vp j off) v (λl hl=>by simp only [AV.ids,List.mem_singleton] at hl;subst hl;exact zem _ e) hr
 | .tp j off,v,hr=>by
  simp only [AV.fz];split
  ·simp only [Rep]
  ·rename_i e;exact Rep.step (λ_ _=>fz_xs) (λ_ _ _=>rfl) (.tp j off) v (λl hl=>by simp only [AV.ids,List.mem_singleton] at hl;subst hl;exact zem _ e) hr
 | .bsl j n,v,hr=>by
  simp only [AV.fz];split
  ·simp only [Rep]
  ·rename_i e;exact Rep.step (λ_ _=>fz_xs) (λ_ _ _=>rfl) (.bsl j n) v (λl hl=>by simp only [AV.ids,List.mem_singleton] at hl;subst hl;exact zem _ e) hr
 | .vsl j k off len,v,hr=>by
  simp only [AV.fz];split
  ·simp only [Rep]
  ·rename_i e;exact Rep.step (λ_ _=>fz_xs) (λ_ _ _=>rfl) (.vsl j k off len) v (λl hl=>by simp only [AV.ids,List.mem_singleton] at hl;subst hl;exact zem _ e) hr
 | .map j,v,hr=>by
  simp only [AV.fz];split
  ·simp only [Rep]
  ·rename_i e;exact Rep.step (λ_ _=>fz_xs) (λ_ _ _=>rfl) (.map j) v (λl hl=>by simp only [AV.ids,List.mem_singleton] at hl;subst hl;exact zem _ e) hr
 | .itr j,v,hr=>by
  simp only [AV.fz];split
  ·simp only [Rep]
  ·rename_i e;exact Rep.step (λ_ _=>fz_xs) (λ_ _ _=>rfl) (.itr j) v (λl hl=>by simp only [AV.ids,List.mem_singleton] at hl;subst hl;exact zem _ e) hr
 | .agg cs,v,hr=>by simp only [AV.fz,Rep] at hr ⊢;obtain ⟨vs,h1,h2⟩:=hr;exact ⟨vs,h1,zeQ hs hi cs _ h2⟩
 | .tup cs,v,hr=>by simp only [AV.fz,Rep] at hr ⊢;obtain ⟨vs,h1,h2⟩:=hr;exact ⟨vs,h1,zeQ hs hi cs _ h2⟩
 | .dp cs,v,hr=>by simp only [AV.fz,Rep] at hr ⊢;obtain ⟨a,c,T,fz,h1,h2,h3,h4,h5⟩:=hr;exact ⟨a,c,T,fz,h1,h2,λhx=>h3 (fz_xs hx),h4,by rw [zfI];exact zeQ hs hi cs _ h5⟩
 | .fn f fs cs,v,hr=>by simp only [AV.fz,Rep] at hr ⊢;obtain ⟨a,b,h1,h2,h3⟩:=hr;exact ⟨a,b,h1,zeQ hs hi fs _ h2,zeQ hs hi cs _ h3⟩
 | .asl k rows,v,hr=>by simp only [AV.fz,Rep] at hr ⊢;obtain ⟨a,cap,c,T,fz,h1,h2,h3,h4,h5,h6⟩:=hr;exact ⟨a,cap,c,T,fz,by rw [zg9];exact h1,h2,by rw [zg9];exact h3,λhx=>h4 (fz_xs hx),h5,zrU hs hi k rows _ h6⟩
 | .iface t x,v,hr=>by simp only [AV.fz,Rep] at hr ⊢;obtain ⟨y,h1,h2⟩:=hr;exact ⟨y,h1,zrT hs hi x y h2⟩
 | .d x,v,hr=>by simp only [AV.fz,Rep] at hr ⊢;exact RepD.step (λ_ _=>fz_xs) (λ_ _ _=>rfl) x v hr
 | .nils k,v,hr=>by simpa only [AV.fz,Rep] using hr
 | .nilfn,v,hr=>by simpa only [AV.fz,Rep] using hr
 | .any,v,hr=>by simp only [AV.fz,Rep]
 | .nilmap,v,hr=>by simpa only [AV.fz,Rep] using hr
 | .raw _,v,hr=>by simpa only [AV.fz,Rep] using hr
theorem zeQ (hs:SatH E h w) (hi:hget h i=some o):∀ (aZ:List AV) (vs:List Value),Reps w E h aZ vs->Reps w E (hfz i o h) (AV.fzL i o aZ) vs
 | [],vs,hr=>by simpa only [AV.fzL,Reps] using hr
 |x::xs,vs,hr=>by simp only [AV.fzL,Reps] at hr ⊢;obtain ⟨v,r,h1,h2,h3⟩:=hr;exact ⟨v,r,h1,zrT hs hi x v h2,zeQ hs hi xs r h3⟩
theorem zrU (hs:SatH E h w) (hi:hget h i=some o) (k:Nat):∀ (aZ:List (List AV)) (vs:List Value),RepARows w E h k aZ vs->RepARows w E (hfz i o h) k (AV.fzR i o aZ) vs
 | [],vs,hr=>by simp only [AV.fzR,RepARows]
 |x::xs,vs,hr=>by simp only [AV.fzR,RepARows] at hr ⊢;exact ⟨by rw [zfI];exact hr.1,zeQ hs hi x _ hr.2.1,zrU hs hi k xs _ hr.2.2⟩
end
theorem zyb (hs:SatH E h w) (hi:hget h i=some o):SatH E (hfz i o h) w where
 heap:=λj x hx=>by
  rw [zeb] at hx;split at hx
  ·cases hx
  ·obtain ⟨y,hy,rfl⟩:=Option.map_eq_some_iff.1 hx;have:=hs.heap j y hy;cases y with
   |var cs=>
    simp only [AObj.fz,RepObj] at this ⊢;obtain ⟨b,c,T,fz,g1,g2,g3,g4⟩:=this;exact ⟨b,c,T,fz,g1,g2,zeQ hs hi _ _ g3,g4⟩
   |tvar tt cs=>
    simp only [AObj.fz,RepObj] at this ⊢;obtain ⟨b,c,T,fz,g1,g2,g3,g4⟩:=this;exact ⟨b,c,T,fz,g1,g2,zeQ hs hi _ _ g3,g4⟩
   |arr k xs=>
    simp only [AObj.fz,RepObj] at this ⊢;rcases this with g|⟨b,c,T,fz,g1,g2,g3,g4,g5,g6⟩
    ·exact .inl g
    ·exact .inr ⟨b,c,T,fz,g1,g2,g3,g4,RepRows.step (λ_ _=>fz_xs) (λ_ _ _=>rfl) _ _ _ g5,g6⟩
   |buf tt xs=>
    simp only [AObj.fz,RepObj] at this ⊢;rcases this with g|⟨b,c,T,fz,g1,g2,g3,g4,g5,g6⟩
    ·exact .inl g
    ·exact .inr ⟨b,c,T,fz,g1,g2,g3,g4,g5,g6⟩
   |strit l q=>exact this
   |omap es=>exact this
 inj:=λa b c ha hb=>by
  rw [zeb] at ha hb;split at ha
  ·simp at ha
  ·split at hb
   ·simp at hb
   ·exact hs.inj a b c (by simpa using ha) (by simpa using hb)
 own:=λb hb=>hs.own b (zma hb)
 mlt:=hs.mlt
 nlt:=hs.nlt
def AS.fz (s:AS) (i:Nat) (o:AObj):AS:= { t:=tfz i o s.t,h:=hfz i o s.h,g:=s.g }
theorem zaN {cx:Cx} {c:Code} {Q:Exit→AS→Prop} {s:AS} (i:Nat) {o:AObj} (hi:hget s.h i=some o) (h:AW cx c Q (s.fz i o)):AW cx c Q s:=fun E a w hs=>by
  have hs':Sat cx E (s.fz i o) a w:=
    { slots:=fun k g v hk=>by
        have hk':lk (tfz i o s.t) k=some (g,v):=hk
        rw [zv9] at hk'
        obtain ⟨q,hq,e⟩:=Option.map_eq_some_iff.1 hk'
        obtain ⟨g',v'⟩:=q
        simp only [Prod.mk.injEq] at e
        obtain ⟨rfl,rfl⟩:=e
        obtain ⟨x,h1,h2,h3⟩:=hs.slots k g' v' hq
        exact ⟨x,h1,fun e=>zrT hs.hp hi v' x (h2 e),h3⟩
      nt:=hs.nt
      hp:=zyb hs.hp hi
      base:=hs.base
      marks:=hs.marks
      ghost:=cx.stab _ _ _ _ _ w _ (fun _ _ _=>rfl) (fun _ hb=> .inl (hb.imp zma id)) (fun b hb=>hb.elim (fun h=>(hs.hp.own b (zma h)).1) hs.marks.lt) (Nat.le_refl _) rfl rfl rfl hs.ghost }
  refine wpIn_mono (h E a w hs') (fun _ _ _ hr=>hr.trans ?_)
  exact ⟨rfl,rfl,rfl,Nat.le_refl _,fun _ _ _ _=>rfl,fun b hb=> .inl (zma hb),fun _ h=>h,fun _ h=> .inl h,rfl,fun j _ hj=>by
    have hj':(hget (hfz i o s.h) j).isSome:=hj
    rw [zeb] at hj'
    split at hj'
    · simp at hj'
    · rename_i hne
      exact ⟨by simpa using hj',zem j hne⟩⟩
theorem zds {cx:Cx} {c:Code} {Q:Exit->AS->Prop} {s:AS} (t:Nat) (k:Nat) (hk:lk s.t t=some (true,.nils k)) (h:AW cx c Q { s with t:=(t,(true,.osl (fresh cx.fl s.h) k 0 0 0))::s.t,h:=(fresh cx.fl s.h,.arr k [])::s.h }):AW cx c Q s:=λE a w hs=>by
  have cc:Chg E s.h w (E.set (fresh cx.fl s.h) none 0) ((fresh cx.fl s.h,.arr k [])::s.h) w (fresh cx.fl s.h):=
    { os:=rfl,tape:=rfl,output:=rfl,size:=Nat.le_refl _,envO:=λj e=>by simp [Env.set,e],envC:=λj e=>by simp [Env.set,e],M:=rfl,N:=rfl,hh:=λj e=>by simp [hget,Ne.symm e],
      gi:=by simp [GoesOn,zcO]
      blk:=λb hb _=>rfl
      new:=λb _ hb=>by simp [Env.set] at hb }
  have hs1:=cc.sat (t:=s.t) (g:=s.g) hs (λo ho=>by simp [hget] at ho;subst ho;simp only [RepObj];exact .inl ⟨by simp [Env.set],.inl trivial⟩)
  obtain ⟨x,h1,h2,h3⟩:=hs.slots t true _ hk;have hx:x= .slice none 0 0:=by have:=h2 rfl;simpa only [Rep] using this
  subst hx;refine wpIn_mono (h _ a w ⟨λj g v hj=>?_,hs1.nt,hs1.hp,hs1.base,hs1.marks,hs1.ghost⟩) (λ_ _ _ hr=>hr.trans (cc.evo (.inr (zbb _ _))));simp only [lk] at hj;split at hj
  · rename_i e;subst e
    simp only [Option.some.injEq,Prod.mk.injEq] at hj;obtain ⟨rfl,rfl⟩:=hj;refine ⟨_,h1,λ_=>?_,λe=>by cases e⟩;simp only [Rep];exact ⟨⟨_,_,_,rfl⟩,[],by simp [hget],by simp,by simp,λ_=> .inl ⟨by simp [Env.set],trivial⟩⟩
  · exact hs1.slots j g v hj
theorem zir {cx:Cx} {c:Code} {Q:Exit→AS→Prop} {s:AS} (i o k:Nat) {cs:List AV} (hi:hget s.h i=some (.var cs)) (ho:cs[o]?=some (.nils k))
    (h:AW cx c Q { s with h:=(fresh cx.fl s.h,.arr k [])::hset s.h i (.var (cs.set o (.osl (fresh cx.fl s.h) k 0 0 0))) }):AW cx c Q s:=fun E a w hs=>by
  have hne:fresh cx.fl s.h≠i:=fun e=>by
    have:=zcO cx.fl s.h
    rw [e,hi] at this;cases this
  have cc:Chg E s.h w (E.set (fresh cx.fl s.h) none 0) ((fresh cx.fl s.h,.arr k [])::s.h) w (fresh cx.fl s.h):=
    { os:=rfl,tape:=rfl,output:=rfl,size:=Nat.le_refl _,envO:=fun j e=>by simp [Env.set,e],envC:=fun j e=>by simp [Env.set,e],M:=rfl,N:=rfl,hh:=fun j e=>by simp [hget,Ne.symm e],
      gi:=by simp [GoesOn,zcO]
      blk:=fun b hb _=>rfl
      new:=fun b _ hb=>by simp [Env.set] at hb }
  have hs1:=cc.sat (t:=s.t) (g:=s.g) hs (fun o ho=>by
    simp [hget] at ho
    subst ho
    simp only [RepObj]
    exact .inl ⟨by simp [Env.set],.inl trivial⟩)
  have hi1:hget ((fresh cx.fl s.h,.arr k [])::s.h) i=some (.var cs):=by simp [hget,hne,hi]
  have e1:(fresh cx.fl s.h,AObj.arr k [])::hset s.h i (.var (cs.set o (.osl (fresh cx.fl s.h) k 0 0 0)))=hset ((fresh cx.fl s.h,.arr k [])::s.h) i (.var (cs.set o (.osl (fresh cx.fl s.h) k 0 0 0))):=by
    simp [hset,hne]
  obtain ⟨E1,hE1⟩:∃E1,E1=E.set (fresh cx.fl s.h) none 0:=⟨_,rfl⟩
  rw [← hE1] at hs1 cc
  obtain ⟨b,c',T,fz,g1,g2,g3,g4⟩:=hs1.hp.var hi1
  have ch:=znv (w:=w) hs1.hp hi1 (cs':=cs.set o (.osl (fresh cx.fl s.h) k 0 0 0)) (by simp) g1 (.cells c' T fz)
  have hrow:World.row w b (.cells c' T fz)=w:=by
    obtain ⟨hlt,hb'⟩:=Array.getElem?_eq_some_iff.1 g2
    unfold World.row
    rw [← hb',Array.setIfInBounds_def,dif_pos hlt,Array.set_getElem_self]
  rw [hrow] at ch
  have hs2:=ch.sat (t:=s.t) (g:=s.g) hs1 (fun ob hob=>by
    rw [zh hi1] at hob
    cases hob
    simp only [RepObj]
    refine ⟨b,c',T,fz,g1,g2,?_,g4⟩
    have h3:=ch.reps g3
    obtain ⟨v,hv,hr⟩:=Reps.get g3 ho
    simp only [Rep] at hr
    have hset:=h3.set (i:=o) (a:= .osl (fresh cx.fl s.h) k 0 0 0) (v:= .slice none 0 0) (by
      simp only [Rep]
      refine ⟨⟨_,_,_,rfl⟩,[],?_,by simp,by simp,fun _=> .inl ⟨by rw [hE1];simp [Env.set],trivial⟩⟩
      rw [zH (by simpa using hne)]
      simp [hget])
    subst hr
    have:c'.toList.set o (.slice none 0 0)=c'.toList:=by
      apply List.ext_getElem?
      intro j
      rw [List.getElem?_set]
      split
      · rename_i e;subst e
        split
        · exact hv.symm
        · rename_i hlt
          rw [List.getElem?_eq_none (by omega)]
      · rfl
    rw [this] at hset
    exact hset)
  rw [← e1] at hs2 ch
  refine wpIn_mono (h E1 a w hs2) (fun _ _ _ hr=>hr.trans ((cc.evo (.inr (zbb _ _))).trans (ch.evo (.inl (by rw [hi1];rfl)))))
theorem zh0 {p:Nat->Bool} :∀ {h:AHeap},(∀q∈h,p q.1=true)->hsel p h=h
  | [],_=>rfl
  | (k,o)::r,hh=>by simp only [hsel];rw [if_pos (hh (k,o) (by simp)),zh0 (λq hq=>hh q (by simp [hq]))]
end
attribute [go_sem] AS.fz tfz hfz AObj.fz AV.fz AV.fzL AV.fzR List.all_nil List.all_cons List.all_append
end Go.Aw
