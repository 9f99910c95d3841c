/-
  Parts of the proof: StayC, WipeA, StayD, SnapM (short names; the readable texts lie in the repo, under wip).
-/
import Derived.Test.YtbmlikkofegdeaaGreatDoorPiece35
import Derived.Test.YtbmlikkofegdeaaGreatDoorPiece17
import Derived.Test.YtbmlikkofegdeaaGreatDoorPiece33
import Derived.Test.YtbmlikkofegdeaaGreatDoorPiece34
set_option maxRecDepth 100000
set_option maxHeartbeats 2000000
set_option linter.unusedSimpArgs false
set_option linter.unusedVariables false
namespace Go.Aw
open Go Go.Proofs
def inC (c b:Int):Prop:=b=96+2*c\/b=97+2*c
theorem zoC {d:Disk} {p:Plan} {g:Geom} {l i fr:Int} (he:(pfresh d p g l i fr).2.2=0):(rtake d p g).2.2=0/\(pfill d (rtake d p g).1 fr (rtake d p g).2.1).2=0/\(pless d (pfill d (rtake d p g).1 fr (rtake d p g).2.1).1 fr).2=0/\
  (eset d (pless d (pfill d (rtake d p g).1 fr (rtake d p g).2.1).1 fr).1 l i ⟨1,(rtake d p g).2.1⟩).2=0/\pfresh d p g l i fr=((eset d (pless d (pfill d (rtake d p g).1 fr (rtake d p g).2.1).1 fr).1 l i ⟨1,(rtake d p g).2.1⟩).1,(rtake d p g).2.1,0):=by
 unfold pfresh at he ⊢;split at he
 ·rename_i h1;exact absurd he h1
 rename_i h1;rw [if_neg h1];split at he
 ·rename_i h2;exact absurd he h2
 rename_i h2;rw [if_neg h2];split at he
 ·rename_i h3;exact absurd he h3
 rename_i h3;rw [if_neg h3];split at he
 ·rename_i h4;exact absurd he h4
 rename_i h4;rw [if_neg h4];exact ⟨by simpa using h1,by simpa using h2,by simpa using h3,by simpa using h4,rfl⟩
theorem zjl {d:Disk} {p:Plan} {t i:Int} {x:Ent2} (hd:DP d p) (h:(eset d p t i x).2=0) {b:Int} (hb:¬inC t b):plook d (eset d p t i x).1 b=plook d p b:=by obtain ⟨⟨ht,hi⟩,hx,hp,he⟩:=zjf h;unfold inC at hb;rw [he,zcn hp hd.plen,if_neg (by omega)]
theorem zoD {d:Disk} {p:Plan} {fr k:Int} (hd:DP d p) (h:(pfill d p fr k).2=0) {b:Int} (hb:¬inC k b):plook d (pfill d p fr k).1 b=plook d p b:=by
 unfold inC at hb;unfold pfill at h ⊢;split
 ·rename_i hf;rw [if_pos hf] at h;rw [zfA hd h,if_neg hb]
 ·rename_i hf;rw [if_neg hf] at h;obtain ⟨c1,c2,c3,c4,c5,c6,c7⟩:=zeG h;have hdd:DP d (pset p (96+2*k) (plook d p (96+2*fr)).1).1:=⟨hd.d,zbU hd.p⟩
  rw [c7];simp only;rw [za3 c6 hdd.plen,if_neg (by omega),za3 c4 hd.plen,if_neg (by omega)]
theorem zoE {d:Disk} {p:Plan} {fr:Int} (hd:DP d p) (h:(pless d p fr).2=0) {b:Int} (hb:b<87\/95<=b):plook d (pless d p fr).1 b=plook d p b:=by
 unfold pless at h ⊢;split
 ·rfl
 ·rename_i hf;rw [if_neg hf] at h;exact zbz hd h hb
theorem zm5 {d:Disk} {p:Plan} {g:Geom} {l i fr:Int} (hd:DP d p) (he:(pfresh d p g l i fr).2.2=0) {b:Int} (hb:b<87\/95<=b) (h1:¬inC l b) (h2:¬inC (pfresh d p g l i fr).2.1 b):plook d (pfresh d p g l i fr).1 b=plook d p b:=by obtain ⟨e1,e2,e3,e4,e5⟩:=zoC he;rw [e5] at h2 ⊢;simp only at h2 ⊢;have d1:DP d (rtake d p g).1:=hd.rtake g;have d2:=d1.pfill fr (rtake d p g).2.1;have d3:=d2.pless fr;rw [zjl d3 e4 h1,zoE d2 e3 hb,zoD d1 e2 h2,ze1 hd e1 hb]
theorem zgs {d d':Disk} {p p':Plan} {u g:Int} (h1:0<=g->g<64->eget d' p' u (g / 16)=eget d p u (g / 16)) (h2:0<=g->g<64->(eget d p u (g / 16)).2=0->(eget d p u (g / 16)).1.kind=1->eget d' p' (eget d p u (g / 16)).1.loc (g % 16)=eget d p (eget d p u (g / 16)).1.loc (g % 16)):elook d' p' u g=elook d p u g:=by
 unfold elook;split
 ·rfl
 rename_i h0;rw [h1 (by omega) (by omega)];split
 ·rfl
 rename_i h3;split
 ·rfl
 rename_i h4;split
 ·rfl
 rename_i h5;exact h2 (by omega) (by omega) (by simpa using h3) (zjk (by simpa using h3) h4 h5)
theorem V.own {d:Disk} {p:Plan} {h r:Int} {S:List Int} {D:Int->Int} {g:Geom} {guest:Int} (s:V d p h r S D) (hd:DP d p) (hg:g.host<=h) (hD:∀k,0<=k->k<h->0<=D k) (hR:(ze d p).1.l1=r) (h64:guest<64) (he:(pown d p g guest).2.2=0):
  ∃i0:Nat,i0<4/\guest / 16=i0/\0<=guest/\V d (pown d p g guest).1 h r S D/\eget d (pown d p g guest).1 r i0=(⟨1,(pown d p g guest).2.1⟩,0)/\cnI (allL (eget d (pown d p g guest).1) (r::S)) (pown d p g guest).2.1=1/\
  (∀u∈r::S,∀g',elook d (pown d p g guest).1 u g'=elook d p u g')/\(∀b:Int,b<87\/95<=b->¬inC r b->¬inC (pown d p g guest).2.1 b->plook d (pown d p g guest).1 b=plook d p b)/\
  ((pown d p g guest).2.1 ∉ allL (eget d p) (r::S)/\D (pown d p g guest).2.1=0\/(pown d p g guest).1=p):=by
 unfold pown at he ⊢;split at he
 ·exact absurd he (by simp)
 rename_i h1;rw [if_neg h1];split at he
 ·rename_i h2;exact absurd he h2
 rename_i h2;rw [if_neg h2];rw [hR] at he ⊢;obtain ⟨i0,hi0⟩:∃i0:Nat,guest / 16=i0:=⟨(guest / 16).toNat,by omega⟩
 have hi:i0<4:=by omega
 refine ⟨i0,hi,hi0,by omega,?_⟩;rw [hi0] at he ⊢;have hok:=s.ok r (List.mem_cons_self ..) i0 hi;unfold pown2 at he ⊢;split at he
 ·rename_i h3;exact absurd he h3
 rename_i h3;rw [if_neg h3];split at he
 ·exact absurd he (by simp)
 rename_i h4;rw [if_neg h4]
 have hfresh:∀fr:Int,((fr<0/\(eget d p r i0).1.kind=0)\/(0<=fr/\(eget d p r i0).1.kind=1/\(eget d p r i0).1.loc=fr))->(pfresh d p g r i0 fr).2.2=0->
   V d (pfresh d p g r i0 fr).1 h r S D/\eget d (pfresh d p g r i0 fr).1 r i0=(⟨1,(pfresh d p g r i0 fr).2.1⟩,0)/\cnI (allL (eget d (pfresh d p g r i0 fr).1) (r::S)) (pfresh d p g r i0 fr).2.1=1/\
   (∀u∈r::S,∀g',elook d (pfresh d p g r i0 fr).1 u g'=elook d p u g')/\(∀b:Int,b<87\/95<=b->¬inC r b->¬inC (pfresh d p g r i0 fr).2.1 b->plook d (pfresh d p g r i0 fr).1 b=plook d p b)/\
   ((pfresh d p g r i0 fr).2.1 ∉ allL (eget d p) (r::S)/\D (pfresh d p g r i0 fr).2.1=0\/(pfresh d p g r i0 fr).1=p):=by
  intro fr hf hef;obtain ⟨f1,f2,f3,f4,f5,f6,f7,f8⟩:=V.fresh s hd hg hD hi hf hef;obtain ⟨c,hc⟩:∃c,c=(pfresh d p g r i0 fr).2.1:=⟨_,rfl⟩
  obtain ⟨q,hq⟩:∃q,q=(pfresh d p g r i0 fr).1:=⟨_,rfl⟩
  have hpl:=λ(b:Int) hb h1 h2=>zm5 (b:=b) hd hef hb h1 h2;rw [<-hq] at f1 f2 f3 f6 f7 f8 hpl;rw [<-hc] at f2 f3 f4 f5 f6 f8 hpl;rw [<-hc,<-hq];refine ⟨f1,f2,f3,?_,hpl,.inl ⟨f4,f5⟩⟩
  have hroad:∀u∈r::S,∀i:Nat,i<4->(eget d p u i).1.kind=1->(eget d p u i).1.loc≠r/\(eget d p u i).1.loc≠c:=by intro u hu i hi4 hk;have hm:=zd5 (E:=eget d p) (t:=u) hi4 (za0 (by rw [hk];decide));refine ⟨λhh=>s.first_not (List.mem_cons_self ..) hu (hh ▸ hm),λhh=>f4 (hh ▸ zX hu (.inl hm))⟩
  intro u hu g';by_cases hur:u=r/\g' / 16=i0
  ·obtain ⟨rfl,hg0⟩:=hur;unfold elook;split
   ·rfl
   rename_i hg64;rw [hg0,f2,if_neg (by simp),if_neg (by simp),if_neg (by simp),if_neg h3,if_neg h4];simp only;obtain ⟨j,hj⟩:∃j:Nat,g' % 16=j:=⟨(g' % 16).toNat,by omega⟩
   rw [hj,f8 j (by omega)];rcases hf with ⟨hf1,hf2⟩|⟨hf1,hf2,hf3⟩
   ·rw [if_pos hf1,if_pos hf2]
   ·rw [if_neg (by omega),if_neg (by rw [hf2];decide),hf3]
  ·refine zgs (λhg0 hg1=>?_) (λhg0 hg1 _ hk=>?_)
   ·by_cases hu2:u=r
    ·subst hu2;exact f7 _ (λhh=>hur ⟨rfl,hh⟩)
    ·exact f6 u hu2 (λhh=>f4 (hh ▸ zX hu (.inr rfl))) _
   ·obtain ⟨i,hi'⟩:∃i:Nat,g' / 16=i:=⟨(g' / 16).toNat,by omega⟩
    rw [hi'] at hk ⊢;obtain ⟨n1,n2⟩:=hroad u hu i (by omega) hk;exact f6 _ n1 n2 _
 split at he
 ·rename_i h5;rw [if_pos h5];exact hfresh (-1) (.inl ⟨by decide,h5⟩) he
 rename_i h5;rw [if_neg h5];have o1:=hok.1;have hk1:=zjk hok.1 hok.2.1 h5;have hloc:=(zbm (zep o1).1).2;split at he
 ·rename_i h6;exact absurd he h6
 rename_i h6;rw [if_neg h6];split at he
 ·rename_i h7;rw [if_pos h7];dsimp only;have hm:(eget d p r i0).1.loc∈allL (eget d p) (r::S):=zX (List.mem_cons_self ..) (.inl (zd5 hi (za0 h5)));obtain ⟨g1,g2⟩:=s.rng _ hm;have hc:=s.cnt _ g1 g2;have hd0:=hD _ g1 g2;have hp:=zbD hm;rw [hc] at h7;refine ⟨s,?_,by unfold cnI at hp ⊢;simp only at h7;omega,λ_ _ _=>rfl,λ_ _ _ _=>rfl,.inr rfl⟩;refine Prod.ext ?_ o1;show (eget d p r i0).1=_;rw [<-hk1]
 ·rename_i h7;rw [if_neg h7];exact hfresh _ (.inr ⟨hloc.1,hk1,rfl⟩) he
theorem V.point {d:Disk} {p:Plan} {h r:Int} {S:List Int} {D:Int->Int} {g:Geom} {guest:Int} {x:Ent2} (s:V d p h r S D) (hd:DP d p) (hg:g.host<=h) (hD:∀k,0<=k->k<h->0<=D k) (hR:(ze d p).1.l1=r) (h64:guest<64)
  (hx:∀k∈eat x,0<=k/\k<h/\∀t∈r::S,t≠k) (he:(ppoint d p g guest x).2=0):
  0<=guest/\V d (ppoint d p g guest x).1 h r S (λk=>D k - cnI (eat x) k)/\DP d (ppoint d p g guest x).1/\(∀g',elook d (ppoint d p g guest x).1 r g'=if g'=guest then (x,0) else elook d p r g')/\
  (∀u∈S,∀g',elook d (ppoint d p g guest x).1 u g'=elook d p u g')/\(∀b:Int,b<87->plook d (ppoint d p g guest x).1 b=plook d p b)/\
  (∀b:Int,95<=b->¬inC r b->¬inC (pown d p g guest).2.1 b->plook d (ppoint d p g guest x).1 b=plook d p b)/\(cnI (allL (eget d (pown d p g guest).1) (r::S)) (pown d p g guest).2.1=1/\∃i0:Nat,i0<4/\eget d (pown d p g guest).1 r i0=(⟨1,(pown d p g guest).2.1⟩,0))/\
  ((pown d p g guest).2.1 ∉ allL (eget d p) (r::S)/\D (pown d p g guest).2.1=0\/(pown d p g guest).1=p):=by
 have hdP:=hd.ppoint g guest x;unfold ppoint at he ⊢;split at he
 ·rename_i h1;exact absurd he h1
 rename_i h1;rw [if_neg h1];obtain ⟨i0,hi,hi0,hg0,o1,o2,o3,o4,o5,o6⟩:=V.own s hd hg hD hR h64 (by simpa using h1);have hdq:=hd.pown g guest
 have hdP2:DP d (zeZ d p (pown d p g guest).1 (pown d p g guest).2.1 (guest % 16) x).1:=by unfold ppoint at hdP;rw [if_neg h1] at hdP;exact hdP
 obtain ⟨q,hq⟩:∃q,q=(pown d p g guest).1:=⟨_,rfl⟩
 obtain ⟨t2,ht2⟩:∃t2,t2=(pown d p g guest).2.1:=⟨_,rfl⟩
 rw [<-hq] at he o1 o2 o3 o4 o5 o6 hdP2 hdq;rw [<-ht2] at he o2 o3 o5 o6 hdP2;rw [<-hq,<-ht2];obtain ⟨j0,hj0⟩:∃j0:Nat,guest % 16=j0:=⟨(guest % 16).toNat,by omega⟩
 have hj:j0<16:=by omega
 rw [hj0] at he hdP2 ⊢
 have hkO:kOk (eget d q) t2:=by have:=(o1.ok r (List.mem_cons_self ..) i0 hi).2.2 (by rw [o2];simp);rw [o2] at this;exact this
 have hold:∃L:Plan,(∀t i,eget d L t i=eget d q t i)/\(∀b:Int,b<87\/95<=b->plook d L b=plook d q b)/\DP d L/\V d L h r S (λk=>D k - cnI (eat (eget d q t2 j0).1) k)/\(eset d L t2 j0 x).2=0/\zeZ d p q t2 j0 x=((eset d L t2 j0 x).1,0):=by
  unfold zeZ at he ⊢;split at he
  ·rename_i h2;exact absurd he h2
  rename_i h2;rw [if_neg h2];split at he
  ·rename_i h3;rw [if_pos h3];split at he
   ·rename_i h4;exact absurd he h4
   rename_i h4;rw [if_neg h4];split at he
   ·rename_i h5;exact absurd he h5
   rename_i h5;rw [if_neg h5];have h4':(Aw.radd d q (eget d q t2 j0).1.loc (-1)).2=0:=by simpa using h4
   refine ⟨_,λt i=>zdB (λb hb=>zbz hdq h4' (.inr hb)) t i,λb hb=>zbz hdq h4' hb,hdq.radd _ _,?_,by simpa using h5,rfl⟩;refine Sound.of (V.radd o1 hdq h4') (λ_ _=>rfl) (λ_=>rfl) (λk=>?_);unfold eat;rw [if_pos h3,zbI,ze5];omega
  ·rename_i h3;rw [if_neg h3];split at he
   ·rename_i h5;exact absurd he h5
   rename_i h5;rw [if_neg h5];refine ⟨q,λ_ _=>rfl,λ_ _=>rfl,hdq,Sound.of o1 (λ_ _=>rfl) (λ_=>rfl) (λk=>?_),by simpa using h5,rfl⟩;unfold eat;rw [if_neg h3,ze5];omega
 obtain ⟨L,l1,l2,l3,l4,l5,l6⟩:=hold;rw [l6] at hdP2 ⊢;simp only at hdP2 ⊢;have hLE:eget d L=eget d q:=by funext t i;exact l1 t i
 have hWe:∀t i,eget d (eset d L t2 j0 x).1 t i=if t=t2/\i=(j0:Int) then (x,0) else eget d q t i:=by intro t i;rw [zm0 l3 l5,hLE]
 have hWE:eget d (eset d L t2 j0 x).1=λt i=>if t=t2/\i=(j0:Int) then (x,0) else eget d q t i:=by funext t i;exact hWe t i
 have hWr:∀k,rget d (eset d L t2 j0 x).1 k=rget d L k:=λk=>zb1 (λb h0 h1=>zhu l3 l5 (by omega)) k;have o3n:(allL (eget d q) (r::S)).count t2=1:=by unfold cnI at o3;omega
 obtain ⟨m1,m2⟩:=zrd (E:=eget d q) (x:=x) (j0:=j0) hi hj (by rw [o2]) (by rw [o2]) o3n;rw [<-hWE] at m1 m2
 have hin:∀k∈eat (eget d q t2 j0).1,k∈rl (eget d q) r:=by intro k hk;refine zd5 hi ?_;unfold piece;rw [o2,if_neg (by simp)];refine List.mem_cons_of_mem _ ?_;unfold kids;rw [List.mem_flatMap];exact ⟨j0,by simpa using hj,hk⟩
 have l4:Sound (eget d q) (rget d L) h r S (λk=>D k - cnI (eat (eget d q t2 j0).1) k):=Sound.of l4 (λt i=>(l1 t i).symm) (λ_=>rfl) (λ_=>rfl)
 have mv:=l4.move (old:=eat (eget d q t2 j0).1) (new:=eat x) m1 (m2 l4.ok) (λk hk=>⟨(hx k hk).1,(hx k hk).2.1⟩)
  (λt ht hm=>o1.first_not ht (List.mem_cons_self ..) (hin t hm)) (λt ht hm=>(hx t hm).2.2 t ht rfl)
 have hmt:t2∈rl (eget d q) r:=by have:=zd5 (E:=eget d q) (t:=r) hi (za0 (by rw [o2];simp));rw [o2] at this;exact this
 have htr:t2≠r:=λhh=>o1.first_not (List.mem_cons_self ..) (List.mem_cons_self ..) (hh ▸ hmt)
 have hroadS:∀u∈S,u≠t2/\∀i:Nat,i<4->(eget d q u i).1.kind=1->(eget d q u i).1.loc≠t2:=by intro u hu;refine ⟨λhh=>o1.first_not (List.mem_cons_of_mem _ hu) (List.mem_cons_self ..) (hh ▸ hmt),λi hi4 hk hh=>?_⟩;have hmu:t2∈allL (eget d q) S:=zX hu (.inl (hh ▸ zd5 hi4 (za0 (by rw [hk];decide))));have h2:=zbD hmu;have h3:=zbD hmt;have h4:0<=cnI [r] t2:=Int.natCast_nonneg _;rw [zaE,zc1,zc1] at o3;omega
 have hroadR:∀i:Nat,i<4->i≠i0->(eget d q r i).1.kind=1->(eget d q r i).1.loc≠t2:=by
  intro i hi4 hne hk hh;obtain ⟨A,B,g1,g2,g3⟩:=zf1 (f:=λ(i:Nat)=>piece (eget d q) r i) hi;have hp0:piece (eget d q) r i0=t2::kids (eget d q) t2:=by unfold piece;rw [o2,if_neg (by simp)]
  have hab:=g2 i hi4 hne _ (za0 (E:=eget d q) (by rw [hk];decide));rw [hh] at hab;have h4:0<=cnI [r] t2:=Int.natCast_nonneg _;have h5:0<=cnI (allL (eget d q) S) t2:=Int.natCast_nonneg _;have h6:0<=cnI (kids (eget d q) t2) t2:=Int.natCast_nonneg _;have h7:0<=cnI A t2:=Int.natCast_nonneg _;have h8:0<=cnI B t2:=Int.natCast_nonneg _
  have e1:cnI (rl (eget d q) r) t2=cnI A t2+(1+cnI (kids (eget d q) t2) t2)+cnI B t2:=by unfold rl;rw [g1,zc1,zc1,hp0,zbI];simp [oneI]
  rw [zaE,zc1,zc1,e1] at o3;rcases hab with hh|hh
  ·have:=zbD hh;omega
  ·have:=zbD hh;omega
 refine ⟨hg0,Sound.of mv (λ_ _=>rfl) hWr (λk=>by omega),hdP2,?_,?_,?_,?_,⟨o3,i0,hi,o2⟩,o6⟩
 ·intro g';by_cases e:g'=guest
  ·subst e;rw [if_pos rfl];unfold elook;have hne:¬(r=t2/\((i0:Nat):Int)=(j0:Int)):=λhh=>htr hh.1.symm;rw [if_neg (by omega),hi0,hWe r,if_neg hne,o2,if_neg (by simp),if_neg (by simp),if_neg (by simp),hj0,hWe,if_pos ⟨rfl,rfl⟩]
  ·rw [if_neg e,<-o4 r (List.mem_cons_self ..) g'];refine zgs (λh0 h1=>?_) (λh0 h1 _ hk=>?_)
   ·have hne:¬(r=t2/\g' / 16=(j0:Int)):=λhh=>htr hh.1.symm;rw [hWe,if_neg hne]
   ·obtain ⟨i,hi'⟩:∃i:Nat,g' / 16=i:=⟨(g' / 16).toNat,by omega⟩
    rw [hi'] at hk ⊢
    have hne:¬((eget d q r i).1.loc=t2/\g' % 16=(j0:Int)):=by
     rintro ⟨h2,h3⟩;by_cases e2:i=i0
     ·exact e (by omega)
     ·exact hroadR i (by omega) e2 hk h2
    rw [hWe,if_neg hne]
 ·intro u hu g';rw [<-o4 u (List.mem_cons_of_mem _ hu) g'];obtain ⟨n1,n2⟩:=hroadS u hu;refine zgs (λh0 h1=>?_) (λh0 h1 _ hk=>?_)
  ·have hne:¬(u=t2/\g' / 16=(j0:Int)):=λhh=>n1 hh.1;rw [hWe,if_neg hne]
  ·obtain ⟨i,hi'⟩:∃i:Nat,g' / 16=i:=⟨(g' / 16).toNat,by omega⟩
   rw [hi'] at hk ⊢;have hne:¬((eget d q u i).1.loc=t2/\g' % 16=(j0:Int)):=λhh=>n2 i (by omega) hk hh.1;rw [hWe,if_neg hne]
 ·intro b hb;rw [zhu l3 l5 (by omega),l2 b (.inl hb)];have hr:=s.rng r (zX (List.mem_cons_self ..) (.inr rfl));have ht:=o1.rng t2 (zX (List.mem_cons_self ..) (.inl hmt));exact o5 b (.inl hb) (by unfold inC;omega) (by unfold inC;omega)
 ·intro b hb h1 h2;rw [zjl l3 l5 h2,l2 b (.inr hb)];exact o5 b (.inr hb) h1 h2
open Go Go.Proofs
theorem zvL {d:Disk} {p:Plan} {t i:Int} (hk:(eget d p t i).1.kind≠1):(eget d p t i).1.loc=0:=by
 by_cases he:(eget d p t i).2=0
 ·have:=(zep he).1;unfold entOk at this;rw [if_neg hk] at this;simp only [Bool.and_eq_true,beq_iff_eq] at this;exact this.2
 ·unfold eget at he ⊢;split
  ·rfl
  rename_i h1;rw [if_neg h1] at he;split
  ·rfl
  rename_i h2;rw [if_neg h2] at he;unfold entT at he ⊢;split
  ·rfl
  ·rename_i h3;rw [if_neg h3] at he;exact absurd rfl he
theorem zty {d:Disk} {p:Plan} {l1 g:Int} (hk:(elook d p l1 g).1.kind≠1):(elook d p l1 g).1.loc=0:=by
 unfold elook at hk ⊢;repeat' split
 all_goals first|rfl|skip
 rename_i h1 h2 h3 h4;rw [if_neg h1,if_neg h2,if_neg h3,if_neg h4] at hk;exact zvL hk
theorem zrf (x:Img) (guest:Int) (isH:Bool) (h:ImgF x):AC 76 [imgA x,.d (.int .i64 guest),.d (.bool isH)] (.tup [imgA (wipe x guest isH).1,.d (.int .i64 (wipe x guest isH).2)]):=by
 refine fbod Tryz.func76 Tryz.ntmps76 (λbase=>?_);obtain ⟨Z,hZ⟩:∃Z,Z=wipe x guest isH:=⟨_,rfl⟩
 have hZ2:=hZ;rw [wipe] at hZ2;have hio:=h.ok;have him:=h.maps;have hX:=h.mark guest;obtain ⟨X,hXe⟩:∃X,X=cmark x guest:=⟨_,rfl⟩
 rw [<-hXe] at hX hZ2;have hdp:DP X.disk p0:=⟨hX.disk,zaw⟩
 have hho:=hX.host;have hgu:=hX.guest;have hxo:=hX.ok;have hxd:=hX.disk;have hq0:=hX.seq0;have hq1:=hX.seq1;obtain ⟨R,hR⟩:∃R,R=ze X.disk p0:=⟨_,rfl⟩
 obtain ⟨Y,hY⟩:∃Y,Y=elook X.disk p0 R.1.l1 guest:=⟨_,rfl⟩
 obtain ⟨P,hP⟩:∃P,P=ppoint X.disk p0 X.geom guest ⟨if isH then 0 else 2,0⟩:=⟨_,rfl⟩
 have hpf:pfit P.1=true:=by rw [hP];exact (hdp.ppoint _ _ _).p
 obtain ⟨D,hD⟩:∃D,D=cdone X P.1:=⟨_,rfl⟩
 rw [wipe2,<-hR,<-hY,<-hP,<-hD] at hZ2;by_cases hr:guest<0\/x.geom.guest<=guest
 ·have hdec:(decide (guest<0)||decide (x.geom.guest<=guest))=true:=by simpa using hr
  rw [if_pos hr] at hZ2;refine' walkW (zn hdec hZ.symm) (za zeh <| za zbe <| za zeg <| za zdu <| za zaC <| zb _)
  ·rw [hZ2,if_pos hc]
  ·rw [hZ2,if_neg (by rw [hc];decide)]
 have hdec:(decide (guest<0)||decide (x.geom.guest<=guest))=false:=by simpa using hr
 rw [if_neg hr] at hZ2;refine' zgF (zav 5) (zn hdec hZ.symm) (za zeh <| za zbe <| za zeg <| za zdu <| za zaC <| zb _)
 ·rw [hZ2,if_pos hc]
 rw [if_neg (by rw [hc];decide)] at hZ2;clear hc
 have hYl:∀k,k≠1->(Y.1.kind==k&&Y.1.loc==0)=(Y.1.kind==k):=by
  intro k hk;cases hb:Y.1.kind==k with
  |false=>rfl
  |true=>
   have hb2:Y.1.kind=k:=by simpa using hb
   have:Y.1.loc=0:=by rw [hY];exact zty (by rw [<-hY,hb2];exact hk)
   rw [this];rfl
 cases isH with
 |true=>
  simp only [if_true] at hP hZ2;have hY0:=hYl 0 (by decide);refine' walkW (zL hXe.symm hR.symm hY.symm hP.symm hD.symm (zn hZ.symm hY0)) (za zeh <| za zbe <| za zeg <| za zdu <| za zaC <| zb _);all_goals rw [hZ2]
  all_goals (refine (show (_:AV)=_ from ?_));(repeat (first|(rewrite [if_pos];rotate_left;(first|exact bneP (by assumption)|exact beqP (by assumption)|exact of_decide_eq_true (by assumption)|assumption))|(rewrite [if_neg];rotate_left;(first|exact bneN (by assumption)|exact beqN (by assumption)|exact of_decide_eq_false (by assumption)|assumption))))
  all_goals rfl
 |false=>
  simp only [Bool.false_eq_true,if_false] at hP hZ2;have hY0:=hYl 2 (by decide);refine' walkW (zL hXe.symm hR.symm hY.symm hP.symm hD.symm (zn hZ.symm hY0)) (za zeh <| za zbe <| za zeg <| za zdu <| za zaC <| zb _);all_goals rw [hZ2]
  all_goals (refine (show (_:AV)=_ from ?_));(repeat (first|(rewrite [if_pos];rotate_left;(first|exact bneP (by assumption)|exact beqP (by assumption)|exact of_decide_eq_true (by assumption)|assumption))|(rewrite [if_neg];rotate_left;(first|exact bneN (by assumption)|exact beqN (by assumption)|exact of_decide_eq_false (by assumption)|assumption))))
  all_goals rfl
@[go_sem] noncomputable def zm6:Ent Tryz.prog 76:= .m3 zbG (intT .i64) boolT zrf
open Go Go.Proofs
def snL (d:Disk):List Int:=((snaps d p0).1.filter (λs=>s.id !=0)).map (·.l1)
structure St (x:Img) (D:Int->Int):Prop where
 root:(ze x.disk p0).2=0
 snp:(snaps x.disk p0).2=0
 sound:V x.disk p0 x.geom.host (ze x.disk p0).1.l1 (snL x.disk) D
def Kp (h:Int) (D:Int->Int) (y:Img):Prop:=y.geom.host=h/\(y.broken=true\/y.disk.off=true\/St y D)
theorem Kp.of {x y:Img} {h:Int} {D:Int->Int} (s:Kp h D x) (h1:y.disk=x.disk) (h2:y.geom=x.geom) (h3:y.broken=x.broken):Kp h D y:=by
 obtain ⟨a,b⟩:=s;refine ⟨by rw [h2];exact a,?_⟩;rw [h1,h3];rcases b with b|b|b
 ·exact .inl b
 ·exact .inr (.inl b)
 ·refine .inr (.inr ⟨?_,?_,?_⟩)
  ·rw [h1];exact b.root
  ·rw [h1];exact b.snp
  ·rw [h1,h2];exact b.sound
theorem zhS (d:Disk) (a:Int) (s:Txt):(zM d a s).1.off=true\/∀b,b≠a->dread (zM d a s).1 b=dread d b:=by
 by_cases h:(zM d a s).2=0
 ·exact .inr (λb hb=>by rw [zgr h,if_neg hb])
 ·unfold zM at h ⊢;split
  ·exact .inr (λ_ _=>rfl)
  rename_i h1;rw [if_neg h1] at h;split
  ·exact .inr (λ_ _=>rfl)
  rename_i h2;rw [if_neg h2] at h;split
  ·exact .inr (λ_ _=>rfl)
  rename_i h3;rw [if_neg h3] at h;split
  ·exact .inl rfl
  rename_i h4;rw [if_neg h4] at h;split
  ·exact .inr (λ_ _=>rfl)
  rename_i h5;rw [if_neg h5] at h;split
  ·exact .inr (λ_ _=>rfl)
  rename_i h6;rw [if_neg h6] at h;exact absurd rfl h
theorem zkC:∀ (l:List (Int×Txt)) (d:Disk),(layL d l).1.off=true\/∀b,(∀q∈l,b≠q.1)->dread (layL d l).1 b=dread d b
 | [],d=> .inr (λ_ _=>rfl)
 | q::l,d=>by
  rw [layL];by_cases hw:(zM d q.1 q.2).2=0
  ·rw [if_neg (by omega)];rcases zkC l (zM d q.1 q.2).1 with h|h
   ·exact .inl h
   ·refine .inr (λb hb=>?_);rw [h b (λr hr=>hb r (List.mem_cons_of_mem _ hr)),zgr hw,if_neg (hb q (List.mem_cons_self ..))]
  ·rw [if_pos hw];rcases zhS d q.1 q.2 with h|h
   ·exact .inl h
   ·exact .inr (λb hb=>h b (hb q (List.mem_cons_self ..)))
theorem zm7 (d:Disk) (k off:Int) (s:Txt):(zgQ d k off s).1.off=true∨∀b,¬inC k b→dread (zgQ d k off s).1 b=dread d b:=by
 have h1:∀ (i:Int) d,0≤i→i<2→(cput1 d k off s i).1.off=true∨∀b,¬inC k b→dread (cput1 d k off s i).1 b=dread d b:=by
  intro i d hi0 hi1
  unfold cput1
  split
  ·exact .inr (fun _ _=>rfl)
  split
  ·exact .inr (fun _ _=>rfl)
  rcases zhS d (96+2*k+i) (cputT (dread d (96+2*k+i)).1 off s i) with h|h
  ·exact .inl h
  ·refine .inr (fun b hb=>h b ?_)
   unfold inC at hb
   omega
 have hg : ∀ (m:Nat) (i:Int) d,0≤i→i+m≤2→(zcV k off s m i d).1.off=true∨∀b,¬inC k b→dread (zcV k off s m i d).1 b=dread d b:=by
  intro m
  induction m with
  |zero=>intro i d _ _;exact .inr (fun _ _=>rfl)
  | succ m ih=>
   intro i d hi0 hi1
   rw [zcV]
   split
   ·exact h1 i d hi0 (by omega)
   ·rename_i he
    rcases ih (i+1) (cput1 d k off s i).1 (by omega) (by omega) with h|h
    ·exact .inl h
    ·rcases h1 i d hi0 (by omega) with h2|h2
     ·-- a device that is off has no more writes that tell OK,nor readings
      exact .inl (by
       have hoff:∀ (m:Nat) (i:Int) d,d.off=true→(zcV k off s m i d).1.off=true:=by
        intro m
        induction m with
        |zero=>intro i d hd;exact hd
        | succ m ih2=>
         intro i d hd
         have hc:(cput1 d k off s i).1.off=true:=by
          unfold cput1
          split
          ·exact hd
          split
          ·exact hd
          ·unfold zM
           rw [if_pos hd]
           exact hd
         rw [zcV]
         split
         ·exact hc
         ·exact ih2 _ _ hc
       exact hoff m (i+1) _ h2)
     ·exact .inr (fun b hb=>by rw [h b hb,h2 b hb])
 exact hg 2 0 d (Int.le_refl _) (by omega)
theorem zf3 {d d':Disk} {b:Int} (h:dread d' b=dread d b) (p:Plan):plook d' p b=plook d p b:=by unfold plook;rw [h]
theorem ztz {E:EF} {r t2 m:Int} {S:List Int} {i0 j0:Nat} (hi:i0<4) (hj:j0<16) (hk:(E r i0).1.kind=1) (hl:(E r i0).1.loc=t2) (he:(E t2 j0).1=⟨1,m⟩) (h1:cnI (allL E (r::S)) m=1):
  m ∉ allL E S/\m≠r/\m≠t2/\(∀i:Nat,i<4->i≠i0->m ∉ piece E r i)/\∀j:Nat,j<16->j≠j0->m ∉ eat (E t2 j).1:=by
 obtain ⟨A,B,g1,g2,g3⟩:=zf1 (f:=λ(i:Nat)=>piece E r i) hi;obtain ⟨A2,B2,k1,k2,k3⟩:=zf1 (f:=λ(k:Nat)=>eat (E t2 k).1) hj;have hp0:piece E r i0=t2::kids E t2:=by unfold piece;rw [hk,if_neg (by decide),hl]
 have hkid:kids E t2=A2++ [m]++B2:=by have:kids E t2=A2++eat (E t2 j0).1++B2:=k1;rw [this,he];rfl
 have hrl:rl E r=A++(t2::(A2++ [m]++B2))++B:=by unfold rl;rw [g1,hp0,hkid]
 rw [zaE,hrl] at h1;simp only [zc1,zbI,ze5] at h1;have q1:0<=cnI A m:=Int.natCast_nonneg _;have q2:0<=cnI B m:=Int.natCast_nonneg _;have q3:0<=cnI A2 m:=Int.natCast_nonneg _;have q4:0<=cnI B2 m:=Int.natCast_nonneg _;have q5:0<=cnI (allL E S) m:=Int.natCast_nonneg _;have q6:0<=oneI t2 m:=by unfold oneI;split<;>decide
 have q7:0<=oneI r m:=by unfold oneI;split<;>decide
 have q8:oneI m m=1:=by unfold oneI;rw [if_pos rfl]
 refine ⟨zxx (by omega),?_,?_,?_,?_⟩
 ·intro e;have:oneI r m=1:=by unfold oneI;rw [if_pos e]
  omega
 ·intro e;have:oneI t2 m=1:=by unfold oneI;rw [if_pos e]
  omega
 ·intro i hi4 hne hm;rcases g2 i hi4 hne m hm with hh|hh
  ·have:=zbD hh;omega
  ·have:=zbD hh;omega
 ·intro j hj16 hne hm;rcases k2 j hj16 hne m hm with hh|hh
  ·have:=zbD hh;omega
  ·have:=zbD hh;omega
theorem ztA {E E':EF} {F:List Int} (h1:∀t∈F,∀i:Nat,i<4->E' t i=E t i) (h2:∀t∈F,∀i:Nat,i<4->(E t i).1.kind≠0->∀k:Nat,k<16->E' (E t i).1.loc k=E (E t i).1.loc k):allL E' F=allL E F/\((∀t∈F,rOk E t)->∀t∈F,rOk E' t):=by
 have hone:∀t∈F,rl E' t=rl E t/\(rOk E t->rOk E' t):=λt ht=>zia (h1 t ht) (h2 t ht);constructor
 ·unfold allL
  have:∀l:List Int,(∀t∈l,t∈F)->l.flatMap (λt=>rl E' t++ [t])=l.flatMap (λt=>rl E t++ [t]):=by
   intro l hl;induction l with
   |nil=>rfl
   |cons a l ih=>rw [List.flatMap_cons,List.flatMap_cons,(hone a (hl a (List.mem_cons_self ..))).1,ih (λi hi=>hl i (List.mem_cons_of_mem _ hi))]
  exact this F (λ_ h=>h)
 ·exact λhr t ht=>(hone t ht).2 (hr t ht)
theorem ztB {E:EF} {N:Int->Int×Int} {h r:Int} {S:List Int} {D:Int->Int} (s:Sound E N h r S D) {t2 m:Int} {i0 j0:Nat} (hi:i0<4) (hj:j0<16) (hk:(E r i0).1.kind=1) (hl:(E r i0).1.loc=t2) (he:(E t2 j0).1=⟨1,m⟩) (h1:cnI (allL E (r::S)) m=1):
  ∀t∈r::S,t≠m/\∀i:Nat,i<4->(E t i).1.kind≠0->(E t i).1.loc≠m:=by
 obtain ⟨c1,c2,c3,c4,c5⟩:=ztz hi hj hk hl he h1;intro t ht;rcases List.mem_cons.1 ht with rfl|ht
 ·refine ⟨λhh=>c2 hh.symm,λi hi4 h0 hh=>?_⟩;by_cases e:i=i0
  ·subst e;exact c3 (by rw [<-hh,hl])
  ·exact c4 i hi4 e (hh ▸ za0 h0)
 ·exact ⟨λhh=>c1 (zX ht (.inr hh.symm)),λi hi4 h0 hh=>c1 (zX ht (.inl (hh ▸ zd5 hi4 (za0 h0))))⟩
theorem St.move {x y:Img} {D:Int->Int} (s:St x D) (hg:y.geom.host=x.geom.host) (hl:∀b:Int,b<6\/(87<=b/\b<95)->dread y.disk b=dread x.disk b)
  (he:∀t∈(ze x.disk p0).1.l1::snL x.disk,(∀i,eget y.disk p0 t i=eget x.disk p0 t i)/\∀i:Nat,i<4->(eget x.disk p0 t i).1.kind≠0->∀k,eget y.disk p0 (eget x.disk p0 t i).1.loc k=eget x.disk p0 (eget x.disk p0 t i).1.loc k):St y D:=by
 have hv:∀b:Int,b<6->plook y.disk p0 b=plook x.disk p0 b:=λb hb=>by rw [zky,zky];exact hl b (.inl hb)
 have hr:ze y.disk p0=ze x.disk p0:=by unfold ze;rw [hv 1 (by omega)]
 have hs:snaps y.disk p0=snaps x.disk p0:=by
  have hg:∀ (m i:Nat) (l:List Snp),m+i<=8->snapsK y.disk p0 m i l=snapsK x.disk p0 m i l:=by
   intro m;induction m with
   |zero=>intro i l _;rfl
   |succ m ih=>
    intro i l hm;rw [snapsK,snapsK,hv _ (by omega),ih (i+1) _ (by omega)]
  exact hg 8 0 [] (by omega)
 have hn:snL y.disk=snL x.disk:=by unfold snL;rw [hs]
 obtain ⟨g1,g2⟩:=ztA (E:=eget x.disk p0) (E':=eget y.disk p0) (F:=(ze x.disk p0).1.l1::snL x.disk) (λt ht i _=>(he t ht).1 i) (λt ht i hi h0 k _=>(he t ht).2 i hi h0 k);refine ⟨by rw [hr];exact s.root,by rw [hs];exact s.snp,?_⟩;rw [hr,hn,hg];refine ⟨g2 s.sound.ok,by rw [g1];exact s.sound.rng,λk h0 h1=>?_,by rw [g1];exact s.sound.alone⟩;rw [g1,<-s.sound.cnt k h0 h1];exact zb1 (λb hb0 hb1=>by rw [zky,zky];exact hl b (.inr ⟨hb0,hb1⟩)) k
theorem zfB {d d':Disk} {p:Plan} {c:Int} (h:∀b,¬inC c b->dread d' b=dread d b) (t:Int) (ht:t≠c) (i:Int):eget d' p t i=eget d p t i:=
 zeH (λ_ _=>⟨zf3 (h _ (by unfold inC;omega)) p,zf3 (h _ (by unfold inC;omega)) p⟩) i
theorem St.apart {x:Img} {d:Disk} {D:Int->Int} {c:Int} (s:St x D) (hc0:0<=c) (hc:c ∉ allL (eget x.disk p0) ((ze x.disk p0).1.l1::snL x.disk)) (h:∀b,¬inC c b->dread d b=dread x.disk b):St (wdisk x d) D:=by
 refine s.move rfl (λb hb=>h b (by unfold inC;omega)) (λt ht=>⟨λi=>zfB h t (λhh=>hc (hh ▸ zX ht (.inr rfl))) i,λi hi h0 k=>zfB h _ (λhh=>hc (hh ▸ zX ht (.inl (zd5 hi (za0 h0))))) k⟩)
theorem zrg (x:Img) (p:Plan):(cdone x p).1.geom=x.geom/\((cdone x p).2≠0->(cdone x p).1.broken=true):=by
 unfold cdone;split
 ·exact ⟨rfl,λ_=>rfl⟩
 ·exact ⟨rfl,λh=>absurd rfl h⟩
theorem Kp.done {x:Img} {q:Plan} {D:Int->Int} {R:Root} {L:List Snp} (hx:ImgF x) (hq:pfit q=true) (hr:ze x.disk q=(R,0)) (hl:snaps x.disk q=(L,0))
  (s:V x.disk q x.geom.host R.l1 ((L.filter (λs=>s.id !=0)).map (·.l1)) D):Kp x.geom.host D (cdone x q).1:=by
 obtain ⟨k1,k2⟩:=zrg x q;refine ⟨by rw [k1],?_⟩;by_cases h:(cdone x q).2=0
 ·refine .inr (.inr ?_);have hal:Alike (cdone x q).1.disk p0 x.disk q:=λb hb=>zkB hx hq h (by omega);refine ⟨by rw [hal.root,hr],by rw [hal.snaps,hl],?_⟩;have hn:snL (cdone x q).1.disk=(L.filter (λs=>s.id !=0)).map (·.l1):=by unfold snL;rw [hal.snaps,hl]
  rw [hal.root,hr,hn,k1];refine Sound.of s (λt i=>zeH (λ_ _=>⟨hal _ (by omega),hal _ (by omega)⟩) i) (λk=>zb1 (λb h0 h1=>zkB hx hq h (by omega)) k) (λ_=>rfl)
 ·exact .inl (k2 h)
theorem zrh {d:Disk} {p:Plan} {r g:Int} (h:(elook d p r g).2=0) (hk:(elook d p r g).1.kind=1):∃i0 j0:Nat,i0<4/\j0<16/\g / 16=i0/\g % 16=j0/\(eget d p r i0).2=0/\(eget d p r i0).1.kind=1/\elook d p r g=eget d p (eget d p r i0).1.loc j0:=by
 unfold elook at h hk ⊢;split at h
 ·exact absurd h (by simp)
 rename_i h1;rw [if_neg h1] at hk ⊢;obtain ⟨i0,hi0⟩:∃i0:Nat,g / 16=i0:=⟨(g / 16).toNat,by omega⟩
 obtain ⟨j0,hj0⟩:∃j0:Nat,g % 16=j0:=⟨(g % 16).toNat,by omega⟩
 rw [hi0,hj0] at h hk ⊢;split at h
 ·rename_i h2;exact absurd h h2
 rename_i h2;rw [if_neg h2] at hk ⊢;split at h
 ·exact absurd h (by simp)
 rename_i h3;rw [if_neg h3] at hk ⊢;split at h
 ·rename_i h4;rw [if_pos h4] at hk;simp at hk
 rename_i h4;rw [if_neg h4];exact ⟨i0,j0,by omega,by omega,rfl,rfl,by simpa using h2,zjk (by simpa using h2) h3 h4,rfl⟩
theorem zgt {d:Disk} (h:d.off=true):(ze d p0).2≠0:=by unfold ze;rw [zky];unfold dread;rw [if_pos h];simp
theorem Kp.write4 {x:Img} {D:Int->Int} (hx:ImgF x) (s:St x D) (hD:∀k,0<=k->k<x.geom.host->0<=D k) (g off:Int) (t:Txt):Kp x.geom.host D (zdZ x (ze x.disk p0).1.l1 g off t).1:=by
 have hself:Kp x.geom.host D x:=⟨rfl,.inr (.inr s)⟩
 have hd0:DP x.disk p0:=⟨hx.disk,zaw⟩
 unfold zdZ;obtain ⟨T,hT⟩:∃T,T=rtake x.disk p0 x.geom:=⟨_,rfl⟩
 rw [<-hT];split
 ·exact hself
 rename_i h1;split
 ·exact hself
 rename_i h2;have hT0:T.2.2=0:=by simpa using h1
 obtain ⟨t1,t2,t3,t4,t5,t6,t7⟩:=V.rtake (g:=x.geom) s.sound hd0 (Int.le_refl _) hD (by rw [<-hT];exact hT0);rw [<-hT] at t1 t2 t3 t4 t5 t6 t7;obtain ⟨c,hc⟩:∃c,c=T.2.1:=⟨_,rfl⟩
 rw [<-hc] at t1 t2 t3 t4 t5 t6 ⊢;obtain ⟨b,hb⟩:∃b,b=(overS (cread x.disk (ze x.disk p0).1.l1 g).1 off t).1:=⟨_,rfl⟩
 rw [<-hb];obtain ⟨Y,hY⟩:∃Y,Y=layL x.disk (zbO c b):=⟨_,rfl⟩
 rw [<-hY];have hYF:DiskF Y.1:=by rw [hY];exact DiskF.layL _ hx.disk
 have hoth:Y.1.off=true\/∀b',¬inC c b'->dread Y.1 b'=dread x.disk b':=by
  rw [hY];rcases zkC (zbO c b) x.disk with h|h
  ·exact .inl h
  ·refine .inr (λb' hb'=>h b' (λq hq=>?_));unfold inC at hb';simp only [zbO,List.mem_cons,List.mem_nil_iff,or_false] at hq;rcases hq with rfl|rfl
   ·simp only;omega
   ·simp only;omega
 have hYK:Kp x.geom.host D (wdisk x Y.1):=by
  rcases hoth with h|h
  ·exact ⟨rfl,.inr (.inl h)⟩
  ·exact ⟨rfl,.inr (.inr (s.apart t1 t3 h))⟩
 split
 ·exact hYK
 rename_i h3;split
 ·exact hYK
 rename_i h4;have hY0:Y.2=0:=by simpa using h3
 have hrd:∀b',¬inC c b'->dread Y.1 b'=dread x.disk b':=by
  intro b' hb';rw [hY] at hY0 ⊢;rw [zfX _ hY0,zjb];intro q hq;unfold inC at hb';simp only [zbO,List.mem_cons,List.mem_nil_iff,or_false] at hq;rcases hq with rfl|rfl
  ·simp only;omega
  ·simp only;omega
 have hdT:DP Y.1 T.1:=⟨hYF,by rw [hT];exact (hd0.rtake _).p⟩
 have hET:∀t',t'≠c->∀i,eget Y.1 T.1 t' i=eget x.disk p0 t' i:=λt' ht i=>by rw [<-t7];exact zfB hrd t' ht i
 have hlow:∀b':Int,b'<87->plook Y.1 T.1 b'=plook x.disk p0 b':=by intro b' hb';rw [zf3 (hrd b' (by unfold inC;omega)),hT];exact ze1 hd0 (by rw [<-hT];exact hT0) (.inl hb')
 have hsT:V Y.1 T.1 x.geom.host (ze x.disk p0).1.l1 (snL x.disk) (λj=>D j+oneI c j):=by have s0:Sound (eget x.disk p0) (rget x.disk T.1) x.geom.host (ze x.disk p0).1.l1 (snL x.disk) (λj=>D j+oneI c j):=Sound.of t6 (λt' i=>(t7 t' i).symm) (λ_=>rfl) (λ_=>rfl);refine Sound.of (s0.apart t3 hET).1 (λ_ _=>rfl) (λk=>zb1 (λb' h0 h1=>zf3 (hrd b' (by unfold inC;omega)) _) k) (λ_=>rfl)
 have hrT:ze Y.1 T.1=ze x.disk p0:=by unfold ze;rw [hlow 1 (by omega)]
 have hD2:∀k,0<=k->k<x.geom.host->0<=D k+oneI c k:=by intro k h0 h1;have:=hD k h0 h1;unfold oneI;split<;>omega
 have hgu:=hx.guest
 have hP:=V.point (x:=⟨1,c⟩) (guest:=g) hsT hdT (g:=x.geom) (Int.le_refl _) hD2 (by rw [hrT]) (by
   rcases Int.lt_or_le g 64 with hg|hg
   ·exact hg
   ·exfalso;have e10:pown Y.1 T.1 x.geom g=(T.1,0,10):=by unfold pown;rw [if_pos (.inr (by omega))]
    have e11:(ppoint Y.1 T.1 x.geom g ⟨1,c⟩).2=10:=by unfold ppoint;rw [e10];rfl
    omega) (by
   intro k hk;have:k=c:=by simpa [eat] using hk
   subst this;exact ⟨t1,t2,λt' ht' hh=>t3 (hh ▸ zX ht' (.inr rfl))⟩) (by simpa using h4)
 obtain ⟨_,p1,p2,_,_,p5,_⟩:=hP;obtain ⟨P,hPe⟩:∃P,P=(ppoint Y.1 T.1 x.geom g ⟨1,c⟩).1:=⟨_,rfl⟩
 rw [<-hPe] at p1 p2 p5 ⊢;have hxY:ImgF (wdisk x Y.1):=hx.wd hYF;have hrP:ze Y.1 P=ze x.disk p0:=by unfold ze;rw [p5 1 (by omega),hlow 1 (by omega)]
 have hsP:snaps Y.1 P=snaps x.disk p0:=by
  have hg:∀ (m i:Nat) (l:List Snp),m+i<=8->snapsK Y.1 P m i l=snapsK x.disk p0 m i l:=by
   intro m;induction m with
   |zero=>intro i l _;rfl
   |succ m ih=>
    intro i l hm;rw [snapsK,snapsK,p5 _ (by omega),hlow _ (by omega),ih (i+1) _ (by omega)]
  exact hg 8 0 [] (by omega)
 refine Kp.done (x:=wdisk x Y.1) (R:=(ze x.disk p0).1) (L:=(snaps x.disk p0).1) hxY p2.p (by show ze Y.1 P=_;rw [hrP];exact Prod.ext rfl s.root) (by show snaps Y.1 P=_;rw [hsP];exact Prod.ext rfl s.snp) ?_;refine Sound.of p1 (λ_ _=>rfl) (λ_=>rfl) (λk=>?_);show D k=D k+oneI c k - cnI (eat ⟨1,c⟩) k
 have:cnI (eat ⟨1,c⟩) k=oneI c k:=by unfold eat;simp only [if_true];rw [zbI,ze5];omega
 omega
theorem Kp.write {x:Img} {h:Int} {D:Int->Int} (hx:ImgF x) (s:Kp h D x) (hD:∀k,0<=k->k<h->0<=D k) (g off:Int) (t:Txt):Kp h D (zdo x g off t).1:=by
 unfold zdo;split
 ·exact s
 rename_i hb;split
 ·exact s
 rename_i hrg;split
 ·exact s
 have hgu:=hx.guest;have hX:ImgF (cmark x g):=hx.mark g;have hc:(cmark x g).disk=x.disk/\(cmark x g).geom=x.geom/\(cmark x g).broken=x.broken:=by unfold cmark;split<;>exact ⟨rfl,rfl,rfl⟩
 have sX:Kp h D (cmark x g):=s.of hc.1 hc.2.1 hc.2.2;have hbX:¬(cmark x g).broken=true:=by rw [hc.2.2];exact hb
 have hgX:¬(g<0\/(cmark x g).geom.guest<=g):=by rw [hc.2.1];omega
 obtain ⟨X,hXe⟩:∃X,X=cmark x g:=⟨_,rfl⟩
 rw [<-hXe] at hX sX hbX hgX ⊢;clear hc hXe s hx;unfold zho;split
 ·exact sX
 rename_i h1;split
 ·exact sX
 rename_i h2;obtain ⟨hh,hs⟩:=sX;subst hh;rcases hs with hs|hs|hs
 ·exact absurd hs hbX
 ·exact absurd (zgt hs) h1
 have hself:Kp X.geom.host D X:=⟨rfl,.inr (.inr hs)⟩
 unfold zhn;split
 ·rename_i h3;split
  ·exact hself
  rename_i h4;split
  ·rename_i h5;obtain ⟨i0,j0,hi,hj,_,_,e1,e2,e3⟩:=zrh (by simpa using h2) h3;obtain ⟨m,hm⟩:∃m,m=(elook X.disk p0 (ze X.disk p0).1.l1 g).1.loc:=⟨_,rfl⟩
   rw [<-hm] at h4 h5 ⊢;have he:(eget X.disk p0 (eget X.disk p0 (ze X.disk p0).1.l1 i0).1.loc j0).1=⟨1,m⟩:=by rw [<-e3,hm,<-h3]
   have hin:m∈allL (eget X.disk p0) ((ze X.disk p0).1.l1::snL X.disk):=by refine zX (List.mem_cons_self ..) (.inl (zd5 hi ?_));unfold piece;rw [if_neg (by rw [e2];decide)];refine List.mem_cons_of_mem _ ?_;unfold kids;rw [List.mem_flatMap];exact ⟨j0,by simpa using hj,by rw [he];simp [eat]⟩
   obtain ⟨g1,g2⟩:=hs.sound.rng m hin;have hct:=hs.sound.cnt m g1 g2;have hd:=hD m g1 g2;have hp:=zbD hin
   have h1:cnI (allL (eget X.disk p0) ((ze X.disk p0).1.l1::snL X.disk)) m=1:=by rw [hct] at h5;simp only at h5;unfold cnI at hp ⊢;omega
   have hro:=ztB hs.sound hi hj e2 rfl he h1;rcases zm7 X.disk m off t with ho|ho
   ·exact ⟨rfl,.inr (.inl ho)⟩
   ·exact ⟨rfl,.inr (.inr (hs.move rfl (λb hb=>ho b (by unfold inC;omega)) (λu hu=>⟨λi=>zfB ho u (hro u hu).1 i,λi hi h0 k=>zfB ho _ ((hro u hu).2 i hi h0) k⟩)))⟩
  ·exact Kp.write4 hX hs hD g off t
 ·exact Kp.write4 hX hs hD g off t
theorem Kp.wipe {x:Img} {h:Int} {D:Int->Int} (hx:ImgF x) (s:Kp h D x) (hD:∀k,0<=k->k<h->0<=D k) (g:Int) (hole:Bool):Kp h D (wipe x g hole).1:=by
 unfold Aw.wipe;split
 ·exact s
 rename_i hb;split
 ·exact s
 rename_i hrg;have hgu:=hx.guest;have hX:ImgF (cmark x g):=hx.mark g;have hc:(cmark x g).disk=x.disk/\(cmark x g).geom=x.geom/\(cmark x g).broken=x.broken:=by unfold cmark;split<;>exact ⟨rfl,rfl,rfl⟩
 have sX:Kp h D (cmark x g):=s.of hc.1 hc.2.1 hc.2.2;have hbX:¬(cmark x g).broken=true:=by rw [hc.2.2];exact hb
 obtain ⟨X,hXe⟩:∃X,X=cmark x g:=⟨_,rfl⟩
 rw [<-hXe] at hX sX hbX ⊢;clear hc hXe s hx;obtain ⟨kd,hkd⟩:∃kd:Int,kd=if hole then 0 else 2:=⟨_,rfl⟩
 have hk1:kd≠1:=by rw [hkd];split<;>decide
 rw [<-hkd];unfold wipe2;split
 ·exact sX
 rename_i h1;split
 ·exact sX
 rename_i h2;split
 ·exact sX
 split
 ·exact sX
 rename_i h4;obtain ⟨hh,hs⟩:=sX;subst hh;rcases hs with hs|hs|hs
 ·exact absurd hs hbX
 ·exact absurd (zgt hs) h1
 have hea:eat ⟨kd,0⟩= []:=by unfold eat;simp only;rw [if_neg hk1]
 obtain ⟨_,p1,p2,_,_,p5,_⟩:=V.point (x:=⟨kd,0⟩) (guest:=g) hs.sound ⟨hX.disk,zaw⟩ (g:=X.geom) (Int.le_refl _) hD rfl (by omega) (by rw [hea];intro k hk;cases hk) (by simpa using h4);refine Kp.done (R:=(ze X.disk p0).1) (L:=(snaps X.disk p0).1) hX p2.p (by rw [ze4 (p5 1 (by omega))];exact Prod.ext rfl hs.root) (by rw [zd4 (λb hb=>p5 b (by omega))];exact Prod.ext rfl hs.snp) ?_;exact Sound.of p1 (λ_ _=>rfl) (λ_=>rfl) (λk=>by rw [hea,ze5];simp)
open Go Go.Proofs
theorem zoF {α:Type} {P:α->Bool} {l:List α} {i:Nat} (h:idxP P l 0=i):∃u,l[i]?=some u/\P u=true:=by
 have hg:∀ (l:List α) (n k:Nat),idxP P l n=((n+k:Nat):Int)->∃u,l[k]?=some u/\P u=true:=by
  intro l;induction l with
  |nil=>intro n k h;simp [idxP] at h;omega
  | cons y l ih=>
   intro n k h;simp only [idxP] at h;by_cases e:P y=true
   ·simp only [e,if_true] at h;have:k=0:=by omega
    subst this;exact ⟨y,rfl,e⟩
   ·simp only [e,if_false] at h;cases k with
    |zero=>
     simp only [Bool.false_eq_true,if_false] at h;rcases zeB P l (n+1) with hb|hb
     ·rw [hb] at h;omega
     ·omega
    |succ k=>
     simp only [Bool.false_eq_true,if_false] at h;simpa using ih (n+1) k (by rw [h];congr 1;omega)
 exact hg l 0 i (by rw [h,Nat.zero_add])
theorem zxy {l:List Snp} {i:Nat} {u v:Snp} (h:l[i]?=some u):∃A B,l.filter (λs=>s.id !=0)=A++ [u].filter (λs=>s.id !=0)++B/\(l.set i v).filter (λs=>s.id !=0)=A++ [v].filter (λs=>s.id !=0)++B:=by
 obtain ⟨h1,h2⟩:=zmX h v;refine ⟨(l.take i).filter (λs=>s.id !=0),(l.drop (i+1)).filter (λs=>s.id !=0),?_,?_⟩
 ·conv=>lhs;rw [h1]
  rw [List.filter_append,show u::List.drop (i+1) l= [u]++List.drop (i+1) l from rfl,List.filter_append,List.append_assoc]
 ·rw [h2,List.filter_append,show v::List.drop (i+1) l= [v]++List.drop (i+1) l from rfl,List.filter_append,List.append_assoc]
end Go.Aw
