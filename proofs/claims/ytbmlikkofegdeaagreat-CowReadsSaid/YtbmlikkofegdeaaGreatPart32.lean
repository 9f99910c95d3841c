/-
  Parts of the proof: StayC, WipeA, StayD, StayH (short names; the readable texts lie in the repo, under wip).
-/
import Derived.Test.YtbmlikkofegdeaaGreatPart31
import Derived.Test.YtbmlikkofegdeaaGreatPart17
import Derived.Test.YtbmlikkofegdeaaGreatPart30
set_option maxRecDepth 100000
set_option maxHeartbeats 2000000
set_option linter.unusedSimpArgs false
set_option linter.unusedVariables false
namespace Go.Aw
open Go Go.Proofs
def inC (c b:Int):Prop:=b=96+2*c∨b=97+2*c
theorem zk0 {d:Disk} {p:Plan} {g:Geom} {l i fr:Int} (he:(pfresh d p g l i fr).2.2=0):(rtake d p g).2.2=0∧(pfill d (rtake d p g).1 fr (rtake d p g).2.1).2=0∧(pless d (pfill d (rtake d p g).1 fr (rtake d p g).2.1).1 fr).2=0∧
  (eset d (pless d (pfill d (rtake d p g).1 fr (rtake d p g).2.1).1 fr).1 l i ⟨1,(rtake d p g).2.1⟩).2=0∧pfresh d p g l i fr=((eset d (pless d (pfill d (rtake d p g).1 fr (rtake d p g).2.1).1 fr).1 l i ⟨1,(rtake d p g).2.1⟩).1,(rtake d p g).2.1,0):=by
 unfold pfresh at he ⊢
 split at he
 ·rename_i h1;exact absurd he h1
 rename_i h1
 rw [if_neg h1]
 split at he
 ·rename_i h2;exact absurd he h2
 rename_i h2
 rw [if_neg h2]
 split at he
 ·rename_i h3;exact absurd he h3
 rename_i h3
 rw [if_neg h3]
 split at he
 ·rename_i h4;exact absurd he h4
 rename_i h4
 rw [if_neg h4]
 exact ⟨by simpa using h1,by simpa using h2,by simpa using h3,by simpa using h4,rfl⟩
theorem zg2 {d:Disk} {p:Plan} {t i:Int} {x:Ent2} (hd:DP d p) (h:(eset d p t i x).2=0) {b:Int} (hb:¬inC t b):plook d (eset d p t i x).1 b=plook d p b:=by
 obtain ⟨⟨ht,hi⟩,hx,hp,he⟩:=zgV h
 unfold inC at hb
 rw [he,zcx hp hd.plen,if_neg (by omega)]
theorem zk1 {d:Disk} {p:Plan} {fr k:Int} (hd:DP d p) (h:(pfill d p fr k).2=0) {b:Int} (hb:¬inC k b):plook d (pfill d p fr k).1 b=plook d p b:=by
 unfold inC at hb
 unfold pfill at h ⊢
 split
 ·rename_i hf
  rw [if_pos hf] at h
  rw [zdX hd h,if_neg hb]
 ·rename_i hf
  rw [if_neg hf] at h
  obtain ⟨c1,c2,c3,c4,c5,c6,c7⟩:=zed h
  have hdd:DP d (pset p (96+2*k) (plook d p (96+2*fr)).1).1:=⟨hd.d,zcH hd.p⟩
  rw [c7]
  simp only
  rw [zaL c6 hdd.plen,if_neg (by omega),zaL c4 hd.plen,if_neg (by omega)]
theorem zk2 {d:Disk} {p:Plan} {fr:Int} (hd:DP d p) (h:(pless d p fr).2=0) {b:Int} (hb:b<87∨95≤b):plook d (pless d p fr).1 b=plook d p b:=by
 unfold pless at h ⊢
 split
 ·rfl
 ·rename_i hf
  rw [if_neg hf] at h
  exact zch hd h hb
theorem zjO {d:Disk} {p:Plan} {g:Geom} {l i fr:Int} (hd:DP d p) (he:(pfresh d p g l i fr).2.2=0) {b:Int} (hb:b<87∨95≤b) (h1:¬inC l b) (h2:¬inC (pfresh d p g l i fr).2.1 b):plook d (pfresh d p g l i fr).1 b=plook d p b:=by
 obtain ⟨e1,e2,e3,e4,e5⟩:=zk0 he
 rw [e5] at h2 ⊢
 simp only at h2 ⊢
 have d1:DP d (rtake d p g).1:=hd.rtake g
 have d2:=d1.pfill fr (rtake d p g).2.1
 have d3:=d2.pless fr
 rw [zg2 d3 e4 h1,zk2 d2 e3 hb,zk1 d1 e2 h2,zgU hd e1 hb]
theorem zbM {d d':Disk} {p p':Plan} {u g:Int} (h1:0≤g→g<64→eget d' p' u (g / 16)=eget d p u (g / 16)) (h2:0≤g→g<64→(eget d p u (g / 16)).2=0→(eget d p u (g / 16)).1.kind=1→eget d' p' (eget d p u (g / 16)).1.loc (g % 16)=eget d p (eget d p u (g / 16)).1.loc (g % 16)):elook d' p' u g=elook d p u g:=by
 unfold elook
 split
 ·rfl
 rename_i h0
 rw [h1 (by omega) (by omega)]
 split
 ·rfl
 rename_i h3
 split
 ·rfl
 rename_i h4
 split
 ·rfl
 rename_i h5
 exact h2 (by omega) (by omega) (by simpa using h3) (zg1 (by simpa using h3) h4 h5)
theorem V.own {d:Disk} {p:Plan} {h r:Int} {S:List Int} {D:Int→Int} {g:Geom} {guest:Int} (s:V d p h r S D) (hd:DP d p) (hg:g.host≤h) (hD:∀k,0≤k→k<h→0≤D k) (hR:(zk d p).1.l1=r) (h64:guest<64) (he:(pown d p g guest).2.2=0):
  ∃i0:Nat,i0<4∧guest / 16=i0∧0≤guest∧V d (pown d p g guest).1 h r S D∧eget d (pown d p g guest).1 r i0=(⟨1,(pown d p g guest).2.1⟩,0)∧cnI (allL (eget d (pown d p g guest).1) (r::S)) (pown d p g guest).2.1=1∧
  (∀u∈r::S,∀g',elook d (pown d p g guest).1 u g'=elook d p u g')∧(∀b:Int,b<87∨95≤b→¬inC r b→¬inC (pown d p g guest).2.1 b→plook d (pown d p g guest).1 b=plook d p b)∧
  ((pown d p g guest).2.1 ∉ allL (eget d p) (r::S)∧D (pown d p g guest).2.1=0∨(pown d p g guest).1=p):=by
 unfold pown at he ⊢
 split at he
 ·exact absurd he (by simp)
 rename_i h1
 rw [if_neg h1]
 split at he
 ·rename_i h2;exact absurd he h2
 rename_i h2
 rw [if_neg h2]
 rw [hR] at he ⊢
 obtain ⟨i0,hi0⟩:∃i0:Nat,guest / 16=i0:=⟨(guest / 16).toNat,by omega⟩
 have hi:i0<4:=by omega
 refine ⟨i0,hi,hi0,by omega,?_⟩
 rw [hi0] at he ⊢
 have hok:=s.ok r (List.mem_cons_self ..) i0 hi
 unfold pown2 at he ⊢
 split at he
 ·rename_i h3;exact absurd he h3
 rename_i h3
 rw [if_neg h3]
 split at he
 ·exact absurd he (by simp)
 rename_i h4
 rw [if_neg h4]
 have hfresh:∀fr:Int,((fr<0∧(eget d p r i0).1.kind=0)∨(0≤fr∧(eget d p r i0).1.kind=1∧(eget d p r i0).1.loc=fr))→(pfresh d p g r i0 fr).2.2=0→
   V d (pfresh d p g r i0 fr).1 h r S D∧eget d (pfresh d p g r i0 fr).1 r i0=(⟨1,(pfresh d p g r i0 fr).2.1⟩,0)∧cnI (allL (eget d (pfresh d p g r i0 fr).1) (r::S)) (pfresh d p g r i0 fr).2.1=1∧
   (∀u∈r::S,∀g',elook d (pfresh d p g r i0 fr).1 u g'=elook d p u g')∧(∀b:Int,b<87∨95≤b→¬inC r b→¬inC (pfresh d p g r i0 fr).2.1 b→plook d (pfresh d p g r i0 fr).1 b=plook d p b)∧
   ((pfresh d p g r i0 fr).2.1 ∉ allL (eget d p) (r::S)∧D (pfresh d p g r i0 fr).2.1=0∨(pfresh d p g r i0 fr).1=p):=by
  intro fr hf hef
  obtain ⟨f1,f2,f3,f4,f5,f6,f7,f8⟩:=V.fresh s hd hg hD hi hf hef
  obtain ⟨c,hc⟩:∃c,c=(pfresh d p g r i0 fr).2.1:=⟨_,rfl⟩
  obtain ⟨q,hq⟩:∃q,q=(pfresh d p g r i0 fr).1:=⟨_,rfl⟩
  have hpl:=fun (b:Int) hb h1 h2=>zjO (b:=b) hd hef hb h1 h2
  rw [← hq] at f1 f2 f3 f6 f7 f8 hpl
  rw [← hc] at f2 f3 f4 f5 f6 f8 hpl
  rw [← hc,← hq]
  refine ⟨f1,f2,f3,?_,hpl,.inl ⟨f4,f5⟩⟩
  have hroad:∀u∈r::S,∀i:Nat,i<4→(eget d p u i).1.kind=1→(eget d p u i).1.loc≠r∧(eget d p u i).1.loc≠c:=by
   intro u hu i hi4 hk
   have hm:=zcy (E:=eget d p) (t:=u) hi4 (zaj (by rw [hk];decide))
   refine ⟨fun hh=>s.first_not (List.mem_cons_self ..) hu (hh ▸ hm),fun hh=>f4 (hh ▸ zJ hu (.inl hm))⟩
  intro u hu g'
  by_cases hur:u=r∧g' / 16=i0
  ·obtain ⟨rfl,hg0⟩:=hur
   unfold elook
   split
   ·rfl
   rename_i hg64
   rw [hg0,f2,if_neg (by simp),if_neg (by simp),if_neg (by simp),if_neg h3,if_neg h4]
   simp only
   obtain ⟨j,hj⟩:∃j:Nat,g' % 16=j:=⟨(g' % 16).toNat,by omega⟩
   rw [hj,f8 j (by omega)]
   rcases hf with ⟨hf1,hf2⟩|⟨hf1,hf2,hf3⟩
   ·rw [if_pos hf1,if_pos hf2]
   ·rw [if_neg (by omega),if_neg (by rw [hf2];decide),hf3]
  ·refine zbM (fun hg0 hg1=>?_) (fun hg0 hg1 _ hk=>?_)
   ·by_cases hu2:u=r
    ·subst hu2
     exact f7 _ (fun hh=>hur ⟨rfl,hh⟩)
    ·exact f6 u hu2 (fun hh=>f4 (hh ▸ zJ hu (.inr rfl))) _
   ·obtain ⟨i,hi'⟩:∃i:Nat,g' / 16=i:=⟨(g' / 16).toNat,by omega⟩
    rw [hi'] at hk ⊢
    obtain ⟨n1,n2⟩:=hroad u hu i (by omega) hk
    exact f6 _ n1 n2 _
 split at he
 ·rename_i h5
  rw [if_pos h5]
  exact hfresh (-1) (.inl ⟨by decide,h5⟩) he
 rename_i h5
 rw [if_neg h5]
 have o1:=hok.1
 have hk1:=zg1 hok.1 hok.2.1 h5
 have hloc:=(zbb (zfb o1).1).2
 split at he
 ·rename_i h6;exact absurd he h6
 rename_i h6
 rw [if_neg h6]
 split at he
 ·rename_i h7
  rw [if_pos h7]
  dsimp only
  have hm:(eget d p r i0).1.loc∈allL (eget d p) (r::S):=zJ (List.mem_cons_self ..) (.inl (zcy hi (zaj h5)))
  obtain ⟨g1,g2⟩:=s.rng _ hm
  have hc:=s.cnt _ g1 g2
  have hd0:=hD _ g1 g2
  have hp:=zaY hm
  rw [hc] at h7
  refine ⟨s,?_,by unfold cnI at hp ⊢;simp only at h7;omega,fun _ _ _=>rfl,fun _ _ _ _=>rfl,.inr rfl⟩
  refine Prod.ext ?_ o1
  show (eget d p r i0).1=_
  rw [← hk1]
 ·rename_i h7
  rw [if_neg h7]
  exact hfresh _ (.inr ⟨hloc.1,hk1,rfl⟩) he
theorem V.point {d:Disk} {p:Plan} {h r:Int} {S:List Int} {D:Int→Int} {g:Geom} {guest:Int} {x:Ent2} (s:V d p h r S D) (hd:DP d p) (hg:g.host≤h) (hD:∀k,0≤k→k<h→0≤D k) (hR:(zk d p).1.l1=r) (h64:guest<64)
  (hx:∀k∈eat x,0≤k∧k<h∧∀t∈r::S,t≠k) (he:(ppoint d p g guest x).2=0):
  0≤guest∧V d (ppoint d p g guest x).1 h r S (fun k=>D k - cnI (eat x) k)∧DP d (ppoint d p g guest x).1∧(∀g',elook d (ppoint d p g guest x).1 r g'=if g'=guest then (x,0) else elook d p r g')∧
  (∀u∈S,∀g',elook d (ppoint d p g guest x).1 u g'=elook d p u g')∧(∀b:Int,b<87→plook d (ppoint d p g guest x).1 b=plook d p b)∧
  (∀b:Int,95≤b→¬inC r b→¬inC (pown d p g guest).2.1 b→plook d (ppoint d p g guest x).1 b=plook d p b)∧(cnI (allL (eget d (pown d p g guest).1) (r::S)) (pown d p g guest).2.1=1∧∃i0:Nat,i0<4∧eget d (pown d p g guest).1 r i0=(⟨1,(pown d p g guest).2.1⟩,0))∧
  ((pown d p g guest).2.1 ∉ allL (eget d p) (r::S)∧D (pown d p g guest).2.1=0∨(pown d p g guest).1=p):=by
 have hdP:=hd.ppoint g guest x
 unfold ppoint at he ⊢
 split at he
 ·rename_i h1;exact absurd he h1
 rename_i h1
 rw [if_neg h1]
 obtain ⟨i0,hi,hi0,hg0,o1,o2,o3,o4,o5,o6⟩:=V.own s hd hg hD hR h64 (by simpa using h1)
 have hdq:=hd.pown g guest
 have hdP2:DP d (zdR d p (pown d p g guest).1 (pown d p g guest).2.1 (guest % 16) x).1:=by
  unfold ppoint at hdP
  rw [if_neg h1] at hdP
  exact hdP
 obtain ⟨q,hq⟩:∃q,q=(pown d p g guest).1:=⟨_,rfl⟩
 obtain ⟨t2,ht2⟩:∃t2,t2=(pown d p g guest).2.1:=⟨_,rfl⟩
 rw [← hq] at he o1 o2 o3 o4 o5 o6 hdP2 hdq
 rw [← ht2] at he o2 o3 o5 o6 hdP2
 rw [← hq,← ht2]
 obtain ⟨j0,hj0⟩:∃j0:Nat,guest % 16=j0:=⟨(guest % 16).toNat,by omega⟩
 have hj:j0<16:=by omega
 rw [hj0] at he hdP2 ⊢
 have hkO:kOk (eget d q) t2:=by
  have:=(o1.ok r (List.mem_cons_self ..) i0 hi).2.2 (by rw [o2];simp)
  rw [o2] at this
  exact this
 have hold:∃L:Plan,(∀t i,eget d L t i=eget d q t i)∧(∀b:Int,b<87∨95≤b→plook d L b=plook d q b)∧DP d L∧V d L h r S (fun k=>D k - cnI (eat (eget d q t2 j0).1) k)∧(eset d L t2 j0 x).2=0∧zdR d p q t2 j0 x=((eset d L t2 j0 x).1,0):=by
  unfold zdR at he ⊢
  split at he
  ·rename_i h2;exact absurd he h2
  rename_i h2
  rw [if_neg h2]
  split at he
  ·rename_i h3
   rw [if_pos h3]
   split at he
   ·rename_i h4;exact absurd he h4
   rename_i h4
   rw [if_neg h4]
   split at he
   ·rename_i h5;exact absurd he h5
   rename_i h5
   rw [if_neg h5]
   have h4':(Aw.radd d q (eget d q t2 j0).1.loc (-1)).2=0:=by simpa using h4
   refine ⟨_,fun t i=>zf0 (fun b hb=>zch hdq h4' (.inr hb)) t i,fun b hb=>zch hdq h4' hb,hdq.radd _ _,?_,by simpa using h5,rfl⟩
   refine Sound.of (V.radd o1 hdq h4') (fun _ _=>rfl) (fun _=>rfl) (fun k=>?_)
   unfold eat
   rw [if_pos h3,zcb,zfp]
   omega
  ·rename_i h3
   rw [if_neg h3]
   split at he
   ·rename_i h5;exact absurd he h5
   rename_i h5
   rw [if_neg h5]
   refine ⟨q,fun _ _=>rfl,fun _ _=>rfl,hdq,Sound.of o1 (fun _ _=>rfl) (fun _=>rfl) (fun k=>?_),by simpa using h5,rfl⟩
   unfold eat
   rw [if_neg h3,zfp]
   omega
 obtain ⟨L,l1,l2,l3,l4,l5,l6⟩:=hold
 rw [l6] at hdP2 ⊢
 simp only at hdP2 ⊢
 have hLE:eget d L=eget d q:=by funext t i;exact l1 t i
 have hWe:∀t i,eget d (eset d L t2 j0 x).1 t i=if t=t2∧i=(j0:Int) then (x,0) else eget d q t i:=by
  intro t i
  rw [zjL l3 l5,hLE]
 have hWE:eget d (eset d L t2 j0 x).1=fun t i=>if t=t2∧i=(j0:Int) then (x,0) else eget d q t i:=by funext t i;exact hWe t i
 have hWr:∀k,rget d (eset d L t2 j0 x).1 k=rget d L k:=fun k=>zee (fun b h0 h1=>zfm l3 l5 (by omega)) k
 have o3n:(allL (eget d q) (r::S)).count t2=1:=by unfold cnI at o3;omega
 obtain ⟨m1,m2⟩:=zm4 (E:=eget d q) (x:=x) (j0:=j0) hi hj (by rw [o2]) (by rw [o2]) o3n
 rw [← hWE] at m1 m2
 have hin:∀k∈eat (eget d q t2 j0).1,k∈rl (eget d q) r:=by
  intro k hk
  refine zcy hi ?_
  unfold piece
  rw [o2,if_neg (by simp)]
  refine List.mem_cons_of_mem _ ?_
  unfold kids
  rw [List.mem_flatMap]
  exact ⟨j0,by simpa using hj,hk⟩
 have l4:Sound (eget d q) (rget d L) h r S (fun k=>D k - cnI (eat (eget d q t2 j0).1) k):=Sound.of l4 (fun t i=>(l1 t i).symm) (fun _=>rfl) (fun _=>rfl)
 have mv:=l4.move (old:=eat (eget d q t2 j0).1) (new:=eat x) m1 (m2 l4.ok) (fun k hk=>⟨(hx k hk).1,(hx k hk).2.1⟩)
  (fun t ht hm=>o1.first_not ht (List.mem_cons_self ..) (hin t hm)) (fun t ht hm=>(hx t hm).2.2 t ht rfl)
 have hmt:t2∈rl (eget d q) r:=by
  have:=zcy (E:=eget d q) (t:=r) hi (zaj (by rw [o2];simp))
  rw [o2] at this
  exact this
 have htr:t2≠r:=fun hh=>o1.first_not (List.mem_cons_self ..) (List.mem_cons_self ..) (hh ▸ hmt)
 have hroadS:∀u∈S,u≠t2∧∀i:Nat,i<4→(eget d q u i).1.kind=1→(eget d q u i).1.loc≠t2:=by
  intro u hu
  refine ⟨fun hh=>o1.first_not (List.mem_cons_of_mem _ hu) (List.mem_cons_self ..) (hh ▸ hmt),fun i hi4 hk hh=>?_⟩
  have hmu:t2∈allL (eget d q) S:=zJ hu (.inl (hh ▸ zcy hi4 (zaj (by rw [hk];decide))))
  have h2:=zaY hmu
  have h3:=zaY hmt
  have h4:0≤cnI [r] t2:=Int.natCast_nonneg _
  rw [zaI,zcA,zcA] at o3
  omega
 have hroadR:∀i:Nat,i<4→i≠i0→(eget d q r i).1.kind=1→(eget d q r i).1.loc≠t2:=by
  intro i hi4 hne hk hh
  obtain ⟨A,B,g1,g2,g3⟩:=zdt (f:=fun (i:Nat)=>piece (eget d q) r i) hi
  have hp0:piece (eget d q) r i0=t2::kids (eget d q) t2:=by unfold piece;rw [o2,if_neg (by simp)]
  have hab:=g2 i hi4 hne _ (zaj (E:=eget d q) (by rw [hk];decide))
  rw [hh] at hab
  have h4:0≤cnI [r] t2:=Int.natCast_nonneg _
  have h5:0≤cnI (allL (eget d q) S) t2:=Int.natCast_nonneg _
  have h6:0≤cnI (kids (eget d q) t2) t2:=Int.natCast_nonneg _
  have h7:0≤cnI A t2:=Int.natCast_nonneg _
  have h8:0≤cnI B t2:=Int.natCast_nonneg _
  have e1:cnI (rl (eget d q) r) t2=cnI A t2+(1+cnI (kids (eget d q) t2) t2)+cnI B t2:=by
   unfold rl
   rw [g1,zcA,zcA,hp0,zcb]
   simp [oneI]
  rw [zaI,zcA,zcA,e1] at o3
  rcases hab with hh|hh
  ·have:=zaY hh;omega
  ·have:=zaY hh;omega
 refine ⟨hg0,Sound.of mv (fun _ _=>rfl) hWr (fun k=>by omega),hdP2,?_,?_,?_,?_,⟨o3,i0,hi,o2⟩,o6⟩
 ·intro g'
  by_cases e:g'=guest
  ·subst e
   rw [if_pos rfl]
   unfold elook
   have hne:¬(r=t2∧((i0:Nat):Int)=(j0:Int)):=fun hh=>htr hh.1.symm
   rw [if_neg (by omega),hi0,hWe r,if_neg hne,o2,if_neg (by simp),if_neg (by simp),if_neg (by simp),hj0,hWe,if_pos ⟨rfl,rfl⟩]
  ·rw [if_neg e,← o4 r (List.mem_cons_self ..) g']
   refine zbM (fun h0 h1=>?_) (fun h0 h1 _ hk=>?_)
   ·have hne:¬(r=t2∧g' / 16=(j0:Int)):=fun hh=>htr hh.1.symm
    rw [hWe,if_neg hne]
   ·obtain ⟨i,hi'⟩:∃i:Nat,g' / 16=i:=⟨(g' / 16).toNat,by omega⟩
    rw [hi'] at hk ⊢
    have hne:¬((eget d q r i).1.loc=t2∧g' % 16=(j0:Int)):=by
     rintro ⟨h2,h3⟩
     by_cases e2:i=i0
     ·exact e (by omega)
     ·exact hroadR i (by omega) e2 hk h2
    rw [hWe,if_neg hne]
 ·intro u hu g'
  rw [← o4 u (List.mem_cons_of_mem _ hu) g']
  obtain ⟨n1,n2⟩:=hroadS u hu
  refine zbM (fun h0 h1=>?_) (fun h0 h1 _ hk=>?_)
  ·have hne:¬(u=t2∧g' / 16=(j0:Int)):=fun hh=>n1 hh.1
   rw [hWe,if_neg hne]
  ·obtain ⟨i,hi'⟩:∃i:Nat,g' / 16=i:=⟨(g' / 16).toNat,by omega⟩
   rw [hi'] at hk ⊢
   have hne:¬((eget d q u i).1.loc=t2∧g' % 16=(j0:Int)):=fun hh=>n2 i (by omega) hk hh.1
   rw [hWe,if_neg hne]
 ·intro b hb
  rw [zfm l3 l5 (by omega),l2 b (.inl hb)]
  have hr:=s.rng r (zJ (List.mem_cons_self ..) (.inr rfl))
  have ht:=o1.rng t2 (zJ (List.mem_cons_self ..) (.inl hmt))
  exact o5 b (.inl hb) (by unfold inC;omega) (by unfold inC;omega)
 ·intro b hb h1 h2
  rw [zg2 l3 l5 h2,l2 b (.inr hb)]
  exact o5 b (.inr hb) h1 h2
open Go Go.Proofs
open Go Go.Proofs
theorem zjP (d:Disk) (a:Int) (s:Txt):(zD d a s).1.off=true∨∀b,b≠a→dread (zD d a s).1 b=dread d b:=by
 by_cases h:(zD d a s).2=0
 ·exact .inr (fun b hb=>by rw [zev h,if_neg hb])
 ·unfold zD at h ⊢
  split
  ·exact .inr (fun _ _=>rfl)
  rename_i h1
  rw [if_neg h1] at h
  split
  ·exact .inr (fun _ _=>rfl)
  rename_i h2
  rw [if_neg h2] at h
  split
  ·exact .inr (fun _ _=>rfl)
  rename_i h3
  rw [if_neg h3] at h
  split
  ·exact .inl rfl
  rename_i h4
  rw [if_neg h4] at h
  split
  ·exact .inr (fun _ _=>rfl)
  rename_i h5
  rw [if_neg h5] at h
  split
  ·exact .inr (fun _ _=>rfl)
  rename_i h6
  rw [if_neg h6] at h
  exact absurd rfl h
theorem zjQ (d:Disk) (k off:Int) (s:Txt):(zbn d k off s).1.off=true∨∀b,¬inC k b→dread (zbn d k off s).1 b=dread d b:=by
 have h1:∀ (i:Int) d,0≤i→i<2→(cput1 d k off s i).1.off=true∨∀b,¬inC k b→dread (cput1 d k off s i).1 b=dread d b:=by
  intro i d hi0 hi1
  unfold cput1
  split
  ·exact .inr (fun _ _=>rfl)
  split
  ·exact .inr (fun _ _=>rfl)
  rcases zjP d (96+2*k+i) (cputT (dread d (96+2*k+i)).1 off s i) with h|h
  ·exact .inl h
  ·refine .inr (fun b hb=>h b ?_)
   unfold inC at hb
   omega
 have hg : ∀ (m:Nat) (i:Int) d,0≤i→i+m≤2→(zbF k off s m i d).1.off=true∨∀b,¬inC k b→dread (zbF k off s m i d).1 b=dread d b:=by
  intro m
  induction m with
  |zero=>intro i d _ _;exact .inr (fun _ _=>rfl)
  | succ m ih=>
   intro i d hi0 hi1
   rw [zbF]
   split
   ·exact h1 i d hi0 (by omega)
   ·rename_i he
    rcases ih (i+1) (cput1 d k off s i).1 (by omega) (by omega) with h|h
    ·exact .inl h
    ·rcases h1 i d hi0 (by omega) with h2|h2
     ·-- a device that is off has no more writes that tell OK,nor readings
      exact .inl (by
       have hoff:∀ (m:Nat) (i:Int) d,d.off=true→(zbF k off s m i d).1.off=true:=by
        intro m
        induction m with
        |zero=>intro i d hd;exact hd
        | succ m ih2=>
         intro i d hd
         have hc:(cput1 d k off s i).1.off=true:=by
          unfold cput1
          split
          ·exact hd
          split
          ·exact hd
          ·unfold zD
           rw [if_pos hd]
           exact hd
         rw [zbF]
         split
         ·exact hc
         ·exact ih2 _ _ hc
       exact hoff m (i+1) _ h2)
     ·exact .inr (fun b hb=>by rw [h b hb,h2 b hb])
 exact hg 2 0 d (Int.le_refl _) (by omega)
theorem zfq {d d':Disk} {b:Int} (h:dread d' b=dread d b) (p:Plan):plook d' p b=plook d p b:=by
 unfold plook
 rw [h]
theorem zjR {E:EF} {r t2 m:Int} {S:List Int} {i0 j0:Nat} (hi:i0<4) (hj:j0<16) (hk:(E r i0).1.kind=1) (hl:(E r i0).1.loc=t2) (he:(E t2 j0).1=⟨1,m⟩) (h1:cnI (allL E (r::S)) m=1):
  m ∉ allL E S∧m≠r∧m≠t2∧(∀i:Nat,i<4→i≠i0→m ∉ piece E r i)∧∀j:Nat,j<16→j≠j0→m ∉ eat (E t2 j).1:=by
 obtain ⟨A,B,g1,g2,g3⟩:=zdt (f:=fun (i:Nat)=>piece E r i) hi
 obtain ⟨A2,B2,k1,k2,k3⟩:=zdt (f:=fun (k:Nat)=>eat (E t2 k).1) hj
 have hp0:piece E r i0=t2::kids E t2:=by unfold piece;rw [hk,if_neg (by decide),hl]
 have hkid:kids E t2=A2++ [m]++B2:=by
  have:kids E t2=A2++eat (E t2 j0).1++B2:=k1
  rw [this,he]
  rfl
 have hrl:rl E r=A++(t2::(A2++ [m]++B2))++B:=by unfold rl;rw [g1,hp0,hkid]
 rw [zaI,hrl] at h1
 simp only [zcA,zcb,zfp] at h1
 have q1:0≤cnI A m:=Int.natCast_nonneg _
 have q2:0≤cnI B m:=Int.natCast_nonneg _
 have q3:0≤cnI A2 m:=Int.natCast_nonneg _
 have q4:0≤cnI B2 m:=Int.natCast_nonneg _
 have q5:0≤cnI (allL E S) m:=Int.natCast_nonneg _
 have q6:0≤oneI t2 m:=by unfold oneI;split<;>decide
 have q7:0≤oneI r m:=by unfold oneI;split<;>decide
 have q8:oneI m m=1:=by unfold oneI;rw [if_pos rfl]
 refine ⟨zkZ (by omega),?_,?_,?_,?_⟩
 ·intro e
  have:oneI r m=1:=by unfold oneI;rw [if_pos e]
  omega
 ·intro e
  have:oneI t2 m=1:=by unfold oneI;rw [if_pos e]
  omega
 ·intro i hi4 hne hm
  rcases g2 i hi4 hne m hm with hh|hh
  ·have:=zaY hh;omega
  ·have:=zaY hh;omega
 ·intro j hj16 hne hm
  rcases k2 j hj16 hne m hm with hh|hh
  ·have:=zaY hh;omega
  ·have:=zaY hh;omega
theorem zo4 {E:EF} {N:Int→Int×Int} {h r:Int} {S:List Int} {D:Int→Int} (s:Sound E N h r S D) {t2 m:Int} {i0 j0:Nat} (hi:i0<4) (hj:j0<16) (hk:(E r i0).1.kind=1) (hl:(E r i0).1.loc=t2) (he:(E t2 j0).1=⟨1,m⟩) (h1:cnI (allL E (r::S)) m=1):
  ∀t∈r::S,t≠m∧∀i:Nat,i<4→(E t i).1.kind≠0→(E t i).1.loc≠m:=by
 obtain ⟨c1,c2,c3,c4,c5⟩:=zjR hi hj hk hl he h1
 intro t ht
 rcases List.mem_cons.1 ht with rfl|ht
 ·refine ⟨fun hh=>c2 hh.symm,fun i hi4 h0 hh=>?_⟩
  by_cases e:i=i0
  ·subst e
   exact c3 (by rw [← hh,hl])
  ·exact c4 i hi4 e (hh ▸ zaj h0)
 ·exact ⟨fun hh=>c1 (zJ ht (.inr hh.symm)),fun i hi4 h0 hh=>c1 (zJ ht (.inl (hh ▸ zcy hi4 (zaj h0))))⟩
theorem zg3 {d d':Disk} {p:Plan} {c:Int} (h:∀b,¬inC c b→dread d' b=dread d b) (t:Int) (ht:t≠c) (i:Int):eget d' p t i=eget d p t i:=
 zc7 (fun _ _=>⟨zfq (h _ (by unfold inC;omega)) p,zfq (h _ (by unfold inC;omega)) p⟩) i
theorem zm5 {d:Disk} {p:Plan} {r g:Int} (h:(elook d p r g).2=0) (hk:(elook d p r g).1.kind=1):∃i0 j0:Nat,i0<4∧j0<16∧g / 16=i0∧g % 16=j0∧(eget d p r i0).2=0∧(eget d p r i0).1.kind=1∧elook d p r g=eget d p (eget d p r i0).1.loc j0:=by
 unfold elook at h hk ⊢
 split at h
 ·exact absurd h (by simp)
 rename_i h1
 rw [if_neg h1] at hk ⊢
 obtain ⟨i0,hi0⟩:∃i0:Nat,g / 16=i0:=⟨(g / 16).toNat,by omega⟩
 obtain ⟨j0,hj0⟩:∃j0:Nat,g % 16=j0:=⟨(g % 16).toNat,by omega⟩
 rw [hi0,hj0] at h hk ⊢
 split at h
 ·rename_i h2;exact absurd h h2
 rename_i h2
 rw [if_neg h2] at hk ⊢
 split at h
 ·exact absurd h (by simp)
 rename_i h3
 rw [if_neg h3] at hk ⊢
 split at h
 ·rename_i h4
  rw [if_pos h4] at hk
  simp at hk
 rename_i h4
 rw [if_neg h4]
 exact ⟨i0,j0,by omega,by omega,rfl,rfl,by simpa using h2,zg1 (by simpa using h2) h3 h4,rfl⟩
open Go Go.Proofs
theorem zm6 {E:EF} {r t2:Int} {S:List Int} {i0:Nat} (hi:i0<4) (hk:(E r i0).1.kind=1) (hl:(E r i0).1.loc=t2) (h1:cnI (allL E (r::S)) t2=1):
  t2 ∉ allL E S∧(∀i:Nat,i<4→i≠i0→t2 ∉ piece E r i)∧t2 ∉ kids E t2:=by
 obtain ⟨A,B,g1,g2,g3⟩:=zdt (f:=fun (i:Nat)=>piece E r i) hi
 have hp0:piece E r i0=t2::kids E t2:=by unfold piece;rw [hk,if_neg (by decide),hl]
 have hrl:rl E r=A++(t2::kids E t2)++B:=by unfold rl;rw [g1,hp0]
 rw [zaI,hrl] at h1
 simp only [zcA,zcb,zfp] at h1
 have q1:0≤cnI A t2:=Int.natCast_nonneg _
 have q2:0≤cnI B t2:=Int.natCast_nonneg _
 have q3:0≤cnI (kids E t2) t2:=Int.natCast_nonneg _
 have q5:0≤cnI (allL E S) t2:=Int.natCast_nonneg _
 have q7:0≤oneI r t2:=by unfold oneI;split<;>decide
 have q8:oneI t2 t2=1:=by unfold oneI;rw [if_pos rfl]
 refine ⟨zkZ (by omega),fun i hi4 hne hm=>?_,zkZ (by omega)⟩
 rcases g2 i hi4 hne t2 hm with hh|hh
 ·have:=zaY hh;omega
 ·have:=zaY hh;omega
structure Ends (E:EF) (u k:Int) (m:Int) (i j:Nat):Prop where
 hi:i<4
 hj:j<16
 ki:k / 16=i
 kj:k % 16=j
 kind:(E u i).1.kind=1
 at_:(E (E u i).1.loc j).1=⟨1,m⟩
theorem Ends.eat {E:EF} {u k m:Int} {i j:Nat} (h:Ends E u k m i j):m∈kids E (E u i).1.loc:=by
 unfold kids
 rw [List.mem_flatMap]
 exact ⟨j,by simpa using h.hj,by rw [h.at_];simp [Aw.eat]⟩
theorem Ends.piece {E:EF} {u k m:Int} {i j:Nat} (h:Ends E u k m i j):m∈piece E u i:=by
 unfold Aw.piece
 rw [if_neg (by rw [h.kind];decide)]
 exact List.mem_cons_of_mem _ h.eat
theorem Ends.rl {E:EF} {u k m:Int} {i j:Nat} (h:Ends E u k m i j):m∈rl E u:=zcy h.hi h.piece
theorem zef {d:Disk} {p:Plan} {u k:Int} (h:(elook d p u k).2=0) (hk:(elook d p u k).1.kind=1):∃i j,Ends (eget d p) u k (elook d p u k).1.loc i j:=by
 obtain ⟨i,j,h1,h2,h3,h4,h5,h6,h7⟩:=zm5 h hk
 exact ⟨i,j,h1,h2,h3,h4,h6,by rw [← h7,← hk]⟩
theorem zg4 {d d':Disk} {u k:Int} (h1:elook d' p0 u k=elook d p0 u k) (h2:(elook d p0 u k).2=0→(elook d p0 u k).1.kind=1→∀b,inC (elook d p0 u k).1.loc b→dread d' b=dread d b):cread d' u k=cread d u k:=by
 unfold cread
 rw [h1]
 split
 ·rfl
 rename_i h3
 split
 ·rename_i h4
  have hb:=h2 (by simpa using h3) h4
  unfold zU
  rw [hb _ (.inl rfl),hb (96+2*(elook d p0 u k).1.loc+1) (.inr (by omega))]
 ·rfl
theorem zsf (b:Txt) (k:Nat):lay b k []=b:=by simp [lay]
theorem zqN {a b s:Txt} {k:Nat} (h:k+s.length≤a.length):lay (a++b) k s=lay a k s++b:=by
 unfold lay
 rw [List.take_append_of_le_length (by omega),List.drop_append_of_le_length (by omega)]
 simp only [List.append_assoc]
theorem zo5 {a b s:Txt} {k:Nat} (h:a.length≤k):lay (a++b) k s=a++lay b (k - a.length) s:=by
 unfold lay
 rw [List.take_append,List.take_of_length_le h,List.drop_append,List.drop_of_length_le (by omega),List.nil_append,show k+s.length - a.length=k - a.length+s.length by omega]
 simp only [List.append_assoc]
theorem zqO {a b s:Txt} {k:Nat} (h1:k≤a.length) (h2:a.length≤k+s.length):lay (a++b) k s=lay a k (s.take (a.length - k))++lay b 0 (s.drop (a.length - k)):=by
 unfold lay
 rw [List.take_append_of_le_length h1,List.drop_append,List.drop_of_length_le (by omega),List.nil_append,List.take_zero,List.nil_append,List.length_take,List.length_drop,List.drop_of_length_le (show a.length≤k+min (a.length - k) s.length by omega),List.append_nil]
 rw [show 0+(s.length - (a.length - k))=k+s.length - a.length by omega]
 simp only [List.append_assoc]
 congr 1
 rw [← List.append_assoc,List.take_append_drop]
theorem zdu {b s:Txt} {a:Int} (h0:0≤a) (h1:a+s.length≤b.length):overS b a s=(lay b a.toNat s,0):=by
 unfold overS lay
 rw [if_neg (by omega),show (a+(s.length:Int)).toNat=a.toNat+s.length by omega]
theorem zhX {d:Disk} {m off:Int} {s:Txt} {i:Int} (h:(cput1 d m off s i).2=0) (b:Int):
  dread (cput1 d m off s i).1 b=if b=96+2*m+i∧¬min (off+s.length) ((i+1)*64)≤max off (i*64) then (cputT (dread d (96+2*m+i)).1 off s i,0) else dread d b:=by
 unfold cput1 at h ⊢
 split
 ·rename_i h1
  rw [if_neg (fun hh=>hh.2 h1)]
 rename_i h1
 rw [if_neg h1] at h
 split
 ·rename_i h2
  rw [if_pos h2] at h
  exact absurd h h2
 rename_i h2
 rw [if_neg h2] at h
 rw [zev h]
 by_cases e:b=96+2*m+i
 ·rw [if_pos e,if_pos ⟨e,h1⟩]
 ·rw [if_neg e,if_neg (fun hh=>e hh.1)]
theorem zjS {d:Disk} {m off:Int} {s:Txt} (hd:d.cache.all (putOk d)=true) (h0:0≤off) (h1:off+s.length≤128) (hs:s≠ []) (hz:(zbn d m off s).2=0) (hc:(zU d m).2=0):zU (zbn d m off s).1 m=((overS (zU d m).1 off s).1,0):=by
 have hlen:=zfH hd hc
 rw [zdu h0 (by omega)]
 unfold zU at hc
 split at hc
 ·rename_i h2;exact absurd hc h2
 rename_i h2
 split at hc
 ·rename_i h3;exact absurd hc h3
 rename_i h3
 obtain ⟨A,hA⟩:∃A,dread d (96+2*m)=(A,0):=⟨(dread d (96+2*m)).1,Prod.ext rfl (by simpa using h2)⟩
 obtain ⟨B,hB⟩:∃B,dread d (96+2*m+1)=(B,0):=⟨(dread d (96+2*m+1)).1,Prod.ext rfl (by simpa using h3)⟩
 have hAl:A.length=64:=by have:=zeK (at_:=96+2*m) hd (by rw [hA]);rw [hA] at this;exact this
 have hBl:B.length=64:=by have:=zeK (at_:=96+2*m+1) hd (by rw [hB]);rw [hB] at this;exact this
 have hcc:(zU d m).1=A++B:=by unfold zU;rw [hA,hB];simp
 rw [hcc]
 have hun:zbn d m off s=if (cput1 d m off s 0).2≠0 then cput1 d m off s 0 else if (cput1 (cput1 d m off s 0).1 m off s 1).2≠0 then cput1 (cput1 d m off s 0).1 m off s 1 else ((cput1 (cput1 d m off s 0).1 m off s 1).1,0):=rfl
 rw [hun] at hz ⊢
 split at hz
 ·rename_i h4;exact absurd hz h4
 rename_i h4
 rw [if_neg h4]
 split at hz
 ·rename_i h5;exact absurd hz h5
 rename_i h5
 rw [if_neg h5]
 simp only
 have r1:=zhX (d:=d) (m:=m) (off:=off) (s:=s) (i:=0) (by simpa using h4)
 have r2:=zhX (d:=(cput1 d m off s 0).1) (m:=m) (off:=off) (s:=s) (i:=1) (by simpa using h5)
 simp only [Int.add_zero] at r1
 have f0:dread (cput1 (cput1 d m off s 0).1 m off s 1).1 (96+2*m)=if ¬min (off+s.length) ((0+1)*64)≤max off (0*64) then (cputT A off s 0,0) else (A,0):=by
  have hne:¬(96+2*m=96+2*m+1∧¬min (off+s.length) ((1+1)*64)≤max off (1*64)):=fun hh=>by omega
  rw [r2,if_neg hne,r1,hA]
  by_cases e:min (off+(s.length:Int)) ((0+1)*64)≤max off (0*64)
  ·rw [if_neg (fun hh=>hh.2 e),if_neg (fun hh=>hh e)]
  ·rw [if_pos ⟨rfl,e⟩,if_pos e]
 have f1:dread (cput1 (cput1 d m off s 0).1 m off s 1).1 (96+2*m+1)=if ¬min (off+s.length) ((1+1)*64)≤max off (1*64) then (cputT B off s 1,0) else (B,0):=by
  have hne:¬(96+2*m+1=96+2*m∧¬min (off+s.length) ((0+1)*64)≤max off (0*64)):=fun hh=>by omega
  have e0:dread (cput1 d m off s 0).1 (96+2*m+1)=(B,0):=by rw [r1,if_neg hne,hB]
  rw [r2,e0]
  by_cases e:min (off+(s.length:Int)) ((1+1)*64)≤max off (1*64)
  ·rw [if_neg (fun hh=>hh.2 e),if_neg (fun hh=>hh e)]
  ·rw [if_pos ⟨rfl,e⟩,if_pos e]
 have hl0:0<s.length:=List.length_pos_iff.2 hs
 obtain ⟨k,hk⟩:∃k:Nat,off=k:=⟨off.toNat,by omega⟩
 subst hk
 rw [Int.toNat_natCast]
 unfold zU
 rw [f0,f1]
 by_cases c1:k+s.length≤64
 ·have e0:¬min ((k:Int)+s.length) ((0+1)*64)≤max (k:Int) (0*64):=by omega
  have e1:¬ ¬min ((k:Int)+s.length) ((1+1)*64)≤max (k:Int) (1*64):=by omega
  have hT:cputT A k s 0=lay A k s:=by
   unfold cputT
   rw [show max (k:Int) (0*64) - 0*64=k by omega,show (min ((k:Int)+s.length) ((0+1)*64) - k).toNat=s.length by omega,show (max (k:Int) (0*64) - k).toNat=0 by omega,List.take_length,List.drop_zero,zdu (by omega) (by omega),Int.toNat_natCast]
  rw [if_pos e0,if_neg e1,if_neg (by simp),if_neg (by simp),hT,zqN (by omega)]
 by_cases c2:64≤k
 ·have e0:¬ ¬min ((k:Int)+s.length) ((0+1)*64)≤max (k:Int) (0*64):=by omega
  have e1:¬min ((k:Int)+s.length) ((1+1)*64)≤max (k:Int) (1*64):=by omega
  have hT:cputT B k s 1=lay B (k - 64) s:=by
   unfold cputT
   rw [show max (k:Int) (1*64) - 1*64=((k - 64:Nat):Int) by omega,show (min ((k:Int)+s.length) ((1+1)*64) - k).toNat=s.length by omega,show (max (k:Int) (1*64) - k).toNat=0 by omega,List.take_length,List.drop_zero,zdu (by omega) (by omega),Int.toNat_natCast]
  rw [if_neg e0,if_pos e1,if_neg (by simp),if_neg (by simp),hT,zo5 (by omega),hAl]
 ·have e0:¬min ((k:Int)+s.length) ((0+1)*64)≤max (k:Int) (0*64):=by omega
  have e1:¬min ((k:Int)+s.length) ((1+1)*64)≤max (k:Int) (1*64):=by omega
  have hT0:cputT A k s 0=lay A k (s.take (64 - k)):=by
   unfold cputT
   rw [show max (k:Int) (0*64) - 0*64=k by omega,show (min ((k:Int)+s.length) ((0+1)*64) - k).toNat=64 - k by omega,show (max (k:Int) (0*64) - k).toNat=0 by omega,List.drop_zero,zdu (by omega) (by rw [List.length_take];omega),Int.toNat_natCast]
  have hT1:cputT B k s 1=lay B 0 (s.drop (64 - k)):=by
   unfold cputT
   rw [show max (k:Int) (1*64) - 1*64=0 by omega,show (min ((k:Int)+s.length) ((1+1)*64) - k).toNat=s.length by omega,show (max (k:Int) (1*64) - k).toNat=64 - k by omega,List.take_length,zdu (by omega) (by rw [List.length_drop];omega)]
   rfl
  rw [if_pos e0,if_pos e1,if_neg (by simp),if_neg (by simp),hT0,hT1,zqO (by omega) (by omega),hAl]
end Go.Aw
