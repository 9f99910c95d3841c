/-
  Parts of the proof: StayI, StayF, ReadA (short names; the readable texts lie in the repo, under wip).
-/
import Derived.Test.YtbmlikkofegdeaaGreatPart32
import Derived.Test.YtbmlikkofegdeaaGreatPart17
import Derived.Test.YtbmlikkofegdeaaGreatPart30
set_option maxRecDepth 100000
set_option maxHeartbeats 2000000
set_option linter.unusedSimpArgs false
set_option linter.unusedVariables false
namespace Go.Aw
open Go Go.Proofs
theorem zjT {d:Disk} {p:Plan} {g:Geom} (hd:DP d p) (h:(rtake d p g).2.2=0) (d':Disk) {b:Int} (hb:b<87∨95≤b):plook d' (rtake d p g).1 b=plook d' p b:=by
 obtain ⟨h1,h2,h3⟩:=zfl h
 rw [h3]
 unfold radd at h2 ⊢
 split at h2
 ·rename_i h4;exact absurd h2 h4
 rename_i h4
 rw [if_neg h4]
 split at h2
 ·exact absurd h2 (by simp)
 rename_i h5
 rw [if_neg h5]
 obtain ⟨hk0,hk1⟩:=zfa (by simpa using h4)
 obtain ⟨g1,g2,g3⟩:=zeb h2
 rw [g3] at h2 ⊢
 simp only
 rw [zaL h2 hd.plen,if_neg (by omega)]
theorem zk6 (c:Int) (b:Txt):zdB (zaO c b) (96+2*c)=some (b.take 64)∧zdB (zaO c b) (96+2*c+1)=some ((b.take 128).drop 64):=by
 unfold zaO
 have h1:¬96+2*c+1=96+2*c:=by omega
 have h2:¬96+2*c=96+2*c+1:=by omega
 have hn:∀b:Int,zdB [] b=none:=fun b=>rfl
 constructor
 ·rw [zbL,zbL,hn]
  simp only [h1,if_false,if_true,Option.or_none,Option.none_or]
 ·rw [zbL,zbL,hn]
  simp only [h2,if_false,if_true,Option.or_none,Option.none_or,Option.or_some]
  rfl
theorem zk7 {d:Disk} {h r:Int} {S:List Int} {D:Int→Int} {g off:Int} {t:Txt} (hd:DiskF d) (s:V d p0 h r S D) (hD:∀k,0≤k→k<h→0≤D k) (h0:0≤off) (h1:off+t.length≤128) (ht:t≠ [])
  (hg0:0≤g) (he:(elook d p0 r g).2=0) (hk:(elook d p0 r g).1.kind=1) (hn:(rget d p0 (elook d p0 r g).1.loc).1≤1) (hz:(zbn d (elook d p0 r g).1.loc off t).2=0) (hr:(cread d r g).2=0):
  (∀u∈S,∀k,cread (zbn d (elook d p0 r g).1.loc off t).1 u k=cread d u k)∧(∀k,k≠g→cread (zbn d (elook d p0 r g).1.loc off t).1 r k=cread d r k)∧cread (zbn d (elook d p0 r g).1.loc off t).1 r g=((overS (cread d r g).1 off t).1,0):=by
 obtain ⟨m,hm⟩:∃m,m=(elook d p0 r g).1.loc:=⟨_,rfl⟩
 obtain ⟨i0,j0,hE⟩:=zef he hk
 rw [← hm] at hE hz hn ⊢
 have hin:m∈allL (eget d p0) (r::S):=zJ (List.mem_cons_self ..) (.inl hE.rl)
 obtain ⟨g1,g2⟩:=s.rng m hin
 have hct:=s.cnt m g1 g2
 have hd0:=hD m g1 g2
 have hp:=zaY hin
 have h1c:cnI (allL (eget d p0) (r::S)) m=1:=by
  rw [hct] at hn
  simp only at hn
  unfold cnI at hp ⊢
  omega
 obtain ⟨c1,c2,c3,c4,c5⟩:=zjR hE.hi hE.hj hE.kind rfl hE.at_ h1c
 have hro:=zo4 s hE.hi hE.hj hE.kind rfl hE.at_ h1c
 have hoth:∀b,¬inC m b→dread (zbn d m off t).1 b=dread d b:=by
  rcases zjQ d m off t with ho|ho
  ·-- a device that told OK is not off
   exfalso
   have hun:zbn d m off t=if (cput1 d m off t 0).2≠0 then cput1 d m off t 0 else if (cput1 (cput1 d m off t 0).1 m off t 1).2≠0 then cput1 (cput1 d m off t 0).1 m off t 1 else ((cput1 (cput1 d m off t 0).1 m off t 1).1,0):=rfl
   have hnoff:d.off=false:=by
    unfold cread at hr
    rw [if_neg (by omega),if_pos hk,← hm] at hr
    unfold zU at hr
    split at hr
    ·rename_i h2;exact absurd hr h2
    rename_i h2
    have h2':(dread d (96+2*m)).2=0:=by simpa using h2
    unfold dread at h2'
    split at h2'
    ·simp at h2'
    ·rename_i h3;simpa using h3
   have hstep:∀i d,d.off=false→(cput1 d m off t i).2=0→(cput1 d m off t i).1.off=false:=by
    intro i d hd0 hz0
    unfold cput1 at hz0 ⊢
    split
    ·exact hd0
    rename_i h2
    rw [if_neg h2] at hz0
    split
    ·exact hd0
    rename_i h3
    rw [if_neg h3] at hz0
    obtain ⟨q1,_,_,_,q5⟩:=zgQ hz0
    rw [q5,zgP]
    exact q1
   rw [hun] at hz ho
   split at hz
   ·rename_i h4;exact absurd hz h4
   rename_i h4
   rw [if_neg h4] at ho
   split at hz
   ·rename_i h5;exact absurd hz h5
   rename_i h5
   rw [if_neg h5] at ho
   simp only at ho
   rw [hstep 1 _ (hstep 0 d hnoff (by simpa using h4)) (by simpa using h5)] at ho
   cases ho
  ·exact ho
 have hlook:∀u∈r::S,∀k,elook (zbn d m off t).1 p0 u k=elook d p0 u k:=by
  intro u hu k
  obtain ⟨n1,n2⟩:=hro u hu
  refine zbM (fun _ _=>zg3 hoth u n1 _) (fun q0 q1 _ hk1=>?_)
  obtain ⟨i,hi⟩:∃i:Nat,k / 16=i:=⟨(k / 16).toNat,by omega⟩
  rw [hi] at hk1 ⊢
  exact zg3 hoth _ (n2 i (by omega) (by rw [hk1];decide)) _
 have hsame:∀u∈r::S,∀k,(u=r→k≠g)→cread (zbn d m off t).1 u k=cread d u k:=by
  intro u hu k hne
  refine zg4 (hlook u hu k) (fun e1 e2 b hb=>hoth b (fun hb2=>?_))
  have hmm:(elook d p0 u k).1.loc=m:=by unfold inC at hb hb2;omega
  obtain ⟨i,j,hU⟩:=zef e1 e2
  rw [hmm] at hU
  rcases List.mem_cons.1 hu with rfl|hu
  ·by_cases ei:i=i0
   ·subst ei
    by_cases ej:j=j0
    ·subst ej
     have hk0:0≤k:=by
      unfold elook at e1
      split at e1
      ·exact absurd e1 (by simp)
      ·omega
     exact hne rfl (by have:=hU.ki;have:=hU.kj;have:=hE.ki;have:=hE.kj;omega)
    ·exact c5 j hU.hj ej (by rw [hU.at_];simp [Aw.eat])
   ·exact c4 i hU.hi ei hU.piece
  ·exact c1 (zJ hu (.inl hU.rl))
 refine ⟨fun u hu k=>hsame u (List.mem_cons_of_mem _ hu) k (fun hur=>?_),fun k hk=>hsame r (List.mem_cons_self ..) k (fun _=>hk),?_⟩
 ·exfalso
  have h2:=s.not_twice (t:=r) (List.mem_cons_self ..)
  rw [zcb] at h2
  have h3:=zaY (hur ▸ hu)
  unfold oneI at h2
  rw [if_pos rfl] at h2
  omega
 ·have hcc:(zU d m).2=0:=by
   unfold cread at hr
   rw [if_neg (by omega),if_pos hk,← hm] at hr
   exact hr
  have hcr:∀d',elook d' p0 r g=elook d p0 r g→cread d' r g=zU d' m:=by
   intro d' hh
   unfold cread
   rw [hh,if_neg (by omega),if_pos hk,← hm]
  rw [hcr _ (hlook r (List.mem_cons_self ..) g),hcr d rfl]
  exact zjS hd.puts h0 h1 ht hz hcc
theorem zfI {x:Img} {h:Int} {S:List Int} {D:Int→Int} (hx:ImgF x) (hr0:(zk x.disk p0).2=0) (s:V x.disk p0 h (zk x.disk p0).1.l1 S D) (hh:x.geom.host≤h) (hD:∀k,0≤k→k<h→0≤D k) {g off:Int} {t:Txt} (h0:0≤off) (h1:off+t.length≤128)
  (hz:(zbx x (zk x.disk p0).1.l1 g off t).2=0):
  (∀u∈S,∀k,cread (zbx x (zk x.disk p0).1.l1 g off t).1.disk u k=cread x.disk u k)∧(∀k,k≠g→cread (zbx x (zk x.disk p0).1.l1 g off t).1.disk (zk x.disk p0).1.l1 k=cread x.disk (zk x.disk p0).1.l1 k)∧
  cread (zbx x (zk x.disk p0).1.l1 g off t).1.disk (zk x.disk p0).1.l1 g=((overS (cread x.disk (zk x.disk p0).1.l1 g).1 off t).1,0):=by
 have hd0:DP x.disk p0:=⟨hx.disk,zcZ⟩
 obtain ⟨r,hr⟩:∃r,r=(zk x.disk p0).1.l1:=⟨_,rfl⟩
 rw [← hr] at s hz ⊢
 unfold zbx at hz ⊢
 obtain ⟨T,hT⟩:∃T,T=rtake x.disk p0 x.geom:=⟨_,rfl⟩
 rw [← hT] at hz ⊢
 split at hz
 ·rename_i h2;exact absurd hz h2
 rename_i h2
 rw [if_neg h2]
 split at hz
 ·rename_i h3;exact absurd hz h3
 rename_i h3
 rw [if_neg h3]
 have hT0:T.2.2=0:=by simpa using h2
 obtain ⟨t1,t2,t3,t4,t5,t6,t7⟩:=V.rtake (g:=x.geom) s hd0 hh hD (by rw [← hT];exact hT0)
 rw [← hT] at t1 t2 t3 t4 t5 t6 t7
 obtain ⟨c,hc⟩:∃c,c=T.2.1:=⟨_,rfl⟩
 rw [← hc] at t1 t2 t3 t4 t5 t6 hz ⊢
 obtain ⟨b,hb⟩:∃b,b=(overS (cread x.disk r g).1 off t).1:=⟨_,rfl⟩
 rw [← hb] at hz ⊢
 have hbl:b.length=128:=by
  have hl:=zeL (l1:=r) (g:=g) hx.disk.puts (by simpa using h3)
  rw [hb,zdu h0 (by omega)]
  exact (zio (by omega)).trans hl
 obtain ⟨Y,hY⟩:∃Y,Y=layL x.disk (zaO c b):=⟨_,rfl⟩
 rw [← hY] at hz ⊢
 have hYF:DiskF Y.1:=by rw [hY];exact DiskF.layL _ hx.disk
 split at hz
 ·rename_i h4;exact absurd hz h4
 rename_i h4
 rw [if_neg h4]
 split at hz
 ·rename_i h5;exact absurd hz h5
 rename_i h5
 rw [if_neg h5]
 have hY0:Y.2=0:=by simpa using h4
 have hrd:∀b',¬inC c b'→dread Y.1 b'=dread x.disk b':=by
  intro b' hb'
  rw [hY] at hY0 ⊢
  rw [zcg _ hY0,zgS]
  intro q hq
  unfold inC at hb'
  simp only [zaO,List.mem_cons,List.mem_nil_iff,or_false] at hq
  rcases hq with rfl|rfl
  ·simp only;omega
  ·simp only;omega
 have hnew:dread Y.1 (96+2*c)=(b.take 64,0)∧dread Y.1 (96+2*c+1)=((b.take 128).drop 64,0):=by
  obtain ⟨f1,f2⟩:=zk6 c b
  rw [hY] at hY0 ⊢
  constructor
  ·rw [zcg _ hY0,f1]
  ·rw [zcg _ hY0,f2]
 have hdT:DP Y.1 T.1:=⟨hYF,by rw [hT];exact (hd0.rtake _).p⟩
 have hET:∀t',t'≠c→∀i,eget Y.1 T.1 t' i=eget x.disk p0 t' i:=fun t' ht i=>by rw [← t7];exact zg3 hrd t' ht i
 have hTl:∀b':Int,b'<87∨95≤b'→plook Y.1 T.1 b'=dread Y.1 b':=by
  intro b' hb'
  rw [hT,zjT hd0 (by rw [← hT];exact hT0) Y.1 hb',zlZ]
 have s0:Sound (eget x.disk p0) (rget x.disk T.1) h r S (fun j=>D j+oneI c j):=Sound.of t6 (fun t' i=>(t7 t' i).symm) (fun _=>rfl) (fun _=>rfl)
 obtain ⟨sY,aY⟩:=s0.apart t3 hET
 have hsT:V Y.1 T.1 h r S (fun j=>D j+oneI c j):=Sound.of sY (fun _ _=>rfl) (fun k=>zee (fun b' h0 h1=>zfq (hrd b' (by unfold inC;omega)) _) k) (fun _=>rfl)
 have hrT:zk Y.1 T.1=zk x.disk p0:=by unfold zk;rw [hTl 1 (by omega),zlZ,hrd 1 (by unfold inC;omega)]
 have hD2:∀k,0≤k→k<h→0≤D k+oneI c k:=by
  intro k q0 q1
  have:=hD k q0 q1
  unfold oneI
  split<;>omega
 have hgu:=hx.guest
 have h64:g<64:=by
  rcases Int.lt_or_le g 64 with hg|hg
  ·exact hg
  ·exfalso
   have e10:pown Y.1 T.1 x.geom g=(T.1,0,10):=by unfold pown;rw [if_pos (.inr (by omega))]
   have e11:(ppoint Y.1 T.1 x.geom g ⟨1,c⟩).2=10:=by unfold ppoint;rw [e10];rfl
   omega
 obtain ⟨p1,p2,p3,p4,p5,p6,p7,⟨p8,i0,p9,p10⟩,p11⟩:=V.point (x:=⟨1,c⟩) (guest:=g) hsT hdT (g:=x.geom) hh hD2 (by rw [hrT];exact hr.symm) h64 (by
   intro k hk
   have:k=c:=by simpa [eat] using hk
   subst this
   exact ⟨t1,t2,fun t' ht' hh=>t3 (hh ▸ zJ ht' (.inr rfl))⟩) (by simpa using h5)
 obtain ⟨P,hPe⟩:∃P,P=(ppoint Y.1 T.1 x.geom g ⟨1,c⟩).1:=⟨_,rfl⟩
 obtain ⟨t2',ht2⟩:∃t2',t2'=(pown Y.1 T.1 x.geom g).2.1:=⟨_,rfl⟩
 obtain ⟨q,hq⟩:∃q,q=(pown Y.1 T.1 x.geom g).1:=⟨_,rfl⟩
 rw [← hPe] at p2 p3 p4 p5 p6 p7 hz ⊢
 rw [← ht2] at p7 p8 p10 p11
 rw [← hq] at p8 p10 p11
 have hxY:ImgF (wdisk x Y.1):=hx.wd hYF
 have hview:∀b':Int,b'<6∨87≤b'→plook (cdone (wdisk x Y.1) P).1.disk p0 b'=plook Y.1 P b':=fun b' hb'=>zm2 (x:=wdisk x Y.1) hxY p3.p hz hb'
 have lkY:∀u∈r::S,∀k,elook Y.1 T.1 u k=elook x.disk p0 u k:=by
  intro u hu k
  refine zbM (fun _ _=>hET u (fun hh=>t3 (hh ▸ zJ hu (.inr rfl))) _) (fun q0 q1 _ hk1=>?_)
  obtain ⟨i,hi⟩:∃i:Nat,k / 16=i:=⟨(k / 16).toNat,by omega⟩
  rw [hi] at hk1 ⊢
  exact hET _ (fun hh=>t3 (hh ▸ zJ hu (.inl (zcy (by omega) (zaj (by rw [hk1];decide)))))) _
 have egC:∀u i,eget (cdone (wdisk x Y.1) P).1.disk p0 u i=eget Y.1 P u i:=fun u i=>zc7 (fun _ _=>⟨hview _ (by omega),hview _ (by omega)⟩) i
 have lkC:∀u k,elook (cdone (wdisk x Y.1) P).1.disk p0 u k=elook Y.1 P u k:=fun u k=>zbM (fun _ _=>egC _ _) (fun _ _ _ _=>egC _ _)
 have hdata:∀m:Int,0≤m→m≠r→m≠t2'→∀b',inC m b'→dread (cdone (wdisk x Y.1) P).1.disk b'=dread Y.1 b':=by
  intro m hm0 hmr hmt b' hb'
  have hlo:96≤b':=by unfold inC at hb';omega
  rw [← zlZ,hview b' (by omega),p7 b' (by omega) (fun hh=>by unfold inC at hh hb';omega) (fun hh=>by unfold inC at hh hb';omega),hTl b' (by omega)]
 have hEQ:∀m:Int,m∈rl (eget x.disk p0) r∨(∃u∈S,m∈rl (eget x.disk p0) u)→m≠r:=by
  intro m hm hmr
  rcases hm with hm|⟨u,hu,hm⟩
  ·exact s.first_not (t:=r) (List.mem_cons_self ..) (List.mem_cons_self ..) (hmr ▸ hm)
  ·exact s.first_not (t:=r) (List.mem_cons_self ..) (List.mem_cons_of_mem _ hu) (hmr ▸ hm)
 have hnt:∀u∈r::S,∀k,(elook x.disk p0 u k).2=0→(elook x.disk p0 u k).1.kind=1→(elook x.disk p0 u k).1.loc≠t2':=by
  intro u hu k e1 e2 hmt
  rw [← lkY u hu k] at e1 e2 hmt
  obtain ⟨i,j,hU⟩:=zef e1 e2
  rw [hmt] at hU
  rcases p11 with p11|p11
  ·exact p11.1 (zJ hu (.inl hU.rl))
  ·rw [p11] at p8 p10
   obtain ⟨w1,w2,w3⟩:=zm6 p9 (by rw [p10]) (by rw [p10]) p8
   rcases List.mem_cons.1 hu with rfl|hu
   ·by_cases ei:i=i0
    ·subst ei
     have:=hU.eat
     rw [p10] at this
     exact w3 this
    ·exact w2 i hU.hi ei hU.piece
   ·exact w1 (zJ hu (.inl hU.rl))
 have hold:∀u∈r::S,∀k,elook Y.1 P u k=elook x.disk p0 u k→cread (cdone (wdisk x Y.1) P).1.disk u k=cread x.disk u k:=by
  intro u hu k he
  refine zg4 (by rw [lkC,he]) (fun e1 e2 b' hb'=>?_)
  obtain ⟨i,j,hU⟩:=zef e1 e2
  have hmem:(elook x.disk p0 u k).1.loc∈allL (eget x.disk p0) (r::S):=zJ hu (.inl hU.rl)
  have hmr:(elook x.disk p0 u k).1.loc≠r:=hEQ _ (by
   rcases List.mem_cons.1 hu with rfl|hu
   ·exact .inl hU.rl
   ·exact .inr ⟨u,hu,hU.rl⟩)
  rw [hdata _ (s.rng _ hmem).1 hmr (hnt u hu k e1 e2) b' hb',hrd b' (fun hh=>t3 ((show (elook x.disk p0 u k).1.loc=c by unfold inC at hh hb';omega) ▸ hmem))]
 refine ⟨fun u hu k=>hold u (List.mem_cons_of_mem _ hu) k ?_,fun k hk=>hold r (List.mem_cons_self ..) k ?_,?_⟩
 ·rw [p5 u hu k,lkY u (List.mem_cons_of_mem _ hu) k]
 ·rw [p4 k,if_neg hk,lkY r (List.mem_cons_self ..) k]
 ·have hcr:c≠r:=fun hh=>t3 (hh ▸ zJ (List.mem_cons_self ..) (.inr rfl))
  have hct:c≠t2':=by
   intro hh
   rcases p11 with p11|p11
   ·-- a second table of one's own, taken behind the cluster
    have h6:=p11.2
    rw [← hh] at h6
    simp only [oneI,if_true] at h6
    omega
   ·rw [p11] at p10
    have:=zcy (E:=eget Y.1 T.1) (t:=r) p9 (zaj (by rw [p10];simp))
    rw [p10] at this
    exact t3 (aY ▸ zJ (List.mem_cons_self ..) (.inl (hh ▸ this)))
  have hck:elook (cdone (wdisk x Y.1) P).1.disk p0 r g=(⟨1,c⟩,0):=by rw [lkC,p4 g,if_pos rfl]
  unfold cread
  rw [hck,if_neg (by simp),if_pos rfl]
  unfold zU
  simp only
  rw [hdata c t1 hcr hct _ (.inl rfl),hdata c t1 hcr hct (96+2*c+1) (.inr (by omega)),hnew.1,hnew.2,if_neg (by simp),if_neg (by simp)]
  congr 1
  rw [List.take_of_length_le (show b.length≤128 by omega),List.take_append_drop,hb]
theorem zjU {x:Img} {h:Int} {S:List Int} {D:Int→Int} (hx:ImgF x) (hr0:(zk x.disk p0).2=0) (s:V x.disk p0 h (zk x.disk p0).1.l1 S D) (hh:x.geom.host≤h) (hD:∀k,0≤k→k<h→0≤D k) {g off:Int} {t:Txt}
  (hz:(zab x g off t).2=0) (hg:(cread x.disk (zk x.disk p0).1.l1 g).2=0):
  (∀u∈S,∀k,cread (zab x g off t).1.disk u k=cread x.disk u k)∧(∀k,k≠g→cread (zab x g off t).1.disk (zk x.disk p0).1.l1 k=cread x.disk (zk x.disk p0).1.l1 k)∧
  cread (zab x g off t).1.disk (zk x.disk p0).1.l1 g=((overS (cread x.disk (zk x.disk p0).1.l1 g).1 off t).1,0):=by
 have hcl:=zeL hx.disk.puts hg
 unfold zab at hz ⊢
 split at hz
 ·exact absurd hz (by simp)
 rename_i hb
 rw [if_neg hb]
 split at hz
 ·exact absurd hz (by simp)
 rename_i hrg
 rw [if_neg hrg]
 split at hz
 ·rename_i ht
  rw [if_pos ht]
  refine ⟨fun _ _ _=>rfl,fun _ _=>rfl,?_⟩
  subst ht
  rw [zdu (by omega) (by rw [List.length_nil];simp only [List.length_nil] at hrg;omega),zsf]
  exact Prod.ext rfl hg
 rename_i ht
 rw [if_neg ht]
 have hX:ImgF (cmark x g):=hx.mark g
 have hc:(cmark x g).disk=x.disk∧(cmark x g).geom=x.geom:=by unfold cmark;split<;>exact ⟨rfl,rfl⟩
 obtain ⟨X,hXe⟩:∃X,X=cmark x g:=⟨_,rfl⟩
 rw [← hXe] at hX hc hz ⊢
 obtain ⟨hc1,hc2⟩:=hc
 rw [← hc1] at hr0 s hg hcl ⊢
 rw [← hc2] at hh
 unfold zff at hz ⊢
 rw [if_neg (by omega)] at hz ⊢
 split at hz
 ·rename_i h2;exact absurd hz h2
 rename_i h2
 rw [if_neg h2]
 have ho0:0≤off:=by omega
 have ho1:off+t.length≤128:=by omega
 unfold zfe at hz ⊢
 split at hz
 ·rename_i h3
  rw [if_pos h3]
  split at hz
  ·rename_i h4;exact absurd hz h4
  rename_i h4
  rw [if_neg h4]
  split at hz
  ·rename_i h5
   rw [if_pos h5]
   exact zk7 hX.disk s hD ho0 ho1 ht (by omega) (by simpa using h2) h3 h5 hz hg
  ·rename_i h5
   rw [if_neg h5]
   exact zfI hX hr0 s hh hD ho0 ho1 hz
 ·rename_i h3
  rw [if_neg h3]
  exact zfI hX hr0 s hh hD ho0 ho1 hz
open Go Go.Proofs
structure DF (d d':Disk):Prop where
 data:d'.data.length=d.data.length
 bad:d'.bad=d.bad
 cache:d.cache.length≤4096→d'.cache.length≤4096
theorem DF.refl (d:Disk):DF d d:=⟨rfl,rfl,id⟩
theorem DF.trans {a b c:Disk} (h:DF a b) (g:DF b c):DF a c:=⟨g.data.trans h.data,g.bad.trans h.bad,fun k=>g.cache (h.cache k)⟩
theorem zjV {d d':Disk} (h:d'.data.length=d.data.length):∀ (l:List Int) (p:Option Int),zbQ d' l p=zbQ d l p
 | [],p=>rfl
 |a::l,p=>by simp only [zbQ];rw [zfi h,zjV h l]
theorem DF.fit {d d':Disk} (h:DF d d') (hF:DiskF d') (hf:dfit d=true):dfit d'=true:=by
 unfold dfit at hf ⊢
 simp only [Bool.and_eq_true,decide_eq_true_eq,beq_iff_eq] at hf ⊢
 obtain ⟨⟨⟨⟨⟨h1,h2⟩,h3⟩,h4⟩,h5⟩,h6⟩:=hf
 have hd:dsize d'=dsize d:=by unfold dsize;rw [h.data]
 exact ⟨⟨⟨⟨⟨by rw [hd];exact h1,by rw [hd];exact h2⟩,by rw [h.data];exact h3⟩,h.cache h4⟩,hF.puts⟩,by rw [h.bad,zjV h.data];exact h6⟩
theorem DF.write (d:Disk) (a:Int) (s:Txt):DF d (zD d a s).1:=by
 refine ⟨by rw [zgC],?_,?_⟩
 ·unfold zD
  repeat' split
  all_goals first|rfl|(rw [zeN])
 ·intro h
  unfold zD
  split
  ·exact h
  split
  ·exact h
  split
  ·exact h
  split
  ·exact h
  split
  ·exact h
  split
  ·exact h
  ·rename_i h1 h2 h3 h4 h5 h6
   rw [zct]
   simp only [List.length_append,List.length_cons,List.length_nil]
   omega
theorem DF.flush {d:Disk} (h:DiskF d):DF d (dflush d).1:=by
 refine ⟨zhJ h.puts,?_,?_⟩
 ·unfold dflush
  repeat' split
  all_goals first|rfl|(rw [zeN])
 ·intro hc
  unfold dflush
  split
  ·exact hc
  split
  ·exact hc
  ·rw [zct]
   exact Nat.zero_le _
theorem DF.layL:∀ (l:List (Int×Txt)) (d:Disk),DF d (layL d l).1
 | [],d=>DF.refl d
 |q::l,d=>by
  rw [Aw.layL]
  split
  ·exact DF.write d q.1 q.2
  ·exact (DF.write d q.1 q.2).trans (DF.layL l _)
theorem DF.commit {d:Disk} (h:DiskF d) (j:Jour) (p:Plan):DF d (jcommit d j p).1:=by
 have h1:=DF.flush h
 have h2:∀l,DF d (Aw.layL (dflush d).1 l).1:=fun l=>h1.trans (DF.layL l _)
 have h3:∀l,DF d (dflush (Aw.layL (dflush d).1 l).1).1:=fun l=>(h2 l).trans (DF.flush (DiskF.layL l h.flush))
 have h4:∀l,DF d (play (dflush (Aw.layL (dflush d).1 l).1).1 p).1:=fun l=>(h3 l).trans (DF.layL _ _)
 unfold jcommit jtail
 repeat' split
 all_goals first|exact DF.refl d|exact h1|exact h2 _|exact h3 _|exact h4 _
theorem DF.place (d:Disk) (k off:Int) (s:Txt):DF d (zbn d k off s).1:=by
 have h1:∀i d,DF d (cput1 d k off s i).1:=by
  intro i d
  unfold cput1
  split
  ·exact DF.refl d
  split
  ·exact DF.refl d
  ·exact DF.write _ _ _
 have:∀m i d,DF d (zbF k off s m i d).1:=by
  intro m
  induction m with
  |zero=>intro i d;exact DF.refl d
  |succ m ih=>
   intro i d
   rw [zbF]
   split
   ·exact h1 i d
   ·exact (h1 i d).trans (ih _ _)
 exact this _ _ _
theorem zk8 {d:Disk} {j:Jour} {p:Plan} (hp:pfit p=true) (h:jfit j=true):jfit (jcommit d j p).2.1=true:=by
 have hl:=(ze9 j.seq hp).1
 have hA:=ze8 j.pos (zb3 j.seq p).length
 have hAL:0≤zcI j.pos (zb3 j.seq p).length∧zcI j.pos (zb3 j.seq p).length+(zb3 j.seq p).length≤81:=by
  refine ⟨by omega,?_⟩
  unfold zcI
  split<;>omega
 unfold jcommit
 split
 ·exact h
 split
 ·exact h
 rename_i h2
 split
 ·exact h
 unfold jtail
 split
 ·exact h
 split
 ·exact h
 split
 ·exact h
 ·unfold jfit at h ⊢
  simp only [Bool.and_eq_true,decide_eq_true_eq] at h ⊢
  omega
structure IF (x y:Img):Prop where
 geom:y.geom=x.geom
 disk:DF x.disk y.disk
 jour:jfit x.jour=true→jfit y.jour=true
 len:y.maps.length=x.maps.length
 maps:∀n k,mfit n k y.maps=mfit n k x.maps
 head:y.maps.head?.map (·.name)=x.maps.head?.map (·.name)
theorem IF.refl (x:Img):IF x x:=⟨rfl,DF.refl _,id,rfl,fun _ _=>rfl,rfl⟩
theorem IF.trans {x y z:Img} (h:IF x y) (g:IF y z):IF x z:=⟨g.geom.trans h.geom,h.disk.trans g.disk,fun k=>g.jour (h.jour k),g.len.trans h.len,fun n k=>(g.maps n k).trans (h.maps n k),g.head.trans h.head⟩
theorem IF.fit {x y:Img} (h:IF x y) (hy:ImgF y) (hf:ifit x=true):ifit y=true:=by
 unfold ifit at hf ⊢
 simp only [Bool.and_eq_true,decide_eq_true_eq,beq_iff_eq] at hf ⊢
 obtain ⟨⟨⟨⟨⟨h1,h2⟩,h3⟩,h4⟩,h5⟩,h6⟩:=hf
 have hd:dsize y.disk=dsize x.disk:=by unfold dsize;rw [h.disk.data]
 exact ⟨⟨⟨⟨⟨by rw [h.geom];exact h1,h.disk.fit hy.disk h2⟩,by rw [hd,h.geom];exact h3⟩,h.jour h4⟩,by rw [h.len];exact h5⟩,by rw [h.head,h.maps];exact h6⟩
theorem IF.mark (x:Img) (g:Int):IF x (cmark x g):=by
 unfold cmark
 split
 ·exact IF.refl x
 ·refine ⟨rfl,DF.refl _,id,by simp,?_,?_⟩
  ·simp only
   intro n k
   have hg:∀ (l:List Dmap) k,mfit n k (l.map (mset g.toNat))=mfit n k l:=by
    intro l
    induction l with
    |nil=>intro k;rfl
    |cons m l ih=>intro k;rw [List.map_cons,mfit,mfit,ih];rfl
   exact hg _ k
  ·cases hm:x.maps with
   |nil=>simp [hm]
   |cons m l=>simp [hm,mset]
theorem IF.wd (x:Img) {d:Disk} (h:DF x.disk d):IF x (wdisk x d):=⟨rfl,h,id,rfl,fun _ _=>rfl,rfl⟩
theorem IF.done {x:Img} {p:Plan} (hx:DiskF x.disk) (hp:pfit p=true):IF x (cdone x p).1:=by
 have h1:=DF.commit hx x.jour p
 have h2:=zk8 (d:=x.disk) (j:=x.jour) hp
 unfold cdone
 split
 ·exact ⟨rfl,h1,id,rfl,fun _ _=>rfl,rfl⟩
 ·exact ⟨rfl,h1,h2,rfl,fun _ _=>rfl,rfl⟩
theorem IF.write4 {x:Img} (hx:ImgF x) (l1 g off:Int) (s:Txt):IF x (zbx x l1 g off s).1:=by
 have hd0:DP x.disk p0:=⟨hx.disk,zcZ⟩
 unfold zbx
 split
 ·exact IF.refl x
 split
 ·exact IF.refl x
 split
 ·exact IF.wd x (DF.layL _ _)
 split
 ·exact IF.wd x (DF.layL _ _)
 ·refine (IF.wd x (DF.layL _ _)).trans (IF.done (DiskF.layL _ hx.disk) ?_)
  have hq:DP (layL x.disk (zaO (rtake x.disk p0 x.geom).2.1 (overS (cread x.disk l1 g).1 off s).1)).1 (rtake x.disk p0 x.geom).1:=⟨DiskF.layL _ hx.disk,(hd0.rtake _).p⟩
  exact (hq.ppoint _ _ _).p
theorem IF.write {x:Img} (hx:ImgF x) (g off:Int) (s:Txt):IF x (zab x g off s).1:=by
 have hm:=hx.mark g
 unfold zab
 split
 ·exact IF.refl x
 split
 ·exact IF.refl x
 split
 ·exact IF.refl x
 refine (IF.mark x g).trans ?_
 unfold zff
 split
 ·exact IF.refl _
 split
 ·exact IF.refl _
 unfold zfe
 split
 ·split
  ·exact IF.refl _
  split
  ·exact IF.wd _ (DF.place _ _ _ _)
  ·exact IF.write4 hm _ _ _ _
 ·exact IF.write4 hm _ _ _ _
open Go Go.Proofs
def ctJ (d:Disk) (a0:Int):Nat→List Int→List Int→Option (List Int)
 |_,[],a=>some a
 |i,t::r,a=>if (reach d p0 t).2≠0 then none else if t<0 then none else if 256≤t then none else if 0<i∧t=a0 then none else ctJ d a0 (i+1) r (a++((reach d p0 t).1++ [t]))
def ctE (d:Disk) (l a:List Int):Bool:=
 if ((List.range (rall d p0 256).1.length).any fun k=>decide ((rall d p0 256).1.getD k 0<(cnts 256 a).getD k 0)) then false
 else if (l.any fun t=>(cnts 256 a).getD t.toNat 0 !=1) then false else ((rall d p0 256).2==0)&&(((rall d p0 256).1.length:Int)==256)
def ctd (d:Disk) (l:List Int):Bool:=match ctJ d (l.headD 0) 0 l [] with
 |none=>false
 |some a=>ctE d l a
def gstK (d:Disk) (t:Int):Nat→Int→List Txt→List Txt×Bool
 |0,_,l=>(l,true)
 |m+1,k,l=>if (cread d t k).2≠0 then ([],false) else gstK d t m (k+1) (l++ [(cread d t k).1])
def gst (d:Disk) (t n:Int):List Txt×Bool:=gstK d t n.toNat 0 []
theorem zo6 {d:Disk} {a0:Int} :∀ (l:List Int) (i:Nat) (a A:List Int),ctJ d a0 i l a=some A→(∀t∈l,0≤t∧t<256∧(reach d p0 t).2=0)∧A=a++allL (eget d p0) l
 | [],i,a,A,h=>⟨fun t ht=>(by cases ht),by
   rw [ctJ] at h
   simp [allL,Option.some.inj h]⟩
 | t::r,i,a,A,h=>by
  rw [ctJ] at h
  split at h
  ·cases h
  rename_i h1
  split at h
  ·cases h
  split at h
  ·cases h
  split at h
  ·cases h
  obtain ⟨g1,g2⟩:=zo6 r _ _ _ h
  have hr:(reach d p0 t).2=0:=by simpa using h1
  refine ⟨fun u hu=>?_,?_⟩
  ·rcases List.mem_cons.1 hu with rfl|hu
   ·exact ⟨by omega,by omega,hr⟩
   ·exact g1 u hu
  ·rw [g2,zaI,(ziH hr).2]
   simp only [List.append_assoc]
theorem zo7 {n:Nat} (a:List Int) {k:Int} (h0:0≤k) (h1:k<n):(cnts n a).getD k.toNat 0=((a.count k:Nat):Int):=by
 obtain ⟨j,rfl⟩:∃j:Nat,k=j:=⟨k.toNat,by omega⟩
 rw [List.getD_eq_getElem?_getD,Int.toNat_natCast,zec a (by omega)]
 rfl
theorem V.of_ctd {d:Disk} {r o:Int} (h:ctd d [r,o]=true):V d p0 256 r [o] (fun k=>(rget d p0 k).1 - ((allL (eget d p0) [r,o]).count k:Nat))∧∀k,0≤k→k<256→0≤(rget d p0 k).1 - ((allL (eget d p0) [r,o]).count k:Nat):=by
 unfold ctd at h
 split at h
 ·cases h
 rename_i A hA
 obtain ⟨g1,g2⟩:=zo6 _ _ _ _ hA
 rw [List.nil_append] at g2
 subst g2
 unfold ctE at h
 split at h
 ·cases h
 rename_i h2
 split at h
 ·cases h
 rename_i h3
 simp only [Bool.and_eq_true,beq_iff_eq] at h
 obtain ⟨h4,h5⟩:=h
 obtain ⟨e1,e2,e3⟩:=zse (d:=d) (p:=p0) (n:=256) h4
 have hle:∀k:Nat,k<256→((allL (eget d p0) [r,o]).count (k:Int):Nat)≤(rget d p0 k).1:=by
  intro k hk
  have h6:=List.any_eq_false.1 (Bool.eq_false_iff.2 h2) k (List.mem_range.2 (by omega))
  have h7:=zo7 (n:=256) (allL (eget d p0) [r,o]) (k:=k) (by omega) (by omega)
  rw [Int.toNat_natCast] at h7
  have e4:(rall d p0 256).1=_:=e3
  rw [h7,e4] at h6
  simp only [List.getD_eq_getElem?_getD,List.getElem?_map,List.getElem?_range hk,Option.map_some,Option.getD_some,decide_eq_true_eq] at h6
  omega
 refine ⟨⟨fun t ht=>(ziH (g1 t ht).2.2).1,fun k hk=>?_,fun k h0 h6=>?_,fun t ht=>?_⟩,fun k h0 h6=>?_⟩
 ·unfold allL at hk
  rw [List.mem_flatMap] at hk
  obtain ⟨t,ht,hk⟩:=hk
  obtain ⟨b1,b2,b3⟩:=g1 t ht
  rcases List.mem_append.1 hk with hk|hk
  ·rw [← (ziH b3).2] at hk
   exact zjK k hk
  ·rw [List.mem_singleton] at hk
   subst hk
   exact ⟨b1,b2⟩
 ·obtain ⟨j,rfl⟩:∃j:Nat,k=j:=⟨k.toNat,by omega⟩
  refine Prod.ext ?_ (e2 j (by omega))
  show (rget d p0 (j:Int)).1=_
  omega
 ·have h6:=List.any_eq_false.1 (Bool.eq_false_iff.2 h3) t ht
  obtain ⟨b1,b2,b3⟩:=g1 t ht
  rw [zo7 _ b1 (by omega)] at h6
  simp only [bne_iff_ne,ne_eq,Decidable.not_not] at h6
  omega
 ·obtain ⟨j,rfl⟩:∃j:Nat,k=j:=⟨k.toNat,by omega⟩
  have:=hle j (by omega)
  omega
theorem zo8 {d:Disk} {t:Int} :∀ (m:Nat) (k:Int) (l:List Txt),(gstK d t m k l).2=true→(∀i:Nat,i<m→(cread d t (k+i)).2=0)∧(gstK d t m k l).1=l++(List.range m).map (fun (i:Nat)=>(cread d t (k+i)).1)
 |0,k,l,h=>⟨fun i hi=>by omega,by simp [gstK]⟩
 | m+1,k,l,h=>by
  rw [gstK] at h ⊢
  split at h
  ·cases h
  rename_i h1
  rw [if_neg h1]
  obtain ⟨g1,g2⟩:=zo8 m (k+1) _ h
  refine ⟨fun i hi=>?_,?_⟩
  ·rcases i with _|i
   ·have:k+((0:Nat):Int)=k:=by omega
    rw [this]
    simpa using h1
   ·have:=g1 i (by omega)
    rwa [show k+1+(i:Int)=k+((i+1:Nat):Int) by omega] at this
  ·rw [g2,List.range_succ_eq_map,List.map_cons,List.map_map,List.append_assoc]
   congr 1
   rw [show k+((0:Nat):Int)=k by omega]
   simp only [List.singleton_append,List.cons.injEq,true_and]
   refine List.map_congr_left (fun i _=>?_)
   simp only [Function.comp]
   rw [show k+1+(i:Int)=k+((i.succ:Nat):Int) by omega]
theorem zo9 {d:Disk} {t:Int} :∀ (m:Nat) (k:Int) (l:List Txt),(∀i:Nat,i<m→(cread d t (k+i)).2=0)→(gstK d t m k l).2=true
 |0,k,l,h=>rfl
 |m+1,k,l,h=>by
  rw [gstK]
  have h0:=h 0 (by omega)
  rw [show k+((0:Nat):Int)=k by omega] at h0
  rw [if_neg (by omega)]
  refine zo9 m (k+1) _ (fun i hi=>?_)
  rw [show k+1+(i:Int)=k+((i+1:Nat):Int) by omega]
  exact h (i+1) (by omega)
theorem zhY {d:Disk} {t n:Int} (h0:0≤n) (h:(gst d t n).2=true):(∀i:Int,0≤i→i<n→(cread d t i).2=0)∧((gst d t n).1.length:Int)=n∧∀i:Nat,i<n.toNat→(gst d t n).1[i]?=some (cread d t i).1:=by
 obtain ⟨g1,g2⟩:=zo8 _ _ _ h
 refine ⟨fun i a b=>?_,?_,fun i hi=>?_⟩
 ·have:=g1 i.toNat (by omega)
  rwa [show (0:Int)+(i.toNat:Int)=i by omega] at this
 ·unfold gst
  rw [g2]
  simp
  omega
 ·unfold gst
  rw [g2,List.nil_append,List.getElem?_map,List.getElem?_range hi,Option.map_some,show (0:Int)+(i:Int)=i by omega]
theorem zsT {d:Disk} {t n:Int} (h:∀i:Int,0≤i→i<n→(cread d t i).2=0):(gst d t n).2=true:=
 zo9 _ _ _ (fun i hi=>by rw [show (0:Int)+(i:Int)=i by omega];exact h i (by omega) (by omega))
theorem zhj {x:Img} {g off o n:Int} {s:Txt} (hx:ImgF x) (hn:n=x.geom.guest) (hn0:0≤n) (hr0:(zk x.disk p0).2=0) (hc:ctd x.disk [(zk x.disk p0).1.l1,o]=true) (ha:(gst x.disk (zk x.disk p0).1.l1 n).2=true) (hb:(gst x.disk o n).2=true) (hz:(zab x g off s).2=0):
  (gst (zab x g off s).1.disk (zk x.disk p0).1.l1 n).2=true∧gst (zab x g off s).1.disk o n=gst x.disk o n∧
  (∀i:Nat,(i:Int)<n→(gst (zab x g off s).1.disk (zk x.disk p0).1.l1 n).1[i]?=some (if (i:Int)=g then (overS (cread x.disk (zk x.disk p0).1.l1 i).1 off s).1 else (cread x.disk (zk x.disk p0).1.l1 i).1)):=by
 obtain ⟨v1,v2⟩:=V.of_ctd hc
 have hg:0≤g∧g<n:=by
  unfold zab at hz
  split at hz
  ·exact absurd hz (by simp)
  split at hz
  ·exact absurd hz (by simp)
  ·omega
 obtain ⟨a1,a2,a3⟩:=zhY hn0 ha
 obtain ⟨b1,b2,b3⟩:=zhY hn0 hb
 obtain ⟨w1,w2,w3⟩:=zjU hx hr0 v1 hx.host v2 hz (a1 g hg.1 hg.2)
 have hoth:∀k,cread (zab x g off s).1.disk o k=cread x.disk o k:=w1 o (List.mem_singleton.2 rfl)
 have hgK:∀ (m:Nat) (k:Int) (l:List Txt),gstK (zab x g off s).1.disk o m k l=gstK x.disk o m k l:=by
  intro m
  induction m with
  |zero=>intro k l;rfl
  |succ m ih=>intro k l;rw [gstK,gstK,hoth,ih]
 have hcr:∀i:Int,0≤i→i<n→cread (zab x g off s).1.disk (zk x.disk p0).1.l1 i=(if i=g then (overS (cread x.disk (zk x.disk p0).1.l1 i).1 off s).1 else (cread x.disk (zk x.disk p0).1.l1 i).1,0):=by
  intro i h0 h1
  by_cases e:i=g
  ·subst e
   rw [w3,if_pos rfl]
  ·rw [w2 i e,if_neg e]
   exact Prod.ext rfl (a1 i h0 h1)
 have hcz:(gst (zab x g off s).1.disk (zk x.disk p0).1.l1 n).2=true:=zsT (fun i h0 h1=>by rw [hcr i h0 h1])
 refine ⟨hcz,hgK _ _ _,fun i hi=>?_⟩
 rw [(zhY hn0 hcz).2.2 i (by omega),hcr i (by omega) hi]
end Go.Aw
