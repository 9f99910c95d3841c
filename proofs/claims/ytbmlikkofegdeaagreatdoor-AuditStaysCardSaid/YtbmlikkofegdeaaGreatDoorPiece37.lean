/-
  Parts of the proof: StayE, AuditB, AuditC, StayG (short names; the readable texts lie in the repo, under wip).
-/
import Derived.Test.YtbmlikkofegdeaaGreatDoorPiece36
import Derived.Test.YtbmlikkofegdeaaGreatDoorPiece17
import Derived.Test.YtbmlikkofegdeaaGreatDoorPiece33
import Derived.Test.YtbmlikkofegdeaaGreatDoorPiece34
import Derived.Test.YtbmlikkofegdeaaGreatDoorPiece28
set_option maxRecDepth 100000
set_option maxHeartbeats 2000000
set_option linter.unusedSimpArgs false
set_option linter.unusedVariables false
namespace Go.Aw
open Go Go.Proofs
theorem zhw {E:EF} {r c:Int} {A B:List Int} (k:Int):cnI (allL E (r::(A++c::B))) k=cnI (allL E (r::(A++B))) k+cnI (rl E c) k+oneI c k:=by rw [zaE,zaE,zpQ,zpQ,zaE];simp only [zc1,zbI,ze5];omega
theorem zjm (k:Int):oneI k k=1:=by unfold oneI;rw [if_pos rfl]
theorem zoG {k j:Int} (h:j≠k):oneI k j=0:=by unfold oneI;rw [if_neg h]
theorem zyv (l:List Int) (k:Int):0<=cnI l k:=Int.natCast_nonneg _
theorem Sound.alI {E:EF} {N:Int->Int×Int} {h r:Int} {S:List Int} {D:Int->Int} (s:Sound E N h r S D) {t:Int} (ht:t∈r::S):cnI (allL E (r::S)) t=1:=by unfold cnI;rw [s.alone t ht];rfl
theorem Sound.insert {E:EF} {N:Int->Int×Int} {h r c:Int} {A B:List Int} {D:Int->Int} (s:Sound E N h r (A++B) D) (h0:0<=c) (h1:c<h) (hc:c ∉ allL E (r::(A++B))) (ho:rOk E c) (hrl:rl E c=rl E r):Sound E N h r (A++c::B) (λk=>D k - cnI (rl E c) k - oneI c k):=by
 have hr:r∈r::(A++B):=List.mem_cons_self ..;refine ⟨λt ht=>?_,λk hk=>?_,λk g0 g1=>?_,λt ht=>?_⟩
 ·by_cases e:t=c
  ·rw [e];exact ho
  ·refine s.ok t ?_;simp only [List.mem_cons,List.mem_append] at ht ⊢;rcases ht with h|h|h|h
   ·exact .inl h
   ·exact .inr (.inl h)
   ·exact absurd h e
   ·exact .inr (.inr h)
 ·have hp:=zbD hk;rw [zhw] at hp;by_cases e:k=c
  ·rw [e];exact ⟨h0,h1⟩
  ·by_cases e2:k∈rl E c
   ·rw [hrl] at e2;exact s.rng k (zX hr (.inl e2))
   ·rw [ze6 e2,zoG e] at hp;refine s.rng k ?_;apply Classical.byContradiction;intro hn;rw [ze6 hn] at hp;omega
 ·rw [s.cnt k g0 g1];have:=zhw (E:=E) (r:=r) (c:=c) (A:=A) (B:=B) k;unfold cnI at this ⊢;congr 1;omega
 ·have hk:=zhw (E:=E) (r:=r) (c:=c) (A:=A) (B:=B) t;by_cases e:t=c
  ·subst e;have:t ∉ rl E t:=by rw [hrl];exact λhm=>hc (zX hr (.inl hm))
   rw [ze6 hc,ze6 this,zjm] at hk;unfold cnI at hk;omega
  ·have ht2:t∈r::(A++B):=by
    simp only [List.mem_cons,List.mem_append] at ht ⊢;rcases ht with h|h|h|h
    ·exact .inl h
    ·exact .inr (.inl h)
    ·exact absurd h e
    ·exact .inr (.inr h)
   rw [s.alI ht2,ze6 (l:=rl E c) (k:=t) (by rw [hrl];exact s.first_not ht2 hr),zoG e] at hk;unfold cnI at hk;omega
theorem Sound.remove {E:EF} {N:Int->Int×Int} {h r c:Int} {A B:List Int} {D:Int->Int} (s:Sound E N h r (A++c::B) D):Sound E N h r (A++B) (λk=>D k+cnI (rl E c) k+oneI c k):=by
 have hsub:∀t,t∈r::(A++B)->t∈r::(A++c::B):=by
  intro t ht;simp only [List.mem_cons,List.mem_append] at ht ⊢;rcases ht with h|h|h
  ·exact .inl h
  ·exact .inr (.inl h)
  ·exact .inr (.inr (.inr h))
 have hcm:c∈r::(A++c::B):=by simp
 refine ⟨λt ht=>s.ok t (hsub t ht),λk hk=>?_,λk g0 g1=>?_,λt ht=>?_⟩
 ·refine s.rng k ?_;apply Classical.byContradiction;intro hn;have h1:=zhw (E:=E) (r:=r) (c:=c) (A:=A) (B:=B) k;have h2:=zbD hk;have h3:=zyv (rl E c) k;have h4:0<=oneI c k:=by unfold oneI;split<;>decide
  rw [ze6 hn] at h1;omega
 ·rw [s.cnt k g0 g1];have:=zhw (E:=E) (r:=r) (c:=c) (A:=A) (B:=B) k;unfold cnI at this ⊢;congr 1;omega
 ·have hk:=zhw (E:=E) (r:=r) (c:=c) (A:=A) (B:=B) t
  have hne:t≠c:=by rintro rfl;have h1:=s.not_twice hcm;rw [zbI,zc1,zbI,zjm] at h1;have h2:=zbD ht;rw [zbI,zc1] at h2;omega
  rw [s.alI (hsub t ht),ze6 (s.first_not (hsub t ht) hcm),zoG hne] at hk;unfold cnI at hk;omega
theorem zpR {d:Disk} {p p':Plan} (h:∀b:Int,4<=b->plook d p' b=plook d p b) (k:Int):rget d p' k=rget d p k:=zb1 (λb h0 h1=>h b (by omega)) k
theorem Kp.live {x:Img} {h:Int} {D:Int->Int} (s:Kp h D x) (hb:x.broken=false) (hr:(ze x.disk p0).2=0):x.geom.host=h/\St x D:=by
 obtain ⟨h1,h2⟩:=s;refine ⟨h1,?_⟩;rcases h2 with h2|h2|h2
 ·rw [hb] at h2;cases h2
 ·exact absurd hr (zgt h2)
 ·exact h2
theorem zoH {L:List Snp} {i:Nat} {u v:Snp} (h:L[i]?=some u):∃A B:List Int,(L.filter (λs=>s.id !=0)).map (·.l1)=A++(if u.id=0 then [] else [u.l1])++B/\((L.set i v).filter (λs=>s.id !=0)).map (·.l1)=A++(if v.id=0 then [] else [v.l1])++B:=by
 obtain ⟨A,B,h1,h2⟩:=zxy (v:=v) h
 have hone:∀w:Snp,([w].filter (λs=>s.id !=0)).map (·.l1)=if w.id=0 then [] else [w.l1]:=by
  intro w;by_cases e:w.id=0
  ·rw [if_pos e];have:(w.id !=0)=false:=by simpa using e
   simp [List.filter,this]
  ·rw [if_neg e];have:(w.id !=0)=true:=by simpa using e
   simp [List.filter,this]
 refine ⟨A.map (·.l1),B.map (·.l1),?_,?_⟩
 ·rw [h1,List.map_append,List.map_append,hone]
 ·rw [h2,List.map_append,List.map_append,hone]
theorem Kp.create {x:Img} {h:Int} {D:Int->Int} (hx:ImgF x) (s:Kp h D x) (hD:∀k,0<=k->k<h->0<=D k) (n:Txt):Kp h D (zag x n).1:=by
 rcases zlA x n with ⟨h1,_⟩|⟨i,T,C,S,P,Q,hm⟩
 ·rw [h1];exact s
 obtain ⟨hh,hs⟩:=s.live hm.whole hm.root;subst hh;obtain ⟨v1,v2,v3⟩:=hm.view hx;have hd0:DP x.disk p0:=⟨hx.disk,zaw⟩
 have hd1:DP x.disk T.1:=by rw [hm.hT];exact hd0.rtake _
 have hd2:DP x.disk C.1:=by rw [hm.hC];exact hd1.ecopy _ _
 have hd3:DP x.disk S.1:=by rw [hm.hS];exact hd2.share _ _
 have hd4:DP x.disk P.1:=by rw [hm.hP];exact hd3.setsnap _ _
 obtain ⟨r,hr⟩:∃r,r=(ze x.disk p0).1.l1:=⟨_,rfl⟩
 have hsnd:=hs.sound;rw [<-hr] at hsnd v3;obtain ⟨t1,t2,t3,t4,t5,t6,t7⟩:=V.rtake (g:=x.geom) hsnd hd0 (Int.le_refl _) hD (by rw [<-hm.hT];exact hm.hT2);rw [<-hm.hT] at t1 t2 t3 t4 t5 t6 t7;obtain ⟨c,hc⟩:∃c,c=T.2.1:=⟨_,rfl⟩
 rw [<-hc] at t1 t2 t3 t4 t5 t6 v2;have hrm:r∈allL (eget x.disk p0) (r::snL x.disk):=zX (List.mem_cons_self ..) (.inr rfl);have hrc:r≠c:=λhh=>t3 (hh ▸ hrm);have hCd:C=ecopy x.disk T.1 r c:=by rw [hm.hC,<-hr,<-hc]
 have hSd:S=share x.disk C.1 r 1:=by rw [hm.hS,<-hr]
 have hPd:P=setsnap x.disk S.1 i ⟨(ze x.disk p0).1.next,c,n⟩:=by rw [hm.hP,<-hc]
 have hQd:Q=zak P.1 ⟨r,(ze x.disk p0).1.next+1⟩:=by rw [hm.hQ,<-hr]
 have c2:(ecopy x.disk T.1 r c).2=0:=by rw [<-hCd];exact hm.hC2
 have sh2:(share x.disk C.1 r 1).2=0:=by rw [<-hSd];exact hm.hS2
 have p2:(setsnap x.disk S.1 i ⟨(ze x.disk p0).1.next,c,n⟩).2=0:=by rw [<-hPd];exact hm.hP2
 have q2:(zak P.1 ⟨r,(ze x.disk p0).1.next+1⟩).2=0:=by rw [<-hQd];exact hm.hQ2
 have hCe:∀t i,eget x.disk C.1 t i=if t=c then eget x.disk p0 r i else eget x.disk p0 t i:=by intro t i;rw [hCd,zf0 hd1 c2 hrc,t7,t7]
 have s0:Sound (eget x.disk p0) (rget x.disk T.1) x.geom.host r (snL x.disk) (λj=>D j+oneI c j):=Sound.of t6 (λt i=>(t7 t i).symm) (λ_=>rfl) (λ_=>rfl);obtain ⟨sC,aC⟩:=s0.apart (E':=eget x.disk C.1) t3 (λt ht i=>by rw [hCe,if_neg ht]);have sC':V x.disk C.1 x.geom.host r (snL x.disk) (λj=>D j+oneI c j):=Sound.of sC (λ_ _=>rfl) (λk=>zb1 (λb h0 h1=>by rw [hCd];exact zcJ hd1 c2 (by omega)) k) (λ_=>rfl);have sS:=V.shared sC' hd2 sh2;rw [<-hSd] at sS
 have lQ:∀b:Int,4<=b->plook x.disk Q.1 b=plook x.disk S.1 b:=by intro b hb;rw [hQd,ze3 hd4 q2,if_neg (by omega),hPd,ze2 hd3 p2 (by omega)]
 have eQ:∀t i,eget x.disk Q.1 t i=eget x.disk C.1 t i:=by intro t i;rw [zdB (λb hb=>lQ b (by omega)),hSd,zdJ hd2 sh2]
 have EQ:eget x.disk Q.1=eget x.disk C.1:=by funext t i;exact eQ t i
 have ES:eget x.disk S.1=eget x.disk C.1:=by funext t i;rw [hSd,zdJ hd2 sh2]
 obtain ⟨u,hu,hu0⟩:=zoF hm.at_;have hu0':u.id=0:=by simpa using hu0
 obtain ⟨A,B,f1,f2⟩:=zoH (v:=⟨(ze x.disk p0).1.next,c,n⟩) hu;have hn0:=hm.next0;rw [if_pos hu0',List.append_nil] at f1;rw [if_neg (by simp only;omega)] at f2;have hsn:snL x.disk=A++B:=f1;rw [hsn] at sS;have sS:Sound (eget x.disk C.1) (rget x.disk S.1) x.geom.host r (A++B) (λj=>D j+oneI c j+1*cnI (rl (eget x.disk C.1) r) j):=Sound.of sS (λt i=>by rw [ES]) (λ_=>rfl) (λ_=>rfl);rw [hsn] at aC t3;have hrl:rl (eget x.disk C.1) c=rl (eget x.disk C.1) r/\(rOk (eget x.disk C.1) r->rOk (eget x.disk C.1) c):=zia (λi _=>by rw [hCe,if_pos rfl,hCe,if_neg hrc]) (λ_ _ _ _ _=>rfl);have sI:=sS.insert (c:=c) t1 t2 (by rw [aC];exact t3) (hrl.2 (sS.ok r (List.mem_cons_self ..))) hrl.1;rw [hm.img];refine Kp.done hx v1 v3 v2 ?_;rw [f2,List.append_assoc,List.singleton_append];refine Sound.of sI eQ (λk=>zpR lQ k) (λk=>?_);rw [hrl.1];omega
theorem Kp.delete {x:Img} {h:Int} {D:Int->Int} (hx:ImgF x) (s:Kp h D x) (id:Int):Kp h D (zbB x id).1:=by
 rcases zlB x id with ⟨h1,_⟩|⟨i,u,S,A,P,hm⟩
 ·rw [h1];exact s
 obtain ⟨hh,hs⟩:=s.live hm.whole hm.root;subst hh;obtain ⟨v1,v2,v3⟩:=hm.view hx;have hd0:DP x.disk p0:=⟨hx.disk,zaw⟩
 have hd1:DP x.disk S.1:=by rw [hm.hS];exact hd0.share _ _
 have hd2:DP x.disk A.1:=by rw [hm.hA];exact hd1.radd _ _
 have sh2:(share x.disk p0 u.l1 (-1)).2=0:=by rw [<-hm.hS];exact hm.hS2
 have a2:(radd x.disk S.1 u.l1 (-1)).2=0:=by rw [<-hm.hA];exact hm.hA2
 have p2:(setsnap x.disk A.1 i snp0).2=0:=by rw [<-hm.hP];exact hm.hP2
 have sS:=V.shared hs.sound hd0 sh2;rw [<-hm.hS] at sS;have sA:=V.radd sS hd1 a2;rw [<-hm.hA] at sA
 have lP:∀b:Int,4<=b->plook x.disk P.1 b=plook x.disk A.1 b:=by intro b hb;rw [hm.hP,ze2 hd2 p2 (by omega)]
 have eP:∀t i,eget x.disk P.1 t i=eget x.disk p0 t i:=by intro t i;rw [zdB (λb hb=>lP b (by omega)),zdB (p:=S.1) (λb hb=>by rw [hm.hA];exact zbz hd1 a2 (by omega)),hm.hS,zdJ hd0 sh2]
 have EA:eget x.disk A.1=eget x.disk p0:=by funext t i;rw [zdB (p:=S.1) (λb hb=>by rw [hm.hA];exact zbz hd1 a2 (by omega)),hm.hS,zdJ hd0 sh2]
 obtain ⟨w,hw,hw0⟩:=zoF hm.find;have hwu:w=u:=by rw [hm.at_] at hw;exact (Option.some.inj hw).symm
 subst hwu
 have hid:w.id≠0:=by simp only [Bool.and_eq_true,beq_iff_eq,bne_iff_ne,ne_eq] at hw0;rw [hw0.2];exact hw0.1
 obtain ⟨B1,B2,f1,f2⟩:=zoH (v:=snp0) hm.at_;rw [if_neg hid,List.append_assoc,List.singleton_append] at f1;rw [if_pos (show snp0.id=0 from rfl),List.append_nil] at f2;have hsn:snL x.disk=B1++w.l1::B2:=f1;rw [hsn] at sA;have sA:Sound (eget x.disk p0) (rget x.disk A.1) x.geom.host (ze x.disk p0).1.l1 (B1++w.l1::B2) (λj=>D j+ -1*cnI (rl (eget x.disk p0) w.l1) j+ -1*oneI w.l1 j):=Sound.of sA (λt i=>by rw [EA]) (λ_=>rfl) (λ_=>rfl);have sR:=sA.remove;rw [hm.is];refine Kp.done (R:=(ze x.disk p0).1) hx v1 (by rw [v3];exact Prod.ext rfl hm.root) v2 ?_;rw [f2];refine Sound.of sR eP (λk=>zpR lP k) (λk=>?_);omega
theorem zjn (x:Img):∀n,(zcf x n).disk=x.disk/\(zcf x n).geom=x.geom/\(zcf x n).broken=x.broken
 |0=>⟨rfl,rfl,rfl⟩
 |n+1=>by
  have ih:=zjn x n;have hc:(cmark (zcf x n) n).disk=(zcf x n).disk/\(cmark (zcf x n) n).geom=(zcf x n).geom/\(cmark (zcf x n) n).broken=(zcf x n).broken:=by unfold cmark;split<;>exact ⟨rfl,rfl,rfl⟩
  exact ⟨hc.1.trans ih.1,hc.2.1.trans ih.2.1,hc.2.2.trans ih.2.2⟩
theorem Kp.revert {x:Img} {h:Int} {D:Int->Int} (hx:ImgF x) (s:Kp h D x) (id:Int):Kp h D (zbC x id).1:=by
 rcases zlC x id with h1|⟨i,u,S,A,P,hm⟩
 ·rw [h1];exact s
 obtain ⟨hh,hs⟩:=s.live hm.whole hm.root;subst hh
 suffices hk:Kp x.geom.host D (cdone x P.1).1 by
  rcases hm.is with h1|h1
  ·rw [h1];exact hk
  ·rw [h1];obtain ⟨k1,k2,k3⟩:=zjn (cdone x P.1).1 64;exact hk.of k1 k2 k3
 have hd0:DP x.disk p0:=⟨hx.disk,zaw⟩
 have hd1:DP x.disk S.1:=by rw [hm.hS];exact hd0.share _ _
 have hd2:DP x.disk A.1:=by rw [hm.hA];exact hd1.share _ _
 have hd3:DP x.disk P.1:=by rw [hm.hP];exact hd2.ecopy _ _
 obtain ⟨r,hr⟩:∃r,r=(ze x.disk p0).1.l1:=⟨_,rfl⟩
 have hAd:A=share x.disk S.1 r (-1):=by rw [hm.hA,<-hr]
 have hPd:P=ecopy x.disk A.1 u.l1 r:=by rw [hm.hP,<-hr]
 have sh2:(share x.disk p0 u.l1 1).2=0:=by rw [<-hm.hS];exact hm.hS2
 have a2:(share x.disk S.1 r (-1)).2=0:=by rw [<-hAd];exact hm.hA2
 have p2:(ecopy x.disk A.1 u.l1 r).2=0:=by rw [<-hPd];exact hm.hP2
 have hsnd:=hs.sound;rw [<-hr] at hsnd;have sS:=V.shared hsnd hd0 sh2;rw [<-hm.hS] at sS;have sA:=V.shared sS hd1 a2;rw [<-hAd] at sA;have ES:eget x.disk S.1=eget x.disk p0:=by funext t i;rw [hm.hS,zdJ hd0 sh2]
 have EA:eget x.disk A.1=eget x.disk p0:=by funext t i;rw [hAd,zdJ hd1 a2,ES]
 obtain ⟨w,hw,hw0⟩:=zoF hm.find;have hwu:w=u:=by rw [hm.at_] at hw;exact (Option.some.inj hw).symm
 subst hwu
 have hid:w.id≠0:=by simp only [Bool.and_eq_true,beq_iff_eq,bne_iff_ne,ne_eq] at hw0;rw [hw0.2];exact hw0.1
 obtain ⟨B1,B2,f1,f2⟩:=zoH (v:=snp0) hm.at_;rw [if_neg hid,List.append_assoc,List.singleton_append] at f1
 have hmem:w.l1∈snL x.disk:=by show w.l1∈((snaps x.disk p0).1.filter (λs=>s.id !=0)).map (·.l1);rw [f1];simp
 have hne:w.l1≠r:=by intro hh;have h1:=hsnd.not_twice (t:=r) (List.mem_cons_self ..);rw [zbI,zjm] at h1;have:=zbD (hh ▸ hmem);omega
 have eP:∀t i,eget x.disk P.1 t i=if t=r then eget x.disk p0 w.l1 i else eget x.disk p0 t i:=by intro t i;rw [hPd,zf0 hd2 p2 hne,EA]
 have EP:eget x.disk P.1=λt i=>if t=r then eget x.disk p0 w.l1 i else eget x.disk p0 t i:=by funext t i;exact eP t i
 have sA:Sound (eget x.disk p0) (rget x.disk A.1) x.geom.host r (snL x.disk) (λj=>D j+1*cnI (rl (eget x.disk p0) w.l1) j+ -1*cnI (rl (eget x.disk p0) r) j):=Sound.of sA (λt i=>by rw [EA]) (λ_=>rfl) (λk=>by rw [ES]);obtain ⟨m1,m2⟩:=zre (E:=eget x.disk p0) (hsnd.alone r (List.mem_cons_self ..)) hmem;rw [<-EP] at m1 m2;have hin:w.l1∈r::snL x.disk:=List.mem_cons_of_mem _ hmem;have mv:=sA.move (old:=rl (eget x.disk p0) r) (new:=rl (eget x.disk p0) w.l1) m1 (m2 hsnd.ok) (λk hk=>hsnd.rng k (zX hin (.inl hk))) (λt ht=>hsnd.first_not ht (List.mem_cons_self ..)) (λt ht=>hsnd.first_not ht hin)
 have lP:∀b:Int,b<87->plook x.disk P.1 b=plook x.disk p0 b:=by intro b hb;rw [hPd,zcJ hd2 p2 (by omega),hAd,zd3 hd1 a2 (.inl hb),hm.hS,zd3 hd0 sh2 (.inl hb)]
 refine Kp.done (R:=(ze x.disk p0).1) (L:=(snaps x.disk p0).1) hx hd3.p (by rw [ze4 (lP 1 (by omega))];exact Prod.ext rfl hm.root) (by rw [zd4 (λb hb=>lP b (by omega))];exact Prod.ext rfl hm.snaps) ?_;rw [<-hr];refine Sound.of mv (λ_ _=>rfl) (λk=>zb1 (λb h0 h1=>by rw [hPd];exact zcJ hd2 p2 (by omega)) k) (λk=>?_);omega
open Go Go.Proofs
theorem zm8 (x:Img) (h:ImgF x):AC 73 [imgA x] (.tup [.d (.sl 1 ((zaF x.disk).1.map intD)),.d (.int .i64 (zaF x.disk).2)]):=by
 refine fbod Tryz.func73 Tryz.ntmps73 (λbase=>?_);have hdp:DP x.disk p0:=⟨h.disk,zaw⟩
 obtain ⟨R,hR⟩:∃R,R=ze x.disk p0:=⟨_,rfl⟩
 obtain ⟨L,hL⟩:∃L,L=snaps x.disk p0:=⟨_,rfl⟩
 have hff:zaF x.disk=if R.2≠0 then ([],R.2) else if L.2≠0 then ([],L.2) else (R.1.l1::(L.1.filter (λs=>s.id !=0)).map (·.l1),0):=by rw [zaF,hR,hL]
 have hll:L.1.length<=8:=by rw [hL];exact zgM
 refine' walkW (zn hR.symm hL.symm) (za zbe <| za zdA <| zb _)
 ·rw [hff,if_pos (bneP hc)];rfl
 ·rename_i h0;rw [hff,if_neg (bneN h0),if_pos (bneP hc)];rfl
 rename_i h0;rw [if_neg (bneN h0),if_neg (bneN hc)] at hff;refine zq (λq: { q:Nat×List Int // q.1<=L.1.length/\q.2.length<=q.1+1/\q.2=R.1.l1::((L.1.take q.1).filter (λs=>s.id !=0)).map (·.l1) } =>⟨[(6,true,.d (.sl 3 (L.1.map snpD))),(7,true,.osl 2 1 q.1.2.length 0 q.1.2.length),(8,true,.d (.int .i64 q.1.1))],[(2,.arr 1 (q.1.2.map intD))],some []⟩) (λq=>L.1.length - q.1.1) ⟨(0,[R.1.l1]),Nat.zero_le _,Nat.le_refl _,rfl⟩ le1 (λq=>?_);obtain ⟨⟨i,l⟩,hi,hlen,hl⟩:=q;simp only at hi hlen hl ⊢;rcases zP snpD L.1 i hi with ⟨s,hq,hlt,hcmp,hrow,hdr,htk⟩|⟨hend,hcmp⟩
 ·simp only [snpD] at hrow;have hwi:=zr (i:=i) (by omega);refine' walkW (zn hcmp hrow) (za zbe <| za zdA <| zb _)
  ·have hl2:l++ [s.l1]=R.1.l1::((L.1.take (i+1)).filter (λs=>s.id !=0)).map (·.l1):=by rw [hl,htk,List.filter_append];simp [hc]
   exact ⟨⟨(i+1,l++ [s.l1]),by omega,by simp;omega,hl2⟩,by simp only [List.map_append,List.length_append,List.length_singleton];simp only [AS.le,leT,leH,zf,AsgK,AV.le,AV.leL,AObj.le,inH,idsT,idsH,AV.ids,AV.idsL,AV.idsR,AObj.ids,lk,hget,go_sem,aeq,aeq.aeqF,simprocAttr,hwi]<;>and_intros<;>rfl,by simp;omega⟩
  ·have hl2:l=R.1.l1::((L.1.take (i+1)).filter (λs=>s.id !=0)).map (·.l1):=by rw [hl,htk,List.filter_append];simp [hc]
   exact ⟨⟨(i+1,l),by omega,by simp only;omega,hl2⟩,lew,by simp;omega⟩
 ·refine' walkW hcmp (za zbe <| za zdA <| zb _);rw [hff,hl,hend,List.take_length]
@[go_sem] noncomputable def zU:Ent Tryz.prog 73:= .m1 zbG zm8
theorem zpS {n k:Nat} (a:List Int) (h:k<n):((cnts n a).map intD).getD k []= [.int .i64 ((a.count (k:Int):Nat):Int)]:=by
 rw [zco (g:=intD) (zfZ a h)];rfl
theorem zpT {n k:Nat} (a:List Int) (h:k<n):((cnts n a).map intD).set k [.int .i64 (((a.count (k:Int):Nat):Int)+1)]=(cnts n (a++ [(k:Int)])).map intD:=by
 rw [<-zpI a h,List.map_set];rfl
theorem zvM (n:Nat):List.replicate n [D.int .i64 0]=(cnts n []).map intD:=by unfold cnts;rw [List.map_map];apply List.ext_getElem (by simp);intro i h1 h2;simp [intD]
theorem zib {a:List Int} {k:Int} {m:Nat} (h:a.length<=m):a.count k<=m:=Nat.le_trans List.count_le_length h
theorem zf4 (d:Disk):(zaF d).1.length<=9:=by
 unfold zaF;split
 ·exact Nat.zero_le _
 split
 ·exact Nat.zero_le _
 ·have h1:=zgM (d:=d) (p:=p0);have h2:=List.length_filter_le (λs:Snp=>s.id !=0) (snaps d p0).1;simp only [List.length_cons,List.length_map];omega
theorem zf5 (d:Disk):∀t∈(zaF d).1,0<=t/\t<=65535:=by
 unfold zaF;split
 ·intro t ht;cases ht
 rename_i h0;split
 ·intro t ht;cases ht
 ·intro t ht;rcases List.mem_cons.1 ht with rfl|ht
  ·unfold ze at h0 ⊢;split
   ·rename_i h1;rw [if_pos h1] at h0;exact absurd h1 h0
   ·unfold rootT;repeat' split
    all_goals first|decide|skip
    have:=zfR (plook d p0 1).1;exact ⟨this.1,this.2.1⟩
  ·obtain ⟨s,hs,rfl⟩:=List.mem_map.1 ht;have:=(ziX s (List.mem_filter.1 hs).1).l1;omega
theorem zoI (x:Img) (hp:ImgF x∧0≤x.geom.host):AC 74 [imgA x] (.tup [.d (.sl 1 ((zba x).1.map intD)),.d (.int .i64 (zba x).2)]):=by
 obtain ⟨h,hh⟩:=hp
 refine fbod Tryz.func74 Tryz.ntmps74 (fun base=>?_)
 have hdp:DP x.disk p0:=⟨h.disk,zaw⟩
 have hho:=h.host
 obtain ⟨F,hF⟩:∃F,F=zaF x.disk:=⟨_,rfl⟩
 obtain ⟨n,hn⟩:∃n:Nat,x.geom.host=n:=⟨x.geom.host.toNat,by omega⟩
 have hac:zba x=if F.2≠0 then ([],F.2) else if (cntK x.disk n F.1 []).2≠0 then ([],(cntK x.disk n F.1 []).2) else (cnts n (cntK x.disk n F.1 []).1,0):=by rw [zba,hF,hn,Int.toNat_natCast]
 have hfl:F.1.length≤9:=by rw [hF];exact zf4 _
 have hfr:∀t∈F.1,0≤t∧t≤65535:=by rw [hF];exact zf5 _
 by_cases hf:F.2=0
 ·have hb:(F.2 !=0)=false:=by simpa using hf
  rw [if_neg (by simpa using hf)] at hac
  have hnt:x.geom.host.toNat=n:=by omega
  refine' walkW (zB hF.symm hb hnt) (za zU <| za zae <| zb _)
  refine zq (fun q: { q:Nat×List Int // q.1≤F.1.length∧q.2.length≤69*q.1∧cntK x.disk n F.1 []=cntK x.disk n (F.1.drop q.1) q.2 } =>⟨[(1,true,.vp 0 0),(4,true,.d (.sl 1 (F.1.map intD))),(6,true,.osl 1 1 n 0 n),(7,true,.d (.int .i64 q.1.1))],[(1,.arr 1 ((cnts n q.1.2).map intD)),(0,.var (imgV x))],some []⟩) (fun q=>F.1.length - q.1.1) ⟨(0,[]),Nat.zero_le _,Nat.zero_le _,rfl⟩ (by simp only [AS.le,leT,leH,zf,AsgK,AV.le,AV.leL,AObj.le,inH,idsT,idsH,AV.ids,AV.idsL,AV.idsR,AObj.ids,lk,hget,go_sem,aeq,aeq.aeqF,simprocAttr,zvM]<;>and_intros<;>rfl) (fun q=>?_)
  obtain ⟨⟨i,a⟩,hi,hal,hk⟩:=q
  simp only at hi hal hk ⊢
  rcases zP intD F.1 i hi with ⟨t,hq,hlt,hcmp,hrow,hdr,htk⟩|⟨hend,hcmp⟩
  ·simp only [intD] at hrow
   have hwi:=zr (i:=i) (by omega)
   have htr:=hfr t (List.mem_of_getElem? hq)
   obtain ⟨k,rfl⟩:∃k:Nat,t=k:=⟨t.toNat,by omega⟩
   rw [hdr,cntK] at hk
   by_cases hkn:n≤k
   ·have hc1:decide (x.geom.host≤(k:Int))=true:=decide_eq_true (by omega)
    rw [if_pos (by omega)] at hk
    refine' walkW (zB hcmp hrow hc1) (za zU <| za zae <| zb _)
    rw [hac,hk,if_pos (by simp)]
    rfl
   have hc1:decide (x.geom.host≤(k:Int))=false:=decide_eq_false (by omega)
   rw [if_neg (by omega)] at hk
   have hkl:k<n:=by omega
   have hr1:=zpS a hkl
   have hs1:=zpT a hkl
   have hcl:=zib (k:=(k:Int)) hal
   have hw1:IntKind.i64.wrap (((a.count (k:Int):Nat):Int)+1)=((a.count (k:Int):Nat):Int)+1:=zg (by omega) (by omega)
   obtain ⟨W,hW⟩:∃W,W=reach x.disk p0 k:=⟨_,rfl⟩
   rw [← hW] at hk
   have hWr:∀y∈W.1,0≤y∧y<256:=by rw [hW];exact zmV
   have hWl:W.1.length≤68:=by rw [hW];exact zfz
   by_cases hWe:W.2=0
   ·have hb2:(W.2 !=0)=false:=by simpa using hWe
    rw [if_neg (by simpa using hWe)] at hk
    have hcn:((cnts n a).map intD).length=n:=by rw [List.length_map,zbH]
    refine' walkW (zL hcmp hrow hc1 natC hr1 (zbj hs1 hw1 @zbH hW.symm hb2)) (za zU <| za zae <| zb _)
    refine zq (fun q: { j:Nat // j≤W.1.length∧∀y∈W.1.take j,y<n } =>⟨[(1,true,.vp 0 0),(4,true,.d (.sl 1 (F.1.map intD))),(6,true,.osl 1 1 n 0 n),(7,true,.d (.int .i64 i)),(8,true,.d (.sl 1 (W.1.map intD))),(10,true,.d (.int .i64 q.1))],[(1,.arr 1 ((cnts n (a++ [(k:Int)]++W.1.take q.1)).map intD)),(0,.var (imgV x))],some []⟩) (fun q=>W.1.length - q.1) ⟨0,Nat.zero_le _,fun y hy=>by simp at hy⟩ (by simp only [AS.le,leT,leH,zf,AsgK,AV.le,AV.leL,AObj.le,inH,idsT,idsH,AV.ids,AV.idsL,AV.idsR,AObj.ids,lk,hget,go_sem,aeq,aeq.aeqF,simprocAttr,List.append_nil]<;>and_intros<;>rfl) (fun q=>?_)
    obtain ⟨j,hj,hjn⟩:=q
    simp only at hj hjn ⊢
    rcases zP intD W.1 j hj with ⟨y,hqy,hlty,hcmpy,hrowy,hdry,htky⟩|⟨hendy,hcmpy⟩
    ·simp only [intD] at hrowy
     have hwj:=zr (i:=j) (by omega)
     have hyr:=hWr y (List.mem_of_getElem? hqy)
     obtain ⟨m,rfl⟩:∃m:Nat,y=m:=⟨y.toNat,by omega⟩
     by_cases hmn:n≤m
     ·have hc2:decide (x.geom.host≤(m:Int))=true:=decide_eq_true (by omega)
      refine' walkW (zB hcmpy hrowy hc2) (za zU <| za zae <| zb _)
      have:W.1.any (fun k=>decide ((n:Int)≤k))=true:=List.any_eq_true.2 ⟨m,List.mem_of_getElem? hqy,decide_eq_true (by omega)⟩
      rw [this,if_pos rfl] at hk
      rw [hac,hk,if_pos (by simp)]
      rfl
     ·have hc2:decide (x.geom.host≤(m:Int))=false:=decide_eq_false (by omega)
      have hml:m<n:=by omega
      obtain ⟨A,hA⟩:∃A,A=a++ [(k:Int)]++W.1.take j:=⟨_,rfl⟩
      have hAl:A.length≤69*i+69:=by rw [hA];simp only [List.length_append,List.length_take,List.length_singleton];omega
      have hr2:=zpS A hml
      have hs2:=zpT A hml
      have hcl2:=zib (k:=(m:Int)) hAl
      have hw2:IntKind.i64.wrap (((A.count (m:Int):Nat):Int)+1)=((A.count (m:Int):Nat):Int)+1:=zg (by omega) (by omega)
      have hA2:A++ [(m:Int)]=a++ [(k:Int)]++W.1.take (j+1):=by rw [hA,htky,List.append_assoc]
      rw [← hA]
      refine' walkW (zL hcmpy hrowy hc2 natC hr2 (zB hs2 hw2 @zbH)) (za zU <| za zae <| zb _)
      have hjn2:∀y∈W.1.take (j+1),y<n:=by
       intro y hy
       rw [htky] at hy
       rcases List.mem_append.1 hy with hy|hy
       ·exact hjn y hy
       ·rw [List.mem_singleton] at hy;omega
      exact ⟨⟨j+1,by omega,hjn2⟩,by rw [hA2];simp only [AS.le,leT,leH,zf,AsgK,AV.le,AV.leL,AObj.le,inH,idsT,idsH,AV.ids,AV.idsL,AV.idsR,AObj.ids,lk,hget,go_sem,aeq,aeq.aeqF,simprocAttr,hwj],by simp;omega⟩
    ·refine' walkW hcmpy (za zU <| za zae <| zb _)
     have hWt:W.1.take j=W.1:=by rw [hendy,List.take_length]
     rw [hWt] at hjn ⊢
     have hno:¬W.1.any (fun k=>decide ((n:Int)≤k))=true:=by
      rw [List.any_eq_true]
      rintro ⟨y,hy,h2⟩
      have:=hjn y hy
      have:=of_decide_eq_true h2
      omega
     rw [if_neg hno] at hk
     have hper:cnts n (a++ [(k:Int)]++W.1)=cnts n (a++(W.1++ [(k:Int)])):=ztr (by rw [List.append_assoc];exact List.Perm.append_left a List.perm_append_comm)
     rw [hper]
     exact ⟨⟨(i+1,a++(W.1++ [(k:Int)])),by omega,by simp only [List.length_append,List.length_singleton];omega,hk⟩,lew,by simp;omega⟩
   ·have hb2:(W.2 !=0)=true:=by simpa using hWe
    rw [if_pos hWe] at hk
    refine' walkW (zL hcmp hrow hc1 natC hr1 (zbj hs1 hw1 @zbH hW.symm hb2)) (za zU <| za zae <| zb _)
    rw [hac,hk,if_pos hWe]
    rfl
  ·refine' walkW hcmp (za zU <| za zae <| zb _)
   have hk2:cntK x.disk n F.1 []=(a,0):=by rw [hk,hend,List.drop_length];rfl
   have hac2:zba x=(cnts n a,0):=by rw [hac,hk2,if_neg (by simp)]
   rw [hac2,if_pos (zbH n a).symm,List.take_of_length_le (by rw [List.length_map,zbH];exact Nat.le_refl _)]
 ·have hb:(F.2 !=0)=true:=by simpa using hf
  refine' walkW (zn hF.symm hb) (za zU <| za zae <| zb _)
  rw [hac,if_pos hf]
  rfl
@[go_sem] noncomputable def zcK:Ent Tryz.prog 74:= .m1 zbG zoI
theorem zhx {x:Img} (h:(zba x).2=0):(zba x).1.length=x.geom.host.toNat:=by
 unfold zba at h ⊢;split at h
 ·rename_i h1;exact absurd h h1
 rename_i h1;split at h
 ·rename_i h2;exact absurd h h2
 rename_i h2;rw [if_neg h1,if_neg h2];exact zbH _ _
theorem zvN {d:Disk} {p:Plan} {n:Int} (h:(rall d p n).2=0):((rall d p n).1.length:Int)=n:=by
 have h0:¬(n<0\/256<n):=by intro hc;unfold rall at h;rw [if_pos hc] at h;simp at h
 obtain ⟨m,rfl⟩:∃m:Nat,n=m:=⟨n.toNat,by omega⟩
 rw [(zly h).2.2];simp
theorem zm9 (k:Nat) (w x:Int) (ws hs:List Int):fnds k (w::ws) (x::hs)=(if x≠w then [(⟨k,w,x⟩:Fnd)] else [])++fnds (k+1) ws hs:=by rw [fnds];split<;>rfl
open Go Go.Proofs
theorem zpU {d:Disk} {host:Int} :∀ (l a:List Int),(cntK d host l a).1.length<=a.length+69*l.length
 | [],a=>by simp [cntK]
 |t::r,a=>by
  rw [cntK];have hr:=zfz (d:=d) (p:=p0) (t:=t);repeat' split
  all_goals first|exact Nat.zero_le _|skip
  refine Nat.le_trans (zpU r _) ?_;simp only [List.length_append,List.length_nil,List.length_cons];omega
theorem zri {x:Img} {w:Int} (h:w∈(zba x).1):0<=w/\w<=1000:=by
 unfold zba at h;split at h
 ·cases h
 split at h
 ·cases h
 ·unfold cnts at h;obtain ⟨k,_,rfl⟩:=List.mem_map.1 h;have h1:=zpU (d:=x.disk) (host:=x.geom.host) (zaF x.disk).1 [];have h2:=zf4 x.disk;have h3:=zib (k:=((k:Nat):Int)) (Nat.le_refl (cntK x.disk x.geom.host (zaF x.disk).1 []).1.length);simp only [List.length_nil] at h1;omega
theorem zvO {d:Disk} {p:Plan} {n:Int} {w:Int} (he:(rall d p n).2=0) (h:w∈(rall d p n).1):0<=w/\w<=65535:=by
 have h0:¬(n<0\/256<n):=by intro hc;unfold rall at he;rw [if_pos hc] at he;simp at he
 obtain ⟨m,rfl⟩:∃m:Nat,n=m:=⟨n.toNat,by omega⟩
 rw [(zly he).2.2] at h;obtain ⟨k,_,rfl⟩:=List.mem_map.1 h;exact zed d p k
theorem zhy {x:Img} {f:Fnd} (h:f∈(zaG x).1):(0<=f.want/\f.want<=1000)/\(0<=f.have_/\f.have_<=65535)/\0<=f.loc:=by
 unfold zaG at h;split at h
 ·cases h
 split at h
 ·cases h
 ·rename_i h1 h2;obtain ⟨i,h3,h4,h5,_⟩:=zlz _ _ _ _ h;exact ⟨zri (List.mem_of_getElem? h4),zvO (by simpa using h2) (List.mem_of_getElem? h5),by omega⟩
theorem zpV:∀ (k:Nat) (ws hs:List Int),(fnds k ws hs).length<=ws.length
 |_,[],_=>Nat.le_refl _
 |_,_::_,[]=>Nat.zero_le _
 |k,w::ws,h::hs=>by have:=zpV (k+1) ws hs;rw [fnds];split<;>simp only [List.length_cons]<;>omega
theorem zf6 {x:Img} (h:ImgF x):(zaG x).1.length<=256:=by
 unfold zaG;split
 ·exact Nat.zero_le _
 split
 ·exact Nat.zero_le _
 ·rename_i h1 h2;have h3:=zpV 0 (zba x).1 (rall x.disk p0 x.geom.host).1;have h4:=zhx (x:=x) (by simpa using h1);have:=h.host;simp only;omega
theorem ztC (a b:List Fnd) (ha:a.length<=9223372036854775807):AC 77 [.d (.sl 3 (a.map fndD)),.d (.sl 3 (b.map fndD))] (.d (.bool (decide (a=b)))):=by
 refine fbod Tryz.func77 Tryz.ntmps77 (λbase=>?_);by_cases hl:a.length=b.length
 ·have hb:((a.length:Int) !=(b.length:Int))=false:=by simp [hl]
  refine' zc hb;refine zq (λq: { i:Nat // i<=a.length/\a.take i=b.take i } =>⟨[(0,true,.d (.sl 3 (a.map fndD))),(1,true,.d (.sl 3 (b.map fndD))),(5,true,.d (.int .i64 q.1))],[],some []⟩) (λq=>a.length - q.1) ⟨0,Nat.zero_le _,rfl⟩ le0 (λq=>?_);obtain ⟨i,hi,ht⟩:=q;simp only at hi ht ⊢;rcases zP fndD a i hi with ⟨u,hq,hlt,hcmp,hrow,hdr,htk⟩|⟨hend,hcmp⟩
  ·obtain ⟨v,hv⟩:=zas (l:=b) (i:=i) (by omega);have hrow2:=zco (g:=fndD) hv;simp only [fndD] at hrow hrow2;have hwi:=zr (i:=i) (by omega)
   have hes:(u.loc==v.loc&&(u.want==v.want&&u.have_==v.have_))=decide (u=v):=by obtain ⟨_,_,_⟩:=u;obtain ⟨_,_,_⟩:=v;simp only [Fnd.mk.injEq,Bool.decide_and];rfl
   by_cases e:u=v
   ·have he:decide (u=v)=true:=decide_eq_true e;refine' zc (zbj hcmp hrow hrow2 hes he);exact ⟨⟨i+1,by omega,by rw [htk,zb7 hv,ht,e]⟩,lew,by simp;omega⟩
   ·have he:decide (u=v)=false:=decide_eq_false e;refine' zc (zbj hcmp hrow hrow2 hes he);rw [decide_eq_false];rintro rfl;rw [hq] at hv;exact e (Option.some.inj hv)
  ·refine' zc hcmp;rw [decide_eq_true];rw [hend,List.take_length,hl,List.take_length] at ht;exact ht
 ·have hb:((a.length:Int) !=(b.length:Int))=true:=by simp;omega
  refine' zc hb;rw [decide_eq_false];rintro rfl;exact hl rfl
@[go_sem] noncomputable def zoJ:Ent Tryz.prog 77:= .m2 (slT 3 fndD zej) (slT 3 fndD zej) ztC
open Go Go.Proofs
theorem zoK {d:Disk} {h:Int} :∀ (l a:List Int),(cntK d h l a).2=0->(∀t∈l,t<h/\rOk (eget d p0) t/\∀k∈rl (eget d p0) t,k<h)/\(cntK d h l a).1=a++allL (eget d p0) l
 | [],a,hz=>⟨λt ht=>(by cases ht),by simp [cntK,allL]⟩
 | t::r,a,hz=>by
  rw [cntK] at hz ⊢;split at hz
  ·exact absurd hz (by simp)
  rename_i h1;rw [if_neg h1];split at hz
  ·rename_i h2;exact absurd hz h2
  rename_i h2;rw [if_neg h2];split at hz
  ·exact absurd hz (by simp)
  rename_i h3;rw [if_neg h3];obtain ⟨g1,g2⟩:=zoK r _ hz;obtain ⟨e1,e2⟩:=zh9 (d:=d) (p:=p0) (t:=t) (by simpa using h2);refine ⟨λu hu=>?_,?_⟩
  ·rcases List.mem_cons.1 hu with rfl|hu
   ·refine ⟨by omega,e1,λk hk=>?_⟩;rw [<-e2] at hk;have h4:=List.any_eq_false.1 (by simpa using h3:((reach d p0 u).1.any λk=>decide (h<=k))=false) k hk;simpa using h4
   ·exact g1 u hu
  ·rw [g2,zaE,<-e2];simp only [List.append_assoc]
theorem ztD {d:Disk} {h:Int} :∀ (l a:List Int),(∀t∈l,t<h/\rOk (eget d p0) t/\∀k∈rl (eget d p0) t,k<h)->(cntK d h l a).2=0
 | [],a,hz=>rfl
 | t::r,a,hz=>by
  obtain ⟨h1,h2,h3⟩:=hz t (List.mem_cons_self ..);have hr:=zvK h2
  have h4:((reach d p0 t).1.any λk=>decide (h<=k))=false:=by rw [List.any_eq_false];intro k hk;rw [(zh9 hr).2] at hk;have:=h3 k hk;simpa using this
  rw [cntK,if_neg (by omega),if_neg (by omega),if_neg (by rw [h4];decide)];exact ztD r _ (λu hu=>hz u (List.mem_cons_of_mem _ hu))
theorem zxz {d:Disk} {p:Plan} {t k:Int} (h:k∈kids (eget d p) t):0<=k:=by
 unfold kids at h;rw [List.mem_flatMap] at h;obtain ⟨j,hj,hk⟩:=h;unfold eat at hk;split at hk
 ·rename_i h1;have hk0:k=(eget d p t j).1.loc:=by simpa using hk
  rw [hk0];by_cases he:(eget d p t j).2=0
  ·exact (zbm (zep he).1).2.1
  ·have:(eget d p t j).1.kind=0:=by
    unfold eget at he ⊢;split
    ·rfl
    rename_i h2;rw [if_neg h2] at he;split
    ·rfl
    rename_i h3;rw [if_neg h3] at he;unfold entT at he ⊢;split
    ·rfl
    ·rename_i h4;rw [if_neg h4] at he;exact absurd rfl he
   omega
 ·cases hk
theorem rl_nn {d:Disk} {p:Plan} {t k:Int} (ho:rOk (eget d p) t) (h:k∈rl (eget d p) t):0<=k:=by
 unfold rl at h;rw [List.mem_flatMap] at h;obtain ⟨i,hi,hk⟩:=h;obtain ⟨o1,o2,o3⟩:=ho i (by simpa using hi);unfold piece at hk;split at hk
 ·cases hk
 ·rcases List.mem_cons.1 hk with rfl|hk
  ·exact (zbm (zep o1).1).2.1
  ·exact zxz hk
theorem ztE {d:Disk} (h:(zaF d).2=0):(ze d p0).2=0/\(snaps d p0).2=0/\(zaF d).1=(ze d p0).1.l1::snL d:=by
 unfold zaF at h ⊢;split at h
 ·rename_i h1;exact absurd h h1
 rename_i h1;rw [if_neg h1];split at h
 ·rename_i h2;exact absurd h h2
 rename_i h2;rw [if_neg h2];exact ⟨by simpa using h1,by simpa using h2,rfl⟩
theorem ztF {d:Disk} (h:(ze d p0).2=0) (h2:(snaps d p0).2=0):zaF d=((ze d p0).1.l1::snL d,0):=by unfold zaF;rw [if_neg (by omega),if_neg (by omega)];rfl
theorem zna {x:Img} (h:(zba x).2=0):(zaF x.disk).2=0/\(∀t∈(zaF x.disk).1,t<x.geom.host/\rOk (eget x.disk p0) t/\∀k∈rl (eget x.disk p0) t,k<x.geom.host)/\(zba x).1=cnts x.geom.host.toNat (allL (eget x.disk p0) (zaF x.disk).1):=by
 unfold zba at h ⊢;split at h
 ·rename_i h1;exact absurd h h1
 rename_i h1;rw [if_neg h1];split at h
 ·rename_i h2;exact absurd h h2
 rename_i h2;rw [if_neg h2];obtain ⟨g1,g2⟩:=zoK (d:=x.disk) (h:=x.geom.host) (zaF x.disk).1 [] (by simpa using h2);refine ⟨by simpa using h1,g1,?_⟩;simp only;rw [g2,List.nil_append]
def zjo (x:Img):Bool:=(zaF x.disk).2==0&&(zba x).2==0&&(zaF x.disk).1.all (λt=>(zba x).1.getD t.toNat 0==1)
theorem ztG {n:Nat} (a:List Int) {k:Int} (h0:0<=k) (h1:k<n):(cnts n a).getD k.toNat 0=((a.count k:Nat):Int):=by
 obtain ⟨j,rfl⟩:∃j:Nat,k=j:=⟨k.toNat,by omega⟩
 rw [List.getD_eq_getElem?_getD,Int.toNat_natCast,zfZ a (by omega)];rfl
theorem St.of_audit {x:Img} (hh:0<=x.geom.host) (hc:(zaG x).2=0) (ha:zjo x=true):St x (λk=>(rget x.disk p0 k).1 - ((allL (eget x.disk p0) ((ze x.disk p0).1.l1::snL x.disk)).count k:Nat)):=by
 have hc0:=hc;unfold zaG at hc0;split at hc0
 ·rename_i h1;exact absurd hc0 h1
 rename_i h1;split at hc0
 ·rename_i h2;exact absurd hc0 h2
 rename_i h2;obtain ⟨a1,a2,a3⟩:=zna (x:=x) (by simpa using h1);obtain ⟨f1,f2,f3⟩:=ztE a1;obtain ⟨n,hn⟩:∃n:Nat,x.geom.host=n:=⟨x.geom.host.toNat,by omega⟩
 obtain ⟨r1,r2,r3⟩:=zly (d:=x.disk) (p:=p0) (n:=n) (by rw [<-hn];simpa using h2);have hfr:=zf5 x.disk;rw [f3] at a2 a3 hfr;refine ⟨f1,f2,λt ht=>(a2 t ht).2.1,λk hk=>?_,λk h0 h3=>?_,λt ht=>?_⟩
 ·unfold allL at hk;rw [List.mem_flatMap] at hk;obtain ⟨t,ht,hk⟩:=hk;obtain ⟨b1,b2,b3⟩:=a2 t ht;rcases List.mem_append.1 hk with hk|hk
  ·exact ⟨rl_nn b2 hk,b3 k hk⟩
  ·have:k=t:=by simpa using hk
   subst this;exact ⟨(hfr k ht).1,b1⟩
 ·obtain ⟨j,rfl⟩:∃j:Nat,k=j:=⟨k.toNat,by omega⟩
  refine Prod.ext ?_ (r2 j (by omega));show (rget x.disk p0 (j:Int)).1=_;omega
 ·unfold zjo at ha;simp only [Bool.and_eq_true,List.all_eq_true,beq_iff_eq] at ha;have h4:=ha.2 t (by rw [f3];exact ht);rw [a3,ztG _ (hfr t ht).1 (by have:=(a2 t ht).1;omega)] at h4;omega
def keyF (f:Fnd):Int×Int:=(f.loc,f.have_ - f.want)
def dls (D:Int->Int):Nat->Nat->List (Int×Int)
 |0,_=> []
 |m+1,k=>(if D k≠0 then [((k:Int),D k)] else [])++dls D m (k+1)
theorem zpW {D:Int->Int} {w:Nat->Int} :∀ (m k:Nat),(fnds k ((List.range m).map (λi=>w (k+i))) ((List.range m).map (λi=>w (k+i)+D ((k+i:Nat):Int)))).map keyF=dls D m k
 |0,k=>rfl
 | m+1,k=>by
  have ih:=zpW (D:=D) (w:=w) m (k+1)
  have e1:(List.range (m+1)).map (λi=>w (k+i))=w k::(List.range m).map (λi=>w (k+1+i)):=by rw [List.range_succ_eq_map,List.map_cons,List.map_map,Nat.add_zero];congr 1;refine List.map_congr_left (λi _=>?_);simp only [Function.comp];rw [show k+Nat.succ i=k+1+i by omega]
  have e2:(List.range (m+1)).map (λi=>w (k+i)+D ((k+i:Nat):Int))=(w k+D k)::(List.range m).map (λi=>w (k+1+i)+D ((k+1+i:Nat):Int)):=by rw [List.range_succ_eq_map,List.map_cons,List.map_map,Nat.add_zero];congr 1;refine List.map_congr_left (λi _=>?_);simp only [Function.comp];rw [show k+Nat.succ i=k+1+i by omega]
  rw [e1,e2,zm9,List.map_append,ih,dls];congr 1;by_cases h:D k=0
  ·rw [if_neg (by omega),if_neg (by omega)];rfl
  ·rw [if_pos (by omega),if_pos h];simp only [List.map_cons,List.map_nil,keyF];congr 2;omega
theorem St.audit {y:Img} {D:Int->Int} {n:Nat} (s:St y D) (hn:y.geom.host=n) (h256:n<=256):(zaG y).2=0/\(zaG y).1.map keyF=dls D n 0/\zjo y=true/\((∀k,0<=k->k<n->0<=D k)->zgf y=true):=by
 obtain ⟨A,hA⟩:∃A,A=allL (eget y.disk p0) ((ze y.disk p0).1.l1::snL y.disk):=⟨_,rfl⟩
 have hf:=ztF s.root s.snp;have hsn:=s.sound;rw [hn] at hsn
 have hac:zba y=(cnts n A,0):=by
  have hk:(cntK y.disk y.geom.host (zaF y.disk).1 []).2=0:=ztD _ _ (λt ht=>by rw [hf] at ht;rw [hn];exact ⟨(hsn.rng t (zX ht (.inr rfl))).2,hsn.ok t ht,λk hk=>(hsn.rng k (zX ht (.inl hk))).2⟩)
  unfold zba;rw [if_neg (by rw [hf];simp),if_neg (by omega),(zoK _ _ hk).2,hf,hn,List.nil_append,Int.toNat_natCast,<-hA]
 have hrg:∀i:Nat,i<n->rget y.disk p0 (i:Nat)=((A.count (i:Int):Nat)+D i,0):=λi hi=>by rw [hA];exact hsn.cnt i (by omega) (by omega)
 have hra:(rall y.disk p0 n).2=0:=zxv h256 (λi hi=>by rw [hrg i hi])
 have hr1:(rall y.disk p0 n).1=(List.range n).map (λ(i:Nat)=>((A.count (i:Int):Nat):Int)+D i):=by rw [(zly hra).2.2];refine List.map_congr_left (λi hi=>?_);rw [hrg i (by simpa using hi)]
 have hck:zaG y=(fnds 0 (cnts n A) ((List.range n).map (λ(i:Nat)=>((A.count (i:Int):Nat):Int)+D i)),0):=by unfold zaG;rw [hac,hn,if_neg (by simp),if_neg (by omega),hr1]
 have hkey:(zaG y).1.map keyF=dls D n 0:=by rw [hck,<-zpW (D:=D) (w:=λi=>((A.count (i:Int):Nat):Int)) n 0];simp only [Nat.zero_add,cnts]
 refine ⟨by rw [hck],hkey,?_,λhD=>?_⟩
 ·unfold zjo;rw [hf,hac];simp only [Bool.and_eq_true,List.all_eq_true,beq_iff_eq,true_and,and_true];intro t ht;have hrt:=hsn.rng t (zX ht (.inr rfl));rw [ztG A hrt.1 hrt.2,hA,hsn.alone t ht];rfl
 ·unfold zgf;rw [hck];simp only [Bool.and_eq_true,Bool.not_eq_true',List.any_eq_false,decide_eq_true_eq,beq_self_eq_true,and_true];intro f hm;obtain ⟨i,h1,h2,h3,h4⟩:=zlz _ _ _ _ hm
  have hi:i<n:=by have:=(List.getElem?_eq_some_iff.1 h2).1;rw [zbH] at this;exact this
  rw [zfZ A hi] at h2;rw [List.getElem?_map,List.getElem?_range hi] at h3;have e2:=Option.some.inj h2;have e3:=Option.some.inj h3;simp only at e3;have:=hD i (by omega) (by omega);omega
end Go.Aw
