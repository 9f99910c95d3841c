/-
  Parts of the proof: TabD, PointA, PointB, PointC, RootC (short names; the readable texts lie in the repo, under wip).
-/
import Derived.Test.YtbmlikkofegdeaaGreatDoorPiece27
import Derived.Test.YtbmlikkofegdeaaGreatDoorPiece17
set_option maxRecDepth 100000
set_option maxHeartbeats 2000000
set_option linter.unusedSimpArgs false
set_option linter.unusedVariables false
namespace Go.Aw
open Go Go.Proofs
theorem zqZ (p:Plan) (i:Int) (_:True):AC 287 [planA p,.d (.int .i64 i)] (.tup [.d (.str z64),.d (.int .i64 0)]):=by refine bod Tryz.func287 Tryz.ntmps287 (λbase=>?_);refine' walkW fx (za zaj <| za zck <| za z2 <| zb _);rfl
@[go_sem] noncomputable def zbP:Ent Tryz.prog 287:= .m2 zw (intT .i64) zqZ
theorem ztc (q:Plan) (i:Int) (d:Disk) (a:Int) (hd:DiskOk d) (hq:PlanOk q) (hl:q.targets.length=q.texts.length) (h0:0<=a) (h1:a<256) (h2:0<=i) (h3:i<2):ACall Tryz.prog 189 0 [planA q,.d (.int .i64 i),.dp (diskC d),.dp [.d (.int .i64 a)]] [] (λr _=>r= .tup [.d (.str (plook d q (96+2*a+i)).1),.d (.int .i64 (plook d q (96+2*a+i)).2)]):=by refine bod Tryz.func189 Tryz.ntmps189 (λbase=>?_);have hw1:IntKind.i64.wrap (96+2*a+i)=96+2*a+i:=zg (by omega) (by omega);refine' walkW hw1 (za zaj <| za zck <| za z2 <| zb _)
@[go_sem] noncomputable def zcm:Ent Tryz.prog 189:= .ofL (consL zw (consL (intT .i64) (consL zsb (consL (dpT (consL (intT .i64) nilL) (λp=>p) (λp=>p) (λ_=>rfl)) nilL)))) (λ(q,i,d,(a,_),_)=>(DiskOk d)/\(PlanOk q)/\(q.targets.length=q.texts.length)/\(0<=a)/\(a<256)/\(0<=i)/\(i<2)) (λ(q,i,d,(a,_),_)=> .tup [.d (.str (plook d q (96+2*a+i)).1),.d (.int .i64 (plook d q (96+2*a+i)).2)]) (λ(q,i,d,(a,_),_) hp=>⟨rfl,ztc q i d a hp.1 hp.2.1 hp.2.2.1 hp.2.2.2.1 hp.2.2.2.2.1 hp.2.2.2.2.2.1 hp.2.2.2.2.2.2⟩)
theorem ztd (p:Plan) (t:Int) (hp:pfit p=true) (ht0:0<=t) (ht1:t<256):ACall Tryz.prog 188 0 [planA p,.d (.int .i64 t),.fn (.func 287) [] []] [] (λr _=>r= .tup [planA (zbp p t (λ_ _=>(z64,0)) 2 0 p).1,.d (.int .i64 (zbp p t (λ_ _=>(z64,0)) 2 0 p).2)]):=by
 refine fbod Tryz.func188 Tryz.ntmps188 (λbase=>?_);obtain ⟨f,hf⟩:∃f:Plan->Int->Txt×Int,f=λ_ _=>(z64,0):=⟨_,rfl⟩
 rw [<-hf];refine' walkW fx (za zbP <| za zcm <| za zck <| za zcd <| zb _);refine zq (λq: { q:Nat×Plan // q.1<=2/\pfit q.2=true/\zbp p t f 2 0 p=zbp p t f (2 - q.1) q.1 q.2 } =>⟨[(1,true,.d (.int .i64 t)),(2,true,.fn (.func 287) [] []),(3,true,.vp 0 0),(6,true,.vp 1 0),(8,true,.vp 2 0),(13,true,.d (.int .i64 q.1.1))],[(2,(.var [.d (.sl 1 (q.1.2.targets.map intD)),.d (.sl 1 (q.1.2.texts.map strD))])),(1,.var [.nils 1,.nils 1]),(0,(.var [.d (.sl 1 (p.targets.map intD)),.d (.sl 1 (p.texts.map strD))]))],some []⟩) (λq=>2 - q.1.1) ⟨(0,p),Nat.zero_le 2,hp,rfl⟩ le1 (λq=>?_);obtain ⟨⟨i,q⟩,hi,hq,hf2⟩:=q;simp only at hi hq hf2 ⊢;have hqo:=PlanOk.of hq;obtain ⟨hql,hq24,_⟩:=zay hq;rcases Nat.lt_or_ge i 2 with hlt|hge
 ·have hcmp:decide ((i:Int)<2)=true:=decide_eq_true (by omega);have hwi:=zr (i:=i) (by omega);have hw1:IntKind.i64.wrap (96+2*t+(i:Int))=96+2*t+i:=zg (by omega) (by omega);rw [zfU p t f i q hlt] at hf2;have hf0:f q i=(z64,0):=by rw [hf]
  simp only [hf0] at hf2;rw [if_neg (show ¬(0:Int)≠0 by decide)] at hf2;refine' walkW (zn hcmp hw1) (za zbP <| za zcm <| za zck <| za zcd <| zb _)
  ·have hc:(pset q (96+2*t+i) z64).2≠0:=by simpa using hc
   rw [hf2,if_pos hc]
  ·have hc:¬(pset q (96+2*t+i) z64).2≠0:=by simpa using hc
   rw [if_neg hc] at hf2;exact ⟨⟨(i+1,(pset q (96+2*t+i) z64).1),by omega,zbU hq,hf2⟩,lew,by simp;omega⟩
 ·have hcmp:decide ((i:Int)<2)=false:=decide_eq_false (by omega);refine' walkW hcmp (za zbP <| za zcm <| za zck <| za zcd <| zb _);rw [hf2,show 2 - i=0 by omega];rfl
@[go_sem] noncomputable def zi4:Ent Tryz.prog 188:= .ofL (consL zw (consL (intT .i64) (consL (fnT 287 nilL) nilL))) (λ(p,t,_,_)=>(pfit p=true)/\(0<=t)/\(t<256)) (λ(p,t,_,_)=> .tup [planA (zbp p t (λ_ _=>(z64,0)) 2 0 p).1,.d (.int .i64 (zbp p t (λ_ _=>(z64,0)) 2 0 p).2)]) (λ(p,t,_,_) hp=>⟨rfl,ztd p t hp.1 hp.2.1 hp.2.2⟩)
theorem zte (p:Plan) (t:Int) (d:Disk) (a:Int) (h:DP d p) (ht0:0<=t) (ht1:t<256) (h0:0<=a) (h1:a<256):ACall Tryz.prog 188 4 [planA p,.d (.int .i64 t),.fn (.func 189) [] [.vp 0 0,.vp 2 0]] [(3,.var [.nils 1,.nils 1]),(2,.var [.d (.int .i64 a)]),(1,(.var [.d (.sl 1 (p.targets.map intD)),.d (.sl 1 (p.texts.map strD))])),(0,(.var [.d (.str d.data),.d (.sl 2 (d.cache.map putD)),.d (.int .i64 d.fuse),.d (.bool d.off),.d (.sl 1 (d.bad.map intD))]))] (λr h'=>r= .tup [planA (zbp p t (λq i=>plook d q (96+2*a+i)) 2 0 p).1,.d (.int .i64 (zbp p t (λq i=>plook d q (96+2*a+i)) 2 0 p).2)]/\h'= [(3,.var [.nils 1,.nils 1]),(2,.var [.d (.int .i64 a)]),(1,(.var [.d (.sl 1 (p.targets.map intD)),.d (.sl 1 (p.texts.map strD))])),(0,(.var [.d (.str d.data),.d (.sl 2 (d.cache.map putD)),.d (.int .i64 d.fuse),.d (.bool d.off),.d (.sl 1 (d.bad.map intD))]))]):=by
 refine zC (λi=>decide (i<4)) ?_;refine bod Tryz.func188 Tryz.ntmps188 (λbase=>?_);have hp:=h.p;have hdo:=h.dok;obtain ⟨f,hf⟩:∃f:Plan->Int->Txt×Int,f=λq i=>plook d q (96+2*a+i):=⟨_,rfl⟩
 rw [<-hf];refine' walkW fx (za zbP <| za zcm <| za zck <| za zcd <| zb _);refine zq (λq: { q:Nat×Plan // q.1<=2/\pfit q.2=true/\zbp p t f 2 0 p=zbp p t f (2 - q.1) q.1 q.2 } =>⟨[(1,true,.d (.int .i64 t)),(2,true,.fn (.func 189) [] [.vp 0 0,.vp 2 0]),(3,true,.vp 4 0),(6,true,.vp 5 0),(8,true,.vp 6 0),(13,true,.d (.int .i64 q.1.1))],[(6,(.var [.d (.sl 1 (q.1.2.targets.map intD)),.d (.sl 1 (q.1.2.texts.map strD))])),(5,.var [.nils 1,.nils 1]),(4,(.var [.d (.sl 1 (p.targets.map intD)),.d (.sl 1 (p.texts.map strD))])),(3,.var [.nils 1,.nils 1]),(2,.var [.d (.int .i64 a)]),(1,(.var [.d (.sl 1 (p.targets.map intD)),.d (.sl 1 (p.texts.map strD))])),(0,(.var [.d (.str d.data),.d (.sl 2 (d.cache.map putD)),.d (.int .i64 d.fuse),.d (.bool d.off),.d (.sl 1 (d.bad.map intD))]))],some []⟩) (λq=>2 - q.1.1) ⟨(0,p),Nat.zero_le 2,hp,rfl⟩ le1 (λq=>?_);obtain ⟨⟨i,q⟩,hi,hq,hf2⟩:=q;simp only at hi hq hf2 ⊢;have hqo:=PlanOk.of hq;obtain ⟨hql,hq24,_⟩:=zay hq;have hdq:DP d q:=⟨h.d,hq⟩
 rcases Nat.lt_or_ge i 2 with hlt|hge
 ·have hcmp:decide ((i:Int)<2)=true:=decide_eq_true (by omega);have hwi:=zr (i:=i) (by omega);have hw1:IntKind.i64.wrap (96+2*t+(i:Int))=96+2*t+i:=zg (by omega) (by omega);rw [zfU p t f i q hlt] at hf2;have hf0:f q i=plook d q (96+2*a+i):=by rw [hf]
  simp only [hf0] at hf2;by_cases he:(plook d q (96+2*a+i)).2=0
  ·have hb:((plook d q (96+2*a+i)).2 !=0)=false:=by simpa using he
   have h64:=zch hdq he;rw [if_neg (by simpa using he)] at hf2;refine' walkW (zB hcmp hw1 hb) (za zbP <| za zcm <| za zck <| za zcd <| zb _)
   ·have hc:(pset q (96+2*t+i) (plook d q (96+2*a+i)).1).2≠0:=by simpa using hc
    rw [if_pos hc] at hf2;rw [hf2]
   ·have hc:¬(pset q (96+2*t+i) (plook d q (96+2*a+i)).1).2≠0:=by simpa using hc
    rw [if_neg hc] at hf2;exact ⟨⟨(i+1,(pset q (96+2*t+i) (plook d q (96+2*a+i)).1).1),by omega,zbU hq,hf2⟩,lew,by simp;omega⟩
  ·have hb:((plook d q (96+2*a+i)).2 !=0)=true:=by simpa using he
   rw [if_pos (by simpa using he)] at hf2;refine' walkW (zn hcmp hb) (za zbP <| za zcm <| za zck <| za zcd <| zb _);rw [hf2]
 ·have hcmp:decide ((i:Int)<2)=false:=decide_eq_false (by omega);refine' walkW hcmp (za zbP <| za zcm <| za zck <| za zcd <| zb _);rw [hf2,show 2 - i=0 by omega];rfl
theorem ztf (p:Plan) (t:Int) (hp:pfit p=true):AC 260 [planA p,.d (.int .i64 t)] (.tup [planA (eblank p t).1,.d (.int .i64 (eblank p t).2)]):=by
 refine fbod Tryz.func260 Tryz.ntmps260 (λbase=>?_);by_cases hk:zG t=true
 ·obtain ⟨ht0,ht1⟩:=hostOk_iff.1 hk;have hbl:eblank p t=zbp p t (λ_ _=>(z64,0)) 2 0 p:=by rw [eblank,if_neg (by rw [hk];exact λh=>by cases h)]
  refine' walkW hk (za zde <| za zi4 <| zb _);rw [hbl]
 ·have hk:zG t=false:=by simpa using hk
  refine' walkW hk (za zde <| za zi4 <| zb _);rw [eblank,if_pos hk]
@[go_sem] noncomputable def zbQ:Ent Tryz.prog 260:= .m2 zw (intT .i64) ztf
theorem zvv (d:Disk) (p:Plan) (a t:Int) (h:DP d p):AC 121 [diskA d,planA p,.d (.int .i64 a),.d (.int .i64 t)] (.tup [planA (ecopy d p a t).1,.d (.int .i64 (ecopy d p a t).2)]):=by
 refine fbod Tryz.func121 Tryz.ntmps121 (λbase=>?_);by_cases hk:zG a=false\/zG t=false
 ·have hdec:(!zG a|| !zG t)=true:=by simpa using hk
  refine' walkW hdec (za zde <| zb _);rw [ecopy,if_pos hk]
 ·have hdec:(!zG a|| !zG t)=false:=by simpa using hk
  have hcp:ecopy d p a t=zbp p t (λq i=>plook d q (96+2*a+i)) 2 0 p:=by rw [ecopy,if_neg hk]
  simp only [not_or,Bool.not_eq_false] at hk;obtain ⟨ha0,ha1⟩:=hostOk_iff.1 hk.1;obtain ⟨ht0,ht1⟩:=hostOk_iff.1 hk.2;refine' walkW (zB hdec hk.1 hk.2) (za zde <| zb _);refine ((zte p t d a h ht0 ht1 ha0 ha1).whole (zJ rfl) (by omega) (by rintro r h' ⟨_,rfl⟩ i hi;exact hi)).mono ?_;rintro r h' ⟨rfl,rfl⟩;simp only [go_sem,aeq,aeq.aeqF,simprocAttr];refine' walkW fx (za zde <| zb _);rw [hcp]
@[go_sem] noncomputable def zaU:Ent Tryz.prog 121:= .m4 zu zw (intT .i64) (intT .i64) zvv
open Go Go.Proofs
def pfill (d:Disk) (p:Plan) (fr k:Int):Plan×Int:=if fr<0 then eblank p k else ecopy d p fr k
def pless (d:Disk) (p:Plan) (fr:Int):Plan×Int:=if fr<0 then (p,0) else radd d p fr (-1)
def pfresh (d:Disk) (p:Plan) (g:Geom) (l1 i fr:Int):Plan×Int×Int:=
 if (rtake d p g).2.2≠0 then (p,0,(rtake d p g).2.2)
 else if (pfill d (rtake d p g).1 fr (rtake d p g).2.1).2≠0 then (p,0,(pfill d (rtake d p g).1 fr (rtake d p g).2.1).2)
 else if (pless d (pfill d (rtake d p g).1 fr (rtake d p g).2.1).1 fr).2≠0 then (p,0,(pless d (pfill d (rtake d p g).1 fr (rtake d p g).2.1).1 fr).2)
 else if (eset d (pless d (pfill d (rtake d p g).1 fr (rtake d p g).2.1).1 fr).1 l1 i ⟨1,(rtake d p g).2.1⟩).2≠0 then (p,0,(eset d (pless d (pfill d (rtake d p g).1 fr (rtake d p g).2.1).1 fr).1 l1 i ⟨1,(rtake d p g).2.1⟩).2)
 else ((eset d (pless d (pfill d (rtake d p g).1 fr (rtake d p g).2.1).1 fr).1 l1 i ⟨1,(rtake d p g).2.1⟩).1,(rtake d p g).2.1,0)
def pown2 (d:Disk) (p:Plan) (g:Geom) (l1 i:Int):Plan×Int×Int:=
 if (eget d p l1 i).2≠0 then (p,0,(eget d p l1 i).2) else if (eget d p l1 i).1.kind=2 then (p,0,14)
 else if (eget d p l1 i).1.kind=0 then pfresh d p g l1 i (-1) else if (rget d p (eget d p l1 i).1.loc).2≠0 then (p,0,(rget d p (eget d p l1 i).1.loc).2)
 else if (rget d p (eget d p l1 i).1.loc).1<=1 then (p,(eget d p l1 i).1.loc,0) else pfresh d p g l1 i (eget d p l1 i).1.loc
def pown (d:Disk) (p:Plan) (g:Geom) (guest:Int):Plan×Int×Int:=
 if guest<0\/g.guest<=guest then (p,0,10) else if (ze d p).2≠0 then (p,0,(ze d p).2) else pown2 d p g (ze d p).1.l1 (guest / 16)
def zeZ (d:Disk) (p q:Plan) (t i:Int) (x:Ent2):Plan×Int:=
  if (eget d q t i).2≠0 then (p,(eget d q t i).2)
  else if (eget d q t i).1.kind=1 then
    (if (radd d q (eget d q t i).1.loc (-1)).2≠0 then (p,(radd d q (eget d q t i).1.loc (-1)).2)
     else if (eset d (radd d q (eget d q t i).1.loc (-1)).1 t i x).2≠0 then (p,(eset d (radd d q (eget d q t i).1.loc (-1)).1 t i x).2) else ((eset d (radd d q (eget d q t i).1.loc (-1)).1 t i x).1,0))
  else if (eset d q t i x).2≠0 then (p,(eset d q t i x).2) else ((eset d q t i x).1,0)
def ppoint (d:Disk) (p:Plan) (g:Geom) (guest:Int) (x:Ent2):Plan×Int:=
 if (pown d p g guest).2.2≠0 then (p,(pown d p g guest).2.2) else zeZ d p (pown d p g guest).1 (pown d p g guest).2.1 (guest % 16) x
theorem DP.pfill {d:Disk} {p:Plan} (h:DP d p) (a b:Int):DP d (pfill d p a b).1:=by unfold Aw.pfill;split;exact h.eblank _;exact h.ecopy _ _
theorem DP.pless {d:Disk} {p:Plan} (h:DP d p) (a:Int):DP d (pless d p a).1:=by unfold Aw.pless;split;exact h;exact h.radd _ _
theorem DP.pfresh {d:Disk} {p:Plan} (h:DP d p) (g:Geom) (l1 i fr:Int):DP d (pfresh d p g l1 i fr).1:=by
 unfold Aw.pfresh;split
 ·exact h
 split
 ·exact h
 split
 ·exact h
 split
 ·exact h
 ·exact (((h.rtake g).pfill _ _).pless _).eset _ _ _
theorem DP.pown {d:Disk} {p:Plan} (h:DP d p) (g:Geom) (guest:Int):DP d (pown d p g guest).1:=by
 unfold Aw.pown;split
 ·exact h
 split
 ·exact h
 unfold Aw.pown2;split
 ·exact h
 split
 ·exact h
 split
 ·exact h.pfresh _ _ _ _
 split
 ·exact h
 split
 ·exact h
 ·exact h.pfresh _ _ _ _
theorem DP.ppoint {d:Disk} {p:Plan} (h:DP d p) (g:Geom) (guest:Int) (x:Ent2):DP d (ppoint d p g guest x).1:=by
 have ho:=h.pown g guest;unfold Aw.ppoint;split
 ·exact h
 unfold zeZ;split
 ·exact h
 split
 ·split
  ·exact h
  split
  ·exact h
  ·exact (ho.radd _ _).eset _ _ _
 ·split
  ·exact h
  ·exact ho.eset _ _ _
theorem zoa (d:Disk) (p:Plan) (g:Geom) (l1 i fr:Int) (hp:DP d p/\g.host<=1000000):AC 228 [diskA d,planA p,geomA g,.d (.int .i64 l1),.d (.int .i64 i),.d (.int .i64 fr)] (.tup [planA (pfresh d p g l1 i fr).1,.d (.int .i64 (pfresh d p g l1 i fr).2.1),.d (.int .i64 (pfresh d p g l1 i fr).2.2)]):=by
 obtain ⟨h,hg⟩:=hp;refine fbod Tryz.func228 Tryz.ntmps228 (λbase=>?_);have h1:=h.rtake g;have h2:=h1.p;rw [pfresh];obtain ⟨T,hT⟩:∃T,T=rtake d p g:=⟨_,rfl⟩
 rw [<-hT] at h1 h2 ⊢;by_cases hfr:fr<0
 ·have hd1:decide (fr<0)=true:=decide_eq_true hfr;have hd2:decide (0<=fr)=false:=decide_eq_false (by omega);have e1:∀q k,pfill d q fr k=eblank q k:=λq k=>by rw [pfill,if_pos hfr]
  have e2:∀q,pless d q fr=(q,0):=λq=>by rw [pless,if_pos hfr]
  simp only [e1,e2];have h3:=h1.eblank T.2.1;obtain ⟨B,hB⟩:∃B,B=eblank T.1 T.2.1:=⟨_,rfl⟩
  rw [<-hB] at h3 ⊢;obtain ⟨C,hC⟩:∃C,C=eset d B.1 l1 i ⟨1,T.2.1⟩:=⟨_,rfl⟩
  rw [<-hC];refine' walkW (zbj hd1 hd2 hT.symm hB.symm hC.symm) (za zbN <| za zgO <| za zbq <| za zaT <| za zeY <| zb _);all_goals (clear h1 h2 h3 hT hB hC e1 e2 hd1 hd2;simp_all;done)
 ·have hd1:decide (fr<0)=false:=decide_eq_false hfr;have hd2:decide (0<=fr)=true:=decide_eq_true (by omega);have e1:∀q k,pfill d q fr k=ecopy d q fr k:=λq k=>by rw [pfill,if_neg hfr]
  have e2:∀q,pless d q fr=radd d q fr (-1):=λq=>by rw [pless,if_neg hfr]
  simp only [e1,e2];have h3:=h1.ecopy fr T.2.1;obtain ⟨B,hB⟩:∃B,B=ecopy d T.1 fr T.2.1:=⟨_,rfl⟩
  rw [<-hB] at h3 ⊢;have h4:=h3.radd fr (-1);obtain ⟨N,hN⟩:∃N,N=radd d B.1 fr (-1):=⟨_,rfl⟩
  rw [<-hN] at h4 ⊢;obtain ⟨C,hC⟩:∃C,C=eset d N.1 l1 i ⟨1,T.2.1⟩:=⟨_,rfl⟩
  rw [<-hC];refine' walkW (zL hd1 hd2 hT.symm hB.symm hN.symm hC.symm) (za zbN <| za zgO <| za zbq <| za zaT <| za zeY <| zb _);all_goals (clear h1 h2 h3 h4 hT hB hC hN e1 e2 hd1 hd2;simp_all;done)
@[go_sem] noncomputable def zgP:Ent Tryz.prog 228:= .m6 zu zw zeo (intT .i64) (intT .i64) (intT .i64) zoa
open Go Go.Proofs
theorem zsW (d:Disk) (p:Plan) (g:Geom) (k:Int) (hp:DP d p/\g.host<=1000000/\g.guest<=1000000):AC 172 [diskA d,planA p,geomA g,.d (.int .i64 k)] (.tup [planA (pown d p g k).1,.d (.int .i64 (pown d p g k).2.1),.d (.int .i64 (pown d p g k).2.2)]):=by
 obtain ⟨h,hg,hh⟩:=hp;refine fbod Tryz.func172 Tryz.ntmps172 (λbase=>?_);by_cases hk:k<0\/g.guest<=k
 ·have hdec:(decide (k<0)||decide (g.guest<=k))=true:=by simpa using hk
  refine' walkW hdec (za zbe <| za zaY <| za zcv <| za zgP <| zb _);rw [pown,if_pos hk]
 have hdec:(decide (k<0)||decide (g.guest<=k))=false:=by simpa using hk
 rw [pown,if_neg hk];obtain ⟨R,hR⟩:∃R,R=ze d p:=⟨_,rfl⟩
 rw [<-hR];have hw1:IntKind.i64.wrap (k.tdiv 16)=k / 16:=by rw [Int.tdiv_eq_ediv_of_nonneg (by omega),zg (by omega) (by omega)]
 obtain ⟨I,hI⟩:∃I,I=k / 16:=⟨_,rfl⟩
 rw [<-hI];obtain ⟨X,hX⟩:∃X,X=eget d p R.1.l1 I:=⟨_,rfl⟩
 obtain ⟨N,hN⟩:∃N,N=rget d p X.1.loc:=⟨_,rfl⟩
 rw [pown2,<-hX,<-hN];refine' walkW (zL hdec hw1 hR.symm hI.symm hX.symm hN.symm) (za zbe <| za zaY <| za zcv <| za zgP <| zb _);all_goals (clear hR hI hX hN hw1 hdec;first|(simp_all;done)|(simp_all;simp only [if_neg (show ¬N.1<=1 by omega)];simp;done))
@[go_sem] noncomputable def ziZ:Ent Tryz.prog 172:= .m4 zu zw zeo (intT .i64) zsW
theorem zob (d:Disk) (p:Plan) (g:Geom) (k:Int) (x:Ent2) (hp:DP d p/\g.host<=1000000/\g.guest<=1000000):AC 102 [diskA d,planA p,geomA g,.d (.int .i64 k),entA x] (.tup [planA (ppoint d p g k x).1,.d (.int .i64 (ppoint d p g k x).2)]):=by
 obtain ⟨h,hg,hh⟩:=hp;refine fbod Tryz.func102 Tryz.ntmps102 (λbase=>?_);have h1:=h.pown g k;by_cases he:(pown d p g k).2.2=0
 ·have hb:((pown d p g k).2.2 !=0)=false:=by simpa using he
  have hk0:0<=k/\k<g.guest:=by
   unfold pown at he;by_cases hk:k<0\/g.guest<=k
   ·rw [if_pos hk] at he;cases he
   ·omega
  rw [ppoint,if_neg (by simpa using he)];obtain ⟨O,hO⟩:∃O,O=pown d p g k:=⟨_,rfl⟩
  rw [<-hO] at h1 ⊢;have hw2:k.tmod 16=k % 16:=Int.tmod_eq_emod_of_nonneg (by omega);obtain ⟨I,hI⟩:∃I,I=k % 16:=⟨_,rfl⟩
  obtain ⟨X,hX⟩:∃X,X=eget d O.1 O.2.1 I:=⟨_,rfl⟩
  have h2:=h1.radd X.1.loc (-1);obtain ⟨N,hN⟩:∃N,N=radd d O.1 X.1.loc (-1):=⟨_,rfl⟩
  rw [<-hN] at h2;obtain ⟨S,hS⟩:∃S,S=eset d N.1 O.2.1 I x:=⟨_,rfl⟩
  obtain ⟨S',hS'⟩:∃S',S'=eset d O.1 O.2.1 I x:=⟨_,rfl⟩
  rw [zeZ,<-hI,<-hX,<-hN,<-hS,<-hS'];rw [<-hO] at hb;have hx1:eset d N.1 O.2.1 I ⟨x.kind,x.loc⟩=S:=hS.symm;have hx2:eset d O.1 O.2.1 I ⟨x.kind,x.loc⟩=S':=hS'.symm;refine' walkW (zL hw2 hO.symm hI.symm hX.symm hN.symm (zB hb hx1 hx2)) (za ziZ <| za zaY <| za zaT <| za zeY <| zb _);all_goals (clear hO hI hX hN hS hS' hx1 hx2 hw2 h1 h2 hb;simp_all;done)
 ·have hb:((pown d p g k).2.2 !=0)=true:=by simpa using he
  refine' walkW hb (za ziZ <| za zaY <| za zaT <| za zeY <| zb _);rw [ppoint,if_pos he]
@[go_sem] noncomputable def zdu:Ent Tryz.prog 102:= .m5 zu zw zeo (intT .i64) zgN zob
open Go Go.Proofs
def zb6 (d:Disk) (p:Plan) (t:Int):Nat->Int->List Int->List Int×Int
 |0,_,l=>(l,0)
 |m+1,k,l=>if (eget d p t k).2≠0 then ([],(eget d p t k).2) else zb6 d p t m (k+1) (if (eget d p t k).1.kind=1 then l++ [(eget d p t k).1.loc] else l)
def zcF (d:Disk) (p:Plan) (l1:Int):Nat->Int->List Int->List Int×Int
 |0,_,l=>(l,0)
 |m+1,i,l=>if (eget d p l1 i).2≠0 then ([],(eget d p l1 i).2) else if (eget d p l1 i).1.kind=2 then ([],14)
  else if (eget d p l1 i).1.kind=0 then zcF d p l1 m (i+1) l
  else if (zb6 d p (eget d p l1 i).1.loc 16 0 (l++ [(eget d p l1 i).1.loc])).2≠0 then ([],(zb6 d p (eget d p l1 i).1.loc 16 0 (l++ [(eget d p l1 i).1.loc])).2)
  else zcF d p l1 m (i+1) (zb6 d p (eget d p l1 i).1.loc 16 0 (l++ [(eget d p l1 i).1.loc])).1
def reach (d:Disk) (p:Plan) (l1:Int):List Int×Int:=zcF d p l1 4 0 []
theorem zhm {m n:Nat} (h:m<n):n - m=(n - (m+1))+1:=by omega
theorem zoc (d:Disk) (p:Plan) (l1:Int) (h:DP d p):AC 132 [diskA d,planA p,.d (.int .i64 l1)] (.tup [.d (.sl 1 ((reach d p l1).1.map intD)),.d (.int .i64 (reach d p l1).2)]):=by
 refine fbod Tryz.func132 Tryz.ntmps132 (λbase=>?_);refine' walkW fx (za zaY <| zb _);refine zds 8 1 rfl ?_;simp only [fresh,top,hget, ↓reduceIte];refine zq (λq: { q:Nat×List Int // q.1<=4/\q.2.length<=17*q.1/\reach d p l1=zcF d p l1 (4 - q.1) q.1 q.2 } =>⟨[(2,true,.d (.int .i64 l1)),(3,true,.vp 0 0),(4,true,.vp 1 0),(8,true,.osl 2 1 q.1.2.length 0 q.1.2.length),(9,true,.d (.int .i64 q.1.1))],[(2,.arr 1 (q.1.2.map intD)),(1,(.var [.d (.sl 1 (p.targets.map intD)),.d (.sl 1 (p.texts.map strD))])),(0,(.var [.d (.str d.data),.d (.sl 2 (d.cache.map putD)),.d (.int .i64 d.fuse),.d (.bool d.off),.d (.sl 1 (d.bad.map intD))]))],some []⟩) (λq=>4 - q.1.1) ⟨(0,[]),Nat.zero_le 4,Nat.zero_le 0,rfl⟩ le1 (λq=>?_);obtain ⟨⟨i,l⟩,hi,hll,hf⟩:=q;simp only at hi hll hf ⊢;rcases Nat.lt_or_ge i 4 with hlt|hge
 ·have hcmp:decide ((i:Int)<4)=true:=decide_eq_true (by omega);have hwi:=zr (i:=i) (by omega);rw [zhm hlt,zcF] at hf;obtain ⟨X,hX⟩:∃X,X=eget d p l1 i:=⟨_,rfl⟩
  rw [<-hX] at hf;refine' walkW (zn hcmp hX.symm) (za zaY <| zb _)
  ·have hc:X.2≠0:=by simpa using hc
   rw [hf,if_pos hc];rfl
  ·rename_i c0;have c0:¬X.2≠0:=by simpa using c0
   have hc:X.1.kind=2:=by simpa using hc
   rw [hf,if_neg c0,if_pos hc];rfl
  ·rename_i c0 c1;have c0:¬X.2≠0:=by simpa using c0
   have c1:¬X.1.kind=2:=by simpa using c1
   have hc:X.1.kind=0:=by simpa using hc
   rw [if_neg c0,if_neg c1,if_pos hc] at hf;exact ⟨⟨(i+1,l),by omega,by simp only;omega,hf⟩,lew,by simp;omega⟩
  rename_i c0 c1;have c0:¬X.2≠0:=by simpa using c0
  have c1:¬X.1.kind=2:=by simpa using c1
  have c2:¬X.1.kind=0:=by simpa using hc
  clear hc;rw [if_neg c0,if_neg c1,if_neg c2] at hf;obtain ⟨M,hM⟩:∃M,M=l++ [X.1.loc]:=⟨_,rfl⟩
  have hMr:l.map intD++ [[D.int .i64 X.1.loc]]=M.map intD:=by rw [hM,List.map_append];rfl
  have hMl:l.length+1=M.length:=by rw [hM];simp
  rw [<-hM] at hf;obtain ⟨RJ,hRJ⟩:∃RJ,RJ=zb6 d p X.1.loc 16 0 M:=⟨_,rfl⟩
  rw [<-hRJ] at hf;rw [hMr,hMl];refine zq (λq: { q:Nat×List Int // q.1<=16/\q.2.length<=17*i+1+q.1/\RJ=zb6 d p X.1.loc (16 - q.1) q.1 q.2 } =>⟨[(2,true,.d (.int .i64 l1)),(3,true,.vp 0 0),(4,true,.vp 1 0),(8,true,.osl 2 1 q.1.2.length 0 q.1.2.length),(9,true,.d (.int .i64 i)),(10,true,.vp 3 0),(12,true,.d (.int .i64 q.1.1))],[(3,.var [.d (.int .i64 X.1.kind),.d (.int .i64 X.1.loc)]),(2,.arr 1 (q.1.2.map intD)),(1,(.var [.d (.sl 1 (p.targets.map intD)),.d (.sl 1 (p.texts.map strD))])),(0,(.var [.d (.str d.data),.d (.sl 2 (d.cache.map putD)),.d (.int .i64 d.fuse),.d (.bool d.off),.d (.sl 1 (d.bad.map intD))]))],some []⟩) (λq=>16 - q.1.1) ⟨(0,M),Nat.zero_le 16,by simp only;omega,hRJ⟩ le1 (λq=>?_);obtain ⟨⟨k,m⟩,hk,hml,hfj⟩:=q;simp only at hk hml hfj ⊢;rcases Nat.lt_or_ge k 16 with hkt|hkge
  ·have hcmpk:decide ((k:Int)<16)=true:=decide_eq_true (by omega);have hwk:=zr (i:=k) (by omega);rw [zhm hkt,zb6] at hfj;obtain ⟨Y,hY⟩:∃Y,Y=eget d p X.1.loc k:=⟨_,rfl⟩
   rw [<-hY] at hfj;refine' walkW (zn hcmpk hY.symm) (za zaY <| zb _)
   ·have hc:Y.2≠0:=by simpa using hc
    rw [if_pos hc] at hfj;rw [hf,hfj,if_pos hc];rfl
   ·rename_i c3;have c3:¬Y.2≠0:=by simpa using c3
    have hc:Y.1.kind=1:=by simpa using hc
    rw [if_neg c3,if_pos hc] at hfj;exact ⟨⟨(k+1,m++ [Y.1.loc]),by omega,by simp only [List.length_append,List.length_singleton];omega,hfj⟩,by simp only [List.map_append,List.length_append,List.length_singleton];simp only [AS.le,leT,leH,zf,AsgK,AV.le,AV.leL,AObj.le,inH,idsT,idsH,AV.ids,AV.idsL,AV.idsR,AObj.ids,lk,hget,go_sem,aeq,aeq.aeqF,simprocAttr,hwk]<;>and_intros<;>rfl,by simp;omega⟩
   ·rename_i c3;have c3:¬Y.2≠0:=by simpa using c3
    have hc:¬Y.1.kind=1:=by simpa using hc
    rw [if_neg c3,if_neg hc] at hfj;exact ⟨⟨(k+1,m),by omega,by simp only;omega,hfj⟩,by simp only [AS.le,leT,leH,zf,AsgK,AV.le,AV.leL,AObj.le,inH,idsT,idsH,AV.ids,AV.idsL,AV.idsR,AObj.ids,lk,hget,go_sem,aeq,aeq.aeqF,simprocAttr,hwk],by simp;omega⟩
  ·have hcmpk:decide ((k:Int)<16)=false:=decide_eq_false (by omega);rw [show 16 - k=0 by omega,zb6] at hfj;rw [hfj,if_neg (show ¬(0:Int)≠0 by decide)] at hf;refine' walkW hcmpk (za zaY <| zb _);exact ⟨⟨(i+1,m),by omega,by simp only;omega,hf⟩,lew,by simp;omega⟩
 ·have hcmp:decide ((i:Int)<4)=false:=decide_eq_false (by omega);refine' walkW hcmp (za zaY <| zb _);rw [hf,show 4 - i=0 by omega];rfl
@[go_sem] noncomputable def zae:Ent Tryz.prog 132:= .m3 zu zw (intT .i64) zoc
open Go Go.Proofs
theorem zts {s:Txt} {i:Nat} (h:s.length=64):(slotB s i).length=16:=by unfold slotB;rw [List.length_drop,List.length_take];omega
theorem zpJ (s:Snp):(snpB s).1.length<=16:=by
 unfold snpB;split
 ·decide
 split
 ·decide
 ·rename_i hc;simp only [not_or,Bool.not_eq_false] at hc;have:=(zeD hc.2.1).1;simp only [List.length_append,zK,List.length_cons,List.length_nil];omega
theorem div4 {i:Nat} (h:i<8):IntKind.i64.wrap ((i:Int).tdiv 4)=((i / 4:Nat):Int):=by
 rw [Int.tdiv_eq_ediv_of_nonneg (by omega),zg (by omega) (by omega)];omega
theorem mod4 {i:Nat} :(i:Int).tmod 4=((i % 4:Nat):Int):=by
 rw [Int.tmod_eq_emod_of_nonneg (by omega)];omega
theorem zox (d:Disk) (p:Plan) (h:DP d p):AC 114 [diskA d,planA p] (.tup [.d (.sl 3 ((snaps d p).1.map snpD)),.d (.int .i64 (snaps d p).2)]):=by
 refine fbod Tryz.func114 Tryz.ntmps114 (fun base=>?_)
 have h1:=h.dok
 have h2:=h.pok
 have h3:=h.plen
 refine' walkR fx (za zA <| za zal <| za zV <| za za9 <| za zaB <| zb _)
 refine zds 6 3 rfl ?_
 simp only [fresh,top,hget, ↓reduceIte]
 refine zq (fun q: { q:Nat×List Snp // q.1≤8∧q.2.length=q.1∧snaps d p=snapsK d p (8 - q.1) q.1 q.2 } =>⟨[(2,true,.vp 0 0),(3,true,.vp 1 0),(6,true,.osl 2 3 q.1.1 0 q.1.1),(7,true,.d (.int .i64 q.1.1))],[(2,.arr 3 (q.1.2.map snpD)),(1,(.var [.d (.sl 1 (p.targets.map intD)),.d (.sl 1 (p.texts.map strD))])),(0,(.var [.d (.str d.data),.d (.sl 2 (d.cache.map putD)),.d (.int .i64 d.fuse),.d (.bool d.off),.d (.sl 1 (d.bad.map intD))]))],some []⟩) (fun q=>8 - q.1.1) ⟨(0,[]),Nat.zero_le 8,rfl,rfl⟩ le1 (fun q=>?_)
 obtain ⟨⟨i,l⟩,hi,hll,hf⟩:=q
 simp only at hi hll hf ⊢
 rcases Nat.lt_or_ge i 8 with hlt|hge
 ·have hcmp:decide ((i:Int)<8)=true:=decide_eq_true (by omega)
  have hwi:=zr (i:=i) (by omega)
  have hq4:=div4 hlt
  have hm4:=mod4 (i:=i)
  have hw2:IntKind.i64.wrap (2+((i / 4:Nat):Int))=2+((i / 4:Nat):Int):=zg (by omega) (by omega)
  have hw3:IntKind.i64.wrap (((i % 4:Nat):Int)*16)=((i % 4*16:Nat):Int):=by rw [zg (by omega) (by omega)];omega
  have hw4:IntKind.i64.wrap (((i % 4:Nat):Int)+1)=((i % 4+1:Nat):Int):=by rw [zg (by omega) (by omega)];omega
  have hw5:IntKind.i64.wrap (((i % 4+1:Nat):Int)*16)=(((i % 4+1)*16:Nat):Int):=by rw [zg (by omega) (by omega)];omega
  rw [zhm hlt,snapsK] at hf
  by_cases he:(plook d p (2+((i / 4:Nat):Int))).2=0
  ·have hb:((plook d p (2+((i / 4:Nat):Int))).2 !=0)=false:=by simpa using he
   have h64:=zch h he
   rw [if_neg (by simpa using he)] at hf
   obtain ⟨S,hS⟩:∃S,S=(plook d p (2+((i / 4:Nat):Int))).1:=⟨_,rfl⟩
   rw [← hS] at hf h64
   have hsl:List.drop (i % 4*16) (List.take ((i % 4+1)*16) S)=slotB S i:=rfl
   have hB16:=zts (i:=i) h64
   obtain ⟨B,hB⟩:∃B,B=slotB S i:=⟨_,rfl⟩
   rw [← hB] at hf hB16 hsl
   have hlm:(l.map snpD).length=i:=by rw [List.length_map,hll]
   refine' zki (zav 10) (zL hcmp hq4 hm4 hw2 hw3 (zbj hw4 hw5 hb hS.symm hsl)) (za zA <| za zal <| za zV <| za za9 <| za zaB <| zb _)
   obtain ⟨T,hT⟩:∃T,T=snpT B:=⟨_,rfl⟩
   obtain ⟨g1,g2,g3,g4,g5⟩:=zlo B
   rw [← hT] at hf g1 g2 g3 g4 g5
   have hBl:B.length≤9223372036854775807:=by omega
   refine zr3 ⟨[(2,true,.vp 0 0),(3,true,.vp 1 0),(6,true,.osl 2 3 i 0 i),(7,true,.d (.int .i64 i)),(8,true,.d (.str B)),(10,true,.vp 3 0)],[(3,.var [.d (.int .u32 T.id),.d (.int .i64 T.l1),.d (.str T.name)]),(2,.arr 3 (l.map snpD)),(1,(.var [.d (.sl 1 (p.targets.map intD)),.d (.sl 1 (p.texts.map strD))])),(0,(.var [.d (.str d.data),.d (.sl 2 (d.cache.map putD)),.d (.int .i64 d.fuse),.d (.bool d.off),.d (.sl 1 (d.bad.map intD))]))],some []⟩ ?_ ?_
   ·by_cases hz:B=z16
    ·have hbz:(B != [0,0,0,0,0,0,0,0,0,0,0,0,0,0,0,0])=false:=by rw [hz];rfl
     have hT0:T=⟨0,0,[]⟩:=by rw [hT,snpT,if_pos hz];rfl
     rw [hT0]
     refine' walkR hbz (za zA <| za zal <| za zV <| za za9 <| za zaB <| zb _)
    ·have hbz:(B != [0,0,0,0,0,0,0,0,0,0,0,0,0,0,0,0])=true:=by
      have:B≠ [0,0,0,0,0,0,0,0,0,0,0,0,0,0,0,0]:=hz
      simpa using this
     have hTR:T=snpR B:=by rw [hT,snpT,if_neg hz]
     have ht4:=zdl (s:=B) (z:=4) 4 rfl (by omega) (by omega) (by omega)
     have ht2:=zdl (s:=B.drop 4) (z:=2) 2 rfl (by omega) (by omega) (by rw [List.length_drop];omega)
     have htk:List.take B.length B=B:=List.take_length
     have hL1:(List.drop 4 B).length≤9223372036854775807:=by rw [List.length_drop];omega
     have hL2:(List.drop 8 B).length≤9223372036854775807:=by rw [List.length_drop];omega
     have hu1:IntKind.u32.wrap T.id=T.id:=zfS g1 g2
     have hu2:IntKind.i64.wrap T.l1=T.l1:=zg (by omega) (by omega)
     rw [hTR] at hu1 hu2 ⊢
     simp only [snpR] at hu1 hu2 ⊢
     refine' walkR (zL hbz ht4 ht2 htk hu1 hu2) (za zA <| za zal <| za zV <| za za9 <| za zaB <| zb _)
   ·have hlt2:l.length+1≤8:=by omega
    have hok:snpOk B=((snpB T).2&&((snpB T).1==B)):=by rw [snpOk,← hT]
    cases ho:snpOk B with
    | true=>
     rw [ho,if_pos rfl] at hf
     rw [ho] at hok
     have hc1:(!(snpB T).2||(snpB T).1 !=B)=false:=by
      have:=hok.symm
      rw [Bool.and_eq_true] at this
      simp only [Bool.or_eq_false_iff,Bool.not_eq_false']
      exact ⟨this.1,by simpa using this.2⟩
     refine' walkR (zn hc1 hlm) (za zA <| za zal <| za zV <| za za9 <| za zaB <| zb _)
     exact ⟨⟨(i+1,l++ [T]),by omega,by simp [hll],hf⟩,by simp only [List.map_append];simp only [AS.le,leT,leH,zf,AsgK,AV.le,AV.leL,AObj.le,inH,idsT,idsH,AV.ids,AV.idsL,AV.idsR,AObj.ids,lk,hget,go_sem,aeq,aeq.aeqF,simprocAttr,hwi]<;>and_intros<;>rfl,by simp;omega⟩
    | false=>
     rw [ho,if_neg (by decide)] at hf
     rw [ho] at hok
     have hc1:(!(snpB T).2||(snpB T).1 !=B)=true:=by
      have:=hok.symm
      rw [Bool.and_eq_false_iff] at this
      rcases this with h|h
      ·simp [h]
      ·simp only [Bool.or_eq_true,bne_iff_ne,ne_eq]
       exact .inr (by simpa using h)
     refine' walkR hc1 (za zA <| za zal <| za zV <| za za9 <| za zaB <| zb _)
     rw [hf]
     rfl
  ·have hb:((plook d p (2+((i / 4:Nat):Int))).2 !=0)=true:=by simpa using he
   refine' walkR (zah hcmp hq4 hw2 hb) (za zA <| za zal <| za zV <| za za9 <| za zaB <| zb _)
   rw [hf,if_pos he]
   rfl
 ·have hcmp:decide ((i:Int)<8)=false:=decide_eq_false (by omega)
  refine' walkR hcmp (za zA <| za zal <| za zV <| za za9 <| za zaB <| zb _)
  have him:i=8:=by omega
  subst him
  rw [if_pos hll.symm,List.take_of_length_le (by simp;omega),hf]
  rfl
@[go_sem] noncomputable def zdA:Ent Tryz.prog 114:= .m2 zu zw zox
theorem div4i {i:Int} (h0:0<=i) (h:i<8):IntKind.i64.wrap (i.tdiv 4)=i / 4:=by
 rw [Int.tdiv_eq_ediv_of_nonneg h0];exact zg (by omega) (by omega)
theorem zlw (d:Disk) (p:Plan) (i:Int) (s:Snp) (hp:DP d p/\0<=s.id/\s.id<=4294967295/\s.name.length<=9223372036854775807):AC 51 [diskA d,planA p,.d (.int .i64 i),snpA s] (.tup [planA (setsnap d p i s).1,.d (.int .i64 (setsnap d p i s).2)]):=by
 obtain ⟨h,h0,h1,hn⟩:=hp;refine fbod Tryz.func51 Tryz.ntmps51 (λbase=>?_);have hd1:=h.dok;have hd2:=h.puts;have hd3:=h.p;by_cases hi:i<0\/8<=i
 ·have hdec:(decide (i<0)||decide (8<=i))=true:=by simpa using hi
  refine' walkR hdec (za zaB <| za zar <| zb _);rw [setsnap,if_pos hi]
 have hdec:(decide (i<0)||decide (8<=i))=false:=by simpa using hi
 have hq:=div4i (i:=i) (by omega) (by omega);have hm:i.tmod 4=i % 4:=Int.tmod_eq_emod_of_nonneg (by omega);have hw1:IntKind.i64.wrap (2+i / 4)=2+i / 4:=zg (by omega) (by omega);have hw2:IntKind.i64.wrap (i % 4*16)=i % 4*16:=zg (by omega) (by omega);have hbl:(snpB s).1.length<=9223372036854775807:=by have:=zpJ s;omega
 cases ho:(snpB s).2 with
 |false=>
  refine' walkR (zn hdec ho) (za zaB <| za zar <| zb _);rw [setsnap,if_neg hi,if_pos ho]
 |true=>
  refine' walkR (zL hdec ho hq hm hw1 hw2) (za zaB <| za zar <| zb _);rw [setsnap,if_neg hi,if_neg (by rw [ho];decide)]
@[go_sem] noncomputable def zbo:Ent Tryz.prog 51:= .m4 zu zw (intT .i64) zhO zlw
end Go.Aw
