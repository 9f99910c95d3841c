/-
  Parts of the proof: JourC, RefcA, RefcB, RootA, TabA, TabB, TabC, TabD, PointA, PointB, PointC, PointD, PointE, PointF, PointG, CowA, CowB, CowC, CowD, CowE, CowF (short names; the readable texts lie in the repo, under wip).
-/
import Derived.Test.YtbmlikkofegdeaaGreatPart5
import Derived.Test.YtbmlikkofegdeaaGreatPart4
set_option maxRecDepth 100000
set_option maxHeartbeats 2000000
set_option linter.unusedSimpArgs false
set_option linter.unusedVariables false
namespace Go.Aw
open Go Go.Proofs
def runD:List (Disk→Disk×Int)→Disk→Disk×Int
 | [],d=>(d,0)
 |f::r,d=>if (f d).2≠0 then f d else runD r (f d).1
def zbJ (A:Int) (L:List Txt) (p:Plan):List (Disk→Disk×Int):= [dflush,fun d=>layL d (numF A L),dflush,fun d=>play d p]
def zkU (A:Int) (L:List Txt) (p:Plan):List (List AV):= [[.fn (.func 99) [] []],[.fn (.func 153) [] [.dp [.d (.sl 1 (L.map strD))],.dp [.d (.int .i64 A)]]],[.fn (.func 99) [] []],[.fn (.func 154) [] [.dp [.d (.sl 1 (p.targets.map intD)),.d (.sl 1 (p.texts.map strD))]]]]
def wkD (d:Disk) (e:Int):List AV:= [.d (.str d.data),.d (.sl 2 (d.cache.map putD)),.d (.int .i64 d.fuse),.d (.bool d.off),.d (.sl 1 (d.bad.map intD)),.d (.int .i64 e)]
attribute [go_sem] wkD zkU
theorem DiskF.play {d:Disk} (h:DiskF d) (p:Plan):DiskF (play d p).1:=DiskF.layL _ h
theorem zrF (d:Disk) (A:Int) (L:List Txt) (p:Plan) (hd:DiskF d) (hp:PlanOk p) (hl:p.targets.length=p.texts.length) (hn:L.length≤100) (h0:0≤A) (h1:A≤100):
  ACall Tryz.prog 98 6 [.vp 5 0,.asl 1 (zkU A L p)] [(5,.var (wkD d 0))] (fun r h'=>∃ob',h'= [(5,ob')]∧r= .tup []∧ob'= .var (wkD (runD (zbJ A L p) d).1 (runD (zbJ A L p) d).2)):=by
 refine bod Tryz.func98 Tryz.ntmps98 (fun base=>?_)
 refine' walkW fx (za za6 <| za zbU <| za zbT <| zb _)
 refine zy (fun q: { q:Nat×Disk // q.1≤4∧DiskF q.2∧runD (zbJ A L p) d=runD ((zbJ A L p).drop q.1) q.2 } =>⟨[(0,true,.vp 5 0),(6,true,.asl 1 (zkU A L p)),(7,true,.d (.int .i64 4)),(8,true,.d (.int .i64 q.1.1))],[(5,.var (wkD q.1.2 0))],some []⟩) (fun q=>4 - q.1.1) ⟨(0,d),Nat.zero_le _,hd,rfl⟩ le1 (fun q=>?_)
 obtain ⟨⟨k,x⟩,hk,hx,hr⟩:=q
 simp only at hk hx hr ⊢
 have hxo:=hx.ok
 have hxp:=hx.puts
 have h4:k=0∨k=1∨k=2∨k=3∨k=4:=by omega
 have hc0:((0:Nat):Int)=0:=rfl
 have hc1:((1:Nat):Int)=1:=rfl
 have hc2:((2:Nat):Int)=2:=rfl
 have hc3:((3:Nat):Int)=3:=rfl
 have hc4:((4:Nat):Int)=4:=rfl
 have ht1:Int.toNat 1=1:=rfl
 have ht2:Int.toNat 2=2:=rfl
 have ht3:Int.toNat 3=3:=rfl
 have hw1:IntKind.i64.wrap 1=1:=by decide
 have hw2:IntKind.i64.wrap 2=2:=by decide
 have hw3:IntKind.i64.wrap 3=3:=by decide
 have hw4:IntKind.i64.wrap 4=4:=by decide
 rcases h4 with rfl|rfl|rfl|rfl|rfl
 ·have hr':runD (zbJ A L p) d=if (dflush x).2≠0 then dflush x else runD ((zbJ A L p).drop 1) (dflush x).1:=hr
  have hxn:DiskF (dflush x).1:=hx.flush
  refine' walkW (zF hc0 hw1) (za za6 <| za zbU <| za zbT <| zb _)
  ·have hc:(dflush x).2≠0:=by simpa using hc
   rw [if_pos hc] at hr'
   exact ⟨_,rfl,by rw [hr']⟩
  ·have hc:(dflush x).2=0:=by simpa using hc
   rw [if_neg (by rw [hc];decide)] at hr'
   exact ⟨⟨(1,(dflush x).1),by show (_:Nat)≤4;omega,hxn,hr'⟩,by simp only [AS.le,leT,leH,zi,AsgK,AV.le,AV.leL,AObj.le,inH,idsT,idsH,AV.ids,AV.idsL,AV.idsR,AObj.ids,lk,hget,go_sem,aeq,aeq.aeqF,simprocAttr,hw1,hc]<;>and_intros<;>rfl,by simp⟩
 ·have hr':runD (zbJ A L p) d=if (layL x (numF A L)).2≠0 then layL x (numF A L) else runD ((zbJ A L p).drop 2) (layL x (numF A L)).1:=hr
  have hxn:DiskF (layL x (numF A L)).1:=DiskF.layL _ hx
  refine' walkW (zG hc1 hw2 ht1) (za za6 <| za zbU <| za zbT <| zb _)
  ·have hc:(layL x (numF A L)).2≠0:=by simpa using hc
   rw [if_pos hc] at hr'
   exact ⟨_,rfl,by rw [hr']⟩
  ·have hc:(layL x (numF A L)).2=0:=by simpa using hc
   rw [if_neg (by rw [hc];decide)] at hr'
   exact ⟨⟨(2,(layL x (numF A L)).1),by show (_:Nat)≤4;omega,hxn,hr'⟩,by simp only [AS.le,leT,leH,zi,AsgK,AV.le,AV.leL,AObj.le,inH,idsT,idsH,AV.ids,AV.idsL,AV.idsR,AObj.ids,lk,hget,go_sem,aeq,aeq.aeqF,simprocAttr,hw2,hc]<;>and_intros<;>rfl,by simp⟩
 ·have hr':runD (zbJ A L p) d=if (dflush x).2≠0 then dflush x else runD ((zbJ A L p).drop 3) (dflush x).1:=hr
  have hxn:DiskF (dflush x).1:=hx.flush
  refine' walkW (zG hc2 hw3 ht2) (za za6 <| za zbU <| za zbT <| zb _)
  ·have hc:(dflush x).2≠0:=by simpa using hc
   rw [if_pos hc] at hr'
   exact ⟨_,rfl,by rw [hr']⟩
  ·have hc:(dflush x).2=0:=by simpa using hc
   rw [if_neg (by rw [hc];decide)] at hr'
   exact ⟨⟨(3,(dflush x).1),by show (_:Nat)≤4;omega,hxn,hr'⟩,by simp only [AS.le,leT,leH,zi,AsgK,AV.le,AV.leL,AObj.le,inH,idsT,idsH,AV.ids,AV.idsL,AV.idsR,AObj.ids,lk,hget,go_sem,aeq,aeq.aeqF,simprocAttr,hw3,hc]<;>and_intros<;>rfl,by simp⟩
 ·have hr':runD (zbJ A L p) d=if (play x p).2≠0 then play x p else runD ((zbJ A L p).drop 4) (play x p).1:=hr
  have hxn:DiskF (play x p).1:=hx.play p
  refine' walkW (zG hc3 hw4 ht3) (za za6 <| za zbU <| za zbT <| zb _)
  ·have hc:(play x p).2≠0:=by simpa using hc
   rw [if_pos hc] at hr'
   exact ⟨_,rfl,by rw [hr']⟩
  ·have hc:(play x p).2=0:=by simpa using hc
   rw [if_neg (by rw [hc];decide)] at hr'
   exact ⟨⟨(4,(play x p).1),by show (_:Nat)≤4;omega,hxn,hr'⟩,by simp only [AS.le,leT,leH,zi,AsgK,AV.le,AV.leL,AObj.le,inH,idsT,idsH,AV.ids,AV.idsL,AV.idsR,AObj.ids,lk,hget,go_sem,aeq,aeq.aeqF,simprocAttr,hw4,hc]<;>and_intros<;>rfl,by simp⟩
 ·refine' walkW hc4 (za za6 <| za zbU <| za zbT <| zb _)
  have hr':runD (zbJ A L p) d=(x,0):=hr
  exact ⟨_,rfl,by rw [hr']⟩
theorem znJ (d:Disk) (A:Int) (L:List Txt) (p:Plan) (j:Jour):(if (dflush d).2≠0 then ((dflush d).1,j,(dflush d).2) else jtail (dflush d).1 j p L A)=(if (runD (zbJ (6+A) L p) d).2≠0 then ((runD (zbJ (6+A) L p) d).1,j,(runD (zbJ (6+A) L p) d).2) else ((runD (zbJ (6+A) L p) d).1,⟨j.seq+1,A+L.length⟩,0)):=by
 simp only [zbJ,runD,jtail]
 repeat' split
 all_goals simp_all
theorem zj4 (d:Disk) (j:Jour) (p:Plan) (hp:DiskF d∧pfit p=true∧0≤j.seq∧j.seq<18446744073709551616):AC 45 [diskA d,jourA j,planA p] (.tup [diskA (jcommit d j p).1,jourA (jcommit d j p).2.1,.d (.int .i64 (jcommit d j p).2.2)]):=by
 obtain ⟨hd,hf,h0,h1⟩:=hp
 refine fbod Tryz.func45 Tryz.ntmps45 (fun base=>?_)
 obtain ⟨hl,h24,h64⟩:=zaq hf
 have hpo:PlanOk p:=⟨by omega,by omega⟩
 have hdo:=hd.ok
 have hdp:=hd.puts
 by_cases hn:p.targets.length=0
 ·have hb:((p.targets.length:Int)==0)=true:=by rw [hn];rfl
  refine' walkW hb (za zbI <| za zcm <| za zb2 <| za zc0 <| za zc1 <| zb _)
  rw [jcommit,if_pos hn]
 have hb:((p.targets.length:Int)==0)=false:=by rw [beq_eq_false_iff_ne];omega
 by_cases hs:4611686018427387904≤j.seq
 ·have hb2:decide (4611686018427387904≤j.seq)=true:=decide_eq_true hs
  refine' walkW (zF hb hb2) (za zbI <| za zcm <| za zb2 <| za zc0 <| za zc1 <| zb _)
  rw [jcommit,if_neg hn,if_pos hs]
 have hb2:decide (4611686018427387904≤j.seq)=false:=decide_eq_false hs
 obtain ⟨htl,ht64⟩:=zha j.seq hf
 have hjr:=zg9 j.pos (zb1 j.seq p).length
 have hjc:jcommit d j p=if (dflush d).2≠0 then ((dflush d).1,j,(dflush d).2) else jtail (dflush d).1 j p (zb1 j.seq p) (zcJ j.pos (zb1 j.seq p).length):=by rw [jcommit,if_neg hn,if_neg hs]
 rw [znJ] at hjc
 obtain ⟨L,hL⟩:∃L,L=zb1 j.seq p:=⟨_,rfl⟩
 rw [← hL] at htl ht64 hjr hjc
 obtain ⟨A,hA⟩:∃A,A=zcJ j.pos L.length:=⟨_,rfl⟩
 rw [← hA] at hjr hjc
 have hw6:IntKind.i64.wrap (6+A)=6+A:=zh (by omega) (by omega)
 refine' zio (zbj 9) (zaJ hb hb2 hL.symm hA.symm) (za zbI <| za zcm <| za zb2 <| za zc0 <| za zc1 <| zb _)
 obtain ⟨X,hX⟩:∃X,X=runD (zbJ (6+A) L p) d:=⟨_,rfl⟩
 have hdo2:=zrF d (6+A) L p hd hpo hl (by omega) (by omega) (by omega)
 rw [← hX] at hdo2 hjc
 refine' zmM (ownsL [0]) hw6 (za zbI <| za zcm <| za zb2 <| za zc0 <| za zc1 <| zb _)
 refine (hdo2.one (fl':=0) rfl rfl (zR rfl) rfl (by simp [AObj.ids,AV.idsL,AV.ids,wkD]) (by simp [AV.idsL,AV.ids,AV.idsR,zkU]) (by omega)).mono ?_
 rintro r h' ⟨ob',⟨rfl,rfl⟩,rfl⟩
 have hws:IntKind.u64.wrap (j.seq+1)=j.seq+1:=zap (by omega) (by omega)
 have hwl:IntKind.i64.wrap (A+(L.length:Int))=A+L.length:=zh (by omega) (by omega)
 simp only [go_sem,aeq,aeq.aeqF,simprocAttr,wkD]
 refine hK _ ?_
 clear hK K
 refine' walkW (zF hws hwl) (za zbI <| za zcm <| za zb2 <| za zc0 <| za zc1 <| zb _)
 ·have hc:X.2≠0:=by simpa using hc
  rw [hjc,if_pos hc]
 ·have hc:¬X.2≠0:=by simpa using hc
  rw [hjc,if_neg hc]
@[go_sem] noncomputable def zh0:Ent Tryz.prog 45:= .m3 zq zhO zA zj4
open Go Go.Proofs
structure Geom where
 guest:Int
 host:Int
 deriving DecidableEq
def geomA (g:Geom):AV:= .agg [.d (.int .i64 g.guest),.d (.int .i64 g.host)]
attribute [go_sem] geomA
theorem zoZ (g:Geom):Geom.mk g.guest g.host=g:=rfl
noncomputable def zcQ:PT Geom:=aggT (consL (intT .i64) (consL (intT .i64) nilL)) (fun p=>⟨p.1,p.2.1⟩) (fun x=>(x.guest,x.host,())) (fun _=>rfl)
attribute [go_sem] zcQ
attribute [go_sem] zoZ
structure DP (d:Disk) (p:Plan):Prop where
 d:DiskF d
 p:pfit p=true
def p0:Plan:=⟨[],[]⟩
theorem zee:pfit p0=true:=rfl
theorem DP.zero {d:Disk} {p:Plan} (h:DP d p):DP d p0:=⟨h.d,zee⟩
theorem DP.dok {d:Disk} {p:Plan} (h:DP d p):DiskOk d:=h.d.ok
theorem DP.puts {d:Disk} {p:Plan} (h:DP d p):d.cache.all (putOk d)=true:=h.d.puts
theorem DP.pok {d:Disk} {p:Plan} (h:DP d p):PlanOk p:=by
 obtain ⟨hl,h24,_⟩:=zaq h.p
 exact ⟨by omega,by omega⟩
theorem DP.plen {d:Disk} {p:Plan} (h:DP d p):p.targets.length=p.texts.length:=(zaq h.p).1
theorem zhR {d:Disk} {at_:Int} (hf:d.cache.all (putOk d)=true) (he:(dread d at_).2=0):(dread d at_).1.length=64:=by
 unfold dread at he ⊢
 repeat' split
 all_goals first|(simp_all;done)|skip
 exact zkC hf (by simp_all)
theorem zdm {d:Disk} {p:Plan} {at_:Int} (h:DP d p) (he:(plook d p at_).2=0):(plook d p at_).1.length=64:=by
 unfold plook at he ⊢
 rcases zbP p.targets at_ with hk|⟨k,hk,hkl⟩
 ·rw [if_neg (by omega)] at he ⊢
  exact zhR h.puts he
 ·rw [if_pos (by omega),hk,Int.toNat_natCast]
  obtain ⟨s,hq⟩:=zaA (l:=p.texts) (i:=k) (by have:=h.plen;omega)
  rw [List.getD_eq_getElem?_getD,hq]
  exact (zaq h.p).2.2 s (List.mem_of_getElem? hq)
def zH (k:Int):Bool:=decide (0≤k)&&decide (k<256)
def rget (d:Disk) (p:Plan) (k:Int):Int×Int:=
 if !zH k then (0,10) else if (plook d p (87+k / 32)).2≠0 then (0,(plook d p (87+k / 32)).2)
 else (((takeN (((plook d p (87+k / 32)).1.drop (2*(k % 32)).toNat).take 2):Nat):Int),0)
def radd (d:Disk) (p:Plan) (k by_:Int):Plan×Int:=
 if (rget d p k).2≠0 then (p,(rget d p k).2) else if by_< -(rget d p k).1∨65535 - (rget d p k).1<by_ then (p,18)
 else zec d p (87+k / 32) (2*(k % 32)) (putN ((rget d p k).1+by_).toNat 2)
def zdG (d:Disk) (p:Plan):Nat→Int→Int×Int
 |0,_=>(0,17)
 |m+1,k=>if (rget d p k).2≠0 then (0,(rget d p k).2) else if (rget d p0 k).2≠0 then (0,(rget d p0 k).2)
  else if (rget d p k).1=0∧(rget d p0 k).1=0 then (k,0) else zdG d p m (k+1)
def rfind (d:Disk) (p:Plan) (g:Geom):Int×Int:=zdG d p g.host.toNat 0
def rtake (d:Disk) (p:Plan) (g:Geom):Plan×Int×Int:=
 if (rfind d p g).2≠0 then (p,0,(rfind d p g).2) else if (radd d p (rfind d p g).1 1).2≠0 then (p,0,(radd d p (rfind d p g).1 1).2)
 else ((radd d p (rfind d p g).1 1).1,(rfind d p g).1,0)
theorem zd3 (d:Disk) (p:Plan) (k:Int):0≤(rget d p k).1∧(rget d p k).1≤65535:=by
 unfold rget
 split
 ·exact ⟨Int.le_refl 0,show (0:Int)≤65535 by decide⟩
 split
 ·exact ⟨Int.le_refl 0,show (0:Int)≤65535 by decide⟩
 ·have:=zcG (l:=((plook d p (87+k / 32)).1.drop (2*(k % 32)).toNat).take 2) (i:=2) (by rw [List.length_take];omega)
  simp only
  omega
theorem zkL {d:Disk} {p:Plan} {k by_:Int} (h:pfit p=true):pfit (radd d p k by_).1=true:=by
 unfold radd
 split
 ·exact h
 split
 ·exact h
 ·exact zg6 h
theorem DP.radd {d:Disk} {p:Plan} (h:DP d p) (k by_:Int):DP d (radd d p k by_).1:=⟨h.d,zkL h.p⟩
theorem DP.rtake {d:Disk} {p:Plan} (h:DP d p) (g:Geom):DP d (rtake d p g).1:=by
 unfold Aw.rtake
 split
 ·exact h
 split
 ·exact h
 ·exact h.radd _ _
theorem hostOk_iff {k:Int} :zH k=true↔0≤k∧k<256:=by simp [zH]
theorem zby (k:Int):(decide (k<0)||decide (256≤k))= !zH k:=by
 rw [zH,Bool.not_and]
 congr 1
 ·by_cases h:k<0
  ·rw [decide_eq_true h,decide_eq_false (by omega)];rfl
  ·rw [decide_eq_false h,decide_eq_true (by omega)];rfl
 ·by_cases h:k<256
  ·rw [decide_eq_true h,decide_eq_false (by omega)];rfl
  ·rw [decide_eq_false h,decide_eq_true (by omega)];rfl
theorem zdH {s:Txt} {z:Int} (n:Nat) (hz:z=n) (h0:0<n) (h8:n≤8) (h:n≤s.length):takeS s z=(((takeN (s.take n):Nat):Int),s.drop n,0):=by
 subst hz
 rw [takeS,if_neg (by omega),if_neg (by omega)]
 simp
theorem zo0 (d:Disk) (p:Plan) (k:Int) (h:DP d p):AC 39 [diskA d,planA p,.d (.int .i64 k)] (.tup [.d (.int .i64 (rget d p k).1),.d (.int .i64 (rget d p k).2)]):=by
 refine bod Tryz.func39 Tryz.ntmps39 (fun base=>?_)
 have h1:=h.dok
 have h2:=h.pok
 have h3:=h.plen
 by_cases hk:zH k=true
 ·have hdec:(!zH k)=false:=by rw [hk];rfl
  obtain ⟨hk0,hk1⟩:=hostOk_iff.1 hk
  by_cases he:(plook d p (87+k / 32)).2=0
  ·have hb:((plook d p (87+k / 32)).2 !=0)=false:=by simpa using he
   have h64:=zdm h he
   have hts:=zdH (s:=((plook d p (87+k / 32)).1.drop (2*(k % 32)).toNat)) (z:=2) 2 rfl (by omega) (by omega) (by rw [List.length_drop];omega)
   have hr:=zd3 d p k
   have hrg:rget d p k=(((takeN (((plook d p (87+k / 32)).1.drop (2*(k % 32)).toNat).take 2):Nat):Int),0):=by
    rw [rget,if_neg (by rw [hdec];exact Bool.false_ne_true),if_neg (by simpa using he)]
   have hwr:IntKind.i64.wrap (rget d p k).1=(rget d p k).1:=zh (by omega) (by omega)
   rw [hrg] at hwr
   simp only at hwr
   have hld:((plook d p (87+k / 32)).1.drop (2*(k % 32)).toNat).length≤64:=by rw [List.length_drop];omega
   have htk:List.take (plook d p (87+k / 32)).1.length (plook d p (87+k / 32)).1=(plook d p (87+k / 32)).1:=List.take_length
   refine' walkW (zaa @zby hdec hb hts hwr htk) (za zcj <| za zJ <| za zaw <| zb _)
   rw [hrg]
  ·have hb:((plook d p (87+k / 32)).2 !=0)=true:=by simpa using he
   refine' walkW (zG @zby hdec hb) (za zcj <| za zJ <| za zaw <| zb _)
   rw [rget,if_neg (by rw [hdec];exact Bool.false_ne_true),if_pos he]
 ·have hdec:(!zH k)=true:=by simpa using hk
  refine' walkW (zF @zby hdec) (za zcj <| za zJ <| za zaw <| zb _)
  rw [rget,if_pos hdec]
@[go_sem] noncomputable def zM:Ent Tryz.prog 39:= .m3 zq zA (intT .i64) zo0
theorem zkM {x:Int} :putS8 x 2=putN x.toNat 2:=by rw [putS8,if_neg (by omega)];rfl
theorem znq {x:Int} :putS8 x 4=putN x.toNat 4:=by rw [putS8,if_neg (by omega)];rfl
theorem zrE {x:Int} :putS8 x 8=putN x.toNat 8:=by rw [putS8,if_neg (by omega)];rfl
theorem zjI {d:Disk} {p:Plan} {k:Int} (h:(rget d p k).2=0):0≤k∧k<256:=by
 unfold rget at h
 by_cases hk:zH k=true
 ·exact hostOk_iff.1 hk
 ·rw [if_pos (by simpa using hk)] at h
  cases h
theorem zo1 (d:Disk) (p:Plan) (k by_:Int) (h:DP d p):AC 66 [diskA d,planA p,.d (.int .i64 k),.d (.int .i64 by_)] (.tup [planA (radd d p k by_).1,.d (.int .i64 (radd d p k by_).2)]):=by
 refine fbod Tryz.func66 Tryz.ntmps66 (fun base=>?_)
 have h1:=h.dok
 have h2:=h.puts
 have h3:=h.p
 have hr:=zd3 d p k
 by_cases he:(rget d p k).2=0
 ·have hb:((rget d p k).2 !=0)=false:=by simpa using he
  obtain ⟨hk0,hk1⟩:=zjI he
  have hw1:IntKind.i64.wrap (0 - (rget d p k).1)= -(rget d p k).1:=by rw [zh (by omega) (by omega)];omega
  have hw2:IntKind.i64.wrap (65535 - (rget d p k).1)=65535 - (rget d p k).1:=zh (by omega) (by omega)
  by_cases hc:by_< -(rget d p k).1∨65535 - (rget d p k).1<by_
  ·have hdec:(decide (by_< -(rget d p k).1)||decide (65535 - (rget d p k).1<by_))=true:=by simpa using hc
   refine' walkW (zaJ hb hw1 hw2 hdec) (za zM <| za zcj <| za zaL <| za zaD <| zb _)
   rw [radd,if_neg (by simpa using he),if_pos hc]
  ·have hdec:(decide (by_< -(rget d p k).1)||decide (65535 - (rget d p k).1<by_))=false:=by simpa using hc
   have hw3:IntKind.i64.wrap ((rget d p k).1+by_)=(rget d p k).1+by_:=zh (by omega) (by omega)
   have hw4:IntKind.u64.wrap ((rget d p k).1+by_)=(rget d p k).1+by_:=zap (by omega) (by omega)
   have hpl:=zac ((rget d p k).1+by_).toNat 2
   refine' walkW (zaa hb hw1 hw2 hw3 hw4 (zF hdec @zkM)) (za zM <| za zcj <| za zaL <| za zaD <| zb _)
   all_goals first|(rw [hpl];decide)|skip
   rw [radd,if_neg (by simpa using he),if_neg hc]
 ·have hb:((rget d p k).2 !=0)=true:=by simpa using he
  refine' walkW hb (za zM <| za zcj <| za zaL <| za zaD <| zb _)
  rw [radd,if_pos he]
@[go_sem] noncomputable def zba:Ent Tryz.prog 66:= .m4 zq zA (intT .i64) (intT .i64) zo1
theorem zhb:∀ (d:Disk) (p:Plan) (m:Nat) (k:Int),(zdG d p m k).2=0→(0≤(zdG d p m k).1∧(zdG d p m k).1<256)
 |d,p,0,k,h=>by simp [zdG] at h
 | d,p,m+1,k,h=>by
  rw [zdG] at h ⊢
  split at h
  ·rename_i hc;exact absurd h hc
  rename_i hc0
  rw [if_neg hc0]
  split at h
  ·rename_i hc;exact absurd h hc
  rename_i hc1
  rw [if_neg hc1]
  split at h
  ·rename_i hc
   rw [if_pos hc]
   exact zjI (by simpa using hc0)
  ·rename_i hc
   rw [if_neg hc]
   exact zhb d p m (k+1) h
theorem znr (d:Disk) (p:Plan) (g:Geom) (hp:DP d p∧g.host≤1000000):AC 89 [diskA d,planA p,geomA g] (.tup [.d (.int .i64 (rfind d p g).1),.d (.int .i64 (rfind d p g).2)]):=by
 obtain ⟨h,hg⟩:=hp
 refine fbod Tryz.func89 Tryz.ntmps89 (fun base=>?_)
 have hz:=h.zero
 have hz0:p0=Plan.mk [] []:=rfl
 rw [hz0] at hz
 refine' walkW fx (za zM <| za zba <| zb _)
 refine zy (fun q: { i:Nat // (i:Int)≤max g.host 0∧rfind d p g=zdG d p (g.host.toNat - i) i } =>⟨[(3,true,.vp 0 0),(4,true,.vp 1 0),(5,true,.vp 2 0),(8,true,.d (.int .i64 q.1))],[(2,.var [.d (.int .i64 g.guest),.d (.int .i64 g.host)]),(1,.var [.d (.sl 1 (p.targets.map intD)),.d (.sl 1 (p.texts.map strD))]),(0,(.var [.d (.str d.data),.d (.sl 2 (d.cache.map putD)),.d (.int .i64 d.fuse),.d (.bool d.off),.d (.sl 1 (d.bad.map intD))]))],some []⟩) (fun q=>g.host.toNat - q.1) ⟨0,by omega,rfl⟩ le1 (fun q=>?_)
 obtain ⟨i,hi,hf⟩:=q
 simp only at hi hf ⊢
 by_cases hlt:(i:Int)<g.host
 ·have hcmp:decide ((i:Int)<g.host)=true:=decide_eq_true hlt
  have hwi:=zE (i:=i) (by omega)
  rw [show g.host.toNat - i=(g.host.toNat - (i+1))+1 by omega,zdG,hz0] at hf
  refine' walkW hcmp (za zM <| za zba <| zb _)
  all_goals first|(simp_all;done)|skip
  rename_i c0 c1
  have c0:¬(rget d p i).2≠0:=by simpa using c0
  have c1:¬(rget d ⟨[],[]⟩ i).2≠0:=by simpa using c1
  have c2:¬((rget d p i).1=0∧(rget d ⟨[],[]⟩ i).1=0):=by simpa using hc
  rw [if_neg c0,if_neg c1,if_neg c2] at hf
  exact ⟨⟨i+1,by omega,hf⟩,lew,by simp;omega⟩
 ·have hcmp:decide ((i:Int)<g.host)=false:=decide_eq_false hlt
  refine' walkW hcmp (za zM <| za zba <| zb _)
  rw [hf,show g.host.toNat - i=0 by omega]
  rfl
@[go_sem] noncomputable def zjJ:Ent Tryz.prog 89:= .m3 zq zA zcQ znr
theorem zns (d:Disk) (p:Plan) (g:Geom) (hp:DP d p∧g.host≤1000000):AC 41 [diskA d,planA p,geomA g] (.tup [planA (rtake d p g).1,.d (.int .i64 (rtake d p g).2.1),.d (.int .i64 (rtake d p g).2.2)]):=by
 obtain ⟨h,hg⟩:=hp
 refine fbod Tryz.func41 Tryz.ntmps41 (fun base=>?_)
 refine' walkW fx (za zjJ <| za zba <| zb _)
 all_goals simp_all [rtake]
@[go_sem] noncomputable def zad:Ent Tryz.prog 41:= .m3 zq zA zcQ zns
open Go Go.Proofs
theorem znR (d:Disk) (p:Plan) (k:Int) (h:DP d p):AC 87 [diskA d,planA p,.d (.int .i64 k)] (.tup [.d (.int .i64 (rget d p k).1),.d (.int .i64 (rget d p k).2)]):=by
 refine bod Tryz.func87 Tryz.ntmps87 (fun base=>?_)
 have h1:=h.dok
 have h2:=h.pok
 have h3:=h.plen
 by_cases hk:zH k=true
 ·have hdec:(!zH k)=false:=by rw [hk];rfl
  obtain ⟨hk0,hk1⟩:=hostOk_iff.1 hk
  by_cases he:(plook d p (87+k / 32)).2=0
  ·have hb:((plook d p (87+k / 32)).2 !=0)=false:=by simpa using he
   have h64:=zdm h he
   have hts:=zdH (s:=((plook d p (87+k / 32)).1.drop (2*(k % 32)).toNat)) (z:=2) 2 rfl (by omega) (by omega) (by rw [List.length_drop];omega)
   have hr:=zd3 d p k
   have hrg:rget d p k=(((takeN (((plook d p (87+k / 32)).1.drop (2*(k % 32)).toNat).take 2):Nat):Int),0):=by
    rw [rget,if_neg (by rw [hdec];exact Bool.false_ne_true),if_neg (by simpa using he)]
   have hwr:IntKind.i64.wrap (rget d p k).1=(rget d p k).1:=zh (by omega) (by omega)
   rw [hrg] at hwr
   simp only at hwr
   have hld:((plook d p (87+k / 32)).1.drop (2*(k % 32)).toNat).length≤64:=by rw [List.length_drop];omega
   have htk:List.take (plook d p (87+k / 32)).1.length (plook d p (87+k / 32)).1=(plook d p (87+k / 32)).1:=List.take_length
   refine' walkW (zaa @zby hdec hb hts hwr htk) (za zdY <| za zak <| za zbl <| zb _)
   rw [hrg]
  ·have hb:((plook d p (87+k / 32)).2 !=0)=true:=by simpa using he
   refine' walkW (zG @zby hdec hb) (za zdY <| za zak <| za zbl <| zb _)
   rw [rget,if_neg (by rw [hdec];exact Bool.false_ne_true),if_pos he]
 ·have hdec:(!zH k)=true:=by simpa using hk
  refine' walkW (zF @zby hdec) (za zdY <| za zak <| za zbl <| zb _)
  rw [rget,if_pos hdec]
@[go_sem] noncomputable def zj:Ent Tryz.prog 87:= .m3 zq zA (intT .i64) znR
theorem znS (d:Disk) (p:Plan) (k by_:Int) (h:DP d p):AC 135 [diskA d,planA p,.d (.int .i64 k),.d (.int .i64 by_)] (.tup [planA (radd d p k by_).1,.d (.int .i64 (radd d p k by_).2)]):=by
 refine fbod Tryz.func135 Tryz.ntmps135 (fun base=>?_)
 have h1:=h.dok
 have h2:=h.puts
 have h3:=h.p
 have hr:=zd3 d p k
 by_cases he:(rget d p k).2=0
 ·have hb:((rget d p k).2 !=0)=false:=by simpa using he
  obtain ⟨hk0,hk1⟩:=zjI he
  have hw1:IntKind.i64.wrap (0 - (rget d p k).1)= -(rget d p k).1:=by rw [zh (by omega) (by omega)];omega
  have hw2:IntKind.i64.wrap (65535 - (rget d p k).1)=65535 - (rget d p k).1:=zh (by omega) (by omega)
  by_cases hc:by_< -(rget d p k).1∨65535 - (rget d p k).1<by_
  ·have hdec:(decide (by_< -(rget d p k).1)||decide (65535 - (rget d p k).1<by_))=true:=by simpa using hc
   refine' walkW (zaJ hb hw1 hw2 hdec) (za zj <| za zdY <| za zcI <| za zaS <| zb _)
   rw [radd,if_neg (by simpa using he),if_pos hc]
  ·have hdec:(decide (by_< -(rget d p k).1)||decide (65535 - (rget d p k).1<by_))=false:=by simpa using hc
   have hw3:IntKind.i64.wrap ((rget d p k).1+by_)=(rget d p k).1+by_:=zh (by omega) (by omega)
   have hw4:IntKind.u64.wrap ((rget d p k).1+by_)=(rget d p k).1+by_:=zap (by omega) (by omega)
   have hpl:=zac ((rget d p k).1+by_).toNat 2
   refine' walkW (zaa hb hw1 hw2 hw3 hw4 (zF hdec @zkM)) (za zj <| za zdY <| za zcI <| za zaS <| zb _)
   all_goals first|(rw [hpl];decide)|skip
   rw [radd,if_neg (by simpa using he),if_neg hc]
 ·have hb:((rget d p k).2 !=0)=true:=by simpa using he
  refine' walkW hb (za zj <| za zdY <| za zcI <| za zaS <| zb _)
  rw [radd,if_pos he]
@[go_sem] noncomputable def zaU:Ent Tryz.prog 135:= .m4 zq zA (intT .i64) (intT .i64) znS
def freeL (d:Disk) (p:Plan):Nat→Int→List (Int×Int)
 |0,_=> []
 |m+1,k=>if (rget d p k).2≠0 then [(0,(rget d p k).2)] else if (rget d p0 k).2≠0 then [(0,(rget d p0 k).2)]
  else if (rget d p k).1=0∧(rget d p0 k).1=0 then (k,0)::freeL d p m (k+1) else freeL d p m (k+1)
theorem zgo (d:Disk) (p:Plan):∀ (m:Nat) (k:Int),zdG d p m k=(freeL d p m k).headD (0,17)
 |0,k=>rfl
 |m+1,k=>by
  rw [zdG,freeL]
  repeat' split
  all_goals first|rfl|exact zgo d p m (k+1)
def freeI (q:Int×Int):List AV:= [.d (.int .i64 q.1),.d (.int .i64 q.2)]
def geomC (g:Geom):List AV:= [.d (.int .i64 g.guest),.d (.int .i64 g.host)]
attribute [go_sem] geomC
theorem zpl (d:Disk) (p:Plan) (g:Geom) (_:True):AC 166 [diskA d,planA p,geomA g] (.fn (.func 189) [] [.dp (geomC g),.dp (planC p),.dp (diskC d)]):=by
 refine fbod Tryz.func166 Tryz.ntmps166 (fun base=>?_)
 refine' zc fx
@[go_sem] noncomputable def zd6:Ent Tryz.prog 166:= .m3 zq zA zcQ zpl
abbrev Fst (d:Disk) (p:Plan) (g:Geom):= { q:Nat×List (List AV) // (q.1:Int)≤max g.host 0∧q.2++(freeL d p (g.host.toNat - q.1) q.1).map freeI=(freeL d p g.host.toNat 0).map freeI }
theorem zj7 (d:Disk) (p:Plan) (g:Geom) (h:DP d p) (hg:g.host≤1000000):AIter Tryz.prog 189 100 [] [.dp [.d (.int .i64 g.guest),.d (.int .i64 g.host)],.dp [.d (.sl 1 (p.targets.map intD)),.d (.sl 1 (p.texts.map strD))],.dp [.d (.str d.data),.d (.sl 2 (d.cache.map putD)),.d (.int .i64 d.fuse),.d (.bool d.off),.d (.sl 1 (d.bad.map intD))]] [] ((freeL d p g.host.toNat 0).map freeI) (fun gg h'=>(∀xs,gg=some xs→xs=(freeL d p g.host.toNat 0).map freeI)∧h'= []):=by
 refine itr Tryz.func189 Tryz.ntmps189 (fun base y=>?_)
 refine zf1 ?_
 refine' zaK fx
 have hz:=h.zero
 have hz0:p0=Plan.mk [] []:=rfl
 rw [hz0] at hz
 refine zy (fun q:Fst d p g=>⟨[(0,true,.fn (.yield y.yl) [] []),(1,true,.dp [.d (.int .i64 g.guest),.d (.int .i64 g.host)]),(2,true,.dp [.d (.sl 1 (p.targets.map intD)),.d (.sl 1 (p.texts.map strD))]),(3,true,.dp [.d (.str d.data),.d (.sl 2 (d.cache.map putD)),.d (.int .i64 d.fuse),.d (.bool d.off),.d (.sl 1 (d.bad.map intD))]),(12,true,.d (.int .i64 g.host)),(13,true,.d (.int .i64 q.1.1))],[],some q.1.2⟩) (fun q=>g.host.toNat - q.1.1) ⟨(0,[]),by show (_:Int)≤_;omega,rfl⟩ le1 (fun q=>?_)
 obtain ⟨⟨i,xs⟩,hi,hf⟩:=q
 simp only at hi hf ⊢
 by_cases hlt:(i:Int)<g.host
 ·have hcmp:decide ((i:Int)<g.host)=true:=decide_eq_true hlt
  have hwi:=zE (i:=i) (by omega)
  rw [show g.host.toNat - i=(g.host.toNat - (i+1))+1 by omega,freeL,hz0] at hf
  have hr1:=zd3 d p i
  have hr2:=zd3 d ⟨[],[]⟩ i
  refine' walkX hcmp (za zj <| zb _)
  refine zy (fun r: { r:Nat×Int // (r.1=0∧r.2=0)∨(r.1=1∧(rget d p i).2=0∧r.2=(rget d p i).1)∨(r.1=2∧(rget d p i).2=0∧(rget d ⟨[],[]⟩ i).2=0∧r.2=(rget d p i).1+(rget d ⟨[],[]⟩ i).1) } =>⟨[(0,true,.fn (.yield y.yl) [] []),(1,true,.dp [.d (.int .i64 g.guest),.d (.int .i64 g.host)]),(2,true,.dp [.d (.sl 1 (p.targets.map intD)),.d (.sl 1 (p.texts.map strD))]),(3,true,.dp [.d (.str d.data),.d (.sl 2 (d.cache.map putD)),.d (.int .i64 d.fuse),.d (.bool d.off),.d (.sl 1 (d.bad.map intD))]),(5,true,.d (.int .i64 i)),(6,true,.d (.int .i64 r.1.2)),(12,true,.d (.int .i64 g.host)),(13,true,.d (.int .i64 i)),(18,true,.osl 100 2 2 0 2),(19,true,.d (.int .i64 2)),(20,true,.d (.int .i64 r.1.1))],[(100,.arr 2 [[.sl 1 (p.targets.map intD),.sl 1 (p.texts.map strD)],[.sl 1 [],.sl 1 []]])],some xs⟩) (fun r=>2 - r.1.1) ⟨(0,0),.inl ⟨rfl,rfl⟩⟩ le1 (fun r=>?_)
  obtain ⟨⟨j,n⟩,hj⟩:=r
  simp only at hj ⊢
  have hc0:((0:Nat):Int)=0:=rfl
  have hc1:((1:Nat):Int)=1:=rfl
  have hc2:((2:Nat):Int)=2:=rfl
  have ht1:Int.toNat 1=1:=rfl
  have hw1:IntKind.i64.wrap 1=1:=by decide
  have hw2:IntKind.i64.wrap 2=2:=by decide
  rcases hj with ⟨rfl,rfl⟩|⟨rfl,he1,rfl⟩|⟨rfl,he1,he2,rfl⟩
  ·by_cases he:(rget d p i).2=0
   ·have hb:((rget d p i).2 !=0)=false:=by simpa using he
    have hwn:IntKind.i64.wrap (0+(rget d p i).1)=(rget d p i).1:=by rw [Int.zero_add];exact zh (by omega) (by omega)
    refine' walkX (zG hc0 hb hwn) (za zj <| zb _)
    exact ⟨⟨(1,(rget d p i).1),.inr (.inl ⟨rfl,he,rfl⟩)⟩,by simp only [AS.le,leT,leH,zi,AsgK,AV.le,AV.leL,AObj.le,inH,idsT,idsH,AV.ids,AV.idsL,AV.idsR,AObj.ids,lk,hget,go_sem,aeq,aeq.aeqF,simprocAttr,hw1]<;>and_intros<;>rfl,by simp⟩
   ·have hb:((rget d p i).2 !=0)=true:=by simpa using he
    rw [if_pos (by simpa using he)] at hf
    have hpr:(xs++ [[.d (.int .i64 0),.d (.int .i64 (rget d p i).2)]])<+:(freeL d p g.host.toNat 0).map freeI:=⟨[],by rw [← hf];simp [freeI]⟩
    refine' walkX (zF hc0 hb) (za zj <| zb _)
    rintro zs rfl
    rw [← hf]
    simp [freeI]
  ·by_cases he:(rget d ⟨[],[]⟩ i).2=0
   ·have hb:((rget d ⟨[],[]⟩ i).2 !=0)=false:=by simpa using he
    have hwn:IntKind.i64.wrap ((rget d p i).1+(rget d ⟨[],[]⟩ i).1)=(rget d p i).1+(rget d ⟨[],[]⟩ i).1:=zh (by omega) (by omega)
    refine' walkX (zaJ hc1 ht1 hb hwn) (za zj <| zb _)
    exact ⟨⟨(2,(rget d p i).1+(rget d ⟨[],[]⟩ i).1),.inr (.inr ⟨rfl,he1,he,rfl⟩)⟩,by simp only [AS.le,leT,leH,zi,AsgK,AV.le,AV.leL,AObj.le,inH,idsT,idsH,AV.ids,AV.idsL,AV.idsR,AObj.ids,lk,hget,go_sem,aeq,aeq.aeqF,simprocAttr,hw2]<;>and_intros<;>rfl,by simp⟩
   ·have hb:((rget d ⟨[],[]⟩ i).2 !=0)=true:=by simpa using he
    rw [if_neg (by rw [he1];decide),if_pos (by simpa using he)] at hf
    have hpr:(xs++ [[.d (.int .i64 0),.d (.int .i64 (rget d ⟨[],[]⟩ i).2)]])<+:(freeL d p g.host.toNat 0).map freeI:=⟨[],by rw [← hf];simp [freeI]⟩
    refine' walkX (zG hc1 ht1 hb) (za zj <| zb _)
    rintro zs rfl
    rw [← hf]
    simp [freeI]
  ·rw [if_neg (by rw [he1];decide),if_neg (by rw [he2];decide)] at hf
   by_cases hz1:(rget d p i).1=0∧(rget d ⟨[],[]⟩ i).1=0
   ·have hb:((rget d p i).1+(rget d ⟨[],[]⟩ i).1==0)=true:=by rw [beq_iff_eq];omega
    rw [if_pos hz1] at hf
    have hpr:(xs++ [[.d (.int .i64 i),.d (.int .i64 0)]])<+:(freeL d p g.host.toNat 0).map freeI:=⟨(freeL d p (g.host.toNat - (i+1)) (i+1)).map freeI,by rw [← hf];simp [freeI]⟩
    refine' walkX (zF hc2 hb) (za zj <| zb _)
    exact ⟨⟨(i+1,xs++ [freeI (i,0)]),by show ((i+1:Nat):Int)≤_;omega,by rw [← hf];simp [freeI]⟩,by simp only [AS.le,leT,leH,zi,AsgK,AV.le,AV.leL,AObj.le,inH,idsT,idsH,AV.ids,AV.idsL,AV.idsR,AObj.ids,lk,hget,go_sem,aeq,aeq.aeqF,simprocAttr,hwi,freeI],by simp;omega⟩
   ·have hb:((rget d p i).1+(rget d ⟨[],[]⟩ i).1==0)=false:=by rw [beq_eq_false_iff_ne];omega
    rw [if_neg hz1] at hf
    refine' walkX (zF hc2 hb) (za zj <| zb _)
    exact ⟨⟨(i+1,xs),by show ((i+1:Nat):Int)≤_;omega,by rw [← hf];simp⟩,lew,by simp;omega⟩
 ·have hcmp:decide ((i:Int)<g.host)=false:=decide_eq_false hlt
  refine' walkX hcmp (za zj <| zb _)
  rintro zs rfl
  rw [← hf,show g.host.toNat - i=0 by omega]
  simp [freeL]
theorem zpm (d:Disk) (p:Plan) (g:Geom) (hp:DP d p∧g.host≤1000000):AC 134 [diskA d,planA p,geomA g] (.tup [.d (.int .i64 (rfind d p g).1),.d (.int .i64 (rfind d p g).2)]):=by
 obtain ⟨h,hg⟩:=hp
 refine fbod Tryz.func134 Tryz.ntmps134 (fun base=>?_)
 refine' walkR fx (za zd6 <| zb _)
 have hrf:rfind d p g=(freeL d p g.host.toNat 0).headD (0,17):=zgo d p _ _
 obtain ⟨I,hI⟩:∃I:List (List AV)→AHeap×Option (List (List AV)),I=fun xs=>([(4,.var [.d (.int .i64 17)]),(3,.var [.d (.int .i64 0)]),(2,.var [.d (.int .i64 g.guest),.d (.int .i64 g.host)]),(1,(.var [.d (.sl 1 (p.targets.map intD)),.d (.sl 1 (p.texts.map strD))])),(0,(.var [.d (.str d.data),.d (.sl 2 (d.cache.map putD)),.d (.int .i64 d.fuse),.d (.bool d.off),.d (.sl 1 (d.bad.map intD))]))],some []):=⟨_,rfl⟩
 obtain ⟨G,hG⟩:∃G:List (List AV)→Prop,G=fun xs=>(xs≠ []→False):=⟨_,rfl⟩
 obtain ⟨J,hJ⟩:∃J:Code→AHeap→Option (List (List AV))→Prop,J=fun c h gg=>c= .exit 0∧gg=some []∧h= [(4,.var [.d (.int .i64 (rfind d p g).2)]),(3,.var [.d (.int .i64 (rfind d p g).1)]),(2,.var [.d (.int .i64 g.guest),.d (.int .i64 g.host)]),(1,(.var [.d (.sl 1 (p.targets.map intD)),.d (.sl 1 (p.texts.map strD))])),(0,(.var [.d (.str d.data),.d (.sl 2 (d.cache.map putD)),.d (.int .i64 d.fuse),.d (.bool d.off),.d (.sl 1 (d.bad.map intD))]))]:=⟨_,rfl⟩
 refine zbk 100 G I J (zj7 d p g h hg) (by simp only [go_sem,aeq,aeq.aeqF,simprocAttr]) rfl (zR rfl) (by simp [cxOf,cxY]) rfl (by rw [hG];first|trivial|rfl|simp) (by rw [hI];simp only [AS.le,leT,leH,zi,AsgK,AV.le,AV.leL,AObj.le,inH,idsT,idsH,AV.ids,AV.idsL,AV.idsR,AObj.ids,lk,hget,go_sem,aeq,aeq.aeqF,simprocAttr]<;>simp [AV.leL,AV.le]) (by rw [hI];simp only [AS.le,leT,leH,zi,AsgK,AV.le,AV.leL,AObj.le,inH,idsT,idsH,AV.ids,AV.idsL,AV.idsR,AObj.ids,lk,hget,go_sem,aeq,aeq.aeqF,simprocAttr]<;>simp) (by rw [hI]<;>rfl) (by intro x hx;obtain ⟨q,_,rfl⟩:=List.mem_map.1 hx;rfl) (by intro t ht;simp at ht;first|(rcases ht with rfl|rfl<;>simp [cxOf,cxY]<;>done)|(subst ht;simp [cxOf,cxY])) ?_ ?_ ?_
 ·intro xs x hpre hgd l1 r1
  rw [hG] at hgd
  obtain rfl:xs= []:=Classical.byContradiction hgd
  obtain ⟨ys,⟨a,e⟩,zs,hys,rfl,hzl⟩:=zdg hpre
  have hys0:ys= []:=by cases ys with|nil=>rfl|cons q r=>simp at hys
  subst hys0
  have hfe:rfind d p g=(a,e):=by rw [hrf,hzl];rfl
  simp only [freeI]
  refine aw_le ⟨[(14,true,.d (.int .i64 a)),(15,true,.d (.int .i64 e)),(8,true,.vp 3 0),(9,true,.vp 4 0)],[(4,.var [.d (.int .i64 17)]),(3,.var [.d (.int .i64 0)]),(2,.var [.d (.int .i64 g.guest),.d (.int .i64 g.host)]),(1,(.var [.d (.sl 1 (p.targets.map intD)),.d (.sl 1 (p.texts.map strD))])),(0,(.var [.d (.str d.data),.d (.sl 2 (d.cache.map putD)),.d (.int .i64 d.fuse),.d (.bool d.off),.d (.sl 1 (d.bad.map intD))]))],some []⟩ (by rw [hI];simp only [AS.le,leT,leH,zi,AsgK,AV.le,AV.leL,AObj.le,inH,idsT,idsH,AV.ids,AV.idsL,AV.idsR,AObj.ids,lk,hget,go_sem,aeq,aeq.aeqF,simprocAttr]) ?_
  refine' walkR hI (za zd6 <| zb _)
  rw [hJ,hfe]
  exact ⟨rfl,rfl,rfl⟩
 ·intro hgd
  rw [hG] at hgd
  have hgd:=Classical.byContradiction hgd
  rw [hI]
  refine' walkR fx (za zd6 <| zb _)
  have hfl:freeL d p g.host.toNat 0= []:=by simpa using hgd
  rw [hrf,hfl]
  rfl
 ·rw [hJ]
  rintro c h3 g3 ⟨rfl,rfl,rfl⟩
  refine' walkR fx (za zd6 <| zb _)
@[go_sem] noncomputable def zl7:Ent Tryz.prog 134:= .m3 zq zA zcQ zpm
theorem zpn (d:Disk) (p:Plan) (g:Geom) (hp:DP d p∧g.host≤1000000):AC 83 [diskA d,planA p,geomA g] (.tup [planA (rtake d p g).1,.d (.int .i64 (rtake d p g).2.1),.d (.int .i64 (rtake d p g).2.2)]):=by
 obtain ⟨h,hg⟩:=hp
 refine fbod Tryz.func83 Tryz.ntmps83 (fun base=>?_)
 refine' walkW fx (za zl7 <| za zaU <| zb _)
 all_goals simp_all [rtake]
@[go_sem] noncomputable def zx:Ent Tryz.prog 83:= .m3 zq zA zcQ zpn
open Go Go.Proofs
structure Root where
 l1:Int
 next:Int
 deriving DecidableEq
def rootA (r:Root):AV:= .agg [.d (.int .i64 r.l1),.d (.int .u32 r.next)]
attribute [go_sem] rootA
theorem zo2 (r:Root):Root.mk r.l1 r.next=r:=rfl
noncomputable def zhS:PT Root:=aggT (consL (intT .i64) (consL (intT .u32) nilL)) (fun p=>⟨p.1,p.2.1⟩) (fun x=>(x.l1,x.next,())) (fun _=>rfl)
attribute [go_sem] zhS
attribute [go_sem] zo2
def zkN:Txt:= [67,79,70,82]
def zch (r:Root):Txt:=zkN++putN r.l1.toNat 2++putN r.next.toNat 4
def zhT (r:Root):Txt:=padR (zch r++zeB (sumOf 0 (zch r)))
def zbz (s:Txt):Root:=⟨((takeN ((s.drop 4).take 2):Nat):Int),((takeN ((s.drop 6).take 4):Nat):Int)⟩
def rootT (s:Txt):Root×Int:=
 if s.take 4≠zkN then (⟨0,0⟩,14)
 else if zeB (sumOf 0 (s.take 10))≠(s.take 14).drop 10 then (⟨0,0⟩,15)
 else if zH (zbz s).l1=false∨zhT (zbz s)≠s then (⟨0,0⟩,14)
 else (zbz s,0)
def zP (d:Disk) (p:Plan):Root×Int:=if (plook d p 1).2≠0 then (⟨0,0⟩,(plook d p 1).2) else rootT (plook d p 1).1
def zdI (p:Plan) (r:Root):Plan×Int:=if zH r.l1=false then (p,10) else pset p 1 (zhT r)
theorem zfh (r:Root):(zch r).length=10:=by
 rw [zch,List.length_append,List.length_append,zac,zac];rfl
theorem zhc (s:Txt):0≤(zbz s).l1∧(zbz s).l1≤65535∧0≤(zbz s).next∧(zbz s).next≤4294967295:=by
 have h1:=zcG (l:=(s.drop 4).take 2) (i:=2) (by rw [List.length_take];omega)
 have h2:=zcG (l:=(s.drop 6).take 4) (i:=4) (by rw [List.length_take];omega)
 simp only [zbz]
 omega
theorem zhU (k:Int) (_:True):AC 54 [.d (.int .i64 k)] (.d (.bool (zH k))):=by
 refine bod Tryz.func54 Tryz.ntmps54 (fun base=>?_)
 refine' zc fx
 rfl
@[go_sem] noncomputable def zbH:Ent Tryz.prog 54:= .m1 (intT .i64) zhU
theorem zkO {x:Int} (h0:0≤x) (h1:x≤4294967295):IntKind.u32.wrap x=x:=by rw [IntKind.wrap_u32];omega
theorem zlK (t:Root) (hp:0≤t.l1∧t.l1≤65535∧0≤t.next∧t.next≤4294967295):AC 55 [rootA t] (.d (.str (zhT t))):=by
 obtain ⟨h0,h1,h2,h3⟩:=hp
 refine fbod Tryz.func55 Tryz.ntmps55 (fun base=>?_)
 have hw1:IntKind.u64.wrap t.l1=t.l1:=zap h0 (by omega)
 have hw2:IntKind.u64.wrap t.next=t.next:=zap h2 (by omega)
 have hl1:=zac t.l1.toNat 2
 have hl2:=zac t.next.toNat 4
 have hhd:(67:UInt8)::79::70::82::putN t.l1.toNat 2++putN t.next.toNat 4=zch t:=rfl
 have hhl:=zfh t
 have hs:=ze0 0 (zch t) (by omega) (by omega)
 have hbl:=zcZ (sumOf 0 (zch t))
 refine' walkW (zaa hw1 hw2 @zkM @znq @List.length_cons.{0} (zaa @List.length_nil.{0} hl1 hl2 hhd hhl (zF hbl @List.length_append.{0}))) (za zaL <| za za9 <| za zar <| za zg4 <| zb _)
 rfl
@[go_sem] noncomputable def zcK:Ent Tryz.prog 55:= .m1 zhS zlK
theorem znt (d:Disk) (p:Plan) (h:DP d p):AC 17 [diskA d,planA p] (.tup [rootA (zP d p).1,.d (.int .i64 (zP d p).2)]):=by
 refine fbod Tryz.func17 Tryz.ntmps17 (fun base=>?_)
 have h1:=h.dok
 have h2:=h.pok
 have h3:=h.plen
 by_cases he:(plook d p 1).2=0
 ·have hb:((plook d p 1).2 !=0)=false:=by simpa using he
  have h64:=zdm h he
  have hrg:zP d p=rootT (plook d p 1).1:=by rw [zP,if_neg (by simpa using he)]
  obtain ⟨S,hS⟩:∃S,S=(plook d p 1).1:=⟨_,rfl⟩
  rw [← hS] at h64 hrg
  have hr:=zhc S
  have htk:List.take S.length S=S:=List.take_length
  have ht2:=zdH (s:=S.drop 4) (z:=2) 2 rfl (by omega) (by omega) (by rw [List.length_drop];omega)
  have ht4:=zdH (s:=S.drop 6) (z:=4) 4 rfl (by omega) (by omega) (by rw [List.length_drop];omega)
  have hwl:IntKind.i64.wrap (zbz S).l1=(zbz S).l1:=zh (by omega) (by omega)
  have hwn:IntKind.u32.wrap (zbz S).next=(zbz S).next:=zkO (by omega) (by omega)
  simp only [zbz] at hwl hwn hr
  have hL1:(List.take 10 S).length≤64:=by rw [List.length_take];omega
  have hL2:(List.drop 4 S).length≤64:=by rw [List.length_drop];omega
  have hL3:(List.drop 6 S).length≤64:=by rw [List.length_drop];omega
  have hsr:=ze0 0 (S.take 10) (by omega) (by omega)
  refine' walkW (zaa hS.symm hb htk ht2 ht4 (zF hwl hwn)) (za zJ <| za za9 <| za zar <| za zaw <| za zbH <| za zcK <| zb _)
  all_goals (rw [hrg,rootT];clear ht2 ht4 hwl hwn htk;simp_all [zbz,zkN];done)
 ·have hb:((plook d p 1).2 !=0)=true:=by simpa using he
  refine' walkW hb (za zJ <| za za9 <| za zar <| za zaw <| za zbH <| za zcK <| zb _)
  rw [zP,if_pos he]
@[go_sem] noncomputable def zae:Ent Tryz.prog 17:= .m2 zq zA znt
theorem znu (p:Plan) (t:Root) (hp:pfit p=true∧0≤t.next∧t.next≤4294967295):AC 65 [planA p,rootA t] (.tup [planA (zdI p t).1,.d (.int .i64 (zdI p t).2)]):=by
 obtain ⟨hp,h2,h3⟩:=hp
 refine fbod Tryz.func65 Tryz.ntmps65 (fun base=>?_)
 obtain ⟨hl,h24,h64⟩:=zaq hp
 have hpo:PlanOk p:=⟨by omega,by omega⟩
 by_cases hk:zH t.l1=true
 ·obtain ⟨hk0,hk1⟩:=hostOk_iff.1 hk
  refine' walkW hk (za zbH <| za zcK <| za zaM <| zb _)
  rw [zdI,if_neg (by rw [hk];exact fun h=>by cases h)]
 ·have hk:zH t.l1=false:=by simpa using hk
  refine' walkW hk (za zbH <| za zcK <| za zaM <| zb _)
  rw [zdI,if_pos hk]
@[go_sem] noncomputable def zjK:Ent Tryz.prog 65:= .m2 zA zhS znu
theorem zlL (k:Int) (_:True):AC 132 [.d (.int .i64 k)] (.d (.bool (!zH k))):=by
 refine bod Tryz.func132 Tryz.ntmps132 (fun base=>?_)
 refine' zc fx
 rw [zby]
@[go_sem] noncomputable def zfi:Ent Tryz.prog 132:= .m1 (intT .i64) zlL
theorem zlM (t:Root) (hp:0≤t.l1∧t.l1≤65535∧0≤t.next∧t.next≤4294967295):AC 133 [rootA t] (.d (.str (zhT t))):=by
 obtain ⟨h0,h1,h2,h3⟩:=hp
 refine fbod Tryz.func133 Tryz.ntmps133 (fun base=>?_)
 have hw1:IntKind.u64.wrap t.l1=t.l1:=zap h0 (by omega)
 have hw2:IntKind.u64.wrap t.next=t.next:=zap h2 (by omega)
 have hl1:=zac t.l1.toNat 2
 have hl2:=zac t.next.toNat 4
 have hhd:(67:UInt8)::79::70::82::putN t.l1.toNat 2++putN t.next.toNat 4=zch t:=rfl
 have hhl:=zfh t
 have hbl:=zcZ (sumOf 0 (zch t))
 refine' walkW (zaa hw1 hw2 @zkM @znq @List.length_cons.{0} (zaa @List.length_nil.{0} hl1 hl2 hhd hhl (zF hbl @List.length_append.{0}))) (za zcI <| za zck <| za za8 <| za zfw <| zb _)
 rfl
@[go_sem] noncomputable def zfj:Ent Tryz.prog 133:= .m1 zhS zlM
theorem zlN (s:Txt) (at_ size:Int) (hp:0≤at_∧at_≤s.length∧s.length≤9223372036854775807):AC 131 [.d (.str s),.d (.int .i64 at_),.d (.int .i64 size)] (.d (.int .u64 (takeS (s.drop at_.toNat) size).1)):=by
 obtain ⟨h0,h1,hs⟩:=hp
 refine fbod Tryz.func131 Tryz.ntmps131 (fun base=>?_)
 have htk:List.take s.length s=s:=List.take_length
 have hL2:(List.drop at_.toNat s).length≤9223372036854775807:=by rw [List.length_drop];omega
 refine' walkW htk (za zbl <| zb _)
@[go_sem] noncomputable def zfk:Ent Tryz.prog 131:= .m3 strT (intT .i64) (intT .i64) zlN
theorem zlO (d:Disk) (p:Plan) (h:DP d p):AC 82 [diskA d,planA p] (.tup [rootA (zP d p).1,.d (.int .i64 (zP d p).2)]):=by
 refine fbod Tryz.func82 Tryz.ntmps82 (fun base=>?_)
 have h1:=h.dok
 have h2:=h.pok
 have h3:=h.plen
 by_cases he:(plook d p 1).2=0
 ·have hb:((plook d p 1).2 !=0)=false:=by simpa using he
  have h64:=zdm h he
  have hrg:zP d p=rootT (plook d p 1).1:=by rw [zP,if_neg (by simpa using he)]
  obtain ⟨S,hS⟩:∃S,S=(plook d p 1).1:=⟨_,rfl⟩
  rw [← hS] at h64 hrg
  have hr:=zhc S
  have htk:List.take S.length S=S:=List.take_length
  have ht2:=zdH (s:=S.drop 4) (z:=2) 2 rfl (by omega) (by omega) (by rw [List.length_drop];omega)
  have ht4:=zdH (s:=S.drop 6) (z:=4) 4 rfl (by omega) (by omega) (by rw [List.length_drop];omega)
  have hwl:IntKind.i64.wrap (zbz S).l1=(zbz S).l1:=zh (by omega) (by omega)
  have hwn:IntKind.u32.wrap (zbz S).next=(zbz S).next:=zkO (by omega) (by omega)
  simp only [zbz] at hwl hwn hr
  have hL1:(List.take 10 S).length≤64:=by rw [List.length_take];omega
  have hpx:List.isPrefixOf [67,79,70,82] S=(S.take 4== [67,79,70,82]):=by
   rw [Bool.eq_iff_iff,List.isPrefixOf_iff_prefix,List.prefix_iff_eq_take,beq_iff_eq]
   exact ⟨fun h=>h.symm,fun h=>h.symm⟩
  refine' walkW (zaa hS.symm hb htk ht2 ht4 (zG hwl hwn hpx)) (za zak <| za zck <| za za8 <| za zfk <| za zfi <| za zfj <| za zd9 <| zb _)
  all_goals (rw [hrg,rootT];clear ht2 ht4 hwl hwn htk hpx;simp_all [zbz,zkN];done)
 ·have hb:((plook d p 1).2 !=0)=true:=by simpa using he
  refine' walkW hb (za zak <| za zck <| za za8 <| za zfk <| za zfi <| za zfj <| za zd9 <| zb _)
  rw [zP,if_pos he]
@[go_sem] noncomputable def zn:Ent Tryz.prog 82:= .m2 zq zA zlO
open Go Go.Proofs
structure Ent2 where
 kind:Int
 loc:Int
 deriving DecidableEq
def entA (x:Ent2):AV:= .agg [.d (.int .i64 x.kind),.d (.int .i64 x.loc)]
attribute [go_sem] entA
theorem zqH (x:Ent2):Ent2.mk x.kind x.loc=x:=rfl
noncomputable def zeC:PT Ent2:=aggT (consL (intT .i64) (consL (intT .i64) nilL)) (fun p=>⟨p.1,p.2.1⟩) (fun x=>(x.kind,x.loc,())) (fun _=>rfl)
attribute [go_sem] zeC
attribute [go_sem] zqH
def entOk (x:Ent2):Bool:=if x.kind=1 then zH x.loc else (x.kind==0||x.kind==2)&&x.loc==0
def zcL (x:Ent2):Txt:= [UInt8.ofNat x.kind.toNat,0,0,0]++putN x.loc.toNat 4
def entOf (s:Txt):Ent2:=⟨((s.getD 0 0).toNat:Int),((takeN ((s.drop 4).take 4):Nat):Int)⟩
def entT (s:Txt):Ent2×Int:=if entOk (entOf s)=false∨zcL (entOf s)≠s then (⟨0,0⟩,14) else (entOf s,0)
def eRef (table i:Int):Bool:= !zH table||decide (i<0)||decide (16≤i)
def eget (d:Disk) (p:Plan) (table i:Int):Ent2×Int:=
 if eRef table i then (⟨0,0⟩,10) else if (plook d p (96+2*table+i / 8)).2≠0 then (⟨0,0⟩,(plook d p (96+2*table+i / 8)).2)
 else entT (((plook d p (96+2*table+i / 8)).1.take (i % 8*8+8).toNat).drop (i % 8*8).toNat)
def eset (d:Disk) (p:Plan) (table i:Int) (x:Ent2):Plan×Int:=
 if eRef table i then (p,10) else if entOk x=false then (p,23) else zec d p (96+2*table+i / 8) (i % 8*8) (zcL x)
def zaY (p:Plan) (tt:Int) (f:Plan→Int→Txt×Int):Nat→Int→Plan→Plan×Int
 |0,_,q=>(q,0)
 |m+1,i,q=>if (f q i).2≠0 then (p,(f q i).2) else if (pset q (96+2*tt+i) (f q i).1).2≠0 then (p,(pset q (96+2*tt+i) (f q i).1).2)
  else zaY p tt f m (i+1) (pset q (96+2*tt+i) (f q i).1).1
def z64:Txt:=List.replicate 64 0
theorem zo3:bytesOf [[D.int .u8 0],[D.int .u8 0],[D.int .u8 0],[D.int .u8 0],[D.int .u8 0],[D.int .u8 0],[D.int .u8 0],[D.int .u8 0],[D.int .u8 0],[D.int .u8 0],[D.int .u8 0],[D.int .u8 0],[D.int .u8 0],[D.int .u8 0],[D.int .u8 0],[D.int .u8 0],[D.int .u8 0],[D.int .u8 0],[D.int .u8 0],[D.int .u8 0],[D.int .u8 0],[D.int .u8 0],[D.int .u8 0],[D.int .u8 0],[D.int .u8 0],[D.int .u8 0],[D.int .u8 0],[D.int .u8 0],[D.int .u8 0],[D.int .u8 0],[D.int .u8 0],[D.int .u8 0],[D.int .u8 0],[D.int .u8 0],[D.int .u8 0],[D.int .u8 0],[D.int .u8 0],[D.int .u8 0],[D.int .u8 0],[D.int .u8 0],[D.int .u8 0],[D.int .u8 0],[D.int .u8 0],[D.int .u8 0],[D.int .u8 0],[D.int .u8 0],[D.int .u8 0],[D.int .u8 0],[D.int .u8 0],[D.int .u8 0],[D.int .u8 0],[D.int .u8 0],[D.int .u8 0],[D.int .u8 0],[D.int .u8 0],[D.int .u8 0],[D.int .u8 0],[D.int .u8 0],[D.int .u8 0],[D.int .u8 0],[D.int .u8 0],[D.int .u8 0],[D.int .u8 0],[D.int .u8 0]]=z64:=rfl
def eblank (p:Plan) (table:Int):Plan×Int:=if zH table=false then (p,10) else zaY p table (fun _ _=>(z64,0)) 2 0 p
def ecopy (d:Disk) (p:Plan) (fr tt:Int):Plan×Int:=if zH fr=false∨zH tt=false then (p,10) else zaY p tt (fun q i=>plook d q (96+2*fr+i)) 2 0 p
def elook (d:Disk) (p:Plan) (l1 guest:Int):Ent2×Int:=
 if guest<0∨64≤guest then (⟨0,0⟩,10) else if (eget d p l1 (guest / 16)).2≠0 then (⟨0,0⟩,(eget d p l1 (guest / 16)).2)
 else if (eget d p l1 (guest / 16)).1.kind=2 then (⟨0,0⟩,14) else if (eget d p l1 (guest / 16)).1.kind=0 then (⟨0,0⟩,0)
 else eget d p (eget d p l1 (guest / 16)).1.loc (guest % 16)
theorem zdJ {x:Ent2} (h:entOk x=true):(x.kind=0∨x.kind=1∨x.kind=2)∧0≤x.loc∧x.loc<256:=by
 unfold entOk at h
 split at h
 ·rename_i hk
  have:=hostOk_iff.1 h
  omega
 ·simp only [Bool.and_eq_true,Bool.or_eq_true,beq_iff_eq] at h
  omega
theorem znv {d:Disk} {p:Plan} {t i:Int} (h:(eget d p t i).2=0):entOk (eget d p t i).1=true∧zH t=true∧0≤i∧i<16:=by
 unfold eget at h ⊢
 split at h
 ·cases h
 rename_i h0
 rw [if_neg h0]
 split at h
 ·rename_i h1;exact absurd h h1
 rename_i h1
 rw [if_neg h1]
 unfold entT at h ⊢
 split at h
 ·cases h
 rename_i h2
 rw [if_neg h2]
 simp only [not_or,Bool.not_eq_false] at h2
 refine ⟨h2.1,?_⟩
 simp only [eRef,Bool.or_eq_true,decide_eq_true_eq,not_or,Bool.not_eq_true',Bool.not_eq_false] at h0
 exact ⟨h0.1.1,by omega,by omega⟩
theorem zfl (x:Ent2):(zcL x).length=8:=by rw [zcL,List.length_append,zac];rfl
theorem zo4 {d:Disk} {p:Plan} {t i:Int} {x:Ent2} (h:pfit p=true):pfit (eset d p t i x).1=true:=by
 unfold eset
 split
 ·exact h
 split
 ·exact h
 ·exact zg6 h
theorem ze1 {p:Plan} {tt:Int} {f:Plan→Int→Txt×Int} (h:pfit p=true):∀ (m:Nat) (i:Int) (q:Plan),pfit q=true→pfit (zaY p tt f m i q).1=true
 |0,_,_,hq=>hq
 |m+1,i,q,hq=>by
  rw [zaY]
  split
  ·exact h
  split
  ·exact h
  ·exact ze1 h m _ _ (zd1 hq)
theorem DP.eset {d:Disk} {p:Plan} (h:DP d p) (t i:Int) (x:Ent2):DP d (eset d p t i x).1:=⟨h.d,zo4 h.p⟩
theorem DP.eblank {d:Disk} {p:Plan} (h:DP d p) (t:Int):DP d (eblank p t).1:=⟨h.d,by unfold Aw.eblank;split;exact h.p;exact ze1 h.p _ _ _ h.p⟩
theorem DP.ecopy {d:Disk} {p:Plan} (h:DP d p) (a b:Int):DP d (ecopy d p a b).1:=⟨h.d,by unfold Aw.ecopy;split;exact h.p;exact ze1 h.p _ _ _ h.p⟩
theorem zhV (k:Int) (_:True):AC 163 [.d (.int .i64 k)] (.d (.bool (zH k))):=by
 refine bod Tryz.func163 Tryz.ntmps163 (fun base=>?_)
 refine' zc fx
 rfl
@[go_sem] noncomputable def zY:Ent Tryz.prog 163:= .m1 (intT .i64) zhV
theorem zjL (x:Ent2) (_:True):AC 126 [entA x] (.d (.bool (entOk x))):=by
 refine bod Tryz.func126 Tryz.ntmps126 (fun base=>?_)
 refine' walkW fx (za zY <| zb _)
 ·have hc:x.kind=1:=by simpa using hc
  rw [entOk,if_pos hc]
 ·have hc:¬x.kind=1:=by simpa using hc
  rw [entOk,if_neg hc]
@[go_sem] noncomputable def zbb:Ent Tryz.prog 126:= .m1 zeC zjL
theorem zhW (t i:Int) (_:True):AC 124 [.d (.int .i64 t),.d (.int .i64 i)] (.d (.bool (eRef t i))):=by
 refine bod Tryz.func124 Tryz.ntmps124 (fun base=>?_)
 refine' walkW fx (za zY <| zb _)
 rfl
@[go_sem] noncomputable def zaN:Ent Tryz.prog 124:= .m2 (intT .i64) (intT .i64) zhW
theorem zge {t i:Int} (h:eRef t i=false):(0≤t∧t<256)∧0≤i∧i<16:=by
 simp only [eRef,Bool.or_eq_false_iff,Bool.not_eq_false',decide_eq_false_iff_not] at h
 exact ⟨hostOk_iff.1 h.1.1,by omega,by omega⟩
theorem zjM (t i:Int) (hp:0≤t∧t<256∧0≤i∧i<16):AC 125 [.d (.int .i64 t),.d (.int .i64 i)] (.tup [.d (.int .i64 (96+2*t+i / 8)),.d (.int .i64 (i % 8*8))]):=by
 obtain ⟨h0,h1,h2,h3⟩:=hp
 refine bod Tryz.func125 Tryz.ntmps125 (fun base=>?_)
 have hw1:IntKind.i64.wrap (i.tdiv 8)=i / 8:=by rw [Int.tdiv_eq_ediv_of_nonneg h2,zh (by omega) (by omega)]
 have hw2:IntKind.i64.wrap (96+2*t+i / 8)=96+2*t+i / 8:=zh (by omega) (by omega)
 have hw3:i.tmod 8=i % 8:=Int.tmod_eq_emod_of_nonneg h2
 have hw4:IntKind.i64.wrap (i % 8*8)=i % 8*8:=zh (by omega) (by omega)
 refine' walkW (zaJ hw1 hw2 hw3 hw4) (za zK <| zb _)
@[go_sem] noncomputable def zbc:Ent Tryz.prog 125:= .m2 (intT .i64) (intT .i64) zjM
theorem zjN (x:Ent2) (h:entOk x=true):AC 127 [entA x] (.d (.str (zcL x))):=by
 refine fbod Tryz.func127 Tryz.ntmps127 (fun base=>?_)
 obtain ⟨hk,ha0,ha1⟩:=zdJ h
 have hw1:IntKind.u8.wrap x.kind=((UInt8.ofNat x.kind.toNat).toNat:Int):=by
  rw [← u8_of,show (x.kind.toNat:Int)=x.kind by omega]
 have hw2:IntKind.u64.wrap x.loc=x.loc:=zap (by omega) (by omega)
 have hl:=zac x.loc.toNat 4
 have hbo:bytesOf [[D.int .u8 ((UInt8.ofNat x.kind.toNat).toNat:Int)],[D.int .u8 0],[D.int .u8 0],[D.int .u8 0]]= [UInt8.ofNat x.kind.toNat,0,0,0]:=by rcases hk with hh|hh|hh<;>(rw [hh];rfl)
 refine' walkW (zcW hw1 hw2 @znq hl hbo) (za zaL <| zb _)
 ·rfl
 ·rfl
@[go_sem] noncomputable def zbd:Ent Tryz.prog 127:= .m1 zeC zjN
theorem znw (s:Txt):0≤(entOf s).kind∧(entOf s).kind≤255∧0≤(entOf s).loc∧(entOf s).loc≤4294967295:=by
 have h1:=zcG (l:=(s.drop 4).take 4) (i:=4) (by rw [List.length_take];omega)
 have h2:=(s.getD 0 0).toNat_lt
 simp only [entOf]
 omega
theorem znx (d:Disk) (p:Plan) (t i:Int) (h:DP d p):AC 80 [diskA d,planA p,.d (.int .i64 t),.d (.int .i64 i)] (.tup [entA (eget d p t i).1,.d (.int .i64 (eget d p t i).2)]):=by
 refine fbod Tryz.func80 Tryz.ntmps80 (fun base=>?_)
 have h1:=h.dok
 have h2:=h.pok
 have h3:=h.plen
 by_cases hr:eRef t i=true
 ·refine' walkW hr (za zaN <| za zbc <| za zJ <| za zaw <| za zbb <| za zbd <| za zaD <| zb _)
  rw [eget,if_pos hr]
 have hr:eRef t i=false:=by simpa using hr
 obtain ⟨⟨ht0,ht1⟩,hi0,hi1⟩:=zge hr
 obtain ⟨A,hA⟩:∃A,A=96+2*t+i / 8:=⟨_,rfl⟩
 have hrg0:eget d p t i=if (plook d p A).2≠0 then (⟨0,0⟩,(plook d p A).2) else entT (((plook d p A).1.take (i % 8*8+8).toNat).drop (i % 8*8).toNat):=by
  rw [eget,if_neg (by rw [hr];exact Bool.false_ne_true),hA]
 by_cases he:(plook d p A).2=0
 ·have hb:((plook d p A).2 !=0)=false:=by simpa using he
  have h64:=zdm h he
  rw [if_neg (by simpa using he)] at hrg0
  have hw:IntKind.i64.wrap (i % 8*8+8)=i % 8*8+8:=zh (by omega) (by omega)
  obtain ⟨S,hS⟩:∃S,S=((plook d p A).1.take (i % 8*8+8).toNat).drop (i % 8*8).toNat:=⟨_,rfl⟩
  rw [← hS] at hrg0
  have hSl:S.length=8:=by rw [hS,List.length_drop,List.length_take];omega
  have hrr:=znw S
  have htk:List.take S.length S=S:=List.take_length
  have ht4:=zdH (s:=S.drop 4) (z:=4) 4 rfl (by omega) (by omega) (by rw [List.length_drop];omega)
  have hwk:IntKind.i64.wrap (entOf S).kind=(entOf S).kind:=zh (by omega) (by omega)
  have hwl:IntKind.i64.wrap (entOf S).loc=(entOf S).loc:=zh (by omega) (by omega)
  simp only [entOf] at hwk hwl hrr
  have hL2:(List.drop 4 S).length≤8:=by rw [List.length_drop];omega
  refine' walkW (zaa hr hA.symm hb hw hS.symm (zaJ htk ht4 hwk hwl)) (za zaN <| za zbc <| za zJ <| za zaw <| za zbb <| za zbd <| za zaD <| zb _)
  all_goals (rw [hrg0,entT];clear ht4 hwk hwl htk;simp_all [entOf];done)
 ·have hb:((plook d p A).2 !=0)=true:=by simpa using he
  rw [if_pos he] at hrg0
  refine' walkW (zG hr hA.symm hb) (za zaN <| za zbc <| za zJ <| za zaw <| za zbb <| za zbd <| za zaD <| zb _)
  rw [hrg0]
@[go_sem] noncomputable def zbR:Ent Tryz.prog 80:= .m4 zq zA (intT .i64) (intT .i64) znx
theorem zny (d:Disk) (p:Plan) (t i:Int) (x:Ent2) (h:DP d p):AC 94 [diskA d,planA p,.d (.int .i64 t),.d (.int .i64 i),entA x] (.tup [planA (eset d p t i x).1,.d (.int .i64 (eset d p t i x).2)]):=by
 refine fbod Tryz.func94 Tryz.ntmps94 (fun base=>?_)
 have h1:=h.dok
 have h2:=h.puts
 have h3:=h.p
 by_cases hr:eRef t i=true
 ·refine' walkW hr (za zaN <| za zbc <| za zJ <| za zaw <| za zbb <| za zbd <| za zaD <| zb _)
  rw [eset,if_pos hr]
 have hr:eRef t i=false:=by simpa using hr
 obtain ⟨⟨ht0,ht1⟩,hi0,hi1⟩:=zge hr
 by_cases hx:entOk x=true
 ·have hl:=zfl x
  refine' walkW (zG hr hx hl) (za zaN <| za zbc <| za zJ <| za zaw <| za zbb <| za zbd <| za zaD <| zb _)
  rw [eset,if_neg (by rw [hr];exact Bool.false_ne_true),if_neg (by rw [hx];exact fun h=>by cases h)]
 ·have hx:entOk x=false:=by simpa using hx
  refine' walkW (zF hr hx) (za zaN <| za zbc <| za zJ <| za zaw <| za zbb <| za zbd <| za zaD <| zb _)
  rw [eset,if_neg (by rw [hr];exact Bool.false_ne_true),if_pos hx]
@[go_sem] noncomputable def zdn:Ent Tryz.prog 94:= .m5 zq zA (intT .i64) (intT .i64) zeC zny
theorem zd4 (p:Plan) (tt:Int) (f:Plan→Int→Txt×Int) (i:Nat) (q:Plan) (hi:i<2):zaY p tt f (2 - i) i q=if (f q i).2≠0 then (p,(f q i).2) else if (pset q (96+2*tt+i) (f q i).1).2≠0 then (p,(pset q (96+2*tt+i) (f q i).1).2)
  else zaY p tt f (2 - (i+1)) (i+1:Nat) (pset q (96+2*tt+i) (f q i).1).1:=by
 rw [show 2 - i=(2 - (i+1))+1 by omega,zaY]
 rfl
theorem PlanOk.of {p:Plan} (h:pfit p=true):PlanOk p:=by
 obtain ⟨hl,h24,_⟩:=zaq h
 exact ⟨by omega,by omega⟩
theorem zjO (p:Plan) (t:Int) (hp:pfit p=true):AC 181 [planA p,.d (.int .i64 t)] (.tup [planA (eblank p t).1,.d (.int .i64 (eblank p t).2)]):=by
 refine fbod Tryz.func181 Tryz.ntmps181 (fun base=>?_)
 by_cases hk:zH t=true
 ·obtain ⟨ht0,ht1⟩:=hostOk_iff.1 hk
  have hbl:eblank p t=zaY p t (fun _ _=>(z64,0)) 2 0 p:=by rw [eblank,if_neg (by rw [hk];exact fun h=>by cases h)]
  obtain ⟨f,hf⟩:∃f:Plan→Int→Txt×Int,f=fun _ _=>(z64,0):=⟨_,rfl⟩
  rw [← hf] at hbl
  refine' walkW hk (za zY <| za zK <| za zaM <| za zJ <| zb _)
  refine zy (fun q: { q:Nat×Plan // q.1≤2∧pfit q.2=true∧eblank p t=zaY p t f (2 - q.1) q.1 q.2 } =>⟨[(1,true,.d (.int .i64 t)),(2,true,.vp 0 0),(4,true,.vp 1 0),(6,true,.vp 2 0),(7,true,.d (.int .i64 q.1.1))],[(2,(.var [.d (.sl 1 (q.1.2.targets.map intD)),.d (.sl 1 (q.1.2.texts.map strD))])),(1,.var [.nils 1,.nils 1]),(0,(.var [.d (.sl 1 (p.targets.map intD)),.d (.sl 1 (p.texts.map strD))]))],some []⟩) (fun q=>2 - q.1.1) ⟨(0,p),Nat.zero_le 2,hp,hbl⟩ le1 (fun q=>?_)
  obtain ⟨⟨i,q⟩,hi,hq,hf2⟩:=q
  simp only at hi hq hf2 ⊢
  have hqo:=PlanOk.of hq
  obtain ⟨hql,hq24,_⟩:=zaq hq
  rcases Nat.lt_or_ge i 2 with hlt|hge
  ·have hcmp:decide ((i:Int)<2)=true:=decide_eq_true (by omega)
   have hwi:=zE (i:=i) (by omega)
   have hw1:IntKind.i64.wrap (96+2*t+(i:Int))=96+2*t+i:=zh (by omega) (by omega)
   rw [zd4 p t f i q hlt] at hf2
   have hf0:f q i=(z64,0):=by rw [hf]
   simp only [hf0] at hf2
   rw [if_neg (show ¬(0:Int)≠0 by decide)] at hf2
   refine' walkW (zG hcmp hw1 @zo3) (za zY <| za zK <| za zaM <| za zJ <| zb _)
   ·rfl
   ·have hc:(pset q (96+2*t+i) z64).2≠0:=by simpa using hc
    rw [hf2,if_pos hc]
   ·have hc:¬(pset q (96+2*t+i) z64).2≠0:=by simpa using hc
    rw [if_neg hc] at hf2
    exact ⟨⟨(i+1,(pset q (96+2*t+i) z64).1),by omega,zd1 hq,hf2⟩,lew,by simp;omega⟩
  ·have hcmp:decide ((i:Int)<2)=false:=decide_eq_false (by omega)
   refine' walkW hcmp (za zY <| za zK <| za zaM <| za zJ <| zb _)
   rw [hf2,show 2 - i=0 by omega]
   rfl
 ·have hk:zH t=false:=by simpa using hk
  refine' walkW hk (za zY <| za zK <| za zaM <| za zJ <| zb _)
  rw [eblank,if_pos hk]
@[go_sem] noncomputable def zeD:Ent Tryz.prog 181:= .m2 zA (intT .i64) zjO
theorem zlP (d:Disk) (p:Plan) (a t:Int) (h:DP d p):AC 182 [diskA d,planA p,.d (.int .i64 a),.d (.int .i64 t)] (.tup [planA (ecopy d p a t).1,.d (.int .i64 (ecopy d p a t).2)]):=by
 refine fbod Tryz.func182 Tryz.ntmps182 (fun base=>?_)
 have hp:=h.p
 have hdo:=h.dok
 by_cases hk:zH a=false∨zH t=false
 ·have hdec:(!zH a|| !zH t)=true:=by simpa using hk
  refine' walkW hdec (za zY <| za zK <| za zaM <| za zJ <| zb _)
  rw [ecopy,if_pos hk]
 ·have hdec:(!zH a|| !zH t)=false:=by simpa using hk
  simp only [not_or,Bool.not_eq_false] at hk
  obtain ⟨ha0,ha1⟩:=hostOk_iff.1 hk.1
  obtain ⟨ht0,ht1⟩:=hostOk_iff.1 hk.2
  have hcp:ecopy d p a t=zaY p t (fun q i=>plook d q (96+2*a+i)) 2 0 p:=by rw [ecopy,if_neg];simp [hk]
  obtain ⟨f,hf⟩:∃f:Plan→Int→Txt×Int,f=fun q i=>plook d q (96+2*a+i):=⟨_,rfl⟩
  rw [← hf] at hcp
  refine' walkW hdec (za zY <| za zK <| za zaM <| za zJ <| zb _)
  refine zy (fun q: { q:Nat×Plan // q.1≤2∧pfit q.2=true∧ecopy d p a t=zaY p t f (2 - q.1) q.1 q.2 } =>⟨[(2,true,.d (.int .i64 a)),(3,true,.d (.int .i64 t)),(4,true,.vp 0 0),(5,true,.vp 1 0),(8,true,.vp 2 0),(10,true,.vp 3 0),(11,true,.d (.int .i64 q.1.1))],[(3,(.var [.d (.sl 1 (q.1.2.targets.map intD)),.d (.sl 1 (q.1.2.texts.map strD))])),(2,.var [.nils 1,.nils 1]),(1,(.var [.d (.sl 1 (p.targets.map intD)),.d (.sl 1 (p.texts.map strD))])),(0,(.var [.d (.str d.data),.d (.sl 2 (d.cache.map putD)),.d (.int .i64 d.fuse),.d (.bool d.off),.d (.sl 1 (d.bad.map intD))]))],some []⟩) (fun q=>2 - q.1.1) ⟨(0,p),Nat.zero_le 2,hp,hcp⟩ le1 (fun q=>?_)
  obtain ⟨⟨i,q⟩,hi,hq,hf2⟩:=q
  simp only at hi hq hf2 ⊢
  have hqo:=PlanOk.of hq
  obtain ⟨hql,hq24,_⟩:=zaq hq
  rcases Nat.lt_or_ge i 2 with hlt|hge
  ·have hcmp:decide ((i:Int)<2)=true:=decide_eq_true (by omega)
   have hwi:=zE (i:=i) (by omega)
   have hw1:IntKind.i64.wrap (96+2*t+(i:Int))=96+2*t+i:=zh (by omega) (by omega)
   have hw2:IntKind.i64.wrap (96+2*a+(i:Int))=96+2*a+i:=zh (by omega) (by omega)
   rw [zd4 p t f i q hlt] at hf2
   have hf0:f q i=plook d q (96+2*a+i):=by rw [hf]
   simp only [hf0] at hf2
   refine' walkW (zG hcmp hw1 hw2) (za zY <| za zK <| za zaM <| za zJ <| zb _)
   ·have hc:(plook d q (96+2*a+i)).2≠0:=by simpa using hc
    rw [hf2,if_pos hc]
   ·rename_i c0
    have c0:¬(plook d q (96+2*a+i)).2≠0:=by simpa using c0
    have hc:(pset q (96+2*t+i) (plook d q (96+2*a+i)).1).2≠0:=by simpa using hc
    rw [hf2,if_neg c0,if_pos hc]
   ·rename_i c0
    have c0:¬(plook d q (96+2*a+i)).2≠0:=by simpa using c0
    have hc:¬(pset q (96+2*t+i) (plook d q (96+2*a+i)).1).2≠0:=by simpa using hc
    rw [if_neg c0,if_neg hc] at hf2
    exact ⟨⟨(i+1,(pset q (96+2*t+i) (plook d q (96+2*a+i)).1).1),by omega,zd1 hq,hf2⟩,lew,by simp;omega⟩
  ·have hcmp:decide ((i:Int)<2)=false:=decide_eq_false (by omega)
   refine' walkW hcmp (za zY <| za zK <| za zaM <| za zJ <| zb _)
   rw [hf2,show 2 - i=0 by omega]
   rfl
@[go_sem] noncomputable def zfm:Ent Tryz.prog 182:= .m4 zq zA (intT .i64) (intT .i64) zlP
theorem zlQ (d:Disk) (p:Plan) (l1 g:Int) (h:DP d p):AC 29 [diskA d,planA p,.d (.int .i64 l1),.d (.int .i64 g)] (.tup [entA (elook d p l1 g).1,.d (.int .i64 (elook d p l1 g).2)]):=by
 refine fbod Tryz.func29 Tryz.ntmps29 (fun base=>?_)
 by_cases hg:g<0∨64≤g
 ·have hdec:(decide (g<0)||decide (64≤g))=true:=by simpa using hg
  refine' walkW hdec (za zbR <| zb _)
  rw [elook,if_pos hg]
 ·have hdec:(decide (g<0)||decide (64≤g))=false:=by simpa using hg
  have hw1:IntKind.i64.wrap (g.tdiv 16)=g / 16:=by rw [Int.tdiv_eq_ediv_of_nonneg (by omega),zh (by omega) (by omega)]
  have hw2:g.tmod 16=g % 16:=Int.tmod_eq_emod_of_nonneg (by omega)
  refine' walkW (zG hdec hw1 hw2) (za zbR <| zb _)
  all_goals (rw [elook,if_neg hg];simp_all;done)
@[go_sem] noncomputable def z7:Ent Tryz.prog 29:= .m4 zq zA (intT .i64) (intT .i64) zlQ
open Go Go.Proofs
theorem zqO (k:Int) (_:True):AC 159 [.d (.int .i64 k)] (.d (.bool (!zH k))):=by
 refine bod Tryz.func159 Tryz.ntmps159 (fun base=>?_)
 refine' zc @zby
@[go_sem] noncomputable def zb3:Ent Tryz.prog 159:= .m1 (intT .i64) zqO
theorem znK (x:Ent2) (_:True):AC 114 [entA x] (.d (.bool (entOk x))):=by
 refine bod Tryz.func114 Tryz.ntmps114 (fun base=>?_)
 refine' walkW fx (za zb3 <| za zbq <| zb _)
 all_goals simp_all [entOk]
@[go_sem] noncomputable def zbV:Ent Tryz.prog 114:= .m1 zeC znK
theorem znL (t i:Int) (_:True):AC 111 [.d (.int .i64 t),.d (.int .i64 i)] (.tup [.d (.int .i64 (if eRef t i then 0 else 96+2*t+i / 8)),.d (.int .i64 (if eRef t i then 0 else i % 8*8)),.d (.int .i64 (if eRef t i then 10 else 0))]):=by
 refine bod Tryz.func111 Tryz.ntmps111 (fun base=>?_)
 cases hr:eRef t i with
 |true=>
  have hdec:(!zH t||decide (i<0)||decide (16≤i))=true:=hr
  refine' walkW hdec (za zb3 <| za zbq <| zb _)
 |false=>
  have hdec:(!zH t||decide (i<0)||decide (16≤i))=false:=hr
  obtain ⟨⟨ht0,ht1⟩,hi0,hi1⟩:=zge hr
  have hw0:IntKind.i64.wrap (i*8)=i*8:=zh (by omega) (by omega)
  have hw1:IntKind.i64.wrap ((i*8).tdiv 64)=i / 8:=by rw [Int.tdiv_eq_ediv_of_nonneg (by omega),zh (by omega) (by omega)];omega
  have hw2:IntKind.i64.wrap (96+2*t+i / 8)=96+2*t+i / 8:=zh (by omega) (by omega)
  have hw3:(i*8).tmod 64=i % 8*8:=by rw [Int.tmod_eq_emod_of_nonneg (by omega)];omega
  refine' walkW (zcW hdec hw0 hw1 hw2 hw3) (za zb3 <| za zbq <| zb _)
@[go_sem] noncomputable def zbW:Ent Tryz.prog 111:= .m2 (intT .i64) (intT .i64) znL
theorem zi1:∀k<3,∀l<256,putN (k*72057594037927936+l) 8= [UInt8.ofNat k,0,0,0]++putN l 4:=by decide+kernel
theorem znM:∀k<3,∀l<256,ibits .or .u64 (ishl .u64 ((k:Nat):Int) 56) ((l:Nat):Int)=((k*72057594037927936+l:Nat):Int):=by decide+kernel
theorem zl1 (x:Ent2) (h:entOk x=true):AC 197 [entA x] (.d (.str (zcL x))):=by
 refine fbod Tryz.func197 Tryz.ntmps197 (fun base=>?_)
 obtain ⟨hk,ha0,ha1⟩:=zdJ h
 obtain ⟨kind,loc⟩:=x
 simp only at hk ha0 ha1
 obtain ⟨k,rfl⟩:∃k:Nat,kind=k:=⟨kind.toNat,by omega⟩
 obtain ⟨l,rfl⟩:∃l:Nat,loc=l:=⟨loc.toNat,by omega⟩
 have h1:=zi1 k (by omega) l (by omega)
 have h2:=znM k (by omega) l (by omega)
 have hw1:IntKind.u64.wrap (k:Int)=k:=zap (by omega) (by omega)
 have hw2:IntKind.u64.wrap (l:Int)=l:=zap (by omega) (by omega)
 refine' walkW (zaa hw1 hw2 h2 @zrE natC h1) (za zcI <| zb _)
 rfl
@[go_sem] noncomputable def zbA:Ent Tryz.prog 197:= .m1 zeC zl1
theorem zpg (n:Nat):ishr .u64 (n:Int) 56=((n / 72057594037927936:Nat):Int):=by
 unfold ishr
 rw [show min ((56:Int).toNat) IntKind.u64.bits=56 from rfl]
 rw [Int.fdiv_eq_ediv_of_nonneg _ (by decide)]
 norm_cast
theorem zph (n:Nat) (hn:n<18446744073709551616):ibits .and .u64 (n:Int) 72057594037927935=((n % 72057594037927936:Nat):Int):=by
 show IntKind.u64.wrap (((BitVec.ofInt 64 (n:Int)&&& BitVec.ofInt 64 72057594037927935).toNat:Nat):Int)=_
 have h2:BitVec.ofInt 64 72057594037927935=BitVec.ofNat 64 72057594037927935:=by decide
 rw [h2,BitVec.ofInt_natCast,BitVec.toNat_and,BitVec.toNat_ofNat,BitVec.toNat_ofNat]
 rw [Nat.mod_eq_of_lt (by omega),show 72057594037927935 % 2 ^ 64=2 ^ 56 - 1 by decide,Nat.and_two_pow_sub_one_eq_mod,zap (by omega) (by omega)]
theorem zj5 (e f g h:UInt8):putN (takeN [e,f,g,h]) 4= [e,f,g,h]:=by
 simp only [takeN,putN,List.foldl,List.nil_append,List.cons_append]
 have:=e.toNat_lt;have:=f.toNat_lt;have:=g.toNat_lt;have:=h.toNat_lt
 have key:∀ (n:Nat) (c:UInt8),n % 256=c.toNat→UInt8.ofNat n=c:=fun n c hh=>by
  apply UInt8.toNat_inj.1
  rw [UInt8.toNat_ofNat']
  simpa using hh
 rw [key _ e (by omega),key _ f (by omega),key _ g (by omega),key _ h (by omega)]
theorem zpi (s:Txt) (hs:s.length=8):entT s=if entOk ⟨((takeN s / 72057594037927936:Nat):Int),((takeN s % 72057594037927936:Nat):Int)⟩=true then (⟨((takeN s / 72057594037927936:Nat):Int),((takeN s % 72057594037927936:Nat):Int)⟩,0) else (⟨0,0⟩,14):=by
 match s,hs with
 | [a,b,c,d,e,f,g,h],_=>
  obtain ⟨L,hL⟩:∃L,L=takeN [e,f,g,h]:=⟨_,rfl⟩
  have hL4:L<4294967296:=by
   have h1:=zcG (l:= [e,f,g,h]) (i:=4) (by simp)
   have h2:256 ^ 4=4294967296:=by decide
   omega
  have hpt:putN L 4= [e,f,g,h]:=by rw [hL];exact zj5 e f g h
  have ha:=a.toNat_lt;have hb:=b.toNat_lt;have hc:=c.toNat_lt;have hd:=d.toNat_lt
  have hn:takeN [a,b,c,d,e,f,g,h]=((a.toNat*256+b.toNat)*256+c.toNat)*256*4294967296+d.toNat*4294967296+L:=by
   rw [hL]
   simp only [takeN,List.foldl]
   omega
  rw [hn]
  have h1:(((a.toNat*256+b.toNat)*256+c.toNat)*256*4294967296+d.toNat*4294967296+L) / 72057594037927936=a.toNat:=by omega
  have h2:(((a.toNat*256+b.toNat)*256+c.toNat)*256*4294967296+d.toNat*4294967296+L) % 72057594037927936=(b.toNat*256+c.toNat)*256*4294967296+d.toNat*4294967296+L:=by omega
  rw [h1,h2]
  have he:entOf [a,b,c,d,e,f,g,h]=⟨(a.toNat:Int),(L:Int)⟩:=by rw [hL];rfl
  have hby:zcL ⟨(a.toNat:Int),(L:Int)⟩= [a,0,0,0,e,f,g,h]:=by
   rw [zcL]
   simp only [Int.toNat_natCast,hpt]
   rw [show UInt8.ofNat a.toNat=a by simp]
   rfl
  rw [entT,he,hby]
  by_cases hz:b=0∧c=0∧d=0
  ·obtain ⟨rfl,rfl,rfl⟩:=hz
   simp only [UInt8.toNat_zero,Nat.zero_mul,Nat.zero_add]
   cases hk:entOk ⟨(a.toNat:Int),(L:Int)⟩<;>simp
  ·have hne:([a,0,0,0,e,f,g,h]:Txt)≠ [a,b,c,d,e,f,g,h]:=by
    intro hh
    simp only [List.cons.injEq,true_and] at hh
    exact hz ⟨hh.1.symm,hh.2.1.symm,hh.2.2.1.symm⟩
   rw [if_pos (.inr hne),if_neg]
   intro hk
   obtain ⟨_,_,hlt⟩:=zdJ hk
   simp only at hlt
   apply hz
   have hb0:b.toNat=0∧c.toNat=0∧d.toNat=0:=by omega
   exact ⟨UInt8.toNat_inj.1 hb0.1,UInt8.toNat_inj.1 hb0.2.1,UInt8.toNat_inj.1 hb0.2.2⟩
open Go Go.Proofs
theorem zqP (d:Disk) (p:Plan) (t i:Int) (h:DP d p):AC 68 [diskA d,planA p,.d (.int .i64 t),.d (.int .i64 i)] (.tup [entA (eget d p t i).1,.d (.int .i64 (eget d p t i).2)]):=by
 refine fbod Tryz.func68 Tryz.ntmps68 (fun base=>?_)
 have h1:=h.dok
 have h2:=h.pok
 have h3:=h.plen
 by_cases hr:eRef t i=true
 ·refine' walkW (zF hr @if_true.{1}) (za zbW <| za zak <| za zbl <| za zbV <| za zbA <| za zaS <| zb _)
  rw [eget,if_pos hr]
 have hr:eRef t i=false:=by simpa using hr
 have hif:∀ (a b:Int),(if eRef t i=true then a else b)=b:=fun a b=>by rw [if_neg (by rw [hr];exact Bool.false_ne_true)]
 obtain ⟨⟨ht0,ht1⟩,hi0,hi1⟩:=zge hr
 obtain ⟨A,hA⟩:∃A,A=96+2*t+i / 8:=⟨_,rfl⟩
 have hrg0:eget d p t i=if (plook d p A).2≠0 then (⟨0,0⟩,(plook d p A).2) else entT (((plook d p A).1.take (i % 8*8+8).toNat).drop (i % 8*8).toNat):=by
  rw [eget,if_neg (by rw [hr];exact Bool.false_ne_true),hA]
 by_cases he:(plook d p A).2=0
 ·have hb:((plook d p A).2 !=0)=false:=by simpa using he
  have h64:=zdm h he
  rw [if_neg (by simpa using he)] at hrg0
  obtain ⟨S,hS⟩:∃S,S=((plook d p A).1.drop (i % 8*8).toNat).take 8:=⟨_,rfl⟩
  have hS2:((plook d p A).1.take (i % 8*8+8).toNat).drop (i % 8*8).toNat=S:=by
   rw [List.drop_take,hS,show (i % 8*8+8).toNat - (i % 8*8).toNat=8 by omega]
  rw [hS2] at hrg0
  have hSl:S.length=8:=by rw [hS,List.length_take,List.length_drop];omega
  rw [zpi S hSl] at hrg0
  have hnl:=zcG (l:=S) (i:=8) (by omega)
  have ht8:=zdH (s:=(plook d p A).1.drop (i % 8*8).toNat) (z:=8) 8 rfl (by omega) (by omega) (by rw [List.length_drop];omega)
  rw [← hS] at ht8
  obtain ⟨n,hn⟩:∃n,n=takeN S:=⟨_,rfl⟩
  rw [← hn] at ht8 hrg0 hnl
  have hsh:=zpg n
  have had:=zph n (by omega)
  have hw1:IntKind.i64.wrap ((n / 72057594037927936:Nat):Int)=((n / 72057594037927936:Nat):Int):=zh (by omega) (by omega)
  have hw2:IntKind.i64.wrap ((n % 72057594037927936:Nat):Int)=((n % 72057594037927936:Nat):Int):=zh (by omega) (by omega)
  have hld:((plook d p A).1.drop (i % 8*8).toNat).length≤64:=by rw [List.length_drop];omega
  have htk:List.take (plook d p A).1.length (plook d p A).1=(plook d p A).1:=List.take_length
  obtain ⟨x,hx⟩:∃x:Ent2,x=⟨((n / 72057594037927936:Nat):Int),((n % 72057594037927936:Nat):Int)⟩:=⟨_,rfl⟩
  rw [← hx] at hrg0
  have hx1:((n / 72057594037927936:Nat):Int)=x.kind:=by rw [hx]
  have hx2:((n % 72057594037927936:Nat):Int)=x.loc:=by rw [hx]
  rw [hx1] at hw1 hsh
  rw [hx2] at hw2 had
  refine' walkW (zaa hif hA.symm hb ht8 htk (zaJ hsh had hw1 hw2)) (za zbW <| za zak <| za zbl <| za zbV <| za zbA <| za zaS <| zb _)
  all_goals (rw [hrg0];simp_all;done)
 ·have hb:((plook d p A).2 !=0)=true:=by simpa using he
  rw [if_pos he] at hrg0
  refine' walkW (zG hif hA.symm hb) (za zbW <| za zak <| za zbl <| za zbV <| za zbA <| za zaS <| zb _)
  rw [hrg0]
@[go_sem] noncomputable def zbm:Ent Tryz.prog 68:= .m4 zq zA (intT .i64) (intT .i64) zqP
theorem zqQ (d:Disk) (p:Plan) (t i:Int) (x:Ent2) (h:DP d p):AC 180 [diskA d,planA p,.d (.int .i64 t),.d (.int .i64 i),entA x] (.tup [planA (eset d p t i x).1,.d (.int .i64 (eset d p t i x).2)]):=by
 refine fbod Tryz.func180 Tryz.ntmps180 (fun base=>?_)
 have h1:=h.dok
 have h2:=h.puts
 have h3:=h.p
 by_cases hr:eRef t i=true
 ·refine' walkW (zF hr @if_true.{1}) (za zbW <| za zak <| za zbl <| za zbV <| za zbA <| za zaS <| zb _)
  rw [eset,if_pos hr]
 have hr:eRef t i=false:=by simpa using hr
 have hif:∀ (a b:Int),(if eRef t i=true then a else b)=b:=fun a b=>by rw [if_neg (by rw [hr];exact Bool.false_ne_true)]
 obtain ⟨⟨ht0,ht1⟩,hi0,hi1⟩:=zge hr
 by_cases hx:entOk x=true
 ·have hl:=zfl x
  refine' walkW (zG hif hx hl) (za zbW <| za zak <| za zbl <| za zbV <| za zbA <| za zaS <| zb _)
  rw [eset,if_neg (by rw [hr];exact Bool.false_ne_true),if_neg (by rw [hx];exact fun h=>by cases h)]
 ·have hx:entOk x=false:=by simpa using hx
  refine' walkW (zF hif hx) (za zbW <| za zak <| za zbl <| za zbV <| za zbA <| za zaS <| zb _)
  rw [eset,if_neg (by rw [hr];exact Bool.false_ne_true),if_pos hx]
@[go_sem] noncomputable def zb4:Ent Tryz.prog 180:= .m5 zq zA (intT .i64) (intT .i64) zeC zqQ
theorem zpj (d:Disk) (p:Plan) (l1 g:Int) (h:DP d p):AC 25 [diskA d,planA p,.d (.int .i64 l1),.d (.int .i64 g)] (.tup [entA (elook d p l1 g).1,.d (.int .i64 (elook d p l1 g).2)]):=by
 refine fbod Tryz.func25 Tryz.ntmps25 (fun base=>?_)
 by_cases hg:g<0∨64≤g
 ·have hdec:(decide (g<0)||decide (64≤g))=true:=by simpa using hg
  refine' walkW hdec (za zbm <| zb _)
  rw [elook,if_pos hg]
 ·have hdec:(decide (g<0)||decide (64≤g))=false:=by simpa using hg
  have hw1:IntKind.i64.wrap (g.tdiv 16)=g / 16:=by rw [Int.tdiv_eq_ediv_of_nonneg (by omega),zh (by omega) (by omega)]
  have hw2:g.tmod 16=g % 16:=Int.tmod_eq_emod_of_nonneg (by omega)
  refine' walkW (zG hdec hw1 hw2) (za zbm <| zb _)
  all_goals (rw [elook,if_neg hg];by_cases e1:(eget d p l1 (g / 16)).2=0<;>by_cases e2:(eget d p l1 (g / 16)).1.kind=2<;>by_cases e3:(eget d p l1 (g / 16)).1.kind=0<;>simp_all;done)
@[go_sem] noncomputable def zD:Ent Tryz.prog 25:= .m4 zq zA (intT .i64) (intT .i64) zpj
open Go Go.Proofs
theorem zl2 (p:Plan) (i:Int) (_:True):AC 194 [planA p,.d (.int .i64 i)] (.tup [.d (.str z64),.d (.int .i64 0)]):=by
 refine bod Tryz.func194 Tryz.ntmps194 (fun base=>?_)
 refine' walkW fx (za za1 <| za zbq <| za zak <| zb _)
 rfl
@[go_sem] noncomputable def za3:Ent Tryz.prog 194:= .m2 zA (intT .i64) zl2
theorem znN (q:Plan) (i:Int) (d:Disk) (a:Int) (hd:DiskOk d) (hq:PlanOk q) (hl:q.targets.length=q.texts.length) (h0:0≤a) (h1:a<256) (h2:0≤i) (h3:i<2):ACall Tryz.prog 196 0 [planA q,.d (.int .i64 i),.dp (diskC d),.dp [.d (.int .i64 a)]] [] (fun r _=>r= .tup [.d (.str (plook d q (96+2*a+i)).1),.d (.int .i64 (plook d q (96+2*a+i)).2)]):=by
 refine bod Tryz.func196 Tryz.ntmps196 (fun base=>?_)
 have hw1:IntKind.i64.wrap (96+2*a+i)=96+2*a+i:=zh (by omega) (by omega)
 refine' walkW hw1 (za za1 <| za zbq <| za zak <| zb _)
@[go_sem] noncomputable def zbr:Ent Tryz.prog 196:= .ofL (consL zA (consL (intT .i64) (consL zmO (consL (dpT (consL (intT .i64) nilL) (fun p=>p) (fun p=>p) (fun _=>rfl)) nilL)))) (fun (q,i,d,(a,_),_)=>(DiskOk d)∧(PlanOk q)∧(q.targets.length=q.texts.length)∧(0≤a)∧(a<256)∧(0≤i)∧(i<2)) (fun (q,i,d,(a,_),_)=> .tup [.d (.str (plook d q (96+2*a+i)).1),.d (.int .i64 (plook d q (96+2*a+i)).2)]) (fun (q,i,d,(a,_),_) hp=>⟨rfl,znN q i d a hp.1 hp.2.1 hp.2.2.1 hp.2.2.2.1 hp.2.2.2.2.1 hp.2.2.2.2.2.1 hp.2.2.2.2.2.2⟩)
theorem znO (p:Plan) (t:Int) (hp:pfit p=true) (ht0:0≤t) (ht1:t<256):ACall Tryz.prog 193 0 [planA p,.d (.int .i64 t),.fn (.func 194) [] []] [] (fun r _=>r= .tup [planA (zaY p t (fun _ _=>(z64,0)) 2 0 p).1,.d (.int .i64 (zaY p t (fun _ _=>(z64,0)) 2 0 p).2)]):=by
 refine fbod Tryz.func193 Tryz.ntmps193 (fun base=>?_)
 obtain ⟨f,hf⟩:∃f:Plan→Int→Txt×Int,f=fun _ _=>(z64,0):=⟨_,rfl⟩
 rw [← hf]
 refine' walkW fx (za za3 <| za zbr <| za zbq <| za zb0 <| zb _)
 refine zy (fun q: { q:Nat×Plan // q.1≤2∧pfit q.2=true∧zaY p t f 2 0 p=zaY p t f (2 - q.1) q.1 q.2 } =>⟨[(1,true,.d (.int .i64 t)),(2,true,.fn (.func 194) [] []),(3,true,.vp 0 0),(6,true,.vp 1 0),(8,true,.vp 2 0),(13,true,.d (.int .i64 q.1.1))],[(2,(.var [.d (.sl 1 (q.1.2.targets.map intD)),.d (.sl 1 (q.1.2.texts.map strD))])),(1,.var [.nils 1,.nils 1]),(0,(.var [.d (.sl 1 (p.targets.map intD)),.d (.sl 1 (p.texts.map strD))]))],some []⟩) (fun q=>2 - q.1.1) ⟨(0,p),Nat.zero_le 2,hp,rfl⟩ le1 (fun q=>?_)
 obtain ⟨⟨i,q⟩,hi,hq,hf2⟩:=q
 simp only at hi hq hf2 ⊢
 have hqo:=PlanOk.of hq
 obtain ⟨hql,hq24,_⟩:=zaq hq
 rcases Nat.lt_or_ge i 2 with hlt|hge
 ·have hcmp:decide ((i:Int)<2)=true:=decide_eq_true (by omega)
  have hwi:=zE (i:=i) (by omega)
  have hw1:IntKind.i64.wrap (96+2*t+(i:Int))=96+2*t+i:=zh (by omega) (by omega)
  rw [zd4 p t f i q hlt] at hf2
  have hf0:f q i=(z64,0):=by rw [hf]
  simp only [hf0] at hf2
  rw [if_neg (show ¬(0:Int)≠0 by decide)] at hf2
  refine' walkW (zF hcmp hw1) (za za3 <| za zbr <| za zbq <| za zb0 <| zb _)
  ·have hc:(pset q (96+2*t+i) z64).2≠0:=by simpa using hc
   rw [hf2,if_pos hc]
  ·have hc:¬(pset q (96+2*t+i) z64).2≠0:=by simpa using hc
   rw [if_neg hc] at hf2
   exact ⟨⟨(i+1,(pset q (96+2*t+i) z64).1),by omega,zd1 hq,hf2⟩,lew,by simp;omega⟩
 ·have hcmp:decide ((i:Int)<2)=false:=decide_eq_false (by omega)
  refine' walkW hcmp (za za3 <| za zbr <| za zbq <| za zb0 <| zb _)
  rw [hf2,show 2 - i=0 by omega]
  rfl
@[go_sem] noncomputable def zgm:Ent Tryz.prog 193:= .ofL (consL zA (consL (intT .i64) (consL (fnT 194 nilL) nilL))) (fun (p,t,_,_)=>(pfit p=true)∧(0≤t)∧(t<256)) (fun (p,t,_,_)=> .tup [planA (zaY p t (fun _ _=>(z64,0)) 2 0 p).1,.d (.int .i64 (zaY p t (fun _ _=>(z64,0)) 2 0 p).2)]) (fun (p,t,_,_) hp=>⟨rfl,znO p t hp.1 hp.2.1 hp.2.2⟩)
theorem znP (p:Plan) (t:Int) (d:Disk) (a:Int) (h:DP d p) (ht0:0≤t) (ht1:t<256) (h0:0≤a) (h1:a<256):ACall Tryz.prog 193 4 [planA p,.d (.int .i64 t),.fn (.func 196) [] [.vp 0 0,.vp 2 0]] [(3,.var [.nils 1,.nils 1]),(2,.var [.d (.int .i64 a)]),(1,(.var [.d (.sl 1 (p.targets.map intD)),.d (.sl 1 (p.texts.map strD))])),(0,(.var [.d (.str d.data),.d (.sl 2 (d.cache.map putD)),.d (.int .i64 d.fuse),.d (.bool d.off),.d (.sl 1 (d.bad.map intD))]))] (fun r h'=>r= .tup [planA (zaY p t (fun q i=>plook d q (96+2*a+i)) 2 0 p).1,.d (.int .i64 (zaY p t (fun q i=>plook d q (96+2*a+i)) 2 0 p).2)]∧h'= [(3,.var [.nils 1,.nils 1]),(2,.var [.d (.int .i64 a)]),(1,(.var [.d (.sl 1 (p.targets.map intD)),.d (.sl 1 (p.texts.map strD))])),(0,(.var [.d (.str d.data),.d (.sl 2 (d.cache.map putD)),.d (.int .i64 d.fuse),.d (.bool d.off),.d (.sl 1 (d.bad.map intD))]))]):=by
 refine zV (fun i=>decide (i<4)) ?_
 refine bod Tryz.func193 Tryz.ntmps193 (fun base=>?_)
 have hp:=h.p
 have hdo:=h.dok
 obtain ⟨f,hf⟩:∃f:Plan→Int→Txt×Int,f=fun q i=>plook d q (96+2*a+i):=⟨_,rfl⟩
 rw [← hf]
 refine' walkW fx (za za3 <| za zbr <| za zbq <| za zb0 <| zb _)
 refine zy (fun q: { q:Nat×Plan // q.1≤2∧pfit q.2=true∧zaY p t f 2 0 p=zaY p t f (2 - q.1) q.1 q.2 } =>⟨[(1,true,.d (.int .i64 t)),(2,true,.fn (.func 196) [] [.vp 0 0,.vp 2 0]),(3,true,.vp 4 0),(6,true,.vp 5 0),(8,true,.vp 6 0),(13,true,.d (.int .i64 q.1.1))],[(6,(.var [.d (.sl 1 (q.1.2.targets.map intD)),.d (.sl 1 (q.1.2.texts.map strD))])),(5,.var [.nils 1,.nils 1]),(4,(.var [.d (.sl 1 (p.targets.map intD)),.d (.sl 1 (p.texts.map strD))])),(3,.var [.nils 1,.nils 1]),(2,.var [.d (.int .i64 a)]),(1,(.var [.d (.sl 1 (p.targets.map intD)),.d (.sl 1 (p.texts.map strD))])),(0,(.var [.d (.str d.data),.d (.sl 2 (d.cache.map putD)),.d (.int .i64 d.fuse),.d (.bool d.off),.d (.sl 1 (d.bad.map intD))]))],some []⟩) (fun q=>2 - q.1.1) ⟨(0,p),Nat.zero_le 2,hp,rfl⟩ le1 (fun q=>?_)
 obtain ⟨⟨i,q⟩,hi,hq,hf2⟩:=q
 simp only at hi hq hf2 ⊢
 have hqo:=PlanOk.of hq
 obtain ⟨hql,hq24,_⟩:=zaq hq
 have hdq:DP d q:=⟨h.d,hq⟩
 rcases Nat.lt_or_ge i 2 with hlt|hge
 ·have hcmp:decide ((i:Int)<2)=true:=decide_eq_true (by omega)
  have hwi:=zE (i:=i) (by omega)
  have hw1:IntKind.i64.wrap (96+2*t+(i:Int))=96+2*t+i:=zh (by omega) (by omega)
  rw [zd4 p t f i q hlt] at hf2
  have hf0:f q i=plook d q (96+2*a+i):=by rw [hf]
  simp only [hf0] at hf2
  by_cases he:(plook d q (96+2*a+i)).2=0
  ·have hb:((plook d q (96+2*a+i)).2 !=0)=false:=by simpa using he
   have h64:=zdm hdq he
   rw [if_neg (by simpa using he)] at hf2
   refine' walkW (zG hcmp hw1 hb) (za za3 <| za zbr <| za zbq <| za zb0 <| zb _)
   ·have hc:(pset q (96+2*t+i) (plook d q (96+2*a+i)).1).2≠0:=by simpa using hc
    rw [if_pos hc] at hf2
    rw [hf2]
   ·have hc:¬(pset q (96+2*t+i) (plook d q (96+2*a+i)).1).2≠0:=by simpa using hc
    rw [if_neg hc] at hf2
    exact ⟨⟨(i+1,(pset q (96+2*t+i) (plook d q (96+2*a+i)).1).1),by omega,zd1 hq,hf2⟩,lew,by simp;omega⟩
  ·have hb:((plook d q (96+2*a+i)).2 !=0)=true:=by simpa using he
   rw [if_pos (by simpa using he)] at hf2
   refine' walkW (zF hcmp hb) (za za3 <| za zbr <| za zbq <| za zb0 <| zb _)
   rw [hf2]
 ·have hcmp:decide ((i:Int)<2)=false:=decide_eq_false (by omega)
  refine' walkW hcmp (za za3 <| za zbr <| za zbq <| za zb0 <| zb _)
  rw [hf2,show 2 - i=0 by omega]
  rfl
theorem znQ (p:Plan) (t:Int) (hp:pfit p=true):AC 173 [planA p,.d (.int .i64 t)] (.tup [planA (eblank p t).1,.d (.int .i64 (eblank p t).2)]):=by
 refine fbod Tryz.func173 Tryz.ntmps173 (fun base=>?_)
 by_cases hk:zH t=true
 ·obtain ⟨ht0,ht1⟩:=hostOk_iff.1 hk
  have hbl:eblank p t=zaY p t (fun _ _=>(z64,0)) 2 0 p:=by rw [eblank,if_neg (by rw [hk];exact fun h=>by cases h)]
  refine' walkW hk (za zb3 <| za zgm <| zb _)
  rw [hbl]
 ·have hk:zH t=false:=by simpa using hk
  refine' walkW hk (za zb3 <| za zgm <| zb _)
  rw [eblank,if_pos hk]
@[go_sem] noncomputable def za4:Ent Tryz.prog 173:= .m2 zA (intT .i64) znQ
theorem zpk (d:Disk) (p:Plan) (a t:Int) (h:DP d p):AC 176 [diskA d,planA p,.d (.int .i64 a),.d (.int .i64 t)] (.tup [planA (ecopy d p a t).1,.d (.int .i64 (ecopy d p a t).2)]):=by
 refine fbod Tryz.func176 Tryz.ntmps176 (fun base=>?_)
 by_cases hk:zH a=false∨zH t=false
 ·have hdec:(!zH a|| !zH t)=true:=by simpa using hk
  refine' walkW hdec (za zb3 <| zb _)
  rw [ecopy,if_pos hk]
 ·have hdec:(!zH a|| !zH t)=false:=by simpa using hk
  have hcp:ecopy d p a t=zaY p t (fun q i=>plook d q (96+2*a+i)) 2 0 p:=by rw [ecopy,if_neg hk]
  simp only [not_or,Bool.not_eq_false] at hk
  obtain ⟨ha0,ha1⟩:=hostOk_iff.1 hk.1
  obtain ⟨ht0,ht1⟩:=hostOk_iff.1 hk.2
  refine' walkW (zG hdec hk.1 hk.2) (za zb3 <| zb _)
  refine ((znP p t d a h ht0 ht1 ha0 ha1).whole (zR rfl) (by omega) (by rintro r h' ⟨_,rfl⟩ i hi;exact hi)).mono ?_
  rintro r h' ⟨rfl,rfl⟩
  simp only [go_sem,aeq,aeq.aeqF,simprocAttr]
  refine' walkW fx (za zb3 <| zb _)
  rw [hcp]
@[go_sem] noncomputable def zbB:Ent Tryz.prog 176:= .m4 zq zA (intT .i64) (intT .i64) zpk
open Go Go.Proofs
def pfill (d:Disk) (p:Plan) (fr k:Int):Plan×Int:=if fr<0 then eblank p k else ecopy d p fr k
def pless (d:Disk) (p:Plan) (fr:Int):Plan×Int:=if fr<0 then (p,0) else radd d p fr (-1)
def pfresh (d:Disk) (p:Plan) (g:Geom) (l1 i fr:Int):Plan×Int×Int:=
 if (rtake d p g).2.2≠0 then (p,0,(rtake d p g).2.2)
 else if (pfill d (rtake d p g).1 fr (rtake d p g).2.1).2≠0 then (p,0,(pfill d (rtake d p g).1 fr (rtake d p g).2.1).2)
 else if (pless d (pfill d (rtake d p g).1 fr (rtake d p g).2.1).1 fr).2≠0 then (p,0,(pless d (pfill d (rtake d p g).1 fr (rtake d p g).2.1).1 fr).2)
 else if (eset d (pless d (pfill d (rtake d p g).1 fr (rtake d p g).2.1).1 fr).1 l1 i ⟨1,(rtake d p g).2.1⟩).2≠0 then (p,0,(eset d (pless d (pfill d (rtake d p g).1 fr (rtake d p g).2.1).1 fr).1 l1 i ⟨1,(rtake d p g).2.1⟩).2)
 else ((eset d (pless d (pfill d (rtake d p g).1 fr (rtake d p g).2.1).1 fr).1 l1 i ⟨1,(rtake d p g).2.1⟩).1,(rtake d p g).2.1,0)
def pown2 (d:Disk) (p:Plan) (g:Geom) (l1 i:Int):Plan×Int×Int:=
 if (eget d p l1 i).2≠0 then (p,0,(eget d p l1 i).2) else if (eget d p l1 i).1.kind=2 then (p,0,14)
 else if (eget d p l1 i).1.kind=0 then pfresh d p g l1 i (-1) else if (rget d p (eget d p l1 i).1.loc).2≠0 then (p,0,(rget d p (eget d p l1 i).1.loc).2)
 else if (rget d p (eget d p l1 i).1.loc).1≤1 then (p,(eget d p l1 i).1.loc,0) else pfresh d p g l1 i (eget d p l1 i).1.loc
def pown (d:Disk) (p:Plan) (g:Geom) (guest:Int):Plan×Int×Int:=
 if guest<0∨g.guest≤guest then (p,0,10) else if (zP d p).2≠0 then (p,0,(zP d p).2) else pown2 d p g (zP d p).1.l1 (guest / 16)
def ze2 (d:Disk) (p q:Plan) (t i:Int) (x:Ent2):Plan×Int:=
  if (eget d q t i).2≠0 then (p,(eget d q t i).2)
  else if (eget d q t i).1.kind=1 then
    (if (radd d q (eget d q t i).1.loc (-1)).2≠0 then (p,(radd d q (eget d q t i).1.loc (-1)).2)
     else if (eset d (radd d q (eget d q t i).1.loc (-1)).1 t i x).2≠0 then (p,(eset d (radd d q (eget d q t i).1.loc (-1)).1 t i x).2) else ((eset d (radd d q (eget d q t i).1.loc (-1)).1 t i x).1,0))
  else if (eset d q t i x).2≠0 then (p,(eset d q t i x).2) else ((eset d q t i x).1,0)
def ppoint (d:Disk) (p:Plan) (g:Geom) (guest:Int) (x:Ent2):Plan×Int:=
 if (pown d p g guest).2.2≠0 then (p,(pown d p g guest).2.2) else ze2 d p (pown d p g guest).1 (pown d p g guest).2.1 (guest % 16) x
theorem DP.pfill {d:Disk} {p:Plan} (h:DP d p) (a b:Int):DP d (pfill d p a b).1:=by unfold Aw.pfill;split;exact h.eblank _;exact h.ecopy _ _
theorem DP.pless {d:Disk} {p:Plan} (h:DP d p) (a:Int):DP d (pless d p a).1:=by unfold Aw.pless;split;exact h;exact h.radd _ _
theorem DP.pfresh {d:Disk} {p:Plan} (h:DP d p) (g:Geom) (l1 i fr:Int):DP d (pfresh d p g l1 i fr).1:=by
 unfold Aw.pfresh
 split
 ·exact h
 split
 ·exact h
 split
 ·exact h
 split
 ·exact h
 ·exact (((h.rtake g).pfill _ _).pless _).eset _ _ _
theorem DP.pown {d:Disk} {p:Plan} (h:DP d p) (g:Geom) (guest:Int):DP d (pown d p g guest).1:=by
 unfold Aw.pown
 split
 ·exact h
 split
 ·exact h
 unfold Aw.pown2
 split
 ·exact h
 split
 ·exact h
 split
 ·exact h.pfresh _ _ _ _
 split
 ·exact h
 split
 ·exact h
 ·exact h.pfresh _ _ _ _
theorem DP.ppoint {d:Disk} {p:Plan} (h:DP d p) (g:Geom) (guest:Int) (x:Ent2):DP d (ppoint d p g guest x).1:=by
 have ho:=h.pown g guest
 unfold Aw.ppoint
 split
 ·exact h
 unfold ze2
 split
 ·exact h
 split
 ·split
  ·exact h
  split
  ·exact h
  ·exact (ho.radd _ _).eset _ _ _
 ·split
  ·exact h
  ·exact ho.eset _ _ _
theorem zjP (d:Disk) (p:Plan) (g:Geom) (l1 i fr:Int) (hp:DP d p∧g.host≤1000000):AC 142 [diskA d,planA p,geomA g,.d (.int .i64 l1),.d (.int .i64 i),.d (.int .i64 fr)] (.tup [planA (pfresh d p g l1 i fr).1,.d (.int .i64 (pfresh d p g l1 i fr).2.1),.d (.int .i64 (pfresh d p g l1 i fr).2.2)]):=by
 obtain ⟨h,hg⟩:=hp
 refine fbod Tryz.func142 Tryz.ntmps142 (fun base=>?_)
 have h1:=h.rtake g
 have h2:=h1.p
 rw [pfresh]
 obtain ⟨T,hT⟩:∃T,T=rtake d p g:=⟨_,rfl⟩
 rw [← hT] at h1 h2 ⊢
 by_cases hfr:fr<0
 ·have hd1:decide (fr<0)=true:=decide_eq_true hfr
  have hd2:decide (0≤fr)=false:=decide_eq_false (by omega)
  have e1:∀q k,pfill d q fr k=eblank q k:=fun q k=>by rw [pfill,if_pos hfr]
  have e2:∀q,pless d q fr=(q,0):=fun q=>by rw [pless,if_pos hfr]
  simp only [e1,e2]
  have h3:=h1.eblank T.2.1
  obtain ⟨B,hB⟩:∃B,B=eblank T.1 T.2.1:=⟨_,rfl⟩
  rw [← hB] at h3 ⊢
  obtain ⟨C,hC⟩:∃C,C=eset d B.1 l1 i ⟨1,T.2.1⟩:=⟨_,rfl⟩
  rw [← hC]
  refine' walkW (zcW hd1 hd2 hT.symm hB.symm hC.symm) (za zad <| za zeD <| za zfm <| za zba <| za zdn <| zb _)
  all_goals (clear h1 h2 h3 hT hB hC e1 e2 hd1 hd2;simp_all;done)
 ·have hd1:decide (fr<0)=false:=decide_eq_false hfr
  have hd2:decide (0≤fr)=true:=decide_eq_true (by omega)
  have e1:∀q k,pfill d q fr k=ecopy d q fr k:=fun q k=>by rw [pfill,if_neg hfr]
  have e2:∀q,pless d q fr=radd d q fr (-1):=fun q=>by rw [pless,if_neg hfr]
  simp only [e1,e2]
  have h3:=h1.ecopy fr T.2.1
  obtain ⟨B,hB⟩:∃B,B=ecopy d T.1 fr T.2.1:=⟨_,rfl⟩
  rw [← hB] at h3 ⊢
  have h4:=h3.radd fr (-1)
  obtain ⟨N,hN⟩:∃N,N=radd d B.1 fr (-1):=⟨_,rfl⟩
  rw [← hN] at h4 ⊢
  obtain ⟨C,hC⟩:∃C,C=eset d N.1 l1 i ⟨1,T.2.1⟩:=⟨_,rfl⟩
  rw [← hC]
  refine' walkW (zaa hd1 hd2 hT.symm hB.symm hN.symm hC.symm) (za zad <| za zeD <| za zfm <| za zba <| za zdn <| zb _)
  all_goals (clear h1 h2 h3 h4 hT hB hC hN e1 e2 hd1 hd2;simp_all;done)
@[go_sem] noncomputable def zeE:Ent Tryz.prog 142:= .m6 zq zA zcQ (intT .i64) (intT .i64) (intT .i64) zjP
open Go Go.Proofs
theorem znz (d:Disk) (p:Plan) (g:Geom) (k:Int) (hp:DP d p∧g.host≤1000000∧g.guest≤1000000):AC 93 [diskA d,planA p,geomA g,.d (.int .i64 k)] (.tup [planA (pown d p g k).1,.d (.int .i64 (pown d p g k).2.1),.d (.int .i64 (pown d p g k).2.2)]):=by
 obtain ⟨h,hg,hh⟩:=hp
 refine fbod Tryz.func93 Tryz.ntmps93 (fun base=>?_)
 by_cases hk:k<0∨g.guest≤k
 ·have hdec:(decide (k<0)||decide (g.guest≤k))=true:=by simpa using hk
  refine' walkW hdec (za zae <| za zbR <| za zM <| za zeE <| zb _)
  rw [pown,if_pos hk]
 have hdec:(decide (k<0)||decide (g.guest≤k))=false:=by simpa using hk
 rw [pown,if_neg hk]
 obtain ⟨R,hR⟩:∃R,R=zP d p:=⟨_,rfl⟩
 rw [← hR]
 have hw1:IntKind.i64.wrap (k.tdiv 16)=k / 16:=by rw [Int.tdiv_eq_ediv_of_nonneg (by omega),zh (by omega) (by omega)]
 obtain ⟨I,hI⟩:∃I,I=k / 16:=⟨_,rfl⟩
 rw [← hI]
 obtain ⟨X,hX⟩:∃X,X=eget d p R.1.l1 I:=⟨_,rfl⟩
 obtain ⟨N,hN⟩:∃N,N=rget d p X.1.loc:=⟨_,rfl⟩
 rw [pown2,← hX,← hN]
 refine' walkW (zaa hdec hw1 hR.symm hI.symm hX.symm hN.symm) (za zae <| za zbR <| za zM <| za zeE <| zb _)
 all_goals (clear hR hI hX hN hw1 hdec;first|(simp_all;done)|(simp_all;simp only [if_neg (show ¬N.1≤1 by omega)];simp;done))
@[go_sem] noncomputable def zgf:Ent Tryz.prog 93:= .m4 zq zA zcQ (intT .i64) znz
theorem zjQ (d:Disk) (p:Plan) (g:Geom) (k:Int) (x:Ent2) (hp:DP d p∧g.host≤1000000∧g.guest≤1000000):AC 44 [diskA d,planA p,geomA g,.d (.int .i64 k),entA x] (.tup [planA (ppoint d p g k x).1,.d (.int .i64 (ppoint d p g k x).2)]):=by
 obtain ⟨h,hg,hh⟩:=hp
 refine fbod Tryz.func44 Tryz.ntmps44 (fun base=>?_)
 have h1:=h.pown g k
 by_cases he:(pown d p g k).2.2=0
 ·have hb:((pown d p g k).2.2 !=0)=false:=by simpa using he
  have hk0:0≤k∧k<g.guest:=by
   unfold pown at he
   by_cases hk:k<0∨g.guest≤k
   ·rw [if_pos hk] at he;cases he
   ·omega
  rw [ppoint,if_neg (by simpa using he)]
  obtain ⟨O,hO⟩:∃O,O=pown d p g k:=⟨_,rfl⟩
  rw [← hO] at h1 ⊢
  have hw2:k.tmod 16=k % 16:=Int.tmod_eq_emod_of_nonneg (by omega)
  obtain ⟨I,hI⟩:∃I,I=k % 16:=⟨_,rfl⟩
  obtain ⟨X,hX⟩:∃X,X=eget d O.1 O.2.1 I:=⟨_,rfl⟩
  have h2:=h1.radd X.1.loc (-1)
  obtain ⟨N,hN⟩:∃N,N=radd d O.1 X.1.loc (-1):=⟨_,rfl⟩
  rw [← hN] at h2
  obtain ⟨S,hS⟩:∃S,S=eset d N.1 O.2.1 I x:=⟨_,rfl⟩
  obtain ⟨S',hS'⟩:∃S',S'=eset d O.1 O.2.1 I x:=⟨_,rfl⟩
  rw [ze2,← hI,← hX,← hN,← hS,← hS']
  rw [← hO] at hb
  have hx1:eset d N.1 O.2.1 I ⟨x.kind,x.loc⟩=S:=hS.symm
  have hx2:eset d O.1 O.2.1 I ⟨x.kind,x.loc⟩=S':=hS'.symm
  refine' walkW (zaa hw2 hO.symm hI.symm hX.symm hN.symm (zG hb hx1 hx2)) (za zgf <| za zbR <| za zba <| za zdn <| zb _)
  all_goals (clear hO hI hX hN hS hS' hx1 hx2 hw2 h1 h2 hb;simp_all;done)
 ·have hb:((pown d p g k).2.2 !=0)=true:=by simpa using he
  refine' walkW hb (za zgf <| za zbR <| za zba <| za zdn <| zb _)
  rw [ppoint,if_pos he]
@[go_sem] noncomputable def z2:Ent Tryz.prog 44:= .m5 zq zA zcQ (intT .i64) zeC zjQ
open Go Go.Proofs
open Go Go.Proofs
def wkP (q:Plan) (g:Geom) (d:Disk) (e:Int):List AV:= [.d (.sl 1 (q.targets.map intD)),.d (.sl 1 (q.texts.map strD)),.d (.int .i64 g.guest),.d (.int .i64 g.host),.d (.str d.data),.d (.sl 2 (d.cache.map putD)),.d (.int .i64 d.fuse),.d (.bool d.off),.d (.sl 1 (d.bad.map intD)),.d (.int .i64 e)]
attribute [go_sem] wkP
theorem zgp {fl fl':Nat} {f:FuncId} {caps:List AV} {h:AHeap} {K:AHeap→Prop} {q:Plan} {g:Geom} {d:Disk} {e:Int} (hfl:∀i,(hget h i).isSome→i<fl) (hle:fl'≤fl) (hw:hget h 5=some (.var (wkP q g d e)))
  (hk:∀h',K h'→∀i,(hget h i).isSome→(hget h' i).isSome)
  (h1:e≠0→K h)
  (h2:e=0→ACallAt Tryz.prog fl f caps h (fun r h'=>∃q' e',r= .tup [planA q',.d (.int .i64 e')]∧hget h' 5=some (.var (wkP q g d e))∧K (hset h' 5 (.var (wkP q' g d e'))))):
  ACallAt Tryz.prog fl' 169 [.vp 5 0,.fn (.func f) [] caps] h (fun r h'=>r= .tup []∧K h'):=by
 refine ACall.whole (fl:=fl) ?_ hfl hle (fun r h' hr=>hk h' hr.2)
 refine bod Tryz.func169 Tryz.ntmps169 (fun base=>?_)
 cases he:(e==0) with
 |false=>
  have he':e≠0:=by simpa using he
  simp only [wkP] at hw
  refine' zc (zF hw he)
  exact h1 he'
 |true=>
  have he':e=0:=by simpa using he
  have h2:=h2 he'
  simp only [wkP] at hw
  refine' zc (zF hw he)
  refine h2.mono ?_
  rintro r h' ⟨q',e',rfl,hw',hK⟩
  simp only [wkP] at hw'
  have hs1:∀o,hget (hset h' 5 o) 5=some o:=fun o=>zf hw'
  have hs2:∀a b,hset (hset h' 5 a) 5 b=hset h' 5 b:=fun a b=>ze3 h' 5 a b
  simp only [go_sem,hw',hs1,hs2]
  refine' zc (zG hw' hs1 hs2)
structure Wk where
 q:Plan
 e:Int
def wcount (d:Disk) (s:Wk) (k by_:Int):Wk:=if s.e≠0 then s else ⟨(radd d s.q k by_).1,(radd d s.q k by_).2⟩
def wset (d:Disk) (s:Wk) (t i:Int) (x:Ent2):Wk:=if s.e≠0 then s else ⟨(eset d s.q t i x).1,(eset d s.q t i x).2⟩
def wget (d:Disk) (s:Wk) (t i:Int):Ent2×Wk:=if s.e≠0 then (⟨0,0⟩,s) else ((eget d s.q t i).1,⟨s.q,(eget d s.q t i).2⟩)
def zci (d:Disk) (s:Wk) (k:Int):Int×Wk:=if s.e≠0 then (0,s) else ((rget d s.q k).1,⟨s.q,(rget d s.q k).2⟩)
@[go_sem] abbrev zkV (g:Geom) (d:Disk) (s:Wk) (k by_:Int):AHeap:= [(42,.var [.d (.int .i64 by_)]),(41,.var [.d (.int .i64 k)]),(40,.var [.vp 5 0]),(5,.var (wkP s.q g d s.e))]
theorem znT (g:Geom) (d:Disk) (s:Wk) (k by_:Int) (h:DP d s.q):ACall Tryz.prog 178 80 [.vp 40 0,.vp 41 0,.vp 42 0] (zkV g d s k by_) (fun r h'=>r= .tup [planA (radd d s.q k by_).1,.d (.int .i64 (radd d s.q k by_).2)]∧h'=zkV g d s k by_):=by
 refine zV (fun i=>decide (i<80)) ?_
 refine bod Tryz.func178 Tryz.ntmps178 (fun base=>?_)
 refine' walkW fx (za zaU <| za zb4 <| za zbm <| za zj <| za zx <| za zn <| za za4 <| za zbB <| zb _)
theorem zkW (g:Geom) (d:Disk) (s:Wk) (k by_:Int) (h:DP d s.q):ACall Tryz.prog 139 40 [.vp 5 0,.d (.int .i64 k),.d (.int .i64 by_)] [(5,.var (wkP s.q g d s.e))] (fun r h'=>∃ob',h'= [(5,ob')]∧r= .tup []∧ob'= .var (wkP (wcount d s k by_).q g d (wcount d s k by_).e)):=by
 refine zV (fun i=>decide (i<40)) ?_
 refine bod Tryz.func139 Tryz.ntmps139 (fun base=>?_)
 refine' zc fx
 refine (zgp (fl:=60) (K:=fun h'=>(s.e≠0∧h'=zkV g d s k by_)∨(s.e=0∧h'=hset (zkV g d s k by_) 5 (.var (wkP (radd d s.q k by_).1 g d (radd d s.q k by_).2)))) (zR rfl) (by omega) rfl ?_ ?_ ?_).mono ?_
 ·rintro h' (⟨_,rfl⟩|⟨_,rfl⟩) i hi
  ·exact hi
  ·rw [zat (by rfl)]
   revert hi
   simp only [hget]
   repeat' split
   all_goals simp
 ·intro he;exact .inl ⟨he,rfl⟩
 ·intro he
  refine ((znT g d s k by_ h).whole (zR rfl) (by omega) (by
   rintro r h' ⟨_,rfl⟩ i hi
   revert hi
   simp only [hget]
   repeat' split
   all_goals simp)).mono ?_
  rintro r h' ⟨rfl,rfl⟩
  exact ⟨_,_,rfl,rfl,.inr ⟨he,rfl⟩⟩
 ·rintro r h' ⟨rfl,(⟨he,rfl⟩|⟨he,rfl⟩)⟩
  ·have hm:wcount d s k by_=s:=by rw [wcount,if_pos he]
   rw [hm]
   refine' zc fx
   all_goals first|rfl|exact ⟨_,rfl,rfl⟩|exact ⟨_,rfl,by rw [hm]⟩|skip
  ·have hm:wcount d s k by_=⟨(radd d s.q k by_).1,(radd d s.q k by_).2⟩:=by rw [wcount,if_neg (by rw [he];decide)]
   rw [hm]
   refine' zc fx
   all_goals first|rfl|exact ⟨_,rfl,rfl⟩|exact ⟨_,rfl,by rw [hm]⟩|skip
@[go_sem] abbrev hSet (g:Geom) (d:Disk) (s:Wk) (t i:Int) (x:Ent2):AHeap:= [(43,.var [.d (.int .i64 x.kind),.d (.int .i64 x.loc)]),(42,.var [.d (.int .i64 i)]),(41,.var [.d (.int .i64 t)]),(40,.var [.vp 5 0]),(5,.var (wkP s.q g d s.e))]
theorem zqR (g:Geom) (d:Disk) (s:Wk) (t i:Int) (x:Ent2) (h:DP d s.q):ACall Tryz.prog 179 80 [.vp 40 0,.vp 41 0,.vp 42 0,.vp 43 0] (hSet g d s t i x) (fun r h'=>r= .tup [planA (eset d s.q t i x).1,.d (.int .i64 (eset d s.q t i x).2)]∧h'=hSet g d s t i x):=by
 refine zV (fun i=>decide (i<80)) ?_
 refine bod Tryz.func179 Tryz.ntmps179 (fun base=>?_)
 refine' walkW fx (za zaU <| za zb4 <| za zbm <| za zj <| za zx <| za zn <| za za4 <| za zbB <| zb _)
theorem zkX (g:Geom) (d:Disk) (s:Wk) (t i:Int) (x:Ent2) (h:DP d s.q):ACall Tryz.prog 140 40 [.vp 5 0,.d (.int .i64 t),.d (.int .i64 i),entA x] [(5,.var (wkP s.q g d s.e))] (fun r h'=>∃ob',h'= [(5,ob')]∧r= .tup []∧ob'= .var (wkP (wset d s t i x).q g d (wset d s t i x).e)):=by
 refine zV (fun i=>decide (i<40)) ?_
 refine bod Tryz.func140 Tryz.ntmps140 (fun base=>?_)
 refine' zc fx
 refine (zgp (fl:=60) (K:=fun h'=>(s.e≠0∧h'=hSet g d s t i x)∨(s.e=0∧h'=hset (hSet g d s t i x) 5 (.var (wkP (eset d s.q t i x).1 g d (eset d s.q t i x).2)))) (zR rfl) (by omega) rfl ?_ ?_ ?_).mono ?_
 ·rintro h' (⟨_,rfl⟩|⟨_,rfl⟩) i hi
  ·exact hi
  ·rw [zat (by rfl)]
   revert hi
   simp only [hget]
   repeat' split
   all_goals simp
 ·intro he;exact .inl ⟨he,rfl⟩
 ·intro he
  refine ((zqR g d s t i x h).whole (zR rfl) (by omega) (by
   rintro r h' ⟨_,rfl⟩ i hi
   revert hi
   simp only [hget]
   repeat' split
   all_goals simp)).mono ?_
  rintro r h' ⟨rfl,rfl⟩
  exact ⟨_,_,rfl,rfl,.inr ⟨he,rfl⟩⟩
 ·rintro r h' ⟨rfl,(⟨he,rfl⟩|⟨he,rfl⟩)⟩
  ·have hm:wset d s t i x=s:=by rw [wset,if_pos he]
   rw [hm]
   refine' zc fx
   all_goals first|rfl|exact ⟨_,rfl,rfl⟩|exact ⟨_,rfl,by rw [hm]⟩|skip
  ·have hm:wset d s t i x=⟨(eset d s.q t i x).1,(eset d s.q t i x).2⟩:=by rw [wset,if_neg (by rw [he];decide)]
   rw [hm]
   refine' zc fx
   all_goals first|rfl|exact ⟨_,rfl,rfl⟩|exact ⟨_,rfl,by rw [hm]⟩|skip
@[go_sem] abbrev hGet (g:Geom) (d:Disk) (s:Wk) (t i:Int):AHeap:= [(43,.var [.d (.int .i64 0),.d (.int .i64 0)]),(42,.var [.d (.int .i64 i)]),(41,.var [.d (.int .i64 t)]),(40,.var [.vp 5 0]),(5,.var (wkP s.q g d s.e))]
@[go_sem] abbrev hGet2 (g:Geom) (d:Disk) (s:Wk) (t i:Int):AHeap:= [(43,.var [.d (.int .i64 (eget d s.q t i).1.kind),.d (.int .i64 (eget d s.q t i).1.loc)]),(42,.var [.d (.int .i64 i)]),(41,.var [.d (.int .i64 t)]),(40,.var [.vp 5 0]),(5,.var (wkP s.q g d s.e))]
theorem zqS (g:Geom) (d:Disk) (s:Wk) (t i:Int) (h:DP d s.q):ACall Tryz.prog 177 80 [.vp 40 0,.vp 41 0,.vp 42 0,.vp 43 0] (hGet g d s t i) (fun r h'=>r= .tup [planA s.q,.d (.int .i64 (eget d s.q t i).2)]∧h'=hGet2 g d s t i):=by
 refine zV (fun i=>decide (i<80)) ?_
 refine bod Tryz.func177 Tryz.ntmps177 (fun base=>?_)
 refine' walkW fx (za zaU <| za zb4 <| za zbm <| za zj <| za zx <| za zn <| za za4 <| za zbB <| zb _)
theorem zpZ (g:Geom) (d:Disk) (s:Wk) (t i:Int) (h:DP d s.q):ACall Tryz.prog 138 40 [.vp 5 0,.d (.int .i64 t),.d (.int .i64 i)] [(5,.var (wkP s.q g d s.e))] (fun r h'=>∃ob',h'= [(5,ob')]∧r=entA (wget d s t i).1∧ob'= .var (wkP ((wget d s t i).2).q g d ((wget d s t i).2).e)):=by
 refine zV (fun i=>decide (i<40)) ?_
 refine bod Tryz.func138 Tryz.ntmps138 (fun base=>?_)
 refine' zc fx
 refine (zgp (fl:=60) (K:=fun h'=>(s.e≠0∧h'=hGet g d s t i)∨(s.e=0∧h'=hset (hGet2 g d s t i) 5 (.var (wkP s.q g d (eget d s.q t i).2)))) (zR rfl) (by omega) rfl ?_ ?_ ?_).mono ?_
 ·rintro h' (⟨_,rfl⟩|⟨_,rfl⟩) i hi
  ·exact hi
  ·rw [zat (by rfl)]
   revert hi
   simp only [hget]
   repeat' split
   all_goals simp
 ·intro he;exact .inl ⟨he,rfl⟩
 ·intro he
  refine ((zqS g d s t i h).whole (zR rfl) (by omega) (by
   rintro r h' ⟨_,rfl⟩ i hi
   revert hi
   simp only [hget]
   repeat' split
   all_goals simp)).mono ?_
  rintro r h' ⟨rfl,rfl⟩
  exact ⟨_,_,rfl,rfl,.inr ⟨he,rfl⟩⟩
 ·rintro r h' ⟨rfl,(⟨he,rfl⟩|⟨he,rfl⟩)⟩
  ·have hm:wget d s t i=(⟨0,0⟩,s):=by rw [wget,if_pos he]
   refine' zc hm
   all_goals first|rfl|exact ⟨_,rfl,rfl⟩|exact ⟨_,rfl,by rw [hm]⟩|skip
  ·have hm:wget d s t i=((eget d s.q t i).1,⟨s.q,(eget d s.q t i).2⟩):=by rw [wget,if_neg (by rw [he];decide)]
   refine' zc hm
   all_goals first|rfl|exact ⟨_,rfl,rfl⟩|exact ⟨_,rfl,by rw [hm]⟩|skip
@[go_sem] abbrev zkY (g:Geom) (d:Disk) (s:Wk) (k:Int):AHeap:= [(42,.var [.d (.int .i64 0)]),(41,.var [.d (.int .i64 k)]),(40,.var [.vp 5 0]),(5,.var (wkP s.q g d s.e))]
@[go_sem] abbrev zi2 (g:Geom) (d:Disk) (s:Wk) (k:Int):AHeap:= [(42,.var [.d (.int .i64 (rget d s.q k).1)]),(41,.var [.d (.int .i64 k)]),(40,.var [.vp 5 0]),(5,.var (wkP s.q g d s.e))]
theorem zj8 (g:Geom) (d:Disk) (s:Wk) (k:Int) (h:DP d s.q):ACall Tryz.prog 195 80 [.vp 40 0,.vp 41 0,.vp 42 0] (zkY g d s k) (fun r h'=>r= .tup [planA s.q,.d (.int .i64 (rget d s.q k).2)]∧h'=zi2 g d s k):=by
 refine zV (fun i=>decide (i<80)) ?_
 refine bod Tryz.func195 Tryz.ntmps195 (fun base=>?_)
 refine' walkW fx (za zaU <| za zb4 <| za zbm <| za zj <| za zx <| za zn <| za za4 <| za zbB <| zb _)
theorem zl8 (g:Geom) (d:Disk) (s:Wk) (k:Int) (h:DP d s.q):ACall Tryz.prog 174 40 [.vp 5 0,.d (.int .i64 k)] [(5,.var (wkP s.q g d s.e))] (fun r h'=>∃ob',h'= [(5,ob')]∧r= .d (.int .i64 (zci d s k).1)∧ob'= .var (wkP ((zci d s k).2).q g d ((zci d s k).2).e)):=by
 refine zV (fun i=>decide (i<40)) ?_
 refine bod Tryz.func174 Tryz.ntmps174 (fun base=>?_)
 refine' zc fx
 refine (zgp (fl:=60) (K:=fun h'=>(s.e≠0∧h'=zkY g d s k)∨(s.e=0∧h'=hset (zi2 g d s k) 5 (.var (wkP s.q g d (rget d s.q k).2)))) (zR rfl) (by omega) rfl ?_ ?_ ?_).mono ?_
 ·rintro h' (⟨_,rfl⟩|⟨_,rfl⟩) i hi
  ·exact hi
  ·rw [zat (by rfl)]
   revert hi
   simp only [hget]
   repeat' split
   all_goals simp
 ·intro he;exact .inl ⟨he,rfl⟩
 ·intro he
  refine ((zj8 g d s k h).whole (zR rfl) (by omega) (by
   rintro r h' ⟨_,rfl⟩ i hi
   revert hi
   simp only [hget]
   repeat' split
   all_goals simp)).mono ?_
  rintro r h' ⟨rfl,rfl⟩
  exact ⟨_,_,rfl,rfl,.inr ⟨he,rfl⟩⟩
 ·rintro r h' ⟨rfl,(⟨he,rfl⟩|⟨he,rfl⟩)⟩
  ·have hm:zci d s k=(0,s):=by rw [zci,if_pos he]
   refine' zc hm
   all_goals first|rfl|exact ⟨_,rfl,rfl⟩|exact ⟨_,rfl,by rw [hm]⟩|skip
  ·have hm:zci d s k=((rget d s.q k).1,⟨s.q,(rget d s.q k).2⟩):=by rw [zci,if_neg (by rw [he];decide)]
   refine' zc hm
   all_goals first|rfl|exact ⟨_,rfl,rfl⟩|exact ⟨_,rfl,by rw [hm]⟩|skip
open Go Go.Proofs
def zcc (d:Disk) (g:Geom) (s:Wk):Int×Wk:=if s.e≠0 then (0,s) else ((rtake d s.q g).2.1,⟨(rtake d s.q g).1,(rtake d s.q g).2.2⟩)
def wtake (d:Disk) (g:Geom) (s:Wk) (F:Plan→Int→Plan×Int):Int×Wk:=
 ((zcc d g s).1,if (zcc d g s).2.e≠0 then (zcc d g s).2 else ⟨(F (zcc d g s).2.q (zcc d g s).1).1,(F (zcc d g s).2.q (zcc d g s).1).2⟩)
@[go_sem] abbrev hOwn (g:Geom) (d:Disk) (s:Wk) (x:Ent2) (l1 nx:Int):AHeap:= [(22,.var [.d (.int .i64 x.kind),.d (.int .i64 x.loc)]),(5,.var (wkP s.q g d s.e)),(21,.var [.d (.int .i64 l1),.d (.int .u32 nx)]),(20,.var [.vp 5 0])]
@[go_sem] abbrev hTak (g:Geom) (d:Disk) (s:Wk) (x:Ent2) (l1 nx:Int) (f:FuncId) (caps:List AV) (k:Int):AHeap:= [(42,.var [.d (.int .i64 k)]),(41,.var [.fn (.func f) [] caps]),(40,.var [.vp 5 0]),(22,.var [.d (.int .i64 x.kind),.d (.int .i64 x.loc)]),(5,.var (wkP s.q g d s.e)),(21,.var [.d (.int .i64 l1),.d (.int .u32 nx)]),(20,.var [.vp 5 0])]
theorem zpo (g:Geom) (d:Disk) (s:Wk) (x:Ent2) (l1 nx:Int) (f:FuncId) (caps:List AV) (hcap:AV.idsL caps= [20]∨AV.idsL caps= [20,22]) (h:DP d s.q) (hg:g.host≤1000000):ACall Tryz.prog 191 80 [.vp 40 0,.vp 42 0] (hTak g d s x l1 nx f caps 0) (fun r h'=>r= .tup [planA (rtake d s.q g).1,.d (.int .i64 (rtake d s.q g).2.2)]∧h'=hTak g d s x l1 nx f caps (rtake d s.q g).2.1):=by
 refine zV (fun i=>decide (i<80)) ?_
 refine bod Tryz.func191 Tryz.ntmps191 (fun base=>?_)
 refine' walkW fx (za zaU <| za zb4 <| za zbm <| za zj <| za zx <| za zn <| za za4 <| za zbB <| zb _)
 rcases hcap with e|e<;>(rw [e];rfl)
@[go_sem] abbrev hFil (g:Geom) (d:Disk) (s:Wk) (x:Ent2) (l1 nx:Int) (f:FuncId) (caps:List AV) (k:Int):AHeap:=(80,.var [.nils 1,.nils 1])::hTak g d s x l1 nx f caps k
theorem zpp (g:Geom) (d:Disk) (s:Wk) (x:Ent2) (l1 nx:Int) (f:FuncId) (caps:List AV) (k:Int) (F:Plan×Int) (hcap:AV.idsL caps= [20]∨AV.idsL caps= [20,22])
  (hF:ACallAt Tryz.prog 80 f (.d (.int .i64 k)::caps) (hFil g d s x l1 nx f caps k) (fun r h'=>r= .tup [planA F.1,.d (.int .i64 F.2)]∧h'=hFil g d s x l1 nx f caps k)):ACall Tryz.prog 192 80 [.vp 41 0,.vp 42 0] (hTak g d s x l1 nx f caps k) (fun r h'=>r= .tup [planA F.1,.d (.int .i64 F.2)]∧h'=hTak g d s x l1 nx f caps k):=by
 refine zV (fun i=>decide (i<80)) ?_
 refine bod Tryz.func192 Tryz.ntmps192 (fun base=>?_)
 refine' zc fx
 refine hF.mono ?_
 rintro r h' ⟨rfl,rfl⟩
 simp only [go_sem,aeq,aeq.aeqF,simprocAttr]
 refine' zc fx
 rcases hcap with e|e<;>(rw [e];rfl)
theorem zkZ (g:Geom) (d:Disk) (s:Wk) (x:Ent2) (l1 nx:Int) (f:FuncId) (caps:List AV) (F:Plan→Int→Plan×Int) (hcap:AV.idsL caps= [20]∨AV.idsL caps= [20,22]) (h:DP d s.q) (hg:g.host≤1000000)
  (hF:∀ (s1:Wk) (k:Int),DP d s1.q→ACallAt Tryz.prog 80 f (.d (.int .i64 k)::caps) (hFil g d s1 x l1 nx f caps k) (fun r h'=>r= .tup [planA (F s1.q k).1,.d (.int .i64 (F s1.q k).2)]∧h'=hFil g d s1 x l1 nx f caps k)):
  ACall Tryz.prog 171 40 [.vp 5 0,.fn (.func f) [] caps] (hOwn g d s x l1 nx) (fun r h'=>r= .d (.int .i64 (wtake d g s F).1)∧h'=hOwn g d (wtake d g s F).2 x l1 nx):=by
 refine zV (fun i=>decide (i<40)) ?_
 refine bod Tryz.func171 Tryz.ntmps171 (fun base=>?_)
 refine' zc fx
 obtain ⟨s1,hs1⟩:∃s1,s1=(zcc d g s).2:=⟨_,rfl⟩
 obtain ⟨k,hk⟩:∃k,k=(zcc d g s).1:=⟨_,rfl⟩
 have hd1:DP d s1.q:=by rw [hs1];unfold zcc;split;exact h;exact h.rtake g
 refine (zgp (fl:=60) (q:=s.q) (g:=g) (d:=d) (e:=s.e) (K:=fun h'=>h'=hTak g d s1 x l1 nx f caps k) (zR rfl) (by omega) rfl ?_ ?_ ?_).mono ?_
 ·rintro h' rfl i hi
  revert hi
  simp only [hget]
  repeat' split
  all_goals simp
 ·intro he
  rw [hs1,hk,zcc,if_pos he]
  rfl
 ·intro he
  refine ((zpo g d s x l1 nx f caps hcap h hg).whole (zR rfl) (by omega) (by
   rintro r h' ⟨_,rfl⟩ i hi
   revert hi
   simp only [hget]
   repeat' split
   all_goals simp)).mono ?_
  rintro r h' ⟨rfl,rfl⟩
  refine ⟨_,_,rfl,rfl,?_⟩
  rw [hs1,hk,zcc,if_neg (by rw [he];decide)]
  rfl
 rintro r h' ⟨rfl,rfl⟩
 refine' zc fx
 refine (zgp (fl:=60) (q:=s1.q) (g:=g) (d:=d) (e:=s1.e) (K:=fun h'=>h'=hTak g d (wtake d g s F).2 x l1 nx f caps k) (zR rfl) (by omega) rfl ?_ ?_ ?_).mono ?_
 ·rintro h' rfl i hi
  revert hi
  simp only [hget]
  repeat' split
  all_goals simp
 ·intro he
  rw [wtake,← hs1,← hk,if_pos he]
  rfl
 ·intro he
  refine ((zpp g d s1 x l1 nx f caps k (F s1.q k) hcap (hF s1 k hd1)).whole (zR rfl) (by omega) (by
   rintro r h' ⟨_,rfl⟩ i hi
   revert hi
   simp only [hget]
   repeat' split
   all_goals simp)).mono ?_
  rintro r h' ⟨rfl,rfl⟩
  refine ⟨_,_,rfl,rfl,?_⟩
  rw [wtake,← hs1,← hk,if_neg (by rw [he];decide)]
  rfl
 rintro r h' ⟨rfl,rfl⟩
 refine' zc fx
 rw [wtake,← hk]
theorem zqT (g:Geom) (d:Disk) (s1:Wk) (x:Ent2) (l1 nx:Int) (k:Int) (h:DP d s1.q):ACallAt Tryz.prog 80 172 (.d (.int .i64 k):: [.vp 20 0]) (hFil g d s1 x l1 nx 172 [.vp 20 0] k) (fun r h'=>r= .tup [planA (eblank s1.q k).1,.d (.int .i64 (eblank s1.q k).2)]∧h'=hFil g d s1 x l1 nx 172 [.vp 20 0] k):=by
 have hp:=h.p
 refine ACall.whole (fl:=100) ?_ (zR rfl) (by omega) (by rintro r h' ⟨_,rfl⟩ i hi;exact hi)
 refine zV (fun i=>decide (i<100)) ?_
 refine bod Tryz.func172 Tryz.ntmps172 (fun base=>?_)
 refine' walkW fx (za zaU <| za zb4 <| za zbm <| za zj <| za zx <| za zn <| za za4 <| za zbB <| zb _)
theorem zqU (g:Geom) (d:Disk) (s1:Wk) (x:Ent2) (l1 nx:Int) (k:Int) (h:DP d s1.q):ACallAt Tryz.prog 80 175 (.d (.int .i64 k):: [.vp 20 0,.vp 22 0]) (hFil g d s1 x l1 nx 175 [.vp 20 0,.vp 22 0] k) (fun r h'=>r= .tup [planA (ecopy d s1.q x.loc k).1,.d (.int .i64 (ecopy d s1.q x.loc k).2)]∧h'=hFil g d s1 x l1 nx 175 [.vp 20 0,.vp 22 0] k):=by
 refine ACall.whole (fl:=100) ?_ (zR rfl) (by omega) (by rintro r h' ⟨_,rfl⟩ i hi;exact hi)
 refine zV (fun i=>decide (i<100)) ?_
 refine bod Tryz.func175 Tryz.ntmps175 (fun base=>?_)
 refine' walkW fx (za zaU <| za zb4 <| za zbm <| za zj <| za zx <| za zn <| za za4 <| za zbB <| zb _)
@[go_sem] abbrev hOw1 (g:Geom) (d:Disk) (s:Wk) (l1 nx:Int):AHeap:= [(21,.var [.d (.int .i64 l1),.d (.int .u32 nx)]),(20,.var [.vp 5 0]),(5,.var (wkP s.q g d s.e))]
theorem zqV (g:Geom) (d:Disk) (s:Wk) (h:DP d s.q):ACall Tryz.prog 170 80 [.vp 20 0,.vp 21 0] (hOw1 g d s 0 0) (fun r h'=>r= .tup [planA s.q,.d (.int .i64 (zP d s.q).2)]∧h'=hOw1 g d s (zP d s.q).1.l1 (zP d s.q).1.next):=by
 refine zV (fun i=>decide (i<80)) ?_
 refine bod Tryz.func170 Tryz.ntmps170 (fun base=>?_)
 refine' walkW fx (za zaU <| za zb4 <| za zbm <| za zj <| za zx <| za zn <| za za4 <| za zbB <| zb _)
open Go Go.Proofs
def wless (d:Disk) (s:Wk) (fr:Int):Wk:=if fr<0 then s else wcount d s fr (-1)
def wnew (d:Disk) (p:Plan) (g:Geom) (l1 i fr:Int):Int×Wk:=
 ((wtake d g ⟨p,0⟩ (fun q k=>pfill d q fr k)).1,wset d (wless d (wtake d g ⟨p,0⟩ (fun q k=>pfill d q fr k)).2 fr) l1 i ⟨1,(wtake d g ⟨p,0⟩ (fun q k=>pfill d q fr k)).1⟩)
theorem DP.wtake {d:Disk} {s:Wk} {g:Geom} {F:Plan→Int→Plan×Int} (h:DP d s.q) (hF:∀q k,DP d q→DP d (F q k).1):DP d (wtake d g s F).2.q:=by
 have h1:DP d (zcc d g s).2.q:=by
  unfold zcc;split
  ·exact h
  ·exact h.rtake g
 unfold Aw.wtake
 show DP d (if (zcc d g s).2.e≠0 then _ else _:Wk).q
 split
 ·exact h1
 ·exact hF _ _ h1
theorem DP.wcount {d:Disk} {s:Wk} (h:DP d s.q) (k b:Int):DP d (wcount d s k b).q:=by
 unfold Aw.wcount;split
 ·exact h
 ·exact h.radd _ _
theorem DP.wset {d:Disk} {s:Wk} (h:DP d s.q) (t i:Int) (x:Ent2):DP d (wset d s t i x).q:=by
 unfold Aw.wset;split
 ·exact h
 ·exact h.eset _ _ _
theorem znU {d:Disk} {p:Plan} {g:Geom} {l1 i fr:Int} (h:DP d p):(wnew d p g l1 i fr).2.e=(pfresh d p g l1 i fr).2.2∧((wnew d p g l1 i fr).2.e=0→(wnew d p g l1 i fr).2.q=(pfresh d p g l1 i fr).1∧(wnew d p g l1 i fr).1=(pfresh d p g l1 i fr).2.1)∧DP d (wnew d p g l1 i fr).2.q:=by
 refine ⟨?_,?_,?_⟩
 rotate_left
 rotate_left
 ·have hw:=DP.wtake (d:=d) (s:=⟨p,0⟩) (g:=g) (F:=fun q k=>pfill d q fr k) h (fun q k hq=>hq.pfill fr k)
  unfold wnew
  refine DP.wset ?_ _ _ _
  unfold wless;split
  ·exact hw
  ·exact hw.wcount _ _
 all_goals by_cases h1:(rtake d p g).2.2=0<;>by_cases h2:(pfill d (rtake d p g).1 fr (rtake d p g).2.1).2=0<;>by_cases h3:fr<0
 all_goals simp only [wnew,pfresh,wtake,zcc,wless,pless,wcount,wset,h1,h2,h3,ne_eq,not_true_eq_false,not_false_eq_true,if_true,if_false,ite_true,ite_false,implies_true,true_implies,and_self]
 all_goals clear h
 all_goals (repeat' split)<;>simp_all
def OwnR (d:Disk) (p:Plan) (g:Geom) (guest:Int) (r:AV) (ob:AObj):Prop:=
 ∃ (k:Int) (s:Wk),r= .d (.int .i64 k)∧ob= .var (wkP s.q g d s.e)∧s.e=(pown d p g guest).2.2∧(s.e=0→s.q=(pown d p g guest).1∧k=(pown d p g guest).2.1)∧DP d s.q
theorem zrG (g:Geom) (d:Disk) (p:Plan) (guest:Int) (h:DP d p) (hg:g.host≤1000000) (hgg:g.guest≤1000000):ACall Tryz.prog 137 20 [.vp 5 0,.d (.int .i64 guest)] [(5,.var (wkP p g d 0))] (fun r h'=>∃ob',h'= [(5,ob')]∧OwnR d p g guest r ob'):=by
 refine zV (fun i=>decide (i<20)) ?_
 refine bod Tryz.func137 Tryz.ntmps137 (fun base=>?_)
 by_cases hr:guest<0∨g.guest≤guest
 ·have hdec:(decide (guest<0)||decide (g.guest≤guest))=true:=by simpa using hr
  refine' zc hdec
  all_goals first|rfl|exact ⟨_,rfl,0,⟨p,10⟩,rfl,rfl,by rw [pown,if_pos hr],(fun e=>absurd e (show ¬(10:Int)=0 by decide)),h⟩
 have hdec:(decide (guest<0)||decide (g.guest≤guest))=false:=by simpa using hr
 have hw1:IntKind.i64.wrap (guest.tdiv 16)=guest / 16:=by
  rw [not_or] at hr
  rw [Int.tdiv_eq_ediv_of_nonneg (by omega)]
  exact zh (by omega) (by omega)
 refine' zc hdec
 obtain ⟨R,hR⟩:∃R,R=zP d p:=⟨_,rfl⟩
 refine (zgp (fl:=40) (q:=p) (g:=g) (d:=d) (e:=0) (K:=fun h'=>h'=hOw1 g d ⟨p,R.2⟩ R.1.l1 R.1.next) (zR rfl) (by omega) rfl ?_ (fun e=>absurd rfl e) ?_).mono ?_
 ·rintro h' rfl i hi
  revert hi
  simp only [hget]
  repeat' split
  all_goals simp
 ·intro he
  refine ((zqV g d ⟨p,0⟩ h).whole (zR rfl) (by omega) (by
   rintro r h' ⟨_,rfl⟩ i hi
   revert hi
   simp only [hget]
   repeat' split
   all_goals simp)).mono ?_
  rintro r h' ⟨rfl,rfl⟩
  refine ⟨_,_,rfl,rfl,?_⟩
  rw [hR]
  rfl
 rintro r h' ⟨rfl,rfl⟩
 refine' zc hw1
 obtain ⟨X,hX⟩:∃X,X=wget d ⟨p,R.2⟩ R.1.l1 (guest / 16):=⟨_,rfl⟩
 have hXq:X.2.q=p:=by rw [hX];unfold wget;split<;>rfl
 refine ((zpZ g d ⟨p,R.2⟩ R.1.l1 (guest / 16) h).one (fl':=20) rfl rfl (zR rfl) rfl (by simp [AObj.ids,AV.idsL,AV.ids,wkP]) (by simp [AV.idsL,AV.ids]) (by omega)).mono ?_
 rintro r h' ⟨ob',⟨rfl,rfl⟩,rfl⟩
 rw [← hX,hXq]
 simp only [go_sem,aeq,aeq.aeqF,simprocAttr]
 have hpn:pown d p g guest=if R.2≠0 then (p,0,R.2) else pown2 d p g R.1.l1 (guest / 16):=by rw [pown,if_neg hr,hR]
 by_cases he:X.2.e=0
 ·have hR0:R.2=0:=by
   rcases Int.lt_trichotomy R.2 0 with hh|hh|hh
   ·rw [hX,wget,if_pos (show R.2≠0 by omega)] at he;exact he
   ·exact hh
   ·rw [hX,wget,if_pos (show R.2≠0 by omega)] at he;exact he
  have hXe:X=((eget d p R.1.l1 (guest / 16)).1,⟨p,(eget d p R.1.l1 (guest / 16)).2⟩):=by rw [hX,wget,if_neg (show ¬R.2≠0 by omega)]
  have he2:(eget d p R.1.l1 (guest / 16)).2=0:=by rw [hXe] at he;exact he
  obtain ⟨hx1,_⟩:=znv he2
  have hk3:=(zdJ hx1).1
  obtain ⟨x,hx⟩:∃x,x=(eget d p R.1.l1 (guest / 16)).1:=⟨_,rfl⟩
  have hX1:X.1=x:=by rw [hXe,hx]
  rw [← hx] at hk3 hx1
  rw [hX1,he]
  have hpn2:pown d p g guest=pown2 d p g R.1.l1 (guest / 16):=by rw [hpn,if_neg (by rw [hR0];decide)]
  have hp2:pown2 d p g R.1.l1 (guest / 16)=if x.kind=2 then (p,0,14) else if x.kind=0 then pfresh d p g R.1.l1 (guest / 16) (-1) else if (rget d p x.loc).2≠0 then (p,0,(rget d p x.loc).2) else if (rget d p x.loc).1≤1 then (p,x.loc,0) else pfresh d p g R.1.l1 (guest / 16) x.loc:=by
   rw [pown2,if_neg (by rw [he2];decide),← hx]
  rw [← hpn2] at hp2
  rcases hk3 with hk|hk|hk
  ·-- nothing there
   rw [if_neg (by omega),if_pos hk] at hp2
   refine' zc hk
   refine (zkZ g d ⟨p,0⟩ ⟨0,x.loc⟩ R.1.l1 R.1.next 172 [.vp 20 0] (fun q k=>pfill d q (-1) k) (.inl rfl) h hg (fun s1 k hd=>by
    rw [show pfill d s1.q (-1) k=eblank s1.q k from if_pos (by decide)]
    exact zqT g d s1 ⟨0,x.loc⟩ R.1.l1 R.1.next k hd)).whole (fl:=40) (fl':=20) (zR rfl) (by omega) ?_ |>.mono ?_
   ·rintro r h' ⟨_,rfl⟩ i hi
    revert hi
    simp only [hget]
    repeat' split
    all_goals simp
   rintro r h' ⟨rfl,rfl⟩
   refine' zc fx
   obtain ⟨W,hW⟩:∃W,W=wtake d g ⟨p,0⟩ (fun q k=>pfill d q (-1) k):=⟨_,rfl⟩
   have hDW:DP d W.2.q:=by rw [hW];exact DP.wtake h (fun q k hq=>hq.pfill _ _)
   refine ((zkX g d (wtake d g ⟨p,0⟩ (fun q k=>pfill d q (-1) k)).2 R.1.l1 (guest / 16) ⟨1,(wtake d g ⟨p,0⟩ (fun q k=>pfill d q (-1) k)).1⟩ (by rw [← hW];exact hDW)).one (fl':=20) rfl rfl (zR rfl) rfl (by simp [AObj.ids,AV.idsL,AV.ids,wkP]) (by simp [AV.idsL,AV.ids,entA]) (by omega)).mono ?_
   rintro r h' ⟨ob',⟨rfl,rfl⟩,rfl⟩
   simp only [go_sem,aeq,aeq.aeqF,simprocAttr]
   refine' zc fx
   all_goals first|rfl|skip
   have hn:=znU (g:=g) (l1:=R.1.l1) (i:=guest / 16) (fr:= -1) h
   rw [← hp2] at hn
   exact ⟨_,rfl,(wnew d p g R.1.l1 (guest / 16) (-1)).1,(wnew d p g R.1.l1 (guest / 16) (-1)).2,rfl,rfl,hn⟩
  ·-- a table
   rw [if_neg (by omega),if_neg (by omega)] at hp2
   refine' zc hk
   refine ((zl8 g d ⟨p,0⟩ x.loc h).one (fl':=20) rfl rfl (zR rfl) rfl (by simp [AObj.ids,AV.idsL,AV.ids,wkP]) (by simp [AV.idsL,AV.ids]) (by omega)).mono ?_
   rintro r h' ⟨ob',⟨rfl,rfl⟩,rfl⟩
   have hwc:zci d ⟨p,0⟩ x.loc=((rget d p x.loc).1,⟨p,(rget d p x.loc).2⟩):=by rw [zci,if_neg (by simp)]
   simp only [hwc]
   simp only [go_sem,aeq,aeq.aeqF,simprocAttr]
   obtain ⟨N,hN⟩:∃N,N=rget d p x.loc:=⟨_,rfl⟩
   rw [← hN] at hp2 ⊢
   by_cases hN1:N.1≤1
   ·have hb:decide (N.1≤1)=true:=by simpa using hN1
    simp only [hb]
    refine' zc fx
    all_goals first|rfl|skip
    refine ⟨_,rfl,x.loc,⟨p,N.2⟩,rfl,rfl,?_,?_,h⟩
    ·show N.2=_
     rw [hp2]
     by_cases hN2:N.2=0
     ·rw [if_neg (by omega),if_pos hN1,hN2]
     ·rw [if_pos hN2]
    ·intro (e:N.2=0)
     rw [hp2,if_neg (by omega),if_pos hN1]
     exact ⟨rfl,rfl⟩
   ·have hb:decide (N.1≤1)=false:=by simpa using hN1
    have hN2:N.2=0:=by
     rw [hN,rget] at hN1 ⊢
     split
     ·rename_i hh;rw [if_pos hh] at hN1;exact absurd (show (0:Int)≤1 by decide) hN1
     ·rename_i hh;rw [if_neg hh] at hN1
      split
      ·rename_i hh2;rw [if_pos hh2] at hN1;exact absurd (show (0:Int)≤1 by decide) hN1
      ·rfl
    rw [if_neg (by omega),if_neg hN1] at hp2
    simp only [hb,hN2]
    refine' zeV (zbj 9) fx
    refine aw_le ⟨[(2,true,.vp 20 0),(5,true,.vp 21 0),(6,true,.d (.int .i64 (guest / 16))),(7,true,.vp 22 0)],hOwn g d ⟨p,0⟩ ⟨1,x.loc⟩ R.1.l1 R.1.next,some []⟩ (by simp only [AS.le,leT,leH,zi,AsgK,AV.le,AV.leL,AObj.le,inH,idsT,idsH,AV.ids,AV.idsL,AV.idsR,AObj.ids,lk,hget,go_sem,aeq,aeq.aeqF,simprocAttr,hOwn,wkP]) ?_
    refine' zc fx
    have hf0:¬x.loc<0:=by have:=(zdJ hx1).2.1;omega
    refine (zkZ g d ⟨p,0⟩ ⟨1,x.loc⟩ R.1.l1 R.1.next 175 [.vp 20 0,.vp 22 0] (fun q k=>pfill d q x.loc k) (.inr rfl) h hg (fun s1 k hd=>by
     rw [show pfill d s1.q x.loc k=ecopy d s1.q x.loc k from if_neg hf0]
     exact zqU g d s1 ⟨1,x.loc⟩ R.1.l1 R.1.next k hd)).whole (fl:=40) (fl':=20) (zR rfl) (by omega) ?_ |>.mono ?_
    ·rintro r h' ⟨_,rfl⟩ i hi
     revert hi
     simp only [hget]
     repeat' split
     all_goals simp
    rintro r h' ⟨rfl,rfl⟩
    refine' zc fx
    obtain ⟨W,hW⟩:∃W,W=wtake d g ⟨p,0⟩ (fun q k=>pfill d q x.loc k):=⟨_,rfl⟩
    have hDW:DP d W.2.q:=by rw [hW];exact DP.wtake h (fun q k hq=>hq.pfill _ _)
    refine ((zkW g d (wtake d g ⟨p,0⟩ (fun q k=>pfill d q x.loc k)).2 x.loc (-1) (by rw [← hW];exact hDW)).one (fl':=20) rfl rfl (zR rfl) rfl (by simp [AObj.ids,AV.idsL,AV.ids,wkP]) (by simp [AV.idsL,AV.ids]) (by omega)).mono ?_
    rintro r h' ⟨ob',⟨rfl,rfl⟩,rfl⟩
    simp only [go_sem,aeq,aeq.aeqF,simprocAttr]
    refine' zc fx
    refine ((zkX g d (wcount d (wtake d g ⟨p,0⟩ (fun q k=>pfill d q x.loc k)).2 x.loc (-1)) R.1.l1 (guest / 16) ⟨1,(wtake d g ⟨p,0⟩ (fun q k=>pfill d q x.loc k)).1⟩ (by rw [← hW];exact hDW.wcount _ _)).one (fl':=20) rfl rfl (zR rfl) rfl (by simp [AObj.ids,AV.idsL,AV.ids,wkP]) (by simp [AV.idsL,AV.ids,entA]) (by omega)).mono ?_
    rintro r h' ⟨ob',⟨rfl,rfl⟩,rfl⟩
    simp only [go_sem,aeq,aeq.aeqF,simprocAttr]
    refine' zc fx
    all_goals first|rfl|skip
    have hn:=znU (g:=g) (l1:=R.1.l1) (i:=guest / 16) (fr:=x.loc) h
    rw [← hp2] at hn
    refine ⟨_,rfl,(wnew d p g R.1.l1 (guest / 16) x.loc).1,(wnew d p g R.1.l1 (guest / 16) x.loc).2,rfl,?_,hn⟩
    rw [wnew,wless,if_neg hf0]
    rfl
  ·rw [if_pos hk] at hp2
   refine' zc hk
   all_goals first|rfl|exact ⟨_,rfl,0,⟨p,14⟩,rfl,rfl,by rw [hp2],(fun e=>absurd e (show ¬(14:Int)=0 by decide)),h⟩
 ·have hb:(X.2.e !=0)=true:=by simpa using he
  refine' zc hb
  refine ⟨_,rfl,0,⟨p,X.2.e⟩,rfl,rfl,?_,(fun e=>absurd e he),h⟩
  show X.2.e=_
  rw [hpn,hX,wget]
  by_cases hR0:R.2=0
  ·rw [if_neg (show ¬R.2≠0 by omega),if_neg (show ¬R.2≠0 by omega),pown2]
   rw [hX,wget,if_neg (show ¬R.2≠0 by omega)] at he
   rw [if_pos he]
  ·rw [if_pos hR0,if_pos hR0]
open Go Go.Proofs
theorem DP.wget {d:Disk} {s:Wk} (h:DP d s.q) (t i:Int):DP d (wget d s t i).2.q:=by
 unfold Aw.wget;split<;>exact h
def zk0 (d:Disk) (s:Wk) (y:Ent2):Wk:=if y.kind=1 then wcount d s y.loc (-1) else s
def zhf (d:Disk) (s:Wk) (k i:Int) (x:Ent2):Wk:=wset d (zk0 d (wget d s k i).2 (wget d s k i).1) k i x
theorem znV {d:Disk} {p q:Plan} {k i:Int} {x:Ent2} :(if (zhf d ⟨q,0⟩ k i x).e≠0 then (p,(zhf d ⟨q,0⟩ k i x).e) else ((zhf d ⟨q,0⟩ k i x).q,0))=ze2 d p q k i x:=by
 by_cases h1:(eget d q k i).2=0<;>by_cases h2:(eget d q k i).1.kind=1
 all_goals simp only [zhf,zk0,wget,ze2,wcount,wset,h1,h2,ne_eq,not_true_eq_false,not_false_eq_true,if_true,if_false,ite_true,ite_false,implies_true,true_implies,and_self]
 all_goals (repeat' split)<;>simp_all
theorem zpq (d:Disk) (p:Plan) (g:Geom) (k:Int) (x:Ent2) (hp:DP d p∧g.host≤1000000∧g.guest≤1000000):AC 86 [diskA d,planA p,geomA g,.d (.int .i64 k),entA x] (.tup [planA (ppoint d p g k x).1,.d (.int .i64 (ppoint d p g k x).2)]):=by
 obtain ⟨h,hg,hgg⟩:=hp
 refine bod Tryz.func86 Tryz.ntmps86 (fun base=>?_)
 refine' zc fx
 refine ((zrG g d p k h hg hgg).one (fl':=0) rfl rfl (zR rfl) rfl (by simp [AObj.ids,AV.idsL,AV.ids,wkP]) (by simp [AV.idsL,AV.ids,entA]) (by omega)).mono ?_
 rintro r h' ⟨ob',⟨t,s,rfl,rfl,he,hs,hd⟩,rfl⟩
 have hpp:ppoint d p g k x=if s.e≠0 then (p,s.e) else ze2 d p (pown d p g k).1 (pown d p g k).2.1 (k % 16) x:=by rw [ppoint,← he]
 simp only [go_sem,aeq,aeq.aeqF,simprocAttr]
 by_cases he0:s.e=0
 ·obtain ⟨hq,rfl⟩:=hs he0
  have hk0:0≤k∧k<g.guest:=by
   rw [he0] at he
   unfold pown at he
   by_cases hk:k<0∨g.guest≤k
   ·rw [if_pos hk] at he;cases he
   ·omega
  have hw2:k.tmod 16=k % 16:=Int.tmod_eq_emod_of_nonneg (by omega)
  rw [if_neg (by omega),← hq] at hpp
  obtain ⟨t,ht⟩:∃t,t=(pown d p g k).2.1:=⟨_,rfl⟩
  rw [← ht] at hpp ⊢
  simp only [he0]
  refine' zc hw2
  refine ((zpZ g d ⟨s.q,0⟩ t (k % 16) hd).one (fl':=0) rfl rfl (zR rfl) rfl (by simp [AObj.ids,AV.idsL,AV.ids,wkP]) (by simp [AV.idsL,AV.ids,entA]) (by omega)).mono ?_
  rintro r h' ⟨ob',⟨rfl,rfl⟩,rfl⟩
  simp only [go_sem,aeq,aeq.aeqF,simprocAttr]
  obtain ⟨G,hG⟩:∃G,G=wget d ⟨s.q,0⟩ t (k % 16):=⟨_,rfl⟩
  have hdG:DP d G.2.q:=by rw [hG];exact DP.wget (s:=⟨s.q,0⟩) hd _ _
  rw [← hG]
  have hfin:∀S,S=zhf d ⟨s.q,0⟩ t (k % 16) x→ppoint d p g k x=if S.e≠0 then (p,S.e) else (S.q,0):=fun S hS=>by rw [hpp,hS,znV]
  rw [zhf,← hG] at hfin
  by_cases hk1:G.1.kind=1
  ·rw [zk0,if_pos hk1] at hfin
   refine' zc (zF hw2 hk1)
   refine ((zkW g d G.2 G.1.loc (-1) hdG).one (fl':=0) rfl rfl (zR rfl) rfl (by simp [AObj.ids,AV.idsL,AV.ids,wkP]) (by simp [AV.idsL,AV.ids,entA]) (by omega)).mono ?_
   rintro r h' ⟨ob',⟨rfl,rfl⟩,rfl⟩
   simp only [go_sem,aeq,aeq.aeqF,simprocAttr]
   refine' zc hw2
   refine ((zkX g d (wcount d G.2 G.1.loc (-1)) t (k % 16) x (hdG.wcount _ _)).one (fl':=0) rfl rfl (zR rfl) rfl (by simp [AObj.ids,AV.idsL,AV.ids,wkP]) (by simp [AV.idsL,AV.ids,entA]) (by omega)).mono ?_
   rintro r h' ⟨ob',⟨rfl,rfl⟩,rfl⟩
   simp only [go_sem,aeq,aeq.aeqF,simprocAttr]
   obtain ⟨S,hS⟩:∃S,S=wset d (wcount d G.2 G.1.loc (-1)) t (k % 16) x:=⟨_,rfl⟩
   have hfin:=hfin S hS
   rw [← hS]
   by_cases hS0:S.e=0
   ·have hb:(S.e !=0)=false:=by simpa using hS0
    refine' zc hb
    all_goals rw [hfin,if_neg (by omega)]
   ·have hb:(S.e !=0)=true:=by simpa using hS0
    refine' zc hb
    all_goals rw [hfin,if_pos hS0]
  ·rw [zk0,if_neg hk1] at hfin
   have hk2:(G.1.kind==1)=false:=by simpa using hk1
   refine' zc (zF hw2 hk2)
   refine ((zkX g d G.2 t (k % 16) x hdG).one (fl':=0) rfl rfl (zR rfl) rfl (by simp [AObj.ids,AV.idsL,AV.ids,wkP]) (by simp [AV.idsL,AV.ids,entA]) (by omega)).mono ?_
   rintro r h' ⟨ob',⟨rfl,rfl⟩,rfl⟩
   simp only [go_sem,aeq,aeq.aeqF,simprocAttr]
   obtain ⟨S,hS⟩:∃S,S=wset d G.2 t (k % 16) x:=⟨_,rfl⟩
   have hfin:=hfin S hS
   rw [← hS]
   by_cases hS0:S.e=0
   ·have hb:(S.e !=0)=false:=by simpa using hS0
    refine' zc hb
    all_goals rw [hfin,if_neg (by omega)]
   ·have hb:(S.e !=0)=true:=by simpa using hS0
    refine' zc hb
    all_goals rw [hfin,if_pos hS0]
 ·have hb:(s.e !=0)=true:=by simpa using he0
  rw [if_pos he0] at hpp
  refine' zc hb
  rw [hpp]
@[go_sem] noncomputable def zN:Ent Tryz.prog 86:= .m5 zq zA zcQ (intT .i64) zeC zpq
open Go Go.Proofs
structure Dmap where
 name:Txt
 inuse:Bool
 bits:List Bool
 deriving DecidableEq
def dmapD (m:Dmap):List D:= .str m.name:: .bool m.inuse::m.bits.map .bool
theorem zgg:∀ {a b:List Bool},a.map D.bool=b.map D.bool→a=b
 | [],[],_=>rfl
 | [],_::_,h=>by simp at h
 |_::_,[],h=>by simp at h
 |x::a,y::b,h=>by
  simp only [List.map_cons,List.cons.injEq,D.bool.injEq] at h
  rw [h.1,zgg h.2]
theorem zeF:∀a b,dmapD a=dmapD b→a=b:=by
 rintro ⟨n,u,b⟩ ⟨n',u',b'⟩ h
 simp only [dmapD,List.cons.injEq,D.str.injEq,D.bool.injEq] at h
 rw [h.1,h.2.1,zgg h.2.2]
structure Img where
 disk:Disk
 geom:Geom
 jour:Jour
 maps:List Dmap
 broken:Bool
 deriving DecidableEq
def imgA (x:Img):AV:= .agg [.d (.str x.disk.data),.d (.sl 2 (x.disk.cache.map putD)),.d (.int .i64 x.disk.fuse),.d (.bool x.disk.off),.d (.sl 1 (x.disk.bad.map intD)),.d (.int .i64 x.geom.guest),.d (.int .i64 x.geom.host),.d (.int .u64 x.jour.seq),.d (.int .i64 x.jour.pos),.d (.sl 66 (x.maps.map dmapD)),.d (.bool x.broken)]
attribute [go_sem] imgA
theorem zqI (x:Img):Img.mk x.disk x.geom x.jour x.maps x.broken=x:=rfl
noncomputable def zdv:PT Img:=aggT (consL strT (consL (slT 2 putD zhG) (consL (intT .i64) (consL boolT (consL (slT 1 intD zcf) (consL (intT .i64) (consL (intT .i64) (consL (intT .u64) (consL (intT .i64) (consL (slT 66 dmapD zeF) (consL boolT nilL))))))))))) (fun p=>⟨⟨p.1,p.2.1,p.2.2.1,p.2.2.2.1,p.2.2.2.2.1⟩,⟨p.2.2.2.2.2.1,p.2.2.2.2.2.2.1⟩,⟨p.2.2.2.2.2.2.2.1,p.2.2.2.2.2.2.2.2.1⟩,p.2.2.2.2.2.2.2.2.2.1,p.2.2.2.2.2.2.2.2.2.2.1⟩) (fun x=>(x.disk.data,x.disk.cache,x.disk.fuse,x.disk.off,x.disk.bad,x.geom.guest,x.geom.host,x.jour.seq,x.jour.pos,x.maps,x.broken,())) (fun _=>rfl)
attribute [go_sem] zdv
attribute [go_sem] zqI
structure ImgOk (x:Img):Prop where
 disk:DiskOk x.disk
 maps:x.maps.length≤9223372036854775807
 names:∀m∈x.maps,m.name.length≤9223372036854775807
 bits:∀m∈x.maps,m.bits.length=64
def mfit (n0:Txt):Nat→List Dmap→Bool
 |_,[]=>true
 |i,m::r=>zf2 m.name&&m.inuse&& !(decide (0<i)&&(n0==m.name))&&mfit n0 (i+1) r
def ifit (x:Img):Bool:=
 zeb x.geom.guest x.geom.host&&dfit x.disk&&((dsize x.disk:Int)==zf3 x.geom.guest x.geom.host)&&jfit x.jour&&decide (x.maps.length≤2)&&mfit (x.maps.head?.map (·.name) |>.getD []) 0 x.maps
theorem znA (x:Img) (h:ImgOk x):AC 20 [imgA x] (.d (.bool (ifit x))):=by
 refine fbod Tryz.func20 Tryz.ntmps20 (fun base=>?_)
 have h1:=h.disk
 have h2:=h.maps
 by_cases hc0:(!zeb x.geom.guest x.geom.host|| !dfit x.disk||((dsize x.disk:Int) !=zf3 x.geom.guest x.geom.host)|| !jfit x.jour||decide (2<(x.maps.length:Int)))=true
 ·refine' walkW hc0 (za zcX <| za zdX <| za zaQ <| za zdZ <| za zd2 <| za zcH <| zb _)
  have:ifit x=false:=by
   simp only [Bool.or_eq_true,Bool.not_eq_true',bne_iff_ne,decide_eq_true_eq] at hc0
   unfold ifit
   rcases hc0 with (((hh|hh)|hh)|hh)|hh
   ·rw [hh];simp
   ·rw [hh];simp
   ·rw [beq_eq_false_iff_ne.2 hh];simp
   ·rw [hh];simp
   ·rw [decide_eq_false (p:=x.maps.length≤2) (by omega)];simp
  rw [this]
 have hc0:(!zeb x.geom.guest x.geom.host|| !dfit x.disk||((dsize x.disk:Int) !=zf3 x.geom.guest x.geom.host)|| !jfit x.jour||decide (2<(x.maps.length:Int)))=false:=by simpa using hc0
 have hfit:ifit x=mfit (x.maps.head?.map (·.name) |>.getD []) 0 x.maps:=by
  simp only [Bool.or_eq_false_iff,Bool.not_eq_false',bne_eq_false_iff_eq,decide_eq_false_iff_not] at hc0
  rw [ifit,hc0.1.1.1.1,hc0.1.1.1.2,hc0.1.2,beq_iff_eq.2 hc0.1.1.2,decide_eq_true (p:=x.maps.length≤2) (by omega)]
  rfl
 refine' walkW hc0 (za zcX <| za zdX <| za zaQ <| za zdZ <| za zd2 <| za zcH <| zb _)
 obtain ⟨N0,hN0⟩:∃N0,N0=(x.maps.head?.map (·.name) |>.getD []):=⟨_,rfl⟩
 rw [← hN0] at hfit
 refine zy (fun q: { i:Nat // i≤x.maps.length∧ifit x=mfit N0 i (x.maps.drop i) } =>⟨[(1,true,.vp 0 0),(3,true,.d (.int .i64 q.1))],[(0,.var [.d (.str x.disk.data),.d (.sl 2 (x.disk.cache.map putD)),.d (.int .i64 x.disk.fuse),.d (.bool x.disk.off),.d (.sl 1 (x.disk.bad.map intD)),.d (.int .i64 x.geom.guest),.d (.int .i64 x.geom.host),.d (.int .u64 x.jour.seq),.d (.int .i64 x.jour.pos),.d (.sl 66 (x.maps.map dmapD)),.d (.bool x.broken)])],some []⟩) (fun q=>x.maps.length - q.1) ⟨0,Nat.zero_le _,hfit⟩ le1 (fun q=>?_)
 obtain ⟨i,hi,hf⟩:=q
 simp only at hi hf ⊢
 rcases zaj dmapD x.maps i hi with ⟨m,hq,hlt,hcmp,hrow,hdr,htk⟩|⟨hend,hcmp⟩
 ·obtain ⟨m0,hq0⟩:=zaA (l:=x.maps) (i:=0) (by omega)
  have hrow0:=zcb (g:=dmapD) hq0
  simp only [dmapD] at hrow hrow0
  have hpos:decide ((0:Int)<(x.maps.length:Int))=true:=decide_eq_true (by omega)
  have hwi:=zE (i:=i) (by omega)
  have hnl:=h.names m (List.mem_of_getElem? hq)
  have hN:N0=m0.name:=by rw [hN0,List.head?_eq_getElem?,hq0];rfl
  rw [hdr,mfit,hN] at hf
  have hall:(!zf2 m.name|| !m.inuse||(decide ((0:Int)<(i:Int))&&(m0.name==m.name)))= !(zf2 m.name&&m.inuse&& !(decide (0<i)&&(m0.name==m.name))):=by
   rw [Bool.not_and,Bool.not_and,Bool.not_not,show decide ((0:Int)<(i:Int))=decide (0<i) from zrs]
  refine' walkW (zcW hcmp hrow hrow0 hpos natC) (za zcX <| za zdX <| za zaQ <| za zdZ <| za zd2 <| za zcH <| zb _)
  ·rename_i hg0
   rw [hg0,hc];rfl
  ·rw [hall] at hc
   simp only [Bool.not_eq_true'] at hc
   rw [hf,hc,Bool.false_and]
  ·rw [hall] at hc
   simp only [Bool.not_eq_false'] at hc
   rw [hc,Bool.true_and,← hN] at hf
   exact ⟨⟨i+1,by omega,hf⟩,lew,by simp;omega⟩
 ·refine' walkW hcmp (za zcX <| za zdX <| za zaQ <| za zdZ <| za zd2 <| za zcH <| zb _)
  rw [hf,hend,List.drop_length]
  rfl
@[go_sem] noncomputable def zjR:Ent Tryz.prog 20:= .m1 zdv znA
theorem zo5 {n:Nat} {a b:List Bool} (ha:a.length=n) (hb:b.length=n):((List.range n).all fun i=>a.getD i false==b.getD i false)=decide (a=b):=by
 rw [Bool.eq_iff_iff,List.all_eq_true,decide_eq_true_eq]
 constructor
 ·intro h
  apply List.ext_getElem (by omega)
  intro i h1 h2
  have:=h i (by simp;omega)
  simpa [List.getD_eq_getElem?_getD,h1,h2] using this
 ·rintro rfl i _
  simp
theorem zhd {P:Program} {e:Nat} (he:(ty P e).td= .bool) {a b:List Bool} {n d:Nat} (ha:a.length=n) (hb:b.length=n):∀l:List Nat,(∀i∈l,i<n)→
  aeq.aeqF P (l.map fun i=>(i,e)) (a.map fun x=>AV.d (.bool x)) (b.map fun x=>AV.d (.bool x)) (fun f=>aeq P (d+1) f)=(True,l.all fun i=>a.getD i false==b.getD i false)
 | [],_=>rfl
 | i::l,h=>by
  have ih:=zhd he ha hb (d:=d) l (fun j hj=>h j (by simp [hj]))
  have hi:i<n:=h i (by simp)
  have hx:∀ (c:List Bool),c.length=n→apart P e (c.map fun x=>AV.d (.bool x)) i= .d (.bool (c.getD i false)):=fun c hc=>by
   unfold apart
   rw [he]
   simp [TD.agg,List.getD_eq_getElem?_getD,hc,hi]
  simp only [List.map_cons,aeq.aeqF,ih,hx a ha,hx b hb]
  have h1:aeq P (d+1) e (.d (.bool (a.getD i false))) (.d (.bool (b.getD i false)))=(True,a.getD i false==b.getD i false):=by
   unfold aeq
   rw [he]
  rw [h1]
  have hp:psize P e=1:=by unfold psize;rw [he];rfl
  simp only [he,hp,List.length_map,ha,hb,List.all_cons,ne_eq,reduceCtorEq,not_false_eq_true,true_and,and_true]
  rw [eq_true (show i+1≤n∧i+1≤n from ⟨hi,hi⟩)]
theorem zo6 {P:Program} {t e:Nat} (ht:(ty P t).td= .arr 64 e) (he:(ty P e).td= .bool) (hz:(ty P e).size=1) {a b:List Bool} {d:Nat} (ha:a.length=64) (hb:b.length=64):
  aeq P (d+2) t (.agg (a.map fun x=>AV.d (.bool x))) (.agg (b.map fun x=>AV.d (.bool x)))=(True,decide (a=b)):=by
 have:=zhd he ha hb (d:=d) (List.range 64) (fun i hi=>by simpa using hi)
 unfold aeq
 simp only [ht,hz,Nat.mul_one]
 rw [this,zo5 ha hb]
 simp only [he,ne_eq,reduceCtorEq,not_false_eq_true,and_true]
theorem zkP (l:List Bool):(l.map D.bool).map AV.d=l.map fun x=>AV.d (.bool x):=by rw [List.map_map];rfl
open Go Go.Proofs
theorem zo7 {P:Program} {t s b a e:Nat} (ht:(ty P t).td= .struct [(0,s),(1,b),(2,a)]) (hs:(ty P s).td= .str) (hb:(ty P b).td= .bool) (ha:(ty P a).td= .arr 64 e) (he:(ty P e).td= .bool) (hz:(ty P e).size=1) (hza:(ty P a).size=64) (hst:P.stoodInHeld t=false)
  {m m':Dmap} (hm:m.bits.length=64) (hm':m'.bits.length=64):
  aeq P 12 t (.agg (.d (.str m.name):: .d (.bool m.inuse)::(m.bits.map D.bool).map AV.d)) (.agg (.d (.str m'.name):: .d (.bool m'.inuse)::(m'.bits.map D.bool).map AV.d))=(True,decide (m=m')):=by
 have h1:=zo6 (P:=P) (t:=a) ha he hz (d:=9) hm hm'
 have hl:∀c:List Bool,c.length=64→List.take 64 (c.map fun x=>AV.d (.bool x))=c.map fun x=>AV.d (.bool x):=fun c hc=>List.take_of_length_le (by simp [hc])
 rw [zkP,zkP]
 have p0:∀c:Dmap,apart P s (.d (.str c.name):: .d (.bool c.inuse)::(c.bits.map fun x=>AV.d (.bool x))) 0= .d (.str c.name):=fun c=>by unfold apart;rw [hs];rfl
 have p1:∀c:Dmap,apart P b (.d (.str c.name):: .d (.bool c.inuse)::(c.bits.map fun x=>AV.d (.bool x))) 1= .d (.bool c.inuse):=fun c=>by unfold apart;rw [hb];rfl
 have p2:∀c:Dmap,c.bits.length=64→apart P a (.d (.str c.name):: .d (.bool c.inuse)::(c.bits.map fun x=>AV.d (.bool x))) 2= .agg (c.bits.map fun x=>AV.d (.bool x)):=fun c hc=>by
  unfold apart
  rw [ha,hza]
  simp only [TD.agg,if_true,List.drop_succ_cons,List.drop_zero,hl c.bits hc]
 have q0:psize P s=1:=by unfold psize;rw [hs];rfl
 have q1:psize P b=1:=by unfold psize;rw [hb];rfl
 have q2:psize P a=64:=by unfold psize;rw [ha,hza];rfl
 have e0:aeq P 11 s (.d (.str m.name)) (.d (.str m'.name))=(True,m.name==m'.name):=by unfold aeq;rw [hs]
 have e1:aeq P 11 b (.d (.bool m.inuse)) (.d (.bool m'.inuse))=(True,m.inuse==m'.inuse):=by unfold aeq;rw [hb]
 unfold aeq
 simp only [ht,hst,aeq.aeqF,p0,p1,p2 m hm,p2 m' hm',q0,q1,q2,e0,e1,h1,hs,hb,ha,List.length_cons,List.length_map,hm,hm',ne_eq,reduceCtorEq,not_false_eq_true,true_and,and_true,Bool.and_true]
 refine Prod.ext (by simp) ?_
 simp only
 rw [Bool.eq_iff_iff]
 simp only [Bool.and_eq_true,beq_iff_eq,decide_eq_true_eq]
 obtain ⟨n,u,l⟩:=m
 obtain ⟨n',u',l'⟩:=m'
 simp
theorem ziV (a b:List Dmap) (hp:a.length≤9223372036854775807∧b.length≤9223372036854775807∧(∀m∈a,m.bits.length=64)∧(∀m∈b,m.bits.length=64)):AC 48 [.d (.sl 66 (a.map dmapD)),.d (.sl 66 (b.map dmapD))] (.d (.bool (decide (a=b)))):=by
 obtain ⟨ha,hb,hla,hlb⟩:=hp
 refine fbod Tryz.func48 Tryz.ntmps48 (fun base=>?_)
 by_cases hl:a.length=b.length
 ·have hb0:((a.length:Int) !=(b.length:Int))=false:=by rw [hl];simp
  refine' zc hb0
  refine zy (fun q: { i:Nat // i≤a.length∧decide (a=b)=decide (a.drop i=b.drop i) } =>⟨[(0,true,.d (.sl 66 (a.map dmapD))),(1,true,.d (.sl 66 (b.map dmapD))),(5,true,.d (.int .i64 q.1))],[],some []⟩) (fun q=>a.length - q.1) ⟨0,Nat.zero_le _,rfl⟩ le1 (fun q=>?_)
  obtain ⟨i,hi,hf⟩:=q
  simp only at hi hf ⊢
  rcases zaj dmapD a i hi with ⟨m,hq,hlt,hcmp,hrow,hdr,htk⟩|⟨hend,hcmp⟩
  ·obtain ⟨m',hq'⟩:=zaA (l:=b) (i:=i) (by omega)
   have hrow':=zcb (g:=dmapD) hq'
   simp only [dmapD] at hrow hrow'
   have hcmp':decide ((i:Int)<(b.length:Int))=true:=by rw [← hl];exact hcmp
   have hwi:=zE (i:=i) (by omega)
   have hm:=hla m (List.mem_of_getElem? hq)
   have hm':=hlb m' (List.mem_of_getElem? hq')
   rw [hdr,zcP hq'] at hf
   have hae:=zo7 (P:=Tryz.prog) (t:=105) (s:=9) (b:=4) (a:=103) (e:=4) (by simp only [go_sem]) (by simp only [go_sem]) (by simp only [go_sem]) (by simp only [go_sem]) (by simp only [go_sem]) (by simp only [go_sem]) (by simp only [go_sem]) (by kernel_rfl) hm hm'
   have ht1:List.take 64 ((m.bits.map D.bool).map AV.d)=(m.bits.map D.bool).map AV.d:=List.take_of_length_le (by simp [hm])
   have ht2:List.take 64 ((m'.bits.map D.bool).map AV.d)=(m'.bits.map D.bool).map AV.d:=List.take_of_length_le (by simp [hm'])
   (have tk:=zb Tryz.prog);repeat' (first|((first|(refine sa ?_;intro K hK)|refine sb ?_);simp only [go_sem,simprocAttr,hcmp,hcmp',hrow,hrow',ht1,ht2,hae,hm,hm',Int.toNat_natCast,Tryz.results48])|refine zay (fun K hK=>?_)|refine sc ?_|refine zbf rfl (fun hc=>?_) (fun hc=>?_)|(refine hK _ ?_;clear hK K)|with_reducible refine And.intro ?_ ?_|(refine (show zcv _ _=true from ?_);kernel_rfl)|omega|assumption|clear hK K)
   ·rw [hf]
    simp only [Bool.not_eq_true',decide_eq_false_iff_not] at hc
    rw [decide_eq_false]
    simp only [List.cons.injEq]
    exact fun h=>hc h.1
   ·simp only [Bool.not_eq_false',decide_eq_true_eq] at hc
    refine ⟨⟨i+1,by omega,?_⟩,lew,by simp;omega⟩
    rw [hf,hc]
    simp
  ·refine' zc hcmp
   rw [hf,List.drop_of_length_le (by omega),List.drop_of_length_le (by omega)]
   rfl
 ·have hb0:((a.length:Int) !=(b.length:Int))=true:=by rw [bne_iff_ne];omega
  refine' zc hb0
  rw [decide_eq_false (fun h=>hl (by rw [h]))]
@[go_sem] noncomputable def zgE:Ent Tryz.prog 48:= .m2 (slT 66 dmapD zeF) (slT 66 dmapD zeF) ziV
open Go Go.Proofs
theorem zqJ (a b:Img):(decide (a.disk=b.disk)&&(a.geom.guest==b.geom.guest&&a.geom.host==b.geom.host)&&(a.jour.seq==b.jour.seq&&a.jour.pos==b.jour.pos)&&decide (a.maps=b.maps)&&(a.broken==b.broken))=decide (a=b):=by
 obtain ⟨d,⟨g,h⟩,⟨s,p⟩,m,br⟩:=a
 obtain ⟨d',⟨g',h'⟩,⟨s',p'⟩,m',br'⟩:=b
 rw [Bool.eq_iff_iff]
 simp only [Bool.and_eq_true,beq_iff_eq,decide_eq_true_eq,Img.mk.injEq,Geom.mk.injEq,Jour.mk.injEq]
 constructor
 ·rintro ⟨⟨⟨⟨h1,h2⟩,h3⟩,h4⟩,h5⟩;exact ⟨h1,h2,h3,h4,h5⟩
 ·rintro ⟨h1,h2,h3,h4,h5⟩;exact ⟨⟨⟨⟨h1,h2⟩,h3⟩,h4⟩,h5⟩
theorem zlR (a b:Img) (hp:ImgOk a∧ImgOk b):AC 14 [imgA a,imgA b] (.d (.bool (decide (a=b)))):=by
 obtain ⟨ha,hb⟩:=hp
 refine fbod Tryz.func14 Tryz.ntmps14 (fun base=>?_)
 have h1:=ha.disk
 have h2:=hb.disk
 have h3:=ha.maps
 have h4:=hb.maps
 have h5:=ha.bits
 have h6:=hb.bits
 refine' walkW fx (za zjq <| za zgE <| zb _)
 rw [zqJ]
@[go_sem] noncomputable def zfn:Ent Tryz.prog 14:= .m2 zdv zdv zlR
def mset (g:Nat) (m:Dmap):Dmap:= { m with bits:=m.bits.set g true }
def cmark (x:Img) (guest:Int):Img:=if guest<0∨64≤guest then x else { x with maps:=x.maps.map (mset guest.toNat) }
theorem zkQ (m:Dmap) (g:Nat):(dmapD m).set (2+g) (.bool true)=dmapD (mset g m):=by
 rw [Nat.add_comm]
 simp [dmapD,mset,List.map_set]
theorem zkR {x:Img} (h:ImgOk x) (g:Int):ImgOk (cmark x g):=by
 unfold cmark
 split
 ·exact h
 ·refine ⟨h.disk,by simp only [List.length_map];exact h.maps,fun m hm=>?_,fun m hm=>?_⟩
  ·obtain ⟨m0,h0,rfl⟩:=List.mem_map.1 hm
   exact h.names m0 h0
  ·obtain ⟨m0,h0,rfl⟩:=List.mem_map.1 hm
   simp [mset,h.bits m0 h0]
theorem zlS (x:Img) (guest:Int) (hp:ImgOk x∧x.maps.length≤1000000):AC 16 [imgA x,.d (.int .i64 guest)] (imgA (cmark x guest)):=by
 obtain ⟨h,h2⟩:=hp
 refine fbod Tryz.func16 Tryz.ntmps16 (fun base=>?_)
 by_cases hg:guest<0∨64≤guest
 ·have hdec:(decide (guest<0)||decide (64≤guest))=true:=by simpa using hg
  refine' zc hdec
  rw [cmark,if_pos hg]
 ·have hdec:(decide (guest<0)||decide (64≤guest))=false:=by simpa using hg
  obtain ⟨g,rfl⟩:∃g:Nat,guest=g:=⟨guest.toNat,by omega⟩
  have hg2:g<64:=by omega
  refine' zc hdec
  obtain ⟨n,hn⟩:∃n,n=x.maps.length:=⟨_,rfl⟩
  refine zy (fun q: { i:Nat // i≤x.maps.length } =>⟨[(1,true,.d (.int .i64 g)),(2,true,.vp 0 0),(4,true,.vp 1 0),(5,true,.osl 2 66 x.maps.length 0 x.maps.length),(6,true,.d (.int .i64 q.1))],[(2,.arr 66 (((x.maps.take q.1).map (mset g)++x.maps.drop q.1).map dmapD)),(1,.var [.d (.str []),.nils 2,.d (.int .i64 0),.d (.bool false),.nils 1,.d (.int .i64 0),.d (.int .i64 0),.d (.int .u64 0),.d (.int .i64 0),.nils 66,.d (.bool false)]),(0,.var [.d (.str x.disk.data),.d (.sl 2 (x.disk.cache.map putD)),.d (.int .i64 x.disk.fuse),.d (.bool x.disk.off),.d (.sl 1 (x.disk.bad.map intD)),.d (.int .i64 x.geom.guest),.d (.int .i64 x.geom.host),.d (.int .u64 x.jour.seq),.d (.int .i64 x.jour.pos),.d (.sl 66 (x.maps.map dmapD)),.d (.bool x.broken)])],some []⟩) (fun q=>x.maps.length - q.1) ⟨0,Nat.zero_le _⟩ le1 (fun q=>?_)
  obtain ⟨i,hi⟩:=q
  simp only
  have hL:((x.maps.take i).map (mset g)++x.maps.drop i).length=x.maps.length:=by simp;omega
  rcases Nat.lt_or_ge i x.maps.length with hlt|hge
  ·obtain ⟨m,hq⟩:=zaA hlt
   have hcmp:decide ((i:Int)<(x.maps.length:Int))=true:=decide_eq_true (by omega)
   have hwi:=zE (i:=i) (by omega)
   have hL1:((x.maps.take i).map (mset g)).length=i:=by simp;omega
   have hat:((x.maps.take i).map (mset g)++x.maps.drop i)[i]?=some m:=by rw [List.getElem?_append_right (by omega),hL1,Nat.sub_self,List.getElem?_drop,Nat.add_zero,hq]
   have hrow:=zcb (g:=dmapD) hat
   have hset:((x.maps.take i).map (mset g)++x.maps.drop i).set i (mset g m)=(x.maps.take (i+1)).map (mset g)++x.maps.drop (i+1):=by
    rw [List.set_append,if_neg (by omega),hL1,Nat.sub_self,zcP hq,zb7 hq,List.map_append,List.append_assoc]
    rfl
   refine' zc (zG hcmp hL hrow)
   have hnew:(((x.maps.take i).map (mset g)++x.maps.drop i).map dmapD).set i ((dmapD m).set (2+g*1) (.bool true))=((x.maps.take (i+1)).map (mset g)++x.maps.drop (i+1)).map dmapD:=by
    rw [Nat.mul_one,zkQ,← List.map_set,hset]
   exact ⟨⟨i+1,by omega⟩,by simp only [AS.le,leT,leH,zi,AsgK,AV.le,AV.leL,AObj.le,inH,idsT,idsH,AV.ids,AV.idsL,AV.idsR,AObj.ids,lk,hget,go_sem,aeq,aeq.aeqF,simprocAttr,hwi,hnew],by simp;omega⟩
  ·have hcmp:decide ((i:Int)<(x.maps.length:Int))=false:=decide_eq_false (by omega)
   refine' zc (zF hcmp hL)
   rw [cmark,if_neg hg,show i=x.maps.length by omega,List.take_length,List.drop_length,List.append_nil,List.take_of_length_le (by simp)]
   rfl
@[go_sem] noncomputable def zS:Ent Tryz.prog 16:= .m2 zdv (intT .i64) zlS
theorem bneP {a b:Int} (h:(a !=b)=true):a≠b:=bne_iff_ne.1 h
theorem bneN {a b:Int} (h:(a !=b)=false):¬a≠b:=fun h2=>h2 (bne_eq_false_iff_eq.1 h)
theorem beqP {a b:Int} (h:(a==b)=true):a=b:=beq_iff_eq.1 h
theorem beqN {a b:Int} (h:(a==b)=false):¬a=b:=beq_eq_false_iff_ne.1 h
@[go_sem] theorem p0_fold:Plan.mk [] []=p0:=rfl
def zbn (d:Disk) (k:Int):Txt×Int:=
 if (dread d (96+2*k)).2≠0 then ([],(dread d (96+2*k)).2)
 else if (dread d (96+2*k+1)).2≠0 then ([],(dread d (96+2*k+1)).2)
 else ((dread d (96+2*k)).1++(dread d (96+2*k+1)).1,0)
theorem zhX (d:Disk) (k:Int) (hp:DiskF d∧zH k=true):AC 30 [diskA d,.d (.int .i64 k)] (.tup [.d (.str (zbn d k).1),.d (.int .i64 (zbn d k).2)]):=by
 obtain ⟨h,hk⟩:=hp
 refine fbod Tryz.func30 Tryz.ntmps30 (fun base=>?_)
 have h1:=h.ok
 have h2:=h.puts
 have hk2:=hostOk_iff.1 hk
 have hw:IntKind.i64.wrap (96+2*k+1)=96+2*k+1:=zh (by omega) (by omega)
 have hl1:=zcx (at_:=96+2*k) h2
 have hl2:=zcx (at_:=96+2*k+1) h2
 refine' walkW hw (za zK <| za zbp <| zb _)
 ·rw [zbn,if_pos (bneP hc)]
 ·rename_i hc0
  rw [zbn,if_neg (bneN hc0),if_pos (bneP hc)]
 ·rename_i hc0
  rw [zbn,if_neg (bneN hc0),if_neg (bneN hc)]
@[go_sem] noncomputable def zgh:Ent Tryz.prog 30:= .m2 zq (intT .i64) zhX
theorem zd5 {d:Disk} {p:Plan} {l1 g:Int} (h:(elook d p l1 g).1.kind=1):zH (elook d p l1 g).1.loc=true:=by
 have hk:∀t i,(eget d p t i).1.kind=1→zH (eget d p t i).1.loc=true:=by
  intro t i hk
  by_cases he:(eget d p t i).2=0
  ·have:=(znv he).1
   unfold entOk at this
   rw [if_pos hk] at this
   exact this
  ·exfalso
   unfold eget at hk he
   split at hk
   ·cases hk
   ·rename_i h0
    rw [if_neg h0] at he
    split at hk
    ·cases hk
    ·rename_i h2
     rw [if_neg h2] at he
     unfold entT at hk he
     split at hk
     ·cases hk
     ·rename_i h1
      rw [if_neg h1] at he
      exact he rfl
 unfold elook at h ⊢
 split at h
 ·cases h
 split at h
 ·cases h
 split at h
 ·cases h
 split at h
 ·cases h
 rename_i h1 h2 h3 h4
 rw [if_neg h1,if_neg h2,if_neg h3,if_neg h4]
 exact hk _ _ h
def cread (d:Disk) (l1 guest:Int):Txt×Int:=
 if (elook d p0 l1 guest).2≠0 then ([],(elook d p0 l1 guest).2) else if (elook d p0 l1 guest).1.kind=1 then zbn d (elook d p0 l1 guest).1.loc else (List.replicate 128 0,0)
theorem zlT (d:Disk) (l1 guest:Int) (h:DiskF d):AC 9 [diskA d,.d (.int .i64 l1),.d (.int .i64 guest)] (.tup [.d (.str (cread d l1 guest).1),.d (.int .i64 (cread d l1 guest).2)]):=by
 refine fbod Tryz.func9 Tryz.ntmps9 (fun base=>?_)
 have hdp:DP d p0:=⟨h,zee⟩
 have hk1:(elook d p0 l1 guest).1.kind=1→zH (elook d p0 l1 guest).1.loc=true:=zd5
 refine' walkW fx (za z7 <| za zgh <| zb _)
 ·rw [cread,if_pos (bneP hc)]
 ·exact hk1 (beqP hc)
 ·rename_i hc0
  rw [cread,if_neg (bneN hc0),if_pos (beqP hc)]
 ·rfl
 ·rename_i hc0
  rw [cread,if_neg (bneN hc0),if_neg (beqN hc)]
  rfl
@[go_sem] noncomputable def zT:Ent Tryz.prog 9:= .m3 zq (intT .i64) (intT .i64) zlT
def cdone (x:Img) (p:Plan):Img×Int:=
 if (jcommit x.disk x.jour p).2.2≠0 then ({ x with disk:=(jcommit x.disk x.jour p).1,broken:=true },(jcommit x.disk x.jour p).2.2)
 else ({ x with disk:=(jcommit x.disk x.jour p).1,jour:=(jcommit x.disk x.jour p).2.1 },0)
theorem zlU (x:Img) (p:Plan) (hp:ImgOk x∧DiskF x.disk∧pfit p=true∧0≤x.jour.seq∧x.jour.seq<18446744073709551616):AC 13 [imgA x,planA p] (.tup [imgA (cdone x p).1,.d (.int .i64 (cdone x p).2)]):=by
 obtain ⟨h,hd,hf,h0,h1⟩:=hp
 refine fbod Tryz.func13 Tryz.ntmps13 (fun base=>?_)
 refine' walkW fx (za zhQ <| zb _)
 ·rw [cdone,if_pos (bneP hc)]
 ·rw [cdone,if_neg (bneN hc)]
@[go_sem] noncomputable def zU:Ent Tryz.prog 13:= .m2 zdv zA zlU
open Go Go.Proofs
def imgV (x:Img):List AV:= [.d (.str x.disk.data),.d (.sl 2 (x.disk.cache.map putD)),.d (.int .i64 x.disk.fuse),.d (.bool x.disk.off),.d (.sl 1 (x.disk.bad.map intD)),.d (.int .i64 x.geom.guest),.d (.int .i64 x.geom.host),.d (.int .u64 x.jour.seq),.d (.int .i64 x.jour.pos),.d (.sl 66 (x.maps.map dmapD)),.d (.bool x.broken)]
attribute [go_sem] imgV
def img0:List AV:= [.d (.str []),.nils 2,.d (.int .i64 0),.d (.bool false),.nils 1,.d (.int .i64 0),.d (.int .i64 0),.d (.int .u64 0),.d (.int .i64 0),.nils 66,.d (.bool false)]
attribute [go_sem] img0
def wdisk (x:Img) (d:Disk):Img:= { x with disk:=d }
def cputT (b:Txt) (off:Int) (s:Txt) (i:Int):Txt:=(overS b (max off (i*64) - i*64) ((s.take (min (off+s.length) ((i+1)*64) - off).toNat).drop (max off (i*64) - off).toNat)).1
def cput1 (d:Disk) (k off:Int) (s:Txt) (i:Int):Disk×Int:=
 if min (off+s.length) ((i+1)*64)≤max off (i*64) then (d,0)
 else if (dread d (96+2*k+i)).2≠0 then (d,(dread d (96+2*k+i)).2)
 else zI d (96+2*k+i) (cputT (dread d (96+2*k+i)).1 off s i)
def zdK (k off:Int) (s:Txt):Nat→Int→Disk→Disk×Int
 |0,_,d=>(d,0)
 |m+1,i,d=>if (cput1 d k off s i).2≠0 then cput1 d k off s i else zdK k off s m (i+1) (cput1 d k off s i).1
def zdL (d:Disk) (k off:Int) (s:Txt):Disk×Int:=zdK k off s 2 0 d
theorem DiskF.cput1 {d:Disk} (h:DiskF d) (k off:Int) (s:Txt) (i:Int):DiskF (cput1 d k off s i).1:=by
 unfold Aw.cput1
 split
 ·exact h
 split
 ·exact h
 ·exact h.write _ _
theorem zjS (x:Img) (k off:Int) (s:Txt) (hp:ImgOk x∧DiskF x.disk∧zH k=true∧0≤off∧off+s.length≤128):AC 40 [imgA x,.d (.int .i64 k),.d (.int .i64 off),.d (.str s)] (.tup [imgA (wdisk x (zdL x.disk k off s).1),.d (.int .i64 (zdL x.disk k off s).2)]):=by
 obtain ⟨h,hd,hk,h0,h1⟩:=hp
 refine fbod Tryz.func40 Tryz.ntmps40 (fun base=>?_)
 have hk2:=hostOk_iff.1 hk
 refine' walkR fx (za zK <| za zbp <| za zt <| za zO <| zb _)
 refine zy (fun q: { q:Nat×Disk // q.1≤2∧DiskF q.2∧zdL x.disk k off s=zdK k off s (2 - q.1) q.1 q.2 } =>⟨[(1,true,.d (.int .i64 k)),(2,true,.d (.int .i64 off)),(3,true,.d (.str s)),(4,true,.vp 0 0),(8,true,.vp 1 0),(10,true,.d (.int .i64 q.1.1))],[(1,.var img0),(0,.var (imgV (wdisk x q.1.2)))],some []⟩) (fun q=>2 - q.1.1) ⟨(0,x.disk),by omega,hd,rfl⟩ (by simp only [AS.le,leT,leH,zi,AsgK,AV.le,AV.leL,AObj.le,inH,idsT,idsH,AV.ids,AV.idsL,AV.idsR,AObj.ids,lk,hget,go_sem,aeq,aeq.aeqF,simprocAttr,wdisk]<;>and_intros<;>rfl) (fun q=>?_)
 obtain ⟨⟨i,d⟩,hi,hF,hr⟩:=q
 simp only at hi hF hr ⊢
 have hd1:=hF.ok
 have hd2:=hF.puts
 rcases Nat.lt_or_ge i 2 with hlt|hge
 ·have hcmp:decide ((i:Int)<2)=true:=decide_eq_true (by omega)
  have hwi:=zE (i:=i) (by omega)
  have hw1:IntKind.i64.wrap ((i:Int)*64)=i*64:=zh (by omega) (by omega)
  have hw2:IntKind.i64.wrap (((i+1:Nat):Int)*64)=(i+1)*64:=zh (by omega) (by omega)
  have hw3:IntKind.i64.wrap (off+(s.length:Int))=off+s.length:=zh (by omega) (by omega)
  have hw4:IntKind.i64.wrap (96+2*k+(i:Int))=96+2*k+i:=zh (by omega) (by omega)
  rw [show 2 - i=(2 - (i+1))+1 by omega,zdK] at hr
  obtain ⟨A,hA⟩:∃A,A=max off ((i:Int)*64):=⟨_,rfl⟩
  obtain ⟨B,hB⟩:∃B,B=min (off+(s.length:Int)) (((i:Int)+1)*64):=⟨_,rfl⟩
  have hA1:imax off ((i:Int)*64)=A:=by rw [hA];unfold imax;split<;>omega
  have hB1:imin (off+(s.length:Int)) (((i:Int)+1)*64)=B:=by rw [hB];unfold imin;split<;>omega
  have hc1:cput1 d k off s i=if B≤A then (d,0) else if (dread d (96+2*k+i)).2≠0 then (d,(dread d (96+2*k+i)).2) else zI d (96+2*k+i) (overS (dread d (96+2*k+i)).1 (A - i*64) ((s.take (B - off).toNat).drop (A - off).toNat)).1:=by rw [cput1,cputT,← hA,← hB]
  have hl:=zcx (at_:=96+2*k+i) hd2
  have hFn:=hF.cput1 k off s i
  by_cases hab:B≤A
  ·have hb:decide (B≤A)=true:=decide_eq_true hab
   rw [if_pos hab] at hc1
   refine' walkR (zaa hcmp hwi hw1 hw2 hw3 (zaJ hA1 hB1 hb @wdisk.eq_1)) (za zK <| za zbp <| za zt <| za zO <| zb _)
   rw [hc1] at hr
   exact ⟨⟨(i+1,d),by show i+1≤2;omega,hF,hr⟩,by simp only [AS.le,leT,leH,zi,AsgK,AV.le,AV.leL,AObj.le,inH,idsT,idsH,AV.ids,AV.idsL,AV.idsR,AObj.ids,lk,hget,go_sem,aeq,aeq.aeqF,simprocAttr,wdisk],by simp;omega⟩
  ·have hb:decide (B≤A)=false:=decide_eq_false hab
   rw [if_neg hab] at hc1
   have hw5:IntKind.i64.wrap (A - off)=A - off:=zh (by omega) (by omega)
   have hw6:IntKind.i64.wrap (B - off)=B - off:=zh (by omega) (by omega)
   have hw7:IntKind.i64.wrap (A - (i:Int)*64)=A - i*64:=zh (by omega) (by omega)
   have hsl:((s.take (B - off).toNat).drop (A - off).toNat).length≤9223372036854775807:=by simp;omega
   obtain ⟨b,hbb⟩:∃b,b=(overS (dread d (96+2*k+i)).1 (A - i*64) ((s.take (B - off).toNat).drop (A - off).toNat)).1:=⟨_,rfl⟩
   rw [← hbb] at hc1
   refine' walkR (zaa hcmp hwi hw1 hw2 hw3 (zaa hw4 hw5 hw6 hw7 hA1 (zaJ hB1 hb hbb.symm @wdisk.eq_1))) (za zK <| za zbp <| za zt <| za zO <| zb _)
   ·rw [if_pos (bneP hc)] at hc1
    rw [hr,hc1,if_pos (bneP hc)]
   ·rename_i hc0
    rw [if_neg (bneN hc0)] at hc1
    rw [hr,hc1,if_pos (bneP hc)]
   ·rename_i hc0
    rw [if_neg (bneN hc0)] at hc1
    rw [hc1,if_neg (bneN hc)] at hr
    rw [hc1] at hFn
    exact ⟨⟨(i+1,(zI d (96+2*k+i) b).1),by show i+1≤2;omega,hFn,hr⟩,by simp only [AS.le,leT,leH,zi,AsgK,AV.le,AV.leL,AObj.le,inH,idsT,idsH,AV.ids,AV.idsL,AV.idsR,AObj.ids,lk,hget,go_sem,aeq,aeq.aeqF,simprocAttr,wdisk],by simp;omega⟩
 ·have hcmp:decide ((i:Int)<2)=false:=decide_eq_false (by omega)
  refine' walkR (zF hcmp @wdisk.eq_1) (za zK <| za zbp <| za zt <| za zO <| zb _)
  rw [hr,show 2 - i=0 by omega]
  rfl
@[go_sem] noncomputable def z6:Ent Tryz.prog 40:= .m4 zdv (intT .i64) (intT .i64) strT zjS
structure ImgF (x:Img):Prop where
 ok:ImgOk x
 disk:DiskF x.disk
 guest:x.geom.guest≤64
 host:x.geom.host≤256
 seq0:0≤x.jour.seq
 seq1:x.jour.seq≤4611686018427387904
 maps:x.maps.length≤1000000
theorem ImgF.wd {x:Img} (h:ImgF x) {d:Disk} (hd:DiskF d):ImgF (wdisk x d):=⟨⟨hd.ok,h.ok.maps,h.ok.names,h.ok.bits⟩,hd,h.guest,h.host,h.seq0,h.seq1,h.maps⟩
theorem ImgF.mark {x:Img} (h:ImgF x) (g:Int):ImgF (cmark x g):=by
 refine ⟨zkR h.ok g,?_,?_,?_,?_,?_,?_⟩
 all_goals unfold cmark
 all_goals split
 all_goals first|exact h.disk|exact h.guest|exact h.host|exact h.seq0|exact h.seq1|exact h.maps|skip
 simp only [List.length_map]
 exact h.maps
theorem ziW {d:Disk} {k:Int} (h:d.cache.all (putOk d)=true) (he:(zbn d k).2=0):(zbn d k).1.length=128:=by
 unfold zbn at he ⊢
 split at he
 ·exact absurd he (by assumption)
 split at he
 ·exact absurd he (by assumption)
 rename_i h1 h2
 rw [if_neg h1,if_neg h2]
 rw [List.length_append,zhR h (by omega),zhR h (by omega)]
theorem zgi {d:Disk} {l1 g:Int} (h:d.cache.all (putOk d)=true) (he:(cread d l1 g).2=0):(cread d l1 g).1.length=128:=by
 unfold cread at he ⊢
 split at he
 ·exact absurd he (by assumption)
 split at he
 ·rename_i h1 h2
  rw [if_neg h1,if_pos h2]
  exact ziW h he
 ·rename_i h1 h2
  rw [if_neg h1,if_neg h2]
  simp
theorem zo8 {d:Disk} {l1 g:Int} (h:d.cache.all (putOk d)=true):(cread d l1 g).1.length≤128:=by
 by_cases he:(cread d l1 g).2=0
 ·rw [zgi h he];exact Nat.le_refl _
 ·unfold cread at he ⊢
  split
  ·simp
  rename_i h1
  rw [if_neg h1] at he
  split
  ·rename_i h2
   rw [if_pos h2] at he
   unfold zbn at he ⊢
   split
   ·simp
   rename_i h3
   rw [if_neg h3] at he
   split
   ·simp
   rename_i h4
   rw [if_neg h4] at he
   exact absurd rfl he
  ·simp
theorem zhe {d:Disk} {p:Plan} {g:Geom} (h:(rtake d p g).2.2=0):zH (rtake d p g).2.1=true:=by
 unfold rtake at h ⊢
 split at h
 ·rename_i h1;exact absurd h h1
 split at h
 ·rename_i h1;exact absurd h h1
 rename_i h1 h2
 rw [if_neg h1,if_neg h2]
 exact hostOk_iff.2 (zhb d p _ _ (by unfold rfind at h1;omega))
theorem zo9 {s t:Txt} {a:Int} (h0:0≤a) (h:a+t.length≤s.length):overS s a t=(s.take a.toNat++t++s.drop (a+t.length).toNat,0):=by
 rw [overS,if_neg (by omega)]
theorem ziX {s t:Txt} {a:Int} (h0:0≤a) (h:a+t.length≤s.length):(overS s a t).1.length=s.length:=by
 rw [zo9 h0 h]
 simp
 omega
def zaE (k:Int) (b:Txt):List (Int×Txt):= [(96+2*k,b.take 64),(96+2*k+1,(b.take 128).drop 64)]
def zb9 (x:Img) (l1 guest off:Int) (s:Txt):Img×Int:=
 if (rtake x.disk p0 x.geom).2.2≠0 then (x,(rtake x.disk p0 x.geom).2.2)
 else if (cread x.disk l1 guest).2≠0 then (x,(cread x.disk l1 guest).2)
 else if (layL x.disk (zaE (rtake x.disk p0 x.geom).2.1 (overS (cread x.disk l1 guest).1 off s).1)).2≠0 then
  (wdisk x (layL x.disk (zaE (rtake x.disk p0 x.geom).2.1 (overS (cread x.disk l1 guest).1 off s).1)).1,(layL x.disk (zaE (rtake x.disk p0 x.geom).2.1 (overS (cread x.disk l1 guest).1 off s).1)).2)
 else if (ppoint (layL x.disk (zaE (rtake x.disk p0 x.geom).2.1 (overS (cread x.disk l1 guest).1 off s).1)).1 (rtake x.disk p0 x.geom).1 x.geom guest ⟨1,(rtake x.disk p0 x.geom).2.1⟩).2≠0 then
  (wdisk x (layL x.disk (zaE (rtake x.disk p0 x.geom).2.1 (overS (cread x.disk l1 guest).1 off s).1)).1,(ppoint (layL x.disk (zaE (rtake x.disk p0 x.geom).2.1 (overS (cread x.disk l1 guest).1 off s).1)).1 (rtake x.disk p0 x.geom).1 x.geom guest ⟨1,(rtake x.disk p0 x.geom).2.1⟩).2)
 else cdone (wdisk x (layL x.disk (zaE (rtake x.disk p0 x.geom).2.1 (overS (cread x.disk l1 guest).1 off s).1)).1) (ppoint (layL x.disk (zaE (rtake x.disk p0 x.geom).2.1 (overS (cread x.disk l1 guest).1 off s).1)).1 (rtake x.disk p0 x.geom).1 x.geom guest ⟨1,(rtake x.disk p0 x.geom).2.1⟩).1
def zel (x:Img) (l1:Int) (y:Ent2) (guest off:Int) (s:Txt):Img×Int:=
  if y.kind=1 then
    (if (rget x.disk p0 y.loc).2≠0 then (x,(rget x.disk p0 y.loc).2)
     else if (rget x.disk p0 y.loc).1≤1 then (wdisk x (zdL x.disk y.loc off s).1,(zdL x.disk y.loc off s).2)
     else zb9 x l1 guest off s)
  else zb9 x l1 guest off s
def zdM (x:Img) (guest off:Int) (s:Txt):Img×Int:=
 if (zP x.disk p0).2≠0 then (x,(zP x.disk p0).2)
 else if (elook x.disk p0 (zP x.disk p0).1.l1 guest).2≠0 then (x,(elook x.disk p0 (zP x.disk p0).1.l1 guest).2)
 else zel x (zP x.disk p0).1.l1 (elook x.disk p0 (zP x.disk p0).1.l1 guest).1 guest off s
def za2 (x:Img) (guest off:Int) (s:Txt):Img×Int:=
 if x.broken then (x,24) else if guest<0∨x.geom.guest≤guest∨off<0∨128 - (s.length:Int)<off then (x,10)
 else if s= [] then (x,0) else zdM (cmark x guest) guest off s
set_option maxHeartbeats 1600000 in
theorem zjT (x:Img) (guest off:Int) (s:Txt) (hp:ImgF x∧s.length≤9223372036854775807):AC 11 [imgA x,.d (.int .i64 guest),.d (.int .i64 off),.d (.str s)] (.tup [imgA (za2 x guest off s).1,.d (.int .i64 (za2 x guest off s).2)]):=by
 obtain ⟨h,hs⟩:=hp
 refine fbod Tryz.func11 Tryz.ntmps11 (fun base=>?_)
 have hi:=h.ok
 have hm:=h.maps
 refine' zfd (zbj 3) fx (za zS <| za zae <| za z7 <| za zM <| za z6 <| za zad <| za zT <| za zO <| za zK <| za zt <| za z2 <| za zU <| zb _)
 ·rw [za2,if_pos hc]
 have hbr2:=hc
 have hbr:¬x.broken=true:=by rw [hbr2];exact fun h=>by cases h
 by_cases hrg:guest<0∨x.geom.guest≤guest∨off<0∨128 - (s.length:Int)<off
 ·have hw0:IntKind.i64.wrap (128 - (s.length:Int))=128 - s.length:=zh (by omega) (by omega)
  have hdec:(decide (guest<0)||decide (x.geom.guest≤guest)||decide (off<0)||decide (128<(s.length:Int))||decide (128 - (s.length:Int)<off))=true:=by
   simp only [Bool.or_eq_true,decide_eq_true_eq];omega
  refine' walkR (zF hw0 hdec) (za zS <| za zae <| za z7 <| za zM <| za z6 <| za zad <| za zT <| za zO <| za zK <| za zt <| za z2 <| za zU <| zb _)
  rw [za2,if_neg hbr,if_pos hrg]
 have hw0:IntKind.i64.wrap (128 - (s.length:Int))=128 - s.length:=zh (by omega) (by omega)
 have hdec:(decide (guest<0)||decide (x.geom.guest≤guest)||decide (off<0)||decide (128<(s.length:Int))||decide (128 - (s.length:Int)<off))=false:=by
  simp only [Bool.or_eq_false_iff,decide_eq_false_iff_not];omega
 by_cases hs0:s= []
 ·have hse:(s== [])=true:=by rw [hs0];rfl
  refine' walkR (zG hw0 hdec hse) (za zS <| za zae <| za z7 <| za zM <| za z6 <| za zad <| za zT <| za zO <| za zK <| za zt <| za z2 <| za zU <| zb _)
  rw [za2,if_neg hbr,if_neg hrg,if_pos hs0]
 have hse:(s== [])=false:=by simpa using hs0
 have heq:za2 x guest off s=zdM (cmark x guest) guest off s:=by rw [za2,if_neg hbr,if_neg hrg,if_neg hs0]
 refine' zfd (zbj 8) (zG hw0 hdec hse) (za zS <| za zae <| za z7 <| za zM <| za z6 <| za zad <| za zT <| za zO <| za zK <| za zt <| za z2 <| za zU <| zb _)
 rw [heq]
 have hX:=h.mark guest
 revert hX
 generalize cmark x guest=X
 intro hX
 have hXd:=hX.disk
 have hXo:=hX.ok
 have hXg:=hX.guest
 have hXh:=hX.host
 have hX0:=hX.seq0
 have hX1:=hX.seq1
 have hdp:DP X.disk p0:=⟨hXd,zee⟩
 refine aw_le ⟨[(1,true,.d (.int .i64 guest)),(2,true,.d (.int .i64 off)),(3,true,.d (.str s)),(4,true,.vp 0 0),(8,true,.vp 1 0)],[(1,.var img0),(0,.var (imgV X))],some []⟩ le0 ?_
 have hk1:(elook X.disk p0 (zP X.disk p0).1.l1 guest).1.kind=1→zH (elook X.disk p0 (zP X.disk p0).1.l1 guest).1.loc=true:=zd5
 obtain ⟨r,hr⟩:∃r,r=zP X.disk p0:=⟨_,rfl⟩
 rw [← hr] at hk1
 obtain ⟨y,hy⟩:∃y,y=elook X.disk p0 r.1.l1 guest:=⟨_,rfl⟩
 rw [← hy] at hk1
 obtain ⟨n,hn⟩:∃n,n=rget X.disk p0 y.1.loc:=⟨_,rfl⟩
 have hc2:zdM X guest off s=if r.2≠0 then (X,r.2) else if y.2≠0 then (X,y.2) else zel X r.1.l1 y.1 guest off s:=by rw [zdM,← hr,← hy]
 have hc3:zel X r.1.l1 y.1 guest off s=if y.1.kind=1 then (if n.2≠0 then (X,n.2) else if n.1≤1 then (wdisk X (zdL X.disk y.1.loc off s).1,(zdL X.disk y.1.loc off s).2) else zb9 X r.1.l1 guest off s) else zb9 X r.1.l1 guest off s:=by rw [zel,← hn]
 rw [hc3] at hc2
 by_cases hin:y.1.kind=1∧(n.2≠0∨n.1≤1)
 ·rw [hc2]
  have hkb:(y.1.kind==1)=true:=beq_iff_eq.2 hin.1
  have hho:=hk1 hin.1
  refine' zfd (zbj 20) (zaJ hr.symm hy.symm hn.symm hkb) (za zS <| za zae <| za z7 <| za zM <| za z6 <| za zad <| za zT <| za zO <| za zK <| za zt <| za z2 <| za zU <| zb _)
  all_goals try ((refine (show (_:AV)=_ from ?_));(repeat (first|(rewrite [if_pos];rotate_left;(first|exact bneP (by assumption)|exact beqP (by assumption)|exact of_decide_eq_true (by assumption)|assumption))|(rewrite [if_neg];rotate_left;(first|exact bneN (by assumption)|exact beqN (by assumption)|exact of_decide_eq_false (by assumption)|assumption))));done)
  all_goals try (rw [if_pos hin.1];(refine (show (_:AV)=_ from ?_));(repeat (first|(rewrite [if_pos];rotate_left;(first|exact bneP (by assumption)|exact beqP (by assumption)|exact of_decide_eq_true (by assumption)|assumption))|(rewrite [if_neg];rotate_left;(first|exact bneN (by assumption)|exact beqN (by assumption)|exact of_decide_eq_false (by assumption)|assumption))));rfl)
  rename_i h1
  exact absurd hin.2 (by rintro (h|h);exact bneN h1 h;exact of_decide_eq_false hc h)
 ·have hc4:zdM X guest off s=if r.2≠0 then (X,r.2) else if y.2≠0 then (X,y.2) else zb9 X r.1.l1 guest off s:=by
   rw [hc2]
   by_cases hk:y.1.kind=1
   ·rw [if_pos hk,if_neg (fun h=>hin ⟨hk,.inl h⟩),if_neg (fun h=>hin ⟨hk,.inr h⟩)]
   ·rw [if_neg hk]
  rw [hc4]
  clear hc2 hc3 hc4
  refine' zfd (zbj 14) (zF hr.symm hy.symm) (za zS <| za zae <| za z7 <| za zM <| za z6 <| za zad <| za zT <| za zO <| za zK <| za zt <| za z2 <| za zU <| zb _)
  all_goals try ((refine (show (_:AV)=_ from ?_));(repeat (first|(rewrite [if_pos];rotate_left;(first|exact bneP (by assumption)|exact beqP (by assumption)|exact of_decide_eq_true (by assumption)|assumption))|(rewrite [if_neg];rotate_left;(first|exact bneN (by assumption)|exact beqN (by assumption)|exact of_decide_eq_false (by assumption)|assumption))));done)
  all_goals try ((refine (show (_:AV)=_ from ?_));(repeat (first|(rewrite [if_pos];rotate_left;(first|exact bneP (by assumption)|exact beqP (by assumption)|exact of_decide_eq_true (by assumption)|assumption))|(rewrite [if_neg];rotate_left;(first|exact bneN (by assumption)|exact beqN (by assumption)|exact of_decide_eq_false (by assumption)|assumption))));rfl)
  have e1:=bneN hc
  rename_i hc0
  have e0:=bneN hc0
  rw [if_neg e0,if_neg e1]
  clear hc hc0
  refine zqg ⟨[(1,true,.d (.int .i64 guest)),(2,true,.d (.int .i64 off)),(3,true,.d (.str s)),(4,true,.vp 0 0),(8,true,.vp 1 0),(10,true,.vp 2 0)],[(2,.var [.d (.int .i64 r.1.l1),.d (.int .u32 r.1.next)]),(1,.var img0),(0,.var (imgV X))],some []⟩ ?_ ?_
  ·refine' walkR (zG hr.symm hy.symm hn.symm) (za zS <| za zae <| za z7 <| za zM <| za z6 <| za zad <| za zT <| za zO <| za zK <| za zt <| za z2 <| za zU <| zb _)
   all_goals try exact hk1 (beqP (by assumption))
   ·rename_i hk
    exact absurd ⟨beqP hk,.inl (bneP hc)⟩ hin
   ·rename_i hk _
    exact absurd ⟨beqP hk,.inr (of_decide_eq_true hc)⟩ hin
  ·obtain ⟨t,ht⟩:∃t,t=rtake X.disk p0 X.geom:=⟨_,rfl⟩
   obtain ⟨c,hcc⟩:∃c,c=cread X.disk r.1.l1 guest:=⟨_,rfl⟩
   obtain ⟨b,hb⟩:∃b,b=(overS c.1 off s).1:=⟨_,rfl⟩
   have hth:t.2.2=0→zH t.2.1=true:=by rw [ht];exact zhe
   have hbl:c.2=0→b.length=128:=fun h=>by
    have:=zgi (l1:=r.1.l1) (g:=guest) hXd.puts (by rw [← hcc];exact h)
    rw [← hcc] at this
    rw [hb,ziX (by omega) (by omega),this]
   have hcl:c.1.length≤128:=by rw [hcc];exact zo8 hXd.puts
   have hpt:DP X.disk t.1:=by rw [ht];exact hdp.rtake _
   have hpt2:pfit t.1=true:=hpt.p
   have hw4:zb9 X r.1.l1 guest off s=if t.2.2≠0 then (X,t.2.2) else if c.2≠0 then (X,c.2) else if (layL X.disk (zaE t.2.1 b)).2≠0 then (wdisk X (layL X.disk (zaE t.2.1 b)).1,(layL X.disk (zaE t.2.1 b)).2)
     else if (ppoint (layL X.disk (zaE t.2.1 b)).1 t.1 X.geom guest ⟨1,t.2.1⟩).2≠0 then (wdisk X (layL X.disk (zaE t.2.1 b)).1,(ppoint (layL X.disk (zaE t.2.1 b)).1 t.1 X.geom guest ⟨1,t.2.1⟩).2)
     else cdone (wdisk X (layL X.disk (zaE t.2.1 b)).1) (ppoint (layL X.disk (zaE t.2.1 b)).1 t.1 X.geom guest ⟨1,t.2.1⟩).1:=by rw [zb9,← ht,← hcc,← hb]
   rw [hw4]
   clear hw4
   refine' zfd (zbj 27) (zG ht.symm hcc.symm hb.symm) (za zS <| za zae <| za z7 <| za zM <| za z6 <| za zad <| za zT <| za zO <| za zK <| za zt <| za z2 <| za zU <| zb _)
   all_goals try ((refine (show (_:AV)=_ from ?_));(repeat (first|(rewrite [if_pos];rotate_left;(first|exact bneP (by assumption)|exact beqP (by assumption)|exact of_decide_eq_true (by assumption)|assumption))|(rewrite [if_neg];rotate_left;(first|exact bneN (by assumption)|exact beqN (by assumption)|exact of_decide_eq_false (by assumption)|assumption))));rfl)
   rename_i h0
   have e2:=bneN h0
   have e3:=bneN hc
   have hb128:=hbl (by omega)
   have hth2:=hostOk_iff.1 (hth (by omega))
   obtain ⟨L,hL⟩:∃L,L=layL X.disk (zaE t.2.1 b):=⟨_,rfl⟩
   have hLF:DiskF L.1:=by rw [hL];exact DiskF.layL _ hXd
   rw [if_neg e2,if_neg e3,← hL]
   clear h0 hc
   generalize hZ:(if L.2≠0 then (wdisk X L.1,L.2) else if (ppoint L.1 t.1 X.geom guest ⟨1,t.2.1⟩).2≠0 then (wdisk X L.1,(ppoint L.1 t.1 X.geom guest ⟨1,t.2.1⟩).2) else cdone (wdisk X L.1) (ppoint L.1 t.1 X.geom guest ⟨1,t.2.1⟩).1:Img×Int)=Z
   refine aw_le ⟨[(1,true,.d (.int .i64 guest)),(2,true,.d (.int .i64 off)),(3,true,.d (.str s)),(4,true,.vp 0 0),(8,true,.vp 1 0),(15,true,.vp 3 0),(16,true,.d (.int .i64 t.2.1)),(17,true,.d (.str b))],[(3,.var (planC t.1)),(1,.var img0),(0,.var (imgV X))],some []⟩ (by simp only [AS.le,leT,leH,zi,AsgK,AV.le,AV.leL,AObj.le,inH,idsT,idsH,AV.ids,AV.idsL,AV.idsR,AObj.ids,lk,hget,go_sem,aeq,aeq.aeqF,simprocAttr,planC]) ?_
   refine' walkR fx (za zS <| za zae <| za z7 <| za zM <| za z6 <| za zad <| za zT <| za zO <| za zK <| za zt <| za z2 <| za zU <| zb _)
   refine zy (fun q: { q:Nat×Disk // q.1≤2∧DiskF q.2∧L=layL q.2 ((zaE t.2.1 b).drop q.1) } =>⟨[(1,true,.d (.int .i64 guest)),(2,true,.d (.int .i64 off)),(3,true,.d (.str s)),(4,true,.vp 0 0),(8,true,.vp 1 0),(15,true,.vp 3 0),(16,true,.d (.int .i64 t.2.1)),(17,true,.d (.str b)),(18,true,.d (.int .i64 q.1.1))],[(3,.var (planC t.1)),(1,.var img0),(0,.var (imgV (wdisk X q.1.2)))],some []⟩) (fun q=>2 - q.1.1) ⟨(0,X.disk),Nat.zero_le _,hXd,hL⟩ (by simp only [AS.le,leT,leH,zi,AsgK,AV.le,AV.leL,AObj.le,inH,idsT,idsH,AV.ids,AV.idsL,AV.idsR,AObj.ids,lk,hget,go_sem,aeq,aeq.aeqF,simprocAttr,wdisk]<;>and_intros<;>rfl) (fun q=>?_)
   obtain ⟨⟨i,d⟩,hi2,hF,hf⟩:=q
   simp only at hi2 hF hf ⊢
   have hF1:=hF.ok
   have hc0:((0:Nat):Int)=0:=rfl
   have hc1:((1:Nat):Int)=1:=rfl
   have hc2:((2:Nat):Int)=2:=rfl
   have h64:Int.toNat 64=64:=rfl
   have h128:Int.toNat 128=128:=rfl
   have hz0:Int.toNat 0=0:=rfl
   have hw1:IntKind.i64.wrap 1=1:=by decide
   have hw2:IntKind.i64.wrap 2=2:=by decide
   have hw64:IntKind.i64.wrap 64=64:=by decide
   have hw128:IntKind.i64.wrap 128=128:=by decide
   have hwz:IntKind.i64.wrap 0=0:=by decide
   have hwk:IntKind.i64.wrap (96+2*t.2.1+0)=96+2*t.2.1:=by rw [Int.add_zero];exact zh (by omega) (by omega)
   have hwk1:IntKind.i64.wrap (96+2*t.2.1+1)=96+2*t.2.1+1:=zh (by omega) (by omega)
   have h3:i=0∨i=1∨i=2:=by omega
   rcases h3 with rfl|rfl|rfl
   ·have hf':L=if (zI d (96+2*t.2.1) (b.take 64)).2≠0 then zI d (96+2*t.2.1) (b.take 64) else layL (zI d (96+2*t.2.1) (b.take 64)).1 ((zaE t.2.1 b).drop 1):=hf
    have hFn:=hF.write (96+2*t.2.1) (b.take 64)
    refine' walkR (zaa hc0 hw1 hw64 hwz hz0 (zaJ h64 hwk hb128 @wdisk.eq_1)) (za zS <| za zae <| za z7 <| za zM <| za z6 <| za zad <| za zT <| za zO <| za zK <| za zt <| za z2 <| za zU <| zb _)
    ·rw [if_pos (bneP hc)] at hf'
     rw [← hZ,hf',if_pos (bneP hc)]
     rfl
    ·rw [if_neg (bneN hc)] at hf'
     exact ⟨⟨(1,_),by show (1:Nat)≤2;omega,hFn,hf'⟩,by simp only [AS.le,leT,leH,zi,AsgK,AV.le,AV.leL,AObj.le,inH,idsT,idsH,AV.ids,AV.idsL,AV.idsR,AObj.ids,lk,hget,go_sem,aeq,aeq.aeqF,simprocAttr,wdisk]<;>and_intros<;>rfl,by simp⟩
   ·have hf':L=if (zI d (96+2*t.2.1+1) ((b.take 128).drop 64)).2≠0 then zI d (96+2*t.2.1+1) ((b.take 128).drop 64) else ((zI d (96+2*t.2.1+1) ((b.take 128).drop 64)).1,0):=hf
    have hFn:=hF.write (96+2*t.2.1+1) ((b.take 128).drop 64)
    refine' walkR (zaa hc1 hw2 hw64 hw128 h128 (zaJ h64 hwk1 hb128 @wdisk.eq_1)) (za zS <| za zae <| za z7 <| za zM <| za z6 <| za zad <| za zT <| za zO <| za zK <| za zt <| za z2 <| za zU <| zb _)
    ·rw [if_pos (bneP hc)] at hf'
     rw [← hZ,hf',if_pos (bneP hc)]
     rfl
    ·rw [if_neg (bneN hc)] at hf'
     exact ⟨⟨(2,_),by show (2:Nat)≤2;omega,hFn,hf'⟩,by simp only [AS.le,leT,leH,zi,AsgK,AV.le,AV.leL,AObj.le,inH,idsT,idsH,AV.ids,AV.idsL,AV.idsR,AObj.ids,lk,hget,go_sem,aeq,aeq.aeqF,simprocAttr,wdisk]<;>and_intros<;>rfl,by simp⟩
   ·have hLd:L=(d,0):=hf
    have hdq:DP d t.1:=⟨hF,hpt2⟩
    have hQp:pfit (ppoint d t.1 X.geom guest ⟨1,t.2.1⟩).1=true:=(hdq.ppoint _ _ _).p
    have hXw:ImgOk ⟨d,X.geom,X.jour,X.maps,X.broken⟩:=(hX.wd hF).ok
    rw [hLd] at hZ
    refine' walkR (zF hc2 @wdisk.eq_1) (za zS <| za zae <| za z7 <| za zM <| za z6 <| za zad <| za zT <| za zO <| za zK <| za zt <| za z2 <| za zU <| zb _)
    ·rw [← hZ,if_neg (by simp),if_pos (bneP hc)]
     rfl
    ·rw [← hZ,if_neg (by simp),if_neg (bneN hc)]
     rfl
@[go_sem] noncomputable def zeG:Ent Tryz.prog 11:= .m4 zdv (intT .i64) (intT .i64) strT zjT
open Go Go.Proofs
theorem zj6 {d:Disk} {j:Jour} {p:Plan} (h:(jcommit d j p).2.2≠0):(jcommit d j p).2.1=j:=by
 unfold jcommit jtail at h ⊢
 repeat' split at h
 all_goals simp_all
 all_goals rw [if_neg (by omega)]
theorem zl3 (x:Img) (p:Plan) (hp:ImgOk x∧DiskF x.disk∧pfit p=true∧0≤x.jour.seq∧x.jour.seq<18446744073709551616):AC 12 [imgA x,planA p] (.tup [imgA (cdone x p).1,.d (.int .i64 (cdone x p).2)]):=by
 obtain ⟨h,hd,hf,h0,h1⟩:=hp
 refine fbod Tryz.func12 Tryz.ntmps12 (fun base=>?_)
 refine' walkW fx (za zh0 <| zb _)
 by_cases he:(jcommit x.disk x.jour p).2.2=0
 ·have hb:((jcommit x.disk x.jour p).2.2 !=0)=false:=by rw [he];rfl
  rw [cdone,if_neg (by omega),hb,he,Bool.or_false]
 ·have hb:((jcommit x.disk x.jour p).2.2 !=0)=true:=by simpa using he
  rw [cdone,if_pos he,hb,Bool.or_true,zj6 he]
@[go_sem] noncomputable def zv:Ent Tryz.prog 12:= .m2 zdv zA zl3
theorem zgn (l:List Dmap) (fl:Nat) (hl:l.length≤5000):ACall Tryz.prog 49 fl [.d (.sl 66 (l.map dmapD))] [] (fun r h'=>r= .osl fl 66 l.length 0 l.length∧h'= [(fl,.arr 66 (l.map dmapD))]):=by
 refine bod Tryz.func49 Tryz.ntmps49 (fun base=>?_)
 refine' zeV (zbj 2) fx
 ·refine ze noTab (zb _) (fun K hK=>?_);simp only [go_sem,aeq,aeq.aeqF,simprocAttr]
  (first|(refine hK _ ?_;clear hK K)|(clear hK K;refine hK _ ?_;clear hK K)|(clear hK K;clear hK K;refine hK _ ?_;clear hK K)|(clear hK K;clear hK K;clear hK K;refine hK _ ?_;clear hK K)|(clear hK K;clear hK K;clear hK K;clear hK K;refine hK _ ?_;clear hK K))
  refine zes 2 66 rfl ?_
  have h0:l= []:=List.map_eq_nil_iff.1 (hnb hc)
  subst h0
  refine' zc fx
  all_goals rfl
theorem zl4 (x:Img) (guest:Int) (hp:ImgOk x∧x.maps.length≤5000):AC 15 [imgA x,.d (.int .i64 guest)] (imgA (cmark x guest)):=by
 obtain ⟨h,h2⟩:=hp
 refine fbod Tryz.func15 Tryz.ntmps15 (fun base=>?_)
 by_cases hg:guest<0∨64≤guest
 ·have hdec:(decide (0≤guest)&&decide (guest<64))=false:=by
   rw [Bool.and_eq_false_iff,decide_eq_false_iff_not,decide_eq_false_iff_not];omega
  refine' zc hdec
  rw [cmark,if_pos hg]
 ·have hdec:(decide (0≤guest)&&decide (guest<64))=true:=by
   rw [Bool.and_eq_true,decide_eq_true_eq,decide_eq_true_eq];omega
  obtain ⟨g,rfl⟩:∃g:Nat,guest=g:=⟨guest.toNat,by omega⟩
  have hg2:g<64:=by omega
  refine' zc hdec
  refine ((zgn x.maps 2 h2).own rfl rfl (Nat.zero_le _) (by rintro r h' ⟨_,rfl⟩;rfl)).mono ?_
  rintro r h' ⟨h1,⟨rfl,rfl⟩,rfl⟩
  simp only [go_sem,aeq,aeq.aeqF,simprocAttr]
  refine' zc fx
  refine zy (fun q: { i:Nat // i≤x.maps.length } =>⟨[(1,true,.d (.int .i64 g)),(2,true,.vp 0 0),(4,true,.vp 1 0),(18,true,.d (.int .i64 x.maps.length)),(19,true,.d (.int .i64 q.1))],[(2,.arr 66 (((x.maps.take q.1).map (mset g)++x.maps.drop q.1).map dmapD)),(1,.var img0),(0,.var [.d (.str x.disk.data),.d (.sl 2 (x.disk.cache.map putD)),.d (.int .i64 x.disk.fuse),.d (.bool x.disk.off),.d (.sl 1 (x.disk.bad.map intD)),.d (.int .i64 x.geom.guest),.d (.int .i64 x.geom.host),.d (.int .u64 x.jour.seq),.d (.int .i64 x.jour.pos),.osl 2 66 x.maps.length 0 x.maps.length,.d (.bool x.broken)])],some []⟩) (fun q=>x.maps.length - q.1) ⟨0,Nat.zero_le _⟩ le1 (fun q=>?_)
  obtain ⟨i,hi⟩:=q
  simp only
  have hL:((x.maps.take i).map (mset g)++x.maps.drop i).length=x.maps.length:=by simp;omega
  rcases Nat.lt_or_ge i x.maps.length with hlt|hge
  ·obtain ⟨m,hq⟩:=zaA hlt
   have hcmp:decide ((i:Int)<(x.maps.length:Int))=true:=decide_eq_true (by omega)
   have hwi:=zE (i:=i) (by omega)
   have hL1:((x.maps.take i).map (mset g)).length=i:=by simp;omega
   have hat:((x.maps.take i).map (mset g)++x.maps.drop i)[i]?=some m:=by rw [List.getElem?_append_right (by omega),hL1,Nat.sub_self,List.getElem?_drop,Nat.add_zero,hq]
   have hrow:=zcb (g:=dmapD) hat
   have hset:((x.maps.take i).map (mset g)++x.maps.drop i).set i (mset g m)=(x.maps.take (i+1)).map (mset g)++x.maps.drop (i+1):=by
    rw [List.set_append,if_neg (by omega),hL1,Nat.sub_self,zcP hq,zb7 hq,List.map_append,List.append_assoc]
    rfl
   refine' zc (zG hcmp hL hrow)
   have hnew:(((x.maps.take i).map (mset g)++x.maps.drop i).map dmapD).set i ((dmapD m).set (2+g*1) (.bool true))=((x.maps.take (i+1)).map (mset g)++x.maps.drop (i+1)).map dmapD:=by
    rw [Nat.mul_one,zkQ,← List.map_set,hset]
   exact ⟨⟨i+1,by omega⟩,by simp only [AS.le,leT,leH,zi,AsgK,AV.le,AV.leL,AObj.le,inH,idsT,idsH,AV.ids,AV.idsL,AV.idsR,AObj.ids,lk,hget,go_sem,aeq,aeq.aeqF,simprocAttr,hwi,hnew],by simp;omega⟩
  ·have hcmp:decide ((i:Int)<(x.maps.length:Int))=false:=decide_eq_false (by omega)
   refine' zc (zF hcmp hL)
   rw [cmark,if_neg hg,show i=x.maps.length by omega,List.take_length,List.drop_length,List.append_nil,List.take_of_length_le (by simp)]
   rfl
@[go_sem] noncomputable def zbC:Ent Tryz.prog 15:= .m2 zdv (intT .i64) zl4
def sectI (k:Int):List (Int×Int):= [(96+2*k,0),(96+2*k+1,64)]
def zaf (q:Int×Int):List AV:= [.d (.int .i64 q.1),.d (.int .i64 q.2)]
abbrev Scst (k:Int):= { q:Nat×List (List AV) // q.1≤2∧q.2++((sectI k).drop q.1).map zaf=(sectI k).map zaf }
theorem zen (fl:Nat) (k:Int) (h0:0≤k) (h1:k≤1000):AIter Tryz.prog 75 fl [] [.dp [.d (.int .i64 k)]] [] ((sectI k).map zaf) (fun g h'=>(∀xs,g=some xs→xs=(sectI k).map zaf)∧h'= []):=by
 refine itr Tryz.func75 Tryz.ntmps75 (fun base y=>?_)
 refine' zaK fx
 refine zy (fun q:Scst k=>⟨[(0,true,.fn (.yield y.yl) [] []),(1,true,.dp [.d (.int .i64 k)]),(4,true,.d (.int .i64 q.1.1))],[],some q.1.2⟩) (fun q=>2 - q.1.1) ⟨(0,[]),Nat.zero_le _,rfl⟩ le1 (fun q=>?_)
 obtain ⟨⟨i,xs⟩,hi,hf⟩:=q
 simp only at hi hf ⊢
 have hc0:((0:Nat):Int)=0:=rfl
 have hc1:((1:Nat):Int)=1:=rfl
 have hc2:((2:Nat):Int)=2:=rfl
 have hw1:IntKind.i64.wrap 1=1:=by decide
 have hw2:IntKind.i64.wrap 2=2:=by decide
 have hw64:IntKind.i64.wrap 64=64:=by decide
 have hwz:IntKind.i64.wrap 0=0:=by decide
 have hwk:IntKind.i64.wrap (96+2*k+0)=96+2*k:=by rw [Int.add_zero];exact zh (by omega) (by omega)
 have hwk1:IntKind.i64.wrap (96+2*k+1)=96+2*k+1:=zh (by omega) (by omega)
 have h3:i=0∨i=1∨i=2:=by omega
 rcases h3 with rfl|rfl|rfl
 ·have hpre:(xs++ [zaf (96+2*k,0)])<+:(sectI k).map zaf:=by rw [← hf];exact ⟨[zaf (96+2*k+1,64)],by simp [sectI]⟩
  simp only [zaf] at hpre
  refine' walkX (zaJ hc0 hw1 hwz hwk) (za zbq <| zb _)
  exact ⟨⟨(1,xs++ [zaf (96+2*k,0)]),by show (1:Nat)≤2;omega,by rw [← hf];simp [sectI]⟩,by simp only [AS.le,leT,leH,zi,AsgK,AV.le,AV.leL,AObj.le,inH,idsT,idsH,AV.ids,AV.idsL,AV.idsR,AObj.ids,lk,hget,go_sem,aeq,aeq.aeqF,simprocAttr,zaf]<;>and_intros<;>rfl,by simp⟩
 ·have hpre:(xs++ [zaf (96+2*k+1,64)])<+:(sectI k).map zaf:=by rw [← hf];exact ⟨[],by simp [sectI]⟩
  simp only [zaf] at hpre
  refine' walkX (zaJ hc1 hw2 hw64 hwk1) (za zbq <| zb _)
  exact ⟨⟨(2,xs++ [zaf (96+2*k+1,64)]),by show (2:Nat)≤2;omega,by rw [← hf];simp [sectI]⟩,by simp only [AS.le,leT,leH,zi,AsgK,AV.le,AV.leL,AObj.le,inH,idsT,idsH,AV.ids,AV.idsL,AV.idsR,AObj.ids,lk,hget,go_sem,aeq,aeq.aeqF,simprocAttr,zaf]<;>and_intros<;>rfl,by simp⟩
 ·refine' walkX hc2 (za zbq <| zb _)
  rintro zs rfl
  simpa [sectI] using hf
theorem zl5 (k:Int) (_:True):AC 27 [.d (.int .i64 k)] (.fn (.func 75) [] [.dp [.d (.int .i64 k)]]):=by
 refine fbod Tryz.func27 Tryz.ntmps27 (fun base=>?_)
 refine' zc fx
@[go_sem] noncomputable def zp:Ent Tryz.prog 27:= .m1 (intT .i64) zl5
def rdA (d:Disk) (k:Int):Nat→Txt
 |0=> []
 |1=>(dread d (96+2*k)).1
 |_=>(dread d (96+2*k)).1++(dread d (96+2*k+1)).1
@[go_sem] theorem rdA_0 (d:Disk) (k:Int):rdA d k 0= []:=rfl
def rdG (d:Disk) (k:Int):Nat→Prop
 |0=>True
 |1=>(dread d (96+2*k)).2=0
 |_=>(dread d (96+2*k)).2=0∧(dread d (96+2*k+1)).2=0
theorem ze4 {k:Int} {ys zs:List (Int×Int)} {q:Int×Int} (h:sectI k=ys++q::zs):(ys= []∧q=(96+2*k,0))∨(ys= [(96+2*k,0)]∧q=(96+2*k+1,64)):=by
 match ys,h with
 | [],h=>simp only [sectI,List.nil_append,List.cons.injEq] at h;exact .inl ⟨rfl,h.1.symm⟩
 | [a],h=>simp only [sectI,List.cons_append,List.nil_append,List.cons.injEq] at h;exact .inr ⟨by rw [h.1],h.2.1.symm⟩
 |a::b::r,h=>
  exfalso
  have:=congrArg List.length h
  simp [sectI] at this
theorem zl6 (d:Disk) (l1 guest:Int) (h:DiskF d):AC 8 [diskA d,.d (.int .i64 l1),.d (.int .i64 guest)] (.tup [.d (.str (cread d l1 guest).1),.d (.int .i64 (cread d l1 guest).2)]):=by
 refine fbod Tryz.func8 Tryz.ntmps8 (fun base=>?_)
 have hdp:DP d p0:=⟨h,zee⟩
 have hk1:(elook d p0 l1 guest).1.kind=1→zH (elook d p0 l1 guest).1.loc=true:=zd5
 refine' walkR fx (za zD <| za za1 <| za zp <| za zo <| zb _)
 ·rw [cread,if_pos (bneP hc)]
 ·rename_i hc0
  rw [cread,if_neg (bneN hc0),if_neg (bneP hc)]
  rfl
 rename_i hc0
 have hkk:(elook d p0 l1 guest).1.kind=1:=Classical.byContradiction (fun h=>bneN hc h)
 have hrd:cread d l1 guest=zbn d (elook d p0 l1 guest).1.loc:=by rw [cread,if_neg (bneN hc0),if_pos hkk]
 have hho:=hostOk_iff.1 (hk1 hkk)
 have hcl:zbn d (elook d p0 l1 guest).1.loc=if (dread d (96+2*(elook d p0 l1 guest).1.loc)).2≠0 then ([],(dread d (96+2*(elook d p0 l1 guest).1.loc)).2) else if (dread d (96+2*(elook d p0 l1 guest).1.loc+1)).2≠0 then ([],(dread d (96+2*(elook d p0 l1 guest).1.loc+1)).2)
   else ((dread d (96+2*(elook d p0 l1 guest).1.loc)).1++(dread d (96+2*(elook d p0 l1 guest).1.loc+1)).1,0):=rfl
 rw [hcl] at hrd
 clear hcl hc0 hc
 revert hkk hho hrd
 generalize (elook d p0 l1 guest).1.loc=k
 intro hkk hcl hho
 have hdo:=h.ok
 have hl1:=zcx (at_:=96+2*k) h.puts
 have hl2:=zcx (at_:=96+2*k+1) h.puts
 obtain ⟨I,hI⟩:∃I:List (List AV)→AHeap×Option (List (List AV)),I=fun xs=>([(4,.var [.d (.str (rdA d k xs.length))]),(2,.var [.d (.int .i64 0)]),(1,.var [.d (.str [])]),(0,(.var [.d (.str d.data),.d (.sl 2 (d.cache.map putD)),.d (.int .i64 d.fuse),.d (.bool d.off),.d (.sl 1 (d.bad.map intD))]))],some []):=⟨_,rfl⟩
 obtain ⟨G,hG⟩:∃G:List (List AV)→Prop,G=fun xs=>rdG d k xs.length:=⟨_,rfl⟩
 obtain ⟨J,hJ⟩:∃J:Code→AHeap→Option (List (List AV))→Prop,J=fun c h g=>c= .ret∧g=some []∧∃t e,cread d l1 guest=([],e)∧h= [(4,.var [.d (.str t)]),(2,.var [.d (.int .i64 e)]),(1,.var [.d (.str [])]),(0,(.var [.d (.str d.data),.d (.sl 2 (d.cache.map putD)),.d (.int .i64 d.fuse),.d (.bool d.off),.d (.sl 1 (d.bad.map intD))]))]:=⟨_,rfl⟩
 refine aw_le ⟨[(3,true,.vp 0 0),(6,true,.vp 1 0),(7,true,.vp 2 0),(10,true,.vp 4 0),(33,true,.fn (.func 75) [] [.dp [.d (.int .i64 k)]])],[(4,.var [.d (.str [])]),(2,.var [.d (.int .i64 0)]),(1,.var [.d (.str [])]),(0,(.var [.d (.str d.data),.d (.sl 2 (d.cache.map putD)),.d (.int .i64 d.fuse),.d (.bool d.off),.d (.sl 1 (d.bad.map intD))]))],some []⟩ le0 ?_
 refine zbk 100 G I J (zen 100 k (by omega) (by omega)) (by simp only [go_sem,aeq,aeq.aeqF,simprocAttr]) rfl (zR rfl) (by simp [cxOf,cxY]) rfl (by rw [hG];first|trivial|rfl|simp) (by rw [hI];simp only [AS.le,leT,leH,zi,AsgK,AV.le,AV.leL,AObj.le,inH,idsT,idsH,AV.ids,AV.idsL,AV.idsR,AObj.ids,lk,hget,go_sem,aeq,aeq.aeqF,simprocAttr]<;>simp [AV.leL,AV.le]) (by rw [hI];simp only [AS.le,leT,leH,zi,AsgK,AV.le,AV.leL,AObj.le,inH,idsT,idsH,AV.ids,AV.idsL,AV.idsR,AObj.ids,lk,hget,go_sem,aeq,aeq.aeqF,simprocAttr]<;>simp) (by rw [hI]<;>rfl) (by intro x hx;obtain ⟨q,_,rfl⟩:=List.mem_map.1 hx;rfl) (by intro t ht;simp at ht;first|(rcases ht with rfl|rfl<;>simp [cxOf,cxY]<;>done)|(subst ht;simp [cxOf,cxY])) ?_ ?_ ?_
 ·intro xs x hpre hgd l1 r1
  obtain ⟨ys,q,zs,hys,rfl,hzl⟩:=zdg hpre
  have hln:xs.length=ys.length:=by rw [hys];simp
  rw [hG] at hgd
  rcases ze4 hzl with ⟨rfl,rfl⟩|⟨rfl,rfl⟩
  ·have hx0:xs= []:=by simpa using hys
   subst hx0
   simp only [zaf]
   refine aw_le ⟨[(34,true,.d (.int .i64 (96+2*k))),(3,true,.vp 0 0),(6,true,.vp 1 0),(7,true,.vp 2 0),(10,true,.vp 4 0)],[(4,.var [.d (.str [])]),(2,.var [.d (.int .i64 0)]),(1,.var [.d (.str [])]),(0,(.var [.d (.str d.data),.d (.sl 2 (d.cache.map putD)),.d (.int .i64 d.fuse),.d (.bool d.off),.d (.sl 1 (d.bad.map intD))]))],some []⟩ (by rw [hI];simp only [AS.le,leT,leH,zi,AsgK,AV.le,AV.leL,AObj.le,inH,idsT,idsH,AV.ids,AV.idsL,AV.idsR,AObj.ids,lk,hget,go_sem,aeq,aeq.aeqF,simprocAttr,rdA]) ?_
   (have tk:=za zD <| za za1 <| za zp <| za zo <| zb Tryz.prog);repeat' (first|((first|(refine sa ?_;intro K hK)|refine sb ?_);simp only [go_sem,aeq,aeq.aeqF,simprocAttr,hI,rdA,Tryz.results8])|refine zay (fun K hK=>?_)|refine sc ?_|refine zbf rfl (fun hc=>?_) (fun hc=>?_)|(refine hK _ ?_;clear hK K)|((first|refine (show AS.le _ _ from ?_)|refine (show leH _ _ from ?_)|refine (show inH _ _ from ?_));simp only [AS.le,leT,leH,zi,AsgK,AV.le,AV.leL,AObj.le,inH,idsT,idsH,AV.ids,AV.idsL,AV.idsR,AObj.ids,lk,hget,go_sem,aeq,aeq.aeqF,simprocAttr,hI,rdA])|refine fun (r2:Rnd _)=>?_|with_reducible refine And.intro ?_ ?_|exact ‹_<+:_› |omega|assumption|clear hK K)
   ·rw [hJ]
    exact ⟨rfl,rfl,_,_,by rw [hcl,if_pos (bneP hc)],rfl⟩
   ·rw [hG]
    exact Classical.byContradiction (bneN hc)
  ·have hx1:xs= [zaf (96+2*k,0)]:=by simpa using hys
   subst hx1
   simp only [zaf]
   refine aw_le ⟨[(34,true,.d (.int .i64 (96+2*k+1))),(3,true,.vp 0 0),(6,true,.vp 1 0),(7,true,.vp 2 0),(10,true,.vp 4 0)],[(4,.var [.d (.str (dread d (96+2*k)).1)]),(2,.var [.d (.int .i64 0)]),(1,.var [.d (.str [])]),(0,(.var [.d (.str d.data),.d (.sl 2 (d.cache.map putD)),.d (.int .i64 d.fuse),.d (.bool d.off),.d (.sl 1 (d.bad.map intD))]))],some []⟩ (by rw [hI];simp only [AS.le,leT,leH,zi,AsgK,AV.le,AV.leL,AObj.le,inH,idsT,idsH,AV.ids,AV.idsL,AV.idsR,AObj.ids,lk,hget,go_sem,aeq,aeq.aeqF,simprocAttr,rdA]) ?_
   have h0:(dread d (96+2*k)).2=0:=hgd
   (have tk:=za zD <| za za1 <| za zp <| za zo <| zb Tryz.prog);repeat' (first|((first|(refine sa ?_;intro K hK)|refine sb ?_);simp only [go_sem,aeq,aeq.aeqF,simprocAttr,hI,rdA,Tryz.results8])|refine zay (fun K hK=>?_)|refine sc ?_|refine zbf rfl (fun hc=>?_) (fun hc=>?_)|(refine hK _ ?_;clear hK K)|((first|refine (show AS.le _ _ from ?_)|refine (show leH _ _ from ?_)|refine (show inH _ _ from ?_));simp only [AS.le,leT,leH,zi,AsgK,AV.le,AV.leL,AObj.le,inH,idsT,idsH,AV.ids,AV.idsL,AV.idsR,AObj.ids,lk,hget,go_sem,aeq,aeq.aeqF,simprocAttr,hI,rdA])|refine fun (r2:Rnd _)=>?_|with_reducible refine And.intro ?_ ?_|exact ‹_<+:_› |omega|assumption|clear hK K)
   ·rw [hJ]
    exact ⟨rfl,rfl,_,_,by rw [hcl,if_neg (by omega),if_pos (bneP hc)],rfl⟩
   ·rw [hG]
    exact ⟨h0,Classical.byContradiction (bneN hc)⟩
 ·intro hgd
  rw [hG] at hgd
  have hgd:(dread d (96+2*k)).2=0∧(dread d (96+2*k+1)).2=0:=hgd
  rw [hI]
  (have tk:=za zD <| za za1 <| za zp <| za zo <| zb Tryz.prog);repeat' (first|((first|(refine sa ?_;intro K hK)|refine sb ?_);simp only [go_sem,aeq,aeq.aeqF,simprocAttr,sectI,rdA,Tryz.results8])|refine zay (fun K hK=>?_)|refine sc ?_|refine zbf rfl (fun hc=>?_) (fun hc=>?_)|(refine hK _ ?_;clear hK K)|((first|refine (show AS.le _ _ from ?_)|refine (show leH _ _ from ?_)|refine (show inH _ _ from ?_));simp only [AS.le,leT,leH,zi,AsgK,AV.le,AV.leL,AObj.le,inH,idsT,idsH,AV.ids,AV.idsL,AV.idsR,AObj.ids,lk,hget,go_sem,aeq,aeq.aeqF,simprocAttr,sectI,rdA])|refine fun (r2:Rnd _)=>?_|with_reducible refine And.intro ?_ ?_|exact ‹_<+:_› |omega|assumption|clear hK K)
  rw [hcl,if_neg (by omega),if_neg (by omega)]
 ·rw [hJ]
  rintro c h3 g3 ⟨rfl,rfl,t,e,he,rfl⟩
  refine' walkR fx (za zD <| za za1 <| za zp <| za zo <| zb _)
  rw [he]
@[go_sem] noncomputable def zu:Ent Tryz.prog 8:= .m3 zq (intT .i64) (intT .i64) zl6
open Go Go.Proofs
end Go.Aw
