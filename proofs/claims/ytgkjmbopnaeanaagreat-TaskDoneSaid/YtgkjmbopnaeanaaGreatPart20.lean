/-
  Parts of the proof: JourA, JourB (short names; the readable texts lie in the repo, under wip).
-/
import Derived.Test.YtgkjmbopnaeanaaGreatPart18
set_option maxRecDepth 100000
set_option maxHeartbeats 2000000
set_option linter.unusedSimpArgs false
set_option linter.unusedVariables false
namespace Go.Aw
open Go Go.Proofs
structure Jour where
 seq:Int
 pos:Int
 deriving DecidableEq
def jourA (j:Jour):AV:= .agg [.d (.int .u64 j.seq),.d (.int .i64 j.pos)]
attribute [go_sem] jourA
theorem zur (j:Jour):Jour.mk j.seq j.pos=j:=rfl
noncomputable def zkp:PT Jour:=aggT (consL (intT .u64) (consL (intT .i64) nilL)) (fun p=>⟨p.1,p.2.1⟩) (fun x=>(x.seq,x.pos,())) (fun _=>rfl)
attribute [go_sem] zkp
attribute [go_sem] zur
def jfit (j:Jour):Bool:=decide (1≤j.seq)&&decide (j.seq≤4611686018427387904)&&decide (0≤j.pos)&&decide (j.pos≤81)
def zdb (pos size:Int):Int:=if pos<0∨size<0∨81<size∨81 - size<pos then 0 else pos
def numF:Int→List Txt→List (Int×Txt)
 |_,[]=> []
 |a,s::r=>(a,s)::numF (a+1) r
theorem znp:∀ (l:List Txt) (a:Int) (i:Nat) (s:Txt),l[i]?=some s→(numF a l)[i]?=some (a+i,s)
 | [],a,i,s,h=>by simp at h
 |x::l,a,0,s,h=>by
  have:x=s:=by simpa using h
  subst this
  simp [numF]
 |x::l,a,i+1,s,h=>by
  rw [numF,List.getElem?_cons_succ,znp l (a+1) i s (by simpa using h)]
  congr 2
  omega
theorem zkq:∀ (l:List Txt) (a:Int),(numF a l).length=l.length
 | [],_=>rfl
 |x::l,a=>by rw [numF,List.length_cons,zkq l,List.length_cons]
def jtail (d:Disk) (j:Jour) (p:Plan) (L:List Txt) (A:Int):Disk×Jour×Int:=
 if (layL d (numF (6+A) L)).2≠0 then ((layL d (numF (6+A) L)).1,j,(layL d (numF (6+A) L)).2)
 else if (dflush (layL d (numF (6+A) L)).1).2≠0 then ((dflush (layL d (numF (6+A) L)).1).1,j,(dflush (layL d (numF (6+A) L)).1).2)
 else if (play (dflush (layL d (numF (6+A) L)).1).1 p).2≠0 then ((play (dflush (layL d (numF (6+A) L)).1).1 p).1,j,(play (dflush (layL d (numF (6+A) L)).1).1 p).2)
 else ((play (dflush (layL d (numF (6+A) L)).1).1 p).1,⟨j.seq+1,A+L.length⟩,0)
def jcommit (d:Disk) (j:Jour) (p:Plan):Disk×Jour×Int:=
 if p.targets.length=0 then (d,j,0) else if 4611686018427387904≤j.seq then (d,j,10)
 else if (dflush d).2≠0 then ((dflush d).1,j,(dflush d).2)
 else jtail (dflush d).1 j p (zcb j.seq p) (zdb j.pos (zcb j.seq p).length)
theorem zgT (pos size:Int):0≤zdb pos size∧zdb pos size≤81:=by
 unfold zdb
 split<;>omega
theorem zgU {p:Plan} (seq:Int) (hf:pfit p=true):(zcb seq p).length≤27∧∀s∈zcb seq p,s.length≤64:=by
 obtain ⟨hl,h24,h64⟩:=zaJ hf
 refine ⟨?_,?_⟩
 ·rw [zcb,tbody,List.length_cons,List.length_append]
  have:(trows p.targets).length≤2:=by unfold trows;split<;>simp
  omega
 ·intro s hs
  rcases List.mem_cons.1 hs with rfl|hs
  ·rw [ttop,zhH]
   ·exact Nat.le_refl _
   ·rw [List.length_append,List.length_append,List.length_append,thead,List.length_append,zu,zu,zu,zdD]
    decide
  ·rw [zik hf s hs];exact Nat.le_refl _
theorem zus (j:Jour) (_:True):AC 63 [jourA j] (.d (.bool (jfit j))):=by
 refine bod Tryz.func63 Tryz.ntmps63 (fun base=>?_)
 refine' zc fx
 rfl
@[go_sem] noncomputable def zfB:Ent Tryz.prog 63:= .m1 zkp zus
theorem zqb (pos size:Int) (hp:0≤size∧size≤1000):AC 211 [.d (.int .i64 pos),.d (.int .i64 size)] (.d (.int .i64 (zdb pos size))):=by
 obtain ⟨h0,h1⟩:=hp
 refine bod Tryz.func211 Tryz.ntmps211 (fun base=>?_)
 have hw:IntKind.i64.wrap (81 - size)=81 - size:=ze (by omega) (by omega)
 refine' zc hw
 ·simp only [Bool.or_eq_true,decide_eq_true_eq,or_assoc] at hc
  rw [zdb,if_pos hc]
 ·rw [zdb,if_neg]
  intro h
  have:(decide (pos<0)||decide (size<0)||decide (81<size)||decide (81 - size<pos))=true:=by
   simp only [Bool.or_eq_true,decide_eq_true_eq,or_assoc];exact h
  rw [hc] at this;cases this
@[go_sem] noncomputable def zcr:Ent Tryz.prog 211:= .m2 (intT .i64) (intT .i64) zqb
theorem zqc:ACall Tryz.prog 212 0 [] [] (fun r _=>r= .d (.int .i64 6)):=by
 refine bod Tryz.func212 Tryz.ntmps212 (fun base=>?_)
 refine' walkW fx (za znh <| zb _)
@[go_sem] noncomputable def zcs:Ent Tryz.prog 212:= .ofL nilL (fun _=>True) (fun _=> .d (.int .i64 6)) (fun _ hp=>⟨rfl,zqc⟩)
theorem znq (d:Disk) (j:Jour) (p:Plan) (hp:DiskF d∧pfit p=true∧0≤j.seq∧j.seq<18446744073709551616):AC 171 [diskA d,jourA j,planA p] (.tup [diskA (jcommit d j p).1,jourA (jcommit d j p).2.1,.d (.int .i64 (jcommit d j p).2.2)]):=by
 obtain ⟨hd,hf,h0,h1⟩:=hp
 refine fbod Tryz.func171 Tryz.ntmps171 (fun base=>?_)
 obtain ⟨hl,h24,h64⟩:=zaJ hf
 have hpo:PlanOk p:=⟨by omega,by omega⟩
 have hdo:=hd.ok
 have hdp:=hd.puts
 by_cases hn:p.targets.length=0
 ·have hb:((p.targets.length:Int)==0)=true:=by rw [hn];rfl
  refine' walkW hb (za za3 <| za zcq <| za zcr <| za zcs <| za zG <| za zcR <| zb _)
  rw [jcommit,if_pos hn]
 have hb:((p.targets.length:Int)==0)=false:=by rw [beq_eq_false_iff_ne];omega
 by_cases hs:4611686018427387904≤j.seq
 ·have hb2:decide (4611686018427387904≤j.seq)=true:=decide_eq_true hs
  refine' walkW (zk hb hb2) (za za3 <| za zcq <| za zcr <| za zcs <| za zG <| za zcR <| zb _)
  rw [jcommit,if_neg hn,if_pos hs]
 have hb2:decide (4611686018427387904≤j.seq)=false:=decide_eq_false hs
 by_cases he1:(dflush d).2≠0
 ·have hb3:((dflush d).2 !=0)=true:=by simpa using he1
  refine' walkW (zr hb hb2 hb3) (za za3 <| za zcq <| za zcr <| za zcs <| za zG <| za zcR <| zb _)
  rw [jcommit,if_neg hn,if_neg hs,if_pos he1]
 have hb3:((dflush d).2 !=0)=false:=by simpa using he1
 obtain ⟨htl,ht64⟩:=zgU j.seq hf
 have hd1:=hd.flush
 have hj:=zgT j.pos (zcb j.seq p).length
 have hjc:jcommit d j p=jtail (dflush d).1 j p (zcb j.seq p) (zdb j.pos (zcb j.seq p).length):=by rw [jcommit,if_neg hn,if_neg hs,if_neg he1]
 obtain ⟨L,hL⟩:∃L,L=zcb j.seq p:=⟨_,rfl⟩
 rw [← hL] at htl ht64 hj hjc
 obtain ⟨A,hA⟩:∃A,A=zdb j.pos L.length:=⟨_,rfl⟩
 rw [← hA] at hj hjc
 obtain ⟨D1,hD1⟩:∃D1,D1=(dflush d).1:=⟨_,rfl⟩
 rw [← hD1] at hd1 hjc
 refine' walkW (zr hb hb2 hb3) (za za3 <| za zcq <| za zcr <| za zcs <| za zG <| za zcR <| zb _)
 ·rw [← hL];omega
 rw [← hL,← hA,← hD1]
 refine zo (fun q: { q:Nat×Disk // q.1≤L.length∧DiskF q.2∧layL D1 (numF (6+A) L)=layL q.2 ((numF (6+A) L).drop q.1) } =>⟨[(3,true,.vp 0 0),(4,true,.vp 1 0),(5,true,.vp 2 0),(6,true,.vp 3 0),(7,true,.vp 4 0),(10,true,.d (.sl 1 (L.map strD))),(11,true,.d (.int .i64 A)),(12,true,.d (.int .i64 q.1.1))],[(4,.var [.d (.int .u64 0),.d (.int .i64 0)]),(3,.var [.d (.str []),.nils 2,.d (.int .i64 0),.d (.bool false),.nils 1]),(2,.var [.d (.sl 1 (p.targets.map intD)),.d (.sl 1 (p.texts.map strD))]),(1,.var [.d (.int .u64 j.seq),.d (.int .i64 j.pos)]),(0,(.var [.d (.str q.1.2.data),.d (.sl 2 (q.1.2.cache.map putD)),.d (.int .i64 q.1.2.fuse),.d (.bool q.1.2.off),.d (.sl 1 (q.1.2.bad.map intD))]))],some []⟩) (fun q=>L.length - q.1.1) ⟨(0,D1),Nat.zero_le _,hd1,rfl⟩ le1 (fun q=>?_)
 obtain ⟨⟨i,x⟩,hi,hx,hfx⟩:=q
 simp only at hi hx hfx ⊢
 have hxo:=hx.ok
 have hxp:=hx.puts
 rcases zD strD L i hi with ⟨s,hq,hlt,hcmp,hrow,hdr,htk⟩|⟨hend,hcmp⟩
 ·simp only [strD] at hrow
  have hwi:=zn (i:=i) (by omega)
  have hw1:IntKind.i64.wrap (6+A)=6+A:=ze (by omega) (by omega)
  have hw2:IntKind.i64.wrap (6+A+(i:Int))=6+A+i:=ze (by omega) (by omega)
  rw [zdQ (znp L (6+A) i s hq),layL] at hfx
  have hxw:=hx.write (6+A+i) s
  refine' walkW (zaH hcmp hrow hw1 hw2 natC) (za za3 <| za zcq <| za zcr <| za zcs <| za zG <| za zcR <| zb _)
  ·have hc:(zU x (6+A+i) s).2≠0:=by simpa using hc
   rw [if_pos hc] at hfx
   rw [hjc,jtail,hfx,if_pos hc]
  ·have hc:¬(zU x (6+A+i) s).2≠0:=by simpa using hc
   rw [if_neg hc] at hfx
   exact ⟨⟨(i+1,(zU x (6+A+i) s).1),by omega,hxw,hfx⟩,lew,by simp;omega⟩
 ·subst hend
  have hlay:layL D1 (numF (6+A) L)=(x,0):=by
   rw [hfx,List.drop_of_length_le (by rw [zkq];omega)];rfl
  have hxf:=hx.flush
  have hxfo:=hxf.ok
  have hws:j.seq<4611686018427387904→IntKind.u64.wrap (j.seq+1)=j.seq+1:=fun h=>zT (by omega) (by omega)
  have hws:=hws (by omega)
  have hwl:IntKind.i64.wrap (A+(L.length:Int))=A+L.length:=ze (by omega) (by omega)
  rw [jtail,hlay] at hjc
  simp only [if_neg (show ¬(0:Int)≠0 by decide)] at hjc
  refine' walkW (zr hcmp hws hwl) (za za3 <| za zcq <| za zcr <| za zcs <| za zG <| za zcR <| zb _)
  ·have hc:(dflush x).2≠0:=by simpa using hc
   rw [hjc,if_pos hc]
  ·rename_i hc0
   have hc0:¬(dflush x).2≠0:=by simpa using hc0
   have hc:(play (dflush x).1 p).2≠0:=by simpa using hc
   rw [hjc,if_neg hc0,if_pos hc]
  ·rename_i hc0
   have hc0:¬(dflush x).2≠0:=by simpa using hc0
   have hc:¬(play (dflush x).1 p).2≠0:=by simpa using hc
   rw [hjc,if_neg hc0,if_neg hc]
@[go_sem] noncomputable def zkr:Ent Tryz.prog 171:= .m3 zA zkp zN znq
open Go Go.Proofs
theorem zuF:ACall Tryz.prog 268 0 [] [] (fun r _=>r= .tup [.d (.int .i64 6),.d (.int .i64 81)]):=by
 refine bod Tryz.func268 Tryz.ntmps268 (fun base=>?_)
 refine' zc fx
@[go_sem] noncomputable def zqs:Ent Tryz.prog 268:= .ofL nilL (fun _=>True) (fun _=> .tup [.d (.int .i64 6),.d (.int .i64 81)]) (fun _ hp=>⟨rfl,zuF⟩)
theorem zuG:ACall Tryz.prog 238 0 [] [] (fun r _=>r= .tup [.d (.int .i64 6),.d (.int .i64 81)]):=by
 refine bod Tryz.func238 Tryz.ntmps238 (fun base=>?_)
 refine' walkW fx (za zqs <| zb _)
@[go_sem] noncomputable def zdE:Ent Tryz.prog 238:= .ofL nilL (fun _=>True) (fun _=> .tup [.d (.int .i64 6),.d (.int .i64 81)]) (fun _ hp=>⟨rfl,zuG⟩)
theorem zqt (pos size:Int) (hp:0≤size∧size≤1000):AC 239 [.d (.int .i64 pos),.d (.int .i64 size)] (.d (.int .i64 (zdb pos size))):=by
 obtain ⟨h0,h1⟩:=hp
 refine bod Tryz.func239 Tryz.ntmps239 (fun base=>?_)
 have hw:IntKind.i64.wrap (81 - size)=81 - size:=ze (by omega) (by omega)
 refine' walkW hw (za zdE <| zb _)
 ·simp only [Bool.or_eq_true,decide_eq_true_eq,or_assoc] at hc
  rw [zdb,if_pos hc]
 ·rw [zdb,if_neg]
  intro h
  have:(decide (pos<0)||decide (size<0)||decide (81<size)||decide (81 - size<pos))=true:=by
   simp only [Bool.or_eq_true,decide_eq_true_eq,or_assoc];exact h
  rw [hc] at this;cases this
@[go_sem] noncomputable def zdc:Ent Tryz.prog 239:= .m2 (intT .i64) (intT .i64) zqt
theorem zuH (a:Int) (L:List Txt) (_:True):AC 241 [.d (.int .i64 a),.d (.sl 1 (L.map strD))] (.fn (.func 269) [] [.dp [.d (.sl 1 (L.map strD))],.dp [.d (.int .i64 a)]]):=by
 refine fbod Tryz.func241 Tryz.ntmps241 (fun base=>?_)
 refine' zc fx
@[go_sem] noncomputable def zeo:Ent Tryz.prog 241:= .m2 (intT .i64) (slT 1 strD zgj) zuH
theorem zuI (p:Plan) (_:True):AC 242 [planA p] (.fn (.func 270) [] [.dp (planC p)]):=by
 refine fbod Tryz.func242 Tryz.ntmps242 (fun base=>?_)
 refine' zc fx
@[go_sem] noncomputable def zep:Ent Tryz.prog 242:= .m1 zN zuI
theorem zsx (d:Disk) (p:Plan) (hp:DiskOk d∧PlanOk p∧p.targets.length=p.texts.length):AC 270 [diskA d,.dp (planC p)] (.tup [diskA (play d p).1,.d (.int .i64 (play d p).2)]):=by
 obtain ⟨hd,hp,hl⟩:=hp
 refine fbod Tryz.func270 Tryz.ntmps270 (fun base=>?_)
 refine' walkW fx (za zgn <| za zt <| zb _)
@[go_sem] noncomputable def zcU:Ent Tryz.prog 270:= .m2 zA zrV zsx
theorem zsy (d:Disk) (L:List Txt) (a:Int) (hd:DiskF d) (hn:L.length≤100) (h0:0≤a) (h1:a≤100):ACall Tryz.prog 269 0 [diskA d,.dp [.d (.sl 1 (L.map strD))],.dp [.d (.int .i64 a)]] [] (fun r _=>r= .tup [diskA (layL d (numF a L)).1,.d (.int .i64 (layL d (numF a L)).2)]):=by
 refine fbod Tryz.func269 Tryz.ntmps269 (fun base=>?_)
 refine' walkW fx (za zgn <| za zt <| zb _)
 refine zo (fun q: { q:Nat×Disk // q.1≤L.length∧DiskF q.2∧layL d (numF a L)=layL q.2 ((numF a L).drop q.1) } =>⟨[(2,true,.dp [.d (.int .i64 a)]),(3,true,.vp 0 0),(4,true,.vp 1 0),(6,true,.d (.int .i64 0)),(9,true,.d (.sl 1 (L.map strD))),(10,true,.d (.int .i64 L.length)),(11,true,.d (.int .i64 q.1.1))],[(1,.var [.d (.str []),.nils 2,.d (.int .i64 0),.d (.bool false),.nils 1]),(0,(.var [.d (.str q.1.2.data),.d (.sl 2 (q.1.2.cache.map putD)),.d (.int .i64 q.1.2.fuse),.d (.bool q.1.2.off),.d (.sl 1 (q.1.2.bad.map intD))]))],some []⟩) (fun q=>L.length - q.1.1) ⟨(0,d),Nat.zero_le _,hd,rfl⟩ le1 (fun q=>?_)
 obtain ⟨⟨i,x⟩,hi,hx,hfx⟩:=q
 simp only at hi hx hfx ⊢
 have hxo:=hx.ok
 rcases zD strD L i hi with ⟨s,hq,hlt,hcmp,hrow,hdr,htk⟩|⟨hend,hcmp⟩
 ·simp only [strD] at hrow
  have hwi:=zn (i:=i) (by omega)
  have hw1:IntKind.i64.wrap (a+(i:Int))=a+i:=ze (by omega) (by omega)
  rw [zdQ (znp L a i s hq),layL] at hfx
  have hxw:=hx.write (a+i) s
  refine' walkW (zr hcmp hrow hw1) (za zgn <| za zt <| zb _)
  ·have hc:(zU x (a+i) s).2≠0:=by simpa using hc
   rw [if_pos hc] at hfx
   rw [hfx]
  ·have hc:¬(zU x (a+i) s).2≠0:=by simpa using hc
   have hc':(zU x (a+i) s).2=0:=by simpa using hc
   rw [if_neg hc] at hfx
   exact ⟨⟨(i+1,(zU x (a+i) s).1),by omega,hxw,hfx⟩,by simp only [AS.le,leT,leH,zf,AsgK,AV.le,AV.leL,AObj.le,inH,idsT,idsH,AV.ids,AV.idsL,AV.idsR,AObj.ids,lk,hget,go_sem,aeq,aeq.aeqF,simprocAttr,hwi,hc'],by simp;omega⟩
 ·subst hend
  have hlay:layL d (numF a L)=(x,0):=by
   rw [hfx,List.drop_of_length_le (by rw [zkq];omega)];rfl
  refine' walkW hcmp (za zgn <| za zt <| zb _)
  rw [hlay]
@[go_sem] noncomputable def zcV:Ent Tryz.prog 269:= .ofL (consL zA (consL (dpT (consL (slT 1 strD zgj) nilL) (fun p=>p) (fun p=>p) (fun _=>rfl)) (consL (dpT (consL (intT .i64) nilL) (fun p=>p) (fun p=>p) (fun _=>rfl)) nilL))) (fun (d,(L,_),(a,_),_)=>(DiskF d)∧(L.length≤100)∧(0≤a)∧(a≤100)) (fun (d,(L,_),(a,_),_)=> .tup [diskA (layL d (numF a L)).1,.d (.int .i64 (layL d (numF a L)).2)]) (fun (d,(L,_),(a,_),_) hp=>⟨rfl,zsy d L a hp.1 hp.2.1 hp.2.2.1 hp.2.2.2⟩)
end Go.Aw
