/- Lemmas. -/
import Derived.Test.YtgldbfelccddbaaGreatApa16
import Derived.Test.YtgldbfelccddbaaGreatApa18
set_option linter.all false
set_option maxRecDepth 100000
set_option maxHeartbeats 2000000
namespace Go.Aw
noncomputable section
open Go Go.Proofs Go.Proofs.Tryz
def zxx (p:Plan) (_:True):AC 447 [planA p] (.fn (.func 461) [] [.dp [.d (.sl 1 (p.targets.map intD)),.d (.sl 1 (p.texts.map strD))]]):=by refine fbod func447 ntmps447 (λbase=>?_);refine' Ds
@[go_sem] def zhW:Ent Tryz.prog 447:= .m1 z7 zxx
@[simp] def tsum_nil (c:Int):tsum c []=c:=rfl
def unB (x:List AV):Txt:=match x with| [.d (.str s)]=>s|_=> []
def zrc (l:List Txt):(l.map bItem).map unB=l:=by
 rw [bZ];conv=>rhs;rw [<-List.map_id l]
 exact dT (λc _=>rfl)
def zrd (t:Tx) (hp:PlanOk t.plan/\pfit t.plan=true/\t.plan.targets.length≠0/\0<=t.seq/\t.seq<18446744073709551616):AC 418 [txA t] (.tup [.d (.sl 1 ((zc0 t.seq t.plan).map strD)),.d (.int .i64 0)]):=by
 obtain ⟨hp,hf,hn,h0,h1⟩:=hp;refine fbod func418 ntmps418 (λbase=>?_);refine' H2;have b5:t.plan.targets≠ []:=by intro e;rw [e] at hn;exact hn rfl
 refine' Ek;refine' Ez;refine' walkR (zr hf kX sQ kY kC (zg js @List.length_append.{0})) (za zkt <| za zkI <| za zgS <| za zgT <| za zeK <| za zgN <| za zcG <| za zhW <| zb _);refine' FX;have a7:0<=sumOf 0 H/\sumOf 0 H<=4294967295:=zgO 0 H fT fT;obtain ⟨I,hI⟩:∃I:List (List AV)->AHeap×Option (List (List AV)),I=λxs=>([(3,.var [.d (.int .u32 (tsum (sumOf 0 H) (xs.map unB)))]),(2,.var [.osl 1 1 (xs.length+1) 0 (xs.length+1)]),(1,.arr 1 ([.str []]::(xs.map unB).map strD)),(0,.var [.d (.int .u64 t.seq),.d (.sl 1 (t.plan.targets.map intD)),.d (.sl 1 (t.plan.texts.map strD))])],some []):=⟨_,rfl⟩
 refine' Ec;refine' HC;have sT:∀s∈tbody t.plan,s.length=64:=zkz hf
 have nR:(tbody t.plan).length<=26:=by have:(trows t.plan.targets).length<=2:=vF;rw [tbody,ae];omega
 refine zbU 100 G I J (znj t.plan hp iQ b5 sP) jf rfl (zV rfl) ju rfl jh iV iW jE iK ja ?_ ?_ ?_
 .intro xs x bu br l1 r1;obtain ⟨ys,s,zs,rfl,rfl,iR⟩:=zes bu;have BH:=sT s (by rw [iR];simp);have BI:ys.length<=26:=by rw [iR,ae] at nR;omega
  simp only [bItem];refine aw_le ⟨[(33,true,.d (.str s)),(6,true,.vp 2 0),(7,true,.vp 3 0)],[(3,.var [.d (.int .u32 (tsum (sumOf 0 H) ys))]),(2,.var [.osl 1 1 (ys.length+1) 0 (ys.length+1)]),(1,.arr 1 ([.str []]::ys.map strD)),(0,.var [.d (.int .u64 t.seq),.d (.sl 1 (t.plan.targets.map intD)),.d (.sl 1 (t.plan.texts.map strD))])],some []⟩ (by rw [hI];simp only [zrc,al];exact lxa) ?_;have e8:(ys.map bItem++ [[AV.d (.str s)]]).map unB=ys++ [s]:=by rw [aG,zrc];rfl
  refine' walkR (zg hI e8) (za zkt <| za zkI <| za zgS <| za zgT <| za zeK <| za zgN <| za zcG <| za zhW <| zb _)
  .rw [hG];trivial
  .rw [zo3];rfl
  .simp
  .rw [aG];rfl
 .intro _;rw [hI];simp only [zrc,al];have c8:=zeM (tsum (sumOf 0 H) (tbody t.plan));refine' walkR (zp sR lC qj) (za zkt <| za zkI <| za zgS <| za zgT <| za zeK <| za zgN <| za zcG <| za zhW <| zb _)
  .simp only [ae,kD,qj,c8];omega
  .simp only [ae,kD,qj,c8];omega
  .rw [hH];simp [zc0,ttop,thead,zBR,strD]
 .rw [hJ];rintro c h3 g3 h;exact h.elim
@[go_sem] def zdB:Ent Tryz.prog 418:= .m1 txA_T zrd
structure Jour where
 seq:Int
 pos:Int
 deriving DecidableEq
def jourA (j:Jour):AV:= .agg [.d (.int .u64 j.seq),.d (.int .i64 j.pos)]
attribute [go_sem] jourA
def zz5 (j:Jour):Jour.mk j.seq j.pos=j:=rfl
def zm8:PT Jour:=aggT (consL (intT .u64) (consL (intT .i64) nilL)) (λp=>⟨p.1,p.2.1⟩) (λx=>(x.seq,x.pos,())) (λ_=>rfl)
attribute [go_sem] zm8
attribute [go_sem] zz5
def jfit (j:Jour):Bool:=decide (1<=j.seq)&&decide (j.seq<=4611686018427387904)&&decide (0<=j.pos)&&decide (j.pos<=81)
def zed (pos size:Int):Int:=if pos<0\/size<0\/81<size\/81 - size<pos then 0 else pos
def numF:Int->List Txt->List (Int×Txt)
 |_,[]=> []
 |a,s::r=>(a,s)::numF (a+1) r
def zqT:∀ (l:List Txt) (a:Int) (i:Nat) (s:Txt),l[i]?=some s->(numF a l)[i]?=some (a+i,s)
 | [],a,i,s,h=>by simp at h
 |x::l,a,0,s,h=>by have:x=s:=lI;subst this;simp [numF]
 |x::l,a,i+1,s,h=>by rw [numF,List.getElem?_cons_succ,zqT l (a+1) i s lI];congr 2;omega
def zm9:∀ (l:List Txt) (a:Int),(numF a l).length=l.length
 | [],_=>rfl
 |x::l,a=>by rw [numF,aC,zm9 l,aC]
def jtail (d:Disk) (j:Jour) (p:Plan) (L:List Txt) (A:Int):Disk×Jour×Int:=
 if (layL d (numF (6+A) L)).2≠0 then ((layL d (numF (6+A) L)).1,j,(layL d (numF (6+A) L)).2)
 else if (dflush (layL d (numF (6+A) L)).1).2≠0 then ((dflush (layL d (numF (6+A) L)).1).1,j,(dflush (layL d (numF (6+A) L)).1).2)
 else if (play (dflush (layL d (numF (6+A) L)).1).1 p).2≠0 then ((play (dflush (layL d (numF (6+A) L)).1).1 p).1,j,(play (dflush (layL d (numF (6+A) L)).1).1 p).2)
 else ((play (dflush (layL d (numF (6+A) L)).1).1 p).1,⟨j.seq+1,A+L.length⟩,0)
def jcommit (d:Disk) (j:Jour) (p:Plan):Disk×Jour×Int:=
 if p.targets.length=0 then (d,j,0) else if 4611686018427387904<=j.seq then (d,j,10)
 else if (dflush d).2≠0 then ((dflush d).1,j,(dflush d).2)
 else jtail (dflush d).1 j p (zc0 j.seq p) (zed j.pos (zc0 j.seq p).length)
def ziQ (pos size:Int):0<=zed pos size/\zed pos size<=81:=by unfold zed;split<;>omega
def ziR {p:Plan} (seq:Int) (hf:pfit p=true):(zc0 seq p).length<=27/\∀s∈zc0 seq p,s.length<=64:=by
 obtain ⟨hl,iQ,gV⟩:=zbk hf;refine ⟨?_,?_⟩
 .rw [zc0,tbody,aC,ae];have:(trows p.targets).length<=2:=vF;omega
 .intro s J;rcases bg.1 J with rfl|J
  .rw [ttop,zjR]
   .exact aj _
   .rw [ae,ae,ae,thead,ae,zu,zu,zu,zeM];decide
  .rw [zkz hf s J];exact aj _
def zz6 (j:Jour) (_:True):AC 84 [jourA j] (.d (.bool (jfit j))):=by refine bod func84 ntmps84 (λbase=>?_);refine' Ds;rfl
@[go_sem] def zhi:Ent Tryz.prog 84:= .m1 zm8 zz6
def zus (pos size:Int) (hp:0<=size/\size<=1000):AC 348 [.d (.int .i64 pos),.d (.int .i64 size)] (.d (.int .i64 (zed pos size))):=by
 refine' EP;refine bod func348 ntmps348 (λbase=>?_);have hw:IntKind.i64.wrap (81 - size)=81 - size:=zf fT fT;refine' zc hw
 .simp only [aH,ax,dA] at hc;rw [zed,aa hc]
 .rw [zed,U];intro h
  have:(decide (pos<0)||decide (size<0)||decide (81<size)||decide (81 - size<pos))=true:=by simp only [aH,ax,dA];exact h
  rw [hc] at this;cases this
@[go_sem] def zdl:Ent Tryz.prog 348:= .m2 (intT .i64) (intT .i64) zus
def zut:ACall Tryz.prog 284 0 [] [] (λr _=>r= .d (.int .i64 6)):=by refine bod func284 ntmps284 (λbase=>?_);refine' walkW fx (za zqL <| zb _)
@[go_sem] def zbZ:Ent Tryz.prog 284:= .ofL nilL (λ_=>True) (λ_=> .d (.int .i64 6)) (λ_ hp=>⟨rfl,zut⟩)
def zqU (d:Disk) (j:Jour) (p:Plan) (hp:DiskF d/\pfit p=true/\0<=j.seq/\j.seq<18446744073709551616):AC 291 [diskA d,jourA j,planA p] (.tup [diskA (jcommit d j p).1,jourA (jcommit d j p).2.1,.d (.int .i64 (jcommit d j p).2.2)]):=by
 obtain ⟨hd,hf,h0,h1⟩:=hp;refine fbod func291 ntmps291 (λbase=>?_);refine' IC;by_cases hn:p.targets.length=0
 .have hb:((p.targets.length:Int)==0)=true:=by rw [hn];rfl
  refine' walkW hb (za zbq <| za zdk <| za zdl <| za zbZ <| za zT <| za zdT <| zb _);rw [jcommit,aa hn]
 refine' I9
 .have b3:decide (4611686018427387904<=j.seq)=true:=af hs;refine' walkW (zg hb b3) (za zbq <| za zdk <| za zdl <| za zbZ <| za zT <| za zdT <| zb _);rw [jcommit,U hn,aa hs]
 have b3:decide (4611686018427387904<=j.seq)=false:=ag hs;by_cases et:(dflush d).2≠0
 .have iH:((dflush d).2 !=0)=true:=by simpa using et
  refine' H5;rw [jcommit,U hn,U hs,aa et]
 have iH:((dflush d).2 !=0)=false:=by simpa using et
 obtain ⟨iv,s0⟩:=ziR j.seq hf;have jt:=hd.flush;have hj:=ziQ j.pos (zc0 j.seq p).length;have kc:jcommit d j p=jtail (dflush d).1 j p (zc0 j.seq p) (zed j.pos (zc0 j.seq p).length):=by rw [jcommit,U hn,U hs,U et]
 obtain ⟨L,hL⟩:∃L,L=zc0 j.seq p:=⟨_,rfl⟩
 rw [<-hL] at iv s0 hj kc;obtain ⟨A,hA⟩:∃A,A=zed j.pos L.length:=⟨_,rfl⟩
 rw [<-hA] at hj kc;obtain ⟨D1,vt⟩:∃D1,D1=(dflush d).1:=⟨_,rfl⟩
 rw [<-vt] at jt kc;refine' H5
 .rw [<-hL];omega
 rw [<-hL,<-hA,<-vt];refine zk (λq: { q:Nat×Disk // q.1<=L.length/\DiskF q.2/\layL D1 (numF (6+A) L)=layL q.2 ((numF (6+A) L).drop q.1) } =>⟨[(3,true,.vp 0 0),(4,true,.vp 1 0),(5,true,.vp 2 0),(6,true,.vp 3 0),(7,true,.vp 4 0),(10,true,.d (.sl 1 (L.map strD))),(11,true,.d (.int .i64 A)),(12,true,.d (.int .i64 q.1.1))],[(4,.var [.d (.int .u64 0),.d (.int .i64 0)]),(3,.var [.d (.str []),.nils 2,.d (.int .i64 0),.d (.bool false),.nils 1]),(2,.var [.d (.sl 1 (p.targets.map intD)),.d (.sl 1 (p.texts.map strD))]),(1,.var [.d (.int .u64 j.seq),.d (.int .i64 j.pos)]),(0,(.var [.d (.str q.1.2.data),.d (.sl 2 (q.1.2.cache.map putD)),.d (.int .i64 q.1.2.fuse),.d (.bool q.1.2.off),.d (.sl 1 (q.1.2.bad.map intD))]))],some []⟩) (λq=>L.length - q.1.1) ⟨(0,D1),ad _,jt,rfl⟩ le1 (λq=>?_);obtain ⟨⟨i,x⟩,hi,hx,jW⟩:=q;simp only at hi hx jW |-;have mw:=hx.ok;have qn:=hx.puts;rcases zw strD L i hi with ⟨s,hq,cl,an,aZ,b4,a7⟩|⟨ao,an⟩
 .simp only [strD] at aZ;refine' CO;have ab:IntKind.i64.wrap (6+A)=6+A:=zf fT fT;have a6:IntKind.i64.wrap (6+A+(i:Int))=6+A+i:=zf fT fT;rw [zdO (zqT L (6+A) i s hq),layL] at jW;have s4:=hx.write (6+A+i) s;refine' walkW (zat an aZ ab a6 natC) (za zbq <| za zdk <| za zdl <| za zbZ <| za zT <| za zdT <| zb _)
  .have hc:(zab x (6+A+i) s).2≠0:=by simpa using hc
   rw [aa hc] at jW;rw [kc,jtail,jW,aa hc]
  .have hc:¬(zab x (6+A+i) s).2≠0:=by simpa using hc
   rw [U hc] at jW;exact ⟨⟨(i+1,(zab x (6+A+i) s).1),fT,s4,jW⟩,lew,gh⟩
 .subst ao
  have s5:layL D1 (numF (6+A) L)=(x,0):=by rw [jW,bQ (by rw [zm9];omega)];rfl
  have xO:=hx.flush;have BJ:=xO.ok;have ov:j.seq<4611686018427387904->IntKind.u64.wrap (j.seq+1)=j.seq+1:=λh=>zA fT fT;have ov:=ov fT;have iu:IntKind.i64.wrap (A+(L.length:Int))=A+L.length:=zf fT fT;rw [jtail,s5] at kc;simp only [U (show ¬(0:Int)≠0 by decide)] at kc;refine' walkW (zp an ov iu) (za zbq <| za zdk <| za zdl <| za zbZ <| za zT <| za zdT <| zb _)
  .have hc:(dflush x).2≠0:=by simpa using hc
   rw [kc,aa hc]
  .rename_i J;have J:¬(dflush x).2≠0:=gQ;have hc:(play (dflush x).1 p).2≠0:=gA;rw [kc,U J,aa hc]
  .rename_i J;have J:¬(dflush x).2≠0:=gQ;have hc:¬(play (dflush x).1 p).2≠0:=gA;rw [kc,U J,U hc]
@[go_sem] def zna:Ent Tryz.prog 291:= .m3 zC zm8 z7 zqU
def zAv:ACall Tryz.prog 449 0 [] [] (λr _=>r= .tup [.d (.int .i64 6),.d (.int .i64 81)]):=by refine bod func449 ntmps449 (λbase=>?_);refine' Ds
@[go_sem] def zuJ:Ent Tryz.prog 449:= .ofL nilL (λ_=>True) (λ_=> .tup [.d (.int .i64 6),.d (.int .i64 81)]) (λ_ hp=>⟨rfl,zAv⟩)
def zAw:ACall Tryz.prog 419 0 [] [] (λr _=>r= .tup [.d (.int .i64 6),.d (.int .i64 81)]):=by refine bod func419 ntmps419 (λbase=>?_);refine' walkW fx (za zuJ <| zb _)
@[go_sem] def zeN:Ent Tryz.prog 419:= .ofL nilL (λ_=>True) (λ_=> .tup [.d (.int .i64 6),.d (.int .i64 81)]) (λ_ hp=>⟨rfl,zAw⟩)
def zuK (pos size:Int) (hp:0<=size/\size<=1000):AC 420 [.d (.int .i64 pos),.d (.int .i64 size)] (.d (.int .i64 (zed pos size))):=by
 refine' EP;refine bod func420 ntmps420 (λbase=>?_);have hw:IntKind.i64.wrap (81 - size)=81 - size:=zf fT fT;refine' walkW hw (za zeN <| zb _)
 .simp only [aH,ax,dA] at hc;rw [zed,aa hc]
 .rw [zed,U];intro h
  have:(decide (pos<0)||decide (size<0)||decide (81<size)||decide (81 - size<pos))=true:=by simp only [aH,ax,dA];exact h
  rw [hc] at this;cases this
@[go_sem] def zeg:Ent Tryz.prog 420:= .m2 (intT .i64) (intT .i64) zuK
def zAx (a:Int) (L:List Txt) (_:True):AC 422 [.d (.int .i64 a),.d (.sl 1 (L.map strD))] (.fn (.func 450) [] [.dp [.d (.sl 1 (L.map strD))],.dp [.d (.int .i64 a)]]):=by refine fbod func422 ntmps422 (λbase=>?_);refine' Ds
@[go_sem] def zfN:Ent Tryz.prog 422:= .m2 (intT .i64) (slT 1 strD zd7) zAx
def zAy (p:Plan) (_:True):AC 423 [planA p] (.fn (.func 451) [] [.dp (planC p)]):=by refine fbod func423 ntmps423 (λbase=>?_);refine' Ds
@[go_sem] def zfO:Ent Tryz.prog 423:= .m1 z7 zAy
def zxy (d:Disk) (p:Plan) (hp:DiskOk d/\PlanOk p/\p.targets.length=p.texts.length):AC 451 [diskA d,.dp (planC p)] (.tup [diskA (play d p).1,.d (.int .i64 (play d p).2)]):=by obtain ⟨J,hp,hl⟩:=hp;refine fbod func451 ntmps451 (λbase=>?_);refine' walkW fx (za zie <| za zy <| zb _)
@[go_sem] def zdY:Ent Tryz.prog 451:= .m2 zC zwO zxy
def zxz (d:Disk) (L:List Txt) (a:Int) (hd:DiskF d) (hn:L.length<=100) (h0:0<=a) (h1:a<=100):ACall Tryz.prog 450 0 [diskA d,.dp [.d (.sl 1 (L.map strD))],.dp [.d (.int .i64 a)]] [] (λr _=>r= .tup [diskA (layL d (numF a L)).1,.d (.int .i64 (layL d (numF a L)).2)]):=by
 refine fbod func450 ntmps450 (λbase=>?_);refine' walkW fx (za zie <| za zy <| zb _);refine zk (λq: { q:Nat×Disk // q.1<=L.length/\DiskF q.2/\layL d (numF a L)=layL q.2 ((numF a L).drop q.1) } =>⟨[(2,true,.dp [.d (.int .i64 a)]),(3,true,.vp 0 0),(4,true,.vp 1 0),(6,true,.d (.int .i64 0)),(9,true,.d (.sl 1 (L.map strD))),(10,true,.d (.int .i64 L.length)),(11,true,.d (.int .i64 q.1.1))],[(1,.var [.d (.str []),.nils 2,.d (.int .i64 0),.d (.bool false),.nils 1]),(0,(.var [.d (.str q.1.2.data),.d (.sl 2 (q.1.2.cache.map putD)),.d (.int .i64 q.1.2.fuse),.d (.bool q.1.2.off),.d (.sl 1 (q.1.2.bad.map intD))]))],some []⟩) (λq=>L.length - q.1.1) ⟨(0,d),ad _,hd,rfl⟩ le1 (λq=>?_);obtain ⟨⟨i,x⟩,hi,hx,jW⟩:=q;simp only at hi hx jW |-;have mw:=hx.ok;rcases zw strD L i hi with ⟨s,hq,bo,J,an,b4,a7⟩|⟨ao,J⟩
 .simp only [strD] at an;refine' CO;have ab:IntKind.i64.wrap (a+(i:Int))=a+i:=zf fT fT;rw [zdO (zqT L a i s hq),layL] at jW;have s4:=hx.write (a+i) s;refine' walkW (zp J an ab) (za zie <| za zy <| zb _)
  .have hc:(zab x (a+i) s).2≠0:=by simpa using hc
   rw [aa hc] at jW;rw [jW]
  .have hc:¬(zab x (a+i) s).2≠0:=by simpa using hc
   have qo:(zab x (a+i) s).2=0:=gA;rw [U hc] at jW;exact ⟨⟨(i+1,(zab x (a+i) s).1),fT,s4,jW⟩,lxb (lan hwi qo),gh⟩
 .subst ao
  have s5:layL d (numF a L)=(x,0):=by rw [jW,bQ (by rw [zm9];omega)];rfl
  refine' walkW J (za zie <| za zy <| zb _);rw [s5]
@[go_sem] def zdZ:Ent Tryz.prog 450:= .ofL (consL zC (consL (dpT (consL (slT 1 strD zd7) nilL) (λp=>p) (λp=>p) (λ_=>rfl)) (consL (dpT (consL (intT .i64) nilL) (λp=>p) (λp=>p) (λ_=>rfl)) nilL))) (λ(d,(L,_),(a,_),_)=>(DiskF d)/\(L.length<=100)/\(0<=a)/\(a<=100)) (λ(d,(L,_),(a,_),_)=> .tup [diskA (layL d (numF a L)).1,.d (.int .i64 (layL d (numF a L)).2)]) (λ(d,(L,_),(a,_),_) hp=>⟨rfl,zxz d L a hp.1 hp.2.1 hp.2.2.1 hp.2.2.2⟩)
def runD:List (Disk->Disk×Int)->Disk->Disk×Int
 | [],d=>(d,0)
 |f::r,d=>if (f d).2≠0 then f d else runD r (f d).1
def zdC (A:Int) (L:List Txt) (p:Plan):List (Disk->Disk×Int):= [dflush,λd=>layL d (numF A L),dflush,λd=>play d p]
def ztc (A:Int) (L:List Txt) (p:Plan):List (List AV):= [[.fn (.func 330) [] []],[.fn (.func 450) [] [.dp [.d (.sl 1 (L.map strD))],.dp [.d (.int .i64 A)]]],[.fn (.func 330) [] []],[.fn (.func 451) [] [.dp [.d (.sl 1 (p.targets.map intD)),.d (.sl 1 (p.texts.map strD))]]]]
def wkD (d:Disk) (e:Int):List AV:= [.d (.str d.data),.d (.sl 2 (d.cache.map putD)),.d (.int .i64 d.fuse),.d (.bool d.off),.d (.sl 1 (d.bad.map intD)),.d (.int .i64 e)]
attribute [go_sem] wkD ztc
def DiskF.play {d:Disk} (h:DiskF d) (p:Plan):DiskF (play d p).1:=DiskF.layL _ h
def zD4 (d:Disk) (A:Int) (L:List Txt) (p:Plan) (hd:DiskF d) (hp:PlanOk p) (hl:p.targets.length=p.texts.length) (hn:L.length<=100) (h0:0<=A) (h1:A<=100):
  ACall Tryz.prog 421 6 [.vp 5 0,.asl 1 (ztc A L p)] [(5,.var (wkD d 0))] (λr h'=>∃aZ,h'= [(5,aZ)]/\r= .tup []/\aZ= .var (wkD (runD (zdC A L p) d).1 (runD (zdC A L p) d).2)):=by
 refine bod func421 ntmps421 (λbase=>?_);refine' walkW fx (za zbH <| za zdZ <| za zdY <| zb _);refine zk (λq: { q:Nat×Disk // q.1<=4/\DiskF q.2/\runD (zdC A L p) d=runD ((zdC A L p).drop q.1) q.2 } =>⟨[(0,true,.vp 5 0),(6,true,.asl 1 (ztc A L p)),(7,true,.d (.int .i64 4)),(8,true,.d (.int .i64 q.1.1))],[(5,.var (wkD q.1.2 0))],some []⟩) (λq=>4 - q.1.1) ⟨(0,d),ad _,hd,rfl⟩ le1 (λq=>?_);obtain ⟨⟨k,x⟩,hk,J,hr⟩:=q;simp only at hk J hr |-;have mw:=J.ok;have qn:=J.puts;have h4:k=0\/k=1\/k=2\/k=3\/k=4:=fT;have ao:((0:Nat):Int)=0:=rfl;refine' FD;have nV:((3:Nat):Int)=3:=rfl;have rC:((4:Nat):Int)=4:=rfl;have iG:Int.toNat 1=1:=rfl;have nj:Int.toNat 2=2:=rfl;have rD:Int.toNat 3=3:=rfl;refine' ES;have gO:IntKind.i64.wrap 3=3:=gb;have gX:IntKind.i64.wrap 4=4:=gb;rcases h4 with rfl|rfl|rfl|rfl|rfl
 .have gn:runD (zdC A L p) d=if (dflush x).2≠0 then dflush x else runD ((zdC A L p).drop 1) (dflush x).1:=hr
  have ox:DiskF (dflush x).1:=J.flush;refine' walkW (zg ao ab) (za zbH <| za zdZ <| za zdY <| zb _)
  .have hc:(dflush x).2≠0:=by simpa using hc
   refine' GV
  .have hc:(dflush x).2=0:=by simpa using hc
   rw [U kU] at gn;exact ⟨⟨(1,(dflush x).1),rz,ox,gn⟩,lxb (lan ab hc),fZ⟩
 .have gn:runD (zdC A L p) d=if (layL x (numF A L)).2≠0 then layL x (numF A L) else runD ((zdC A L p).drop 2) (layL x (numF A L)).1:=hr
  have ox:DiskF (layL x (numF A L)).1:=DiskF.layL _ J;refine' walkW (zp bo a6 iG) (za zbH <| za zdZ <| za zdY <| zb _)
  .have hc:(layL x (numF A L)).2≠0:=by simpa using hc
   refine' GV
  .have hc:(layL x (numF A L)).2=0:=by simpa using hc
   rw [U kU] at gn;exact ⟨⟨(2,(layL x (numF A L)).1),rz,ox,gn⟩,lxb (lan a6 hc),fZ⟩
 .have gn:runD (zdC A L p) d=if (dflush x).2≠0 then dflush x else runD ((zdC A L p).drop 3) (dflush x).1:=hr
  have ox:DiskF (dflush x).1:=J.flush;refine' walkW (zp fY gO nj) (za zbH <| za zdZ <| za zdY <| zb _)
  .have hc:(dflush x).2≠0:=by simpa using hc
   refine' GV
  .have hc:(dflush x).2=0:=by simpa using hc
   rw [U kU] at gn;exact ⟨⟨(3,(dflush x).1),rz,ox,gn⟩,lxb (lan gO hc),fZ⟩
 .have gn:runD (zdC A L p) d=if (play x p).2≠0 then play x p else runD ((zdC A L p).drop 4) (play x p).1:=hr
  have ox:DiskF (play x p).1:=J.play p;refine' walkW (zp nV gX rD) (za zbH <| za zdZ <| za zdY <| zb _)
  .have hc:(play x p).2≠0:=by simpa using hc
   refine' GV
  .have hc:(play x p).2=0:=by simpa using hc
   rw [U kU] at gn;exact ⟨⟨(4,(play x p).1),rz,ox,gn⟩,lxb (lan gX hc),fZ⟩
 .refine' walkW rC (za zbH <| za zdZ <| za zdY <| zb _);have gn:runD (zdC A L p) d=(x,0):=hr;exact ⟨_,rfl,by rw [gn]⟩
def zxA (d:Disk) (A:Int) (L:List Txt) (p:Plan) (j:Jour):(if (dflush d).2≠0 then ((dflush d).1,j,(dflush d).2) else jtail (dflush d).1 j p L A)=(if (runD (zdC (6+A) L p) d).2≠0 then ((runD (zdC (6+A) L p) d).1,j,(runD (zdC (6+A) L p) d).2) else ((runD (zdC (6+A) L p) d).1,⟨j.seq+1,A+L.length⟩,0)):=by
 simp only [zdC,runD,jtail];repeat' split
 all_goals simp_all
def zre (d:Disk) (j:Jour) (p:Plan) (hp:DiskF d/\pfit p=true/\0<=j.seq/\j.seq<18446744073709551616):AC 374 [diskA d,jourA j,planA p] (.tup [diskA (jcommit d j p).1,jourA (jcommit d j p).2.1,.d (.int .i64 (jcommit d j p).2.2)]):=by
 obtain ⟨hd,hf,h0,h1⟩:=hp;refine fbod func374 ntmps374 (λbase=>?_);refine' IC;by_cases J:p.targets.length=0
 .have hb:((p.targets.length:Int)==0)=true:=by rw [J];rfl
  refine' walkW hb (za zdB <| za zeN <| za zeg <| za zfN <| za zfO <| zb _);rw [jcommit,aa J]
 refine' I9
 .have b3:decide (4611686018427387904<=j.seq)=true:=af hs;refine' walkW (zg hb b3) (za zdB <| za zeN <| za zeg <| za zfN <| za zfO <| zb _);rw [jcommit,U J,aa hs]
 have b3:decide (4611686018427387904<=j.seq)=false:=ag hs;obtain ⟨iv,s0⟩:=ziR j.seq hf;have qp:=ziQ j.pos (zc0 j.seq p).length;have kc:jcommit d j p=if (dflush d).2≠0 then ((dflush d).1,j,(dflush d).2) else jtail (dflush d).1 j p (zc0 j.seq p) (zed j.pos (zc0 j.seq p).length):=by rw [jcommit,U J,U hs]
 rw [zxA] at kc;obtain ⟨L,hL⟩:∃L,L=zc0 j.seq p:=⟨_,rfl⟩
 rw [<-hL] at iv s0 qp kc;obtain ⟨A,hA⟩:∃A,A=zed j.pos L.length:=⟨_,rfl⟩
 rw [<-hA] at qp kc;have nW:IntKind.i64.wrap (6+A)=6+A:=zf fT fT;refine' zfh (zL 9) (zB hb b3 hL.symm hA.symm) (za zdB <| za zeN <| za zeg <| za zfN <| za zfO <| zb _);obtain ⟨X,hX⟩:∃X,X=runD (zdC (6+A) L p) d:=⟨_,rfl⟩
 have vu:=zD4 d (6+A) L p hd pC hl fT fT fT;rw [<-hX] at vu kc;refine' zgu (ownsL [0]) nW (za zdB <| za zeN <| za zeg <| za zfN <| za zfO <| zb _);refine (vu.one (fl':=0) rfl rfl (zV rfl) rfl (by simp [AObj.ids,AV.idsL,AV.ids,wkD]) (by simp [AV.idsL,AV.ids,AV.idsR,ztc]) fT).mono ?_;refine' Gx;have ov:IntKind.u64.wrap (j.seq+1)=j.seq+1:=zA fT fT;have iu:IntKind.i64.wrap (A+(L.length:Int))=A+L.length:=zf fT fT;simp only [go_sem,aeq,aeq.aeqF,simprocAttr,wkD];refine hK _ ?_;clear hK K;refine' walkW (zg ov iu) (za zdB <| za zeN <| za zeg <| za zfN <| za zfO <| zb _)
 .have hc:X.2≠0:=by simpa using hc
  rw [kc,aa hc]
 .have hc:¬X.2≠0:=by simpa using hc
  rw [kc,U hc]
@[go_sem] def znk:Ent Tryz.prog 374:= .m3 zC zm8 z7 zre
structure Dmap where
 name:Txt
 inuse:Bool
 bits:List Bool
 deriving DecidableEq
def dmapD (m:Dmap):List D:= .str m.name:: .bool m.inuse::m.bits.map .bool
def zkF:∀ {a b:List Bool},a.map D.bool=b.map D.bool->a=b
 | [],[],_=>rfl
 | [],_::_,h=>by simp at h
 |_::_,[],h=>by simp at h
 |x::a,y::b,h=>by simp only [au,aX,D.bool.injEq] at h;rw [h.1,zkF h.2]
def zfM:∀a b,dmapD a=dmapD b->a=b:=by rintro ⟨n,u,b⟩ ⟨J,u',b'⟩ h;simp only [dmapD,aX,D.str.injEq,D.bool.injEq] at h;rw [h.1,h.2.1,zkF h.2.2]
structure Img where
 disk:Disk
 geom:Geom
 jour:Jour
 maps:List Dmap
 broken:Bool
 deriving DecidableEq
def imgA (x:Img):AV:= .agg [.d (.str x.disk.data),.d (.sl 2 (x.disk.cache.map putD)),.d (.int .i64 x.disk.fuse),.d (.bool x.disk.off),.d (.sl 1 (x.disk.bad.map intD)),.d (.int .i64 x.geom.guest),.d (.int .i64 x.geom.host),.d (.int .u64 x.jour.seq),.d (.int .i64 x.jour.pos),.d (.sl 66 (x.maps.map dmapD)),.d (.bool x.broken)]
attribute [go_sem] imgA
def zCV (x:Img):Img.mk x.disk x.geom x.jour x.maps x.broken=x:=rfl
def za9:PT Img:=aggT (consL strT (consL (slT 2 putD zib) (consL (intT .i64) (consL boolT (consL (slT 1 intD zdu) (consL (intT .i64) (consL (intT .i64) (consL (intT .u64) (consL (intT .i64) (consL (slT 66 dmapD zfM) (consL boolT nilL))))))))))) (λp=>⟨⟨p.1,p.2.1,p.2.2.1,p.2.2.2.1,p.2.2.2.2.1⟩,⟨p.2.2.2.2.2.1,p.2.2.2.2.2.2.1⟩,⟨p.2.2.2.2.2.2.2.1,p.2.2.2.2.2.2.2.2.1⟩,p.2.2.2.2.2.2.2.2.2.1,p.2.2.2.2.2.2.2.2.2.2.1⟩) (λx=>(x.disk.data,x.disk.cache,x.disk.fuse,x.disk.off,x.disk.bad,x.geom.guest,x.geom.host,x.jour.seq,x.jour.pos,x.maps,x.broken,())) (λ_=>rfl)
attribute [go_sem] za9
attribute [go_sem] zCV
structure ImgOk (x:Img):Prop where
 disk:DiskOk x.disk
 maps:x.maps.length<=9223372036854775807
 names:∀m∈x.maps,m.name.length<=9223372036854775807
 bits:∀m∈x.maps,m.bits.length=64
def mfit (J:Txt):Nat->List Dmap->Bool
 |_,[]=>true
 |i,m::r=>zjm m.name&&m.inuse&& !(decide (0<i)&&(J==m.name))&&mfit J (i+1) r
def ifit (x:Img):Bool:=
 zfl x.geom.guest x.geom.host&&dfit x.disk&&((dsize x.disk:Int)==zjn x.geom.guest x.geom.host)&&jfit x.jour&&decide (x.maps.length<=2)&&mfit (x.maps.head?.map (·.name) |>.getD []) 0 x.maps
def zxw (x:Img) (h:ImgOk x):AC 38 [imgA x] (.d (.bool (ifit x))):=by
 refine fbod func38 ntmps38 (λbase=>?_);have h1:=h.disk;have h2:=h.maps;by_cases J:(!zfl x.geom.guest x.geom.host|| !dfit x.disk||((dsize x.disk:Int) !=zjn x.geom.guest x.geom.host)|| !jfit x.jour||decide (2<(x.maps.length:Int)))=true
 .refine' Jk
  have:ifit x=false:=by
   simp only [aH,bI,bD,ax] at J;unfold ifit;rcases J with (((hh|hh)|hh)|hh)|hh
   .rw [hh];simp
   .rw [hh];simp
   .rw [bb.2 hh];simp
   .rw [hh];simp
   .rw [ag (p:=x.maps.length<=2) fT];simp
  rw [this]
 have J:(!zfl x.geom.guest x.geom.host|| !dfit x.disk||((dsize x.disk:Int) !=zjn x.geom.guest x.geom.host)|| !jfit x.jour||decide (2<(x.maps.length:Int)))=false:=gQ
 have ng:ifit x=mfit (x.maps.head?.map (·.name) |>.getD []) 0 x.maps:=by simp only [bn,bK,bJ,bG] at J;rw [ifit,J.1.1.1.1,J.1.1.1.2,J.1.2,aF.2 J.1.1.2,af (p:=x.maps.length<=2) fT];rfl
 refine' Jk;obtain ⟨N0,vv⟩:∃N0,N0=(x.maps.head?.map (·.name) |>.getD []):=⟨_,rfl⟩
 rw [<-vv] at ng;refine zk (λq: { i:Nat // i<=x.maps.length/\ifit x=mfit N0 i (x.maps.drop i) } =>⟨[(1,true,.vp 0 0),(3,true,.d (.int .i64 q.1))],[(0,.var [.d (.str x.disk.data),.d (.sl 2 (x.disk.cache.map putD)),.d (.int .i64 x.disk.fuse),.d (.bool x.disk.off),.d (.sl 1 (x.disk.bad.map intD)),.d (.int .i64 x.geom.guest),.d (.int .i64 x.geom.host),.d (.int .u64 x.jour.seq),.d (.int .i64 x.jour.pos),.d (.sl 66 (x.maps.map dmapD)),.d (.bool x.broken)])],some []⟩) (λq=>x.maps.length - q.1) ⟨0,ad _,ng⟩ le1 (λq=>?_);refine' Di;rcases zw dmapD x.maps i hi with ⟨m,hq,br,ab,an,b4,a7⟩|⟨ao,ab⟩
 .obtain ⟨m0,rG⟩:=zaD (l:=x.maps) (i:=0) fT;have vw:=zbB (g:=dmapD) rG;simp only [dmapD] at an vw;have sV:decide ((0:Int)<(x.maps.length:Int))=true:=af fT;refine' CO;have nU:=h.names m (ay hq);have hN:N0=m0.name:=by rw [vv,List.head?_eq_getElem?,rG];rfl
  rw [b4,mfit,hN] at hf
  have iy:(!zjm m.name|| !m.inuse||(decide ((0:Int)<(i:Int))&&(m0.name==m.name)))= !(zjm m.name&&m.inuse&& !(decide (0<i)&&(m0.name==m.name))):=by rw [cg,cg,Bool.not_not,show decide ((0:Int)<(i:Int))=decide (0<i) from zDR]
  refine' walkW (zat ab an vw sV natC) (za zdR <| za zhf <| za zbM <| za zfJ <| za zhi <| za zfk <| zb _)
  .rename_i oy;rw [oy,hc];rfl
  .rw [iy] at hc;simp only [bI] at hc;rw [hf,hc,cD]
  .rw [iy] at hc;simp only [bK] at hc;rw [hc,bU,<-hN] at hf;refine' Gh
 .refine' walkW ab (za zdR <| za zhf <| za zbM <| za zfJ <| za zhi <| za zfk <| zb _);rw [hf,ao,aP];rfl
@[go_sem] def zkG:Ent Tryz.prog 38:= .m1 za9 zxw
def zAo {n:Nat} {a b:List Bool} (J:a.length=n) (hb:b.length=n):((List.range n).all λi=>a.getD i false==b.getD i false)=decide (a=b):=by
 rw [bV,bw,ax];constructor
 .intro h;apply List.ext_getElem fT;intro i h1 h2;have:=h i gh;simpa [aN,h1,h2] using this
 .rintro rfl i _;simp
def zlY {P:Program} {e:Nat} (he:(ty P e).td= .bool) {a b:List Bool} {n d:Nat} (J:a.length=n) (hb:b.length=n):∀l:List Nat,(∀i∈l,i<n)->
  aeq.aeqF P (l.map λi=>(i,e)) (a.map λx=>AV.d (.bool x)) (b.map λx=>AV.d (.bool x)) (λf=>aeq P (d+1) f)=(True,l.all λi=>a.getD i false==b.getD i false)
 | [],_=>rfl
 | i::l,h=>by
  have ih:=zlY he J hb (d:=d) l (λj hj=>h j pz);have hi:i<n:=h i fZ
  have hx:∀ (c:List Bool),c.length=n->apart P e (c.map λx=>AV.d (.bool x)) i= .d (.bool (c.getD i false)):=λc hc=>by unfold apart;rw [he];simp [TD.agg,aN,hc,hi]
  simp only [au,aeq.aeqF,ih,hx a J,hx b hb]
  have h1:aeq P (d+1) e (.d (.bool (a.getD i false))) (.d (.bool (b.getD i false)))=(True,a.getD i false==b.getD i false):=by unfold aeq;rw [he]
  rw [h1];have hp:psize P e=1:=by unfold psize;rw [he];rfl
  simp only [he,hp,al,J,hb,bq,ne_eq,reduceCtorEq,dG,bt,bW];rw [da (show i+1<=n/\i+1<=n from ⟨hi,hi⟩)]
def zAp {P:Program} {t e:Nat} (ht:(ty P t).td= .arr 64 e) (he:(ty P e).td= .bool) (hz:(ty P e).size=1) {a b:List Bool} {d:Nat} (J:a.length=64) (hb:b.length=64):
  aeq P (d+2) t (.agg (a.map λx=>AV.d (.bool x))) (.agg (b.map λx=>AV.d (.bool x)))=(True,decide (a=b)):=by have:=zlY he J hb (d:=d) (List.range 64) (λi hi=>by simpa using hi);unfold aeq;simp only [ht,hz,cF];rw [this,zAo J hb];simp only [he,ne_eq,reduceCtorEq,dG,bW]
def zs8 (l:List Bool):(l.map D.bool).map AV.d=l.map λx=>AV.d (.bool x):=by rw [bZ];rfl
def zAq {P:Program} {t s b a e:Nat} (ht:(ty P t).td= .struct [(0,s),(1,b),(2,a)]) (J:(ty P s).td= .str) (hb:(ty P b).td= .bool) (ha:(ty P a).td= .arr 64 e) (he:(ty P e).td= .bool) (hz:(ty P e).size=1) (vx:(ty P a).size=64) (gf:P.stoodInHeld t=false)
  {m m':Dmap} (hm:m.bits.length=64) (nk:m'.bits.length=64):
  aeq P 12 t (.agg (.d (.str m.name):: .d (.bool m.inuse)::(m.bits.map D.bool).map AV.d)) (.agg (.d (.str m'.name):: .d (.bool m'.inuse)::(m'.bits.map D.bool).map AV.d))=(True,decide (m=m')):=by
 have h1:=zAp (P:=P) (t:=a) ha he hz (d:=9) hm nk;have hl:∀c:List Bool,c.length=64->List.take 64 (c.map λx=>AV.d (.bool x))=c.map λx=>AV.d (.bool x):=λc hc=>aA (by simp [hc]);rw [zs8,zs8];have p0:∀c:Dmap,apart P s (.d (.str c.name):: .d (.bool c.inuse)::(c.bits.map λx=>AV.d (.bool x))) 0= .d (.str c.name):=λc=>by unfold apart;rw [J];rfl
 have p1:∀c:Dmap,apart P b (.d (.str c.name):: .d (.bool c.inuse)::(c.bits.map λx=>AV.d (.bool x))) 1= .d (.bool c.inuse):=λc=>by unfold apart;rw [hb];rfl
 have p2:∀c:Dmap,c.bits.length=64->apart P a (.d (.str c.name):: .d (.bool c.inuse)::(c.bits.map λx=>AV.d (.bool x))) 2= .agg (c.bits.map λx=>AV.d (.bool x)):=λc hc=>by unfold apart;rw [ha,vx];simp only [TD.agg,av,dg,cP,hl c.bits hc]
 have q0:psize P s=1:=by unfold psize;rw [J];rfl
 have q1:psize P b=1:=by unfold psize;rw [hb];rfl
 have q2:psize P a=64:=by unfold psize;rw [ha,vx];rfl
 have e0:aeq P 11 s (.d (.str m.name)) (.d (.str m'.name))=(True,m.name==m'.name):=by unfold aeq;rw [J]
 have e1:aeq P 11 b (.d (.bool m.inuse)) (.d (.bool m'.inuse))=(True,m.inuse==m'.inuse):=by unfold aeq;rw [hb]
 unfold aeq;simp only [ht,gf,aeq.aeqF,p0,p1,p2 m hm,p2 m' nk,q0,q1,q2,e0,e1,h1,J,hb,ha,aC,al,hm,nk,ne_eq,reduceCtorEq,dG,bt,bW,cR];refine Prod.ext fZ ?_;simp only;rw [bV];simp only [aq,aF,ax];obtain ⟨n,u,l⟩:=m;obtain ⟨n',u',l'⟩:=m';simp
def zo7 (a b:List Dmap) (hp:a.length<=9223372036854775807/\b.length<=9223372036854775807/\(∀m∈a,m.bits.length=64)/\(∀m∈b,m.bits.length=64)):AC 49 [.d (.sl 66 (a.map dmapD)),.d (.sl 66 (b.map dmapD))] (.d (.bool (decide (a=b)))):=by
 obtain ⟨ha,hb,oA,oB⟩:=hp;refine fbod func49 ntmps49 (λbase=>?_);by_cases hl:a.length=b.length
 .have ji:((a.length:Int) !=(b.length:Int))=false:=by rw [hl];simp
  refine' zc ji;refine zk (λq: { i:Nat // i<=a.length/\decide (a=b)=decide (a.drop i=b.drop i) } =>⟨[(0,true,.d (.sl 66 (a.map dmapD))),(1,true,.d (.sl 66 (b.map dmapD))),(5,true,.d (.int .i64 q.1))],[],some []⟩) (λq=>a.length - q.1) ⟨0,ad _,rfl⟩ le1 (λq=>?_);refine' Di;rcases zw dmapD a i hi with ⟨m,hq,bo,J,ab,b4,a7⟩|⟨ao,J⟩
  .obtain ⟨m',fV⟩:=zaD (l:=b) (i:=i) fT;have ij:=zbB (g:=dmapD) fV;simp only [dmapD] at ab ij;have qi:decide ((i:Int)<(b.length:Int))=true:=xz;refine' CO;have hm:=oA m (ay hq);have nk:=oB m' (ay fV);rw [b4,zdO fV] at hf;have vy:=zAq (P:=Tryz.prog) (t:=155) (s:=9) (b:=4) (a:=153) (e:=4) lv lv lv lv lv lv lv fX hm nk;refine' HG;have nj:List.take 64 ((m'.bits.map D.bool).map AV.d)=(m'.bits.map D.bool).map AV.d:=aA (by simp [nk])
   (have tk:=zb Tryz.prog);repeat' (first|((first|(refine sa ?_;intro K hK)|refine sb ?_);simp only [go_sem,simprocAttr,J,qi,ab,ij,iG,nj,vy,hm,nk,aw,results49])|refine zaC (λK hK=>?_)|refine sc ?_|refine za1 rfl (λhc=>?_) (λhc=>?_)|(refine hK _ ?_;clear hK K)|with_reducible refine And.intro ?_ ?_|(refine (show zb8 _ _=true from ?_);kernel_rfl)|omega|assumption|clear hK K)
   .rw [hf];simp only [bI,bG] at hc;rw [ag];simp only [aX];exact λh=>hc h.1
   .simp only [bK,ax] at hc;refine ⟨⟨i+1,fT,?_⟩,lew,gh⟩;rw [hf,hc];simp
  .refine' zc J;rw [hf,bQ fT,bQ fT];rfl
 .have ji:((a.length:Int) !=(b.length:Int))=true:=by rw [bD];omega
  refine' zc ji;rw [ag (λh=>hl lj)]
@[go_sem] def zlr:Ent Tryz.prog 49:= .m2 (slT 66 dmapD zfM) (slT 66 dmapD zfM) zo7
def zCW (a b:Img):(decide (a.disk=b.disk)&&(a.geom.guest==b.geom.guest&&a.geom.host==b.geom.host)&&(a.jour.seq==b.jour.seq&&a.jour.pos==b.jour.pos)&&decide (a.maps=b.maps)&&(a.broken==b.broken))=decide (a=b):=by
 obtain ⟨d,⟨g,h⟩,⟨s,p⟩,m,br⟩:=a;obtain ⟨d',⟨g',h'⟩,⟨s',p'⟩,m',BL⟩:=b;rw [bV];simp only [aq,aF,ax,Img.mk.injEq,Geom.mk.injEq,Jour.mk.injEq];constructor
 .rintro ⟨⟨⟨⟨h1,h2⟩,J⟩,h4⟩,h5⟩;exact ⟨h1,h2,J,h4,h5⟩
 .rintro ⟨h1,h2,J,h4,h5⟩;exact ⟨⟨⟨⟨h1,h2⟩,J⟩,h4⟩,h5⟩
def zuF (a b:Img) (hp:ImgOk a/\ImgOk b):AC 16 [imgA a,imgA b] (.d (.bool (decide (a=b)))):=by obtain ⟨J,hb⟩:=hp;refine fbod func16 ntmps16 (λbase=>?_);have h1:=J.disk;have h2:=hb.disk;have h3:=J.maps;have h4:=hb.maps;have h5:=J.bits;have h6:=hb.bits;refine' walkW fx (za zqF <| za zlr <| zb _);rw [zCW]
@[go_sem] def zaq:Ent Tryz.prog 16:= .m2 za9 za9 zuF
def mset (g:Nat) (m:Dmap):Dmap:= { m with bits:=m.bits.set g true }
def cmark (x:Img) (guest:Int):Img:=if guest<0\/64<=guest then x else { x with maps:=x.maps.map (mset guest.toNat) }
def zs9 (m:Dmap) (g:Nat):(dmapD m).set (2+g) (.bool true)=dmapD (mset g m):=by rw [Nat.add_comm];simp [dmapD,mset,cK]
def zAr {m:Dmap} (h:m.bits.length=64):(dmapD m).length=66:=by simp [dmapD,h]
def zAs {x:Img} (h:ImgOk x) (g:Int):ImgOk (cmark x g):=by
 unfold cmark;split
 .exact h
 .refine ⟨h.disk,by simp only [al];exact h.maps,λm hm=>?_,λm hm=>?_⟩
  .obtain ⟨m0,h0,rfl⟩:=ba.1 hm;exact h.names m0 h0
  .obtain ⟨m0,h0,rfl⟩:=ba.1 hm;simp [mset,h.bits m0 h0]
def zuG (x:Img) (guest:Int) (hp:ImgOk x/\x.maps.length<=1000000):AC 267 [imgA x,.d (.int .i64 guest)] (imgA (cmark x guest)):=by
 obtain ⟨h,h2⟩:=hp;refine fbod func267 ntmps267 (λbase=>?_);by_cases hg:guest<0\/64<=guest
 .have J:(decide (guest<0)||decide (64<=guest))=true:=by simpa using hg
  refine' zc J;rw [cmark,aa hg]
 .have J:(decide (guest<0)||decide (64<=guest))=false:=by simpa using hg
  refine' IW;obtain ⟨n,hn⟩:∃n,n=x.maps.length:=⟨_,rfl⟩
  refine zk (λq: { i:Nat // i<=x.maps.length } =>⟨[(1,true,.d (.int .i64 g)),(2,true,.vp 0 0),(4,true,.vp 1 0),(5,true,.osl 2 66 x.maps.length 0 x.maps.length),(6,true,.d (.int .i64 q.1))],[(2,.arr 66 (((x.maps.take q.1).map (mset g)++x.maps.drop q.1).map dmapD)),(1,.var [.d (.str []),.nils 2,.d (.int .i64 0),.d (.bool false),.nils 1,.d (.int .i64 0),.d (.int .i64 0),.d (.int .u64 0),.d (.int .i64 0),.nils 66,.d (.bool false)]),(0,.var [.d (.str x.disk.data),.d (.sl 2 (x.disk.cache.map putD)),.d (.int .i64 x.disk.fuse),.d (.bool x.disk.off),.d (.sl 1 (x.disk.bad.map intD)),.d (.int .i64 x.geom.guest),.d (.int .i64 x.geom.host),.d (.int .u64 x.jour.seq),.d (.int .i64 x.jour.pos),.d (.sl 66 (x.maps.map dmapD)),.d (.bool x.broken)])],some []⟩) (λq=>x.maps.length - q.1) ⟨0,ad _⟩ le1 (λq=>?_);refine' Ha;rcases aO i x.maps.length with aZ|gU
  .obtain ⟨m,hq⟩:=zaD aZ;have ab:decide ((i:Int)<(x.maps.length:Int))=true:=af fT;refine' CO;refine' EV
   have hset:((x.maps.take i).map (mset g)++x.maps.drop i).set i (mset g m)=(x.maps.take (i+1)).map (mset g)++x.maps.drop (i+1):=by rw [fI,U fT,oC,cu,zdO hq,zcT hq,aG,aY];rfl
   refine' zc (zp ab hL an)
   have m9:(((x.maps.take i).map (mset g)++x.maps.drop i).map dmapD).set i ((dmapD m).set (2+g*1) (.bool true))=((x.maps.take (i+1)).map (mset g)++x.maps.drop (i+1)).map dmapD:=by rw [cF,zs9,<-cK,hset]
   exact ⟨⟨i+1,fT⟩,lxb (lan hwi m9),gh⟩
  .refine' FM
@[go_sem] def zar:Ent Tryz.prog 267:= .m2 za9 (intT .i64) zuG
def bneP {a b:Int} (h:(a !=b)=true):a≠b:=bD.1 h
def bneN {a b:Int} (h:(a !=b)=false):¬a≠b:=λh2=>h2 (bJ.1 h)
def beqP {a b:Int} (h:(a==b)=true):a=b:=aF.1 h
def beqN {a b:Int} (h:(a==b)=false):¬a=b:=bb.1 h
@[go_sem] def p0_fold:Plan.mk [] []=p0:=rfl
def zdb (d:Disk) (k:Int):Txt×Int:=
 if (dread d (96+2*k)).2≠0 then ([],(dread d (96+2*k)).2)
 else if (dread d (96+2*k+1)).2≠0 then ([],(dread d (96+2*k+1)).2)
 else ((dread d (96+2*k)).1++(dread d (96+2*k+1)).1,0)
def zni (d:Disk) (k:Int) (hp:DiskF d/\zac k=true):AC 337 [diskA d,.d (.int .i64 k)] (.tup [.d (.str (zdb d k).1),.d (.int .i64 (zdb d k).2)]):=by
 obtain ⟨h,hk⟩:=hp;refine fbod func337 ntmps337 (λbase=>?_);have h1:=h.ok;have h2:=h.puts;have mY:=hostOk_iff.1 hk;have hw:IntKind.i64.wrap (96+2*k+1)=96+2*k+1:=zf fT fT;have jv:=zeZ (at_:=96+2*k) h2;have js:=zeZ (at_:=96+2*k+1) h2;refine' walkW hw (za zak <| za zbN <| zb _)
 .rw [zdb,aa (bneP hc)]
 .rename_i J;rw [zdb,U (bneN J),aa (bneP hc)]
 .rename_i J;rw [zdb,U (bneN J),U (bneN hc)]
@[go_sem] def zkH:Ent Tryz.prog 337:= .m2 zC (intT .i64) zni
def zhm {d:Disk} {p:Plan} {l1 g:Int} (h:(elook d p l1 g).1.kind=1):zac (elook d p l1 g).1.loc=true:=by
 have hk:∀t i,(eget d p t i).1.kind=1→zac (eget d p t i).1.loc=true:=by
  intro t i hk
  by_cases he:(eget d p t i).2=0
  ·have:=(znf he).1
   unfold entOk at this
   rw [aa hk] at this
   exact this
  ·exfalso
   unfold eget at hk he
   split at hk
   ·cases hk
   ·rename_i h0
    rw [U h0] at he
    split at hk
    ·cases hk
    ·rename_i h2
     rw [U h2] at he
     unfold entT at hk he
     split at hk
     ·cases hk
     ·rename_i h1
      rw [U h1] at he
      exact he rfl
 unfold elook at h ⊢
 split at h
 ·cases h
 split at h
 ·cases h
 split at h
 ·cases h
 split at h
 ·cases h
 rename_i h1 h2 h3 h4
 rw [U h1,U h2,U h3,U h4]
 exact hk _ _ h
def cread (d:Disk) (l1 guest:Int):Txt×Int:=
 if (elook d p0 l1 guest).2≠0 then ([],(elook d p0 l1 guest).2) else if (elook d p0 l1 guest).1.kind=1 then zdb d (elook d p0 l1 guest).1.loc else (List.replicate 128 0,0)
def zuH (d:Disk) (l1 guest:Int) (h:DiskF d):AC 266 [diskA d,.d (.int .i64 l1),.d (.int .i64 guest)] (.tup [.d (.str (cread d l1 guest).1),.d (.int .i64 (cread d l1 guest).2)]):=by
 refine fbod func266 ntmps266 (λbase=>?_);refine' GZ;refine' walkW fx (za zW <| za zkH <| zb _)
 .rw [cread,aa (bneP hc)]
 .exact gx (beqP hc)
 .rename_i J;rw [cread,U (bneN J),aa (beqP hc)]
 .rfl
 .rename_i J;rw [cread,U (bneN J),U (beqN hc)];rfl
@[go_sem] def zal:Ent Tryz.prog 266:= .m3 zC (intT .i64) (intT .i64) zuH
def cdone (x:Img) (p:Plan):Img×Int:=
 if (jcommit x.disk x.jour p).2.2≠0 then ({ x with disk:=(jcommit x.disk x.jour p).1,broken:=true },(jcommit x.disk x.jour p).2.2)
 else ({ x with disk:=(jcommit x.disk x.jour p).1,jour:=(jcommit x.disk x.jour p).2.1 },0)
def zlZ (x:Img) (p:Plan) (h:ImgOk x) (J:DiskF x.disk) (hf:pfit p=true) (h0:0<=x.jour.seq) (h1:x.jour.seq<18446744073709551616):ACall Tryz.prog 232 0 [imgA x,planA p] [] (λr _=>r= .tup [imgA (cdone x p).1,.d (.int .i64 (cdone x p).2)]):=by
 refine fbod func232 ntmps232 (λbase=>?_);refine' walkW fx (za zna <| zb _)
 .rw [cdone,aa (bneP hc)]
 .rw [cdone,U (bneN hc)]
@[go_sem] def zas:Ent Tryz.prog 232:= .ofL (consL za9 (consL z7 nilL)) (λ(x,p,_)=>(ImgOk x)/\(DiskF x.disk)/\(pfit p=true)/\(0<=x.jour.seq)/\(x.jour.seq<18446744073709551616)) (λ(x,p,_)=> .tup [imgA (cdone x p).1,.d (.int .i64 (cdone x p).2)]) (λ(x,p,_) hp=>⟨rfl,zlZ x p hp.1 hp.2.1 hp.2.2.1 hp.2.2.2.1 hp.2.2.2.2⟩)
open Go Go.Proofs Go.RowKit Go.ChangeShapes Go.WideShapes Go.Proofs.Tryz
structure ImgW (x:Img):Prop where
 ok:ImgOk x
 seq0:0<=x.jour.seq
 seq1:x.jour.seq<=18446744073709551615
 guest0: -9223372036854775808<=x.geom.guest
 guest1:x.geom.guest<=9223372036854775807
 host0: -9223372036854775808<=x.geom.host
 host1:x.geom.host<=9223372036854775807
 pos0: -9223372036854775808<=x.jour.pos
 pos1:x.jour.pos<=9223372036854775807
def imgD (x:Img):List D:= [.str x.disk.data,.sl 2 (x.disk.cache.map putD),.int .i64 x.disk.fuse,.bool x.disk.off,.sl 1 (x.disk.bad.map intD),.int .i64 x.geom.guest,.int .i64 x.geom.host,.int .u64 x.jour.seq,.int .i64 x.jour.pos,.sl 66 (x.maps.map dmapD),.bool x.broken]
def zfy {n:Nat} {x:List D} (h:DTy Tryz.prog (n+1) 3 x):∃a:Int,x= [.int .i64 a]/\ -9223372036854775808<=a/\a<=9223372036854775807:=by unfold DTy at h;simp only [ty3] at h;obtain ⟨a,rfl,h1,h2⟩:=h;exact ⟨a,rfl,h1,h2⟩
def zso {n:Nat} {x:List D} (h:DTy Tryz.prog (n+1) 9 x):∃s:Txt,x= [.str s]/\s.length<=9223372036854775807:=by unfold DTy at h;simp only [ty9] at h;exact h.imp λs J=>⟨J.1,aD J.2 gb⟩
def zjY {n:Nat} {x:List D} (h:DTy Tryz.prog (n+1) 4 x):∃b:Bool,x= [.bool b]:=by unfold DTy at h;simp only [ty4] at h;exact h
def zBs {n:Nat} {x:List D} (h:DTy Tryz.prog (n+2) 33 x):∃l:List Int,l.length<=9223372036854775807/\x= [.sl 1 (l.map intD)]:=by unfold DTy at h;simp only [ty33] at h;obtain ⟨rows,rfl,J,hr⟩:=h;obtain ⟨l,rfl⟩:=zh9 (e:=intD) (λr h'=>(zfy (hr r h')).imp λs h=>h.1);exact ⟨l,gQ,by rw [ty3]⟩
def zDr {n:Nat} {x:List D} (h:DTy Tryz.prog (n+2) 195 x):∃q:PutR,x=putD q:=by unfold DTy at h;simp only [ty195,DTy.fields] at h;obtain ⟨a1,b1,rfl,g1,a2,b2,rfl,g2,rfl⟩:=h;obtain ⟨a,rfl,_⟩:=zfy g1;obtain ⟨s,rfl,_⟩:=zso g2;exact ⟨(a,s),rfl⟩
def zBt {n:Nat} {x:List D} (h:DTy Tryz.prog (n+3) 32 x):∃l:List PutR,l.length<=9223372036854775807/\x= [.sl 2 (l.map putD)]:=by unfold DTy at h;simp only [ty32] at h;obtain ⟨rows,rfl,J,hr⟩:=h;obtain ⟨l,rfl⟩:=zh9 (e:=putD) (λr h'=>zDr (hr r h'));exact ⟨l,gQ,by rw [ty195]⟩
def zBu {n:Nat} {x:List D} (h:DTy Tryz.prog (n+4) 35 x):∃d:Disk,DiskOk d/\x= [.str d.data,.sl 2 (d.cache.map putD),.int .i64 d.fuse,.bool d.off,.sl 1 (d.bad.map intD)]:=by unfold DTy at h;simp only [ty35,DTy.fields] at h;refine' I5;obtain ⟨s,rfl,J⟩:=zso g1;obtain ⟨l,q2,rfl⟩:=zBt g2;obtain ⟨f,rfl,q3,q4⟩:=zfy g3;obtain ⟨o,rfl⟩:=zjY g4;obtain ⟨m,q5,rfl⟩:=zBs g5;exact ⟨⟨s,l,f,o,m⟩,⟨J,q2,q5,q3,q4⟩,rfl⟩
def zmq:∀ {parts:List (List D)},(∀p∈parts,∃b:Bool,p= [.bool b])->∃l:List Bool,parts.flatten=l.map D.bool/\l.length=parts.length
 | [],_=>⟨[],rfl,rfl⟩
 |p::r,h=>by obtain ⟨b,rfl⟩:=h p fZ;obtain ⟨l,h1,h2⟩:=zmq (parts:=r) (λq J=>h q (by simp [J]));exact ⟨b::l,by simp [h1],by simp [h2]⟩
def ztP {n:Nat} {x:List D} (h:DTy Tryz.prog (n+3) 155 x):∃m:Dmap,(m.name.length<=9223372036854775807/\m.bits.length=64)/\x=dmapD m:=by unfold DTy at h;simp only [ty155,DTy.fields] at h;obtain ⟨a1,b1,rfl,g1,a2,b2,rfl,g2,a3,b3,rfl,g3,rfl⟩:=h;obtain ⟨s,rfl,q1⟩:=zso g1;obtain ⟨u,rfl⟩:=zjY g2;unfold DTy at g3;simp only [ty153] at g3;obtain ⟨parts,rfl,J,hp⟩:=g3;obtain ⟨l,h1,h2⟩:=zmq (λp h'=>zjY (hp p h'));exact ⟨⟨s,u,l⟩,⟨q1,by rw [h2,J]⟩,by simp [dmapD,h1]⟩
def zy8 {n:Nat} {x:List D} (h:DTy Tryz.prog (n+4) 40 x):∃l:List Dmap,l.length<=9223372036854775807/\(∀m∈l,m.name.length<=9223372036854775807/\m.bits.length=64)/\x= [.sl 66 (l.map dmapD)]:=by unfold DTy at h;simp only [ty40] at h;obtain ⟨rows,rfl,hl,J⟩:=h;obtain ⟨l,rfl⟩:=zh9 (e:=dmapD) (λr h'=>(ztP (J r h')).imp λs h=>h.2);refine ⟨l,s6,λm hm=>?_,by rw [ty155]⟩;obtain ⟨m',h1,h2⟩:=ztP (J (dmapD m) (List.mem_map_of_mem hm));rw [zfM _ _ h2];exact h1
def zDs {n:Nat} {x:List D} (h:DTy Tryz.prog (n+5) 42 x):∃X:Img,ImgW X/\x=imgD X:=by unfold DTy at h;simp only [ty42,DTy.fields] at h;refine' I5;obtain ⟨d,q1,rfl⟩:=zBu g1;unfold DTy at g2 g3;simp only [ty37,DTy.fields] at g2;simp only [ty39,DTy.fields] at g3;obtain ⟨c1,e1,rfl,k1,c2,e2,rfl,k2,rfl⟩:=g2;obtain ⟨c3,e3,rfl,k3,c4,e4,rfl,k4,rfl⟩:=g3;obtain ⟨gu,rfl,r1,r2⟩:=zfy k1;obtain ⟨J,rfl,r3,r4⟩:=zfy k2;unfold DTy at k3;simp only [ty22] at k3;obtain ⟨sq,rfl,r5,r6⟩:=k3;obtain ⟨po,rfl,r7,r8⟩:=zfy k4;obtain ⟨l,q2,q3,rfl⟩:=zy8 g4;obtain ⟨br,rfl⟩:=zjY g5;exact ⟨⟨d,⟨gu,J⟩,⟨sq,po⟩,l,br⟩,⟨⟨q1,q2,λm hm=>(q3 m hm).1,λm hm=>(q3 m hm).2⟩,r5,r6,r1,r2,r3,r4,r7,r8⟩,rfl⟩
def zDt (X:Img):argAV Tryz.prog 42 (imgD X)=imgA X:=by simp only [argAV,ty42];rfl
def zDu (n:Int):argAV Tryz.prog 3 [.int .i64 n]= .d (.int .i64 n):=by simp only [argAV,ty3]
end
end Go.Aw
