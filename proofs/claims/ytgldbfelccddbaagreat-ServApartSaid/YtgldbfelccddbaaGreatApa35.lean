/-
 What ranges are, the program's.
-/
import Derived.Test.YtgldbfelccddbaaGreatApa29
import Derived.Test.YtgldbfelccddbaaGreatApa28
set_option linter.all false
set_option maxRecDepth 100000
set_option maxHeartbeats 2000000
namespace Go.Aw
noncomputable section
open Go Go.Proofs Go.Proofs.Tryz
def zdh (e:Ext):List AV:= [.agg [.d (.int .i64 e.len),.d (.int .i64 e.flags)]]
def extU (x:List AV):List D:=match x with
 | [.agg [.d a,.d b]]=> [a,b]
 |_=> []
def zA6 (l:List Ext):(l.map zdh).map extU=l.map extD:=by rw [bZ];rfl
def zyt (l:List Ext) (_:True):AC 454 [.d (.sl 2 (l.map extD))] (.fn (.func 464) [] [.dp [.d (.sl 2 (l.map extD))]]):=by refine fbod func454 ntmps454 (λbase=>?_);refine' Ds
@[go_sem] def zrK:Ent Tryz.prog 454:= .m1 (slT 2 extD zeG) zyt
def znD (l Z:List Ext) (hZ:Z=ejoin l) (hl:l.length<=65536) (h:∀x∈l,1<=x.len/\x.len<=128):AIter Tryz.prog 464 100 [] [.dp [.d (.sl 2 (l.map extD))]] [] (Z.map zdh) (λg h'=>(∀xs,g=some xs->xs=Z.map zdh)/\h'= []):=by
 refine itr func464 ntmps464 (λbase y=>?_);refine zfI ?_;have hj:=zuY l (λx hx=>(h x hx).1);rw [<-hZ] at hj;refine' zaQ fx;refine zk (λq: { q:Nat×Ext×List (List AV) // q.1<=l.length/\0<=q.2.1.len/\q.2.1.len<=128*q.1/\q.2.2++(jrest q.2.1 (l.drop q.1)).map zdh=Z.map zdh } =>⟨[(0,true,.fn (.yield y.yl) [] []),(3,true,.vp 100 0),(7,true,.d (.sl 2 (l.map extD))),(8,true,.d (.int .i64 l.length)),(9,true,.d (.int .i64 q.1.1))],[(100,.var [.d (.int .i64 q.1.2.1.len),.d (.int .i64 q.1.2.1.flags)])],some q.1.2.2⟩) (λq=>l.length - q.1.1) ⟨(0,⟨0,0⟩,[]),ad _,db _,fZ,pz⟩ le1 (λq=>?_);obtain ⟨⟨i,⟨rl,rf⟩,xs⟩,hi,n6,ka,hf⟩:=q;simp only at hi n6 ka hf |-;rcases zw extD l i hi with ⟨⟨xl,xf⟩,hq,b7,J,aZ,b4,a7⟩|⟨ao,J⟩
 .simp only [extD] at aZ;refine' CO;obtain ⟨ki,mB⟩:=h _ (ay hq);simp only at ki mB;have jr:decide (xl<1)=false:=ag fT;have j4:imin xl 1099511627776=xl:=jQ;rw [b4,jrest] at hf;simp only at hf;rcases ei 0 rl with hp|hp
  .have hg:decide (0<rl)=true:=af hp;cases he:(rf==xf) with
   |true=>
    have e9:rf=xf:=gp;rw [aa ⟨hp,e9⟩] at hf;have gO:IntKind.i64.wrap (rl+xl)=rl+xl:=zf fT fT;have kk:imin (rl+xl) 1099511627776=rl+xl:=jQ;refine' zaQ (zr J aZ jr j4 hg (zp he gO kk));exact ⟨⟨(i+1,⟨rl+xl,rf⟩,xs),fT,gH,gH,hf⟩,lew,gh⟩
   |false=>
    have e9:¬rf=xf:=gp;rw [U (λhh=>e9 hh.2),aa hp,au] at hf;have bu:(xs++ [zdh ⟨rl,rf⟩])<+:Z.map zdh:=jT;simp only [zdh] at bu;refine' zaQ (zr J aZ jr j4 hg he);exact ⟨⟨(i+1,⟨xl,xf⟩,xs++ [zdh ⟨rl,rf⟩]),fT,gH,gH,jT⟩,lxb (lan hwi @zdh.eq_1),gh⟩
  .have hg:decide (0<rl)=false:=ag fT;rw [U (λhh=>fT),U fT] at hf;refine' zaQ (zat J aZ jr j4 hg);exact ⟨⟨(i+1,⟨xl,xf⟩,xs),fT,gH,gH,hf⟩,lew,gh⟩
 .rw [ao,aP,jrest] at hf;simp only at hf;rcases ei 0 rl with hp|hp
  .have hg:decide (0<rl)=true:=af hp;rw [aa hp] at hf;have bu:(xs++ [zdh ⟨rl,rf⟩])<+:Z.map zdh:=jT;simp only [zdh] at bu;refine' zaQ (zg J hg);all_goals (rintro zs rfl;rw [<-hf];simp [zdh])
  .have hg:decide (0<rl)=false:=ag fT;rw [U fT] at hf;refine' zaQ (zg J hg);rintro zs rfl;rw [<-hf];simp
def znE (l:List Ext) (hl:l.length<=65536) (h:∀x∈l,1<=x.len/\x.len<=128):ACall Tryz.prog 463 0 [.nils 2,.fn (.func 464) [] [.dp [.d (.sl 2 (l.map extD))]]] [] (λr h'=>r= .osl 1 2 (ejoin l).length 0 (ejoin l).length/\h'= [(1,.arr 2 ((ejoin l).map extD)),(0,.var [.osl 1 2 (ejoin l).length 0 (ejoin l).length])]):=by
 refine bod func463 ntmps463 (λbase=>?_);have mH:=zpo l;obtain ⟨Z,hZ⟩:∃Z,Z=ejoin l:=⟨_,rfl⟩
 have jV:=znD l Z hZ hl h;rw [<-hZ] at mH |-;refine' G8;refine zeX 0 0 2 (cs:= [.nils 2]) rfl rfl ?_;refine' Cl;obtain ⟨I,hI⟩:∃I:List (List AV)->AHeap×Option (List (List AV)),I=λxs=>([(1,.arr 2 (xs.map extU)),(0,.var [.osl 1 2 xs.length 0 xs.length])],some []):=⟨_,rfl⟩
 refine' Ec;refine' HC;refine' FT
 .intro xs x1 bu a8 tB r1;obtain ⟨ys,⟨el,ef⟩,zs,kb,rfl,iR⟩:=zes bu;have jG:=bu.length_le;simp only [ae,al,aC,aM] at jG;simp only [zdh];refine aw_le ⟨[(7,true,.agg [.d (.int .i64 el),.d (.int .i64 ef)]),(2,true,.vp 0 0)],[(1,.arr 2 (xs.map extU)),(0,.var [.osl 1 2 xs.length 0 xs.length])],some []⟩ om ?_;refine' zau hI;all_goals first|omega|(simp;done)|(rw [hG];trivial)|skip
  all_goals (rw [aG];rfl)
 .intro _;rw [hI];simp only [zA6,al];refine' G8
 .rw [hJ];rintro c h3 g3 h;exact h.elim
def zrL (l:List Ext) (J:l.length<=65536) (h:∀x∈l,1<=x.len/\x.len<=128):ACall Tryz.prog 453 0 [.fn (.func 464) [] [.dp [.d (.sl 2 (l.map extD))]]] [] (λr _=>r= .d (.sl 2 ((ejoin l).map extD))):=by refine fbod func453 ntmps453 (λbase=>?_);refine' Ds;refine (ACall.own (fl':=0) (znE l J h) rfl rfl (aj _) (by rintro r h' ⟨rfl,rfl⟩;rfl)).mono ?_;rintro r h' ⟨mc,⟨rfl,rfl⟩,rfl⟩;refine' Cl;refine' Ds
@[go_sem] def znF:Ent Tryz.prog 453:= .ofL (consL (fnT 464 (consL (dpT (consL (slT 2 extD zeG) nilL) (λp=>p) (λp=>p) (λ_=>rfl)) nilL)) nilL) (λ(((l,_),_),_)=>(l.length<=65536)/\(∀x∈l,1<=x.len/\x.len<=128)) (λ(((l,_),_),_)=> .d (.sl 2 ((ejoin l).map extD))) (λ(((l,_),_),_) hp=>⟨rfl,zrL l hp.1 hp.2⟩)
def zDi (l:List Ext) (hp:l.length<=65536/\(∀x∈l,1<=x.len/\x.len<=128)):AC 424 [.d (.sl 2 (l.map extD))] (.d (.sl 2 ((ejoin l).map extD))):=by obtain ⟨J,h⟩:=hp;refine fbod func424 ntmps424 (λbase=>?_);refine' walkW fx (za zrK <| za znF <| zb _);all_goals first|omega|exact h|skip
@[go_sem] def zej:Ent Tryz.prog 424:= .m1 (slT 2 extD zeG) zDi
def zrM (g:Geom) (a n:Int) (hp:0<=g.guest/\g.guest<=1000000):AC 375 [geomA g,.d (.int .i64 a),.d (.int .i64 n)] (.d (.bool (decide (n<1)|| !inB g.guest a n))):=by
 refine' EP;refine fbod func375 ntmps375 (λbase=>?_);have hw:IntKind.i64.wrap (g.guest*128)=128*g.guest:=gP
 have hx:(decide (a<0)||decide (n<1)||decide (128*g.guest<n)||decide (IntKind.i64.wrap (128*g.guest - n)<a))=(decide (n<1)|| !inB g.guest a n):=by
  by_cases J:n<1
  .rw [af J];simp
  .rw [<-ztn h0 h1,ag J,ag (by omega:¬n<0)];simp
 refine' zc (zg hw hx)
@[go_sem] def zdG:Ent Tryz.prog 375:= .m3 zet (intT .i64) (intT .i64) zrM
structure Tbt where
 d:Disk
 l1:Int
def tbtA (t:Tbt):AV:= .agg [.d (.str t.d.data),.d (.sl 2 (t.d.cache.map putD)),.d (.int .i64 t.d.fuse),.d (.bool t.d.off),.d (.sl 1 (t.d.bad.map intD)),.d (.int .i64 t.l1)]
attribute [go_sem] tbtA
def zBY:PT Tbt:=aggT (consL strT (consL (slT 2 putD zib) (consL (intT .i64) (consL boolT (consL (slT 1 intD zdu) (consL (intT .i64) nilL)))))) (λp=>⟨⟨p.1,p.2.1,p.2.2.1,p.2.2.2.1,p.2.2.2.2.1⟩,p.2.2.2.2.2.1⟩) (λx=>(x.d.data,x.d.cache,x.d.fuse,x.d.off,x.d.bad,x.l1,())) (λ_=>rfl)
attribute [go_sem] zBY
def zyu (t:Tbt) (g:Int) (h:DiskF t.d):AC 509 [tbtA t,.d (.int .i64 g)] (.tup [.d (.int .i64 (elkF t.d t.l1 g).1),.d (.int .i64 (elkF t.d t.l1 g).2)]):=by
 refine fbod func509 ntmps509 (λbase=>?_);have iZ:DP t.d p0:=⟨h,zch⟩
 have J:=zuT (d:=t.d) (p:=p0) (l:=t.l1) (g:=g);obtain ⟨Y,hY⟩:∃Y,Y=elook t.d p0 t.l1 g:=⟨_,rfl⟩
 unfold elkF zjv;rw [<-hY] at J |-;rcases J with J|J|J
 .refine' walkW (zg hY.symm J) (za zN <| zb _)
 .refine' walkW (zg hY.symm J) (za zN <| zb _)
 .refine' walkW (zg hY.symm J) (za zN <| zb _)
@[go_sem] def zgk:Ent Tryz.prog 509:= .m2 zBY (intT .i64) zyu
@[go_sem] def meth_tab:zoc Tryz.prog 500 "cofferdam/span.flags" =some 509:=fX
@[go_sem] def zEf:zoc Tryz.prog 504 "cofferdam/span.flags" =some 510:=fX
def zvh (t:Tbt) (a:Int) (n:Int) (h:DiskF t.d):ACall Tryz.prog 376 0 [.d (.int .i64 a),.d (.int .i64 n),.iface 500 (tbtA t)] [] (λr _=>r= .tup [.d (.sl 2 ((spL (elkF t.d t.l1) (cutsL a n) []).1.map extD)),.d (.int .i64 (spL (elkF t.d t.l1) (cutsL a n) []).2)]):=by
 refine fbod func376 ntmps376 (λbase=>?_);obtain ⟨Z,hZ⟩:∃Z,Z=spL (elkF t.d t.l1) (cutsL a n) []:=⟨_,rfl⟩
 rw [<-hZ];refine' EG;have gF:l.length<=65536:=mF;have ir:∀q∈l,1<=q.2.2/\q.2.2<=128:=tG;rw [<-hl] at hZ;refine' walkW hl.symm (za zci <| za zgk <| za zej <| zb _);refine zaI 8 2 rfl ?_;refine' Ev;refine zk (λq: { q:Nat×List Ext // q.1<=l.length/\q.2.length=q.1/\(∀y∈q.2,1<=y.len/\y.len<=128)/\Z=spL (elkF t.d t.l1) (l.drop q.1) q.2 } =>⟨[(2,true,.iface 500 (tbtA t)),(8,true,.osl 0 2 q.1.2.length 0 q.1.2.length),(15,true,.d (.sl 3 (l.map cutD))),(16,true,.d (.int .i64 l.length)),(17,true,.d (.int .i64 q.1.1))],[(0,.arr 2 (q.1.2.map extD))],some []⟩) (λq=>l.length - q.1.1) ⟨(0,[]),ad _,rfl,fZ,hZ⟩ le1 (λq=>?_);refine' FQ
 .simp only [cutD] at an;refine' CO;have kE:=ir _ (ay hq);rw [b4] at hf;have hf:=ztB hf;simp only at hf kE;obtain ⟨C,hC⟩:∃C,C=elkF t.d t.l1 c0:=⟨_,rfl⟩
  rw [<-hC] at hf;cases he:(C.2 !=0) with
  |true=>
   rw [aa gp] at hf;refine' walkW (zB J an hC.symm he) (za zci <| za zgk <| za zej <| zb _);rw [hf];rfl
  | false=>
   rw [U gp] at hf;refine' walkW (zB J an hC.symm he) (za zci <| za zgk <| za zej <| zb _);all_goals first|omega|skip
   exact ⟨⟨(i+1,o++ [⟨c2,C.1⟩]),fT,by simp [j0],λy hy=>by
    rcases aS.1 hy with hy|hy
    .exact ho y hy
    .rw [bp] at hy;subst hy;simp only;omega,hf⟩,uN,gh⟩
 .refine' GW;refine' walkW J (za zci <| za zgk <| za zej <| zb _);all_goals first|omega|exact ho|skip
  rw [hf]
def zyv (x:Img) (l1 a n:Int) (hp:ImgF x/\0<=x.geom.guest):AC 328 [imgA x,.d (.int .i64 l1),.d (.int .i64 a),.d (.int .i64 n)] (.tup [.d (.sl 2 ((zcy x l1 a n).1.map extD)),.d (.int .i64 (zcy x l1 a n).2)]):=by
 obtain ⟨h,h0⟩:=hp;refine fbod func328 ntmps328 (λbase=>?_);have l4:=h.guest;refine' GC
 .rw [aa hr] at hZ;have J:(decide (n<1)|| !inB x.geom.guest a n)=true:=jX;refine' walkW J (za zdG <| zb _);rw [hZ];rfl
 .rw [U hr] at hZ;have J:(decide (n<1)|| !inB x.geom.guest a n)=false:=jX;refine' walkW J (za zdG <| zb _);refine (zaE (zvh ⟨x.disk,l1⟩ a n h.disk)).mono ?_;refine' Cp;refine' Cl;refine' Ds;rw [hZ]
@[go_sem] def zd3:Ent Tryz.prog 328:= .m4 za9 (intT .i64) (intT .i64) (intT .i64) zyv
end
end Go.Aw
