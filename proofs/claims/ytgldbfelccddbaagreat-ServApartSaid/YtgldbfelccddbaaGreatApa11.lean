/- Lemmas. -/
import Derived.Test.YtgldbfelccddbaaGreatApa8
set_option linter.all false
set_option maxRecDepth 100000
set_option maxHeartbeats 2000000
namespace Go.Aw
noncomputable section
open Go Go.Proofs Go.Proofs.Tryz
def zwC (d:Disk) (J:DiskOk d):AC 82 [diskA d] (.d (.int .i64 (dsize d))):=by refine bod func82 ntmps82 (λbase=>?_);refine' zc (zBL J.data);rfl
@[go_sem] def zbM:Ent Tryz.prog 82:= .m1 zC zwC
def zt3 (d:Disk) (at_:Int) (J:DiskOk d):AC 152 [diskA d,.d (.int .i64 at_)] (.d (.bool (there d at_))):=by refine bod func152 ntmps152 (λbase=>?_);refine' walkW fx (za zbM <| zb _);rfl
@[go_sem] def zcv:Ent Tryz.prog 152:= .m2 zC (intT .i64) zt3
def zzx (d:Disk) (at_:Int) (hd:DiskOk d):AC 224 [diskA d,.d (.int .i64 at_)] (.d (.bool (d.bad.contains at_))):=by
 refine bod func224 ntmps224 (λbase=>?_);refine' Ds;have hb:=hd.bad;refine zk (λq: { i:Nat // i<=d.bad.length/\d.bad.contains at_=(d.bad.drop i).contains at_ } =>⟨[(1,true,.d (.int .i64 at_)),(2,true,.vp 0 0),(5,true,.d (.int .i64 q.1))],[(0,.var [.d (.str d.data),.d (.sl 2 (d.cache.map putD)),.d (.int .i64 d.fuse),.d (.bool d.off),.d (.sl 1 (d.bad.map intD))])],some []⟩) (λq=>d.bad.length - q.1) ⟨0,ad _,rfl⟩ le1 (λq=>?_);refine' Di;rcases zw intD d.bad i hi with ⟨m,hq,a6,J,ab,b4,a7⟩|⟨ao,J⟩
 .simp only [intD] at ab;refine' CO;rw [b4,eS] at hf;refine' zc (zg J ab)
  .rw [hf,BEq.comm,hc];rfl
  .rw [BEq.comm,hc,cB] at hf;refine' Gh
 .refine' Hp
@[go_sem] def ziL:Ent Tryz.prog 224:= .m2 zC (intT .i64) zzx
def zt4 (d:Disk) (J:DiskOk d):AC 166 [diskA d] (diskA (burnt d)):=by
 refine fbod func166 ntmps166 (λbase=>?_);have h1:=J.fuse1;refine' Ds
 .have h0:0<d.fuse:=by simpa using hc
  rw [burnt,aa h0,zf fT fT]
 .have h0:¬0<d.fuse:=by simpa using hc
  rw [burnt,U h0]
@[go_sem] def zfj:Ent Tryz.prog 166:= .m1 zC zt4
def zzy {l:List PutR} {i:Nat} {q:PutR} {at_:Int} (J:l[i]?=some q):(l.take (i+1)).reverse.find? (isPut at_)=if q.1=at_ then some q else (l.take i).reverse.find? (isPut at_):=by
 rw [zcT J,List.reverse_append,List.reverse_singleton,dv,dV];by_cases h:q.1=at_
 .simp [isPut,h]
 .have:isPut at_ q=false:=by simp [isPut,h]
  rw [this,U h]
def zwD (d:Disk) (at_:Int) (hp:DiskOk d/\there d at_=true):AC 225 [diskA d,.d (.int .i64 at_)] (.d (.str (sees d at_))):=by
 obtain ⟨hd,ht⟩:=hp;refine bod func225 ntmps225 (λbase=>?_);refine' Ds;have c6:=hd.cache;have gw:=hd.data;have jS:IntKind.i64.wrap ((d.cache.length:Int) - 1)=(d.cache.length:Int) - 1:=zf fT fT;refine zk (λq: { i:Nat // i<=d.cache.length/\d.cache.reverse.find? (isPut at_)=(d.cache.take i).reverse.find? (isPut at_) } =>⟨[(1,true,.d (.int .i64 at_)),(2,true,.vp 0 0),(5,true,.d (.int .i64 ((q.1:Int) - 1)))],[(0,.var [.d (.str d.data),.d (.sl 2 (d.cache.map putD)),.d (.int .i64 d.fuse),.d (.bool d.off),.d (.sl 1 (d.bad.map intD))])],some []⟩) (λq=>q.1) ⟨d.cache.length,aj _,by rw [zf0]⟩ (lxb jS) (λq=>?_);refine' Di;cases i with
 | zero=>
  have hz:decide ((0:Int)<=((0:Nat):Int) - 1)=false:=gb;refine' IV;have j4:IntKind.i64.wrap (at_+1)=at_+1:=zf fT fT;have jg:IntKind.i64.wrap ((at_+1)*64)=(at_+1)*64:=zf fT fT
  have hs:(d.data.take ((at_+1)*64).toNat).drop (at_*64).toNat=sees d at_:=by rw [sees,hf,di,List.reverse_nil,List.find?_nil,cw];congr 1;omega
  refine' zc (zat hz hm j4 jg hs)
 | succ i=>
  refine' Fk;obtain ⟨⟨n,s⟩,hq⟩:=zaD (l:=d.cache) (i:=i) fT;have J:=zbB (g:=putD) hq;simp only [putD] at J;rw [zzy hq] at hf;refine' zc (zB hz ia J natC)
  .have hn:n=at_:=by simpa using hc
   rw [sees,hf,aa hn]
  .have hn:¬n=at_:=by simpa using hc
   rw [U hn] at hf;exact ⟨⟨i,fT,hf⟩,lew,fZ⟩
@[go_sem] def zhU:Ent Tryz.prog 225:= .m2 zC (intT .i64) zwD
def zwE (d:Disk) (at_:Int) (J:DiskOk d):AC 167 [diskA d,.d (.int .i64 at_)] (.tup [.d (.str (dread d at_).1),.d (.int .i64 (dread d at_).2)]):=by refine bod func167 ntmps167 (λbase=>?_);refine' walkW fx (za zcv <| za ziL <| za zfj <| za zhU <| zb _);all_goals simp_all [dread]
@[go_sem] def zbN:Ent Tryz.prog 167:= .m2 zC (intT .i64) zwE
def za5 (l:List UInt8):(zh l).all zn9=true:=by
 simp [zh,zgE,zn9,List.all_map]
def zao (l:List UInt8):bytesOf (zh l)=l:=by
 unfold bytesOf zh;rw [bZ]
 have:((λr=>UInt8.ofNat (numOf r).toNat) ∘ zgE)=id:=by funext b;simp [zgE,numOf]
 rw [this,List.map_id]
def zdQ (m:Nat):List.replicate m [D.int .u8 0]=zh (List.replicate m 0):=by
 rw [zh,List.map_replicate];rfl
def zgK (m:Nat):List.take m (zh (List.replicate m 0))=zh (List.replicate m 0):=by
 exact aA nB
def zic (m:Nat):(m=(zh (List.replicate m 0)).length)=True:=by
 simp [zh]
def zzz (n:Int) (_:True):AC 85 [.d (.int .i64 n)] (.tup [diskA (dnew n).1,.d (.int .i64 (dnew n).2)]):=by
 refine fbod func85 ntmps85 (λbase=>?_);by_cases h:n<1\/1024<n
 .have J:(decide (n<1)||decide (1024<n))=true:=by simpa using h
  refine' zc J;rw [dnew,aa h];rfl
 .have J:(decide (n<1)||decide (1024<n))=false:=by simpa using h
  have hm:IntKind.i64.wrap (n*64)=n*64:=zf fT fT;refine' zc (zr J hm @zdQ @zgK @zic @if_true.{1})
  .exact za5 _
  .rw [dnew,U h,zao];rfl
@[go_sem] def zt5:Ent Tryz.prog 85:= .m1 (intT .i64) zzz
def zt6 (d:Disk) (at_:Int) (s:Txt) (J:DiskOk d):AC 164 [diskA d,.d (.int .i64 at_),.d (.str s)] (.tup [diskA (zab d at_ s).1,.d (.int .i64 (zab d at_ s).2)]):=by
 refine fbod func164 ntmps164 (λbase=>?_);refine' zfh (zL 17) fx (za zcv <| za ziL <| za zfj <| za zhU <| zb _);all_goals first|(simp_all [zab];done)|(simp_all;omega)|skip
 have hk:DiskOk { d with cache:=d.cache++ [(at_,s)] } :=⟨J.data,by simp_all;omega,J.bad,J.fuse0,J.fuse1⟩
 have hr:d.cache.map putD++ [[.int .i64 at_,.str s]]=(d.cache++ [(at_,s)]).map putD:=by simp [putD]
 have hl:(d.cache.length+1=(d.cache++ [(at_,s)]).length)=True:=fZ;have a7:List.take (d.cache.length+1) ((d.cache++ [(at_,s)]).map putD)=(d.cache++ [(at_,s)]).map putD:=aA fZ;refine za0 2 rfl ?_;simp only [go_sem,aeq,aeq.aeqF,simprocAttr,hr,hl,a7];refine' walkW fx (za zcv <| za ziL <| za zfj <| za zhU <| zb _);clear hr hl a7 hk;by_cases h6:4096<=(d.cache.length:Int)
 .exfalso;simp_all
 .simp only [zab,U h6];simp_all
@[go_sem] def zT:Ent Tryz.prog 164:= .m3 zC (intT .i64) strT zt6
def zsM (b:Txt) (k:Nat) (s:Txt):rput (zh b) k (zh s)=zh (lay b k s):=by
 simp [rput,lay,zh,aG,cE,dy]
def zqD {b:Txt} {k:Nat} {s:Txt} (h:k+s.length<=b.length):(lay b k s).length=b.length:=by
 simp [lay];omega
def zoB {b:Txt} {l:List PutR} {i:Nat} {q:PutR} (J:l[i]?=some q):zfi b (l.take (i+1))=lay (zfi b (l.take i)) (q.1*64).toNat q.2:=by
 simp [zfi,zcT J,eM]
def zBM {d:Disk} {i:Nat} {q:PutR} (J:d.cache.all (putOk d)=true) (hq:d.cache[i]?=some q):0<=q.1/\q.1<((d.data.length / 64:Nat):Int)/\q.2.length=64:=by have:=bw.1 J q (ay hq);rw [putOk,aq] at this;obtain ⟨h1,h2⟩:=this;exact ⟨(there_iff.1 h1).1,(there_iff.1 h1).2,by have:=eq_of_beq h2;omega⟩
def zwF (d:Disk) (hd:DiskOk d) (hf:d.cache.all (putOk d)=true):ACall Tryz.prog 165 0 [diskA d,.d (.bool true),.d (.sl 1 [])] [] (λr _=>r= .d (.str (zfi d.data d.cache))):=by
 refine fbod func165 ntmps165 (λbase=>?_);refine' Ds;have c6:=hd.cache;have gw:=hd.data;refine zk (λq: { q:Nat×Txt // q.1<=d.cache.length/\q.2=zfi d.data (d.cache.take q.1)/\q.2.length=d.data.length } =>⟨[(1,true,.d (.bool true)),(2,true,.d (.sl 1 [])),(3,true,.vp 0 0),(7,true,.osl 1 1 (List.length d.data) 0 (List.length d.data)),(8,true,.d (.int .i64 q.1.1))],[(1,.arr 1 (zh q.1.2)),(0,.var [.d (.str d.data),.d (.sl 2 (d.cache.map putD)),.d (.int .i64 d.fuse),.d (.bool d.off),.d (.sl 1 (d.bad.map intD))])],some []⟩) (λq=>d.cache.length - q.1.1) ⟨(0,d.data),ad _,rfl,rfl⟩ le1 (λq=>?_);refine' F2
 .simp only [putD] at ab;obtain ⟨p1,p2,p3⟩:=zBM hf hq;simp only at p1 p2 p3;refine' CO;refine' EM;refine' zc (zat J ab pq @zsM ji)
  .rw [zh,al];omega
  .exact ⟨⟨(i+1,lay b (m*64).toNat s),fT,gf.symm,gF.trans c8⟩,lew,gh⟩
 .refine' Fl
@[go_sem] def zqE:Ent Tryz.prog 165:= .ofL (consL zC (consL (zav (.d (.bool true))) (consL (zav (.d (.sl 1 []))) nilL))) (λ(d,_,_,_)=>(DiskOk d)/\(d.cache.all (putOk d)=true)) (λ(d,_,_,_)=> .d (.str (zfi d.data d.cache))) (λ(d,_,_,_) hp=>⟨rfl,zwF d hp.1 hp.2⟩)
def zko {d:Disk} :∀ (l:List PutR) (b:Txt),b.length=d.data.length->l.all (putOk d)=true->(zfi b l).length=b.length
 | [],_,_,_=>rfl
 |q::l,b,hb,h=>by
  rw [bq,aq] at h;obtain ⟨h1,h2⟩:=h;rw [putOk,aq] at h1;have h3:=there_iff.1 h1.1;have h4:q.2.length=64:=by have:=eq_of_beq h1.2;omega
  have J:(lay b (q.1*64).toNat q.2).length=b.length:=zqD fT;rw [zfi,cA];exact (zko l _ (J.trans hb) h2).trans J
def zlP {d:Disk} (h:d.cache.all (putOk d)=true):(zfi d.data d.cache).length=d.data.length:=zko (d:=d) _ _ rfl h
def zt7 (d:Disk) (hp:DiskOk d/\d.cache.all (putOk d)=true):AC 91 [diskA d] (.tup [diskA (dflush d).1,.d (.int .i64 (dflush d).2)]):=by
 obtain ⟨J,hf⟩:=hp;refine fbod func91 ntmps91 (λbase=>?_);have hk:DiskOk { d with data:=zfi d.data d.cache,cache:= [] } :=⟨by simp only [zlP hf];exact J.data,fZ,J.bad,J.fuse0,J.fuse1⟩
 refine' walkW fx (za zqE <| za zfj <| zb _);all_goals simp_all [dflush]
@[go_sem] def zbq:Ent Tryz.prog 91:= .m1 zC zt7
def eq_ne {α:Type} {a b:List α} {i:Nat} {q q':α} (J:a[i]?=some q) (fV:b[i]?=some q') (h:q≠q'):a≠b:=by rintro rfl;rw [J] at fV;exact h (Option.some.inj fV)
def zhV {α:Type} {a b:List α} {i:Nat} {q q':α} (J:a[i]?=some q) (fV:b[i]?=some q') (h:q=q') (hf:a.take i=b.take i):a.take (i+1)=b.take (i+1):=by
 rw [zcT J,zcT fV,hf,h]
def zkp {α:Type} {a b:List α} {i:Nat} (hi:i=a.length) (J:a.length=b.length) (hf:a.take i=b.take i):a=b:=by subst hi;rwa [zf0,J,zf0] at hf
abbrev Eqst {α:Type} (a b:List α):= { i:Nat // i<=a.length/\a.take i=b.take i }
def zwG (a b:Disk) (hp:DiskOk a/\DiskOk b):AC 48 [diskA a,diskA b] (.d (.bool (decide (a=b)))):=by
 obtain ⟨ha,hb⟩:=hp;refine bod func48 ntmps48 (λbase=>?_);refine' Ds
 .have:a≠b:=by rintro rfl;simp at hc
  rw [ag this]
 have By:=ha.cache;have iP:=ha.bad
 obtain ⟨h1,h2,h3,h4,h5⟩:a.data=b.data/\a.cache.length=b.cache.length/\a.fuse=b.fuse/\a.off=b.off/\a.bad.length=b.bad.length:=by simp only [bn,bJ,Int.natCast_inj] at hc;exact ⟨hc.1.1.1.1,hc.1.1.1.2,hc.1.1.2,hc.1.2,hc.2⟩
 refine zk (λq:Eqst a.cache b.cache=>⟨[(2,true,.vp 0 0),(3,true,.vp 1 0),(5,true,.d (.int .i64 q.1))],[(1,(.var [.d (.str b.data),.d (.sl 2 (b.cache.map putD)),.d (.int .i64 b.fuse),.d (.bool b.off),.d (.sl 1 (b.bad.map intD))])),(0,(.var [.d (.str a.data),.d (.sl 2 (a.cache.map putD)),.d (.int .i64 a.fuse),.d (.bool a.off),.d (.sl 1 (a.bad.map intD))]))],some []⟩) (λq=>a.cache.length - q.1) ⟨0,ad _,rfl⟩ le1 (λq=>?_);refine' Di;rcases zw putD a.cache i hi with ⟨⟨m,s⟩,hq,a6,J,ab,b4,a7⟩|⟨ao,J⟩
 .obtain ⟨⟨m',s'⟩,fV⟩:=zaD (l:=b.cache) (i:=i) fT;have ij:=zbB (g:=putD) fV;simp only [putD] at ab ij;refine' CO;refine' zc (zp J ab ij)
  .have:a≠b:=by rintro rfl;refine eq_ne hq fV ?_ rfl;intro h;cases h;simp at hc
   rw [ag this]
  .have hc:m=m'/\s=s':=by simpa using hc
   exact ⟨⟨i+1,fT,zhV hq fV (by rw [hc.1,hc.2]) hf⟩,lew,gh⟩
 .have pr:=zkp ao h2 hf;refine' zc J;refine zk (λq:Eqst a.bad b.bad=>⟨[(2,true,.vp 0 0),(3,true,.vp 1 0),(6,true,.d (.int .i64 q.1))],[(1,(.var [.d (.str b.data),.d (.sl 2 (b.cache.map putD)),.d (.int .i64 b.fuse),.d (.bool b.off),.d (.sl 1 (b.bad.map intD))])),(0,(.var [.d (.str a.data),.d (.sl 2 (a.cache.map putD)),.d (.int .i64 a.fuse),.d (.bool a.off),.d (.sl 1 (a.bad.map intD))]))],some []⟩) (λq=>a.bad.length - q.1) ⟨0,ad _,rfl⟩ le1 (λq=>?_);refine' GO;rcases zw intD a.bad j hj with ⟨m,hq,a6,J,ab,b4,a7⟩|⟨ao,J⟩
  .obtain ⟨m',fV⟩:=zaD (l:=b.bad) (i:=j) fT;have ij:=zbB (g:=intD) fV;simp only [intD] at ab ij;have hwi:=zo (i:=j) fT;refine' zc (zp J ab ij)
   .have:a≠b:=by rintro rfl;refine eq_ne hq fV ?_ rfl;intro h;cases h;simp at hc
    rw [ag this]
   .have lQ:m=m':=by simpa using hc
    exact ⟨⟨j+1,fT,zhV hq fV lQ hg⟩,lew,gh⟩
  .have xl:=zkp ao h5 hg;refine' zc J
   have:a=b:=by rw [<-zm0 a,<-zm0 b,h1,pr,h3,h4,xl]
   rw [af this]
@[go_sem] def zqF:Ent Tryz.prog 48:= .m2 zC zC zwG
def zwH {n:Nat} :((n:Int).tmod 64 !=0)= !(n % 64==0):=by
 rw [bX fT];by_cases h:n % 64=0
 .have:(n:Int) % 64=0:=by omega
  simp [h,this]
 .have:¬(n:Int) % 64=0:=by omega
  rw [bne,beq_eq_false_iff_ne.mpr this,beq_eq_false_iff_ne.mpr h]
def zBN {x:Bool} {n m:Int} :(!x||(n !=m))= !(x&&(n==m)):=by
 rw [cg];rfl
def or_le {x:Bool} {n m:Int} :(!x||decide (n<=m))= !(x&&decide (m<n)):=by
 rw [cg];congr 1;by_cases h:m<n
 .rw [af h,ag fT];rfl
 .rw [ag h,af fT];rfl
def zzA (d:Disk) (hd:DiskOk d):AC 81 [diskA d] (.d (.bool (dfit d))):=by
 refine bod func81 ntmps81 (fun base=>?_)
 refine' walkW fx (za zbM <| za zcv <| zb _)
 ·rw [zwH] at hc
  rw [dfit]
  simp only [aH,ax,bI] at hc
  congr 2
  rcases hc with ((hc|hc)|hc)|hc
  ·rw [ag (p:=1≤dsize d) fT];simp
  ·rw [ag (p:=dsize d≤1024) fT];simp
  ·rw [hc];simp
  ·rw [ag (p:=d.cache.length≤4096) fT];simp
 have hcl:=hd.cache
 have hbl:=hd.bad
 rw [zwH] at hc
 simp only [bn,bG,bK] at hc
 have hfit:dfit d=(d.cache.all (putOk d)&&zd8 d d.bad none):=by
  rw [dfit,hc.1.2,af (p:=1≤dsize d) fT,af (p:=dsize d≤1024) fT,af (p:=d.cache.length≤4096) fT]
  simp
 refine zk (fun q: { i:Nat // i≤d.cache.length∧d.cache.all (putOk d)=(d.cache.drop i).all (putOk d) } =>⟨[(1,true,.vp 0 0),(4,true,.d (.int .i64 q.1))],[(0,(.var [.d (.str d.data),.d (.sl 2 (d.cache.map putD)),.d (.int .i64 d.fuse),.d (.bool d.off),.d (.sl 1 (d.bad.map intD))]))],some []⟩) (fun q=>d.cache.length - q.1) ⟨0,ad _,rfl⟩ le1 (fun q=>?_)
 refine' Di
 rcases zw putD d.cache i hi with ⟨⟨m,s⟩,hq,hlt,hcmp,hrow,hdr,htk⟩|⟨hend,hcmp⟩
 ·simp only [putD] at hrow
  refine' CO
  rw [hdr,bq,putOk] at hf
  refine' walkW (zg hcmp hrow) (za zbM <| za zcv <| zb _)
  ·have hc:(there d m&&((s.length:Int)==64))=false:=by rw [zBN] at hc;simp only [bI,bK] at hc;exact hc
   rw [hfit,hf]
   simp only [hc,cD]
  ·have hc:(there d m&&((s.length:Int)==64))=true:=by rw [zBN] at hc;simp only [bI,bK] at hc;exact hc
   exact ⟨⟨i+1,fT,by rw [hf];simp only [hc,bU]⟩,lew,gh⟩
 ·rw [hend,aP] at hf
  refine' zc hcmp
  refine zk (fun q: { i:Nat // i≤d.bad.length∧zd8 d d.bad none=zd8 d (d.bad.drop i) (if i=0 then none else d.bad[i - 1]?) } =>⟨[(1,true,.vp 0 0),(5,true,.d (.int .i64 q.1))],[(0,(.var [.d (.str d.data),.d (.sl 2 (d.cache.map putD)),.d (.int .i64 d.fuse),.d (.bool d.off),.d (.sl 1 (d.bad.map intD))]))],some []⟩) (fun q=>d.bad.length - q.1) ⟨0,ad _,rfl⟩ le1 (fun q=>?_)
  refine' GO
  rcases zw intD d.bad j hj with ⟨m,hq,hlt,hcmp,hrow,hdr,htk⟩|⟨hend,hcmp⟩
  ·simp only [intD] at hrow
   have hwi:=zo (i:=j) fT
   rw [hdr] at hg
   cases j with
   | zero=>
    have hz:decide ((0:Int)<((0:Nat):Int))=false:=gb
    simp only [aa,zd8,cR] at hg
    have hcmp0:decide ((0:Int)<(d.bad.length:Int))=true:=hcmp
    refine' walkW (zp hcmp0 hrow hz) (za zbM <| za zcv <| zb _)
    ·have hc:there d m=false:=by simpa using hc
     rw [hfit,hg,hc,cD,eb]
    ·have hc:there d m=true:=by simpa using hc
     rw [hc,bU] at hg
     exact ⟨⟨0+1,fT,by rw [U fT,bL,cu,hq];exact hg⟩,lev,gh⟩
   | succ j=>
    have hz:decide ((0:Int)<((j+1:Nat):Int))=true:=af fT
    obtain ⟨m',hq'⟩:=zaD (l:=d.bad) (i:=j) fT
    have hrow':=zbB (g:=intD) hq'
    simp only [intD] at hrow'
    have hwj:IntKind.i64.wrap (((j+1:Nat):Int) - 1)=(j:Int):=gP
    rw [U fT,fk,hq'] at hg
    simp only [zd8] at hg
    refine' walkW (zat hcmp hrow hz hrow' hwj) (za zbM <| za zcv <| zb _)
    ·have hc:(there d m&&decide (m'<m))=false:=by rw [or_le] at hc;simp only [bI,bK] at hc;exact hc
     rw [hfit,hg,hc,cD,eb]
    ·have hc:(there d m&&decide (m'<m))=true:=by rw [or_le] at hc;simp only [bI,bK] at hc;exact hc
     rw [hc,bU] at hg
     exact ⟨⟨j+1+1,fT,by rw [U fT,fk,hq];exact hg⟩,lew,gh⟩
  ·rw [hend,aP] at hg
   refine' zc hcmp
   rw [hfit,hf,hg]
   rfl
@[go_sem] def zhf:Ent Tryz.prog 81:= .m1 zC zzA
def dburn (d:Disk):Disk×Bool:=if d.fuse=0 then ({ d with off:=true },false) else (burnt d,true)
def zCq (d:Disk) (J:DiskOk d):AC 379 [diskA d] (.tup [diskA (dburn d).1,.d (.bool (dburn d).2)]):=by
 refine fbod func379 ntmps379 (λbase=>?_);have h1:=J.fuse1;have hw:0<d.fuse->IntKind.i64.wrap (d.fuse - 1)=d.fuse - 1:=λh=>zf fT fT;refine' Ds;all_goals by_cases h0:d.fuse=0
 all_goals by_cases h2:0<d.fuse
 all_goals simp_all [dburn,burnt]
 all_goals simp only [U (show ¬0<d.fuse by omega)]
 all_goals simp
@[go_sem] def zoC:Ent Tryz.prog 379:= .m1 zC zCq
def zln (l:List PutR) (fl:Nat) (J:l.length<=5000):ACall Tryz.prog 436 fl [.d (.sl 2 (l.map putD))] [] (λr h'=>r= .osl fl 2 l.length 0 l.length/\h'= [(fl,.arr 2 (l.map putD))]):=by
 refine bod func436 ntmps436 (λbase=>?_);refine' Ii
 .refine' Cw;refine zaI 2 2 rfl ?_;refine' FR;refine' Ds;all_goals rfl
def zqH (d:Disk) (at_:Int) (s:Txt) (hd:DiskOk d):AC 403 [diskA d,.d (.int .i64 at_),.d (.str s)] (.tup [diskA (zab d at_ s).1,.d (.int .i64 (zab d at_ s).2)]):=by
 refine fbod func403 ntmps403 (λbase=>?_);have h1:=hd.bad;refine' zfh (zL 14) fx (za zm2 <| za zer <| za zoC <| zb _);all_goals first|(simp_all [zab];done)|(by_cases h0:d.fuse=0<;>simp_all [zab,dburn];done)|skip
 have hl:d.cache.length<=5000:=by simp_all;omega
 refine' Ds;refine ((zln d.cache 3 hl).own rfl rfl (ad _) va).mono ?_;rintro r h' ⟨h1,⟨rfl,rfl⟩,rfl⟩;refine' Cl;refine ⟨fT,fT,?_⟩;refine' Ds;have J:d.cache.map putD++ [[.int .i64 at_,.str s]]=(d.cache++ [(at_,s)]).map putD:=by simp [putD]
 rw [J,aa fZ,aA fZ];clear J;by_cases h0:d.fuse=0
 .simp_all [dburn]
 by_cases h6:4096<=(d.cache.length:Int)
 .exfalso;simp_all
 by_cases h2:0<d.fuse
 .simp only [zab,dburn,burnt,U h6,U h0,aa h2];simp_all
 .simp only [zab,dburn,burnt,U h6,U h0,U h2];simp_all
@[go_sem] def zy:Ent Tryz.prog 403:= .m3 zC (intT .i64) strT zqH
def zoD (n:Int) (_:True):AC 381 [.d (.int .i64 n)] (.d (.bool true)):=by refine bod func381 ntmps381 (λbase=>?_);refine' Ds
@[go_sem] def zhx:Ent Tryz.prog 381:= .m1 (intT .i64) zoD
def zt8 (d:Disk) (hd:DiskOk d) (hf:d.cache.all (putOk d)=true):ACall Tryz.prog 380 0 [diskA d,.fn (.func 381) [] []] [] (λr _=>r= .d (.str (zfi d.data d.cache))):=by
 refine fbod func380 ntmps380 (λbase=>?_);refine' walkW fx (za zhx <| zb _);have c6:=hd.cache;have gw:=hd.data;refine zk (λq: { q:Nat×Txt // q.1<=d.cache.length/\q.2=zfi d.data (d.cache.take q.1)/\q.2.length=d.data.length } =>⟨[(1,true,.fn (.func 381) [] []),(5,true,.osl 1 1 (List.length d.data) 0 (List.length d.data)),(12,true,.d (.sl 2 (d.cache.map putD))),(13,true,.d (.int .i64 d.cache.length)),(14,true,.d (.int .i64 q.1.1))],[(1,.arr 1 (zh q.1.2)),(0,(.var [.d (.str d.data),.d (.sl 2 (d.cache.map putD)),.d (.int .i64 d.fuse),.d (.bool d.off),.d (.sl 1 (d.bad.map intD))]))],some []⟩) (λq=>d.cache.length - q.1.1) ⟨(0,d.data),ad _,rfl,rfl⟩ le1 (λq=>?_);refine' F2
 .simp only [putD] at ab;obtain ⟨p1,p2,p3⟩:=zBM hf hq;simp only at p1 p2 p3;refine' CO;refine' EM;refine' walkW (zat J ab pq @zsM ji) (za zhx <| zb _)
  .rw [zh,al];omega
  .exact ⟨⟨(i+1,lay b (m*64).toNat s),fT,gf.symm,gF.trans c8⟩,lew,gh⟩
 .refine' Fl
@[go_sem] def zoE:Ent Tryz.prog 380:= .ofL (consL zC (consL (fnT 381 nilL) nilL)) (λ(d,_,_)=>(DiskOk d)/\(d.cache.all (putOk d)=true)) (λ(d,_,_)=> .d (.str (zfi d.data d.cache))) (λ(d,_,_) hp=>⟨rfl,zt8 d hp.1 hp.2⟩)
def zqI (d:Disk) (hp:DiskOk d/\d.cache.all (putOk d)=true):AC 330 [diskA d] (.tup [diskA (dflush d).1,.d (.int .i64 (dflush d).2)]):=by
 obtain ⟨J,hf⟩:=hp;refine fbod func330 ntmps330 (λbase=>?_);refine' walkW fx (za zoC <| za zoE <| zb _);all_goals first|(simp_all [dflush];done)|skip
 all_goals by_cases h0:d.fuse=0
 all_goals by_cases h2:0<d.fuse
 all_goals simp_all [dflush,dburn,burnt]
 all_goals simp only [U (show ¬0<d.fuse by omega)]
 all_goals simp [*]
@[go_sem] def zbH:Ent Tryz.prog 330:= .m1 zC zqI
def zrg (n:Int) (hp:0<=n/\n<=1000000):AC 288 [.d (.int .i64 n)] (.d (.str (List.replicate n.toNat 0))):=by
 refine' EP;refine fbod func288 ntmps288 (λbase=>?_);refine' zc (zB @zdQ @zgK @zic @if_true.{1})
 .exact za5 _
 all_goals first|rfl|simp only [zao]
@[go_sem] def zih:Ent Tryz.prog 288:= .m1 (intT .i64) zrg
end
end Go.Aw
