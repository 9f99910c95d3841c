/- Lemmas. -/
import Derived.Test.YtgldbfelccddbaaGreatApa21
import Derived.Test.YtgldbfelccddbaaGreatApa22
set_option linter.all false
set_option maxRecDepth 100000
set_option maxHeartbeats 2000000
namespace Go.Aw
noncomputable section
open Go Go.Proofs Go.Proofs.Tryz
def DP.wget {d:Disk} {s:Wk} (h:DP d s.q) (t i:Int):DP d (wget d s t i).2.q:=by
 unfold Aw.wget;split<;>exact h
def zs7 (d:Disk) (s:Wk) (y:Ent2):Wk:=if y.kind=1 then wcount d s y.loc (-1) else s
def zlX (d:Disk) (s:Wk) (k i:Int) (x:Ent2):Wk:=wset d (zs7 d (wget d s k i).2 (wget d s k i).1) k i x
def zxv {d:Disk} {p q:Plan} {k i:Int} {x:Ent2} :(if (zlX d ⟨q,0⟩ k i x).e≠0 then (p,(zlX d ⟨q,0⟩ k i x).e) else ((zlX d ⟨q,0⟩ k i x).q,0))=ziT d p q k i x:=by
 by_cases h1:(eget d q k i).2=0<;>by_cases h2:(eget d q k i).1.kind=1;all_goals simp only [zlX,zs7,wget,ziT,wcount,wset,h1,h2,ne_eq,dJ,dG,av,aK,ite_true,ite_false,implies_true,true_implies,bA]
 all_goals (repeat' split)<;>simp_all
def zAn (d:Disk) (p:Plan) (g:Geom) (k:Int) (x:Ent2) (hp:DP d p/\g.host<=1000000/\g.guest<=1000000):AC 326 [diskA d,planA p,geomA g,.d (.int .i64 k),entA x] (.tup [planA (ppoint d p g k x).1,.d (.int .i64 (ppoint d p g k x).2)]):=by
 obtain ⟨h,hg,rf⟩:=hp;refine bod func326 ntmps326 (λbase=>?_);refine' Ds;refine ((zD3 g d p k h hg rf).one (fl':=0) rfl rfl (zV rfl) rfl j6 lq fT).mono ?_;rintro r h' ⟨aZ,⟨t,s,rfl,rfl,he,hs,hd⟩,rfl⟩;have qx:ppoint d p g k x=if s.e≠0 then (p,s.e) else ziT d p (pown d p g k).1 (pown d p g k).2.1 (k % 16) x:=by rw [ppoint,<-he]
 refine' Cl;by_cases mD:s.e=0
 .obtain ⟨hq,rfl⟩:=hs mD
  have gk:0<=k/\k<g.guest:=by
   rw [mD] at he;unfold pown at he;by_cases hk:k<0\/g.guest<=k
   .rw [aa hk] at he;cases he
   .omega
  have a6:k.tmod 16=k % 16:=bX fT;rw [U fT,<-hq] at qx;obtain ⟨t,ht⟩:∃t,t=(pown d p g k).2.1:=⟨_,rfl⟩
  rw [<-ht] at qx |-;simp only [mD];refine' zc a6;refine ((zBS g d ⟨s.q,0⟩ t (k % 16) hd).one (fl':=0) rfl rfl (zV rfl) rfl j6 lq fT).mono ?_;refine' Gx;refine' Cl;obtain ⟨G,hG⟩:∃G,G=wget d ⟨s.q,0⟩ t (k % 16):=⟨_,rfl⟩
  have tA:DP d G.2.q:=by rw [hG];exact DP.wget (s:=⟨s.q,0⟩) hd _ _
  rw [<-hG];have k6:∀S,S=zlX d ⟨s.q,0⟩ t (k % 16) x->ppoint d p g k x=if S.e≠0 then (p,S.e) else (S.q,0):=λS hS=>by rw [qx,hS,zxv]
  rw [zlX,<-hG] at k6;by_cases gx:G.1.kind=1
  .rw [zs7,aa gx] at k6;refine' zc (zg a6 gx);refine ((zs3 g d G.2 G.1.loc (-1) tA).one (fl':=0) rfl rfl (zV rfl) rfl j6 lq fT).mono ?_;refine' Gx;refine' Cl;refine' zc a6;refine ((zs4 g d (wcount d G.2 G.1.loc (-1)) t (k % 16) x (tA.wcount _ _)).one (fl':=0) rfl rfl (zV rfl) rfl j6 lq fT).mono ?_;refine' Gx;refine' Cl;obtain ⟨S,hS⟩:∃S,S=wset d (wcount d G.2 G.1.loc (-1)) t (k % 16) x:=⟨_,rfl⟩
   have k6:=k6 S hS;rw [<-hS];by_cases kl:S.e=0
   .have J:(S.e !=0)=false:=by simpa using kl
    refine' zc J;all_goals rw [k6,U fT]
   .have J:(S.e !=0)=true:=by simpa using kl
    refine' zc J;all_goals rw [k6,aa kl]
  .rw [zs7,U gx] at k6;have mY:(G.1.kind==1)=false:=by simpa using gx
   refine' zc (zg a6 mY);refine ((zs4 g d G.2 t (k % 16) x tA).one (fl':=0) rfl rfl (zV rfl) rfl j6 lq fT).mono ?_;refine' Gx;refine' Cl;obtain ⟨S,hS⟩:∃S,S=wset d G.2 t (k % 16) x:=⟨_,rfl⟩
   have k6:=k6 S hS;rw [<-hS];by_cases kl:S.e=0
   .have J:(S.e !=0)=false:=by simpa using kl
    refine' zc J;all_goals rw [k6,U fT]
   .have J:(S.e !=0)=true:=by simpa using kl
    refine' zc J;all_goals rw [k6,aa kl]
 .have J:(s.e !=0)=true:=by simpa using mD
  rw [aa mD] at qx;refine' zc J;rw [qx]
@[go_sem] def zag:Ent Tryz.prog 326:= .m5 zC z7 zet (intT .i64) zhA zAn
def zrf {d:Disk} {j:Jour} {p:Plan} (h:(jcommit d j p).2.2≠0):(jcommit d j p).2.1=j:=by
 unfold jcommit jtail at h |-;repeat' split at h
 all_goals simp_all
 all_goals rw [U fT]
def zuL (x:Img) (p:Plan) (hp:ImgOk x/\DiskF x.disk/\pfit p=true/\0<=x.jour.seq/\x.jour.seq<18446744073709551616):AC 327 [imgA x,planA p] (.tup [imgA (cdone x p).1,.d (.int .i64 (cdone x p).2)]):=by
 obtain ⟨h,hd,hf,h0,h1⟩:=hp;refine fbod func327 ntmps327 (λbase=>?_);refine' walkW fx (za znk <| zb _);by_cases he:(jcommit x.disk x.jour p).2.2=0
 .have J:((jcommit x.disk x.jour p).2.2 !=0)=false:=by rw [he];rfl
  rw [cdone,U fT,J,he,Bool.or_false]
 .have J:((jcommit x.disk x.jour p).2.2 !=0)=true:=by simpa using he
  rw [cdone,aa he,J,Bool.or_true,zrf he]
@[go_sem] def zO:Ent Tryz.prog 327:= .m2 za9 z7 zuL
def zkK (l:List Dmap) (fl:Nat) (J:l.length<=5000):ACall Tryz.prog 364 fl [.d (.sl 66 (l.map dmapD))] [] (λr h'=>r= .osl fl 66 l.length 0 l.length/\h'= [(fl,.arr 66 (l.map dmapD))]):=by
 refine bod func364 ntmps364 (λbase=>?_);refine' Ii
 .refine' Cw;refine zaI 2 66 rfl ?_;refine' FR;refine' Ds;all_goals rfl
def zuM (x:Img) (guest:Int) (hp:ImgOk x/\x.maps.length<=5000):AC 315 [imgA x,.d (.int .i64 guest)] (imgA (cmark x guest)):=by
 obtain ⟨h,h2⟩:=hp;refine fbod func315 ntmps315 (λbase=>?_);by_cases hg:guest<0\/64<=guest
 .have J:(decide (0<=guest)&&decide (guest<64))=false:=by rw [ee,bG,bG];omega
  refine' zc J;rw [cmark,aa hg]
 .have J:(decide (0<=guest)&&decide (guest<64))=true:=by rw [aq,ax,ax];omega
  refine' IW;refine ((zkK x.maps 2 h2).own rfl rfl (ad _) va).mono ?_;rintro r h' ⟨h1,⟨rfl,rfl⟩,rfl⟩;refine' Cl;refine' Ds;refine zk (λq: { i:Nat // i<=x.maps.length } =>⟨[(1,true,.d (.int .i64 g)),(2,true,.vp 0 0),(4,true,.vp 1 0),(18,true,.d (.int .i64 x.maps.length)),(19,true,.d (.int .i64 q.1))],[(2,.arr 66 (((x.maps.take q.1).map (mset g)++x.maps.drop q.1).map dmapD)),(1,.var img0),(0,.var [.d (.str x.disk.data),.d (.sl 2 (x.disk.cache.map putD)),.d (.int .i64 x.disk.fuse),.d (.bool x.disk.off),.d (.sl 1 (x.disk.bad.map intD)),.d (.int .i64 x.geom.guest),.d (.int .i64 x.geom.host),.d (.int .u64 x.jour.seq),.d (.int .i64 x.jour.pos),.osl 2 66 x.maps.length 0 x.maps.length,.d (.bool x.broken)])],some []⟩) (λq=>x.maps.length - q.1) ⟨0,ad _⟩ le1 (λq=>?_);refine' Ha;rcases aO i x.maps.length with ao|gU
  .obtain ⟨m,hq⟩:=zaD ao;have ab:decide ((i:Int)<(x.maps.length:Int))=true:=af fT;refine' CO;refine' EV
   have hset:((x.maps.take i).map (mset g)++x.maps.drop i).set i (mset g m)=(x.maps.take (i+1)).map (mset g)++x.maps.drop (i+1):=by rw [fI,U fT,oC,cu,zdO hq,zcT hq,aG,aY];rfl
   refine' zc (zp ab hL an)
   have m9:(((x.maps.take i).map (mset g)++x.maps.drop i).map dmapD).set i ((dmapD m).set (2+g*1) (.bool true))=((x.maps.take (i+1)).map (mset g)++x.maps.drop (i+1)).map dmapD:=by rw [cF,zs9,<-cK,hset]
   exact ⟨⟨i+1,fT⟩,lxb (lan hwi m9),gh⟩
  .refine' FM
@[go_sem] def zb0:Ent Tryz.prog 315:= .m2 za9 (intT .i64) zuM
def sectI (k:Int):List (Int×Int):= [(96+2*k,0),(96+2*k+1,64)]
def zaX (q:Int×Int):List AV:= [.d (.int .i64 q.1),.d (.int .i64 q.2)]
abbrev Scst (k:Int):= { q:Nat×List (List AV) // q.1<=2/\q.2++((sectI k).drop q.1).map zaX=(sectI k).map zaX }
def zhX (fl:Nat) (k:Int) (h0:0<=k) (h1:k<=1000):AIter Tryz.prog 359 fl [] [.dp [.d (.int .i64 k)]] [] ((sectI k).map zaX) (λg h'=>(∀xs,g=some xs->xs=(sectI k).map zaX)/\h'= []):=by
 refine itr func359 ntmps359 (λbase y=>?_);refine' zaQ fx;refine zk (λq:Scst k=>⟨[(0,true,.fn (.yield y.yl) [] []),(1,true,.dp [.d (.int .i64 k)]),(4,true,.d (.int .i64 q.1.1))],[],some q.1.2⟩) (λq=>2 - q.1.1) ⟨(0,[]),ad _,rfl⟩ le1 (λq=>?_);obtain ⟨⟨i,xs⟩,hi,J⟩:=q;simp only at hi J |-;have an:((0:Nat):Int)=0:=rfl;refine' FD;refine' ES;have oH:IntKind.i64.wrap 64=64:=gb;have tn:IntKind.i64.wrap 0=0:=gb;have fW:IntKind.i64.wrap (96+2*k+0)=96+2*k:=yM;have tq:IntKind.i64.wrap (96+2*k+1)=96+2*k+1:=zf fT fT;have h3:i=0\/i=1\/i=2:=fT;rcases h3 with rfl|rfl|rfl
 .have bu:(xs++ [zaX (96+2*k,0)])<+:(sectI k).map zaX:=by rw [<-J];exact ⟨[zaX (96+2*k+1,64)],by simp [sectI]⟩
  simp only [zaX] at bu;refine' walkX (zB an ab tn fW) (za zde <| zb _);exact ⟨⟨(1,xs++ [zaX (96+2*k,0)]),by show (1:Nat)<=2;omega,by rw [<-J];simp [sectI]⟩,lxb @zaX.eq_1,fZ⟩
 .have bu:(xs++ [zaX (96+2*k+1,64)])<+:(sectI k).map zaX:=by rw [<-J];exact ⟨[],by simp [sectI]⟩
  simp only [zaX] at bu;refine' walkX (zB bo a6 oH tq) (za zde <| zb _);exact ⟨⟨(2,xs++ [zaX (96+2*k+1,64)]),by show (2:Nat)<=2;omega,by rw [<-J];simp [sectI]⟩,lxb @zaX.eq_1,fZ⟩
 .refine' walkX fY (za zde <| zb _);rintro zs rfl;simpa [sectI] using J
def zuN (k:Int) (_:True):AC 313 [.d (.int .i64 k)] (.fn (.func 359) [] [.dp [.d (.int .i64 k)]]):=by refine fbod func313 ntmps313 (λbase=>?_);refine' Ds
@[go_sem] def zM:Ent Tryz.prog 313:= .m1 (intT .i64) zuN
def rdA (d:Disk) (k:Int):Nat->Txt
 |0=> []
 |1=>(dread d (96+2*k)).1
 |_=>(dread d (96+2*k)).1++(dread d (96+2*k+1)).1
@[go_sem] def rdA_0 (d:Disk) (k:Int):rdA d k 0= []:=rfl
def rdG (d:Disk) (k:Int):Nat->Prop
 |0=>True
 |1=>(dread d (96+2*k)).2=0
 |_=>(dread d (96+2*k)).2=0/\(dread d (96+2*k+1)).2=0
def ziU {k:Int} {ys zs:List (Int×Int)} {q:Int×Int} (h:sectI k=ys++q::zs):(ys= []/\q=(96+2*k,0))\/(ys= [(96+2*k,0)]/\q=(96+2*k+1,64)):=by
 match ys,h with
 | [],h=>simp only [sectI,bh,aX] at h;exact .inl ⟨rfl,h.1.symm⟩
 | [a],h=>simp only [sectI,bf,bh,aX] at h;exact .inr ⟨by rw [h.1],h.2.1.symm⟩
 |a::b::r,h=>
  exfalso;have:=congrArg List.length h;simp [sectI] at this
def zuO (d:Disk) (l1 guest:Int) (h:DiskF d):AC 251 [diskA d,.d (.int .i64 l1),.d (.int .i64 guest)] (.tup [.d (.str (cread d l1 guest).1),.d (.int .i64 (cread d l1 guest).2)]):=by
 refine fbod func251 ntmps251 (λbase=>?_);refine' GZ;refine' walkR fx (za zN <| za zaz <| za zM <| za zG <| zb _)
 .rw [cread,aa (bneP hc)]
 .rename_i an;rw [cread,U (bneN an),U (bneP hc)];rfl
 rename_i an;have mE:(elook d p0 l1 guest).1.kind=1:=cN (λh=>bneN hc h);have pO:cread d l1 guest=zdb d (elook d p0 l1 guest).1.loc:=by rw [cread,U (bneN an),aa mE]
 have oG:=hostOk_iff.1 (gx mE)
 have c6:zdb d (elook d p0 l1 guest).1.loc=if (dread d (96+2*(elook d p0 l1 guest).1.loc)).2≠0 then ([],(dread d (96+2*(elook d p0 l1 guest).1.loc)).2) else if (dread d (96+2*(elook d p0 l1 guest).1.loc+1)).2≠0 then ([],(dread d (96+2*(elook d p0 l1 guest).1.loc+1)).2)
   else ((dread d (96+2*(elook d p0 l1 guest).1.loc)).1++(dread d (96+2*(elook d p0 l1 guest).1.loc+1)).1,0):=rfl
 rw [c6] at pO;clear c6 an hc;revert mE oG pO;generalize (elook d p0 l1 guest).1.loc=k;intro mE c6 oG;have ni:=h.ok;have jv:=zeZ (at_:=96+2*k) h.puts;have js:=zeZ (at_:=96+2*k+1) h.puts;obtain ⟨I,hI⟩:∃I:List (List AV)->AHeap×Option (List (List AV)),I=λxs=>([(4,.var [.d (.str (rdA d k xs.length))]),(2,.var [.d (.int .i64 0)]),(1,.var [.d (.str [])]),(0,(.var [.d (.str d.data),.d (.sl 2 (d.cache.map putD)),.d (.int .i64 d.fuse),.d (.bool d.off),.d (.sl 1 (d.bad.map intD))]))],some []):=⟨_,rfl⟩
 obtain ⟨G,hG⟩:∃G:List (List AV)->Prop,G=λxs=>rdG d k xs.length:=⟨_,rfl⟩
 obtain ⟨J,hJ⟩:∃J:Code->AHeap->Option (List (List AV))->Prop,J=λc h g=>c= .ret/\g=some []/\∃t e,cread d l1 guest=([],e)/\h= [(4,.var [.d (.str t)]),(2,.var [.d (.int .i64 e)]),(1,.var [.d (.str [])]),(0,(.var [.d (.str d.data),.d (.sl 2 (d.cache.map putD)),.d (.int .i64 d.fuse),.d (.bool d.off),.d (.sl 1 (d.bad.map intD))]))]:=⟨_,rfl⟩
 refine aw_le ⟨[(3,true,.vp 0 0),(6,true,.vp 1 0),(7,true,.vp 2 0),(10,true,.vp 4 0),(33,true,.fn (.func 359) [] [.dp [.d (.int .i64 k)]])],[(4,.var [.d (.str [])]),(2,.var [.d (.int .i64 0)]),(1,.var [.d (.str [])]),(0,(.var [.d (.str d.data),.d (.sl 2 (d.cache.map putD)),.d (.int .i64 d.fuse),.d (.bool d.off),.d (.sl 1 (d.bad.map intD))]))],some []⟩ le0 ?_;refine zbU 100 G I J (zhX 100 k fT fT) jf rfl (zV rfl) ju rfl jh iV iW jE iK ja ?_ ?_ ?_
 .intro xs x bu ab l1 r1;obtain ⟨ys,q,zs,kb,rfl,iR⟩:=zes bu;have jl:xs.length=ys.length:=tD;rw [hG] at ab;rcases ziU iR with ⟨rfl,rfl⟩|⟨rfl,rfl⟩
  .have ki:xs= []:=by simpa using kb
   subst ki;simp only [zaX];refine aw_le ⟨[(34,true,.d (.int .i64 (96+2*k))),(3,true,.vp 0 0),(6,true,.vp 1 0),(7,true,.vp 2 0),(10,true,.vp 4 0)],[(4,.var [.d (.str [])]),(2,.var [.d (.int .i64 0)]),(1,.var [.d (.str [])]),(0,(.var [.d (.str d.data),.d (.sl 2 (d.cache.map putD)),.d (.int .i64 d.fuse),.d (.bool d.off),.d (.sl 1 (d.bad.map intD))]))],some []⟩ x8 ?_;refine' De
   .rw [hJ];exact ⟨rfl,rfl,_,_,by rw [c6,aa (bneP hc)],rfl⟩
   .rw [hG];exact cN (bneN hc)
  .have mB:xs= [zaX (96+2*k,0)]:=by simpa using kb
   subst mB;simp only [zaX];refine aw_le ⟨[(34,true,.d (.int .i64 (96+2*k+1))),(3,true,.vp 0 0),(6,true,.vp 1 0),(7,true,.vp 2 0),(10,true,.vp 4 0)],[(4,.var [.d (.str (dread d (96+2*k)).1)]),(2,.var [.d (.int .i64 0)]),(1,.var [.d (.str [])]),(0,(.var [.d (.str d.data),.d (.sl 2 (d.cache.map putD)),.d (.int .i64 d.fuse),.d (.bool d.off),.d (.sl 1 (d.bad.map intD))]))],some []⟩ x8 ?_;have h0:(dread d (96+2*k)).2=0:=ab;refine' De
   .rw [hJ];exact ⟨rfl,rfl,_,_,by rw [c6,U fT,aa (bneP hc)],rfl⟩
   .rw [hG];exact ⟨h0,cN (bneN hc)⟩
 .intro ab;rw [hG] at ab;have ab:(dread d (96+2*k)).2=0/\(dread d (96+2*k+1)).2=0:=ab;rw [hI]
  (have tk:=za zN <| za zaz <| za zM <| za zG <| zb Tryz.prog);repeat' (first|((first|(refine sa ?_;intro K hK)|refine sb ?_);simp only [go_sem,aeq,aeq.aeqF,simprocAttr,sectI,rdA,results251])|refine zaC (λK hK=>?_)|refine sc ?_|refine za1 rfl (λhc=>?_) (λhc=>?_)|(refine hK _ ?_;clear hK K)|((first|refine (show AS.le _ _ from ?_)|refine (show leH _ _ from ?_)|refine (show inH _ _ from ?_));simp only [AS.le,leT,leH,ze,AsgK,AV.le,AV.leL,AObj.le,inH,idsT,idsH,AV.ids,AV.idsL,AV.idsR,AObj.ids,lk,hget,go_sem,aeq,aeq.aeqF,simprocAttr,sectI,rdA])|refine λ(r2:Rnd _)=>?_|with_reducible refine And.intro ?_ ?_|exact ‹_<+:_› |omega|assumption|clear hK K)
  rw [c6,U fT,U fT]
 .rw [hJ];rintro c h3 g3 ⟨rfl,rfl,t,e,he,rfl⟩;refine' walkR fx (za zN <| za zaz <| za zM <| za zG <| zb _);rw [he]
@[go_sem] def zP:Ent Tryz.prog 251:= .m3 zC (intT .i64) (intT .i64) zuO
@[simp, go_sem] def zDy (x:Img) (d:Disk):(wdisk x d).disk=d:=rfl
@[simp, go_sem] def zDz (x:Img) (d:Disk):(wdisk x d).geom=x.geom:=rfl
@[simp, go_sem] def zDA (x:Img) (d:Disk):(wdisk x d).jour=x.jour:=rfl
@[simp, go_sem] def zDB (x:Img) (d:Disk):(wdisk x d).maps=x.maps:=rfl
@[simp, go_sem] def zBT (x:Img) (d:Disk):(wdisk x d).broken=x.broken:=rfl
@[simp, go_sem] def zC0 (x:Img) (d e:Disk):wdisk (wdisk x d) e=wdisk x e:=rfl
@[simp, go_sem] def zDC (x:Img):wdisk x x.disk=x:=rfl
def fix1 {P:Program} {f:FuncId} {args:List AV} {fl i:Nat} {h:AHeap} {J:AV} {X:AObj} (hc:ACall P f fl args h (λr h'=>∃aZ,h'= [(i,aZ)]/\r=J/\aZ=X)):ACall P f fl args h (λr h'=>r=J/\h'= [(i,X)]):=
 hc.mono (by rintro r h' ⟨aZ,rfl,rfl,rfl⟩;exact ⟨rfl,rfl⟩)
structure JS where
 x:Img
 q:Plan
 loc:Int
 old:Txt
 e:Int
def jobP (x:Img) (g off:Int) (s:Txt) (l1 J:Int) (y:Ent2) (q:Plan) (at_:Int) (old:Txt):List AV:= [.d (.str x.disk.data),.d (.sl 2 (x.disk.cache.map putD)),.d (.int .i64 x.disk.fuse),.d (.bool x.disk.off),.d (.sl 1 (x.disk.bad.map intD)),.d (.int .i64 x.geom.guest),.d (.int .i64 x.geom.host),.d (.int .u64 x.jour.seq),.d (.int .i64 x.jour.pos),.d (.sl 66 (x.maps.map dmapD)),.d (.bool x.broken),.d (.int .i64 g),.d (.int .i64 off),.d (.str s),.d (.int .i64 l1),.d (.int .u32 J),.d (.int .i64 y.kind),.d (.int .i64 y.loc),.d (.sl 1 (q.targets.map intD)),.d (.sl 1 (q.texts.map strD)),.d (.int .i64 at_),.d (.str old)]
attribute [go_sem] jobP
def zAz {x:Img} {g off:Int} {s:Txt} {l1 J:Int} {y:Ent2} {q:Plan} {a:Int} {old:Txt} :(AObj.var (jobP x g off s l1 J y q a old)).ids= []:=by
 simp [AObj.ids,jobP,AV.idsL,AV.ids]
def ze3 {x:Img} {g off:Int} {s:Txt} {l1 J:Int} {y:Ent2} {q:Plan} {a:Int} {old:Txt} :∀j∈(AObj.var (jobP x g off s l1 J y q a old)).ids,j=2:=by
 rw [zAz];simp
def zfp (x:Img) (g:Int):Ent2×Int:=if (zF x.disk p0).2≠0 then (⟨0,0⟩,(zF x.disk p0).2) else elook x.disk p0 (zF x.disk p0).1.l1 g
def zAA (x:Img) (g off:Int) (s:Txt) (h:ImgF x):ACall Tryz.prog 316 20 [.vp 2 0] [(2,.var (jobP x g off s 0 0 ⟨0,0⟩ p0 0 []))] (λr h'=>∃aZ,h'= [(2,aZ)]/\r= .d (.int .i64 (zfp x g).2)/\aZ= .var (jobP x g off s (zF x.disk p0).1.l1 (zF x.disk p0).1.next (zfp x g).1 p0 0 [])):=by
 refine bod func316 ntmps316 (λbase=>?_);refine' FH;refine' Dd
 .refine ⟨_,rfl,?_,?_⟩<;>rw [zfp,U (show ¬_≠_ from λh2=>h2 (beqP hc))]
 .refine ⟨_,rfl,?_,?_⟩<;>rw [zfp,aa (beqN hc)]
def zxC (x:Img) (g off:Int) (s:Txt) (l1 nx:Int) (y:Ent2) (h:ImgF x):ACall Tryz.prog 322 20 [.vp 2 0] [(2,.var (jobP x g off s l1 nx y p0 0 []))] (λr h'=>∃aZ,h'= [(2,aZ)]/\(r= .tup [.d (.bool (if y.kind=1 then decide ((rget x.disk p0 y.loc).1<=1) else false)),.d (.int .i64 (if y.kind=1 then (rget x.disk p0 y.loc).2 else 0))])/\aZ= .var (jobP x g off s l1 nx y p0 0 [])):=by
 refine bod func322 ntmps322 (λbase=>?_);refine' FH;refine' Dd
 .exact ⟨_,rfl,by rw [U (bneP hc),U (bneP hc)],rfl⟩
 .have J:y.kind=1:=cN (bneN hc);exact ⟨_,rfl,by rw [aa J,aa J],rfl⟩
def zAB (x:Img) (g off:Int) (s:Txt) (l1 J:Int) (y:Ent2) (h:ImgF x):ACall Tryz.prog 317 20 [.vp 2 0] [(2,.var (jobP x g off s l1 J y p0 0 []))] (λr h'=>∃aZ,h'= [(2,aZ)]/\(r= .d (.int .i64 (rtake x.disk p0 x.geom).2.2))/\aZ= .var (jobP x g off s l1 J y (rtake x.disk p0 x.geom).1 (rtake x.disk p0 x.geom).2.1 [])):=by refine bod func317 ntmps317 (λbase=>?_);refine' FH;have hh:=h.host;refine' Dd;all_goals first|exact ⟨_,rfl,rfl,rfl⟩|exact ⟨_,rfl,rfl⟩|omega
def zAC (x:Img) (g off:Int) (s:Txt) (l1 J:Int) (y:Ent2) (q:Plan) (a:Int) (h:ImgF x):ACall Tryz.prog 318 20 [.vp 2 0] [(2,.var (jobP x g off s l1 J y q a []))] (λr h'=>∃aZ,h'= [(2,aZ)]/\(r= .d (.int .i64 (cread x.disk l1 g).2))/\aZ= .var (jobP x g off s l1 J y q a (cread x.disk l1 g).1)):=by refine bod func318 ntmps318 (λbase=>?_);have rO:=h.disk;refine' Dd;all_goals first|exact ⟨_,rfl,rfl,rfl⟩|exact ⟨_,rfl,rfl⟩|omega
def zxD (x:Img) (g off:Int) (s:Txt) (l1 nx:Int) (y:Ent2) (q:Plan) (a:Int) (old:Txt) (h:ImgF x) (J:pfit q=true):ACall Tryz.prog 320 20 [.vp 2 0] [(2,.var (jobP x g off s l1 nx y q a old))] (λr h'=>∃aZ,h'= [(2,aZ)]/\(r= .d (.int .i64 (ppoint x.disk q x.geom g ⟨1,a⟩).2))/\aZ= .var (jobP x g off s l1 nx y (ppoint x.disk q x.geom g ⟨1,a⟩).1 a old)):=by
 refine bod func320 ntmps320 (λbase=>?_);have iZ:DP x.disk q:=⟨h.disk,J⟩
 have hh:=h.host;have hg:=h.guest;refine' Dd;all_goals first|exact ⟨_,rfl,rfl,rfl⟩|exact ⟨_,rfl,rfl⟩|omega
def zAD (x:Img) (g off:Int) (s:Txt) (l1 nx:Int) (y:Ent2) (q:Plan) (a:Int) (old:Txt) (h:ImgF x) (hq:pfit q=true):ACall Tryz.prog 321 20 [.vp 2 0] [(2,.var (jobP x g off s l1 nx y q a old))] (λr h'=>∃aZ,h'= [(2,aZ)]/\(r= .d (.int .i64 (cdone x q).2))/\aZ= .var (jobP (cdone x q).1 g off s l1 nx y q a old)):=by refine bod func321 ntmps321 (λbase=>?_);have rO:=h.disk;have gC:=h.ok;have e1:=h.seq0;have J:=h.seq1;refine' Dd;all_goals first|exact ⟨_,rfl,rfl,rfl⟩|exact ⟨_,rfl,rfl⟩|omega
def zkL (x:Img) (g off:Int) (s:Txt) (l1 J:Int) (y:Ent2) (q:Plan) (a:Int) (old:Txt) (t:Int) (u:Txt) (h:DiskOk x.disk):ACall Tryz.prog 367 40 [.vp 2 0,.d (.int .i64 t),.d (.str u)] [(2,.var (jobP x g off s l1 J y q a old))] (λr h'=>∃aZ,h'= [(2,aZ)]/\(r= .d (.int .i64 (zab x.disk t u).2))/\aZ= .var (jobP (wdisk x (zab x.disk t u).1) g off s l1 J y q a old)):=by refine bod func367 ntmps367 (λbase=>?_);refine' Dd;all_goals first|exact ⟨_,rfl,rfl,rfl⟩|exact ⟨_,rfl,rfl⟩|omega
def zAE (x:Img) (g off:Int) (s:Txt) (l1 nx:Int) (y:Ent2) (q:Plan) (a:Int) (old:Txt) (h:ImgF x) (ha:zac a=true) (ho:old.length=128) (h0:0<=off) (h1:off+s.length<=128):ACall Tryz.prog 319 20 [.vp 2 0] [(2,.var (jobP x g off s l1 nx y q a old))] (λr h'=>∃aZ,h'= [(2,aZ)]/\(r= .d (.int .i64 (layL x.disk (zbC a (overS old off s).1)).2))/\aZ= .var (jobP (wdisk x (layL x.disk (zbC a (overS old off s).1)).1) g off s l1 nx y q a old)):=by
 refine zD (λi=>decide (i<20)) ?_;refine bod func319 ntmps319 (λbase=>?_);have x3:=hostOk_iff.1 ha;have c8:(overS old off s).1.length=128:=by rw [zo9 h0 fT,ho]
 obtain ⟨b,hb⟩:∃b,b=(overS old off s).1:=⟨_,rfl⟩
 rw [<-hb] at c8 |-;obtain ⟨L,hL⟩:∃L,L=layL x.disk (zbC a b):=⟨_,rfl⟩
 rw [<-hL];have hx:=h.disk;refine' walkR hb.symm (za zq <| za zN <| za zt <| za zZ <| za zP <| za zag <| za zO <| za zy <| za zaM <| za zM <| za zG <| zb _);obtain ⟨I,hI⟩:∃I:List (List AV)->AHeap×Option (List (List AV)),I=λxs=>([(38,.var [.d (.str b)]),(21,.var [.d (.int .i64 0)]),(20,.var [.vp 2 0]),(2,.var (jobP (wdisk x (layF x.disk ((zbC a b).take xs.length))) g off s l1 nx y q a old))],some []):=⟨_,rfl⟩
 obtain ⟨G,hG⟩:∃G:List (List AV)->Prop,G=λxs=>L=layL (layF x.disk ((zbC a b).take xs.length)) ((zbC a b).drop xs.length):=⟨_,rfl⟩
 obtain ⟨J,hJ⟩:∃J:Code->AHeap->Option (List (List AV))->Prop,J=λc h gg=>c= .ret/\gg=some []/\h= [(38,.var [.d (.str b)]),(21,.var [.d (.int .i64 L.2)]),(20,.var [.vp 2 0]),(2,.var (jobP (wdisk x L.1) g off s l1 nx y q a old))]:=⟨_,rfl⟩
 have oH:IntKind.i64.wrap 64=64:=gb;have tj:IntKind.i64.wrap 128=128:=gb;have jA:Int.toNat 0=0:=rfl;have gV:Int.toNat 64=64:=rfl;have pM:Int.toNat 128=128:=rfl;refine aw_le ⟨[(1,true,.vp 20 0),(2,true,.vp 21 0),(3,true,.vp 38 0),(28,true,.fn (.func 359) [] [.dp [.d (.int .i64 a)]])],[(38,.var [.d (.str b)]),(21,.var [.d (.int .i64 0)]),(20,.var [.vp 2 0]),(2,.var (jobP x g off s l1 nx y q a old))],some []⟩ le0 ?_;have B5:wdisk x x.disk=x:=rfl;refine zbU 100 G I J (zhX 100 a fT fT) jf rfl (zV rfl) ju rfl jh iV iW jE iK ja ?_ ?_ ?_
 .refine' Hh;rcases ziU iR with ⟨rfl,rfl⟩|⟨rfl,rfl⟩
  .have ki:xs= []:=by simpa using kb
   subst ki;simp only [zaX];have k7:L=if (zab x.disk (96+2*a) (b.take 64)).2≠0 then zab x.disk (96+2*a) (b.take 64) else layL (zab x.disk (96+2*a) (b.take 64)).1 ((zbC a b).drop 1):=ab
   refine aw_le ⟨[(29,true,.d (.int .i64 (96+2*a))),(30,true,.d (.int .i64 0)),(1,true,.vp 20 0),(2,true,.vp 21 0),(3,true,.vp 38 0)],[(38,.var [.d (.str b)]),(21,.var [.d (.int .i64 0)]),(20,.var [.vp 2 0]),(2,.var (jobP x g off s l1 nx y q a old))],some []⟩ (by rw [hI];exact lxb @wdisk.eq_1) ?_;refine' zsJ (ownsL [1000367]) (zB oH jA gV c8) (za zq <| za zN <| za zt <| za zZ <| za zP <| za zag <| za zO <| za zy <| za zaM <| za zM <| za zG <| zb _);refine ⟨2,40,.var (jobP x g off s l1 nx y q a old),_,_,rfl,gb,ze3,gD,fix1 (zkL x g off s l1 nx y q a old (96+2*a) (b.take 64) hx.ok),?_⟩;refine' Cl;refine' FP;all_goals try rfl
   .rw [hJ];rw [aa (bneP hc)] at k7;exact ⟨rfl,rfl,by rw [k7];rfl⟩
   .rw [hG];rw [U (bneN hc)] at k7;exact k7
  .have ki:xs= [zaX (96+2*a,0)]:=by simpa using kb
   subst ki;simp only [zaX];obtain ⟨d1,jt⟩:∃d1,d1=(zab x.disk (96+2*a) (b.take 64)).1:=⟨_,rfl⟩
   have x5:DiskF d1:=by rw [jt];exact hx.write _ _
   have k7:L=if (zab d1 (96+2*a+1) ((b.take 128).drop 64)).2≠0 then zab d1 (96+2*a+1) ((b.take 128).drop 64) else ((zab d1 (96+2*a+1) ((b.take 128).drop 64)).1,0):=by rw [jt];exact ab
   refine aw_le ⟨[(29,true,.d (.int .i64 (96+2*a+1))),(30,true,.d (.int .i64 64)),(1,true,.vp 20 0),(2,true,.vp 21 0),(3,true,.vp 38 0)],[(38,.var [.d (.str b)]),(21,.var [.d (.int .i64 0)]),(20,.var [.vp 2 0]),(2,.var (jobP (wdisk x d1) g off s l1 nx y q a old))],some []⟩ (by rw [hI,jt];exact lxb @wdisk.eq_1) ?_;refine' zsJ (ownsL [1000367]) (zat oH tj gV pM c8) (za zq <| za zN <| za zt <| za zZ <| za zP <| za zag <| za zO <| za zy <| za zaM <| za zM <| za zG <| zb _);refine ⟨2,40,.var (jobP (wdisk x d1) g off s l1 nx y q a old),_,_,rfl,gb,ze3,gD,fix1 (zkL (wdisk x d1) g off s l1 nx y q a old (96+2*a+1) ((b.take 128).drop 64) x5.ok),?_⟩;refine' Cl;refine' FP;all_goals try (rw [jt];rfl)
   .rw [hJ];rw [aa (bneP hc)] at k7;exact ⟨rfl,rfl,by rw [k7];rfl⟩
   .rw [hG];rw [U (bneN hc),jt] at k7;exact k7
 .intro ab;rw [hG] at ab;have k7:L=(layF x.disk (zbC a b),0):=ab;rw [hI];refine' Dt;all_goals try rfl
  rw [k7];exact ⟨_,rfl,rfl,rfl⟩
 .refine' Ge;refine' Dt;all_goals first|rfl|exact ⟨_,rfl,rfl,rfl⟩|exact ⟨_,rfl,rfl⟩
end
end Go.Aw
