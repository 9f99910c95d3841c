/- Lemmas. -/
import Derived.Test.YtgldbfelccddbaaGreatApa27
import Derived.Test.YtgldbfelccddbaaGreatApa24
set_option linter.all false
set_option maxRecDepth 100000
set_option maxHeartbeats 2000000
namespace Go.Aw
noncomputable section
open Go Go.Proofs Go.Proofs.Tryz
def zAO (x:Img) (hp:0<=x.geom.guest/\x.geom.guest<=1000000):AC 99 [imgA x] (.d (.int .i64 (128*x.geom.guest))):=by refine' EP;refine fbod func99 ntmps99 (λbase=>?_);have hw:IntKind.i64.wrap (x.geom.guest*128)=128*x.geom.guest:=gP;refine' zc hw
@[go_sem] def zl8:Ent Tryz.prog 99:= .m1 za9 zAO
def ztn {g a n:Int} (h0:0<=g) (h1:g<=1000000):(decide (a<0)||decide (n<0)||decide (128*g<n)||decide (IntKind.i64.wrap (128*g - n)<a))= !inB g a n:=by
 rw [<-zC7];by_cases h:n<0
 .rw [af h];simp
 by_cases h2:128*g<n
 .rw [af h2];simp
 rw [zf fT fT]
def zrw (x:Img) (a n:Int) (hp:0<=x.geom.guest/\x.geom.guest<=1000000):AC 248 [imgA x,.d (.int .i64 a),.d (.int .i64 n)] (.d (.bool (!inB x.geom.guest a n))):=by refine' EP;refine fbod func248 ntmps248 (λbase=>?_);have J:=ztn (a:=a) (n:=n) h0 h1;refine' walkW J (za zl8 <| zb _)
@[go_sem] def zeH:Ent Tryz.prog 248:= .m3 za9 (intT .i64) (intT .i64) zrw
def zu0 (x:Img) (h:ImgF x):AC 256 [imgA x] (.tup [imgA (zew x).1,.d (.int .i64 (zew x).2)]):=by
 refine fbod func256 ntmps256 (λbase=>?_);have ni:=h.disk.ok;have iZ:=h.disk.puts;cases J:x.broken with
 |true=>
  refine' walkW J (za zbH <| zb _);rw [zew,aa J,J]
 |false=>
  obtain ⟨F,hF⟩:∃F,F=dflush x.disk:=⟨_,rfl⟩
  refine' walkW (zg J hF.symm) (za zbH <| zb _);rw [zew,U (by rw [J];decide),<-hF]
@[go_sem] def zbK:Ent Tryz.prog 256:= .m1 za9 zu0
def zgz:Nat->List (Nat×Nat×Nat)->List ((Nat×Nat×Nat)×Nat)
 |_,[]=> []
 |s,q::r=>(q,s)::zgz (s+q.2.2) r
def zcM (p:(Nat×Nat×Nat)×Nat):List AV:= [.agg [.d (.int .i64 p.1.1),.d (.int .i64 p.1.2.1),.d (.int .i64 p.1.2.2)],.d (.int .i64 p.2)]
def zeO:∀ (s:Nat) (l:List (Nat×Nat×Nat)),(zgz s l).map (·.1)=l
 |_,[]=>rfl
 |s,q::r=>by rw [zgz,au,zeO]
def zxW (a n:Int) (_:True):AC 250 [.d (.int .i64 a),.d (.int .i64 n)] (.fn (.func 311) [] [.dp [.d (.int .i64 a)],.dp [.d (.int .i64 n)]]):=by refine fbod func250 ntmps250 (λbase=>?_);refine' Ds
@[go_sem] def zgh:Ent Tryz.prog 250:= .m2 (intT .i64) (intT .i64) zxW
def zpr (a:Int) (n:Int) (l:List (Nat×Nat×Nat)) (hl:cutsL a n=l):AIter Tryz.prog 311 100 [] [.dp [.d (.int .i64 a)],.dp [.d (.int .i64 n)]] [] ((zgz 0 l).map zcM) (λg h'=>(∀xs,g=some xs->xs=(zgz 0 l).map zcM)/\h'= []):=by
 refine itr func311 ntmps311 (λbase y=>?_);refine zfI ?_;have gF:l.length<=65536:=by rw [<-hl];exact zc6 a n
 have hle:∀q∈l,q.2.2<=128:=by rw [<-hl];exact zhn a n
 refine' walkX hl (za zci <| zb _);refine zk (λq: { q:Nat×Nat×List (List AV) // q.1<=l.length/\q.2.1<=128*q.1/\q.2.2++(zgz q.2.1 (l.drop q.1)).map zcM=(zgz 0 l).map zcM } =>⟨[(0,true,.fn (.yield y.yl) [] []),(4,true,.d (.int .i64 q.1.2.1)),(9,true,.d (.sl 3 (l.map cutD))),(10,true,.d (.int .i64 l.length)),(11,true,.d (.int .i64 q.1.1))],[],some q.1.2.2⟩) (λq=>l.length - q.1.1) ⟨(0,0,[]),ad _,aj _,rfl⟩ le1 (λq=>?_);obtain ⟨⟨i,s,xs⟩,hi,hs,hf⟩:=q;simp only at hi hs hf |-;rcases zw cutD l i hi with ⟨⟨c0,c1,c2⟩,hq,bo,J,ab,b4,a7⟩|⟨ao,J⟩
 .simp only [cutD] at ab;refine' CO;have fY:=hle _ (ay hq);simp only at fY;have ov:IntKind.i64.wrap ((s:Int)+(c2:Int))=((s+c2:Nat):Int):=gP;rw [b4,zgz,au] at hf;have bu:(xs++ [zcM ((c0,c1,c2),s)])<+:(zgz 0 l).map zcM:=jT;simp only [zcM] at bu;refine' zaQ (zp J ab ov);exact ⟨⟨(i+1,s+c2,xs++ [zcM ((c0,c1,c2),s)]),fT,gH,jT⟩,lxb (lan hwi @zcM.eq_1),gh⟩
 .refine' zaQ J;rintro zs rfl;rw [<-hf,ao,aP,zgz];simp
def zc7 (d:Disk) (l1:Int) (l:List (Nat×Nat×Nat)):Txt:=l.flatMap λq=>((cread d l1 q.1).1.take (q.2.1+q.2.2)).drop q.2.1
@[simp, go_sem] def zDD (d:Disk) (l1:Int):zc7 d l1 []= []:=rfl
def zrx (d:Disk) (l1:Int) (l:List (Nat×Nat×Nat)) (q:Nat×Nat×Nat):zc7 d l1 (l++ [q])=zc7 d l1 l++((cread d l1 q.1).1.take (q.2.1+q.2.2)).drop q.2.1:=by simp [zc7]
def ziX (d:Disk) (l1:Int):∀ (l r:List (Nat×Nat×Nat)) (s:Txt),(∀q∈l,(cread d l1 q.1).2=0)->zgy d l1 (l++r) s=zgy d l1 r (s++zc7 d l1 l)
 | [],r,s,_=>by simp [zc7]
 |q::l,r,s,h=>by rw [bf,zgy,U (by simpa using h q cW),ziX d l1 l r _ (λy J=>h y (cY _ J))];simp [zc7,aY]
def ziY {d:Disk} {l1:Int} (h:d.cache.all (putOk d)=true):∀l:List (Nat×Nat×Nat),(zc7 d l1 l).length<=128*l.length
 | []=>ad _
 |q::l=>by have h1:=ziY h l (l1:=l1);have h2:=zta (l1:=l1) (g:=q.1) h;simp only [zc7,eV,ae,ak,az,aC] at h1 |-;omega
def zxX (x:Img) (a n:Int) (hp:ImgF x/\0<=x.geom.guest):AC 180 [imgA x,.d (.int .i64 a),.d (.int .i64 n)] (.tup [.d (.str (iread x a n).1),.d (.int .i64 (iread x a n).2)]):=by
 obtain ⟨h,h0⟩:=hp;refine fbod func180 ntmps180 (λbase=>?_);have l4:=h.guest;have rO:=h.disk;refine' FH;obtain ⟨Z,hZ⟩:∃Z,Z=iread x a n:=⟨_,rfl⟩
 rw [<-hZ];rw [iread] at hZ;cases hb:inB x.geom.guest a n with
 |false=>
  rw [hb,aa rfl] at hZ;refine' walkR hb (za zeH <| za zq <| za zgh <| za zP <| zb _);rw [hZ]
 |true=>
 refine' Es;have jV:=zpr a n l hl.symm;refine' walkR (zg hb hR.symm) (za zeH <| za zq <| za zgh <| za zP <| zb _)
 .rw [hZ,aa (bneP hc)]
 rw [U (bneN hc)] at hZ;clear hc;refine zfG 4 1 rfl rfl ?_;refine' Cl;obtain ⟨B,hB⟩:∃B:Nat->AHeap,B=λk=> [(5,.buf 5 (zc7 x.disk R.1.l1 (l.take k))),(4,.tvar 180 [if k=0 then .d .nilp else .tp 4 0,.bsl 5 (zc7 x.disk R.1.l1 (l.take k)).length]),(3,.var [.d (.int .i64 R.1.l1),.d (.int .u32 R.1.next)])]:=⟨_,rfl⟩
 obtain ⟨I,hI⟩:∃I:List (List AV)->AHeap×Option (List (List AV)),I=λxs=>([(5,.buf 5 (zc7 x.disk R.1.l1 (l.take xs.length))),(4,.tvar 180 [if xs.length=0 then .d .nilp else .tp 4 0,.bsl 5 (zc7 x.disk R.1.l1 (l.take xs.length)).length]),(3,.var [.d (.int .i64 R.1.l1),.d (.int .u32 R.1.next)]),(2,.var [.d (.int .i64 0)]),(1,.var [.d (.str [])]),(0,.var (imgV x))],some []):=⟨_,rfl⟩
 obtain ⟨G,hG⟩:∃G:List (List AV)->Prop,G=λxs=>∀q∈l.take xs.length,(cread x.disk R.1.l1 q.1).2=0:=⟨_,rfl⟩
 obtain ⟨J,hJ⟩:∃J:Code->AHeap->Option (List (List AV))->Prop,J=λc h g=>c= .ret/\g=some []/\∃ (k:Nat) (e u v w:Int),Z=([],e)/\h= [(100,.var [.d (.int .i64 u),.d (.int .i64 v),.d (.int .i64 w)]),(5,.buf 5 (zc7 x.disk R.1.l1 (l.take k))),(4,.tvar 180 [if k=0 then .d .nilp else .tp 4 0,.bsl 5 (zc7 x.disk R.1.l1 (l.take k)).length]),(3,.var [.d (.int .i64 R.1.l1),.d (.int .u32 R.1.next)]),(2,.var [.d (.int .i64 e)]),(1,.var [.d (.str [])]),(0,.var (imgV x))]:=⟨_,rfl⟩
 clear hB B;refine aw_le ⟨[(3,true,.vp 0 0),(6,true,.vp 1 0),(7,true,.vp 2 0),(8,true,.vp 3 0),(10,true,.tp 4 0),(30,true,.fn (.func 311) [] [.dp [.d (.int .i64 a)],.dp [.d (.int .i64 n)]])],[(5,.buf 5 []),(4,.tvar 180 [.d .nilp,.bsl 5 0]),(3,.var [.d (.int .i64 R.1.l1),.d (.int .u32 R.1.next)]),(2,.var [.d (.int .i64 0)]),(1,.var [.d (.str [])]),(0,.var (imgV x))],some []⟩ le1 ?_;refine' FT
 .intro xs x1 bu ab tB r1;obtain ⟨ys,⟨⟨c0,c1,c2⟩,s⟩,zs,kb,rfl,iR⟩:=zes bu;have jl:xs.length=ys.length:=tD
  have hle:l=ys.map (·.1)++(c0,c1,c2)::zs.map (·.1):=by have h2:=zeO 0 l;rw [iR] at h2;rw [<-h2];simp
  obtain ⟨k,hk⟩:∃k,k=xs.length:=⟨_,rfl⟩
  have hq:l[k]?=some (c0,c1,c2):=by rw [hle,hk,jl];simp
  have mn:k<l.length:=(bP.1 hq).1;have kE:=ir _ (ay hq);simp only at kE;have a7:=zcT hq;rw [hG,<-hk] at ab;simp only [zcM];obtain ⟨C,hC⟩:∃C,C=cread x.disk R.1.l1 c0:=⟨_,rfl⟩
  have c6:C.2=0->C.1.length=128:=by rw [hC];exact zgQ h.disk.puts
  have ef:Z=zgy x.disk R.1.l1 ((c0,c1,c2)::zs.map (·.1)) ([]++zc7 x.disk R.1.l1 (l.take k)):=by
   rw [<-ziX _ _ _ _ _ ab,hZ];congr 1
   have yi:l.drop (k+1)=zs.map (·.1):=by
    have h3:l=(ys.map (·.1)++ [(c0,c1,c2)])++zs.map (·.1):=by rw [hle];simp
    rw [h3];exact List.drop_left' gh
   conv=>lhs;rw [<-bO k l]
   rw [zdO hq,yi]
  rw [zgy] at ef;simp only at ef;rw [<-hC] at ef;obtain ⟨b,b3⟩:∃b,b=zc7 x.disk R.1.l1 (l.take k):=⟨_,rfl⟩
  have c8:b.length<=8388608:=by rw [b3];have:=ziY (l1:=R.1.l1) h.disk.puts (l.take k);rw [az] at this;omega
  refine aw_le ⟨[(31,true,.agg [.d (.int .i64 c0),.d (.int .i64 c1),.d (.int .i64 c2)]),(3,true,.vp 0 0),(6,true,.vp 1 0),(7,true,.vp 2 0),(8,true,.vp 3 0),(10,true,.tp 4 0)],[(5,.buf 5 b),(4,.tvar 180 [if k=0 then .d .nilp else .tp 4 0,.bsl 5 b.length]),(3,.var [.d (.int .i64 R.1.l1),.d (.int .u32 R.1.next)]),(2,.var [.d (.int .i64 0)]),(1,.var [.d (.str [])]),(0,.var (imgV x))],some []⟩ (by
   rw [hI,b3];simp only [<-hk];by_cases gk:k=0
   .simp only [aa gk];exact lxa
   .simp only [U gk];exact lxa) ?_
  cases he:(C.2 !=0) with
  |true=>
   rw [aa gp] at ef;refine' walkR (zg hC.symm he) (za zeH <| za zq <| za zgh <| za zP <| zb _);rw [hJ];exact ⟨rfl,rfl,k,C.2,c0,c1,c2,ef,by rw [b3];rfl⟩
  | false=>
   have yf:=c6 gp;have tM:IntKind.i64.wrap ((c1:Int)+(c2:Int))=((c1+c2:Nat):Int):=gP;have iv:(List.drop c1 (List.take (c1+c2) C.1)).length<=128:=by rw [ak,az];omega
   refine' walkR (zB hC.symm he tM natC) (za zeH <| za zq <| za zgh <| za zP <| zb _);all_goals first|omega|skip
   refine (zdv (i:=4) (j:=5) (o:=0) (T:=180) (cs:= [if k=0 then .d .nilp else .tp 4 0,.bsl 5 b.length]) (xs:=b) rfl (by by_cases h0:k=0<;>simp [h0]) rfl rfl rfl zge fT).mono ?_;refine' Cp;have e8:zc7 x.disk R.1.l1 (l.take (k+1))=b++List.drop c1 (List.take (c1+c2) C.1):=by rw [a7,zrx,b3,hC]
   have j9:(if k+1=0 then AV.d .nilp else AV.tp 4 0)= .tp 4 0:=U fT;have jG:(xs++ [zcM ((c0,c1,c2),s)]).length=k+1:=by rw [ae,<-hk];rfl
   simp only [zcM] at jG;refine' zau (zat hI jG e8 j9 @List.length_append.{0});all_goals first|(rw [hI];done)|skip
   rw [hG];simp only [jG,a7];intro q jZ;rcases aS.1 jZ with jZ|jZ
   .exact ab q jZ
   .rw [bp.1 jZ];show (cread x.disk R.1.l1 c0).2=0;rw [<-hC];simpa using he
 .intro ab;rw [hG] at ab;rw [hI]
  have iy:Z=(zc7 x.disk R.1.l1 l,0):=by
   rw [al] at ab;have gB:(zgz 0 l).length=l.length:=by rw [<-zeO 0 l,al,zeO]
   rw [gB,aL] at ab;have:=ziX x.disk R.1.l1 l [] [] ab;rw [bm,bh] at this;rw [hZ,this,zgy]
  have c8:=ziY (l1:=R.1.l1) h.disk.puts l;have gB:((zgz 0 l).map zcM).length=l.length:=by rw [al,<-zeO 0 l,al,zeO]
  simp only [gB,aL];refine' G8;refine (zfF (i:=4) (j:=5) (o:=0) (T:=180) (cs:= [if l.length=0 then .d .nilp else .tp 4 0,.bsl 5 (zc7 x.disk R.1.l1 l).length]) (xs:=zc7 x.disk R.1.l1 l) rfl rfl rfl rfl fT).mono ?_;refine' Cp;refine' Gq;refine' G8;all_goals first|rfl|(rw [iy];done)|(rw [iy];rfl)|skip
 .rw [hJ];rintro c h3 g3 ⟨rfl,rfl,k,e,u,v,w,he,rfl⟩;refine' G8;rw [he]
@[go_sem] def zce:Ent Tryz.prog 180:= .m3 za9 (intT .i64) (intT .i64) zxX
structure Tw where
 q:Rq
 cuts:List (Nat×Nat×Nat)
 loc:Int
 err:Int
 data:Txt
 spans:List Spn
 done:Bool
 x:Img
 ms:List Int
 c0:Int
 c1:Int
 c2:Int
def twV (s:Tw) (v:AV):List AV:= [.d (.int .i64 s.q.flags),.d (.int .i64 s.q.kind),.d (.int .u64 s.q.cookie),.d (.int .u64 s.q.frm),.d (.int .u32 s.q.len),.d (.str s.q.data),.d (.sl 3 (s.cuts.map cutD)),.d (.int .i64 s.loc),.d (.int .u32 s.err),.d (.str s.data),v,.d (.bool s.done),.d (.str s.x.disk.data),.d (.sl 2 (s.x.disk.cache.map putD)),.d (.int .i64 s.x.disk.fuse),.d (.bool s.x.disk.off),.d (.sl 1 (s.x.disk.bad.map intD)),.d (.int .i64 s.x.geom.guest),.d (.int .i64 s.x.geom.host),.d (.int .u64 s.x.jour.seq),.d (.int .i64 s.x.jour.pos),.d (.sl 66 (s.x.maps.map dmapD)),.d (.bool s.x.broken),.d (.sl 1 (s.ms.map u32D)),.d (.int .i64 s.c0),.d (.int .i64 s.c1),.d (.int .i64 s.c2)]
attribute [go_sem] twV
def zfs {s:Tw} {v:AV} (J:v.ids= []):∀j∈(AObj.var (twV s v)).ids,j=4:=by
 simp [AObj.ids,twV,AV.idsL,AV.ids,J]
structure TwOk (s:Tw):Prop where
 ok:RqOk s.q
 img:ImgF s.x
 g0:0<=s.x.geom.guest
 maps:s.x.maps.length<=5000
 c0:0<=s.c0
 c1:0<=s.c1
 c2:0<=s.c2
 at_:s.c0*128+s.c1<=1000000
 n:s.c2<=128
 wr:s.q.kind=1->s.q.frm<=s.c0*128+s.c1/\s.c0*128+s.c1+s.c2<=s.q.frm+s.q.data.length
 data:s.data.length<=1000000
def inH1 {i:Nat} {ob:AObj} (h:∀j∈ob.ids,j=i):inH [(i,ob)] (idsH [(i,ob)]):=zsF λj J=>by simp only [idsH,bm] at J;simp [hget,h j J]
def zB3 (s:Tw) (h0:0<=s.c0) (h1:0<=s.c1) (h2:s.c0*128+s.c1<=1000000):ACall Tryz.prog 181 60 [.vp 4 0] [(4,.var (twV s (.nils 2)))] (λr h'=>∃aZ,h'= [(4,aZ)]/\r= .d (.int .i64 (s.c0*128+s.c1))/\aZ= .var (twV s (.nils 2))):=by refine bod func181 ntmps181 (λbase=>?_);have ab:IntKind.i64.wrap (s.c0*128)=s.c0*128:=zf fT fT;have a6:IntKind.i64.wrap (s.c0*128+s.c1)=s.c0*128+s.c1:=zf fT fT;refine' zc (zg ab a6);all_goals first|exact ⟨_,rfl,rfl,rfl⟩|exact ⟨_,rfl,rfl⟩|skip
def zBg (s:Tw) (h:TwOk s):ACall Tryz.prog 104 40 [.vp 4 0] [(4,.var (twV s (.nils 2)))] (λr h'=>∃aZ,h'= [(4,aZ)]/\r= .d (.int .i64 (iread s.x (s.c0*128+s.c1) s.c2).2)/\aZ= .var (twV { s with data:=s.data++(iread s.x (s.c0*128+s.c1) s.c2).1 } (.nils 2))):=by
 refine' Gf;refine bod func104 ntmps104 (λbase=>?_);have hi:=h.img;have hg:=h.g0;have ab:=h.c0;have bo:=h.c1;have nm:=h.at_;have gw:=h.data;obtain ⟨R,J⟩:∃R,R=iread s.x (s.c0*128+s.c1) s.c2:=⟨_,rfl⟩
 have l8:=zpe (x:=s.x) (a:=s.c0*128+s.c1) (n:=s.c2);have hn:=h.n;rw [<-J] at l8 |-;refine' H3;refine ⟨[(4,.var (twV s (.nils 2)))],60,_,rfl,⟨rfl,trivial⟩,inH1 (zfs rfl),⟨rfl,trivial⟩,fix1 (zB3 s ab bo nm),?_⟩;simp only [go_sem,aeq,aeq.aeqF,simprocAttr,<-J];refine' H3;all_goals first|omega|exact ⟨_,rfl,rfl,rfl⟩|exact ⟨_,rfl,rfl⟩|skip
def zyL (s:Tw) (b:Txt) (h:ImgF s.x) (hm:s.x.maps.length<=5000) (J:b.length<=9223372036854775807):ACall Tryz.prog 182 40 [.vp 4 0,.d (.str b)] [(4,.var (twV s (.nils 2)))] (λr h'=>∃aZ,h'= [(4,aZ)]/\r= .d (.int .i64 (zbX s.x s.c0 s.c1 b).2)/\aZ= .var (twV { s with x:=(zbX s.x s.c0 s.c1 b).1 } (.nils 2))):=by refine' Gf;refine bod func182 ntmps182 (λbase=>?_);refine' walkW fx (za zce <| za zbl <| za zaz <| za zcL <| za zbK <| zb _);all_goals first|omega|exact ⟨_,rfl,rfl,rfl⟩|exact ⟨_,rfl,rfl⟩|skip
def zyM (s:Tw) (h:TwOk s) (hk:s.q.kind=1):ACall Tryz.prog 105 30 [.vp 4 0] [(4,.var (twV s (.nils 2)))] (λr h'=>∃aZ,h'= [(4,aZ)]/\r= .d (.int .i64 (zbX s.x s.c0 s.c1 ((s.q.data.take (s.c0*128+s.c1 - s.q.frm+s.c2).toNat).drop (s.c0*128+s.c1 - s.q.frm).toNat)).2)/\aZ= .var (twV { s with x:=(zbX s.x s.c0 s.c1 ((s.q.data.take (s.c0*128+s.c1 - s.q.frm+s.c2).toNat).drop (s.c0*128+s.c1 - s.q.frm).toNat)).1 } (.nils 2))):=by
 refine' Gf;refine bod func105 ntmps105 (λbase=>?_);have J:=h.c0;have bo:=h.c1;have fY:=h.c2;have nm:=h.at_;have hn:=h.n;have hds:=h.ok.d;have jJ:=h.ok.f0;obtain ⟨ab,a6⟩:=h.wr hk;obtain ⟨f,hf⟩:∃f,f=s.c0*128+s.c1 - s.q.frm:=⟨_,rfl⟩
 have j1:IntKind.i64.wrap s.q.frm=s.q.frm:=zf fT fT;have qD:IntKind.i64.wrap (s.c0*128+s.c1 - s.q.frm)=f:=by rw [hf];exact zf fT fT
 have yj:IntKind.i64.wrap (f+s.c2)=f+s.c2:=zf fT fT;rw [<-hf];obtain ⟨b,hb⟩:∃b,b=(s.q.data.take (f+s.c2).toNat).drop f.toNat:=⟨_,rfl⟩
 have c8:b.length<=9223372036854775807:=by rw [hb,ak,az];omega
 rw [<-hb];refine' zgu (ownsL [2000181]) (zg j1 qD) (za zce <| za zbl <| za zaz <| za zcL <| za zbK <| zb _);refine ⟨[(4,.var (twV s (.nils 2)))],60,_,rfl,⟨rfl,trivial⟩,inH1 (zfs rfl),⟨rfl,trivial⟩,fix1 (zB3 s J bo nm),?_⟩;simp only [go_sem,aeq,aeq.aeqF,simprocAttr,j1,qD];refine' zgu (ownsL [1000182]) (zg yj hb.symm) (za zce <| za zbl <| za zaz <| za zcL <| za zbK <| zb _);all_goals first|omega|skip
 refine ⟨4,40,.var (twV s (.nils 2)),_,_,rfl,gb,zfs rfl,gD,fix1 (zyL s b h.img h.maps c8),?_⟩;refine' Cl;refine' zgu (ownsL [1000182]) fx (za zce <| za zbl <| za zaz <| za zcL <| za zbK <| zb _);all_goals first|omega|exact ⟨_,rfl,rfl,rfl⟩|exact ⟨_,rfl,rfl⟩|skip
def zpS (s:Tw) (hole:Bool) (h:TwOk s) (g0 g1 g2:Nat) (e0:s.c0=g0) (e1:s.c1=g1) (e2:s.c2=g2):ACall Tryz.prog 183 30 [.vp 4 0,.d (.bool hole)] [(4,.var (twV s (.nils 2)))] (λr h'=>∃aZ,h'= [(4,aZ)]/\r= .d (.int .i64 (zco hole (g0,g1,g2) s.x).2)/\aZ= .var (twV { s with x:=(zco hole (g0,g1,g2) s.x).1 } (.nils 2))):=by
 refine' Gf;refine bod func183 ntmps183 (λbase=>?_);have hn:=h.n;have vN:=h.img;have lQ:=h.maps;obtain ⟨W,hW⟩:∃W,W=zco hole (g0,g1,g2) s.x:=⟨_,rfl⟩
 rw [<-hW];unfold zco at hW;simp only at hW;by_cases hg:g2=128
 .have J:decide (s.c2<128)=false:=ag fT;rw [aa hg,<-e0] at hW;refine' walkW (zg J hW.symm) (za zce <| za zbl <| za zaz <| za zcL <| za zbK <| zb _);all_goals first|omega|exact ⟨_,rfl,rfl,rfl⟩|exact ⟨_,rfl,rfl⟩|skip
 .have J:decide (s.c2<128)=true:=af fT;rw [U hg,<-e0,<-e1] at hW;have hr:s.c2.toNat=g2:=fT;have jw:(List.replicate g2 (0:UInt8)).length<=9223372036854775807:=by rw [bB];omega
  have fY:=h.c2;refine' walkW (zg J hr) (za zce <| za zbl <| za zaz <| za zcL <| za zbK <| zb _);all_goals first|omega|skip
  refine (zcq (fix1 (zyL s (List.replicate g2 0) vN lQ jw)) gb rfl (zfs rfl) gD).mono ?_;refine' Cp;refine' Cl;refine' Ds;all_goals first|omega|(rw [hW];exact ⟨_,rfl,rfl,rfl⟩)|(rw [hW];exact ⟨_,rfl,rfl⟩)|skip
def zBh (s:Tw) (h:TwOk s) (g0 g1 g2:Nat) (J:s.c0=g0) (e1:s.c1=g1) (e2:s.c2=g2):ACall Tryz.prog 106 20 [.vp 4 0] [(4,.var (twV s (.nils 2)))] (λr h'=>∃aZ,h'= [(4,aZ)]/\r= .d (.int .i64 (zco true (g0,g1,g2) s.x).2)/\aZ= .var (twV { s with x:=(zco true (g0,g1,g2) s.x).1 } (.nils 2))):=by refine bod func106 ntmps106 (λbase=>?_);refine' Ds;refine (zcq (fix1 (zpS s true h g0 g1 g2 J e1 e2)) gb rfl (zfs rfl) gD).mono ?_;refine' Cp;refine' Cl;refine' Ds;all_goals first|exact ⟨_,rfl,rfl,rfl⟩|exact ⟨_,rfl,rfl⟩|skip
def zBi (s:Tw) (h:TwOk s) (g0 g1 g2:Nat) (J:s.c0=g0) (e1:s.c1=g1) (e2:s.c2=g2):ACall Tryz.prog 107 20 [.vp 4 0] [(4,.var (twV s (.nils 2)))] (λr h'=>∃aZ,h'= [(4,aZ)]/\r= .d (.int .i64 (zco (!hasF s.q.flags 2) (g0,g1,g2) s.x).2)/\aZ= .var (twV { s with x:=(zco (!hasF s.q.flags 2) (g0,g1,g2) s.x).1 } (.nils 2))):=by
 refine bod func107 ntmps107 (λbase=>?_);have hb:(ibits .and .i64 s.q.flags 2==0)= !hasF s.q.flags 2:=by unfold hasF;simp [bne]
 refine' zc hb;refine (zcq (fix1 (zpS s (!hasF s.q.flags 2) h g0 g1 g2 J e1 e2)) gb rfl (zfs rfl) gD).mono ?_;refine' Cp;refine' Cl;refine' Ds;all_goals first|exact ⟨_,rfl,rfl,rfl⟩|exact ⟨_,rfl,rfl⟩|skip
def zyN (s:Tw) (h:ImgF s.x):ACall Tryz.prog 185 30 [.vp 4 0] [(4,.var (twV s (.nils 2)))] (λr h'=>∃aZ,h'= [(4,aZ)]/\r= .d (.int .i64 (zew s.x).2)/\aZ= .var (twV { s with x:=(zew s.x).1 } (.nils 2))):=by refine' Gf;refine bod func185 ntmps185 (λbase=>?_);refine' walkW fx (za zce <| za zbl <| za zaz <| za zcL <| za zbK <| zb _);all_goals first|omega|exact ⟨_,rfl,rfl,rfl⟩|exact ⟨_,rfl,rfl⟩|skip
end
end Go.Aw
