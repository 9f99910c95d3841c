/- Lemmas. -/
import Derived.Test.YtgldbfelccddbaaGreatApa11
import Derived.Test.YtgldbfelccddbaaGreatApa12
set_option linter.all false
set_option maxRecDepth 100000
set_option maxHeartbeats 2000000
namespace Go.Aw
noncomputable section
open Go Go.Proofs Go.Proofs.Tryz
def padS (s:Txt) (n:Int):Txt×Int:=if n<s.length\/65536<n then ([],11) else (s++List.replicate (n - s.length).toNat 0,0)
def overS (s:Txt) (at_:Int) (t:Txt):Txt×Int:=if at_<0\/(s.length:Int) - t.length<at_ then ([],10) else (s.take at_.toNat++t++s.drop (at_+t.length).toNat,0)
def putS8 (n:Int) (size:Int):Txt:=if size<1\/8<size then [] else putN n.toNat size.toNat
def takeS (s:Txt) (size:Int):Int×Txt×Int:=if size<1\/8<size then (0,[],25) else if (s.length:Int)<size then (0,[],22) else ((takeN (s.take size.toNat):Int),s.drop size.toNat,0)
def nameB (c:UInt8):Bool:=decide (33<=c.toNat)&&decide (c.toNat<=126)
def zjm (s:Txt):Bool:=s.all nameB&&(s != []&&decide (s.length<=8))
def zzG (s:Txt) (n:Int) (hs:s.length<=9223372036854775807):AC 154 [.d (.str s),.d (.int .i64 n)] (.tup [.d (.str (padS s n).1),.d (.int .i64 (padS s n).2)]):=by
 refine fbod func154 ntmps154 (λbase=>?_);by_cases h:n<s.length\/65536<n
 .refine' Hx
 .refine' FV;refine' zc (zr J hm @zdQ @zgK @zic @if_true.{1})
  .exact za5 _
  .rw [zao,bB];omega
  .simp only [padS,U h,zao]
@[go_sem] def ziN:Ent Tryz.prog 154:= .m2 strT (intT .i64) zzG
def zsP {a b c:Int} :(decide (a<0)||decide (b<c)||decide (b - c<a))=(decide (a<0)||decide (b - c<a)):=by
 by_cases h1:a<0
 .simp [h1]
 .by_cases h2:b<c
  .rw [af h2,af (p:=b - c<a) fT];simp
  .rw [ag h2];simp
def zwK (s:Txt) (at_:Int) (t:Txt) (hp:s.length<=9223372036854775807/\t.length<=9223372036854775807):AC 223 [.d (.str s),.d (.int .i64 at_),.d (.str t)] (.tup [.d (.str (overS s at_ t).1),.d (.int .i64 (overS s at_ t).2)]):=by
 obtain ⟨hs,ht⟩:=hp;refine bod func223 ntmps223 (λbase=>?_);refine' F1
 .refine' IN;refine' zc (zp hm @zsP J);rw [overS,aa h]
 .refine' FC;refine' zc (zB hm @zsP J jg)
  .rw [az];omega
  .simp;omega
  .simp only [overS,U h]
@[go_sem] def zay:Ent Tryz.prog 223:= .m3 strT (intT .i64) strT zwK
def zzH (n size:Int) (hp:0<=n/\n<18446744073709551616):AC 153 [.d (.int .u64 n),.d (.int .i64 size)] (.d (.str (putS8 n size))):=by
 refine' EP;refine fbod func153 ntmps153 (λbase=>?_);by_cases h:size<1\/8<size
 .refine' EY;refine' zc J;rw [putS8,aa h]
 .refine' Dy;refine' zc (zg J natC);refine zk (λq: { q:Nat×Txt // q.1<=z/\q.2.length=z/\q.2.drop (z - q.1)=putN n.toNat q.1 } =>⟨[(0,true,.d (.int .u64 n)),(1,true,.d (.int .i64 z)),(5,true,.osl 0 1 z 0 z),(6,true,.d (.int .i64 q.1.1))],[(0,.arr 1 (zh q.1.2))],some []⟩) (λq=>z - q.1.1) ⟨(0,List.replicate z 0),ad _,fZ,by simp [putN]⟩ (lxb zdQ) (λq=>?_);obtain ⟨⟨i,b⟩,hi,c8,jq⟩:=q;simp only at hi c8 jq |-;rcases aO i z with an|gU
  .have ab:decide ((i:Int)<(z:Int))=true:=af fT;refine' CO;have j4:IntKind.i64.wrap ((z:Int) - 1)=(z:Int) - 1:=zf fT fT;have jg:IntKind.i64.wrap ((z:Int) - 1 - i)=((z - 1 - i:Nat):Int):=gP;have kk:IntKind.i64.wrap (8*(i:Int))=((8*i:Nat):Int):=gP;have ji:(zh b).length=z:=na;have xx:=zoK (b:=b) (k:=z - 1 - i) fT _ (zzF h0 (i:=i) fT);have xy:z - 1 - i+1=z - i:=fT;refine' zc (zr ab j4 jg kk ji natC);exact ⟨⟨(i+1,b.set (z - 1 - i) (UInt8.ofNat (n.toNat / 256 ^ i))),fT,by simpa using c8,by rw [zoL,<-jq,<-xy,<-zzE fT];congr 1;omega⟩,lxb (lan hwi xx),gh⟩
  .have ab:decide ((i:Int)<(z:Int))=false:=ag fT;have gE:(z=(zh b).length)=True:=da na;have b3:List.take z (zh b)=zh b:=aA wP;refine' zc (zr ab gE b3 @if_true.{1} @zao @za5);have:i=z:=fT;subst this;rw [cu,cP] at jq;rw [putS8,U h,aw,jq]
@[go_sem] def zH:Ent Tryz.prog 153:= .m2 (intT .u64) (intT .i64) zzH
def zwL (s:Txt) (size:Int) (hs:s.length<=9223372036854775807):AC 191 [.d (.str s),.d (.int .i64 size)] (.tup [.d (.int .u64 (takeS s size).1),.d (.str (takeS s size).2.1),.d (.int .i64 (takeS s size).2.2)]):=by
 refine bod func191 ntmps191 (λbase=>?_);by_cases h:size<1\/8<size
 .refine' EY;refine' zc J;rw [takeS,aa h]
 .refine' Dy;refine' zc (zg J natC)
  .have hc:(s.length:Int)<z:=by simpa using hc
   simp only [takeS,U h,aa hc]
  have hc:¬(s.length:Int)<z:=gA;refine zk (λq: { i:Nat // i<=z } =>⟨[(0,true,.d (.str s)),(1,true,.d (.int .i64 z)),(7,true,.d (.int .u64 (takeN (s.take q.1)))),(8,true,.d (.int .i64 q.1))],[],some []⟩) (λq=>z - q.1) ⟨0,ad _⟩ le1 (λq=>?_);refine' Dl;rcases aO i z with aZ|gU
  .have ab:decide ((i:Int)<(z:Int))=true:=af fT;refine' CO;obtain ⟨c,hq⟩:=zaD (l:=s) (i:=i) fT;have an:s.getD i 0=c:=by rw [aN,hq];rfl
   have gf:=zwJ hq fT;refine' zc (zp ab an natC);exact ⟨⟨i+1,fT⟩,lxb (lan hwi gf),gh⟩
  .refine' GF
@[go_sem] def zx:Ent Tryz.prog 191:= .m2 strT (intT .i64) zwL
def zoM (c:UInt8):(decide ((c.toNat:Int)<33)||decide ((126:Int)<c.toNat))= !nameB c:=by
 rw [nameB,cg];congr 1
 .by_cases h:c.toNat<33
  .rw [af (p:=(c.toNat:Int)<33) fT,ag fT];rfl
  .rw [ag (p:=(c.toNat:Int)<33) fT,af fT];rfl
 .by_cases h:126<c.toNat
  .rw [af (p:=(126:Int)<c.toNat) fT,ag fT];rfl
  .rw [ag (p:=(126:Int)<c.toNat) fT,af fT];rfl
def zCs (n k:Nat):decide ((n:Int)<=k)=decide (n<=k):=by
 by_cases h:n<=k
 .rw [af h,af fT]
 .rw [ag h,ag fT]
def zud (s:Txt) (hs:s.length<=9223372036854775807):ACall Tryz.prog 28 0 [.d (.str s)] [] (λr _=>r= .d (.bool (zjm s))):=by
 refine bod func28 ntmps28 (λbase=>?_);refine' Ds;refine zk (λq: { i:Nat // i<=s.length/\s.all nameB=(s.drop i).all nameB } =>⟨[(0,true,.d (.str s)),(3,true,.d (.int .i64 q.1))],[],some []⟩) (λq=>s.length - q.1) ⟨0,ad _,rfl⟩ le1 (λq=>?_);refine' Di;rcases aO i s.length with aZ|gU
 .have J:decide ((i:Int)<(s.length:Int))=true:=af fT;refine' CO;obtain ⟨c,hq⟩:=zaD (l:=s) (i:=i) fT;have an:s.getD i 0=c:=by rw [aN,hq];rfl
  rw [zdO hq,bq] at hf;refine' zc (zp J an natC)
  .rw [zoM] at hc;have hc:nameB c=false:=gA;rw [zjm,hf,hc];rfl
  .rw [zoM] at hc;have hc:nameB c=true:=gA;rw [hc,bU] at hf;refine' Gh
 .have J:decide ((i:Int)<(s.length:Int))=false:=ag fT;refine' zc (zg J natC);rw [zjm,hf,bQ fT,show (8:Int)=((8:Nat):Int) from rfl,zCs];rfl
@[go_sem] def zfk:Ent Tryz.prog 28:= .ofL (consL strT nilL) (λ(s,_)=>s.length<=9223372036854775807) (λ(s,_)=> .d (.bool (zjm s))) (λ(s,_) hp=>⟨rfl,zud s hp⟩)
def zwM (n:Int) (h0:0<=n) (h1:n<=140737488355328):ACall Tryz.prog 253 0 [.d (.str [0]),.d (.int .i64 n)] [] (λr _=>r= .d (.str (List.replicate n.toNat 0))):=by refine' IJ;exact zsL m fT
@[go_sem] def zaz:Ent Tryz.prog 253:= .ofL (consL (zav (.d (.str [0]))) (consL (intT .i64) nilL)) (λ(_,n,_)=>(0<=n)/\(n<=140737488355328)) (λ(_,n,_)=> .d (.str (List.replicate n.toNat 0))) (λ(_,n,_) hp=>⟨rfl,zwM n hp.1 hp.2⟩)
def zDV (s:Txt) (n:Int) (hs:s.length<=9223372036854775807):AC 357 [.d (.str s),.d (.int .i64 n)] (.tup [.d (.str (padS s n).1),.d (.int .i64 (padS s n).2)]):=by
 refine bod func357 ntmps357 (λbase=>?_);by_cases h:n<s.length\/65536<n
 .refine' Hx
 .refine' FV;refine' walkW (zg J hm) (za zaz <| zb _)
  .rw [bB];omega
  .simp only [padS,U h]
@[go_sem] def zjN:Ent Tryz.prog 357:= .m2 strT (intT .i64) zDV
def zCt (s:Txt) (at_:Int) (t:Txt) (hp:s.length<=9223372036854775807/\t.length<=9223372036854775807):AC 366 [.d (.str s),.d (.int .i64 at_),.d (.str t)] (.tup [.d (.str (overS s at_ t).1),.d (.int .i64 (overS s at_ t).2)]):=by
 obtain ⟨hs,ht⟩:=hp;refine bod func366 ntmps366 (λbase=>?_);refine' F1
 .refine' IN;refine' zc (zg hm J);rw [overS,aa h]
 .refine' FC;refine' zc (zp hm J jg)
  .rw [az];omega
  .simp;omega
  .simp only [overS,U h]
@[go_sem] def zaM:Ent Tryz.prog 366:= .m3 strT (intT .i64) strT zCt
def zDW (k s:Nat) (J:s<=64) (h:k*2 ^ s<18446744073709551616):ishl .u64 (k:Int) (s:Int)=((k*2 ^ s:Nat):Int):=by
 unfold ishl;rw [show min ((s:Int).toNat) IntKind.u64.bits=s by show min ((s:Int).toNat) 64=s;omega,fA];have:(k:Int)*2 ^ s=((k*2 ^ s:Nat):Int):=by norm_cast
 rw [this];omega
def zue (a b:Nat) (J:a<18446744073709551616) (hb:b<18446744073709551616):ibits .or .u64 (a:Int) (b:Int)=((a ||| b:Nat):Int):=by have iP:a ||| b<18446744073709551616:=Nat.or_lt_two_pow (n:=64) J hb;unfold ibits;simp only [show IntKind.u64.bits=64 from rfl,cL,BitVec.toNat_or,bR];rw [bC fT,bC fT,fA];omega
def zuf {l:Txt} {i:Nat} {c:UInt8} (J:l[i]?=some c) (hi:i<8):ibits .or .u64 (ishl .u64 ((takeN (l.take i):Nat):Int) 8) (IntKind.u64.wrap (c.toNat:Int))=((takeN (l.take (i+1)):Nat):Int):=by have h1:takeN (l.take i)<256 ^ 7:=zdw hU;have h2:=c.toNat_lt;rw [zA (x:=(c.toNat:Int)) fT fT,show (8:Int)=((8:Nat):Int) from rfl,zDW _ _ fT fT,zue _ _ fT fT,zcT J,ziM,<-fG,<-fS (i:=8) fT,fG]
def zCu (s:Txt) (size:Int) (hs:s.length<=9223372036854775807):AC 147 [.d (.str s),.d (.int .i64 size)] (.tup [.d (.int .u64 (takeS s size).1),.d (.str (takeS s size).2.1),.d (.int .i64 (takeS s size).2.2)]):=by
 refine fbod func147 ntmps147 (λbase=>?_);by_cases h:size<1\/8<size
 .refine' EY;refine' zc J;rw [takeS,aa h]
 .refine' Dy;refine' zc (zg J natC)
  .have hc:(s.length:Int)<z:=by simpa using hc
   simp only [takeS,U h,aa hc]
  .have hc:¬(s.length:Int)<z:=by simpa using hc
   omega
  .rw [zdj]
  have hc:¬(s.length:Int)<z:=gA;have sO:(s.take z).length=z:=hU;simp only [sO];refine zk (λq: { i:Nat // i<=z } =>⟨[(0,true,.d (.str s)),(1,true,.d (.int .i64 z)),(7,true,.d (.int .u64 (takeN (s.take q.1)))),(25,true,.osl 0 1 z 0 z),(26,true,.d (.int .i64 z)),(27,true,.d (.int .i64 q.1))],[(0,.arr 1 (zh (s.take z)))],some []⟩) (λq=>z - q.1) ⟨0,ad _⟩ le1 (λq=>?_);refine' Dl;rcases aO i z with an|gU
  .have ab:decide ((i:Int)<(z:Int))=true:=af fT;refine' CO;obtain ⟨c,hq⟩:=zaD (l:=s) (i:=i) fT
   have ao:(zh (s.take z)).getD i []= [.int .u8 c.toNat]:=by rw [zjl (by rw [sO];omega),aN,dM,aa an,hq];rfl
   have gf:=zuf hq fT;have ji:(zh (s.take z)).length=z:=by rw [zdj,sO]
   refine' zc (zB ab ao ji natC);exact ⟨⟨i+1,fT⟩,lxb (lan hwi gf),gh⟩
  .refine' GF
@[go_sem] def zaN:Ent Tryz.prog 147:= .m2 strT (intT .i64) zCu
def zf5 (z i:Nat):List AV:= [.d (.int .i64 ((z:Int) - 1 - i)),.any]
def zcs (z:Nat):List (List AV):=(List.range z).map (zf5 z)
def putB (m z i:Nat):Txt:=List.replicate (z - i) 0++putN m i
def putH (m z i:Nat):AHeap:= [(3,.var [.osl 1 1 z 0 z]),(2,.var [.osl 1 1 z 0 z]),(1,.arr 1 (zh (putB m z i))),(0,.var [.d (.int .u64 ((m / 256 ^ i:Nat):Int))])]
def putF (m z i:Nat):AS:=⟨[(1,true,.vp 3 0)],putH m z i,some []⟩
def zid {m z i:Nat} (h:i<=z):(putB m z i).length=z:=by
 rw [putB,ae,bB,zu];omega
def zm4 (z:Nat):(zcs z).length=z:=by simp [zcs]
def zwT {z i:Nat} (h:i<z):(zcs z)[i]?=some (zf5 z i):=by simp [zcs,h]
def zoT {z i:Nat} (h:i<z):(zcs z).take i++ [zf5 z i]=(zcs z).take (i+1):=by
 rw [zcT (zwT h)]
def zwU {m z:Nat} (hz:z<=8) (y:Yo Tryz.prog (zcs z)) (v0:Value)
  (hS:∀g M N A w,y.G g M N A w->∃F,∃i,i<=z/\SatH F (putH m z i) w/\Rep w F (putH m z i) (.vp 3 0) v0) {E:Env} {w:World} (hs:SatH E [] w) (hG:y.G (some []) E.M E.N (Own E []) w):
  Calls Tryz.prog 343 (#[]++ #[Value.func (.yield y.yl) #[] #[]]++ #[v0]) w (λe w'=>∃v E' h' g,e= .returned v/\((∀xs,g=some xs->xs=zcs z)/\h'= [])/\SatH E' h' w'/\Evo 100 E [] w E' h' w'/\y.G g E'.M E'.N (Own E' h') w'):=by
 refine zkb (rq:=false) (fl:=100) (pre:= []) (caps:= [.raw v0]) (h:= []) (K:=λg h'=>(∀xs,g=some xs->xs=zcs z)/\h'= []) func343 rfl ntmps343 rfl fZ y (λbase=>?_) hs nr (by simp [Reps,Rep]) hG
 have pA:∀t:List (Nat×(Bool×AV)),lk t 1=some (true,.raw v0)->∀g M N A w,y.G g M N A w->∃F,∃b: { i:Nat // i<=z },SatH F (putF m z b.1).h w/\∀k g v,lk (putF m z b.1).t k=some (g,v)->g=true/\∃u,lk t k=some (true,.raw u)/\Rep w F (putF m z b.1).h v u:=by
  intro t ht g M N A w hg;obtain ⟨F,i,hi,h1,h2⟩:=hS g M N A w hg;refine ⟨F,⟨i,hi⟩,h1,?_⟩;intro k g v hk;simp only [putF,lk] at hk;split at hk
  .rename_i e;subst e;simp only [aB,aJ] at hk;obtain ⟨rfl,rfl⟩:=hk;exact ⟨rfl,v0,ht,h2⟩
  .cases hk
 have jS:IntKind.i64.wrap ((z:Int) - 1)=(z:Int) - 1:=zf fT fT;simp only [bh,za8];refine zhz noTab (zb _) _ _ (bO 4 _).symm (λb: { i:Nat // i<=z } =>putF m z b.1) (pA _ rfl) (λK hK b=>?_);simp only [go_sem,aeq,aeq.aeqF,simprocAttr,putF,putH];refine ⟨by rw [zdj,zid b.2],hK _ ?_⟩;clear hK K b;refine zbi ?_;refine zk (λq: { j:Nat // j<=z } =>⟨[(0,true,.fn (.yield y.yl) [] []),(1,true,.raw v0),(3,true,.d (.int .i64 ((z:Int) - 1 - q.1)))],[],some ((zcs z).take q.1)⟩) (λq=>z - q.1) ⟨0,ad _⟩ (by simp only [AS.le,leT,leH,ze,AsgK,AV.le,AV.leL,AObj.le,inH,idsT,idsH,AV.ids,AV.idsL,AV.idsR,AObj.ids,lk,hget,go_sem,aeq,aeq.aeqF,simprocAttr,jS]<;>simp) (λq=>?_);obtain ⟨j,hj⟩:=q;simp only at hj |-;rcases aO j z with an|gU
 .have J:decide ((0:Int)<=(z:Int) - 1 - j)=true:=af fT;have nQ:IntKind.i64.wrap ((z:Int) - 1 - j - 1)=(z:Int) - 1 - (j+1:Nat):=gP;have hp:((zcs z).take j++ [zf5 z j])<+:zcs z:=by rw [zoT an];exact List.take_prefix _ _
  have pB:=zoT an;simp only [zf5] at hp pB;refine' zwA (zL 3) J;refine zhz noTab (zb _) _ _ (bO 6 _).symm (λb: { i:Nat // i<=z } =>putF m z b.1) (pA _ rfl) (λK hK b=>?_);have h3:((z:Int) - 1 - j).toNat<z:=fT;have c8:(zh (putB m z b.1)).length=z:=by rw [zdj,zid b.2]
  simp only [go_sem,aeq,aeq.aeqF,simprocAttr,putF,putH,c8];refine ⟨⟨fT,fT⟩,h3,hp,?_,?_⟩
  .refine hK _ ?_;clear hK K;refine' zaQ fx;exact ⟨⟨j+1,fT⟩,lxb (lan nQ pB),gh⟩
  .refine hK _ ?_;clear hK K;refine' zaQ fx
 .have J:decide ((0:Int)<=(z:Int) - 1 - j)=false:=ag fT;refine' zaQ J;rintro xs rfl;exact aA (by rw [zm4];omega)
def zoU (m z:Nat):putH m z 0= [(3,.var [.osl 1 1 z 0 z]),(2,.var [.osl 1 1 z 0 z]),(1,.arr 1 (List.replicate z [D.int .u8 0])),(0,.var [.d (.int .u64 (m:Int))])]:=by
 rw [putH,putB,zdQ];simp [putN]
def zzS (m z:Nat):ACall Tryz.prog 282 3 [.osl 1 1 z 0 z] [(2,.var [.osl 1 1 z 0 z]),(1,.arr 1 (List.replicate z [D.int .u8 0])),(0,.var [.d (.int .u64 (m:Int))])] (λr h'=>r= .fn (.func 343) [] [.vp 3 0]/\h'=putH m z 0):=by refine bod func282 ntmps282 (λbase=>?_);refine' Ds;rw [zoU]
def zDY (n:Int) (size:Int) (h0:0<=n) (h1:n<18446744073709551616):ACall Tryz.prog 219 0 [.d (.int .u64 n),.d (.int .i64 size)] [] (λr _=>r= .d (.str (putS8 n size))):=by
 refine fbod func219 ntmps219 (λbase=>?_);by_cases h:size<1\/8<size
 .refine' EY;refine' zau J;rw [putS8,aa h]
 .refine' Dy;refine' zau (zg J natC);refine' IJ;refine ((zzS m z).whole (zV rfl) (ad _) (by rintro r h' ⟨_,rfl⟩ i hi;rw [zoU];simp only [hget] at hi |-;repeat' split<;>simp_all)).mono ?_;refine' Cp;refine hK _ ?_;clear hK K;refine zbi ?_;rw [zoU];refine aw_le ⟨[(16,true,.fn (.func 343) [] [.vp 3 0]),(5,true,.vp 2 0),(2,true,.vp 0 0)],[(3,.var [.osl 1 1 z 0 z]),(2,.var [.osl 1 1 z 0 z]),(1,.arr 1 (List.replicate z [D.int .u8 0])),(0,.var [.d (.int .u64 (m:Int))])],some []⟩ le0 ?_;obtain ⟨I,hI⟩:∃I:List (List AV)->AHeap×Option (List (List AV)),I=λxs=>(putH m z (min xs.length z),some []):=⟨_,rfl⟩
  refine zui (q:=3) (items:=zcs z) 100 I rfl rfl (zcR func343 fX rfl) ?_ ?_ nq ?_ ?_ ?_ ?_ ?_ ?_ ?_ ?_ ?_
  .intro y v0 hy E w hs hG;refine zwU (m:=m) rn y v0 (λg M N A w hg=>?_) hs hG;obtain ⟨F,xs,q1,q2⟩:=hy g M N A w hg;rw [hI] at q1 q2;exact ⟨F,_,Nat.min_le_right _ _,q1,q2⟩
  .exact zV rfl
  .exact ⟨_,rfl⟩
  .intro xs;rw [hI];exact ⟨_,rfl⟩
  .rw [hI];simp only [aM,Nat.zero_min,zoU];exact lxa
  .rw [hI];simp only [aM,Nat.zero_min,zoU];exact lxa
  .rw [hI]
  .intro x hx;obtain ⟨i,_,rfl⟩:=ba.1 hx;rfl
  .intro t ht;simp at ht;rcases ht with rfl|rfl<;>simp [cxOf]
  .intro xs x bu l1 r1
   have ab:xs.length<z:=by have:=bu.length_le;rw [ae,zm4] at this;simp only [bl] at this;omega
   have hx:x=zf5 z xs.length:=by obtain ⟨r,hr⟩:=bu;have:=congrArg (λl=>l[xs.length]?) hr;simp only [zwT ab] at this;simpa using this
   subst hx;have nP:min xs.length z=xs.length:=fT;have vj:min (xs.length+1) z=xs.length+1:=fT;rw [hI];simp only [nP,ae,bl,vj,zf5];generalize xs.length=i at ab;clear nP vj bu hI;have c8:(zh (putB m z i)).length=z:=by rw [zdj,zid fT]
   have vk:((z:Int) - 1 - i).toNat=z - 1 - i:=fT;have qg:decide ((z:Int) - 1 - i<z)=true:=af fT;have BD:decide (0<=(z:Int) - 1 - i)=true:=af fT;have kj:IntKind.u8.wrap ((m / 256 ^ i:Nat):Int)=((UInt8.ofNat (m / 256 ^ i)).toNat:Int):=u8_of _
   have ly:ishr .u64 ((m / 256 ^ i:Nat):Int) 8=((m / 256 ^ (i+1):Nat):Int):=by rw [show (8:Int)=((8:Nat):Int) from rfl,zBO _ _ fT,Nat.div_div_eq_div_mul,Nat.pow_succ 256 i]
   have hset:(zh (putB m z i)).set (z - 1 - i) (((zh (putB m z i)).getD (z - 1 - i) []).set 0 (D.int .u8 (IntKind.u8.wrap ((m / 256 ^ i:Nat):Int))))=zh (putB m z (i+1)):=by rw [zoK (by rw [zid fT];omega) _ kj];congr 1;have e1:z - i=(z - 1 - i)+1:=fT;have e2:z - (i+1)=z - 1 - i:=fT;rw [putB,putB,e1,e2,zoL,fH,aY,fI,U fZ];simp
   refine aw_le ⟨[(17,true,.d (.int .i64 ((z:Int) - 1 - i))),(5,true,.vp 2 0),(2,true,.vp 0 0)],[(3,.var [.osl 1 1 z 0 z]),(2,.var [.osl 1 1 z 0 z]),(1,.arr 1 (zh (putB m z i))),(0,.var [.d (.int .u64 ((m / 256 ^ i:Nat):Int))])],some []⟩ (by rw [putH];exact lxa) ?_
   (have tk:=zb Tryz.prog);repeat' (first|((first|(refine sa ?_;intro K hK)|refine sb ?_);simp only [go_sem,aeq,aeq.aeqF,simprocAttr,c8,vk,hset,ly,results219])|refine zaC (λK hK=>?_)|refine sc ?_|refine za1 rfl (λhc=>?_) (λhc=>?_)|(refine hK _ ?_;clear hK K)|((first|refine (show AS.le _ _ from ?_)|refine (show leH _ _ from ?_)|refine (show inH _ _ from ?_));simp only [AS.le,leT,leH,ze,AsgK,AV.le,AV.leL,AObj.le,inH,idsT,idsH,AV.ids,AV.idsL,AV.idsR,AObj.ids,lk,hget,go_sem,aeq,aeq.aeqF,simprocAttr,c8,vk,hset,ly])|refine λ(r2:Rnd _)=>?_|with_reducible refine And.intro ?_ ?_|exact ‹_<+:_› |omega|assumption|refine λ(hg:(_:Bool)=(_:Bool))=>?_|clear hK K)
   .rw [putH];simp only [AS.le,leT,leH,ze,AsgK,AV.le,AV.leL,AObj.le,inH,idsT,idsH,AV.ids,AV.idsL,AV.idsR,AObj.ids,lk,hget,go_sem,aeq,aeq.aeqF,simprocAttr]
   .rw [putH];exact lxa
  .have nP:min (zcs z).length z=z:=by rw [zm4];omega
   rw [hI];simp only [nP];have c8:(zh (putB m z z)).length=z:=by rw [zdj,zid fT]
   have xA:putB m z z=putN m z:=by rw [putB,cu];rfl
   have BE:(z=(zh (putB m z z)).length)=True:=da c8.symm;have vl:List.take z (zh (putB m z z))=zh (putB m z z):=aA fT
   (have tk:=zb Tryz.prog);repeat' (first|((first|(refine sa ?_;intro K hK)|refine sb ?_);simp only [go_sem,aeq,aeq.aeqF,simprocAttr,putH,c8,results219])|refine zaC (λK hK=>?_)|refine sc ?_|refine za1 rfl (λhc=>?_) (λhc=>?_)|(refine hK _ ?_;clear hK K)|((first|refine (show AS.le _ _ from ?_)|refine (show leH _ _ from ?_)|refine (show inH _ _ from ?_));exact lxb (lan @putH.eq_1 c8))|refine λ(r2:Rnd _)=>?_|with_reducible refine And.intro ?_ ?_|exact ‹_<+:_› |omega|assumption|refine λ(hg:(_:Bool)=(_:Bool))=>?_|clear hK K)
   .rw [vl];exact za5 _
   .have hn:(z:Int) - 1=z - 1:=rfl;rw [vl,zao,xA,putS8,U h];rfl
@[go_sem] def zaJ:Ent Tryz.prog 219:= .ofL (consL (intT .u64) (consL (intT .i64) nilL)) (λ(n,size,_)=>(0<=n)/\(n<18446744073709551616)) (λ(n,size,_)=> .d (.str (putS8 n size))) (λ(n,size,_) hp=>⟨rfl,zDY n size hp.1 hp.2⟩)
end
end Go.Aw
