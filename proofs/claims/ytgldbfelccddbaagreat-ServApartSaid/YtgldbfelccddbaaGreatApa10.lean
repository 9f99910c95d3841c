/- Lemmas. -/
import Derived.Test.YtgldbfelccddbaaGreatApa8
set_option linter.all false
set_option maxRecDepth 100000
set_option maxHeartbeats 2000000
namespace Go.Aw
noncomputable section
open Go Go.Proofs Go.Proofs.Tryz
def zzY (n k:Nat) (J:k<=32):ishr .u32 (n:Int) (k:Int)=((n / 2 ^ k:Nat):Int):=by unfold ishr;rw [show min ((k:Int).toNat) IntKind.u32.bits=k by show min ((k:Int).toNat) 32=k;omega];rw [eP _ (Int.le_of_lt (Int.pow_pos gb))];norm_cast
abbrev B32:=BitVec 32
def polyB:B32:=2197175160#32
def bT (x:B32):B32:=(x>>>1) ^^^ (if x.getLsbD 0 then polyB else 0#32)
def bN:Nat->B32->B32
 |0,x=>x
 |n+1,x=>bT (bN n x)
def u8B (b:UInt8):B32:=BitVec.ofNat 32 b.toNat
def stepB (c:B32) (b:UInt8):B32:=bN 8 (c ^^^ u8B b)
def sumB (c:B32) (l:List UInt8):B32:=l.foldl stepB c
def xor4 (a b c d:B32):(a ^^^ b) ^^^ (c ^^^ d)=(a ^^^ c) ^^^ (b ^^^ d):=by ac_rfl
def zD0 (x y:B32):bT (x ^^^ y)=bT x ^^^ bT y:=by unfold bT;rw [fQ,xor4 (x>>>1)];congr 1;rw [fB];cases x.getLsbD 0<;>cases y.getLsbD 0<;>simp
def zlU (n:Nat) (x y:B32):bN n (x ^^^ y)=bN n x ^^^ bN n y:=by
 induction n with
 |zero=>rfl
 |succ n J=>simp only [bN,J,zD0]
def zsX (n:Nat):∀ (x:B32),(∀i,i<n->x.getLsbD i=false)->bN n x=x>>>n:=by
 induction n with
 |zero=>intro x _;simp [bN]
 |succ n J=>
  intro x h;simp only [bN];rw [J x (λi hi=>h i fT)];unfold bT;have:(x>>>n).getLsbD 0=false:=by simpa using h n fT
  rw [this];simp only [bj,aK,BitVec.xor_zero];rw [<-BitVec.shiftRight_add]
def low8 (x:B32):B32:=x&&& 255#32
def high8 (x:B32):B32:=x&&& 4294967040#32
def zzZ (x:B32):x=low8 x ^^^ high8 x:=by have e:(4294967040#32)= ~~~(255#32):=gb;unfold low8 high8;rw [e];apply ea;intro i hi;simp only [fB,cZ,fC,hi,decide_true,bU];cases x.getLsbD i<;>cases (255#32).getLsbD i<;>rfl
def zw2 (x:B32) (i:Nat) (hi:i<8):(high8 x).getLsbD i=false:=by unfold high8;rw [cZ];have:∀i,i<8->(4294967040#32).getLsbD i=false:=gb;rw [this i hi,eb]
def zqQ (x:B32):high8 x>>>8=x>>>8:=by
 unfold high8;apply ea;intro i hi;simp only [BitVec.getLsbD_ushiftRight,cZ];by_cases h:8+i<32
 .have:∀i,i<24->(4294967040#32).getLsbD (8+i)=true:=by decide
  rw [this i fT,cR]
 .rw [BitVec.getLsbD_of_ge x _ fT,cD]
def zw3 (x:B32):bN 8 x=bN 8 (low8 x) ^^^ (x>>>8):=by
 conv=>lhs;rw [zzZ x]
 rw [zlU,zsX 8 (high8 x) (zw2 x),zqQ]
def zz0 (b:UInt8):u8B b>>>8=0#32:=by have:=b.toNat_lt;apply fD;simp [u8B,Nat.shiftRight_eq_div_pow];omega
def zCI (b:UInt8):low8 (u8B b)=u8B b:=by have:=b.toNat_lt;apply fD;simp only [low8,u8B,dx,bR];rw [show 255 % 2 ^ 32=2 ^ 8 - 1 by decide,dX];omega
def zw4 (c:B32) (b:UInt8):stepB c b=bN 8 (low8 c ^^^ u8B b) ^^^ (c>>>8):=by
 unfold stepB;rw [zw3]
 have h1:low8 (c ^^^ u8B b)=low8 c ^^^ u8B b:=by
  conv=>rhs;rw [<-zCI b]
  unfold low8;apply ea;intro i hi;simp only [fB,cZ];cases c.getLsbD i<;>cases (u8B b).getLsbD i<;>cases (255#32).getLsbD i<;>rfl
 rw [h1,fQ,zz0,BitVec.xor_zero]
def ze2 (c:B32) (a b:List UInt8):sumB c (a++b)=sumB (sumB c a) b:=by simp [sumB,eM]
def toI (x:B32):Int:=x.toNat
def zo1 (n:Nat) (h:n<4294967296):toI (BitVec.ofNat 32 n)=n:=by unfold toI;rw [bR,bC h]
def ofI (c:Int) (h0:0<=c) (h1:c<=4294967295):∃x:B32,c=toI x:=
 ⟨BitVec.ofNat 32 c.toNat,by rw [zo1 _ fT];omega⟩
def zsY (x:B32):BitVec.ofInt 32 (toI x)=x:=by unfold toI;rw [cL];simp
def zfK (x y:B32):ibits .xor .u32 (toI x) (toI y)=toI (x ^^^ y):=by show IntKind.u32.wrap ((BitVec.ofInt 32 (toI x) ^^^ BitVec.ofInt 32 (toI y)).toNat:Int)=_;rw [zsY,zsY];have:=(x ^^^ y).isLt;unfold toI;rw [ed];omega
def zw6 (x y:B32):ibits .and .u32 (toI x) (toI y)=toI (x&&& y):=by show IntKind.u32.wrap ((BitVec.ofInt 32 (toI x)&&& BitVec.ofInt 32 (toI y)).toNat:Int)=_;rw [zsY,zsY];have:=(x&&& y).isLt;unfold toI;rw [ed];omega
def zjQ (x:B32) (k:Nat) (J:k<=32):ishr .u32 (toI x) (k:Int)=toI (x>>>k):=by unfold toI;rw [zzY _ _ J,BitVec.toNat_ushiftRight,Nat.shiftRight_eq_div_pow]
def zz1 (x:B32):bitT (toI x)=toI (bT x):=by
 unfold bitT bT;have h1:(1:Int)=toI 1#32:=gb;have J:ishr .u32 (toI x) 1=toI (x>>>1):=zjQ x 1 fT;rw [J];have ha:ibits .and .u32 (toI x) 1=toI (x&&& 1#32):=by rw [h1,zw6]
 rw [ha]
 have hb:x&&& 1#32=if x.getLsbD 0 then 1#32 else 0#32:=by
  apply ea;intro i hi;rw [cZ];cases i with
  |zero=>cases x.getLsbD 0<;>rfl
  |succ i=>
   have:(1#32).getLsbD (i+1)=false:=by simp [BitVec.getLsbD_one]
   rw [this,eb];split<;>simp
 rw [hb];cases x.getLsbD 0
 .simp only [bj,aK];rw [show IntKind.u32.wrap (toI 0#32*2197175160)=toI 0#32 by decide,zfK]
 .simp only [av];rw [show IntKind.u32.wrap (toI 1#32*2197175160)=toI polyB by decide,zfK]
def zw7 (n:Nat) (x:B32):bitsT n (toI x)=toI (bN n x):=by
 induction n with
 |zero=>rfl
 |succ n J=>simp only [bitsT,bN,J,zz1]
def zz2 (x:B32) (h:x.toNat<4294967296):tabF x.toNat=toI (bN 8 x):=by
 unfold tabF
 have:IntKind.u32.wrap (x.toNat:Int)=toI x:=by unfold toI;rw [ed];omega
 rw [this,zw7]
def zun (x:B32) (b:UInt8):(ibits .xor .u8 (IntKind.u8.wrap (toI x)) b.toNat).toNat=(low8 x ^^^ u8B b).toNat:=by
 have hb:=b.toNat_lt
 have h1:IntKind.u8.wrap (toI x)=((x.toNat % 256:Nat):Int):=by unfold toI;rw [eL];omega
 rw [h1];have hx:x.toNat % 256<256:=Nat.mod_lt _ fT;have h2:=Nat.xor_lt_two_pow (n:=8) (x:=x.toNat % 256) (y:=b.toNat) fT fT
 have J:(low8 x ^^^ u8B b).toNat=(x.toNat % 256) ^^^ b.toNat:=by simp only [low8,u8B,BitVec.toNat_xor,dx,bR];rw [show 255 % 2 ^ 32=2 ^ 8 - 1 by decide,dX,bC (show b.toNat<2 ^ 32 by omega)]
 rw [J];show (IntKind.u8.wrap ((BitVec.ofInt 8 ((x.toNat % 256:Nat):Int) ^^^ BitVec.ofInt 8 ((b.toNat:Nat):Int)).toNat:Int)).toNat=_;rw [cL,cL,BitVec.toNat_xor,bR,bR,bC (show x.toNat % 256<2 ^ 8 by omega),bC (show b.toNat<2 ^ 8 by omega),eL];omega
def zw8 (x:B32) (b:UInt8):byteS (toI x) b=toI (stepB x b):=by unfold byteS;rw [zun,zz2 _ (BitVec.isLt _),show ishr .u32 (toI x) 8=toI (x>>>8) from zjQ x 8 fT,zfK,zw4]
def zz3 (x:B32) (l:List UInt8):sumS (toI x) l=toI (sumB x l):=by
 induction l generalizing x with
 |nil=>rfl
 |cons b l J=>
  simp only [sumS,sumB,cA,zw8] at*;exact J _
def onesB:B32:=4294967295#32
def zm6 (x:B32):notS (toI x)=toI (onesB ^^^ x):=by unfold notS;rw [show (if IntKind.u32.signed=true then (-1:Int) else IntKind.u32.max)=toI onesB from gb,zfK]
def zo2 (x:B32) (l:List UInt8):sumOf (toI x) l=toI (onesB ^^^ sumB (onesB ^^^ x) l):=by unfold sumOf;rw [zm6,zz3,zm6]
def zCK (b:UInt8):IntKind.u32.wrap (b.toNat:Int)=toI (u8B b):=by have:=b.toNat_lt;unfold u8B;rw [zo1 _ fT,ed];omega
def rem2 (x:B32):((toI x).tmod 2==1)=x.getLsbD 0:=by
 unfold toI;have h0:(x.toNat:Int).tmod 2=((x.toNat % 2:Nat):Int):=by rw [bX fT];omega
 rw [h0]
 have h1:x.getLsbD 0=decide (x.toNat % 2=1):=by rw [BitVec.getLsbD,Nat.testBit_zero]
 rw [h1];rcases Nat.mod_two_eq_zero_or_one x.toNat with h|h<;>rw [h]<;>rfl
def zw9 (x:B32) (h:x.getLsbD 0=true):ibits .xor .u32 (ishr .u32 (toI x) 1) 2197175160=toI (bT x):=by rw [show ishr .u32 (toI x) 1=toI (x>>>1) from zjQ x 1 fT,show (2197175160:Int)=toI polyB by decide,zfK];unfold bT;rw [h];rfl
def zuo (x:B32) (h:x.getLsbD 0=false):ishr .u32 (toI x) 1=toI (bT x):=by rw [show ishr .u32 (toI x) 1=toI (x>>>1) from zjQ x 1 fT];unfold bT;rw [h];simp
def zup (x:B32) (l:List UInt8) (hl:l.length<=9223372036854775807):ACall Tryz.prog 221 0 [.d (.int .u32 (toI x)),.d (.str l)] [] (λr _=>r= .d (.int .u32 (toI (onesB ^^^ sumB (onesB ^^^ x) l)))):=by
 have nJ:∀y:B32,ibits .xor .u32 (if IntKind.u32.signed=true then (-1:Int) else IntKind.u32.max) (toI y)=toI (onesB ^^^ y):=zm6;refine zbj func221 rfl (zcR func221 fX rfl) ntmps221 fZ (λbase=>?_);refine' Dj;refine' Gk;refine zaC (λK1 mZ=>?_);refine' Dj;refine zbi ?_;refine zk (λi: {i:Nat // i<=l.length} =>⟨[(1,true,.d (.str l)),(5,true,.d (.int .u32 (toI (sumB (onesB ^^^ x) (l.take i.1))))),(6,true,.d (.int .i64 i.1))],[],some []⟩) (λi=>l.length - i.1) ⟨0,fT⟩ (by simp only [AS.le,leT,leH,ze,AsgK,AV.le,AV.leL,AObj.le,inH,idsT,idsH,AV.ids,AV.idsL,AV.idsR,AObj.ids,lk,hget,go_sem,aj,aU,aV,aW,aw,aeq,aeq.aeqF,simprocAttr]<;>simp [sumB]) (λi=>?_);obtain ⟨i,hi⟩:=i;refine zaC (λK2 lx=>?_);refine' Dj;refine' EL
 .refine zfU ?_;simp only [go_sem,aj,aU,aV,aW,aw,aeq,aeq.aeqF,simprocAttr];refine lx _ ?_;clear lx K2;have iX:i<l.length:=sw;obtain ⟨b,hb⟩:∃b,l[i]?=some b:=⟨l[i],by simp [iX]⟩
  have J:l.getD i 0=b:=by simp [aN,hb]
  refine zaC (λK3 mm=>?_);refine zbi ?_;refine zj noTab (zb _) (λK hK=>?_);simp only [go_sem,aj,aU,aV,aW,aw,aeq,aeq.aeqF,simprocAttr,J,zCK,zfK];refine ⟨⟨fT,fT⟩,hK _ ?_⟩;clear hK;refine' Dj;refine zbi ?_;refine zk (λk: {k:Nat // k<=8} =>⟨[(1,true,.d (.str l)),(6,true,.d (.int .i64 i)),(5,true,.d (.int .u32 (toI (bN k.1 (sumB (onesB ^^^ x) (l.take i) ^^^ u8B b))))),(7,true,.d (.int .i64 k.1))],[],some []⟩) (λk=>8 - k.1) ⟨0,fT⟩ (by simp only [AS.le,leT,leH,ze,AsgK,AV.le,AV.leL,AObj.le,inH,idsT,idsH,AV.ids,AV.idsL,AV.idsR,AObj.ids,lk,hget,go_sem,aj,aU,aV,aW,aw,aeq,aeq.aeqF,simprocAttr]<;>simp [bN]) (λk=>?_);obtain ⟨k,hk⟩:=k;refine zaC (λK4 oo=>?_);refine' Dj;refine' EL
  .refine zfU ?_;simp only [go_sem,aj,aU,aV,aW,aw,aeq,aeq.aeqF,simprocAttr];refine oo _ ?_;clear oo K4;have mn:k<8:=sw;have hw:IntKind.i64.wrap ((k:Int)+1)=((k+1:Nat):Int):=iM;refine zaC (λK5 re=>?_);refine zbi ?_;refine zj noTab (zb _) (λK hK=>?_);simp only [go_sem,aj,aU,aV,aW,aw,aeq,aeq.aeqF,simprocAttr,rem2];refine hK _ ?_;clear hK K;refine' EL
   .have gE:(bN k (sumB (onesB ^^^ x) (l.take i) ^^^ u8B b)).getLsbD 0=true:=by simpa using hc
    refine zaZ noTab (zb _) ?_;simp only [go_sem,aj,aU,aV,aW,aw,aeq,aeq.aeqF,simprocAttr,zw9 _ gE];refine' DL
   .have gE:(bN k (sumB (onesB ^^^ x) (l.take i) ^^^ u8B b)).getLsbD 0=false:=by simpa using hc
    refine zaZ noTab (zb _) ?_;simp only [go_sem,aj,aU,aV,aW,aw,aeq,aeq.aeqF,simprocAttr,zuo _ gE];refine' DL
  .refine zfV ?_;simp only [go_sem,aj,aU,aV,aW,aw,aeq,aeq.aeqF,simprocAttr];refine mm _ ?_;have sI:k=8:=sw;subst sI;refine zaZ noTab (zb _) ?_;simp only [go_sem,aj,aU,aV,aW,aw,aeq,aeq.aeqF,simprocAttr];have hw:IntKind.i64.wrap ((i:Int)+1)=((i+1:Nat):Int):=iM;refine ⟨⟨i+1,fT⟩,?_,gh⟩;rw [hw]
   have hs:sumB (onesB ^^^ x) (l.take (i+1))=bN 8 (sumB (onesB ^^^ x) (l.take i) ^^^ u8B b):=by rw [dr,hb,Option.toList_some,ze2];rfl
   rw [hs];simp only [AS.le,leT,leH,ze,AsgK,AV.le,AV.leL,AObj.le,inH,idsT,idsH,AV.ids,AV.idsL,AV.idsR,AObj.ids,lk,hget,go_sem,aj,aU,aV,aW,aw,aeq,aeq.aeqF,simprocAttr]
 .refine zfV ?_;simp only [go_sem,aj,aU,aV,aW,aw,aeq,aeq.aeqF,simprocAttr];refine mZ _ ?_;have iX:i=l.length:=sw;subst iX;refine' Gk;refine zhu ?_;simp only [go_sem,aj,aU,aV,aW,aw,aeq,aeq.aeqF,simprocAttr,results221];try rw [aL]
def zqR (c:Int) (l:List UInt8) (h0:0<=c) (h1:c<=4294967295) (J:l.length<=9223372036854775807):ACall Tryz.prog 221 0 [.d (.int .u32 c),.d (.str l)] [] (λr _=>r= .d (.int .u32 (sumOf c l))):=by obtain ⟨x,rfl⟩:=ofI c h0 h1;rw [zo2];exact zup x l J
def zqS (c:Int) (h0:0<=c) (h1:c<=4294967295):ACall Tryz.prog 155 0 [.d (.int .u32 c)] [] (λr _=>r= .d (.str (zgM c))):=by
 refine zbj func155 rfl (zcR func155 fX rfl) ntmps155 fZ (λbase=>?_);refine' Dj;refine zj noTab (zb _) (λK hK=>?_);simp only [go_sem,aj,aU,aV,aW,aw,aeq,aeq.aeqF,simprocAttr];refine ⟨rfl,hK _ ?_⟩;clear hK K;refine zhu ?_;simp only [go_sem,aj,aU,aV,aW,aw,aeq,aeq.aeqF,simprocAttr,results155]
 have e3:zdy c 3=IntKind.u8.wrap c:=by unfold zdy ishr;rw [show IntKind.i64.wrap (24 - IntKind.i64.wrap (8*((3:Nat):Int)))=0 by decide];simp
 have J:zdy c 2=IntKind.u8.wrap (ishr .u32 c 8):=by unfold zdy;rw [show IntKind.i64.wrap (24 - IntKind.i64.wrap (8*((2:Nat):Int)))=8 by decide]
 have e1:zdy c 1=IntKind.u8.wrap (ishr .u32 c 16):=by unfold zdy;rw [show IntKind.i64.wrap (24 - IntKind.i64.wrap (8*((1:Nat):Int)))=16 by decide]
 have e0:zdy c 0=IntKind.u8.wrap (ishr .u32 c 24):=by unfold zdy;rw [show IntKind.i64.wrap (24 - IntKind.i64.wrap (8*((0:Nat):Int)))=24 by decide]
 simp only [zgM,bytesOf,au,bM,numOf,e0,e1,J,e3]
def zgO (c:Int) (l:List UInt8) (h0:0<=c) (h1:c<=4294967295):0<=sumOf c l/\sumOf c l<=4294967295:=by obtain ⟨x,rfl⟩:=ofI c h0 h1;rw [zo2];unfold toI;have:=(onesB ^^^ sumB (onesB ^^^ x) l).isLt;omega
@[go_sem] def zcc:Ent Tryz.prog 221:= .ofL (consL (intT .u32) (consL strT nilL)) (λ(c,l,_)=>(0<=c)/\(c<=4294967295)/\(l.length<=9223372036854775807)) (λ(c,l,_)=> .d (.int .u32 (sumOf c l))) (λ(c,l,_) hp=>⟨rfl,zqR c l hp.1 hp.2.1 hp.2.2⟩)
@[go_sem] def zaV:Ent Tryz.prog 155:= .ofL (consL (intT .u32) nilL) (λ(c,_)=>(0<=c)/\(c<=4294967295)) (λ(c,_)=> .d (.str (zgM c))) (λ(c,_) hp=>⟨rfl,zqS c hp.1 hp.2⟩)
def zz4 (l:List UInt8) (J:l.length<=9223372036854775807):ACall Tryz.prog 156 0 [.d (.str l)] [] (λr _=>r= .d (.int .u32 (sumOf 0 l))):=by refine bod func156 ntmps156 (λbase=>?_);refine' walkW fx (za zcc <| zb _)
@[go_sem] def zbV:Ent Tryz.prog 156:= .ofL (consL strT nilL) (λ(l,_)=>l.length<=9223372036854775807) (λ(l,_)=> .d (.int .u32 (sumOf 0 l))) (λ(l,_) hp=>⟨rfl,zz4 l hp⟩)
end
end Go.Aw
