/- Lemmas. -/
import Derived.Test.YtgldbfelccddbaaGreatApa37
import Derived.Test.YtgldbfelccddbaaGreatApa39
set_option linter.all false
set_option maxRecDepth 100000
set_option maxHeartbeats 2000000
namespace Go.Aw
noncomputable section
open Go Go.Proofs Go.Proofs.Tryz
def zd2 (p:UInt8×UInt8):List AV:= [.d (.sl 1 [[.int .u8 p.1.toNat],[.int .u8 p.2.toNat]])]
def zx5 {s:Txt} {n j:Nat} (J:s.length=2*n) (hj:j<n):∃p:UInt8×UInt8,s.drop (2*j)=p.1::p.2::s.drop (2*(j+1)):=by have h1:=eJ (l:=s) (i:=2*j) fT;have h2:=eJ (l:=s) (i:=2*j+1) fT;refine ⟨(s[2*j]' fT,s[2*j+1]' fT),?_⟩;rw [h1,h2];rfl
def zx6 (s:Txt):ACall Tryz.prog 351 0 [.d (.sl 1 (zh s)),.d (.int .i64 2)] [] (λr _=>r= .fn (.func 392) [] [.dp [.d (.sl 1 (zh s))],.dp [.d (.int .i64 2)]]):=by refine fbod func351 ntmps351 (λbase=>?_);refine' Ds
def znr (s:Txt) (n:Nat) (hs:s.length=2*n) (hn:n<=1000000):AIter Tryz.prog 392 100 [] [.dp [.d (.sl 1 (zh s))],.dp [.d (.int .i64 2)]] [] ((duos s).map zd2) (λg h'=>(∀xs,g=some xs->xs=(duos s).map zd2)/\h'= []):=by
 refine itr func392 ntmps392 (λbase y=>?_);refine zfI ?_;have c8:(zh s).length=2*n:=by rw [zh,al,hs]
 refine' zaQ fx;refine zk (λq: { q:Nat×List (List AV) // q.1<=n/\q.2++(duos (s.drop (2*q.1))).map zd2=(duos s).map zd2 } =>⟨[(0,true,.fn (.yield y.yl) [] []),(1,true,.dp [.d (.sl 1 (zh s))]),(2,true,.dp [.d (.int .i64 2)]),(4,true,.d (.int .i64 ((2*q.1.1:Nat):Int)))],[],some q.1.2⟩) (λq=>n - q.1.1) ⟨(0,[]),ad _,rfl⟩ le1 (λq=>?_);obtain ⟨⟨j,xs⟩,hj,hf⟩:=q;simp only at hj hf |-;rcases aO j n with an|gU
 .obtain ⟨⟨a,b⟩,hd⟩:=zx5 hs an;simp only at hd;have J:decide (((2*j:Nat):Int)<((2*n:Nat):Int))=true:=af fT
  have hm:imin 2 ((((zh s).take (2*n)).drop (2*j)).length:Int)=2:=by rw [ak,az,c8];unfold imin;split<;>omega
  have hw:IntKind.i64.wrap (((2*j:Nat):Int)+2)=((2*(j+1):Nat):Int):=gP
  have pj:((zh s).take (2*(j+1))).drop (2*j)= [[.int .u8 a.toNat],[.int .u8 b.toNat]]:=by
   have e:(zh s).drop (2*j)= [.int .u8 a.toNat]:: [.int .u8 b.toNat]::zh (s.drop (2*(j+1))):=by unfold zh;rw [<-dy,hd];rfl
   rw [cw,e,show 2*(j+1) - 2*j=2 by omega];rfl
  rw [hd,duos,au] at hf;have bu:(xs++ [zd2 (a,b)])<+:(duos s).map zd2:=jT;simp only [zd2] at bu;refine' zaQ (zr J c8 hm hw pj @natC);exact ⟨⟨(j+1,xs++ [zd2 (a,b)]),fT,jT⟩,lxb @zd2.eq_1,gh⟩
 .have J:decide (((2*j:Nat):Int)<((2*n:Nat):Int))=false:=ag fT;refine' zaQ (zg J c8);rintro zs rfl;rw [<-hf,bQ fT,show duos []= [] from rfl];simp
def duoL (l:List (UInt8×UInt8)):List (List D):=(l.map duoN).map intD
@[simp] def duoL_nil:duoL []= []:=rfl
def zEd (a b:UInt8):ibits .or .i64 (ishl .i64 (a.toNat:Int) 8) (b.toNat:Int)=duoN (a,b):=by
 have h1:=a.toNat_lt;have h2:=b.toNat_lt
 have J:ishl .i64 (a.toNat:Int) 8=((a.toNat*2 ^ 8:Nat):Int):=by unfold ishl;rw [show min ((8:Int).toNat) IntKind.i64.bits=8 from rfl,zf fT fT];norm_cast
 have iP:a.toNat*2 ^ 8 ||| b.toNat=a.toNat*2 ^ 8+b.toNat:=by rw [<-fG,<-fS (i:=8) fT]
 rw [J];unfold ibits duoN;simp only [show IntKind.i64.bits=64 from rfl,cL,BitVec.toNat_or,bR];rw [bC fT,bC fT,iP,zf fT fT]
def ztt:∀s:Txt,(duos s).length<=s.length
 | []=>ad _
 | [_]=>ad _
 |a::b::r=>by have:=ztt r;simp only [duos,aC];omega
def zx7 (s:Txt) (hs:s.length<=1000000):AC 298 [.d (.str s)] (.tup [.d (.str (zey s).1),.d (.sl 1 ((zey s).2.1.map intD)),.d (.int .i64 (zey s).2.2)]):=by
 refine fbod func298 ntmps298 (λbase=>?_);refine' HD;rw [zey,<-hB] at hT;refine' IX;rw [<-hZ] at hT
 have Ac:Z.2.1.length<=1000000:=by
  rw [hZ,takeS];split
  .exact ad _
  split
  .exact ad _
  .simp only [ak];omega
 have CF:0<=Z.1/\Z.1<=65535:=by
  rw [hZ,takeS];split
  .simp
  split
  .simp
  .have:takeN (B.2.1.take 2)<256 ^ 2:=zdw hU;exact ⟨Int.natCast_nonneg _,by show ((takeN (B.2.1.take 2):Nat):Int)<=65535;omega⟩
 have ab:IntKind.i64.wrap Z.1=Z.1:=zf fT fT;have a6:IntKind.i64.wrap (2*Z.1)=2*Z.1:=zf fT fT;refine' zfH (zL 6) (zB hB.symm hZ.symm ab a6) (za zho <| za zaN <| zb _)
 .rw [aa] at hT
  .rw [hT];rfl
  .simp only [aH,bD] at hc;omega
 simp only [bn,bJ] at hc;rw [U fT] at hT;refine zaC (λK hK=>?_);refine zfx noTab (zb _) 2 1 (λK hK=>?_);refine' Cl;refine ⟨_,rfl,?_⟩;have c8:(zh Z.2.1).length=Z.2.1.length:=by rw [zh,al]
 have Ad:(zh Z.2.1).take Z.2.1.length=zh Z.2.1:=aA fT;simp only [go_sem,aeq,aeq.aeqF,simprocAttr,c8,Ad];refine (zaE (zx6 Z.2.1)).mono ?_;refine' Cp;refine' G8;refine zeX 0 0 1 rfl rfl ?_;refine' Cl;obtain ⟨n,hn⟩:∃n:Nat,Z.2.1.length=2*n:=⟨Z.1.toNat,fT⟩
 have jV:=znr Z.2.1 n hn fT;obtain ⟨I,hI⟩:∃I:List (List AV)->AHeap×Option (List (List AV)),I=λxs=>([(1,.arr 1 (duoL ((duos Z.2.1).take xs.length))),(0,.var [.osl 1 1 xs.length 0 xs.length])],some []):=⟨_,rfl⟩
 refine' Ec;obtain ⟨J,hJ⟩:∃J:Code->AHeap->Option (List (List AV))->Prop,J=λ_ _ _=>False:=⟨_,rfl⟩
 have gw:(duos Z.2.1).length<=1000000:=aD (ztt _) Ac;refine' FT
 .intro xs x1 bu b7 l1 r1;obtain ⟨ys,⟨a,b⟩,zs,kb,rfl,iR⟩:=zes bu;obtain ⟨k,hk⟩:∃k,k=xs.length:=⟨_,rfl⟩
  have hq:(duos Z.2.1)[k]?=some (a,b):=by rw [hk,kb,al,iR];simp
  have mn:k<(duos Z.2.1).length:=(bP.1 hq).1;have a7:=zcT hq;have gF:(duoL ((duos Z.2.1).take k)).length=k:=by simp only [duoL,al,az];omega
  have Ae:IntKind.i64.wrap (a.toNat:Int)=a.toNat:=by have:=a.toNat_lt;exact zf fT fT
  have Af:IntKind.i64.wrap (b.toNat:Int)=b.toNat:=by have:=b.toNat_lt;exact zf fT fT
  have ub:=zEd a b;have e8:duoL ((duos Z.2.1).take (k+1))=duoL ((duos Z.2.1).take k)++ [[.int .i64 (duoN (a,b))]]:=by rw [a7];simp [duoL,intD]
  simp only [zd2]
  refine aw_le ⟨[(40,true,.d (.sl 1 [[.int .u8 a.toNat],[.int .u8 b.toNat]])),(5,true,.d (.str B.1)),(9,true,.vp 0 0)],[(1,.arr 1 (duoL ((duos Z.2.1).take k))),(0,.var [.osl 1 1 k 0 k])],some []⟩ (by rw [hI];simp only [<-hk];exact lxa) ?_
  have jG:(xs++ [zd2 (a,b)]).length=k+1:=by rw [ae,<-hk];rfl
  simp only [zd2] at jG;refine' zau (zr Ae Af ub gF hI (zg jG e8));rw [hG];trivial
 .intro _;have jG:((duos Z.2.1).map zd2).length=(duos Z.2.1).length:=al _;rw [hI];simp only [jG,aL];have r7:(duoL (duos Z.2.1)).length=(duos Z.2.1).length:=by simp [duoL]
  refine' zau r7;rw [hT,aA (cH r7)];rfl
 .rw [hJ];rintro c h3 g3 hf;exact hf.elim
@[go_sem] def zgj:Ent Tryz.prog 298:= .m1 strT zx7
open Go Go.Proofs Go.RowKit Go.Proofs.Tryz
def ztv (s:NW) (h:NwOk s) (ho:s.out.length<=10000000000000) (hp:s.n.phase=1) (J:s.k=6\/s.k=7):ACall Tryz.prog 241 6 [.tp 3 0] (nwH s) (λr h'=>r= .tup []/\h'=nwH (nwOpt s)):=by
 have an:ngClr s.n=s.n:=U fT;have hd:=h.d;have hz:(sizeS s.x.size).length=10:=qO;obtain ⟨A,hA⟩:∃A,A=zey s.d:=⟨_,rfl⟩
 have eo:ngOpt s.n s.x s.k s.d=(if A.2.2≠0 then (s.n,sayS s.k 2147483651 []) else if oursS A.1=false then (s.n,sayS s.k 2147483654 []) else ({ s.n with phase:=if s.k=7 then 2 else s.n.phase },sayS s.k 3 ([0,0]++sizeS s.x.size)++sayS s.k 1 [])):=by unfold ngOpt;rw [U fT,U fT,U fT,aa J,<-hA]
 by_cases h1:A.2.2=0
 .have o5:(A.2.2 !=0)=false:=by simpa using h1
  rw [U (λe=>e h1)] at eo;cases h2:oursS A.1 with
  |false=>
   rw [aa h2] at eo;have e:nwOpt s=nwSay s 2147483654 []:=by rw [zdc fT eo,an];rfl
   rw [e];refine' Ef;refine (zaH (zi0 s A.1)).mono ?_;refine' Cp;refine' En;refine' Ds;refine (zaH (zdK s 2147483654 [] h gb gb)).mono ?_;refine' Cp;refine' Ds
  | true=>
   rw [U (by rw [h2];decide)] at eo;have hl:=zcg s.k 3 ([0,0]++sizeS s.x.size);have js:=zcg s.k 1 [];have aZ:NwOk (nwSay s 3 ([0,0]++sizeS s.x.size)):=h.say fT;rcases J with J|J
   .have e:nwOpt s=nwSay (nwSay s 3 ([0,0]++sizeS s.x.size)) 1 []:=by rw [zdc fT eo,U fT];simp [an,nwSay,nwW]
    rw [e];have oF:(s.k==7)=false:=by rw [J];rfl
    refine' Ef;refine (zaH (zi0 s A.1)).mono ?_;refine' Cp;refine' En;refine' Ds;refine (zaH (znt s h)).mono ?_;refine' Cp;refine' Ds
    .show 2+(sizeS s.x.size).length<9223372036854775808;omega
    refine (zaH (zdK s 3 _ h gb gb)).mono ?_;refine' Cp;refine' Ds;refine (zaH (zdK _ 1 [] aZ gb gb)).mono ?_;refine' Cp;refine' zc oF;exact absurd (show (s.k==7)=true from hc) (by rw [oF];decide)
   .have e:nwOpt s= { nwSay (nwSay s 3 ([0,0]++sizeS s.x.size)) 1 [] with n:= { s.n with phase:=2 } } :=by rw [zdc fT eo,aa J];simp [ngClr,nwSay,nwW]
    rw [e];have oF:(s.k==7)=true:=by rw [J];rfl
    refine' Ef;refine (zaH (zi0 s A.1)).mono ?_;refine' Cp;refine' En;refine' Ds;refine (zaH (znt s h)).mono ?_;refine' Cp;refine' Ds
    .show 2+(sizeS s.x.size).length<9223372036854775808;omega
    refine (zaH (zdK s 3 _ h gb gb)).mono ?_;refine' Cp;refine' Ds;refine (zaH (zdK _ 1 [] aZ gb gb)).mono ?_;refine' Cp;refine' zc oF
    .rfl
    .exact absurd (show (s.k==7)=false from hc) (by rw [oF];decide)
 .have o5:(A.2.2 !=0)=true:=by simpa using h1
  rw [aa h1] at eo;have e:nwOpt s=nwSay s 2147483651 []:=by rw [zdc fT eo,an];rfl
  rw [e];refine' Ef;refine' Ix;refine' Cp;refine' Ds
def zpt (s:List UInt8):ACall Tryz.prog 353 0 [.d (.str s),.d (.int .u8 58)] [] (λr _=>r= .d (.int .i64 (Lib.indexByte s 58))):=by refine zhT (v:= .int .i64 (Lib.indexByte s 58)) (zcR func353 fX rfl) ?_ (λw E=>iI);refine' EU;have iY:vs= #[.string ⟨s.toArray⟩,.int .u8 58]:=rh;subst iY;have:=Tryz.strings_IndexByte ⟨s.toArray⟩ 58 w;refine this.mono ?_;rintro e w' ⟨rfl,rfl⟩;exact ⟨fZ,Below.refl _ _⟩
@[go_sem] def zhC:Ent Tryz.prog 353:= .ofL (consL strT (consL (zav (.d (.int .u8 58))) nilL)) (λ(s,_,_)=>True) (λ(s,_,_)=> .d (.int .i64 (Lib.indexByte s 58))) (λ(s,_,_) hp=>⟨rfl,zpt s⟩)
def zrB (l:List Txt) (x:Txt) (hl:l.length<=9223372036854775807):AC 393 [.d (.sl 1 (l.map strD)),.d (.str x)] (.d (.int .i64 (idxP (λq=>x==q) l 0))):=by
 refine bod func393 ntmps393 (λbase=>?_);refine' Ds;refine zk (λq:Idst (λq=>x==q) l=>⟨[(0,true,.d (.sl 1 (l.map strD))),(1,true,.d (.str x)),(7,true,.d (.int .i64 l.length)),(8,true,.d (.int .i64 q.1))],[],some []⟩) (λq=>l.length - q.1) ⟨0,ad _,rfl⟩ le1 (λq=>?_);refine' Di;rcases zw strD l i hi with ⟨m,hq,aZ,J,ab,b4,a7⟩|⟨ao,J⟩
 .simp only [strD] at ab;refine' CO;refine' zc (zg J ab)
  .rw [hf,b4,idxP,aa gA]
  .exact ⟨⟨i+1,fT,Ba⟩,lew,gh⟩
 .refine' Hp
@[go_sem] def znv:Ent Tryz.prog 393:= .m2 (slT 1 strD zd7) strT zrB
def zls (l:List Txt) (x:Txt) (J:l.length<=9223372036854775807):AC 352 [.d (.sl 1 (l.map strD)),.d (.str x)] (.d (.bool (l.contains x))):=by refine bod func352 ntmps352 (λbase=>?_);refine' walkW fx (za znv <| zb _);rw [zm1,zgL]
@[go_sem] def zgA:Ent Tryz.prog 352:= .m2 (slT 1 strD zd7) strT zls
def ztw {names:List Txt} {c:Txt} (h:c∈ctxs names):Lib.indexByte c 58=4/\(c.take 5=baseC\/c.take 5=qemuC):=by
 rcases List.mem_cons.mp h with rfl|h
 .exact ⟨gb,.inl rfl⟩
 .obtain ⟨m,_,rfl⟩:=List.mem_map.mp h;exact ⟨by simp [zl6,Lib.indexByte],.inr rfl⟩
def zpu (c:Txt) (l:List Txt) (all:Bool) (h:c.take 5=baseC\/c.take 5=qemuC):(l.contains c||all&&(l.isEmpty||l.contains (c.take 5)))=zez c l all:=by
 have hp:∀p q:Txt,p.length=5->(c.take 5=p↔p.isPrefixOf c=true):=by intro p q hl;rw [fJ,fK,hl];exact ⟨λe=>e.symm,λe=>e.symm⟩
 have h1:∀q,zjx c all q=(q==c||all&&q==c.take 5):=by
  intro q;unfold zjx;cases all
  .simp
  .simp only [bU];congr 1;rw [bV];simp only [aq,aH,aF];constructor
   .rintro ⟨rfl|rfl,J⟩
    .exact ((hp baseC [] rfl).2 J).symm
    .exact ((hp qemuC [] rfl).2 J).symm
   .rintro rfl;refine ⟨h,?_⟩;exact List.isPrefixOf_iff_prefix.mpr (List.take_prefix 5 c)
 unfold zez;have h2:(λq=>zjx c all q)=λq=>(q==c||all&&q==c.take 5):=funext h1;rw [show l.any (zjx c all)=l.any (λq=>q==c||all&&q==c.take 5) from congrArg l.any h2];cases all
 .simp [List.any_beq',List.contains_eq_any_beq]
 .simp only [bU];rw [bV];simp only [aH,List.any_eq_true,List.contains_iff_mem,aF];constructor
  .rintro (h|h|h)
   .exact .inr ⟨c,h,.inl rfl⟩
   .exact .inl h
   .exact .inr ⟨_,h,.inr rfl⟩
  .rintro (h|⟨q,J,rfl|rfl⟩)
   .exact .inr (.inl h)
   .exact .inl J
   .exact .inr (.inr J)
def zya {c:Txt} (J:c.take 5=baseC\/c.take 5=qemuC):5<=c.length:=by
 rcases J with e|e
 .have:=congrArg List.length e;rw [az] at this;simp only [baseC,aC,aM] at this;omega
 .have:=congrArg List.length e;rw [az] at this;simp only [qemuC,aC,aM] at this;omega
def zl9 {l:List Txt} :((l.length:Int)==0)=l.isEmpty:=by cases l<;>simp;omega
def zu8 (s:NW) (c:Txt) (l:List Txt) (hl:l.length<=1000000) (c6:c.length<=1000000) (h4:Lib.indexByte c 58=4) (J:c.take 5=baseC\/c.take 5=qemuC) (oL:s.k=9\/s.k=10):ACall Tryz.prog 301 6 [.tp 3 0,.d (.str c),.d (.sl 1 (l.map strD))] (nwH s) (λr h'=>r= .d (.bool (zez c l (s.k !=10)))/\h'=nwH s):=by
 rw [<-zpu c l (s.k !=10) J];have Ag:=zya J;refine bod func301 ntmps301 (λbase=>?_);have lC:IntKind.i64.wrap 5=5:=gb;have mE:(s.k !=10)=(s.k==9):=by rcases oL with e|e<;>rw [e]<;>rfl
 rw [mE];refine' walkW (zg h4 lC) (za zgA <| za zhC <| zb _)
 .rw [hc];rfl
 .simp_all
 .rw [hc,zl9];rfl
def zvD (s:Txt) (_:True):AC 259 [.d (.str s)] (.d (.bool (oursS s))):=by refine fbod func259 ntmps259 (λbase=>?_);refine' Ds;rfl
@[go_sem] def zaA:Ent Tryz.prog 259:= .m1 strT zvD
def zvE (x:Xp) (h:XpOk x):AC 260 [xpA x] (.d (.str (sizeS x.size))):=by
 have h0:=h.1;have h1:=h.2;have J:(putS8 x.size 8).length=8:=by rw [zgw,zu]
 refine fbod func260 ntmps260 (λbase=>?_);refine' walkW fx (za zH <| za zhF <| zb _);all_goals first|omega|rfl
@[go_sem] def zaS:Ent Tryz.prog 260:= .m1 xpA_T zvE
def zyW (o k:Int) (data:Txt) (hp:0<=o/\o<=4294967295/\0<=k/\k<=4294967295):AC 261 [.d (.int .u32 o),.d (.int .u32 k),.d (.str data)] (.d (.str (sayS o k data))):=by obtain ⟨h0,h1,h2,J⟩:=hp;refine fbod func261 ntmps261 (λbase=>?_);refine' walkW fx (za zH <| za zhF <| zb _)
@[go_sem] def zaf:Ent Tryz.prog 261:= .m3 (intT .u32) (intT .u32) strT zyW
def zpX (s p:Txt) (hp:s.length<=9223372036854775807/\p.length<=9223372036854775807):AC 382 [.d (.str s),.d (.str p)] (.d (.bool (p.isPrefixOf s))):=by
 obtain ⟨hs,hp⟩:=hp;by_cases hl:p.length<=s.length
 .have J:decide ((p.length:Int)<=(s.length:Int))=true:=af fT
  have e:p.isPrefixOf s=(s.take p.length==p):=by rw [bV,fJ,fK,aF];exact ⟨λe=>e.symm,λe=>e.symm⟩
  rw [e];refine fbod func382 ntmps382 (λbase=>?_);refine' zc J;all_goals first|omega|rfl
 .have J:decide ((p.length:Int)<=(s.length:Int))=false:=ag fT
  have e:p.isPrefixOf s=false:=by
   cases h:p.isPrefixOf s with
   |false=>rfl
   |true=>exact absurd (List.IsPrefix.length_le (List.isPrefixOf_iff_prefix.mp h)) hl
  rw [e];refine fbod func382 ntmps382 (λbase=>?_);refine' zc J
@[go_sem] def zhH:Ent Tryz.prog 382:= .m2 strT strT zpX
def zlu (x:Xp) (hp:x.names.length<=1000000/\(∀s∈x.names,s.length<=1000000)):AC 335 [xpA x] (.d (.sl 1 ((ctxs x.names).map strD))):=by
 obtain ⟨hl,hn⟩:=hp;obtain ⟨names,nZ⟩:∃l,l=x.names:=⟨_,rfl⟩
 rw [<-nZ] at hl hn |-;refine fbod func335 ntmps335 (λbase=>?_);refine' zc nZ.symm;refine zk (λq: { i:Nat // i<=names.length } =>⟨[(1,true,.vp 0 0),(3,true,.osl 1 1 (q.1+1) 0 (q.1+1)),(4,true,.d (.int .i64 q.1))],[(1,.arr 1 ((ctxs (names.take q.1)).map strD)),(0,.var [.d (.int .u64 x.size),.d (.sl 1 (names.map strD))])],some []⟩) (λq=>names.length - q.1) ⟨0,ad _⟩ le1 (λq=>?_);refine' Dl;have c6:((ctxs (names.take i)).map strD).length=i+1:=by simp [ctxs];omega
 rcases zw strD names i hi with ⟨m,hq,a8,J,ab,b4,a7⟩|⟨ao,J⟩
 .simp only [strD] at ab;refine' CO;refine' Fb;all_goals first|omega|skip
  exact ⟨⟨i+1,fT⟩,lxb (lan hwi (lan e8 @zl6.eq_1)),gh⟩
 .subst ao;simp only [aL] at c6 |-;refine' zc (zg J c6);rw [aA (cH c6)]
@[go_sem] def zgB:Ent Tryz.prog 335:= .m1 xpA_T zlu
def zsg (c:Txt) (l:List Txt) (all:Bool) (hp:c.length<=1000000/\l.length<=1000000/\(∀s∈l,s.length<=1000000)):AC 336 [.d (.str c),.d (.sl 1 (l.map strD)),.d (.bool all)] (.d (.bool (zez c l all))):=by
 obtain ⟨hc,hl,hn⟩:=hp;obtain ⟨V,hV⟩:∃V,V=zez c l all:=⟨_,rfl⟩
 rw [<-hV];unfold zez at hV;have he:= @zl9 l;refine fbod func336 ntmps336 (λbase=>?_);by_cases ud:(all&&l.isEmpty)=true
 .rw [ud,dD] at hV;refine' zc (zg he ud);rw [hV]
 have wD:(all&&l.isEmpty)=false:=by simpa using ud
 rw [wD,cB] at hV;refine' zc (zg he wD);refine zk (λq: { i:Nat // i<=l.length/\V=(l.drop i).any (zjx c all) } =>⟨[(0,true,.d (.str c)),(1,true,.d (.sl 1 (l.map strD))),(2,true,.d (.bool all)),(7,true,.d (.int .i64 q.1))],[],some []⟩) (λq=>l.length - q.1) ⟨0,ad _,hV⟩ le1 (λq=>?_);obtain ⟨i,hi,oa⟩:=q;simp only at hi oa |-;rcases zw strD l i hi with ⟨m,hq,br,J,ab,b4,a7⟩|⟨ao,J⟩
 .simp only [strD] at ab;refine' CO;have hm:=hn m (ay hq);rw [b4,eO] at oa;have ha:(m==c||all&&(m== [98,97,115,101,58]||m== [113,101,109,117,58])&&m.isPrefixOf c)=zjx c all m:=rfl;cases hb:zjx c all m with
  |true=>
   rw [hb,dD] at oa;rw [hb] at ha;refine' walkW (zp J ab ha) (za zhH <| zb _);all_goals first|(simp only [*,cq,cR,bU];done)|skip
   all_goals first|(rw [oa];done)|skip
  |false=>
   rw [hb,cB] at oa;rw [hb] at ha;refine' walkW (zp J ab ha) (za zhH <| zb _);all_goals first|(simp only [*,cq,cR,bU];done)|skip
   exact ⟨⟨i+1,fT,oa⟩,lew,gh⟩
 .subst ao;rw [aP] at oa;refine' zc J;rw [oa];rfl
@[go_sem] def zcP:Ent Tryz.prog 336:= .m3 strT (slT 1 strD zd7) boolT zsg
def zpY (s:Txt) (hs:s.length<=1000000):AC 334 [.d (.str s)] (.tup [.d (.str (zb2 s).1),.d (.sl 1 ((zb2 s).2.1.map strD)),.d (.int .i64 (zb2 s).2.2)]):=by
 refine fbod func334 ntmps334 (λbase=>?_);refine' FA
 have ic:takeS B.2.1 4=if B.2.1.length<4 then (0,[],22) else (((numAt B.2.1 0 4:Nat):Int),B.2.1.drop 4,0):=by
  rw [takeS,U gb];by_cases h4:B.2.1.length<4
  .rw [aa h4,aa fT]
  .rw [U h4,U fT];rfl
 obtain ⟨Z,qJ⟩:∃Z,Z=takeS B.2.1 4:=⟨_,rfl⟩
 rw [<-qJ] at ic;refine' walkW (zg hB.symm qJ.symm) (za zdH <| za zx <| zb _)
 .rw [aa (.inl gA)] at J;rw [J];rfl
 .rw [aa] at J
  .rw [J];rfl
  .rw [ic] at hc;by_cases h4:B.2.1.length<4
   .exact .inr (.inl h4)
   .rw [U h4] at hc;simp only [aH,bD,ax] at hc;omega
 rename_i bo;simp only [bn,bJ,bG] at hc bo;obtain ⟨fY,nV⟩:=hc;refine' Ej;refine' Cl;refine zk (λq: { q:Nat×List Txt×Txt // q.1<=n/\q.2.1.length=q.1/\q.2.2.length<=1000000/\zex n [] (B.2.1.drop 4)=zex (n - q.1) q.2.1 q.2.2 } =>⟨[(5,true,.d (.str B.1)),(6,true,.d (.str q.1.2.2)),(8,true,.d (.int .u64 n)),(9,true,.osl 0 1 q.1.1 0 q.1.1),(10,true,.d (.int .u64 q.1.1))],[(0,.arr 1 (q.1.2.1.map strD))],some []⟩) (λq=>n - q.1.1) ⟨(0,[],B.2.1.drop 4),ad _,rfl,mz,rfl⟩ le1 (λq=>?_);refine' EF
 .refine' Fw
  have kn:zex (n - i) l r=if D'.2.2≠0 then none else zex (n - (i+1)) (l++ [D'.1]) D'.2.1:=by rw [show n - i=(n - (i+1))+1 by omega,zex,<-hD]
  rw [kn] at hg;refine' walkW (zp ab hD.symm gF) (za zdH <| za zx <| zb _)
  .rw [hg,aa gA] at J;rw [J];rfl
  .rw [U gA] at hg;exact ⟨⟨(i+1,l++ [D'.1],D'.2.1),fT,by simp [hl],oO,hg⟩,(by simp only [AS.le,leT,leH,ze,AsgK,AV.le,AV.leL,AObj.le,inH,idsT,idsH,AV.ids,AV.idsL,AV.idsR,AObj.ids,lk,hget,go_sem,aeq,aeq.aeqF,simprocAttr,hw,aG,strD]<;>and_intros<;>rfl),gh⟩
 .refine' Hj;refine' walkW (zg ab gF) (za zdH <| za zx <| zb _)
  .rw [aa gA] at J;rw [J];rfl
  .rw [U gA] at J;rw [J,aA (cH gF)]
@[go_sem] def zhI:Ent Tryz.prog 334:= .m1 strT zpY
def zBl (a b:UInt8) (r:Txt):takeS (a::b::r) 2=(duoN (a,b),r,0):=by rw [takeS,U gb,U w8];refine Prod.ext ?_ rfl;show ((takeN [a,b]:Nat):Int)=duoN (a,b);simp [takeN,duoN]
def zpZ:∀ (s:Txt) (n:Nat),s.length=2*n->(duos s).length=n
 | [],n,h=>by simp [duos] at h |-;omega
 | [_],n,h=>by simp at h;omega
 |a::b::r,n,h=>by
  obtain ⟨k,rfl⟩:∃k,n=k+1:=⟨n - 1,by simp at h;omega⟩
  rw [duos,aC,zpZ r k (by simp at h;omega)]
def zp0:∀ (s:Txt) (i:Nat),(duos s).drop i=duos (s.drop (2*i))
 |s,0=>rfl
 | [],i+1=>by simp [duos]
 | [x],i+1=>by have e:List.drop (2*(i+1)) [x]= []:=bQ (show 1<=2*(i+1) by omega);rw [e];simp [duos]
 |a::b::r,i+1=>by rw [duos,dg,zp0 r i,show 2*(i+1)=2*i+1+1 by omega,dg,dg]
def zBm {s:Txt} {n i:Nat} {a b:UInt8} {r:Txt} (J:s.length=2*n) (hi:i<n) (hp:s.drop (2*i)=a::b::r):(duos s)[i]?=some (a,b):=by have h:=zp0 s i;rw [hp,duos] at h;have:=congrArg (λl=>l[0]?) h;simpa using this
def zp1 (s:Txt) (hs:s.length<=1000000):AC 263 [.d (.str s)] (.tup [.d (.str (zey s).1),.d (.sl 1 ((zey s).2.1.map intD)),.d (.int .i64 (zey s).2.2)]):=by
 refine fbod func263 ntmps263 (λbase=>?_);refine' HD;refine' IX;rw [zey,<-hB,<-hZ] at hT
 have CG:0<=Z.1/\Z.1<65536/\Z.2.1.length<=1000000:=by
  rw [hZ,takeS,U gb];split
  .exact ⟨gb,gb,ad _⟩
  .have:=zdw (l:=B.2.1.take (2:Int).toNat) (i:=2) (by rw [az];exact Nat.min_le_left _ _);refine ⟨fT,gH,?_⟩;simp only [ak];omega
 have ab:IntKind.u64.wrap (2*Z.1)=2*Z.1:=zA fT fT;have a6:IntKind.u64.wrap (Z.2.1.length:Int)=Z.2.1.length:=zA fT fT;refine' walkW (zB hB.symm hZ.symm ab a6) (za zdH <| za zx <| zb _)
 .rw [aa (.inl gA)] at hT;rw [hT];rfl
 .rw [aa] at hT
  .rw [hT];rfl
  .simp only [aH,bD] at hc;omega
 rename_i bo;simp only [bn,bJ] at hc bo;rw [U fT] at hT;obtain ⟨n,hn⟩:∃n:Nat,Z.2.1.length=2*n:=⟨Z.1.toNat,fT⟩
 have gw:(duos Z.2.1).length=n:=zpZ _ n hn;refine zaI 9 1 rfl ?_;refine' Cl;refine zk (λq: { i:Nat // i<=n } =>⟨[(5,true,.d (.str B.1)),(6,true,.d (.str (Z.2.1.drop (2*q.1)))),(9,true,.osl 0 1 q.1 0 q.1)],[(0,.arr 1 ((((duos Z.2.1).take q.1).map duoN).map intD))],some []⟩) (λq=>n - q.1) ⟨0,ad _⟩ le1 (λq=>?_);refine' Dl;have gF:(((duos Z.2.1).take i).map duoN |>.map intD).length=i:=by simp only [al,az];omega
 rcases aO i n with ao|gU
 .obtain ⟨⟨a,b⟩,hp⟩:=zx5 hn ao;simp only at hp;have J:(Z.2.1.drop (2*i) != [])=true:=by rw [hp];rfl
  have hlen:(Z.2.1.drop (2*i)).length<=9223372036854775807:=gG;have ht:=zBl a b (Z.2.1.drop (2*(i+1)));rw [<-hp] at ht
  have Ai:IntKind.i64.wrap (duoN (a,b))=duoN (a,b):=by have h1:=a.toNat_lt;have h2:=b.toNat_lt;exact zf (by unfold duoN;simp only;omega) (by unfold duoN;simp only;omega)
  have hq:(duos Z.2.1)[i]?=some (a,b):=zBm hn ao hp;have e8:((((duos Z.2.1).take (i+1)).map duoN).map intD)=((((duos Z.2.1).take i).map duoN).map intD)++ [[.int .i64 (duoN (a,b))]]:=by rw [zcT hq];simp [intD]
  refine' walkW (zB J ht Ai gF) (za zdH <| za zx <| zb _);all_goals first|omega|skip
  exact ⟨⟨i+1,fT⟩,lxb e8,gh⟩
 .obtain rfl:i=n:=by omega
  have J:(Z.2.1.drop (2*i) != [])=false:=by rw [bQ fT];rfl
  refine' zc (zg J gF);rw [hT,aA (cH gw),aA (by simp [gw])]
@[go_sem] def zap:Ent Tryz.prog 263:= .m1 strT zp1
end
end Go.Aw
