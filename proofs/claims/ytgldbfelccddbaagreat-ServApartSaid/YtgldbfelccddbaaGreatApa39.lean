/- Lemmas. -/
import Derived.Test.YtgldbfelccddbaaGreatApa32
import Derived.Test.YtgldbfelccddbaaGreatApa33
import Derived.Test.YtgldbfelccddbaaGreatApa34
set_option linter.all false
set_option maxRecDepth 100000
set_option maxHeartbeats 2000000
namespace Go.Aw
noncomputable section
open Go Go.Proofs Go.Proofs.Tryz
def zsb:ACall Tryz.prog 55 0 [] [] (λr _=>r= .d (.str zl5)):=by refine fbod func55 ntmps55 (λbase=>?_);refine' Ds;rfl
@[go_sem] def znT:Ent Tryz.prog 55:= .ofL nilL (λ_=>True) (λ_=> .d (.str zl5)) (λ_ hp=>⟨rfl,zsb⟩)
def zvA (n:Int) (hp:0<=n/\n<=4294967295):AC 332 [.d (.int .u32 n)] (.d (.str (putS8 n 4))):=by refine' EP;have hw:IntKind.u64.wrap n=n:=zA h0 fT;refine fbod func332 ntmps332 (λbase=>?_);refine' walkW hw (za zH <| za zx <| zb _)
@[go_sem] def zcE:Ent Tryz.prog 332:= .m1 (intT .u32) zvA
def zsc (s:Txt) (J:s.length<=4294967295):AC 262 [.d (.str s)] (.d (.str (zfP s))):=by have hw:IntKind.u64.wrap (s.length:Int)=s.length:=zA fT fT;have hm:((s.length:Int).tmod 4294967296)=s.length:=Int.tmod_eq_of_lt fT fT;have gO:IntKind.u32.wrap (s.length:Int)=s.length:=zbT fT fT;have hl:=zd0 (s.length:Int);refine fbod func262 ntmps262 (λbase=>?_);refine' walkW (zp hw hm gO) (za zcE <| za zx <| zb _);rfl
@[go_sem] def zaF:Ent Tryz.prog 262:= .m1 strT zsc
def zpU (o k:Int) (data:Txt) (h0:0<=o) (h1:o<=4294967295) (h2:0<=k) (h3:k<=4294967295):ACall Tryz.prog 331 0 [.agg [.d (.int .u32 o),.d (.int .u32 k),.d (.str data)]] [] (λr _=>r= .tup [.d (.str (sayS o k data)),.d (.int .i64 (if 4096<data.length then 11 else 0))]):=by
 by_cases J:4096<data.length
 .have hb:decide ((4096:Int)<(data.length:Int))=true:=af fT;rw [aa J,sayS,aa J];refine fbod func331 ntmps331 (λbase=>?_);refine' zc hb
 .have hb:decide ((4096:Int)<(data.length:Int))=false:=ag fT;have gO:IntKind.u32.wrap (data.length:Int)=data.length:=zbT fT fT;have l1:=zd0 o;have l2:=zd0 k;have l3:=zd0 (data.length:Int);rw [U J,sayS,U J];refine fbod func331 ntmps331 (λbase=>?_);refine' walkW (zg hb gO) (za zcE <| za zx <| zb _);all_goals first|(simp only [ae];omega)|simp [ansHd]
@[go_sem] def zhF:Ent Tryz.prog 331:= .ofL (consL (aggT (consL (intT .u32) (consL (intT .u32) (consL strT nilL))) (λp=>p) (λp=>p) (λ_=>rfl)) nilL) (λ((o,k,data,_),_)=>(0<=o)/\(o<=4294967295)/\(0<=k)/\(k<=4294967295)) (λ((o,k,data,_),_)=> .tup [.d (.str (sayS o k data)),.d (.int .i64 (if 4096<data.length then 11 else 0))]) (λ((o,k,data,_),_) hp=>⟨rfl,zpU o k data hp.1 hp.2.1 hp.2.2.1 hp.2.2.2⟩)
def zsd (s:Txt) (hs:s.length<=9223372036854775807):AC 333 [.d (.str s)] (.tup [.d (.str (toBeg s).1),.d (.str (toBeg s).2.1),.d (.int .i64 (toBeg s).2.2)]):=by
 have ic:takeS s 4=if s.length<4 then (0,[],22) else (((numAt s 0 4:Nat):Int),s.drop 4,0):=by
  rw [takeS,U gb];by_cases J:s.length<4
  .rw [aa J,aa fT]
  .rw [U J,U fT];rfl
 by_cases J:s.length<4
 .rw [aa J] at ic;rw [toBeg,aa J];refine fbod func333 ntmps333 (λbase=>?_);refine' walkW ic (za zcE <| za zx <| zb _)
 .rw [U J] at ic;have hw:IntKind.u64.wrap ((s.drop 4).length:Int)=(s.drop 4).length:=zA fT gG;obtain ⟨D,hD⟩:∃D,D=s.drop 4:=⟨_,rfl⟩
  have oO:D.length+4=s.length:=sG;obtain ⟨N,hN⟩:∃N,N=numAt s 0 4:=⟨_,rfl⟩
  rw [<-hD] at hw ic;rw [<-hN] at ic;rw [toBeg,U J,<-hN,<-hD,<-bc,<-hD];by_cases hn:s.length<4+N
  .have hb:decide ((D.length:Int)<(N:Int))=true:=af fT;rw [aa hn];refine' HP
  .have hb:decide ((D.length:Int)<(N:Int))=false:=ag fT;rw [U hn];refine' HP
@[go_sem] def zdH:Ent Tryz.prog 333:= .m1 strT zsd
def zpV {s:Txt} {i:Nat} (hi:i<s.length):s.take (i+1)=s.take i++ [s.getD i 0]:=by
 rw [dr,aN,bk hi];rfl
def zyV {s h:Txt} {i:Nat} (hi:i<s.length) (J:i<h.length) (ht:s.take i=h.take i):(s.getD i 0=h.getD i 0->s.take (i+1)=h.take (i+1))/\(s.getD i 0≠h.getD i 0->∀k,i<k->s.take k≠h.take k):=by refine ⟨λe=>by rw [zpV hi,zpV J,ht,e],λb5 k hk e=>b5 ?_⟩;have e2:=congrArg (λl:Txt=>l.getD i 0) e;simpa only [aN,dM,hk,av] using e2
def zB4 {s h:Txt} {n:Nat} (J:n=min h.length s.length):s.take h.length=h.take s.length↔s.take n=h.take n:=by
 subst J;rcases dE h.length s.length with e|e
 .rw [ca e,aA e,aL]
 .rw [dc e,aA e,aL]
def zem (s:Txt):List Int×Txt×Txt×Int:=
 if s.take 8≠optHd.take s.length then ([],[],[],14)
 else if s.length<16 then ([],[],[],22)
 else if 4096<numAt s 12 4 then ([],[],[],11)
 else if s.length<16+numAt s 12 4 then ([],[],[],22)
 else ([(numAt s 8 4:Int),(numAt s 12 4:Int)],(s.drop 16).take (numAt s 12 4),s.drop (16+numAt s 12 4),0)
def u64D (x:Int):List D:= [.int .u64 x]
def zse (s:Txt) (h:4<=s.length):takeS s 4=(((numAt s 0 4:Nat):Int),s.drop 4,0):=by
 rw [takeS,U gb,U fT];rfl
def ztK (s:Txt) (a i k:Nat):numAt (s.drop a) i k=numAt s (a+i) k:=by
 unfold numAt;rw [bc]
def zsf (s:Txt) (hs:s.length<=4611686018427387904):ACall Tryz.prog 258 0 [.d (.str s),.d (.str [73,72,65,86,69,79,80,84]),.d (.int .i64 2)] [] (λr _=>r= .tup [.d (.sl 1 ((zem s).1.map u64D)),.d (.str (zem s).2.1),.d (.str (zem s).2.2.1),.d (.int .i64 (zem s).2.2.2)]):=by
 obtain ⟨V,J⟩:∃V,V=zem s:=⟨_,rfl⟩
 rw [<-J];obtain ⟨n,hn⟩:∃n,n=min 8 s.length:=⟨_,rfl⟩
 obtain ⟨H,hH⟩:∃H,H=optHd:=⟨_,rfl⟩
 have kD:H.length=8:=by rw [hH];rfl
 have hm:s.take 8=optHd.take s.length↔s.take n=H.take n:=x9;refine fbod func258 ntmps258 (λbase=>?_);rw [show ([73,72,65,86,69,79,80,84]:Txt)=H from hH.symm];refine' Ds;refine zk (λq: { i:Nat // i<=n/\s.take i=H.take i } =>⟨[(0,true,.d (.str s)),(1,true,.d (.str H)),(2,true,.d (.int .i64 2)),(10,true,.d (.int .i64 q.1))],[],some []⟩) (λq=>n - q.1) ⟨0,ad _,rfl⟩ le1 (λq=>?_);obtain ⟨i,hi,ht⟩:=q;simp only at hi ht |-;rcases aO i n with a7|gU
 .have bo:decide ((i:Int)<(s.length:Int))=true:=af fT;have fY:decide ((i:Int)<(H.length:Int))=true:=af fT;refine' CO;obtain ⟨p1,p2⟩:=zyV (s:=s) (h:=H) (i:=i) fT fT ht;by_cases he:s.getD i 0=H.getD i 0
  .refine' Ja;refine' zc (zp bo fY hb);all_goals first|omega|skip
   exact ⟨⟨i+1,fT,p1 he⟩,lew,gh⟩
  .have hb:(((s.getD i 0).toNat:Int) !=((H.getD i 0).toNat:Int))=true:=by rw [bD];intro e;apply he;apply UInt8.toNat_inj.mp;omega
   refine' zc (zp bo fY hb);all_goals first|omega|skip
   rw [J,zem,aa (λe=>p2 he n a7 (hm.mp e))];rfl
 .obtain rfl:i=n:=by omega
  have iB:(decide ((i:Int)<(s.length:Int))&&decide ((i:Int)<8))=false:=gh;have wq:IntKind.i64.wrap 8=8:=gb;have rv:IntKind.i64.wrap 16=16:=gb;rw [zem,U (λe=>e (hm.mpr ht))] at J;by_cases jC:s.length<16
  .have hb:decide ((s.length:Int)<16)=true:=af fT;refine' zc (zat iB kD hb wq rv);rw [J,aa jC];rfl
  .have hb:decide ((s.length:Int)<16)=false:=ag fT;rw [U jC] at J;refine' zc (zat iB kD hb wq rv);refine zaI 11 1 rfl ?_;refine' Cl;obtain ⟨A,hA⟩:∃A,A=numAt s 8 4:=⟨_,rfl⟩
   obtain ⟨N,hN⟩:∃N,N=numAt s 12 4:=⟨_,rfl⟩
   rw [<-hN,<-hA] at J;have CA:N<4294967296:=by rw [hN];exact zbA s 12 4
   refine zk (λq: { i:Nat // i<=2 } =>⟨[(0,true,.d (.str (s.drop (8+4*q.1)))),(2,true,.d (.int .i64 2)),(11,true,.osl 0 1 q.1 0 q.1),(12,true,.d (.int .i64 q.1))],[(0,.arr 1 ((([(A:Int),(N:Int)]:List Int).take q.1).map u64D))],some []⟩) (λq=>2 - q.1) ⟨0,gb⟩ le1 (λq=>?_);obtain ⟨j,hj⟩:=q;have h3:j=0\/j=1\/j=2:=fT;have e0:(([(A:Int),(N:Int)]:List Int).take 0).map u64D= []:=rfl;have e1:(([(A:Int),(N:Int)]:List Int).take 1).map u64D= [[.int .u64 (A:Int)]]:=rfl;have e2:(([(A:Int),(N:Int)]:List Int).take 2).map u64D= [[.int .u64 (A:Int)],[.int .u64 (N:Int)]]:=rfl;have w1:IntKind.i64.wrap 1=1:=gb;have w2:IntKind.i64.wrap 2=2:=gb;rcases h3 with rfl|rfl|rfl
   .have lD:takeS (s.drop 8) 4=((A:Int),s.drop 12,0):=by rw [zse _ gG,ztK,bc,hA]
    simp only [e0];refine' walkW (zg lD w1) (za zcE <| za zx <| zb _);all_goals first|(rw [ak];omega)|skip
    exact ⟨⟨1,gb⟩,by simp only [e1];exact lxb w1,gb⟩
   .have lD:takeS (s.drop 12) 4=((N:Int),s.drop 16,0):=by rw [zse _ gG,ztK,bc,hN]
    simp only [e1];refine' walkW (zg lD w2) (za zcE <| za zx <| zb _);all_goals first|(rw [ak];omega)|skip
    exact ⟨⟨2,gb⟩,by simp only [e2];exact lxb w2,gb⟩
   .obtain ⟨D,hD⟩:∃D,D=s.drop 16:=⟨_,rfl⟩
    have oO:D.length+16=s.length:=sG;have hw:IntKind.u64.wrap (D.length:Int)=D.length:=zA fT fT;rw [<-bc,<-hD] at J;simp only [e2];by_cases gE:4096<N
    .have bo:decide ((4096:Int)<(N:Int))=true:=af fT;rw [aa gE] at J;refine' zc (zg bo w1);rw [J];rfl
    .have bo:decide ((4096:Int)<(N:Int))=false:=ag fT;rw [U gE] at J;by_cases b3:s.length<16+N
     .have fY:decide ((D.length:Int)<(N:Int))=true:=af fT;rw [aa b3] at J;refine' zc (zat bo fY hD.symm hw w1);rw [J];rfl
     .have fY:decide ((D.length:Int)<(N:Int))=false:=ag fT;rw [U b3] at J;refine' zc (zat bo fY hD.symm hw w1);rw [J];rfl
def zpW (s:Txt) (J:s.length<=4611686018427387904):ACall Tryz.prog 258 0 [.d (.str s),.d (.str [73,72,65,86,69,79,80,84]),.d (.int .i64 2)] [] (λr _=>r= .tup [.d (.sl 1 ((zem s).1.map u64D)),.d (.str (zem s).2.1),.d (.str (zem s).2.2.1),.d (.int .i64 (zem s).2.2.2)]):=by
 exact zsf s J
@[go_sem] def zhG:Ent Tryz.prog 258:= .ofL (consL strT (consL (zav (.d (.str [73,72,65,86,69,79,80,84]))) (consL (zav (.d (.int .i64 2))) nilL))) (λ(s,_,_,_)=>s.length<=4611686018427387904) (λ(s,_,_,_)=> .tup [.d (.sl 1 ((zem s).1.map u64D)),.d (.str (zem s).2.1),.d (.str (zem s).2.2.1),.d (.int .i64 (zem s).2.2.2)]) (λ(s,_,_,_) hp=>⟨rfl,zpW s hp⟩)
def zvB (s:Txt) (hs:s.length≤4611686018427387904):AC 192 [.d (.str s)] (.tup [.agg [.d (.int .u32 (optRd s).1.1),.d (.str (optRd s).1.2)],.d (.str (optRd s).2.1),.d (.int .i64 (optRd s).2.2)]):=by
 obtain ⟨T,hT⟩:∃T,T=zem s:=⟨_,rfl⟩
 obtain ⟨V,hV⟩:∃V,V=optRd s:=⟨_,rfl⟩
 have hTV:(T.2.2.2≠0∧V=((0,[]),[],T.2.2.2))∨(∃A N:Nat,A<4294967296∧T=([(A:Int),(N:Int)],T.2.1,T.2.2.1,0)∧V=(((A:Int),T.2.1),T.2.2.1,0)):=by
  unfold zem at hT
  unfold optRd at hV
  split at hT
  ·rename_i h1
   rw [aa h1] at hV
   exact .inl pQ
  ·rename_i h1
   rw [U h1] at hV
   split at hT
   ·rename_i h2
    rw [aa h2] at hV
    exact .inl pQ
   ·rename_i h2
    rw [U h2] at hV
    split at hT
    ·rename_i h3
     rw [aa h3] at hV
     exact .inl pQ
    ·rename_i h3
     rw [U h3] at hV
     split at hT
     ·rename_i h4
      rw [aa h4] at hV
      exact .inl pQ
     ·rename_i h4
      rw [U h4] at hV
      exact .inr ⟨_,_,zbA s 8 4,by rw [hT],by rw [hT];exact hV⟩
 rw [← hV]
 refine fbod func192 ntmps192 (fun base=>?_)
 rcases hTV with ⟨he,hv⟩|⟨A,N,hA,ht,hv⟩
 ·have hb:(T.2.2.2 !=0)=true:=by simpa using he
  refine' walkW (zg hT.symm hb) (za zhG <| zb _)
  rw [hv]
 ·have hb:(T.2.2.2 !=0)=false:=by rw [ht];rfl
  have hT1:T.1= [(A:Int),(N:Int)]:=by rw [ht]
  have hw:IntKind.u32.wrap (A:Int)=A:=zbT fT fT
  have hg:([(A:Int),(N:Int)].map u64D)= [[.int .u64 (A:Int)],[.int .u64 (N:Int)]]:=rfl
  refine' walkW (zat hT.symm hb hT1 hg hw) (za zhG <| zb _)
  rw [hv]
@[go_sem] def zdq:Ent Tryz.prog 192:= .m1 strT zvB
def ziw (s:Txt) (i k:Nat) (h1:1<=k) (J:k<=8) (h:i+k<=s.length):takeS (s.drop i) (k:Int)=(((numAt s i k:Nat):Int),s.drop (i+k),0):=by
 rw [takeS,U fT,U gG,aw,bc];rfl
def zvC (s:Txt) (hs:s.length<=9223372036854775807):AC 119 [.d (.str s)] (.tup [rqA (reqRd s).1,.d (.str (reqRd s).2.1),.d (.int .i64 (reqRd s).2.2)]):=by
 refine' Hg;obtain ⟨H,hH⟩:∃H,H=reqHd:=⟨_,rfl⟩
 have kD:H.length=4:=by rw [hH];rfl
 have hm:s.take 4=reqHd.take s.length↔s.take n=H.take n:=x9;refine fbod func119 ntmps119 (λbase=>?_);refine' Ds;refine zk (λq: { i:Nat // i<=n/\s.take i=H.take i } =>⟨[(0,true,.d (.str s)),(2,true,.vp 0 0),(5,true,.d (.int .i64 q.1))],[(0,.var [.d (.int .i64 0),.d (.int .i64 0),.d (.int .u64 0),.d (.int .u64 0),.d (.int .u32 0),.d (.str [])])],some []⟩) (λq=>n - q.1) ⟨0,ad _,rfl⟩ le1 (λq=>?_);obtain ⟨i,hi,ht⟩:=q;simp only at hi ht |-;rcases aO i n with a8|gU
 .have bo:decide ((i:Int)<(s.length:Int))=true:=af fT;have fY:decide ((i:Int)<4)=true:=af fT;refine' CO;obtain ⟨p1,p2⟩:=zyV (s:=s) (h:=H) (i:=i) fT fT ht;have wu:([37,96,149,19]:Txt)=H:=hH.symm;by_cases he:s.getD i 0=H.getD i 0
  .refine' Ja;refine' zc (zat bo fY wu kD hb);all_goals first|omega|skip
   exact ⟨⟨i+1,fT,p1 he⟩,lew,gh⟩
  .have hb:(((s.getD i 0).toNat:Int) !=((H.getD i 0).toNat:Int))=true:=by rw [bD];intro e;apply he;apply UInt8.toNat_inj.mp;omega
   refine' zc (zat bo fY wu kD hb);all_goals first|omega|skip
   rw [J,reqRd,aa (λe=>p2 he n a8 (hm.mp e))];rfl
 .obtain rfl:i=n:=by omega
  have iB:(decide ((i:Int)<(s.length:Int))&&decide ((i:Int)<4))=false:=gh;rw [reqRd,U (λe=>e (hm.mpr ht))] at J;by_cases qA:s.length<28
  .have hb:decide ((s.length:Int)<28)=true:=af fT;rw [aa qA] at J;refine' zc (zg iB hb);rw [J];rfl
  .have hb:decide ((s.length:Int)<28)=false:=ag fT;rw [U qA] at J;have t1:takeS (s.drop 4) 2=(((numAt s 4 2:Nat):Int),s.drop 6,0):=ziw s 4 2 gb gb fT;have t2:takeS (s.drop 6) 2=(((numAt s 6 2:Nat):Int),s.drop 8,0):=ziw s 6 2 gb gb fT;have t3:takeS (s.drop 8) 8=(((numAt s 8 8:Nat):Int),s.drop 16,0):=ziw s 8 8 gb gb fT;have t4:takeS (s.drop 16) 8=(((numAt s 16 8:Nat):Int),s.drop 24,0):=ziw s 16 8 gb gb fT;have t5:takeS (s.drop 24) 4=(((numAt s 24 4:Nat):Int),s.drop 28,0):=ziw s 24 4 gb gb fT
   have hw:∀i k:Nat,k<=4->IntKind.i64.wrap (numAt s i k:Int)=numAt s i k:=λi k hk=>by have h1:=zbA s i k;have h2:256 ^ k<=256 ^ 4:=eN gb hk;exact zf fT fT
   have ab:=hw 4 2 gb;have a6:=hw 6 2 gb
   have gX:IntKind.u32.wrap (numAt s 24 4:Int)=numAt s 24 4:=by have:=zbA s 24 4;exact zbT fT fT
   obtain ⟨D,hD⟩:∃D,D=s.drop 28:=⟨_,rfl⟩
   have oO:D.length+28=s.length:=sG;have yX:IntKind.u64.wrap (D.length:Int)=D.length:=zA fT fT;have gw:∀k,(s.drop k).length<=9223372036854775807:=λk=>gG;rw [<-hD] at t5;have oQ:s.drop (28+numAt s 24 4)=D.drop (numAt s 24 4):=by rw [hD,bc]
   rw [oQ,<-hD] at J;refine' walkW (zr iB hb t1 t2 t3 (zr t4 t5 ab a6 gX (zg gw yX))) (za zx <| zb _)
   .have h6:numAt s 6 2≠1:=by have:=bne_iff_ne.mp hc;omega
    rw [J,aa h6];rfl
   all_goals
    have h6:¬numAt s 6 2≠1:=by have:=bne_eq_false_iff_eq.mp (by assumption:((numAt s 6 2:Int) !=1)=false);omega
    rw [U h6] at J
   .rw [J,aa kR];rfl
   .refine' ER;rw [J,U fT,aa kR];rfl
   .have:=aQ hc;omega
   .have:=aQ hc;omega
   .refine' ER;have:=aQ hc;rw [J,U fT,U fT];rfl
@[go_sem] def zen:Ent Tryz.prog 119:= .m1 strT zvC
def rep0 (i:Nat):List (List D):=List.replicate i (cnD cn0)
def zyZ (x:Img) (n:Int) (_:True):AC 23 [imgA x,.d (.int .i64 n)] (.tup [srvA (svNew x n).1,.d (.int .i64 (svNew x n).2)]):=by
 obtain ⟨V,hV⟩:∃V,V=svNew x n:=⟨_,rfl⟩
 rw [<-hV];unfold svNew at hV;by_cases hb:n<1\/4<n
 .have hc:(decide (n<1)||decide (4<n))=true:=by simpa using hb
  rw [aa hb] at hV;refine fbod func23 ntmps23 (λbase=>?_);refine' zc hc;rw [hV];rfl
 .have hc:(decide (n<1)||decide (4<n))=false:=by simp;omega
  rw [U hb] at hV;obtain ⟨k,hk⟩:∃k:Nat,n=k:=⟨n.toNat,fT⟩
  subst hk;rw [aw] at hV;refine fbod func23 ntmps23 (λbase=>?_);refine' zc hc;refine zeX 2 11 8 rfl rfl ?_;refine' Cl;refine zk (λq: { i:Nat // i<=k } =>⟨[(1,true,.d (.int .i64 k)),(4,true,.vp 1 0),(6,true,.vp 2 0),(7,true,.d (.int .i64 q.1))],[(3,.arr 8 (rep0 q.1)),(2,.var (imgC x++ [.osl 3 8 q.1 0 q.1])),(1,.var (img0++ [.nils 8]))],some []⟩) (λq=>k - q.1) ⟨0,ad _⟩ (by unfold imgC img0;exact lxa) (λq=>?_);obtain ⟨i,hi⟩:=q;simp only [imgC,img0] at hi |-;refine' CO;have gF:(rep0 i).length=i:=bB ..;rcases aO i k with aZ|gU
  .have J:decide ((i:Int)<(k:Int))=true:=af fT;have e8:rep0 (i+1)=rep0 i++ [[.int .i64 0,.str [],.bool false,.bool false,.sl 1 [],.sl 12 [],.str zl5,.bool false]]:=fH;refine' walkW (zg J gF) (za znT <| zb _);all_goals first|omega|skip
   exact ⟨⟨i+1,fT⟩,by simp only [e8];exact lxb hwi,gh⟩
  .obtain rfl:i=k:=by omega
   have J:decide ((i:Int)<(i:Int))=false:=ag fT;refine' zc (zg J gF);rw [hV,aA (cH gF)];rw [rep0];simp only [List.map_replicate]
@[go_sem] def zfb:Ent Tryz.prog 23:= .m2 za9 (intT .i64) zyZ
def tkV (c:Cn):AV:=if c.gone=true then .nils 12 else .osl 23 12 c.tasks.length 0 c.tasks.length
def TkR (c S:Cn) (r:AV) (h':AHeap):Prop:=r= .agg (rowC c (tkV c))/\h'= [(23,.arr 12 (S.tasks.map tskD))]
def cnZ:List AV:= [.d (.int .i64 0),.d (.str []),.d (.bool false),.d (.bool false),.nils 1,.nils 12,.d (.str []),.d (.bool false)]
def zvO (x:Img) (c:Cn) (ts:List (List D)) (J:c.gone=true):ACall Tryz.prog 61 40 [imgA x,.agg (rowC c (.nils 12))] [(23,.arr 12 ts)] (λr h'=>r= .agg (rowC c (.nils 12))/\h'= [(23,.arr 12 ts)]):=by refine' Ea;refine' Ib;refine' zc J;refine zk (λ_:Unit=>⟨[(2,true,.vp 40 0),(3,true,.vp 41 0),(4,true,.vp 42 0)],[(42,.var cnZ),(41,.var (rowC c (.nils 12))),(40,.var (imgC x)),(23,.arr 12 ts)],some []⟩) (λ_=>0) () xX (λ_=>?_);unfold imgC cnZ;cases hp:(c.n.phase==2)<;>refine' zc (zg hp J);all_goals rfl
def zvP (x:Img) (c:Cn) (ts:List (List D)) (n:Nat) (J:c.gone=true):ACall Tryz.prog 61 40 [imgA x,.agg (rowC c (.osl 23 12 n 0 n))] [(23,.arr 12 ts)] (λr h'=>r= .agg (rowC c (.osl 23 12 n 0 n))/\h'= [(23,.arr 12 ts)]):=by refine' Ea;refine' Ib;refine' zc J;refine zk (λ_:Unit=>⟨[(2,true,.vp 40 0),(3,true,.vp 41 0),(4,true,.vp 42 0)],[(42,.var cnZ),(41,.var (rowC c (.osl 23 12 n 0 n))),(40,.var (imgC x)),(23,.arr 12 ts)],some []⟩) (λ_=>0) () xX (λ_=>?_);unfold imgC cnZ;cases hp:(c.n.phase==2)<;>refine' zc (zg hp J);all_goals rfl
def zvQ (x:Img) (c:Cn) {L M:Nat} (hx:XOk x) (hc:CnOk L x c) (hL:L<=9223372036854775806) (b9:OutOk M c) (hM:M<=9223372036854770000) (hg:c.gone=false):ACall Tryz.prog 61 40 [imgA x,.agg (rowC c (.osl 23 12 c.tasks.length 0 c.tasks.length))] [(23,.arr 12 (c.tasks.map tskD))] (λr h'=>TkR (zbO (128*x.geom.guest) c) (zhE (128*x.geom.guest) (c.n.buf.length+1) c) r h'):=by
 refine' Ea;obtain ⟨V,hV⟩:∃V,V=zbO (128*x.geom.guest) c:=⟨_,rfl⟩
 rw [<-hV];obtain ⟨S,hS⟩:∃S,S=zhE (128*x.geom.guest) (c.n.buf.length+1) c:=⟨_,rfl⟩
 rw [<-hS];have yY:=hx.img.ok;have yZ:=hx.g0;have y0:=hx.g1;have y1:=hx.maps;refine' Ib;refine' Ds;refine zk (λq: { p:Cn×Nat // CnOk L x p.1/\OutOk M p.1/\p.1.n.buf.length+1<=p.2/\V=zcz (128*x.geom.guest) p.2 p.1/\S=zhE (128*x.geom.guest) p.2 p.1/\p.1.gone=false } =>⟨[(2,true,.vp 40 0),(3,true,.vp 41 0),(4,true,.vp 42 0)],[(42,.var cnZ),(41,.var (rowC q.1.1 (.osl 23 12 q.1.1.tasks.length 0 q.1.1.tasks.length))),(40,.var (imgC x)),(23,.arr 12 (q.1.1.tasks.map tskD))],some []⟩) (λq=>q.1.2) ⟨(c,c.n.buf.length+1),hc,b9,aj _,hV,hS,hg⟩ (by unfold imgC cnZ;exact lxa) (λq=>?_);obtain ⟨⟨o,m⟩,ho,nw,hm,ll,lJ,n7⟩:=q;simp only [imgC,cnZ] at ho nw hm ll lJ n7 |-;have jM:(!o.gone)=true:=by rw [n7];rfl
 by_cases iw:zek o
 .have jn:(o.n.phase==2)=true:=by rw [iw.1];rfl
  have iv:decide ((o.tasks.length:Int)<8)=true:=af (by have:=iw.2.2;omega);have c8:o.n.buf.length<=9223372036854775807:=by have:=ho.buf;omega
  refine' Jd;rw [zh0 iw] at ll;rw [zhE] at lJ;have ry:=znQ c8;have CB:=ho.ms.1;by_cases gl:(reqRd o.n.buf).2.2=22
  .rw [U fT,cnNx,aa gl] at ll;have ln:((reqRd o.n.buf).2.2==22)=true:=by rw [gl];rfl
   refine' walkW (zB jn jM iv ln) (za zen <| za zcm <| za zc8 <| za zaB <| za ze7 <| zb _);rw [U (λh=>h.2 (.inl fT))] at lJ;rw [ll,lJ];exact ⟨u4,rfl⟩
  .have ln:((reqRd o.n.buf).2.2==22)=false:=by simpa using gl
   by_cases h0:(reqRd o.n.buf).2.2=0
   .have e0:((reqRd o.n.buf).2.2 !=0)=false:=by rw [h0];rfl
    obtain ⟨k,J⟩:∃k,k=za2 (reqRd o.n.buf).1 (128*x.geom.guest) o.n.chunks o.n.metas:=⟨_,rfl⟩
    have tX:=zk6 (q:=(reqRd o.n.buf).1) (s:=128*x.geom.guest) (ch:=o.n.chunks) (ms:=o.n.metas);rw [<-J] at tX;have hb:=znN (size:=128*x.geom.guest) h0;have gC:=zsa hx ho fT iw;rw [aa h0] at ll;by_cases hd:(reqRd o.n.buf).1.kind=2/\k=0
    .have e2:((reqRd o.n.buf).1.kind==2)=true:=by rw [hd.1];rfl
     have ek:(k==0)=true:=by rw [hd.2];rfl
     rw [cnNx,U gl,aa (.inr ⟨hd.1,by rw [<-J];exact hd.2⟩),zcC rfl] at ll;refine' walkW (zr jn jM iv ln e0 (zp e2 J.symm ek)) (za zen <| za zcm <| za zc8 <| za zaB <| za ze7 <| zb _);refine' GR;refine' Cp;simp only [go_sem,aeq,aeq.aeqF,simprocAttr,rowC,hup];refine' Ds;rw [U (λh=>h.2 (.inr ⟨hd.1,by rw [<-J];exact hd.2⟩))] at lJ;rw [ll,lJ];refine' Iu
    .have hn:cnNx (128*x.geom.guest) o=cnOne (128*x.geom.guest) o:=by
      rw [cnNx,U gl,U];rintro (h|h)
      .exact h h0
      .exact hd ⟨h.1,by rw [J];exact h.2⟩
     have n8:=zjW (size:=128*x.geom.guest) nw;have htr:=zgo (reqRd o.n.buf).1 k o.n.chunks;have j0:o.out.length<=M:=by unfold OutOk at nw;omega
     rw [hn] at ll hb gC n8;rw [aa ⟨iw,λh=>h.elim (λh=>h h0) (λh=>hd ⟨h.1,by rw [J];exact h.2⟩)⟩] at lJ;by_cases mf:k=0
     .have e2:((reqRd o.n.buf).1.kind==2)=false:=by simpa using λe=>hd ⟨e,mf⟩
      have ek:(k !=0)=false:=by rw [mf];rfl
      have oY:cnOne (128*x.geom.guest) o= { o with n:= { o.n with buf:=(reqRd o.n.buf).2.1 },tasks:=o.tasks++ [tnew (reqRd o.n.buf).1] } :=by rw [cnOne,U (by rw [<-J];omega)]
      refine' walkW (zr jn jM iv ln e0 (zB e2 J.symm ek @List.length_map.{0,0})) (za zen <| za zcm <| za zc8 <| za zaB <| za ze7 <| zb _);exact ⟨⟨(cnOne (128*x.geom.guest) o,m),gC,n8,gH,ll,lJ,by rw [zhr];exact n7⟩,by simp only [oY,aG,ae,bl];exact lxa,fZ⟩
     .have ek:(k !=0)=true:=by simpa using mf
      have tY:(k==0)=false:=by simpa using mf
      have oY:cnOne (128*x.geom.guest) o= { o with n:= { o.n with buf:=(reqRd o.n.buf).2.1 },out:=o.out++zcX (reqRd o.n.buf).1 k o.n.chunks } :=by rw [cnOne,aa (by rw [<-J];exact mf),<-J]
      cases e2:((reqRd o.n.buf).1.kind==2)<;>refine' walkW (zr jn jM iv ln e0 (zB e2 J.symm ek tY)) (za zen <| za zcm <| za zc8 <| za zaB <| za ze7 <| zb _);all_goals first|omega|exact ⟨⟨(cnOne (128*x.geom.guest) o,m),gC,n8,gH,ll,lJ,by rw [zhr];exact n7⟩,by simp only [oY];exact lxa,fZ⟩
   .have e0:((reqRd o.n.buf).2.2 !=0)=true:=by simpa using h0
    rw [U h0,cnNx,U gl,aa (.inl h0)] at ll;refine' walkW (zat jn jM iv ln e0) (za zen <| za zcm <| za zc8 <| za zaB <| za ze7 <| zb _);refine' GR;refine' Cp;simp only [go_sem,aeq,aeq.aeqF,simprocAttr,rowC,hup];refine' Ds;rw [U (λh=>h.2 (.inl h0))] at lJ;rw [ll,lJ];refine' Iu
 .have pS:o=V:=by rw [ll,zfa iw]
  have wv:S=o:=by
   rw [lJ];cases m with
   |zero=>rfl
   |succ m=>rw [zhE,U (λh=>iw h.1)]
  subst pS;by_cases hp:o.n.phase=2
  .have jn:(o.n.phase==2)=true:=by rw [hp];rfl
   have iv:decide ((o.tasks.length:Int)<8)=false:=ag (λe=>iw ⟨hp,n7,fT⟩);refine' zc (zp jn jM iv);exact ⟨u4,by rw [wv]⟩
  .have jn:(o.n.phase==2)=false:=by simpa using hp
   refine' zc jn;exact ⟨u4,by rw [wv]⟩
end
end Go.Aw
