/- Lemmas. -/
import Derived.Test.YtgldbfelccddbaaGreatApa35
import Derived.Test.YtgldbfelccddbaaGreatApa31
set_option linter.all false
set_option maxRecDepth 100000
set_option maxHeartbeats 2000000
namespace Go.Aw
noncomputable section
open Go Go.Proofs Go.Proofs.Tryz
def dmapA (m:Dmap):AV:= .agg (.d (.str m.name):: .d (.bool m.inuse)::(m.bits.map D.bool).map AV.d)
def zpG (n:Nat) (h:AHeap):∀l:List D,(l.map AV.d).map (frz n h)=l.map AV.d
 | []=>rfl
 |d::l=>by rw [au,au,frz_d,zpG n h l]
def zkX (m:Dmap) (n:Nat) (h:AHeap):frz (n+1) h (dmapA m)=dmapA m:=by
 rw [dmapA,zCh,au,au,frz_d,frz_d,zpG]
@[go_sem] def dmapA_le (m:Dmap):AV.le (dmapA m) (dmapA m):=AV.le_refl _
@[go_sem] def zkY (m:Dmap):(dmapA m).ids= []:=by simp only [dmapA,AV.ids,AV.idsL,bh];exact zdi _
def zmd:∀l:List D,(l.map AV.d).all AV.leaf=true
 | []=>rfl
 |d::l=>by rw [au,bq,zmd l];rfl
def zyw (m:Dmap) (name:Txt):ACall Tryz.prog 378 0 [dmapA m,.dp [.d (.str name)]] [] (λr _=>r= .d (.bool (m.name==name))):=by
 refine fbod func378 ntmps378 (λbase=>?_)
 (have tk:=zb Tryz.prog);repeat' (first|((first|(refine sa ?_;intro K hK)|refine sb ?_);simp only [go_sem,aeq,aeq.aeqF,simprocAttr,dmapA,zmd,results378])|refine zaC (λK hK=>?_)|(refine hK _ ?_;clear hK K)|with_reducible refine And.intro ?_ ?_|omega|assumption|clear hK K)
def zrN (m:Dmap) (name:Txt) {fl:Nat} {h:AHeap} :ACallAt Tryz.prog fl 378 [dmapA m,.dp [.d (.str name)]] h (λr h'=>r= .d (.bool (m.name==name))/\h'=h):=zaE (zyw m name) (by rw [au,zkX];rfl) uK rfl
def zvi (l:List Dmap) (name:Txt) (hl:l.length<=9223372036854775807) (hb:∀m∈l,m.bits.length=64):ACall Tryz.prog 377 0 [.d (.sl 66 (l.map dmapD)),.fn (.func 378) [] [.dp [.d (.str name)]]] [] (λr _=>r= .d (.int .i64 (idxP (λm=>m.name==name) l 0))):=by
 refine bod func377 ntmps377 (λbase=>?_);refine' Ds;refine zk (λq:Idst (λm=>m.name==name) l=>⟨[(0,true,.d (.sl 66 (l.map dmapD))),(1,true,.fn (.func 378) [] [.dp [.d (.str name)]]),(7,true,.d (.int .i64 l.length)),(8,true,.d (.int .i64 q.1))],[],some []⟩) (λq=>l.length - q.1) ⟨0,ad _,rfl⟩ le1 (λq=>?_);refine' Di;rcases zw dmapD l i hi with ⟨m,hq,a8,J,ab,b4,a7⟩|⟨ao,J⟩
 .simp only [dmapD] at ab;refine' CO;have hm:=hb m (ay hq);refine' HG;refine' zc (zat J ab iG hm natC);refine (zrN m name).mono ?_;refine' Cp;refine' Ds
  .rw [hf,b4,idxP,aa gA]
  .exact ⟨⟨i+1,fT,Ba⟩,lew,gh⟩
 .refine' Hp
@[go_sem] def zg0:Ent Tryz.prog 377:= .ofL (consL (slT 66 dmapD zfM) (consL (fnT 378 (consL (dpT (consL strT nilL) (λp=>p) (λp=>p) (λ_=>rfl)) nilL)) nilL)) (λ(l,((name,_),_),_)=>(l.length<=9223372036854775807)/\(∀m∈l,m.bits.length=64)) (λ(l,((name,_),_),_)=> .d (.int .i64 (idxP (λm=>m.name==name) l 0))) (λ(l,((name,_),_),_) hp=>⟨rfl,zvi l name hp.1 hp.2⟩)
def zyx (m:Dmap) (g:Nat) (hm:m.bits.length=64) (hg:g<64):ACall Tryz.prog 510 0 [dmapA m,.d (.int .i64 g)] [] (λr _=>r= .tup [.d (.int .i64 (bitF m g).1),.d (.int .i64 (bitF m g).2)]):=by
 refine fbod func510 ntmps510 (λbase=>?_)
 have hb:(AV.d (.str m.name)::AV.d (.bool m.inuse)::(m.bits.map D.bool).map AV.d).getD (2+g*1) AV.any= .d (.bool (m.bits.getD g false)):=by rw [cF,Nat.add_comm,eB,eB,bZ,aN,cT,bk fT,aN,bk fT];rfl
 have hl:(List.map AV.d (List.map D.bool m.bits)).length=64:=by simp [hm]
 cases J:m.bits.getD g false with
 |true=>
  refine' DE;all_goals first|omega|(rw [bitF,aw,J];done)|(rw [bitF,aw,J];rfl)|skip
 |false=>
  refine' DE;all_goals first|omega|(rw [bitF,aw,J];done)|(rw [bitF,aw,J];rfl)|skip
def zrO (m:Dmap) (g:Nat) (hm:m.bits.length=64) (J:g<64) {fl:Nat} {h:AHeap} :ACallAt Tryz.prog fl 510 [dmapA m,.d (.int .i64 g)] h (λr h'=>r= .tup [.d (.int .i64 (bitF m g).1),.d (.int .i64 (bitF m g).2)]/\h'=h):=zaE (zyx m g hm J) (by rw [au,zkX];rfl) uK rfl
def zvj (m:Dmap) (a:Int) (n:Int) (hm:m.bits.length=64) (gV:∀q∈cutsL a n,q.1<64):ACall Tryz.prog 376 0 [.d (.int .i64 a),.d (.int .i64 n),.iface 504 (dmapA m)] [] (λr _=>r= .tup [.d (.sl 2 ((spL (bitF m) (cutsL a n) []).1.map extD)),.d (.int .i64 (spL (bitF m) (cutsL a n) []).2)]):=by
 refine fbod func376 ntmps376 (λbase=>?_);obtain ⟨Z,hZ⟩:∃Z,Z=spL (bitF m) (cutsL a n) []:=⟨_,rfl⟩
 rw [<-hZ];refine' EG;have gF:l.length<=65536:=mF;have ir:∀q∈l,1<=q.2.2/\q.2.2<=128:=tG;rw [<-hl] at hZ gV;refine' walkW hl.symm (za zci <| za zej <| zb _);refine zaI 8 2 rfl ?_;refine' Ev;refine zk (λq: { q:Nat×List Ext // q.1<=l.length/\q.2.length=q.1/\(∀y∈q.2,1<=y.len/\y.len<=128)/\Z=spL (bitF m) (l.drop q.1) q.2 } =>⟨[(2,true,.iface 504 (dmapA m)),(8,true,.osl 0 2 q.1.2.length 0 q.1.2.length),(15,true,.d (.sl 3 (l.map cutD))),(16,true,.d (.int .i64 l.length)),(17,true,.d (.int .i64 q.1.1))],[(0,.arr 2 (q.1.2.map extD))],some []⟩) (λq=>l.length - q.1.1) ⟨(0,[]),ad _,rfl,fZ,hZ⟩ le1 (λq=>?_);refine' FQ
 .simp only [cutD] at an;refine' CO;have kE:=ir _ (ay hq);rw [b4] at hf;have hf:=ztB hf;simp only at hf kE;have wo:=gV _ (ay hq);simp only at wo;obtain ⟨C,hC⟩:∃C,C=bitF m c0:=⟨_,rfl⟩
  have qN:C.2=0:=by rw [hC];rfl
  rw [<-hC,U (by simpa using qN)] at hf;refine' walkW (zg J an) (za zci <| za zej <| zb _);refine (zrO m c0 hm wo).mono ?_;refine' Cp;rw [<-hC];refine' walkW (zg qN @bne_self_eq_false.{0}) (za zci <| za zej <| zb _);all_goals first|omega|rfl|(simp;done)|skip
  exact ⟨⟨(i+1,o++ [⟨c2,C.1⟩]),fT,by simp [j0],λy hy=>by
   rcases aS.1 hy with hy|hy
   .exact ho y hy
   .rw [bp] at hy;subst hy;simp only;omega,hf⟩,uN,gh⟩
 .refine' GW;refine' walkW J (za zci <| za zej <| zb _);all_goals first|omega|exact ho|skip
  rw [hf]
def zA7 {l:List Dmap} {name:Txt} :∀i:Nat,(idxP (λm=>m.name==name) l i<0->l.find? (λm=>m.name==name)=none)/\(0<=idxP (λm=>m.name==name) l i->∃ (j:Nat) (m:Dmap),idxP (λm=>m.name==name) l i=((i+j:Nat):Int)/\l[j]?=some m/\l.find? (λm=>m.name==name)=some m):=by
 induction l with
 |nil=>
  intro i;exact ⟨λ_=>rfl,λh=>absurd h (by simp [idxP])⟩
 | cons a l ih=>
  intro i;cases J:(a.name==name) with
  |true=>
   have e:idxP (λm:Dmap=>m.name==name) (a::l) i=i:=by simp [idxP,J]
   refine ⟨λh=>by rw [e] at h;omega,λ_=>⟨0,a,by rw [e];rfl,rfl,by rw [dV,J]⟩⟩
  |false=>
   have e:idxP (λm:Dmap=>m.name==name) (a::l) i=idxP (λm:Dmap=>m.name==name) l (i+1):=by simp [idxP,J]
   rw [e,dV,J];refine ⟨(ih (i+1)).1,λh=>?_⟩;obtain ⟨j,m,h1,h2,h3⟩:=(ih (i+1)).2 h;exact ⟨j+1,m,by rw [h1];congr 1;omega,h2,h3⟩
def zpH (m:Dmap) (a n:Int) (hm:m.bits.length=64) (gV:∀q∈cutsL a n,q.1<64) {fl:Nat} {h:AHeap} :ACallAt Tryz.prog fl 376 [.d (.int .i64 a),.d (.int .i64 n),.iface 504 (dmapA m)] h (λr h'=>r= .tup [.d (.sl 2 ((spL (bitF m) (cutsL a n) []).1.map extD)),.d (.int .i64 (spL (bitF m) (cutsL a n) []).2)]/\h'=h):=zaE (zvj m a n hm gV) (by rw [au,au,au,zwe,zkX];rfl) uK rfl
def zA8 (x:Img) (name:Txt) (a:Int) (n:Int) (h:ImgF x) (h0:0<=x.geom.guest) (hm:x.maps.length<=5000):ACall Tryz.prog 329 0 [imgA x,.d (.str name),.d (.int .i64 a),.d (.int .i64 n)] [] (λr _=>r= .tup [.d (.sl 2 ((zdD x name a n).1.map extD)),.d (.int .i64 (zdD x name a n).2)]):=by
 refine fbod func329 ntmps329 (λbase=>?_);have l4:=h.guest;have qP:=h.ok.bits;obtain ⟨Z,hZ⟩:∃Z,Z=zdD x name a n:=⟨_,rfl⟩
 rw [<-hZ];rw [zdD] at hZ;have tW:=zA7 (l:=x.maps) (name:=name) 0;obtain ⟨I,hI⟩:∃I,I=idxP (λm=>m.name==name) x.maps 0:=⟨_,rfl⟩
 rw [<-hI] at tW;by_cases hr:n<1\/inB x.geom.guest a n=false
 .rw [aa hr] at hZ;have J:(decide (n<1)|| !inB x.geom.guest a n)=true:=jX;refine' walkW (zg hI.symm J) (za zg0 <| za zdG <| zb _);all_goals first|omega|exact qP|(rw [hZ];rfl)|skip
 rw [U hr] at hZ;have J:(decide (n<1)|| !inB x.geom.guest a n)=false:=jX;have iq:inB x.geom.guest a n=true:=by simp at hr;exact hr.2
 rw [inB_iff] at iq
 have gV:∀q∈cutsL a n,q.1<64:=by intro q hq;have h1:=zeh q hq;omega
 by_cases pV:I<0
 .have hb:decide (I<0)=true:=af pV;rw [tW.1 pV] at hZ;simp only at hZ;refine' walkW (zp hI.symm J hb) (za zg0 <| za zdG <| zb _);all_goals first|omega|exact qP|(rw [hZ];rfl)|skip
 .have hb:decide (I<0)=false:=ag pV;obtain ⟨j,m,hj,hq,yT⟩:=tW.2 fT;rw [bL] at hj;rw [yT] at hZ;simp only at hZ;have an:=zbB (g:=dmapD) hq;simp only [dmapD] at an;have me:=qP m (ay hq);have mH:=(bP.1 hq).1;have iG:List.take 64 ((m.bits.map D.bool).map AV.d)=(m.bits.map D.bool).map AV.d:=aA (by simp [me]);refine' walkW (zr hI.symm J hb hj an (zp iG me natC)) (za zg0 <| za zdG <| zb _);all_goals first|omega|exact qP|exact zmd _|skip
  rw [zxB (by simp [me])];refine (zpH m a n me gV).mono ?_;refine' Cp;refine' Cl;refine' Ds;all_goals first|(rw [hZ];done)|(rw [hZ];rfl)|skip
@[go_sem] def zeP:Ent Tryz.prog 329:= .ofL (consL za9 (consL strT (consL (intT .i64) (consL (intT .i64) nilL)))) (λ(x,name,a,n,_)=>(ImgF x)/\(0<=x.geom.guest)/\(x.maps.length<=5000)) (λ(x,name,a,n,_)=> .tup [.d (.sl 2 ((zdD x name a n).1.map extD)),.d (.int .i64 (zdD x name a n).2)]) (λ(x,name,a,n,_) hp=>⟨rfl,zA8 x name a n hp.1 hp.2.1 hp.2.2⟩)
structure ExOk (x:Img):Prop where
 g0:0<=x.geom.guest
 g1:x.geom.guest<=1000000
 m:x.maps.length<=1000000
 b:∀m∈x.maps,m.bits.length=64
def zyy (x:Img) (h:ExOk x):AC 43 [imgA x] (xpA (xpOf x)):=by
 have h0:=h.g0;have h1:=h.g1;have hm:=h.m;refine fbod func43 ntmps43 (λbase=>?_);have hw:IntKind.u64.wrap (128*x.geom.guest)=128*x.geom.guest:=zA fT fT;refine' walkW hw (za zl8 <| zb _);refine zeX 2 1 1 (cs:= [.d (.int .u64 (128*x.geom.guest)),.nils 1]) rfl rfl ?_;refine' Cl;refine zk (λq: { i:Nat // i<=x.maps.length } =>⟨[(2,true,.vp 1 0),(3,true,.vp 2 0),(11,true,.d (.sl 66 (x.maps.map dmapD))),(12,true,.d (.int .i64 x.maps.length)),(13,true,.d (.int .i64 q.1))],[(3,.arr 1 (((x.maps.take q.1).map (λm=>m.name)).map strD)),(2,.var [.d (.int .u64 (128*x.geom.guest)),.osl 3 1 q.1 0 q.1]),(1,.var [.d (.int .u64 0),.nils 1])],some []⟩) (λq=>x.maps.length - q.1) ⟨0,ad _⟩ le1 (λq=>?_);refine' Dl;have iv:(((x.maps.take i).map (λm=>m.name)).map strD).length=i:=gh;rcases zw dmapD x.maps i hi with ⟨m,hq,a6,J,ab,b4,a7⟩|⟨ao,J⟩
 .refine' CO;obtain ⟨R,hR⟩:∃R,R=(dmapD m).map AV.d:=⟨_,rfl⟩
  have l8:R.length=66:=by rw [hR,al];exact zAr (h.b m (ay hq))
  have yU:R.take 66=R:=aA fT;have yV:R.all AV.leaf=true:=by rw [hR];exact zmd _
  have yW:R.getD 0 .any= .d (.str m.name):=by rw [hR];rfl
  refine' z8 (zL 5) (zr J ab hR.symm yU yV l8);rw [zj4 _ _ _ (by rw [l8];exact aj 66)];simp only [di,bh,l8];refine' Cl;refine' zc (zp yW iv l8);all_goals first|omega|skip
  exact ⟨⟨i+1,fT⟩,yH,gh⟩
 .refine' zc (zg J iv);rw [ao,aL,aA fZ];rfl
@[go_sem] def zkZ:Ent Tryz.prog 43:= .m1 za9 zyy
abbrev wcH (s:Tw) (L:List Spn):AHeap:= [(40,.arr 2 (L.map spnD)),(4,.var (twV s (.osl 40 2 L.length 0 L.length)))]
def zr7 (s:Tw) (L:List Spn) (k:Int) (h:ImgF s.x) (g0:0<=s.x.geom.guest) (hm:s.x.maps.length<=5000) (hq:RqOk s.q) (hf:s.q.frm<=1000000) (k0:0<=k) (k1:k<4294967296):ACall Tryz.prog 255 60 [.vp 4 0,.d (.int .u32 k)] (wcH s L) (λr h'=>∃v,r= .tup [v,.d (.int .i64 (tctx s.x s.q k).2)]/\((tctx s.x s.q k).2=0->v= .d (.sl 2 ((tctx s.x s.q k).1.map extD)))/\(v= .nils 2\/∃rows,v= .d (.sl 2 rows))/\h'=wcH s L):=by
 refine zD (λi=>decide (i<60)) ?_;refine bod func255 ntmps255 (λbase=>?_);have iZ:DP s.x.disk p0:=⟨h.disk,zch⟩
 have l4:=h.guest;have lW:=hq.l0;have jv:=hq.l1;have jJ:=hq.f0;have j1:IntKind.i64.wrap s.q.frm=s.q.frm:=zf fT fT;have iu:IntKind.i64.wrap s.q.len=s.q.len:=zf fT fT;have fW:IntKind.i64.wrap k=k:=zf fT fT;have oW:IntKind.i64.wrap (k - 2)=k - 2:=zf fT fT;rw [tctx];by_cases h1:k=1
 .subst h1;rw [zpQ];obtain ⟨R,hR⟩:∃R,R=zF s.x.disk p0:=⟨_,rfl⟩
  rw [<-hR];cases he:(R.2==0) with
  |false=>
   rw [aa gp,zel (by simp [he])];refine' walkW (zr j1 iu fW oW hR.symm he) (za zq <| za zd3 <| za zeP <| zb _);all_goals first|omega|exact ⟨_,rfl,λ_=>rfl,.inr ⟨_,rfl⟩,rfl⟩|exact ⟨_,rfl,λh0=>absurd h0 lZ,.inl rfl,rfl⟩|exact ⟨_,rfl,.inl rfl,rfl⟩|exact ⟨_,iU,rfl,.inr ⟨_,rfl⟩,rfl⟩|exact ⟨_,iU,λ_=>rfl,.inr ⟨_,rfl⟩,rfl⟩|skip
  | true=>
   rw [U gp];have b5:=zl7 (x:=s.x) (l1:=R.1.l1) (a:=s.q.frm) (n:=s.q.len) l4;obtain ⟨S,hS⟩:∃S,S=zcy s.x R.1.l1 s.q.frm s.q.len:=⟨_,rfl⟩
   rw [<-hS] at b5 |-;cases hb:(S.2==0&&(ibits .and .i64 s.q.flags 8 !=0)) with
   | true=>
    rw [zit hb];have b3:=hb;rw [aq,aF] at b3
    have tT:1<=S.1.length:=by
     have:=b5 b3.1;cases oT:S.1 with
     |nil=>exact absurd oT this
     |cons a l=>simp
    have J:=b3.1
    (have tk:=za zq <| za zd3 <| za zeP <| zb Tryz.prog);repeat' (first|((first|(refine sa ?_;intro K hK)|refine sb ?_);simp only [go_sem,aeq,aeq.aeqF,simprocAttr,j1,iu,fW,oW,<-hR,he,<-hS,hb,cE,results255])|refine zaC (λK hK=>?_)|refine sc ?_|refine za1 rfl (λhc=>?_) (λhc=>?_)|(refine hK _ ?_;clear hK K)|refine λ(nb:Bool) (hnb:nb=true->_)=>?_|with_reducible refine And.intro ?_ ?_|(refine (show zb8 _ _=true from ?_);kernel_rfl)|omega|assumption|refine λ(hg:(_:Bool)=(_:Bool))=>?_|clear hK K)
    all_goals first|omega|exact ⟨_,rfl,λ_=>rfl,.inr ⟨_,rfl⟩,rfl⟩|exact ⟨_,rfl,λh0=>absurd h0 lZ,.inl rfl,rfl⟩|exact ⟨_,rfl,.inl rfl,rfl⟩|exact ⟨_,iU,rfl,.inr ⟨_,rfl⟩,rfl⟩|exact ⟨_,iU,λ_=>rfl,.inr ⟨_,rfl⟩,rfl⟩|skip
   |false=>
    rw [zel hb];refine' walkW (zr j1 iu fW oW hR.symm (zp he hS.symm hb)) (za zq <| za zd3 <| za zeP <| zb _);all_goals first|omega|exact ⟨_,rfl,λ_=>rfl,.inr ⟨_,rfl⟩,rfl⟩|exact ⟨_,rfl,λh0=>absurd h0 lZ,.inl rfl,rfl⟩|exact ⟨_,rfl,.inl rfl,rfl⟩|exact ⟨_,iU,rfl,.inr ⟨_,rfl⟩,rfl⟩|exact ⟨_,iU,λ_=>rfl,.inr ⟨_,rfl⟩,rfl⟩|skip
 .have e1:(k - 2== -1)=false:=by rw [bb];omega
  by_cases h2:k<2\/(s.x.maps.length:Int)+2<=k
  .have hb:(decide (k - 2<0)||decide ((s.x.maps.length:Int)<=k - 2))=true:=by simp only [aH,ax];omega
   rw [zmi h1 h2,zel iz];refine' walkW (zr j1 iu fW oW e1 hb) (za zq <| za zd3 <| za zeP <| zb _);all_goals first|omega|exact ⟨_,rfl,λ_=>rfl,.inr ⟨_,rfl⟩,rfl⟩|exact ⟨_,rfl,λh0=>absurd h0 lZ,.inl rfl,rfl⟩|exact ⟨_,rfl,.inl rfl,rfl⟩|exact ⟨_,iU,rfl,.inr ⟨_,rfl⟩,rfl⟩|exact ⟨_,iU,λ_=>rfl,.inr ⟨_,rfl⟩,rfl⟩|skip
  .have hb:(decide (k - 2<0)||decide ((s.x.maps.length:Int)<=k - 2))=false:=by rw [<-cb];simp only [aH,ax];omega
   obtain ⟨j,rfl⟩:∃j:Nat,k=(j:Int)+2:=⟨(k - 2).toNat,fT⟩
   have pW:(j:Int)+2 - 2=j:=fT;rw [pW] at oW e1 hb;obtain ⟨m,qG⟩:=zaD (l:=s.x.maps) (i:=j) fT;have an:=zbB (g:=dmapD) qG;simp only [dmapD] at an;rw [zmj qG];have b5:=zpp (x:=s.x) (m:=m.name) (a:=s.q.frm) (n:=s.q.len) l4;obtain ⟨S,hS⟩:∃S,S=zdD s.x m.name s.q.frm s.q.len:=⟨_,rfl⟩
   rw [<-hS] at b5 |-;cases iH:(S.2==0&&(ibits .and .i64 s.q.flags 8 !=0)) with
   | true=>
    rw [zit iH];have b3:=iH;rw [aq,aF] at b3
    have tT:1<=S.1.length:=by
     have:=b5 b3.1;cases oT:S.1 with
     |nil=>exact absurd oT this
     |cons a l=>simp
    have J:=b3.1
    (have tk:=za zq <| za zd3 <| za zeP <| zb Tryz.prog);repeat' (first|((first|(refine sa ?_;intro K hK)|refine sb ?_);simp only [go_sem,aeq,aeq.aeqF,simprocAttr,j1,iu,fW,pW,oW,e1,hb,an,aw,<-hS,iH,cE,results255])|refine zaC (λK hK=>?_)|refine sc ?_|refine za1 rfl (λhc=>?_) (λhc=>?_)|(refine hK _ ?_;clear hK K)|refine λ(nb:Bool) (hnb:nb=true->_)=>?_|with_reducible refine And.intro ?_ ?_|(refine (show zb8 _ _=true from ?_);kernel_rfl)|omega|assumption|refine λ(hg:(_:Bool)=(_:Bool))=>?_|clear hK K)
    all_goals first|omega|exact ⟨_,rfl,λ_=>rfl,.inr ⟨_,rfl⟩,rfl⟩|exact ⟨_,rfl,λh0=>absurd h0 lZ,.inl rfl,rfl⟩|exact ⟨_,rfl,.inl rfl,rfl⟩|exact ⟨_,iU,rfl,.inr ⟨_,rfl⟩,rfl⟩|exact ⟨_,iU,λ_=>rfl,.inr ⟨_,rfl⟩,rfl⟩|skip
   |false=>
    rw [zel iH];refine' walkW (zr j1 iu fW pW oW (zr e1 hb an natC hS.symm iH)) (za zq <| za zd3 <| za zeP <| zb _);all_goals first|omega|exact ⟨_,rfl,λ_=>rfl,.inr ⟨_,rfl⟩,rfl⟩|exact ⟨_,rfl,λh0=>absurd h0 lZ,.inl rfl,rfl⟩|exact ⟨_,rfl,.inl rfl,rfl⟩|exact ⟨_,iU,rfl,.inr ⟨_,rfl⟩,rfl⟩|exact ⟨_,iU,λ_=>rfl,.inr ⟨_,rfl⟩,rfl⟩|skip
def zvv (s:Tw) (h:ImgF s.x) (g0:0<=s.x.geom.guest) (hm:s.x.maps.length<=5000) (hq:RqOk s.q) (hf:s.q.frm<=1000000) (me:s.ms.length<=1000) (oX:∀m∈s.ms,0<=m/\m<4294967296):ACall Tryz.prog 184 40 [.vp 4 0] [(4,.var (twV s (.nils 2)))] (λr h'=>∃aZ,h'= [(4,aZ)]/\∃L,r= .d (.int .i64 (tctxL s.x s.q s.ms []).2)/\((tctxL s.x s.q s.ms []).2=0->L=(tctxL s.x s.q s.ms []).1)/\aZ= .var (twV s (.d (.sl 2 (L.map spnD))))):=by
 refine' Gf;refine bod func184 ntmps184 (λbase=>?_);obtain ⟨S,hS⟩:∃S,S=tctxL s.x s.q s.ms []:=⟨_,rfl⟩
 rw [<-hS];refine' Ds;refine zeX 4 10 2 (cs:=twV s (.nils 2)) rfl rfl ?_;refine' Cl;refine zk (λq: { q:Nat×List Spn // q.1<=s.ms.length/\q.2.length=q.1/\S=tctxL s.x s.q (s.ms.drop q.1) q.2 } =>⟨[(0,true,.vp 4 0),(10,true,.d (.sl 1 (s.ms.map u32D))),(11,true,.d (.int .i64 s.ms.length)),(12,true,.d (.int .i64 q.1.1))],wcH s q.1.2,some []⟩) (λq=>s.ms.length - q.1.1) ⟨(0,[]),ad _,rfl,hS⟩ le1 (λq=>?_);obtain ⟨⟨i,L⟩,hi,qH,kq⟩:=q;simp only at hi qH kq |-;rcases zw u32D s.ms i hi with ⟨k,tt,br,J,ab,b4,a7⟩|⟨ao,J⟩
 .simp only [u32D] at ab;refine' CO;obtain ⟨gk,gx⟩:=oX k (ay tt);rw [b4] at kq;have kq:=zmk kq;refine' zc (zg J ab);refine ((zr7 s L k h g0 hm hq hf gk gx).whole (zV rfl) fT (by rintro r h' ⟨_,_,_,_,rfl⟩ i hi;exact hi)).mono ?_;rintro r h' ⟨v,rfl,hv,pn,rfl⟩;obtain ⟨C,hC⟩:∃C,C=tctx s.x s.q k:=⟨_,rfl⟩
  rw [<-hC] at kq hv |-;cases he:(C.2 !=0) with
  | true=>
   rw [aa gp] at kq
   have Cv:v.ids= []/\AV.le v v:=by
    rcases pn with rfl|⟨rows,rfl⟩
    .exact ⟨rfl,AV.le_refl _⟩
    .exact ⟨rfl,AV.le_refl _⟩
   rcases pn with rfl|⟨rows,rfl⟩
   .refine' Cl;refine' z8 (zL 5) fx;refine' GI;refine' zc he;all_goals first|omega|exact ⟨_,rfl,L,by rw [kq],λh0=>absurd h0 (by rw [kq];simpa using he),rfl⟩|skip
   .refine' Cl;refine' z8 (zL 5) fx;refine' GI;refine' zc he;all_goals first|omega|exact ⟨_,rfl,L,by rw [kq],λh0=>absurd h0 (by rw [kq];simpa using he),rfl⟩|skip
  |false=>
   rw [U gp] at kq;rw [hv gp];refine' Cl;refine' zc he;all_goals first|omega|skip
   exact ⟨⟨(i+1,L++ [⟨k,C.1⟩]),fT,by simp [qH],kq⟩,by simp only [wcH,aG,ae,bl,au,bM];exact lxb (lan hwi @spnD.eq_1),gh⟩
 .rw [ao,aP,tctxL] at kq;refine' GI;refine' zc J;all_goals first|omega|exact ⟨_,rfl,L,by rw [kq],λ_=>by rw [kq],rfl⟩|skip
end
end Go.Aw
