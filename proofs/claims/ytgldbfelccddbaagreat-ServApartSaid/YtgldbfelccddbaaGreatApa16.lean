/- Lemmas. -/
import Derived.Test.YtgldbfelccddbaaGreatApa15
set_option linter.all false
set_option maxRecDepth 100000
set_option maxHeartbeats 2000000
namespace Go.Aw
noncomputable section
open Go Go.Proofs Go.Proofs.Tryz
def zCX (n size:Int) (hp:0<=n/\n<18446744073709551616):AC 445 [.d (.int .u64 n),.d (.int .i64 size)] (.d (.str (putS8 n size))):=by refine' EP;refine bod func445 ntmps445 (λbase=>?_);refine' walkW fx (za zaJ <| za zjN <| zb _)
@[go_sem] def zkI:Ent Tryz.prog 445:= .m2 (intT .u64) (intT .i64) zCX
def zCY (n size:Int) (hp:0<=n/\n<9223372036854775808):AC 446 [.d (.int .i64 n),.d (.int .i64 size)] (.d (.str (putS8 n size))):=by refine' EP;refine bod func446 ntmps446 (λbase=>?_);refine' GD;refine' walkW hw (za zaJ <| za zjN <| zb _)
@[go_sem] def zgS:Ent Tryz.prog 446:= .m2 (intT .i64) (intT .i64) zCY
def zCZ (s:Txt) (J:s.length<=9223372036854775807):AC 448 [.d (.str s)] (.d (.str (padR s))):=by refine bod func448 ntmps448 (λbase=>?_);refine' walkW fx (za zaJ <| za zjN <| zb _);rfl
@[go_sem] def zgT:Ent Tryz.prog 448:= .m1 strT zCZ
def zdX (l:List Int):List (List Int):=if l= [] then [] else if l.length<=16 then [l] else [l.take 16,l.drop 16]
def zbw (l:List Int):List AV:= [.d (.sl 1 (l.map intD))]
def zAu (l:List Int):ACall Tryz.prog 462 0 [.d (.sl 1 (l.map intD)),.d (.int .i64 16)] [] (λr _=>r= .fn (.func 472) [] [.dp [.d (.sl 1 (l.map intD))],.dp [.d (.int .i64 16)]]):=by refine fbod func462 ntmps462 (λbase=>?_);refine' Ds
@[go_sem] def zuI:Ent Tryz.prog 462:= .ofL (consL (slT 1 intD zdu) (consL (zav (.d (.int .i64 16))) nilL)) (λ(l,_,_)=>True) (λ(l,_,_)=> .fn (.func 472) [] [.dp [.d (.sl 1 (l.map intD))],.dp [.d (.int .i64 16)]]) (λ(l,_,_) hp=>⟨rfl,zAu l⟩)
abbrev Cst (l:List Int):= { q:Nat×List (List AV) // (q.1=0/\q.2= [])\/(q.1=16/\0<l.length/\q.2= [zbw (l.take 16)])\/(q.1=32/\16<l.length/\q.2= [zbw (l.take 16),zbw (l.drop 16)]) }
def zpa (l:List Int) (hl:l.length<=24) (fl:Nat):AIter Tryz.prog 472 fl [] [.dp [.d (.sl 1 (l.map intD))],.dp [.d (.int .i64 16)]] [] ((zdX l).map zbw) (λg h'=>(∀xs,g=some xs->xs=(zdX l).map zbw)/\h'= []):=by
 refine itr func472 ntmps472 (λbase y=>?_);refine' zaQ fx;refine zk (λq:Cst l=>⟨[(0,true,.fn (.yield y.yl) [] []),(1,true,.dp [.d (.sl 1 (l.map intD))]),(2,true,.dp [.d (.int .i64 16)]),(4,true,.d (.int .i64 q.1.1))],[],some q.1.2⟩) (λq=>40 - q.1.1) ⟨(0,[]),.inl ⟨rfl,rfl⟩⟩ le1 (λq=>?_);obtain ⟨⟨i,xs⟩,hi⟩:=q;simp only at hi |-;rcases hi with ⟨rfl,rfl⟩|⟨rfl,h0,rfl⟩|⟨rfl,jC,rfl⟩
 .by_cases h:l= []
  .subst h;refine' zaQ fx;rintro zs rfl;rfl
  .have sV:0<l.length:=List.length_pos_iff.2 h;have J:decide ((0:Int)<(l.length:Int))=true:=af fT;obtain ⟨n,hn⟩:∃n,n=min 16 l.length:=⟨_,rfl⟩
   have hm:imin 16 (l.length:Int)=(n:Int):=jQ;have hw:IntKind.i64.wrap (0+(n:Int))=n:=yL
   have ht:(l.map intD).take n=(l.take 16).map intD:=by
    rw [<-cE];rcases dE l.length 16 with h2|h2
    .rw [hn,dc h2,aL,aA h2]
    .rw [hn,ca h2]
   have ab:((0:Nat):Int)=0:=rfl;have hz:(Int.toNat 0)=0:=rfl;refine' zaQ (zr ab J hm hw hz (zp natC @List.drop_zero.{0} ht))
   .unfold zdX;rw [U h];split
    .rename_i h2;rw [aA h2];exact ⟨[],rfl⟩
    .exact ⟨[zbw (l.drop 16)],rfl⟩
   .have rv:IntKind.i64.wrap 16=16:=by decide
    exact ⟨⟨(16,[zbw (l.take 16)]),.inr (.inl ⟨rfl,sV,rfl⟩)⟩,lxb (lan rv @zbw.eq_1),fZ⟩
 .rcases aO 16 l.length with jC|jC
  .have J:decide ((16:Int)<(l.length:Int))=true:=af fT;obtain ⟨n,hn⟩:∃n,n=l.length - 16:=⟨_,rfl⟩
   have gw:((l.drop 16).length:Int)=(n:Int):=by simp [hn]
   have hm:imin 16 (n:Int)=(n:Int):=jQ;have hw:IntKind.i64.wrap (16+(n:Int))=((16+n:Nat):Int):=gP;have ht:(l.map intD).take (16+n)=l.map intD:=aA gh;have xE:(l.map intD).drop 16=(l.drop 16).map intD:=by rw [<-dy]
   have ab:((16:Nat):Int)=16:=rfl;have hz:(Int.toNat 16)=16:=rfl;refine' zaQ (zr ab J hm hw hz (zB gw natC ht xE))
   .unfold zdX;rw [U Cd,U fT];exact ⟨[],rfl⟩
   .have xF:IntKind.i64.wrap 32=32:=by decide
    exact ⟨⟨(32,[zbw (l.take 16),zbw (l.drop 16)]),.inr (.inr ⟨rfl,jC,rfl⟩)⟩,lxb (lan xF @zbw.eq_1),fZ⟩
  .have J:decide ((16:Int)<(l.length:Int))=false:=ag fT;have ab:((16:Nat):Int)=16:=rfl;refine' zaQ (zg ab J);rintro zs rfl;unfold zdX;rw [U (by intro e;rw [e] at h0;simp at h0),aa jC,aA jC];rfl
 .have J:decide ((32:Int)<(l.length:Int))=false:=ag fT;have ab:((32:Nat):Int)=32:=rfl;refine' zaQ (zg ab J);rintro zs rfl;unfold zdX;rw [U Cd,U fT];rfl
def bItem (s:Txt):List AV:= [.d (.str s)]
def unC (x:List AV):List AV:=
 match x with
 | [.d (.sl _ rows)]=>bItem (padR (encT (rows.map λr=>match r with| [.int _ n]=>n|_=>0)))
 |_=> []
def ztb (c:List Int):unC (zbw c)=bItem (padR (encT c)):=by simp only [unC,zbw,bZ];have:((λr:List D=>match r with| [.int _ n]=>n|_=>(0:Int)) ∘ intD)=id:=rfl;rw [this,List.map_id]
def zq9 (l:List (List Int)):(l.map zbw).map unC=l.map (λc=>bItem (padR (encT c))):=by rw [bZ];exact dT (λc _=>ztb c)
def zra {l:List Int} (h:l≠ []):trows l=(zdX l).map (λc=>padR (encT c)):=by unfold trows zdX;rw [U h];split<;>rfl
def zkJ {p:Plan} (h:p.targets≠ []):(tbody p).map bItem=(zdX p.targets).map (λc=>bItem (padR (encT c)))++p.texts.map bItem:=by rw [tbody,zra h,aG,bZ];rfl
def zrb {l c:List Int} (h:c∈zdX l) (hl:l.length<=24):c.length<=16/\∀t∈c,t∈l:=by
 unfold zdX at h;split at h
 .cases h
 split at h
 .rename_i h1 h2;obtain rfl:c=l:=lI;exact ⟨h2,λt J=>J⟩
 .rcases bg.1 h with rfl|h
  .exact ⟨gh,λt J=>List.mem_of_mem_take J⟩
  .obtain rfl:c=l.drop 16:=by simpa using h
   exact ⟨gh,λt J=>List.mem_of_mem_drop J⟩
def zge:liesAt Tryz.prog Tryz.prog.depth 180 (2 / Tryz.prog.cellsOf 180) 0 180 1=true:=fX
def znj (p:Plan) (hp:PlanOk p) (iQ:p.targets.length<=24) (b5:p.targets≠ []) (hr:∀t∈p.targets,0<=t/\t<1024):AIter Tryz.prog 461 100 [] [.dp [.d (.sl 1 (p.targets.map intD)),.d (.sl 1 (p.texts.map strD))]] [] ((tbody p).map bItem) (λg h'=>(∀xs,g=some xs->xs=(tbody p).map bItem)/\h'= []):=by
 refine itr func461 ntmps461 (λbase y=>?_);refine zfI ?_;refine' walkX fx (za zuI <| zb _);obtain ⟨I,hI⟩:∃I:List (List AV)->AHeap×Option (List (List AV)),I=λxs=>([(100,.var [.fn (.yield y.yl) [] []])],some (xs.map unC)):=⟨_,rfl⟩
 refine' Ec;refine' Ft;refine zbU 200 G I J (zpa p.targets iQ 200) jf rfl (zV rfl) ju rfl jh iV iW jE iK ja ?_ ?_ ?_
 .intro xs x bu b9 l1 r1;obtain ⟨ys,c,zs,rfl,rfl,iR⟩:=zes bu;have j5:c∈zdX p.targets:=by rw [iR];simp
  obtain ⟨BF,kE⟩:=zrb j5 iQ
  have jV:(ys.map (λc=>bItem (padR (encT c)))++ [bItem (padR (encT c))])<+:(tbody p).map bItem:=by rw [zkJ b5,iR,aG,au];exact ⟨zs.map (λc=>bItem (padR (encT c)))++p.texts.map bItem,fZ⟩
  simp only [zbw];refine aw_le ⟨[(12,true,.d (.sl 1 (c.map intD))),(2,true,.vp 100 0)],[(100,.var [.fn (.yield y.yl) [] []])],some (ys.map (λc=>bItem (padR (encT c))))⟩ (by rw [hI];simp only [zq9];exact lxa) ?_;refine' zaQ hI;refine zfG 200 1 rfl rfl ?_;refine' Cl;refine zk (λq: { i:Nat // i<=c.length } =>⟨[(2,true,.vp 100 0),(4,true,.tp 200 0),(13,true,.d (.sl 1 (c.map intD))),(14,true,.d (.int .i64 c.length)),(15,true,.d (.int .i64 q.1))],[(201,.buf 5 (encT (c.take q.1))),(200,.tvar 180 [if q.1=0 then .d .nilp else .tp 200 0,.bsl 201 (encT (c.take q.1)).length]),(100,.var [.fn (.yield y.yl) [] []])],some (ys.map (λc=>bItem (padR (encT c))))⟩) (λq=>c.length - q.1) ⟨0,ad _⟩ (by simp only [AS.le,leT,leH,ze,AsgK,AV.le,AV.leL,AObj.le,inH,idsT,idsH,AV.ids,AV.idsL,AV.idsR,AObj.ids,lk,hget,go_sem,aeq,aeq.aeqF,simprocAttr,av,di]<;>and_intros<;>rfl) (λq=>?_);refine' Dl;rcases zw intD c i hi with ⟨t,hq,a8,ab,an,b4,a7⟩|⟨ao,ab⟩
  .simp only [intD] at an;refine' CO;obtain ⟨j3,iG⟩:=hr t (kE t (ay hq));have my:(encT (c.take i)).length<=64:=by rw [zf8,az];omega
   have gB:putS8 t 4=putN t.toNat 4:=rfl;have sW:(putN t.toNat 4).length=4:=zu _ _;have e8:encT (c.take (i+1))=encT (c.take i)++putN t.toNat 4:=by rw [a7,zky]
   refine' walkX (zp ab an gB) (za zgS <| za zgT <| zb _);refine (zdv (i:=200) (j:=201) (o:=0) (T:=180) (cs:= [if i=0 then .d .nilp else .tp 200 0,.bsl 201 (encT (c.take i)).length]) (xs:=encT (c.take i)) rfl (by by_cases h0:i=0<;>simp [h0]) rfl rfl rfl zge fT).mono ?_;refine' Cp;refine' zaQ fx;have j9:(if i+1=0 then AV.d .nilp else AV.tp 200 0)= .tp 200 0:=U fT;exact ⟨⟨i+1,fT⟩,(by simp only [AS.le,leT,leH,ze,AsgK,AV.le,AV.leL,AObj.le,inH,idsT,idsH,AV.ids,AV.idsL,AV.idsR,AObj.ids,lk,hget,go_sem,aeq,aeq.aeqF,simprocAttr,hwi,e8,j9,ae]<;>and_intros<;>rfl),gh⟩
  .have a7:c.take i=c:=by rw [ao,aL]
   rw [a7];have my:(encT c).length<=64:=by rw [zf8];omega
   obtain ⟨x0,ki⟩:∃x0,x0=(if i=0 then AV.d .nilp else AV.tp 200 0):=⟨_,rfl⟩
   rw [<-ki];refine' zwA (zL 9) ab
   have hh:HotOk Tryz.prog 200 (hotOf noHot 98 [.tp 200 0] [(201,.buf 5 (encT c)),(200,.tvar 180 [x0,.bsl 201 (encT c).length]),(100,.var [.fn (.yield y.yl) [] []])] (.d (.str (encT c))) [(201,.buf 5 gone),(200,.tvar 180 [x0,.bsl 201 (encT c).length]),(100,.var [.fn (.yield y.yl) [] []])]):=
    zzv (zzu _ _) (λK hK=>(zfF (i:=200) (j:=201) (o:=0) (T:=180) (cs:= [x0,.bsl 201 (encT c).length]) (xs:=encT c) rfl rfl rfl rfl fT).mono (by rintro r h' ⟨rfl,rfl⟩;exact hK))
   refine zaC (λK2 lx=>zmW _ _ (za zgS <| za zgT <| zb Tryz.prog) hh fX ?_);clear hh
   have xG:∀s',s'.le ⟨[(27,true,.d (.bool false))],[(100,.var [.fn (.yield y.yl) [] []])],some (ys.map (λc=>bItem (padR (encT c)))++ [[.d (.str (padR (encT c)))]])⟩->K2 s':=λs' hle=>lx _ (aw_le _ hle (by
    refine' zaQ hI
    .rw [hG];trivial
    .rw [aG,zq9,List.map_singleton,show unC [AV.d (.sl 1 (c.map intD))]= [.d (.str (padR (encT c)))] from ztb c]))
   have xH:∀s',s'.le ⟨[(27,true,.d (.bool true))],[(100,.var [.fn (.yield y.yl) [] []])],none⟩->K2 s':=λs' hle=>lx _ (aw_le _ hle (by
    refine' zaQ hI
    .rw [hJ];exact ⟨rfl,rfl,rfl⟩))
   have xI:(ys.map (λc=>bItem (padR (encT c)))++ [[.d (.str (padR (encT c)))]])<+:(tbody p).map bItem:=jV;clear lx jV;refine' Cl;repeat' (with_reducible refine And.intro ?_ ?_)
   all_goals first|omega|exact xI|(refine xG _ ?_;(exact lxa);done)|(refine xH _ ?_;(exact lxa);done)
 .intro _;rw [hI];simp only [zq9];obtain ⟨B,hB⟩:∃B,B=(zdX p.targets).map (λc=>bItem (padR (encT c))):=⟨_,rfl⟩
  have iy:(tbody p).map bItem=B++p.texts.map bItem:=by rw [hB];exact zkJ b5
  rw [<-hB];refine' zaQ fx;have BG:=hp.texts;refine zk (λq: { i:Nat // i<=p.texts.length } =>⟨[(2,true,.vp 100 0),(29,true,.d (.sl 1 (p.texts.map strD))),(30,true,.d (.int .i64 p.texts.length)),(31,true,.d (.int .i64 q.1))],[(100,.var [.fn (.yield y.yl) [] []])],some (B++(p.texts.take q.1).map bItem)⟩) (λq=>p.texts.length - q.1) ⟨0,ad _⟩ (by simp only [AS.le,leT,leH,ze,AsgK,AV.le,AV.leL,AObj.le,inH,idsT,idsH,AV.ids,AV.idsL,AV.idsR,AObj.ids,lk,hget,go_sem,aeq,aeq.aeqF,simprocAttr]<;>simp) (λq=>?_);refine' Dl;rcases zw strD p.texts i hi with ⟨s,hq,a8,ab,an,b4,a7⟩|⟨ao,ab⟩
  .simp only [strD] at an;refine' CO
   have sX:((B++(p.texts.take i).map bItem)++ [[.d (.str s)]])<+:(tbody p).map bItem:=by
    rw [iy];refine ⟨(p.texts.drop (i+1)).map bItem,?_⟩;have h1:=bO i p.texts;rw [b4] at h1;conv=>rhs;rw [<-h1]
    simp [bItem]
   refine' zaQ (zg ab an);exact ⟨⟨i+1,fT⟩,by simp only [AS.le,leT,leH,ze,AsgK,AV.le,AV.leL,AObj.le,inH,idsT,idsH,AV.ids,AV.idsL,AV.idsR,AObj.ids,lk,hget,go_sem,aeq,aeq.aeqF,simprocAttr,hwi,a7,aG,aY,bItem,List.map_singleton],gh⟩
  .refine' zaQ ab;rintro zs rfl;rw [iy,ao,aL]
 .refine' Ge;refine' zaQ fx
end
end Go.Aw
