/- Lemmas. -/
import Derived.Test.YtgldbfelccddbaaGreatApa43
set_option linter.all false
set_option maxRecDepth 100000
set_option maxHeartbeats 2000000
namespace Go.Aw
noncomputable section
open Go Go.Proofs Go.Proofs.Tryz
def ngM (n:Ng):Nat:=n.buf.length+(if n.phase=0 then 2 else if n.phase=1 then 1 else 0)
def zjU (n:Ng):(ngClr n).phase=n.phase:=by unfold ngClr;split<;>rfl
def zim (n:Ng):ngClr (ngClr n)=ngClr n:=by unfold ngClr;split<;>rfl
def zvb (x:Xp) (k:Nat) (n:Ng) (out:Txt):zbd x k (ngClr n) out=zbd x k n out:=by
 cases k with
 |zero=>rw [zbd,zbd,zim]
 |succ k=>
  by_cases J:n.phase=3
  .rw [zbd,zbd,U (by rw [zjU];omega),U fT,zim]
  .rw [show ngClr n=n from U J]
def nwDo (s:NW):NW:=if s.n.phase=0 then nwFlg s else zfT s
structure DoOk (s:NW):Prop where
 yes:(ngStep s.n s.x).2.2=true->(nwDo s).n=ngClr (ngStep s.n s.x).1/\(nwDo s).out=s.out++(ngStep s.n s.x).2.1/\ngM (nwDo s).n<ngM s.n
 no:(ngStep s.n s.x).2.2=false->nwDo s=s
 x:(nwDo s).x=s.x
 ok:NwOk (nwDo s)
 len:(nwDo s).out.length<=s.out.length+10000000
 ph:0<=(nwDo s).n.phase
def ztA {n:Ng} {x:Xp} {k:Int} {d:Txt} :(ngOpt n x k d).1.phase=n.phase\/(ngOpt n x k d).1.phase=2\/(ngOpt n x k d).1.phase=3:=by
 unfold ngOpt zbE;repeat' split
 all_goals first|exact .inl rfl|exact .inr (.inl rfl)|exact .inr (.inr rfl)
def zpw {n:Ng} {x:Xp} {k:Int} {d:Txt} :(ngOpt n x k d).1.buf=n.buf:=by
 unfold ngOpt zbE;repeat' split
 all_goals rfl
def zyh (n:Ng):(ngClr n).buf.length<=n.buf.length:=by
 unfold ngClr;split
 .exact ad _
 .exact aj _
def zyi (n:Ng):ngM (ngClr n)<=ngM n:=by unfold ngM;rw [zjU];have:=zyh n;omega
def zEe (s:NW) (h:NwOk s) (ho:s.out.length≤10000000000000) (hp:s.n.phase=0∨s.n.phase=1):DoOk s:=by
 rcases hp with hp|hp
 ·have hst:ngStep s.n s.x=if s.n.buf.length<4 then (s.n,[],false) else (ngFlg s.n,[],true):=by
   rw [ngStep,aa hp];rfl
  by_cases h4:s.n.buf.length<4
  ·rw [aa h4] at hst
   have e:nwFlg s=s:=aa h4
   constructor<;>(try rw [nwDo])<;>rw [aa hp,e]<;>(try rw [hst])
   ·intro e;cases e
   ·intro _;rfl
   ·exact h
   ·omega
   ·omega
  ·rw [U h4] at hst
   have e:nwFlg s= { s with n:=ngClr (ngFlg s.n) } :=U h4
   have hm:ngM (ngFlg s.n)<ngM s.n:=by
    unfold ngM ngFlg
    simp only [ak,hp]
    split<;>simp<;>omega
   constructor<;>(try rw [nwDo])<;>rw [aa hp,e]<;>(try rw [hst])
   ·intro _;exact ⟨rfl,fZ,fM (zyi _) hm⟩
   ·intro e;cases e
   ·exact h.n _
   ·exact bH _ _
   ·rw [zjU];unfold ngFlg;dsimp only;split<;>omega
 ·have hst:=ngStep.eq_1 s.n s.x
  rw [U fT] at hst
  by_cases h22:(optRd s.n.buf).2.2=22
  ·rw [aa h22] at hst
   have e:zfT s=s:=aa h22
   refine' G3
   ·intro e;cases e
   ·intro _;rfl
   ·exact h
   ·omega
   ·omega
  ·rw [U h22] at hst
   by_cases h0:(optRd s.n.buf).2.2=0
   ·rw [U (fun e=>e h0)] at hst
    have e:zfT s=nwOpt (nwGot s):=by rw [zfT,U h22,U (fun e=>e h0)]
    have hg:=h.got h0
    have hol:(nwGot s).out.length≤10000000000000:=ho
    have hlen:=zkV hg
    obtain ⟨_,h16,_,eg⟩:=zfS h0
    refine' G3
    ·intro _
     refine ⟨rfl,rfl,?_⟩
     refine fM (zyi _) ?_
     unfold ngM
     rw [zpw]
     have hbl:(nwGot s).n.buf.length+16≤s.n.buf.length:=by
      show (optRd s.n.buf).2.1.length+16≤_
      rw [eg];simp only [ak];omega
     have:=ztA (n:=(nwGot s).n) (x:=(nwGot s).x) (k:=(nwGot s).k) (d:=(nwGot s).d)
     split<;>split<;>omega
    ·intro e;cases e
    ·rfl
    ·exact ztz hg hol
    ·show ((nwGot s).out++_).length≤_
     rw [ae]
     show s.out.length+_≤_
     omega
    ·show 0≤(ngClr (ngOpt (nwGot s).n (nwGot s).x (nwGot s).k (nwGot s).d).1).phase
     rw [zjU]
     have:=ztA (n:=(nwGot s).n) (x:=(nwGot s).x) (k:=(nwGot s).k) (d:=(nwGot s).d)
     have e1:(nwGot s).n.phase=1:=hp
     omega
   ·rw [aa h0] at hst
    have e:zfT s= { s with n:= { s.n with phase:=3,buf:= [] } } :=by rw [zfT,U h22,aa h0]
    refine' G3
    ·intro _
     refine ⟨rfl,fZ,?_⟩
     unfold ngM
     simp [hp]
    ·intro e;cases e
    ·exact h.n _
    ·exact bH _ _
    ·show (0:Int)≤3;decide
def zyj {x:Xp} {k:Nat} {s:NW} (J:s.x=x) (hp:s.n.phase=0\/s.n.phase=1) (h:DoOk s):zbd x (k+1) s.n s.out=if (ngStep s.n s.x).2.2 then zbd x k (nwDo s).n (nwDo s).out else (s.n,s.out):=by
 rw [zbd,aa hp,J];split
 .rename_i e;rw [<-J] at e;obtain ⟨e1,e2,_⟩:=h.yes e;rw [e1,e2,zvb,J]
 .rfl
def zrE (n:Ng):n.buf.length<=ngM n:=bH _ _
def zBX {s:NW} (h:NwOk s):inH (nwH s++ [(4,.var [.fn (.func 96) [.tp 3 0] [],.fn (.func 97) [.tp 3 0] []]),(2,.var [.d (.int .i64 0),.d (.str []),.d (.bool false),.d (.bool false),.d (.sl 1 [])])]) (s.p.ids++ [5]++ [3,3]):=by
 rcases h.p with e|e<;>simp [inH,AV.ids,e,hget]
def znz (s:NW) (h:NwOk s):ACall Tryz.prog 98 6 [.tp 3 9] (nwH s) (λr h'=>r= .d (.str s.out)/\h'= [(5,.buf 5 gone),(3,.tvar 182 (nwC s))]):=
 (zfF (i:=3) (j:=5) (o:=9) (T:=182) (cs:=nwC s) (xs:=s.out) rfl rfl rfl rfl (by have:=h.out;omega)).below
def zA1 (n:Ng) (x:Xp) (s:Txt) (h0:0<=n.phase) (hl:n.buf.length+s.length<=900000) (z0:0<=x.size) (z1:x.size<18446744073709551616) (hn:x.names.length<=1000) (qS:∀t∈x.names,t.length<=1000):ACall Tryz.prog 42 0 [ngA n,xpA x,.d (.str s)] [] (λr _=>r= .tup [ngA (zba n x s).1,.d (.str (zba n x s).2)]):=by
 obtain ⟨V,hV⟩:∃V,V=zba n x s:=⟨_,rfl⟩
 rw [<-hV];refine fbod func42 ntmps42 (λbase=>?_);by_cases h3:n.phase=3
 .refine' I7
 have n0:(n.phase==3)=false:=by simpa using h3
 rw [zba,U h3] at hV;refine' z8 (zL 6) n0;refine zfG 3 10 rfl rfl ?_;refine' Cl;obtain ⟨s0,ab⟩:∃s0:NW,s0=⟨{ n with buf:=n.buf++s },x,0,[],.d .nilp,[]⟩:=⟨_,rfl⟩
 have Ar:NwOk s0:=by rw [ab];exact ⟨.inl rfl,ad _,db 0,BN,ad _,z0,z1,hn,qS⟩
 obtain ⟨N,hN⟩:∃N,N=n.buf.length+s.length+2:=⟨_,rfl⟩
 have sn:ngM s0.n<=N:=by rw [ab,hN];unfold ngM;simp only [ae];split<;>(try split)<;>omega
 have uC:V=zbd x N s0.n s0.out:=by rw [hV,ab,hN]
 have ki:s0.x=x:=by rw [ab]
 have pN:0<=s0.n.phase:=by rw [ab];exact h0
 have a8:ngClr s0.n=s0.n:=U (by rw [ab];exact h3);have uD:s0.out.length+10000000*ngM s0.n<=9100000000000:=by rw [ab];rw [ab] at sn;show 0+_<=_;omega
 refine zk (λq: { q:NW×Nat // NwOk q.1/\q.1.x=x/\ngM q.1.n<=q.2/\V=zbd x q.2 q.1.n q.1.out/\0<=q.1.n.phase/\ngClr q.1.n=q.1.n/\q.1.out.length+10000000*ngM q.1.n<=9100000000000 } =>⟨[(6,true,.vp 2 0),(8,true,.tp 3 0),(9,true,.vp 4 0)],nwH q.1.1++ [(4,.var [.fn (.func 96) [.tp 3 0] [],.fn (.func 97) [.tp 3 0] []]),(2,.var [.d (.int .i64 0),.d (.str []),.d (.bool false),.d (.bool false),.d (.sl 1 [])])],some []⟩) (λq=>ngM q.1.1.n) ⟨(s0,N),Ar,ki,sn,uC,pN,a8,uD⟩ (by subst ab;exact lxa) (λq=>?_);obtain ⟨⟨w,k⟩,gC,hx,hM,kt,jn,c6,ho⟩:=q;simp only at gC hx hM kt jn c6 ho |-;have j0:w.out.length<=10000000000000:=fT;rcases ei w.n.phase 2 with bo|gU
 .have J:decide (w.n.phase<2)=true:=af bo;have lA:w.n.phase=0\/w.n.phase=1:=fT;have D:=zEe w gC j0 lA
  obtain ⟨k,rfl⟩:∃k',k=k'+1:=⟨k - 1,by
   have:1<=ngM w.n:=by unfold ngM;rcases lA with e|e<;>simp only [e]<;>simp<;>omega
   omega⟩
  have pX:=zyj (k:=k) hx lA D;rcases lA with hp|hp
  .have e:nwDo w=nwFlg w:=aa hp
   have hB:decide (4<=w.n.buf.length)=(ngStep w.n w.x).2.2:=by
    rw [ngStep,aa hp];split
    .exact ag fT
    .exact af fT
   refine' zc (zg J hp);refine (zcU (zA0 w (by have:=zrE w.n;omega)) rfl ⟨rfl,by simp [hget,nwC,hp],trivial⟩ (nw_cl gC) ⟨rfl,trivial⟩ rfl).mono ?_;refine' Cp;rw [hB,<-e];cases hb:(ngStep w.n w.x).2.2 with
   |true=>
    refine' Ik;refine' Cl;refine' Ds;refine' Gp
   |false=>
    have mQ:V=(w.n,w.out):=by rw [kt,pX,hb];rfl
    rw [D.no hb];refine' Cl;refine' zhS (ownsL [4000098]) fx;refine' DY;refine' Cl;refine ⟨fX,?_⟩;refine' Ds;rw [mQ]
  .have e:nwDo w=zfT w:=U fT
   have hB:((optRd w.n.buf).2.2 !=22)=(ngStep w.n w.x).2.2:=by
    rw [ngStep,U fT];split
    .rename_i gl;rw [gl];rfl
    .rename_i gl;split<;>simpa using gl
   refine' zc (zg J hp);refine (zcU (zyg w gC j0 (by have:=zrE w.n;omega) hp) rfl ⟨rfl,by simp [hget,nwC,hp],trivial⟩ (nw_cl gC) ⟨rfl,trivial⟩ rfl).mono ?_;refine' Cp;rw [hB,<-e];cases hb:(ngStep w.n w.x).2.2 with
   |true=>
    refine' Ik;refine' Cl;refine' Ds;refine' Gp
   |false=>
    have mQ:V=(w.n,w.out):=by rw [kt,pX,hb];rfl
    rw [D.no hb];refine' Cl;refine' zhS (ownsL [4000098]) fx;refine' DY;refine' Cl;refine ⟨fX,?_⟩;refine' Ds;rw [mQ]
 .have J:decide (w.n.phase<2)=false:=ag fT
  have b3: [AV.fn (.func 96) [.tp 3 0] [],AV.fn (.func 97) [.tp 3 0] []].getD (w.n.phase.toNat*1) .any= .any:=by rw [aN,cp (by simp only [aC,aM];omega)];rfl
  refine' zhS (ownsL [4000098]) (zg J b3)
  have mQ:V=(w.n,w.out):=by
   rw [kt];cases k with
   |zero=>rw [zbd,c6]
   |succ k=>rw [zbd,U fT,c6]
  refine' DY;refine' Cl;refine ⟨fX,?_⟩;refine' Ds;rw [mQ]
def zvH (n:Ng) (x:Xp) (hp:XpF x/\n.buf.length<=1000000):AC 117 [ngA n,xpA x] (.tup [ngA (ngStep n x).1,.d (.str (ngStep n x).2.1),.d (.bool (ngStep n x).2.2)]):=by
 obtain ⟨h,hb⟩:=hp;obtain ⟨V,J⟩:∃V,V=ngStep n x:=⟨_,rfl⟩
 rw [<-J];unfold ngStep at J;by_cases h0:n.phase=0
 .rw [aa h0] at J;have hp:(n.phase==0)=true:=oV;by_cases h4:n.buf.length<4
  .rw [aa h4] at J;have ht:takeS n.buf 4=(0,[],22):=by rw [takeS,U gb,aa fT]
   refine' ET;refine' walkW (zg hp ht) (za zx <| za zdq <| za zcn <| zb _);rw [J]
  .rw [U h4] at J;obtain ⟨N,hN⟩:∃N,N=numAt n.buf 0 4:=⟨_,rfl⟩
   have ht:takeS n.buf 4=((N:Int),n.buf.drop 4,0):=by rw [zse _ fT,hN]
   rw [<-hN] at J
   have e3:((N:Int)==3)=(N==3):=by
    by_cases e:N=3
    .rw [e];rfl
    .rw [ej e,ej (show (N:Int)≠3 by omega)]
   by_cases hk:N=1\/N=3
   .rw [aa hk] at J;have iB:((N:Int) !=1&&(N:Int) !=3)=false:=by rcases hk with rfl|rfl<;>rfl
    refine' ET;refine' walkW (zB hp ht e3 iB) (za zx <| za zdq <| za zcn <| zb _);rw [J]
   .rw [U hk] at J;have iB:((N:Int) !=1&&(N:Int) !=3)=true:=gh;refine' ET;refine' walkW (zB hp ht e3 iB) (za zx <| za zdq <| za zcn <| zb _);rw [J]
 rw [U h0] at J;have hp:(n.phase==0)=false:=oV;obtain ⟨O,hO⟩:∃O,O=optRd n.buf:=⟨_,rfl⟩
 rw [<-hO] at J;by_cases gl:O.2.2=22
 .rw [aa gl] at J;have b1:(O.2.2==22)=true:=nd;refine' ET;refine' walkW (zp hp hO.symm b1) (za zx <| za zdq <| za zcn <| zb _);rw [J]
 rw [U gl] at J;have b1:(O.2.2==22)=false:=nd;by_cases he:O.2.2=0
 .rw [U (λe=>e he)] at J;have b2:(O.2.2 !=0)=false:=gp;have hg:=zfS (s:=n.buf) (by rw [<-hO];exact he);have gk:0<=O.1.1:=by rw [hO,hg.2.2.2];exact Int.natCast_nonneg _
  have gx:O.1.1<=4294967295:=by rw [hO,hg.2.2.2];have:=zbA n.buf 8 4;have e:256 ^ 4=4294967296:=gb;simp only;omega
  have hd:O.1.2.length<=1000000:=by rw [hO,hg.2.2.2];simp only [az];have:=hg.2.2.1;omega
  refine' ET;refine' walkW (zB hp hO.symm b1 b2) (za zx <| za zdq <| za zcn <| zb _);rw [J]
 .rw [aa he] at J;have b2:(O.2.2 !=0)=true:=gp;refine' ET;refine' walkW (zB hp hO.symm b1 b2) (za zx <| za zdq <| za zcn <| zb _);rw [J]
@[go_sem] def zjC:Ent Tryz.prog 117:= .m2 ngA_T xpA_T zvH
def zvI {n:Ng} {x:Xp} (h:XpF x) (hp:n.phase=0\/n.phase=1) (J:(ngStep n x).2.2=true):ngM (ngStep n x).1<ngM n/\(ngStep n x).2.1.length<=10000000:=by
 rcases hp with hp|hp
 .have gf:ngStep n x=if n.buf.length<4 then (n,[],false) else (ngFlg n,[],true):=by rw [ngStep,aa hp];rfl
  by_cases h4:n.buf.length<4
  .rw [gf,aa h4] at J;cases J
  .rw [gf,U h4];refine ⟨?_,ad _⟩;unfold ngM ngFlg;simp only [ak,hp];split<;>simp<;>omega
 .have gf:=ngStep.eq_1 n x;rw [U fT] at gf;by_cases gl:(optRd n.buf).2.2=22
  .rw [gf,aa gl] at J;cases J
  .rw [U gl] at gf;by_cases h0:(optRd n.buf).2.2=0
   .rw [U (λe=>e h0)] at gf;have gC:NwOk ⟨n,x,0,[],.d .nilp,[]⟩:=⟨.inl rfl,ad _,db 0,BN,ad _,h.ok.1,h.ok.2,h.l,h.n⟩
    have hg:=gC.got h0;have hlen:=zkV hg;obtain ⟨_,jC,_,eg⟩:=zfS h0;rw [gf];refine ⟨?_,hlen⟩;unfold ngM;rw [zpw]
    have c8:(optRd n.buf).2.1.length+16<=n.buf.length:=by rw [eg];simp only [ak];omega
    simp only;split<;>split<;>(try split)<;>omega
   .rw [aa h0] at gf;rw [gf];refine ⟨?_,ad _⟩;unfold ngM;simp [hp]
def zvJ (n:Ng) (x:Xp) (s:Txt) (hp:XpF x/\n.buf.length+s.length<=900000):AC 58 [ngA n,xpA x,.d (.str s)] (.tup [ngA (zba n x s).1,.d (.str (zba n x s).2)]):=by
 obtain ⟨h,hl⟩:=hp;obtain ⟨V,hV⟩:∃V,V=zba n x s:=⟨_,rfl⟩
 rw [<-hV];refine fbod func58 ntmps58 (λbase=>?_);by_cases h3:n.phase=3
 .refine' I7
 have n0:(n.phase==3)=false:=by simpa using h3
 rw [zba,U h3] at hV;refine' zc n0;obtain ⟨m0,lX⟩:∃m0:Ng,m0= { n with buf:=n.buf++s } :=⟨_,rfl⟩
 obtain ⟨N,hN⟩:∃N,N=n.buf.length+s.length+2:=⟨_,rfl⟩
 have sn:ngM m0<=N:=by rw [lX,hN];unfold ngM;simp only [ae];split<;>(try split)<;>omega
 have uC:V=zbd x N m0 []:=by rw [hV,lX,hN]
 have uD:([]:Txt).length+10000000*ngM m0<=9100000000000:=by show 0+_<=_;omega
 refine zk (λq: { q:Ng×Txt×Nat // ngM q.1<=q.2.2/\V=zbd x q.2.2 q.1 q.2.1/\q.2.1.length+10000000*ngM q.1<=9100000000000 } =>⟨[(3,true,.vp 0 0),(4,true,.vp 1 0),(6,true,.vp 2 0),(8,true,.d (.str q.1.2.1))],[(2,.var [.d (.int .i64 0),.d (.str []),.d (.bool false),.d (.bool false),.nils 1]),(1,.var [.d (.int .u64 x.size),.d (.sl 1 (x.names.map strD))]),(0,.var [.d (.int .i64 q.1.1.phase),.d (.str q.1.1.buf),.d (.bool q.1.1.brief),.d (.bool q.1.1.chunks),.d (.sl 1 (q.1.1.metas.map u32D))])],some []⟩) (λq=>ngM q.1.1) ⟨(m0,[],N),sn,uC,uD⟩ (by subst lX;exact lxa) (λq=>?_);obtain ⟨⟨m,out,k⟩,hM,kt,ho⟩:=q;simp only at hM kt ho |-;have qP:m.buf.length<=1000000:=by have:=zrE m;omega
 by_cases hp:m.phase=0\/m.phase=1
 .have ma:(m.phase==0||m.phase==1)=true:=by rcases hp with e|e<;>rw [e]<;>rfl
  obtain ⟨k,rfl⟩:∃k',k=k'+1:=⟨k - 1,by
   have:1<=ngM m:=by unfold ngM;rcases hp with e|e<;>simp only [e]<;>simp<;>omega
   omega⟩
  rw [zbd,aa hp] at kt;obtain ⟨S,hS⟩:∃S,S=ngStep m x:=⟨_,rfl⟩
  have hD:=zvI h hp;rw [<-hS] at kt hD;cases J:S.2.2 with
  |true=>
   rw [J,aa rfl] at kt;obtain ⟨d1,d2⟩:=hD J;refine' walkW (zp ma hS.symm J) (za zjC <| zb _);exact ⟨⟨(S.1,out++S.2.1,k),by show ngM S.1<=k;omega,kt,by show (out++S.2.1).length+10000000*ngM S.1<=_;rw [ae];omega⟩,lxb ma,d1⟩
  | false=>
   rw [J,U gb] at kt
   have nY:S.1=m:=by
    rw [hS] at J |-;unfold ngStep at J |-;split
    .rename_i e;rw [aa e] at J;split
     .rfl
     .rename_i e2;rw [U e2] at J;cases J
    .rename_i e;rw [U e] at J;split
     .rfl
     .rename_i e2;rw [U e2] at J;split at J<;>cases J
   refine' walkW (zB ma hS.symm J nY) (za zjC <| zb _);rw [kt]
 .have ma:(m.phase==0||m.phase==1)=false:=by simp;omega
  have mQ:V=(ngClr m,out):=by
   rw [kt];cases k with
   |zero=>rw [zbd]
   |succ k=>rw [zbd,U hp]
  by_cases il:m.phase=3
  .have iH:(m.phase==3)=true:=by simpa using il
   rw [ngClr,aa il] at mQ;refine' zc (zg ma iH);rw [mQ]
  .have iH:(m.phase==3)=false:=by simpa using il
   rw [ngClr,U il] at mQ;refine' zc (zg ma iH);rw [mQ]
@[go_sem] def zp4:Ent Tryz.prog 58:= .m3 ngA_T xpA_T strT zvJ
def zvR (v:Srv) (c:Int) (s:Txt) (hp:SvQ v/\s.length<=400000):AC 24 [srvA v,.d (.int .i64 c),.d (.str s)] (srvA (zfq v c s)):=by
 obtain ⟨hq,hl⟩:=hp;obtain ⟨V,hV⟩:∃V,V=zfq v c s:=⟨_,rfl⟩
 rw [<-hV];unfold zfq at hV;have c6:=hq.1;refine' Fc
 .have hn:(if c<0 then none else v.conns[c.toNat]?)=none:=by
   split
   .rfl
   .exact cp fT
  rw [hn] at hV;refine' Gn;refine fbod func24 ntmps24 (λbase=>?_);refine' G8;refine (zaE (zd4 v c fT)).mono ?_;refine' Cp;rw [jq];refine' Cl;refine' G8;rw [hV]
 .refine' CK;refine' Dw;refine fbod func24 ntmps24 (λbase=>?_);refine' G8;refine (zaE (zd4 v k fT)).mono ?_;refine' Cp;rw [jq];refine' Cl;cases hg:o.gone with
  | true=>
   rw [hg,aa rfl] at hV;refine' G8
   .rw [J];simp
   .rw [J];simp
   .rw [J];rfl
   .rw [hV]
   .rw [J] at hc;simp [AV.toB,hg] at hc
  | false=>
   rw [hg,U gb] at hV;refine' D9;refine' G8
   .rw [J];simp
   .rw [J];simp
   .rw [J];rfl
   .rw [J] at hc;simp [AV.toB,hg] at hc
   refine' DA;have Au:F=zba o.n ⟨128*v.x.geom.guest,v.x.maps.map λm=>m.name⟩ s:=hF;have yY:=h.ok.x.img.ok;have yZ:=h.ok.x.g0;have y0:=h.ok.x.g1;have y1:=h.ok.x.maps;refine' D7;refine' Cl;refine' zfH (zL 8) (zr gB hg Au.symm iT ko mL) (za zcm <| za zp4 <| zb _);obtain ⟨o1,ie⟩:∃o1:Cn,o1= { o with n:=F.1,out:=o.out++F.2 } :=⟨_,rfl⟩
   obtain ⟨o2,iL⟩:∃o2:Cn,o2=zfQ o1:=⟨_,rfl⟩
   obtain ⟨o3,uE⟩:∃o3:Cn,o3=zbO (128*v.x.geom.guest) o2:=⟨_,rfl⟩
   have qX:o3=zph v.x o s:=by rw [uE,iL,ie,hF];rfl
   have hle:OutOk 4100000000000000000 o1:=by refine' Ho
   have pa:CnOk 900000 v.x o2:=by rw [iL,ie];refine' HM
   obtain ⟨so,mR⟩:∃so,so=if F.1.phase=3 then .nils 12 else AV.osl 23 12 o.tasks.length 0 o.tasks.length:=⟨_,rfl⟩
   have hT:∃tv ts,TvOk o3 tv ts/\ACall Tryz.prog 61 40 [imgA v.x,.agg (rowC o2 so)] [(23,.arr 12 (o.tasks.map tskD))] (λr h'=>r= .agg (rowC o3 tv)/\h'= [(23,.arr 12 ts)]):=by
    by_cases il:F.1.phase=3
    .have e2:o2=ze4 o1:=by rw [iL,zfQ,aa (by rw [ie];exact il)]
     have e3:o3=o2:=by rw [uE,e2];exact zcC rfl
     rw [aa il] at mR;rw [mR,e3];exact ⟨.nils 12,o.tasks.map tskD,.inr ⟨rfl,by rw [e2];rfl⟩,zvO v.x o2 _ (by rw [e2];rfl)⟩
    .have e2:o2=o1:=by rw [iL,zfQ,U (by rw [ie];exact il)]
     have t2:o2.tasks=o.tasks:=by rw [e2,ie]
     rw [U il] at mR;rw [mR,uE,<-t2];exact zla v.x o2 (M:=4100000000000000000) h.ok.x pa fT (by rw [e2];exact hle) fT
   obtain ⟨tv,ts,qW,jm⟩:=hT;refine aw_le ⟨[(3,true,.vp 0 0),(6,true,.vp 1 0),(7,true,.vp 24 0),(8,true,.vp 35 0),(1,true,.d (.int .i64 k))],[(35,.var [.d (.int .i64 F.1.phase),.d (.str F.1.buf),.d (.bool F.1.brief),.d (.bool F.1.chunks),.d (.sl 1 (F.1.metas.map u32D))]),(24,.var (rowC o1 (.osl 23 12 o.tasks.length 0 o.tasks.length))),(23,.arr 12 (o.tasks.map tskD)),(22,.var (pre++(rowO o++post))),(1,.var (img0++ [.nils 8])),(0,.var (imgC v.x++ [.vsl 22 8 0 v.conns.length]))],some []⟩ (by rw [ie];unfold img0 imgC rowC rowO;simp only [AS.le,leT,leH,ze,AsgK,AV.le,AV.leL,AObj.le,inH,idsT,idsH,AV.ids,AV.idsL,AV.idsR,AObj.ids,lk,hget,go_sem,aeq,aeq.aeqF,simprocAttr,hg]<;>and_intros<;>first|rfl|exact AV.leL_refl _|simp [inH,AV.idsL,AV.ids,hget,iE,iF,zn]) ?_;refine zmP ⟨[(3,true,.vp 0 0),(6,true,.vp 1 0),(7,true,.vp 24 0),(1,true,.d (.int .i64 k))],[(24,.var (rowC o2 so)),(23,.arr 12 (o.tasks.map tskD)),(22,.var (pre++(rowO o++post))),(1,.var (img0++ [.nils 8])),(0,.var (imgC v.x++ [.vsl 22 8 0 v.conns.length]))],some []⟩ ?_ ?_
   .cases il:(F.1.phase==3) with
    |true=>
     have e2:o2=ze4 o1:=by rw [iL,zfQ,aa (by rw [ie];exact beqP il)]
     rw [aa (beqP il)] at mR;rw [e2,mR];unfold img0 imgC rowC rowO;refine' zau il;refine (zcU (zi6 o1 (o.tasks.map tskD) o.tasks.length) rfl ⟨rfl,trivial⟩ trivial ⟨rfl,trivial⟩ rfl).mono ?_;refine' Cp;simp only [go_sem,aeq,aeq.aeqF,simprocAttr,rowC];refine' G8;all_goals first|rfl|exact AV.leL_refl _|simp [inH,AV.idsL,AV.ids,hget,iE,iF,zn]
    |false=>
     have e2:o2=o1:=by rw [iL,zfQ,U (by rw [ie];exact beqN il)]
     rw [U (beqN il)] at mR;rw [e2,mR];unfold img0 imgC rowC rowO;refine' zau il;all_goals first|rfl|exact AV.leL_refl _|simp [inH,AV.idsL,AV.ids,hget,iE,iF,zn]
   .unfold img0 imgC rowC rowO;unfold imgA rowC at jm;split at mR<;>subst mR
    all_goals
     refine' zCo (ownsL [1000061]) fx;refine ⟨23,40,.arr 12 (o.tasks.map tskD),_,.arr 12 ts,rfl,gb,by simp [AObj.ids],gD,jm,?_⟩;refine' Cl;have mJ:tv= .nils 12\/tv= .osl 23 12 o3.tasks.length 0 o3.tasks.length:=qW.elim (λe=> .inr e.1) (λe=> .inl e.1);rcases mJ with e|e<;>subst e
     all_goals
      refine' zwz (zL 11) gB;all_goals first|rfl|skip
      simp only [go_sem,aeq,aeq.aeqF,simprocAttr,gB,iT,ko,mL,sj,nA,sk];refine aw_le ⟨[(3,true,.vp 0 0),(6,true,.vp 1 0),(1,true,.d (.int .i64 k))],[(23,.arr 12 ts),(22,.var (zad (v.conns.take k)++(rowC o3 _++(zad (v.conns.drop (k+1))++List.replicate m .any)))),(1,.var (img0++ [.nils 8])),(0,.var (imgC v.x++ [.vsl 22 8 0 v.conns.length]))],some []⟩ (by rw [<-bu,<-im];unfold img0 imgC rowC;simp only [AS.le,leT,leH,ze,AsgK,AV.le,AV.leL,AObj.le,inH,idsT,idsH,AV.ids,AV.idsL,AV.idsR,AObj.ids,lk,hget,go_sem,aeq,aeq.aeqF,simprocAttr,rowC]<;>and_intros<;>first|rfl|exact AV.leL_refl _|simp [inH,AV.idsL,AV.ids,hget,iE,iF,zn]) (zix (l:=v.conns) (k:=k) (m:=m) qW fT gb gb gb ?_);unfold imgC img0;refine' G8;rw [hV,qX]
@[go_sem] def zeo:Ent Tryz.prog 24:= .m3 zjw (intT .i64) strT zvR
def znX:∀ (l:List Deed) {L M:Nat} {v:Srv},SvOk L v->SvOut M v->L+dlen l<=400000->SvOk (L+dlen l) (ze6 v l)/\SvOut (M+10000000000000*l.length) (ze6 v l)
 | [],L,M,v,h,J,hl=>⟨h,J⟩
 |d::l,L,M,v,h,J,hl=>by
  have e:dlen (d::l)=d.text.length+dlen l:=by simp [dlen]
  rw [e] at hl;have h1:=zr9 h d fT;have h2:=ztL h J d fT;obtain ⟨h3,h4⟩:=znX l h1 h2 fT;rw [e];exact ⟨h3.more fT,h4.more (by rw [aC];omega)⟩
def zy6 {v:Srv} (h:v.conns= []) (d:Deed):(svDo v d).1=v:=by
 have e:∀c:Int,(if c<0 then none else v.conns[c.toNat]?)=none:=λc=>by rw [h];split<;>rfl
 unfold svDo zfq ze5 zbY;rw [e];split
 .rfl
 split<;>rfl
def zlb {v:Srv} (h:v.conns= []):∀l:List Deed,ze6 v l=v
 | []=>rfl
 |d::l=>by show ze6 (svDo v d).1 l=v;rw [zy6 h,zlb h l]
def zlc:∀ (l:List Deed) (i:Nat),dlen (l.take i)<=dlen l
 | [],i=>by simp [dlen]
 |d::l,0=>by simp [dlen]
 |d::l,i+1=>by have:=zlc l i;simp only [dlen,dI,au,List.sum_cons] at this |-;omega
def zDo {x:Img} (hx:XOk x) (n:Int) (l:List Deed) (hd:dlen l<=400000) (hl:l.length<=300000):SvQ (ze6 (svNew x n).1 l):=by
 by_cases J:n<1\/4<n
 .have e:(svNew x n).1.conns= []:=by rw [svNew,aa J]
  rw [zlb e,SvQ,e];exact ⟨ad _,λh=>absurd rfl h⟩
 .have e:(svNew x n).2=0:=by rw [svNew,U J]
  have h1:=znS hx n e
  have h2:SvOut 10000 (svNew x n).1:=by rw [svNew,U J];intro c hc;rw [List.eq_of_mem_replicate hc];unfold OutOk;decide
  obtain ⟨h3,h4⟩:=znX l h1 h2 fT;exact ⟨h3.len,λ_=>⟨h3.more fT,h4.more fT⟩⟩
def zvT (x:Img) (n:Int) (ds:List Deed) (hp:XOk x/\dlen ds<=400000/\ds.length<=300000):AC 13 [imgA x,.d (.int .i64 n),.d (.sl 4 (ds.map deedD))] (.tup [srvA (ze6 (svNew x n).1 ds),.d (.bool ((svNew x n).2==0))]):=by
 obtain ⟨hx,hd,hl⟩:=hp;obtain ⟨v0,lU⟩:∃v0,v0=(svNew x n).1:=⟨_,rfl⟩
 obtain ⟨er,sq⟩:∃er,er=(svNew x n).2:=⟨_,rfl⟩
 have hq:∀l:List Deed,dlen l<=400000->l.length<=300000->SvQ (ze6 v0 l):=λl h1 h2=>by rw [lU];exact zDo hx n l h1 h2
 obtain ⟨V,hV⟩:∃V,V=ze6 v0 ds:=⟨_,rfl⟩
 rw [<-lU,<-sq,<-hV];refine fbod func13 ntmps13 (λbase=>?_);refine' walkW (zg lU.symm sq.symm) (za zfb <| za zeo <| za zep <| za zdJ <| zb _);refine zk (λq: { i:Nat // i<=ds.length } =>⟨[(6,true,.vp 1 0),(8,true,.vp 2 0),(9,true,.d (.int .i64 er)),(18,true,.d (.sl 4 (ds.map deedD))),(19,true,.d (.int .i64 ds.length)),(20,true,.d (.int .i64 q.1))],[(2,.var (imgC (ze6 v0 (ds.take q.1)).x++ [.d (.sl 8 ((ze6 v0 (ds.take q.1)).conns.map cnD))])),(1,.var (img0++ [.nils 8]))],some []⟩) (λq=>ds.length - q.1) ⟨0,ad _⟩ (by unfold imgC img0;exact lxa) (λq=>?_);refine' Dl;obtain ⟨W,hW⟩:∃W,W=ze6 v0 (ds.take i):=⟨_,rfl⟩
 rw [<-hW];have CJ:SvQ W:=by rw [hW];exact hq _ (aD (zlc _ _) hd) hU
 unfold imgC img0;rcases zw deedD ds i hi with ⟨d,pF,b3,J,ab,b4,a7⟩|⟨ao,J⟩
 .simp only [deedD] at ab;refine' CO;have l9:ze6 v0 (ds.take (i+1))=(svDo W d).1:=by rw [a7,hW];exact eM ..
  have iv:d.text.length<=400000:=by
   have h1:=zlc (ds.drop i) 1
   have h2:dlen (ds.drop i)<=dlen ds:=by
    conv=>rhs;rw [<-bO i ds]
    simp only [dlen,aG,eZ];omega
   rw [b4] at h1 h2;simp [dlen] at h1 h2;simp [dlen] at hd;omega
  unfold svDo at l9;by_cases h0:d.kind=0
  .have e0:(d.kind==0)=true:=by rw [h0];rfl
   rw [aa h0] at l9;refine' walkW (zp J ab e0) (za zfb <| za zeo <| za zep <| za zdJ <| zb _);all_goals first|omega|skip
   exact ⟨⟨i+1,fT⟩,vz,gh⟩
  .have e0:(d.kind==0)=false:=by simpa using h0
   rw [U h0] at l9;by_cases h1:d.kind=1
   .have e1:(d.kind==1)=true:=by rw [h1];rfl
    rw [aa h1] at l9;refine' walkW (zB J ab e0 e1) (za zfb <| za zeo <| za zep <| za zdJ <| zb _);all_goals first|omega|skip
    exact ⟨⟨i+1,fT⟩,vz,gh⟩
   .have e1:(d.kind==1)=false:=by simpa using h1
    rw [U h1] at l9;refine' walkW (zB J ab e0 e1) (za zfb <| za zeo <| za zep <| za zdJ <| zb _);all_goals first|omega|skip
    exact ⟨⟨i+1,fT⟩,vz,gh⟩
 .subst ao;rw [aL] at hW;refine' walkW J (za zfb <| za zeo <| za zep <| za zdJ <| zb _);rw [hV,hW]
@[go_sem] def zb6:Ent Tryz.prog 13:= .m3 za9 (intT .i64) (slT 4 deedD zkP) zvT
def zEp {x:Img} {n:Int} {ds:List Deed} (hx:ImgOk x) (J:fewB x ds=true) (he:(svNew x n).2=0):SvOk 20000 (ze6 (svNew x n).1 ds)/\SvOut 1000000000000000 (ze6 (svNew x n).1 ds):=by
 unfold fewB at J;simp only [aq,ax] at J;obtain ⟨⟨h1,h2⟩,h3⟩:=J;have hX:=XOk.of hx h3
 have h4:SvOut 10000 (svNew x n).1:=by
  unfold svNew at he |-;split at he
  .cases he
  .rename_i hn;rw [U hn];intro c hc;rw [List.eq_of_mem_replicate hc];unfold OutOk;decide
 obtain ⟨h5,h6⟩:=znX ds (znS hX n he) h4 fT;exact ⟨h5.more fT,h6.more fT⟩
def few_x {x:Img} {ds:List Deed} (hx:ImgOk x) (J:fewB x ds=true):XOk x/\dlen ds<=400000/\ds.length<=300000:=by unfold fewB at J;simp only [aq,ax] at J;obtain ⟨⟨h1,h2⟩,h3⟩:=J;exact ⟨XOk.of hx h3,fT,fT⟩
end
end Go.Aw
