/- Lemmas. -/
import Derived.Test.YtgldbfelccddbaaGreatApa44
import Derived.Test.YtgldbfelccddbaaGreatApa41
import Derived.Test.YtgldbfelccddbaaGreatApa36
set_option linter.all false
set_option maxRecDepth 100000
set_option maxHeartbeats 2000000
namespace Go.Aw
noncomputable section
open Go Go.Proofs Go.Proofs.Tryz
structure TkG (s s':SW):Prop where
 ok:SwOk s'
 x:s'.x=s.x
 k:s'.k=s.k
 pre:s'.pre=s.pre
 post:s'.post=s.post
 o:s'.o=zbO (128*s.x.geom.guest) s.o
def zyY (s:Txt):ChkOk (reqRd s).1:=by
 have h0:ChkOk rq0:=⟨gb,gb,gb,gb,gb⟩
 have h1:∀d:Txt,ChkOk (reqQ s d):=λd=>by have a:=zbA s 4 2;have c:=zbA s 24 4;exact ⟨jR,jR,jR,jR,jR⟩
 unfold reqRd;repeat' split
 all_goals first|exact h0|exact h1 _
def zB5 {s:SW} (h:SwOk s):((AV.idsL (s.pre++ .d (.int .i64 s.o.n.phase):: .d (.str s.o.n.buf):: .d (.bool s.o.n.brief):: .d (.bool s.o.n.chunks):: .d (.sl 1 (s.o.n.metas.map u32D))::s.tv:: .d (.str s.o.out):: .d (.bool s.o.gone)::s.post)).all λi=>decide (i<60))=true:=by
 rcases h.t with ⟨e,_⟩|⟨e,_⟩<;>simp [AV.idsL,AV.ids,e,h.p,h.q,zn]
def zEl {s:SW} {c:Cn} (h:SwOk s) (h1:s.o.gone=true->c=s.o) (h2:s.o.gone=false->c.gone=true->c.tasks= []) (h3:c.tasks.length<=1000):SwOk (swI s c):=by
 cases J:s.o.gone with
 |true=>
  rw [h1 J,ztM h];exact h
 | false=>
  unfold swI;rw [J];split
  .rename_i g;exact ⟨h.p,h.q,.inr ⟨rfl,h2 J g,g⟩,h3⟩
  .exact ⟨h.p,h.q,.inl ⟨rfl,rfl⟩,h3⟩
def zp5 (s:SW) {L M:Nat} (hs:SwOk s) (hx:XOk s.x) (hc:CnOk L s.x s.o) (hL:L<=9223372036854775806) (b9:OutOk M s.o) (hM:M<=9223372036854770000):ACall Tryz.prog 45 60 [.vp 21 0] (swH s) (λr h'=>r= .tup []/\∃s',TkG s s'/\h'=swH s'):=by
 refine zD (λi=>decide (i<60)) ?_;have CL:=hx.ex;refine bod func45 ntmps45 (λbase=>?_);refine' zfH (zL 2) fx (za zkZ <| zb _);refine aw_le ⟨[(1,true,.vp 60 0),(2,true,.vp 61 0)],tkH0 (xpOf s.x) s,some []⟩ xT ?_;refine' G8;refine ((zsj (xpOf s.x) s).whole (zV rfl) fT ?_).mono ?_
 .refine' Dm;all_goals simp
 refine' Cp;refine' G8;obtain ⟨size,gd⟩:∃size,size=128*s.x.geom.guest:=⟨_,rfl⟩
 obtain ⟨K,hK⟩:∃K,K=s.o.n.buf.length+1:=⟨_,rfl⟩
 obtain ⟨I,hI⟩:∃I:List (List AV)->AHeap×Option (List (List AV)),I=λxs=>(tkH (xpOf s.x) (swI s (tkSt size K s.o xs)),some []):=⟨_,rfl⟩
 obtain ⟨J,hJ⟩:∃J:Code->AHeap->Option (List (List AV))->Prop,J=λc h g=>c= .exit 0/\g=some []/\∃s',TkG s s'/\leH h (swH s'):=⟨_,rfl⟩
 have ht:s.tv.ids= [34]\/s.tv.ids= []:=by rcases hs.t with ⟨e,_⟩|⟨e,_⟩<;>rw [e]<;>simp [AV.ids]
 have pV:(I []).1=tkH (xpOf s.x) s:=by rw [hI];simp only [zjV,ztM hs]
 refine aw_le ⟨[(1,true,.vp 60 0),(2,true,.vp 61 0),(13,true,.fn (.func 177) [] [.vp 80 0])],tkH (xpOf s.x) s,some []⟩ xT ?_;refine zh6 (Kit:=λg h'=>(∀xs,g=some xs->xs=zbh size K s.o)/\h'= []) (items:=zbh size K s.o) (fl:=100) (caps':= [.any]) (λ_=>false) I J rfl rfl (by simp [AV.leL,AV.le]) (zcR func177 fX rfl) ?_ (zV rfl) nq (λi o _ h=>gS) (by intro j hj;simp [AV.idsL,AV.ids] at hj) ?_ ?_ lS (λ_ _ _ _=>rfl) (λ_ _ _ _ _ _=>rfl) ?_ ?_ nq ?_ ?_ ?_
 .intro E0 w0 ds rec pf qc h0 oJ qY mv y hy E w lf _ _ hG;refine' IK
  have uH:qc= #[v0]:=by apply Array.ext';simpa using lU
  subst uH;rw [zmQ (λ_ _=>rfl)] at lf hG |-;exact zBp (P:=CnOk L s.x) hs.p hs.q ht fT hc (λc h1 h2 _=>by rw [gd];exact zsa hx h1 fT h2) (λc h=>⟨by have:=h.buf;omega,by have:=h.tasks;omega⟩) I (λxs=>lS) y hy h0 mv n6 lf hG
 .rw [pV,zhc (λ_ _=>rfl)];exact lxb (lan @rowC.eq_1 @swC.eq_1)
 .rw [pV];exact zk8 hs.p hs.q ht
 .refine' Ie
 .intro x hx b5;exact (zB1 hx).resolve_left b5
 .intro xs x Av bu l r1;obtain ⟨c0,⟨bs,Ax⟩,lX,rfl,gf,wJ,m,qf,jc⟩:=zB2 (P:=λc=>CnOk L s.x c/\OutOk M c) (λc h1 h2 _=>by rw [gd];exact ⟨zsa hx h1.1 fT h2,zjW h1.2⟩) K s.o xs x ⟨hc,b9⟩ fT Av bu;refine' Jd;rw [zh0 lX] at jc;have hV:zbO size s.o=zcz size K s.o:=by rw [hK];rfl
  rw [<-hV] at jc;have jM:=lX.2.1;have wE:=zyY c0.n.buf;have CM:=znQ (s:=c0.n.buf) (by have:=bs.buf;omega);have CN:XpOk (xpOf s.x):=⟨by have:=hx.g0;simp only [xpOf];omega,by have:=hx.g1;simp only [xpOf];omega⟩
  have qZ:(xpOf s.x).size=size:=gd.symm;have c9:=lX.2.2;by_cases gl:(reqRd c0.n.buf).2.2=22
  .rw [U fT,cnNx,aa gl] at jc;rw [U fT] at gf;refine' Fv;have ln:((reqRd c0.n.buf).2.2==22)=true:=by rw [gl];rfl
   refine' D4;refine' zau ln;rw [hJ];exact ⟨rfl,rfl, { s with o:=c0,tv:= .osl 34 12 c0.tasks.length 0 c0.tasks.length,ts:=c0.tasks.map tskD },⟨⟨hs.p,hs.q,.inl ⟨rfl,rfl⟩,gH⟩,rfl,rfl,rfl,rfl,vJ⟩,lxb (lan @rowC.eq_1 @swC.eq_1)⟩
  .have ln:((reqRd c0.n.buf).2.2==22)=false:=by simpa using gl
   by_cases h0:(reqRd c0.n.buf).2.2=0
   .have e0:((reqRd c0.n.buf).2.2 !=0)=false:=by rw [h0];rfl
    rw [aa h0] at gf jc;obtain ⟨k,hk⟩:∃k,k=za2 (reqRd c0.n.buf).1 (xpOf s.x).size c0.n.chunks c0.n.metas:=⟨_,rfl⟩
    have tX:=zk6 (q:=(reqRd c0.n.buf).1) (s:=(xpOf s.x).size) (ch:=c0.n.chunks) (ms:=c0.n.metas);rw [<-hk] at tX;have jd:(I xs).1=tkH (xpOf s.x) { s with o:=cnBuf c0,tv:= .osl 34 12 c0.tasks.length 0 c0.tasks.length,ts:=c0.tasks.map tskD } :=by rw [hI];simp only [gf,swI];rw [U (by rw [cnBuf,jM];decide)];rfl
    have kv:(I xs).2=some []:=lS;rw [jd,kv];refine aw_le ⟨[(14,true,rqA (reqRd c0.n.buf).1),(15,true,.d (.int .i64 (reqRd c0.n.buf).2.2)),(1,true,.vp 60 0),(2,true,.vp 61 0)],tkH (xpOf s.x) { s with o:=cnBuf c0,tv:= .osl 34 12 c0.tasks.length 0 c0.tasks.length,ts:=c0.tasks.map tskD },some []⟩ tF ?_;unfold cnBuf;by_cases hd:(reqRd c0.n.buf).1.kind=2/\k=0
    .have e2:((reqRd c0.n.buf).1.kind==2)=true:=by rw [hd.1];rfl
     have ek:(k==0)=true:=by rw [hd.2];rfl
     rw [cnNx,U gl,aa (.inr ⟨hd.1,by rw [<-qZ,<-hk];exact hd.2⟩),zcC rfl] at jc;refine' walkR (zat ln e0 e2 hk.symm ek) (za zhq <| za zbb <| za zin <| zb _);refine (zcU (znG { s with o:=cnBuf c0,tv:= .osl 34 12 c0.tasks.length 0 c0.tasks.length,ts:=c0.tasks.map tskD }) rfl ⟨rfl,rfl,rfl,trivial⟩ yq ⟨rfl,trivial⟩ rfl).mono ?_;refine' Cp;refine' G8;rw [hJ];exact ⟨rfl,rfl,swLv { s with o:=cnBuf c0,tv:= .osl 34 12 c0.tasks.length 0 c0.tasks.length,ts:=c0.tasks.map tskD },⟨⟨hs.p,hs.q,.inr ⟨rfl,rfl,rfl⟩,ad _⟩,rfl,rfl,rfl,rfl,vJ⟩,xV⟩
    .have hn:cnNx size c0=cnOne size c0:=by
      rw [cnNx,U gl,U];rintro (h|h)
      .exact h h0
      .exact hd ⟨h.1,by rw [hk,qZ];exact h.2⟩
     have htr:=zgo (reqRd c0.n.buf).1 k c0.n.chunks;have j0:c0.out.length<=M:=by unfold OutOk at Ax;omega
     have wL:(I (xs++ [tkIt c0])).2=some []:=lS;by_cases mf:k=0
     .have e2:((reqRd c0.n.buf).1.kind==2)=false:=by simpa using λe=>hd ⟨e,mf⟩
      have ek:(k !=0)=false:=by rw [mf];rfl
      have oY:cnOne size c0= { c0 with n:= { c0.n with buf:=(reqRd c0.n.buf).2.1 },tasks:=c0.tasks++ [tnew (reqRd c0.n.buf).1] } :=by rw [cnOne,U (by rw [<-qZ,<-hk];omega)]
      have pT:(I (xs++ [tkIt c0])).1=tkH (xpOf s.x) { s with o:= { c0 with n:= { c0.n with buf:=(reqRd c0.n.buf).2.1 },tasks:=c0.tasks++ [tnew (reqRd c0.n.buf).1] },tv:= .osl 34 12 (c0.tasks.length+1) 0 (c0.tasks.length+1),ts:=c0.tasks.map tskD++ [tskD (tnew (reqRd c0.n.buf).1)] } :=by rw [hI];simp only [wJ,hn,oY,swI,ae,bl,aG,au,bM];rw [U sK]
      refine' walkR (zr ln e0 e2 hk.symm ek (zp @List.length_map.{0,0} pT wL)) (za zhq <| za zbb <| za zin <| zb _);all_goals first|rfl|omega|exact AV.leL_refl _|simp [inH,AV.idsL,AV.ids,hget,hs.p,hs.q,zn]
     .have ek:(k !=0)=true:=by simpa using mf
      have tY:(k==0)=false:=by simpa using mf
      have oY:cnOne size c0= { c0 with n:= { c0.n with buf:=(reqRd c0.n.buf).2.1 },out:=c0.out++zcX (reqRd c0.n.buf).1 k c0.n.chunks } :=by rw [cnOne,aa (by rw [<-qZ,<-hk];exact mf),<-qZ,<-hk]
      have pT:(I (xs++ [tkIt c0])).1=tkH (xpOf s.x) { s with o:= { c0 with n:= { c0.n with buf:=(reqRd c0.n.buf).2.1 },out:=c0.out++zcX (reqRd c0.n.buf).1 k c0.n.chunks },tv:= .osl 34 12 c0.tasks.length 0 c0.tasks.length,ts:=c0.tasks.map tskD } :=by rw [hI];simp only [wJ,hn,oY,swI];rw [U sK]
      refine' walkR (zr ln e0 tY hk.symm ek (zg pT wL)) (za zhq <| za zbb <| za zin <| zb _);all_goals first|rfl|omega|exact AV.leL_refl _|simp [inH,AV.idsL,AV.ids,hget,hs.p,hs.q,zn]
   .have e0:((reqRd c0.n.buf).2.2 !=0)=true:=by simpa using h0
    rw [U h0] at gf jc;rw [cnNx,U gl,aa (.inl h0)] at jc;refine' Fv;refine' D4;refine' walkR (zg ln e0) (za zhq <| za zbb <| za zin <| zb _);refine (zcU (znG { s with o:=c0,tv:= .osl 34 12 c0.tasks.length 0 c0.tasks.length,ts:=c0.tasks.map tskD }) rfl ⟨rfl,rfl,rfl,trivial⟩ yq ⟨rfl,trivial⟩ rfl).mono ?_;refine' Cp;refine' G8;rw [hJ];exact ⟨rfl,rfl,swLv { s with o:=c0,tv:= .osl 34 12 c0.tasks.length 0 c0.tasks.length,ts:=c0.tasks.map tskD },⟨⟨hs.p,hs.q,.inr ⟨rfl,rfl,rfl⟩,ad _⟩,rfl,rfl,rfl,rfl,vJ⟩,xV⟩
 .rintro h1 ⟨_,rfl⟩;have Ay:I (zbh size K s.o)=(tkH (xpOf s.x) (swI s (zbO size s.o)),some []):=by rw [hI];simp only [zB0,zbO,hK]
  rw [Ay];have gC:CnOk L s.x (zbO size s.o):=by rw [gd];exact ziv hx fT _ hc
  have hw:=zEl (c:=zbO size s.o) hs (λg=>zcC g) (λg=>zh2 _ g) (by have:=gC.tasks;omega);have wM:=zB5 hw;obtain ⟨s',ga⟩:∃s',s'=swI s (zbO size s.o):=⟨_,rfl⟩
  have hT:TkG s s':=by rw [ga];refine ⟨hw,?_,?_,?_,?_,by rw [swI_o,gd]⟩<;>(unfold swI;repeat' split)<;>rfl
  rw [<-ga] at wM |-;simp only [go_sem,aeq,aeq.aeqF,simprocAttr,keepT,hsel,results45];refine ⟨wM,s',hT,rfl⟩
 .rintro c h1 h3 g3 ⟨_,rfl⟩ hj;rw [hJ] at hj;obtain ⟨rfl,rfl,s',hT,hle⟩:=hj;refine aw_le ⟨[],swH s',some []⟩ ⟨trivial,hle,trivial,sw_cl hT.ok,rfl⟩ ?_;refine' G8
  .exact zB5 hT.ok
  .exact ⟨s',hT,rfl⟩
def sw_at {f:FuncId} {args:List AV} {s:SW} {R:AHeap} {K:AV->SW->Prop} {fl:Nat} (hs:SwOk s) (hc:ACall Tryz.prog f 60 args (swH s) (λr h'=>∃s',K r s'/\h'=swH s')) (hR:(R.all λq=>decide (q.1<21)||(decide (34<q.1)&&decide (q.1<60)))=true) (ha:AV.idsL args= [21]) (hle:fl<=60):
  ACallAt Tryz.prog fl f args (swH s++R) (λr h'=>∃s',K r s'/\h'=swH s'++R):=by
 have uI:∀q∈R,q.1<60/\((decide (21<=q.1)&&decide (q.1<=34))||decide (60<=q.1))=false:=λq J=>by have:=bw.1 hR q J;simp only [aH,aq,ax] at this;refine ⟨fT,?_⟩;simp only [bn,ee,bG];omega
 have e1:hsel (λi=>(decide (21<=i)&&decide (i<=34))||decide (60<=i)) (swH s++R)=swH s:=by show (34,_)::(22,_)::(21,_)::hsel _ R=_;rw [zmQ λq J=>(uI q J).2]
 have e2:hsel (λi=> !((decide (21<=i)&&decide (i<=34))||decide (60<=i))) (swH s++R)=R:=by show hsel _ R=_;exact zhc λq J=>by rw [(uI q J).2];rfl
 have:=ACall.frame (P:=Tryz.prog) (f:=f) (args:=args) (fl:=60) (fl':=fl) (h:=swH s++R) (p:=λi=>(decide (21<=i)&&decide (i<=34))||decide (60<=i)) (K:=λr h'=>∃s',K r s'/\h'=swH s') (by rw [e1];exact hc) (zV (by
  rw [ey,aq]
  exact ⟨rfl,bw.2 λq J=>af (uI q J).1⟩)) (λi hi=>nz) (λi o ho hp j hj=>by
   have h1:hget (swH s) i=some o:=by rw [<-e1,zE,aa hp];exact ho
   have h2:=zfW (sw_cl hs) j (zg3 h1 j hj);rw [<-e1,zE] at h2;split at h2
   .assumption
   .simp at h2) (by rw [ha];intro j hj;rw [bp.1 hj];rfl) hle (by
  rintro r h' ⟨s',_,rfl⟩;refine ⟨λi hi hp=>?_,λi hi=>?_⟩
  .have:(hget (swH s) i).isSome:=by rw [<-e1,zE,aa hp];exact hi
   revert this;simp only [hget];repeat' split
   all_goals simp
  .refine' Dp;all_goals first|(intro;simp;omega)|simp)
 refine this.mono ?_;rintro r h' ⟨h1,⟨s',hK,rfl⟩,rfl⟩;rw [e2];exact ⟨s',hK,rfl⟩
def zy3 (n:Ng) (x:Xp) (s:Txt) (hp:XpF x/\0<=n.phase/\n.buf.length+s.length<=900000):AC 42 [ngA n,xpA x,.d (.str s)] (.tup [ngA (zba n x s).1,.d (.str (zba n x s).2)]):=by obtain ⟨h,h0,J⟩:=hp;exact zA1 n x s h0 J h.ok.1 h.ok.2 h.l h.n
@[go_sem] def zsl:Ent Tryz.prog 42:= .m3 ngA_T xpA_T strT zy3
def zy4 (v:Srv) (c:Int) (s:Txt) (hp:SvB v/\s.length<=400000):AC 14 [srvA v,.d (.int .i64 c),.d (.str s)] (srvA (zfq v c s)):=by
 obtain ⟨h,hl⟩:=hp;obtain ⟨V,J⟩:∃V,V=zfq v c s:=⟨_,rfl⟩
 rw [<-J];unfold zfq at J;have c6:=h.ok.len;refine' Fc
 .have hn:(if c<0 then none else v.conns[c.toNat]?)=none:=by
   split
   .rfl
   .exact cp fT
  rw [hn] at J;refine fbod func14 ntmps14 (λbase=>?_);refine' G8;refine (zaE (zhZ v c hb)).mono ?_;refine' Cp;refine' Cl;refine' G8;rw [J]
 .refine' CK;refine' Dv;refine fbod func14 ntmps14 (λbase=>?_);refine' G8;refine' Du;refine' Cl;cases hg:o.gone with
  |true=>
   rw [hg,aa rfl] at J;refine' zau hg;rw [J]
  | false=>
   rw [hg,U gb] at J;refine' D9;have iT:pre.length+1+1=pre.length+2:=rfl;have ko:pre.length+2+1=pre.length+3:=rfl;have mL:pre.length+3+1=pre.length+4:=rfl;refine' zfH (zL 6) (zat hg hF.symm iT ko mL) (za zkZ <| za zsl <| zb _);obtain ⟨o1,ie⟩:∃o1:Cn,o1= { o with n:=F.1,out:=o.out++F.2 } :=⟨_,rfl⟩
   obtain ⟨σ,hσ⟩:∃σ:SW,σ=⟨v.x,v.conns.length,pre,o1,post,.osl 34 12 o.tasks.length 0 o.tasks.length,o.tasks.map tskD⟩:=⟨_,rfl⟩
   refine aw_le ⟨[(6,true,.vp 1 0),(7,true,.vp 21 0),(9,true,.vp 50 0),(10,true,.d (.str F.2))],swH σ++ [(50,.var [.d (.int .i64 F.1.phase),.d (.str F.1.buf),.d (.bool F.1.brief),.d (.bool F.1.chunks),.d (.sl 1 (F.1.metas.map u32D))]),(1,.var (img0++ [.nils 8]))],some []⟩ (by rw [hσ,ie];unfold img0;simp only [AS.le,leT,leH,ze,AsgK,AV.le,AV.leL,AObj.le,inH,idsT,idsH,AV.ids,AV.idsL,AV.idsR,AObj.ids,lk,hget,go_sem,aeq,aeq.aeqF,simprocAttr,rowC,swC,hg]<;>and_intros<;>first|rfl|exact AV.leL_refl _|simp [inH,AV.idsL,AV.ids,hget,iE,iF,zn]) ?_;have lG:SwOk σ:=by rw [hσ,ie];exact ⟨iE,iF,.inl ⟨rfl,rfl⟩,by have:=b9.tasks;simp only;omega⟩
   have hle:OutOk 4100000000000000000 o1:=by refine' Ho
   obtain ⟨σ2,jy⟩:∃σ2,σ2=if F.1.phase=3 then swLv σ else σ:=⟨_,rfl⟩
   have q0:SwOk σ2:=by
    rw [jy];split
    .exact ⟨lG.p,lG.q,.inr ⟨rfl,rfl,rfl⟩,ad _⟩
    .exact lG
   have iL:σ2.o=zfQ o1:=by rw [jy,hσ,ie];unfold zfQ swLv;simp only;split<;>rfl
   refine zmP ⟨[(6,true,.vp 1 0),(7,true,.vp 21 0),(10,true,.d (.str F.2))],swH σ2++ [(1,.var (img0++ [.nils 8]))],some []⟩ ?_ ?_
   .cases il:(F.1.phase==3) with
    |true=>
     rw [aa (beqP il)] at jy;subst jy;refine' zau il;refine (zcU (znG σ) rfl ⟨rfl,rfl,rfl,trivial⟩ (sw_cl lG) ⟨rfl,trivial⟩ rfl).mono ?_;refine' Cp;refine' G8;all_goals first|rfl|exact AV.leL_refl _|simp [inH,AV.idsL,AV.ids,hget,lG.p,lG.q,zn,swLv]
    |false=>
     rw [U (beqN il)] at jy;subst jy;refine' zau il;all_goals first|rfl|exact AV.leL_refl _|(rw [hσ];simp [inH,AV.idsL,AV.ids,hget,iE,iF,zn])
   .have kZ:σ2.x=v.x:=by rw [jy,hσ];split<;>rfl
    have mY:σ2.k=v.conns.length:=wz;have kY:σ2.pre=pre:=wz;have jZ:σ2.post=post:=wz
    have pa:CnOk 900000 σ2.x σ2.o:=by rw [kZ,iL,ie];refine' HM
    have nw:OutOk 4100000000000000000 σ2.o:=by
     rw [iL];unfold zfQ;split
     .unfold OutOk at*;simp only [ze4,aM];omega
     .exact hle
    refine' G8;refine (sw_at (K:=λr s'=>r= .tup []/\TkG σ2 s') q0 ((zp5 σ2 q0 (by rw [kZ];exact h.ok.x) pa fT nw fT).mono ?_) rfl rfl fT).mono ?_
    .rintro r h' ⟨h1,s',h2,h3⟩;exact ⟨s',⟨h1,h2⟩,h3⟩
    rintro r h' ⟨s',⟨rfl,hT⟩,rfl⟩;refine' zwz (zL 9) fx;have qX:s'.o=zph v.x o s:=by rw [hT.o,iL,kZ,ie,hF];rfl
    refine aw_le ⟨[(6,true,.vp 1 0),(7,true,.vp 21 0),(10,true,.d (.str F.2))],swH s'++ [(1,.var (img0++ [.nils 8]))],some []⟩ (by unfold img0;simp only [AS.le,leT,leH,ze,AsgK,AV.le,AV.leL,AObj.le,inH,idsT,idsH,AV.ids,AV.idsL,AV.idsR,AObj.ids,lk,hget,go_sem,aeq,aeq.aeqF,simprocAttr,rowC,swC]<;>and_intros<;>first|rfl|exact AV.leL_refl _|(rcases hT.ok.t with ⟨e,_⟩|⟨e,_⟩<;>simp [inH,AV.idsL,AV.ids,e,hget,hT.ok.p,hT.ok.q,zn])) ?_;refine zjX (l:=v.conns) (k:=k) (m:=m) hT.ok fT (by rw [hT.k,mY]) (by rw [hT.pre,kY,bu];rfl) (by rw [hT.post,jZ,im];rfl) gb gb gb ?_;unfold imgC img0;refine' G8;rw [J,qX,hT.x,kZ]
@[go_sem] def zbR:Ent Tryz.prog 14:= .m3 zjw (intT .i64) strT zy4
def zy5 (v:Srv) (c i:Int) (h:SvB v):AC 17 [srvA v,.d (.int .i64 c),.d (.int .i64 i)] (srvA (ze5 v c i)):=by
 obtain ⟨V,J⟩:∃V,V=ze5 v c i:=⟨_,rfl⟩
 rw [<-J];unfold ze5 at J;have c6:=h.ok.len;refine' Fc
 .have hn:(if c<0 then none else v.conns[c.toNat]?)=none:=by
   split
   .rfl
   .exact cp fT
  rw [hn] at J;refine fbod func17 ntmps17 (λbase=>?_);refine' Ds;refine (zaE (zhZ v c hb)).mono ?_;refine' Cp;refine' Cl;refine' Ds;rw [J]
 .refine' CK;refine' Dv;refine fbod func17 ntmps17 (λbase=>?_);refine' Ds;refine' Du;refine' Cl;by_cases An:i<0\/(o.tasks.length:Int)<=i
  .have iT:(if i<0 then none else o.tasks[i.toNat]?)=none:=by
    split
    .rfl
    .exact cp fT
   rw [iT] at J;by_cases mA:i<0
   .have e0:decide (i<0)=true:=af mA;refine' zc e0;rw [J]
   .refine' Hd;rw [J]
  .refine' EB;rw [iT] at J;simp only [aw] at J;refine' Hb;rw [<-hT] at J;refine' H9;have a8:(o.tasks.map tskD).getD j []= [.int .i64 t.q.flags,.int .i64 t.q.kind,.int .u64 t.q.cookie,.int .u64 t.q.frm,.int .u32 t.q.len,.str t.q.data,.sl 3 (t.cuts.map cutD),.int .i64 t.loc,.int .u32 t.err,.str t.data,.sl 2 (t.spans.map spnD),.bool t.done]:=zbB ht;refine' Eh;refine' zfh (zL 6) (zat e0 e1 a8 hT.symm uA) (za zvw <| zb _);refine' Fy;have km:((o.tasks.set j T.2).map tskD).getD j []= [.int .i64 T.2.q.flags,.int .i64 T.2.q.kind,.int .u64 T.2.q.cookie,.int .u64 T.2.q.frm,.int .u32 T.2.q.len,.str T.2.q.data,.sl 3 (T.2.cuts.map cutD),.int .i64 T.2.loc,.int .u32 T.2.err,.str T.2.data,.sl 2 (T.2.spans.map spnD),.bool T.2.done]:=zbB (fg mH);have uJ:((o.tasks.set j T.2).map tskD).length=o.tasks.length:=by rw [al,mb]
   obtain ⟨o1,ie⟩:∃o1:Cn,o1= { o with tasks:=o.tasks.set j T.2 } :=⟨_,rfl⟩
   obtain ⟨σ,hσ⟩:∃σ:SW,σ=⟨T.1,v.conns.length,pre,o1,post,.osl 34 12 o.tasks.length 0 o.tasks.length,(o.tasks.set j T.2).map tskD⟩:=⟨_,rfl⟩
   have lG:SwOk σ:=by rw [hσ,ie];exact ⟨iE,iF,.inl ⟨by simp only [mb],rfl⟩,by have:=b9.tasks;simp only [mb];omega⟩
   refine aw_le ⟨[(2,true,.d (.int .i64 j)),(6,true,.vp 1 0),(7,true,.vp 21 0),(9,true,.ap 34 o.tasks.length 12 j 0)],swH ⟨T.1,v.conns.length,pre,o1,post,.osl 34 12 o.tasks.length 0 o.tasks.length,(o.tasks.set j T.2).map tskD⟩++ [(1,.var (img0++ [.nils 8]))],some []⟩ (by rw [ie];unfold img0;simp only [AS.le,leT,leH,ze,AsgK,AV.le,AV.leL,AObj.le,inH,idsT,idsH,AV.ids,AV.idsL,AV.idsR,AObj.ids,lk,hget,go_sem,aeq,aeq.aeqF,simprocAttr,rowC,swC,cK]<;>and_intros<;>first|rfl|exact AV.leL_refl _|simp [inH,AV.idsL,AV.ids,hget,iE,iF,zn]) ?_;cases kN:T.2.done with
   |false=>
    have qV:V=⟨T.1,v.conns.set k o1⟩:=by rw [J,zij,kN];simp only [bj,aK,ie]
    refine' z8 (zL 10) (zp km uJ kN);refine aw_le ⟨[(6,true,.vp 1 0),(7,true,.vp 21 0),(2,true,.d (.int .i64 j))],swH σ++ [(1,.var (img0++ [.nils 8]))],some []⟩ xU ?_;refine' Gc;refine' Ds;rw [qV,hσ]
   | true=>
    refine' DR;rw [ie];refine' z8 (zL 7) (zp km uJ kN);refine' zfh (zL 8) (zp km uJ hR.symm) (za zrJ <| zb _);have uB:IntKind.i64.wrap ((j:Int)+1)=((j+1:Nat):Int):=zo oh;have gw:=zBr (o.tasks.set j T.2) j (by rw [mb];exact mH) (by rw [mb];have:=b9.tasks;omega);rw [mb] at gw;refine' zhS (ownsL [1000052]) uB;refine ⟨34,40,.arr 12 ((o.tasks.set j T.2).map tskD),_,_,rfl,gb,by simp [AObj.ids],gD,gw,?_⟩;refine' Cl;refine' z8 (zL 9) fx
    have sq:(o.tasks.set j T.2).eraseIdx j=o.tasks.eraseIdx j:=by rw [dC,dC,dK (aj _),eD fT]
    have my:(o.tasks.eraseIdx j).length=o.tasks.length - 1:=fF mH;have wN:o.tasks.length=o.tasks.length - 1+1:=fT;obtain ⟨n1,jr⟩:∃n1,n1=o.tasks.length - 1:=⟨_,rfl⟩
    rw [<-jr] at my wN;refine' HQ;refine aw_le ⟨[(2,true,.d (.int .i64 j)),(6,true,.vp 1 0),(7,true,.vp 21 0)],swH ⟨T.1,v.conns.length,pre,o2,post,.osl 34 12 (n1+1) 0 n1,(o.tasks.eraseIdx j).map tskD++ [tskZ]⟩++ [(1,.var (img0++ [.nils 8]))],some []⟩ (by rw [iL,<-wN,jr];unfold img0;simp only [AS.le,leT,leH,ze,AsgK,AV.le,AV.leL,AObj.le,inH,idsT,idsH,AV.ids,AV.idsL,AV.idsR,AObj.ids,lk,hget,go_sem,aeq,aeq.aeqF,simprocAttr,rowC,swC,sq]<;>and_intros<;>first|rfl|exact AV.leL_refl _|simp [inH,AV.idsL,AV.ids,hget,iE,iF,zn]) ?_;have hP:∀f,AV.trL (onI 34 f) pre=pre:=λf=>zdI pre (by rw [iE];simp);have hS:∀f,AV.trL (onI 34 f) post=post:=λf=>zdI post (by rw [iF];simp);refine zy1 34 (xs:=(o.tasks.eraseIdx j).map tskD) (ys:= [tskZ]) rfl fZ (by rw [al,my];have:=b9.tasks;simp only [bl];omega) nq ?_;unfold img0;simp only [go_sem,aeq,aeq.aeqF,simprocAttr,hP,hS,al,my];obtain ⟨σ2,jy⟩:∃σ2:SW,σ2=⟨T.1,v.conns.length,pre,o2,post,.osl 34 12 n1 0 n1,(o.tasks.eraseIdx j).map tskD⟩:=⟨_,rfl⟩
    have q0:SwOk σ2:=by rw [jy];exact ⟨iE,iF,.inl ⟨by rw [iL];simp only [my],by rw [iL]⟩,by rw [iL];have:=b9.tasks;simp only [my];omega⟩
    have kZ:σ2.x=T.1:=by rw [jy]
    have pa:CnOk 400000 σ2.x σ2.o:=by rw [jy,iL];refine ⟨b9.phase,b9.buf,b9.ms,by simp only [my];have:=b9.tasks;omega,λu hu=>?_,λ_=>b9.data (λe=>wX)⟩;have:=b9.tsk u (zg2 hu);exact ⟨this.1,this.2.1,this.2.2.step g2 g1⟩
    have nw:OutOk 4100000000000000000 σ2.o:=by rw [jy,iL];unfold OutOk;simp only [ae];omega
    refine aw_le ⟨[(2,true,.d (.int .i64 j)),(6,true,.vp 1 0),(7,true,.vp 21 0)],swH σ2++ [(1,.var (img0++ [.nils 8]))],some []⟩ (by rw [jy];unfold img0;simp only [AS.le,leT,leH,ze,AsgK,AV.le,AV.leL,AObj.le,inH,idsT,idsH,AV.ids,AV.idsL,AV.idsR,AObj.ids,lk,hget,go_sem,aeq,aeq.aeqF,simprocAttr,rowC,swC]<;>and_intros<;>first|rfl|exact AV.leL_refl _|simp [inH,AV.idsL,AV.ids,hget,iE,iF,zn]) ?_;refine' Ds;refine (sw_at (K:=λr s'=>r= .tup []/\TkG σ2 s') q0 ((zp5 σ2 q0 (by rw [kZ];exact mw) pa fT nw fT).mono ?_) rfl rfl fT).mono ?_
    .rintro r h' ⟨h1,s',h2,h3⟩;exact ⟨s',⟨h1,h2⟩,h3⟩
    rintro r h' ⟨s',⟨rfl,hG⟩,rfl⟩;refine' z8 (zL 10) fx
    have qX:V=⟨T.1,v.conns.set k s'.o⟩:=by rw [J,zij,kN,hG.o,kZ,jy,iL,hR];rfl
    refine aw_le ⟨[(6,true,.vp 1 0),(7,true,.vp 21 0),(2,true,.d (.int .i64 j))],swH s'++ [(1,.var (img0++ [.nils 8]))],some []⟩ (by unfold img0;simp only [AS.le,leT,leH,ze,AsgK,AV.le,AV.leL,AObj.le,inH,idsT,idsH,AV.ids,AV.idsL,AV.idsR,AObj.ids,lk,hget,go_sem,aeq,aeq.aeqF,simprocAttr,rowC,swC]<;>and_intros<;>first|rfl|exact AV.leL_refl _|(rcases hG.ok.t with ⟨e,_⟩|⟨e,_⟩<;>simp [inH,AV.idsL,AV.ids,e,hget,hG.ok.p,hG.ok.q,zn])) ?_;refine zjX (l:=v.conns) (k:=k) (m:=m) hG.ok fT (by rw [hG.k,jy]) (by rw [hG.pre,jy,bu];rfl) (by rw [hG.post,jy,im];rfl) gb gb gb ?_;unfold imgC img0;refine' Ds;rw [qX,hG.x,kZ]
@[go_sem] def zbS:Ent Tryz.prog 17:= .m3 zjw (intT .i64) (intT .i64) zy5
def zvU:ACall Tryz.prog 12 0 [] [] (λr _=>r= .d (.bool true)):=by
 have hb:=aw1_b;have b3:=aw2_b;have iH:=aw3_b;have uL:=aw4_b;have AA:=aw5_b;have uM:=aw5_x;have J:=aw1_s;have ko:=aw3_n;have rD:=aw3_t;have nA:=aw6_n;have rr:=aw5_u;have h6:=aw6_do.1;obtain ⟨W5,wO⟩:∃W,W=aw5:=⟨_,rfl⟩
 obtain ⟨W4,uO⟩:∃W,W=aw4:=⟨_,rfl⟩
 obtain ⟨W3,pY⟩:∃W,W=aw3:=⟨_,rfl⟩
 obtain ⟨W2,q2⟩:∃W,W=aw2:=⟨_,rfl⟩
 obtain ⟨X,hX⟩:∃X,X=csmall:=⟨_,rfl⟩
 rw [<-wO] at AA uM nA rr h6;rw [<-uO] at uL;rw [<-pY] at iH ko rD;rw [<-q2] at b3;unfold aw1 at hb J;unfold aw2 aw1 at q2;have AB:W4=(zbY W3 0).1:=by rw [uO,pY];rfl
 have AD:W5=ze5 W4 0 0:=by rw [wO,uO];rfl
 unfold aw3 aw2 aw1 awT at pY;rw [<-hX] at hb q2 pY uM J;rw [<-q2] at pY;have CP:W3.conns.length<=1000:=by have:=iH.ok.len;omega
 have CQ:∀c∈W3.conns,c.tasks.length<=1000000:=λc hc=>by have:=(iH.ok.conn c hc).tasks;omega
 obtain ⟨W6,uP⟩:∃W,W=(zbY W5 0).1:=⟨_,rfl⟩
 have wQ:W6.x=W5.x:=by rw [uP,zbY];split<;>rfl
 rw [uM] at wQ;rw [<-uP] at nA h6;have xD:W6.conns.length<=1000:=by have:=h6.len;omega
 have CR:∀c∈W6.conns,c.tasks.length<=1000000:=λc hc=>by have:=(h6.conn c hc).tasks;omega
 obtain ⟨S1,nY⟩:∃S,S=(zbY ⟨X,aw1l⟩ 0).2:=⟨_,rfl⟩
 obtain ⟨S3,wR⟩:∃S,S=(zbY W3 0).2:=⟨_,rfl⟩
 rw [<-nY] at J;rw [<-wR] at rD;have J:(S1.length:Int)=18:=fT;have AG:decide ((20:Int)<S3.length)=true:=af fT;have ko:(zkO W3:Int)=1:=fT;have nA:(zkO W6:Int)=0:=fT;refine fbod func12 ntmps12 (λbase=>?_);refine' zfh (zL 8) (zr hX.symm q2.symm pY.symm AB.symm AD.symm (zat uP.symm nY.symm wR.symm rr ko)) (za zio <| za zk0 <| za zbt <| za zbR <| za zk7 <| za zbS <| zb _);have bo:W6.x.disk=csmall.disk:=by rw [wQ,hX]
 have fY:csmall.disk.cache= []:=by rw [zmf]
 have kE:=zpM W6.x (by rw [bo];exact csmall_ok.disk.ok) (by rw [bo];exact fY) (by rw [bo,<-zmf];exact zBd);obtain ⟨Y,hY⟩:∃Y:Img,Y= { (cdone ⟨⟨W6.x.disk.data,[], -1,false,W6.x.disk.bad⟩,⟨20,8⟩,⟨1,0⟩,[],false⟩ p0).1 with maps:= [] } :=⟨_,rfl⟩
 rw [<-hY] at kE;refine' z8 (zL 9) fx;refine ACallAt.le2 (args':= [imgA W6.x,.d (.sl 1 [])]) (by simp only [imgA,AV.leL,AV.le];and_intros<;>first|rfl|trivial) ((zaE kE).mono ?_);refine' Cp;refine' Cl;refine' walkW (zB J ko AG nA) (za zio <| za zk0 <| za zbt <| za zbR <| za zk7 <| za zbS <| zb _)
@[go_sem] def zb7:Ent Tryz.prog 12:= .ofL nilL (λ_=>True) (λ_=> .d (.bool true)) (λ_ hp=>⟨rfl,zvU⟩)
def Apart1 (v w:Srv) (c:Int):Prop:=w.conns.length=v.conns.length/\∀i:Nat,(i:Int)≠c->w.conns[i]?=v.conns[i]?
def Apart1.refl (v:Srv) (c:Int):Apart1 v v c:=⟨rfl,λ_ _=>rfl⟩
def Apart1.set {v:Srv} {c:Int} {o:Cn} {x:Img} (h:0<=c) (J:Cn):Apart1 v ⟨x,v.conns.set c.toNat J⟩ c:=⟨cO ..,λi hi=>List.getElem?_set_ne fT⟩
def zvV (v:Srv) (d:Deed):Apart1 v (svDo v d).1 d.conn/\(d.kind≠1->(svDo v d).1.x=v.x):=by
 unfold svDo;split
 .unfold zfq;split
  .exact ⟨.refl _ _,λ_=>rfl⟩
  .rename_i o J;split
   .exact ⟨.refl _ _,λ_=>rfl⟩
   .exact ⟨.set (o:=o) (zcO J).1 _,λ_=>rfl⟩
 split
 .rename_i h1;refine ⟨?_,λh=>absurd h1 h⟩;unfold ze5;split
  .exact .refl _ _
  .rename_i o J;split
   .exact .refl _ _
   .exact .set (o:=o) (zcO J).1 _
 .unfold zbY;split
  .exact ⟨.refl _ _,λ_=>rfl⟩
  .rename_i o J;exact ⟨.set (o:=o) (zcO J).1 _,λ_=>rfl⟩
def img00:Img:=⟨⟨[],[],0,false,[]⟩,⟨0,0⟩,⟨0,0⟩,[],false⟩
def ztN:ImgOk img00:=⟨⟨gb,gb,gb,gb,gb⟩,gb,(λm hm=>kO),(λm hm=>kO)⟩
def zsn (J lb:List Cn) (oA:J.length<=1000) (oB:lb.length<=1000) (r8:∀c∈J,SmOk c) (ma:∀c∈lb,SmOk c):ACall Tryz.prog 15 0 [.agg [.d (.str []),.d (.sl 2 []),.d (.int .i64 0),.d (.bool false),.d (.sl 1 []),.d (.int .i64 0),.d (.int .i64 0),.d (.int .u64 0),.d (.int .i64 0),.d (.sl 66 []),.d (.bool false),.d (.sl 8 (J.map cnD))],.agg [.d (.str []),.d (.sl 2 []),.d (.int .i64 0),.d (.bool false),.d (.sl 1 []),.d (.int .i64 0),.d (.int .i64 0),.d (.int .u64 0),.d (.int .i64 0),.d (.sl 66 []),.d (.bool false),.d (.sl 8 (lb.map cnD))]] [] (λr _=>r= .d (.bool (decide (J=lb)))):=by have h:=zvN ⟨img00,J⟩ ⟨img00,lb⟩ ztN ztN oA oB r8 ma;have e:decide ((⟨img00,J⟩:Srv)=⟨img00,lb⟩)=decide (J=lb):=decide_eq_decide.2 ⟨λh=>by injection h,λh=>lj⟩;rw [e] at h;exact h
@[go_sem] def e_r26sameL_ok:Ent Tryz.prog 15:= .ofL (consL (aggT (consL (zav (.d (.str []))) (consL (zav (.d (.sl 2 []))) (consL (zav (.d (.int .i64 0))) (consL (zav (.d (.bool false))) (consL (zav (.d (.sl 1 []))) (consL (zav (.d (.int .i64 0))) (consL (zav (.d (.int .i64 0))) (consL (zav (.d (.int .u64 0))) (consL (zav (.d (.int .i64 0))) (consL (zav (.d (.sl 66 []))) (consL (zav (.d (.bool false))) (consL (slT 8 cnD zrp) nilL)))))))))))) (λp=>p) (λp=>p) (λ_=>rfl)) (consL (aggT (consL (zav (.d (.str []))) (consL (zav (.d (.sl 2 []))) (consL (zav (.d (.int .i64 0))) (consL (zav (.d (.bool false))) (consL (zav (.d (.sl 1 []))) (consL (zav (.d (.int .i64 0))) (consL (zav (.d (.int .i64 0))) (consL (zav (.d (.int .u64 0))) (consL (zav (.d (.int .i64 0))) (consL (zav (.d (.sl 66 []))) (consL (zav (.d (.bool false))) (consL (slT 8 cnD zrp) nilL)))))))))))) (λp=>p) (λp=>p) (λ_=>rfl)) nilL)) (λ((_,_,_,_,_,_,_,_,_,_,_,J,_),(_,_,_,_,_,_,_,_,_,_,_,lb,_),_)=>(J.length<=1000)/\(lb.length<=1000)/\(∀c∈J,SmOk c)/\(∀c∈lb,SmOk c)) (λ((_,_,_,_,_,_,_,_,_,_,_,J,_),(_,_,_,_,_,_,_,_,_,_,_,lb,_),_)=> .d (.bool (decide (J=lb)))) (λ((_,_,_,_,_,_,_,_,_,_,_,J,_),(_,_,_,_,_,_,_,_,_,_,_,lb,_),_) hp=>⟨rfl,zsn J lb hp.1 hp.2.1 hp.2.2.1 hp.2.2.2⟩)
def smE:List AV->Option (Prop×AV)
 | [.agg a,.agg b]=>e_r26sameL_ok.e [.agg a,.agg b]
 | [.any,.any]=>some (False,.d (.bool false))
 |_=>none
@[go_sem] def ztO:Ent Tryz.prog 15 where
 e:=smE
 ok:=λargs pre r h hp=>by
  unfold smE at h;split at h
  .exact e_r26sameL_ok.ok _ _ _ h hp
  .cases h;exact hp.elim
  .cases h
@[go_sem] def smE_agg (a b:List AV):smE [.agg a,.agg b]=e_r26sameL_ok.e [.agg a,.agg b]:=rfl
@[go_sem] def smE_any:smE [.any,.any]=some (False,.d (.bool false)):=rfl
@[go_sem] def frz_anyW (n:Nat) (h:AHeap):frz n h .any= .any:=by cases n<;>cases h<;>rfl
def zy7 {α:Type} {g:α->List D} {l:List α} {i:Nat} {a:α} (h:l[i]?=some a):List.drop i (List.take (i+1) (List.map g l))=List.map g [a]:=by obtain ⟨J,he⟩:=bP.1 h;rw [<-cE,<-dy,List.take_succ_eq_append_getElem J,en hU,fj hU,he];rfl
def znY (x:Img) (n:Int) (ds:List Deed) (d:Deed) (h:ImgOk x) (hl:ds.length<=9223372036854775807) (ht:∀d∈ds,d.text.length<=9223372036854000000) (hs:d.text.length<=9223372036854775807):ACall Tryz.prog 5 0 [imgA x,.d (.int .i64 n),.d (.sl 4 (ds.map deedD)),.agg [.d (.int .i64 d.kind),.d (.int .i64 d.conn),.d (.int .i64 d.loc),.d (.str d.text)]] [] (λr _=>r= .d (.bool true)):=by
 refine fbod func5 ntmps5 (λbase=>?_);cases hf:fewB x ds with
 |false=>
  refine' walkR hf (za zft <| za zb6 <| za zbR <| za zbS <| za zbt <| za zb7 <| za zaq <| zb _)
 |true=>
 obtain ⟨CS,CT,CU⟩:=few_x h hf;by_cases jU:d.text.length<=20000
 .have e1:decide (20000<(d.text.length:Int))=false:=ag fT;cases he:(svNew x n).2==0 with
  |false=>
   refine' walkR (zp hf e1 he) (za zft <| za zb6 <| za zbR <| za zbS <| za zbt <| za zb7 <| za zaq <| zb _)
  |true=>
  obtain ⟨v1,v2⟩:=zEp h hf gp;obtain ⟨V,hV⟩:∃V,V=ze6 (svNew x n).1 ds:=⟨_,rfl⟩
  rw [<-hV] at v1 v2;have yd:SvB V:=⟨v1.more fT,v2.more fT⟩
  have w1:=zr9 v1 d fT;obtain ⟨w2,w3⟩:=zvV V d;obtain ⟨W,hW⟩:∃W,W=(svDo V d).1:=⟨_,rfl⟩
  rw [<-hW] at w1 w2 w3;obtain ⟨w4,w5⟩:=w2;have b9:d.text.length<=400000:=fT;have CV:=v1.x.img.ok;have CW:=w1.x.img.ok;have CX:=v1.len;have qV:∀c∈V.conns,SmOk c:=λc hc=>(v1.conn c hc).sm;have AI:∀c∈W.conns,SmOk c:=λc hc=>(w1.conn c hc).sm;have CY:W.conns.length<=1000:=fT;refine' zfH (zL 7) (zB hf e1 he hV.symm) (za zft <| za zb6 <| za zbR <| za zbS <| za zbt <| za zb7 <| za zaq <| zb _);refine zmP ⟨[(7,true,.vp 1 0),(9,true,.vp 2 0),(11,true,.vp 3 0)],[(3,.var (imgC W.x++ [.d (.sl 8 (W.conns.map cnD))])),(2,.var (imgC V.x++ [.d (.sl 8 (V.conns.map cnD))])),(1,.var [.d (.int .i64 d.kind),.d (.int .i64 d.conn),.d (.int .i64 d.loc),.d (.str d.text)])],some []⟩ ?_ ?_
  .unfold imgC;unfold svDo at hW;by_cases h0:d.kind=0
   .have e0:(d.kind==0)=true:=by rw [h0];rfl
    rw [aa h0] at hW;replace hW:W=zfq V d.conn d.text:=hW;have uQ:decide (W.x=V.x)=true:=af (w3 fT);refine' walkR (zp e0 hW.symm uQ) (za zft <| za zb6 <| za zbR <| za zbS <| za zbt <| za zb7 <| za zaq <| zb _);all_goals first|omega|rfl|exact AV.leL_refl _|skip
   .have e0:(d.kind==0)=false:=by simpa using h0
    rw [U h0] at hW;by_cases h1:d.kind=1
    .have e2:(d.kind==1)=true:=by rw [h1];rfl
     rw [aa h1] at hW;replace hW:W=ze5 V d.conn d.loc:=hW;refine' walkR (zp e0 e2 hW.symm) (za zft <| za zb6 <| za zbR <| za zbS <| za zbt <| za zb7 <| za zaq <| zb _);all_goals first|omega|rfl|exact AV.leL_refl _|skip
    .have e2:(d.kind==1)=false:=by simpa using h1
     rw [U h1] at hW;have uQ:decide (W.x=V.x)=true:=af (w3 h1);refine' walkR (zB e0 e2 hW.symm uQ) (za zft <| za zb6 <| za zbR <| za zbS <| za zbt <| za zb7 <| za zaq <| zb _);all_goals first|omega|rfl|exact AV.leL_refl _|skip
  unfold imgC;have e4:((W.conns.length:Int) !=(V.conns.length:Int))=false:=by rw [w4];simp
  refine' zau e4;refine zk (λq: { i:Nat // i<=V.conns.length } =>⟨[(7,true,.vp 1 0),(9,true,.vp 2 0),(11,true,.vp 3 0),(81,true,.d (.int .i64 V.conns.length)),(82,true,.d (.int .i64 q.1))],[(3,.var (imgC W.x++ [.d (.sl 8 (W.conns.map cnD))])),(2,.var (imgC V.x++ [.d (.sl 8 (V.conns.map cnD))])),(1,.var [.d (.int .i64 d.kind),.d (.int .i64 d.conn),.d (.int .i64 d.loc),.d (.str d.text)])],some []⟩) (λq=>V.conns.length - q.1) ⟨0,ad _⟩ vR (λq=>?_);refine' Dl;unfold imgC;rcases aO i V.conns.length with bo|gU
  .have J:decide ((i:Int)<(V.conns.length:Int))=true:=af fT;refine' CO;obtain ⟨a,ha⟩:=zaD bo;obtain ⟨b,hb⟩:=zaD (l:=W.conns) (i:=i) fT;have pD:=zy7 (g:=cnD) ha;have r9:=zy7 (g:=cnD) hb;have oA:∀c∈([a]:List Cn),SmOk c:=λc hc=>by rw [bp.1 hc];exact qV a (ay ha)
   have oB:∀c∈([b]:List Cn),SmOk c:=λc hc=>by rw [bp.1 hc];exact AI b (ay hb)
   have AJ:([a]:List Cn).length<=1000:=fZ;have o5:([b]:List Cn).length<=1000:=fZ;have wS:(V.conns.map cnD).length=V.conns.length:=al ..;have wT:(W.conns.map cnD).length=V.conns.length:=by rw [al,w4]
   have iP:(i:Int)≠d.conn->a=b:=λe=>by have:=w5 i e;rw [ha,hb] at this;injection this with this;exact this.symm
   obtain ⟨la,jv⟩:∃la,la= [a]:=⟨_,rfl⟩
   obtain ⟨lb,js⟩:∃lb,lb= [b]:=⟨_,rfl⟩
   rw [<-jv] at pD oA AJ;rw [<-js] at r9 oB o5;cases b5:((i:Int) !=d.conn) with
   |false=>
    refine' walkR (zr J b5 hwi pD r9 (zg wS wT)) (za ztO <| zb _);all_goals first|omega|skip
    exact ⟨⟨i+1,fT⟩,lxa,gh⟩
   |true=>
    have d1:decide (la=lb)=true:=af (by rw [jv,js,iP (by simpa using b5)]);refine' walkR (zr J b5 hwi pD r9 (zp d1 wS wT)) (za ztO <| zb _);all_goals first|omega|skip
    exact ⟨⟨i+1,fT⟩,lxa,gh⟩
  .have J:decide ((i:Int)<(V.conns.length:Int))=false:=ag fT;refine' walkR J (za zft <| za zb6 <| za zbR <| za zbS <| za zbt <| za zb7 <| za zaq <| zb _)
 .have e1:decide (20000<(d.text.length:Int))=true:=af fT;refine' walkR (zg hf e1) (za zft <| za zb6 <| za zbR <| za zbS <| za zbt <| za zb7 <| za zaq <| zb _)
end
end Go.Aw
