/- Lemmas. -/
import Derived.Test.YtgldbfelccddbaaGreatApa28
import Derived.Test.YtgldbfelccddbaaGreatApa31
import Derived.Test.YtgldbfelccddbaaGreatApa30
set_option linter.all false
set_option maxRecDepth 100000
set_option maxHeartbeats 2000000
namespace Go.Aw
noncomputable section
open Go Go.Proofs Go.Proofs.Tryz
def zDf {k:Int} (h:k=0\/k=1\/k=4\/k=6):isPc k=true:=by unfold isPc;rcases h with rfl|rfl|rfl|rfl<;>rfl
def zDg {k:Int} (h:¬(k=0\/k=1\/k=4\/k=6)):isPc k=false:=by rw [<-cb,isPc];simp only [aH,aF];omega
def zDh (q:Rq) (h:RqOk q):AC 102 [rqA q] (tskA (tnew q)):=by
 refine fbod func102 ntmps102 (λbase=>?_);refine' HR;by_cases J:q.kind=0\/q.kind=1\/q.kind=4\/q.kind=6
 .have hp:=zDf J;cases hb:decide (q.frm<1073741824) with
  | true=>
   have b3:q.frm<1073741824:=bd hb;refine' Io;have hT:tnew q=⟨q,cutsL q.frm q.len,0,0,[],[],false⟩:=ztC (by rw [hp,hb];rfl);rcases J with J|J|J|J
   all_goals
    refine' walkW (zB J hb ab a6) (za zci <| zb _);first|(rw [hT];simp only [J];done)|(rw [hT];simp only [J];rfl)
  | false=>
   have hT:tnew q=⟨q,[],0,0,[],[],false⟩:=znB (by rw [hp,hb];rfl);rcases J with J|J|J|J
   all_goals
    refine' walkW (zg J hb) (za zci <| zb _);first|(rw [hT];simp only [J];done)|(rw [hT];simp only [J];rfl)
 .have hp:=zDg J;have e0:(q.kind==0)=false:=iN;have e1:(q.kind==1)=false:=iN;have e4:(q.kind==4)=false:=iN;have e6:(q.kind==6)=false:=iN;have hT:tnew q=⟨q,[],0,0,[],[],false⟩:=znB (by rw [hp];rfl);refine' walkW (zB e0 e1 e4 e6) (za zci <| zb _);rw [hT];rfl
@[go_sem] def zin:Ent Tryz.prog 102:= .m1 rqA_T zDh
def zyr (dn:Bool) (kind:Int) (cookie:Int) (data:Txt) (gk:0<=cookie) (gx:cookie<18446744073709551616) (J:data.length<=9223372036854775807):ACall Tryz.prog 110 0 [.agg [.d (.bool dn),.d (.int .i64 kind),.d (.int .u64 cookie),.d (.str data)]] [] (λr _=>r= .d (.str (zbx dn kind cookie data).1)):=by refine fbod func110 ntmps110 (λbase=>?_);refine' walkW fx (za zry <| zb _)
@[go_sem] def zbQ:Ent Tryz.prog 110:= .ofL (consL (aggT (consL boolT (consL (intT .i64) (consL (intT .u64) (consL strT nilL)))) (λp=>p) (λp=>p) (λ_=>rfl)) nilL) (λ((dn,kind,cookie,data,_),_)=>(0<=cookie)/\(cookie<18446744073709551616)/\(data.length<=9223372036854775807)) (λ((dn,kind,cookie,data,_),_)=> .d (.str (zbx dn kind cookie data).1)) (λ((dn,kind,cookie,data,_),_) hp=>⟨rfl,zyr dn kind cookie data hp.1 hp.2.1 hp.2.2⟩)
def zpF (e:Int):(rfail e).length=6:=by simp [rfail,zu]
def zvg (q:Rq) (e:Int) (ch:Bool) (hp:RqOk q/\0<=e/\e<4294967296):AC 101 [rqA q,.d (.int .u32 e),.d (.bool ch)] (.d (.str (zcX q e ch))):=by
 obtain ⟨h,h0,h1⟩:=hp;refine fbod func101 ntmps101 (λbase=>?_);have J:=h.c0;have bo:=h.c1;have gy:=zpF e;cases he:(e==0) with
 |true=>
  refine' GN;rw [zcX,aa (beqP he)]
 | false=>
  cases ch with
  |true=>
   refine' GN;all_goals first|omega|skip
   rw [zcX,U (beqN he),aa rfl]
  |false=>
   refine' GN;all_goals first|omega|decide|skip
   rw [zcX,U (beqN he),U gb]
@[go_sem] def zbb:Ent Tryz.prog 101:= .m3 rqA_T (intT .u32) boolT zvg
def zmc {dn:Bool} {k c:Int} {s:Txt} :(zbx dn k c s).1.length<=20+s.length:=by
 unfold zbx;split
 .exact ad _
 split
 .exact ad _
 .simp only [ae,zu,zgg,aC,aM];omega
structure TsOk (t:Tsk):Prop where
 ok:RqOk t.q
 err0:0<=t.err
 err1:t.err<4294967296
 data:t.data.length<=1000000
 spans:t.spans.length<=1000
 rows:∀s∈t.spans,0<=s.ctx/\s.ctx<4294967296/\s.list.length<=9223372036854775807
def zys (t:Tsk) (ch:Bool) (h:TsOk t):AC 51 [tskA t,.d (.bool ch)] (.d (.str (zgV t ch))):=by
 refine fbod func51 ntmps51 (λbase=>?_);refine' DU;cases hd:t.done with
 |false=>
  rw [aa hd] at J;refine' walkW hd (za zbQ <| za zbb <| za zbs <| za zck <| za zcB <| zb _);rw [J]
 |true=>
 rw [U (by rw [hd];decide)] at J;cases he:(t.err !=0) with
 |true=>
  rw [aa (bneP he)] at J;refine' walkW (zg hd he) (za zbQ <| za zbb <| za zbs <| za zck <| za zcB <| zb _);rw [J]
 |false=>
 rw [U (bneN he)] at J;cases ch with
 |false=>
  rw [aa rfl] at J;refine' walkW (zg hd he) (za zbQ <| za zbb <| za zbs <| za zck <| za zcB <| zb _);all_goals first|omega|decide|skip
  rw [J]
 |true=>
 rw [U gb] at J;cases gk:(t.q.kind==0) with
 |true=>
  rw [aa (beqP gk)] at J;refine' walkW (zp hd he gk) (za zbQ <| za zbb <| za zbs <| za zck <| za zcB <| zb _);all_goals first|omega|skip
  rw [J]
 |false=>
 rw [U (beqN gk)] at J;cases nv:(t.q.kind !=7) with
 |true=>
  rw [U (bneP nv)] at J;refine' IE;all_goals first|omega|decide|skip
  rw [J]
 |false=>
 rw [aa (by simpa using nv)] at J;refine' IE;refine zfG 2 1 rfl rfl ?_;refine' Cl;refine' HJ;refine zk (λq: { q:Nat×Txt // q.1<=L.length/\q.2.length<=4024*q.1/\Z=zhB t.q (L.drop q.1) q.2 } =>⟨[(2,true,.vp 0 0),(5,true,.vp 1 0),(8,true,.tp 2 0),(63,true,.d (.sl 2 (L.map spnD))),(64,true,.d (.int .i64 L.length)),(65,true,.d (.int .i64 q.1.1))],[(3,.buf 5 q.1.2),(2,.tvar 180 [if q.1.1=0 then .d .nilp else .tp 2 0,.bsl 3 q.1.2.length]),(1,.var [.d (.int .i64 t.q.flags),.d (.int .i64 t.q.kind),.d (.int .u64 t.q.cookie),.d (.int .u64 t.q.frm),.d (.int .u32 t.q.len),.d (.str t.q.data)]),(0,.var [.d (.int .i64 t.q.flags),.d (.int .i64 t.q.kind),.d (.int .u64 t.q.cookie),.d (.int .u64 t.q.frm),.d (.int .u32 t.q.len),.d (.str t.q.data),.d (.sl 3 (t.cuts.map cutD)),.d (.int .i64 t.loc),.d (.int .u32 t.err),.d (.str t.data),.d (.sl 2 (L.map spnD)),.d (.bool true)])],some []⟩) (λq=>L.length - q.1.1) ⟨(0,[]),ad _,ad _,J⟩ (by simp only [AS.le,leT,leH,ze,AsgK,AV.le,AV.leL,AObj.le,inH,idsT,idsH,AV.ids,AV.idsL,AV.idsR,AObj.ids,lk,hget,go_sem,aeq,aeq.aeqF,simprocAttr,hL,av]<;>and_intros<;>rfl) (λq=>?_);refine' Ey;rcases zw spnD L i hi with ⟨p,hq,b6,ab,aZ,b4,a7⟩|⟨ao,ab⟩
 .simp only [spnD] at aZ;refine' CO;obtain ⟨pN,nf,kY⟩:=qL p (ay hq);rw [b4,zhB] at hf
  have kN:((i:Int)==IntKind.i64.wrap ((L.length:Int) - 1))=(L.drop (i+1)).isEmpty:=by rw [zf fT fT,bV,aF,List.isEmpty_iff,List.drop_eq_nil_iff];omega
  refine' DX;refine' walkW (zat ab aZ hS.symm kN hC.symm) (za zbQ <| za zbb <| za zbs <| za zck <| za zcB <| zb _);all_goals first|omega|skip
  refine (zdv (i:=2) (j:=3) (o:=0) (T:=180) (cs:= [if i=0 then .d .nilp else .tp 2 0,.bsl 3 s.length]) (xs:=s) rfl (by by_cases h0:i=0<;>simp [h0]) rfl rfl rfl zge fT).mono ?_;refine' Cp;have j9:(if i+1=0 then AV.d .nilp else AV.tp 2 0)= .tp 2 0:=U fT;refine' Ds;exact ⟨⟨(i+1,s++C.1),fT,w9,hf⟩,(by simp only [AS.le,leT,leH,ze,AsgK,AV.le,AV.leL,AObj.le,inH,idsT,idsH,AV.ids,AV.idsL,AV.idsR,AObj.ids,lk,hget,go_sem,aeq,aeq.aeqF,simprocAttr,hwi,j9,ae]<;>and_intros<;>rfl),gh⟩
 .rw [ao,aP,zhB] at hf;refine' zc ab;refine (zfF (i:=2) (j:=3) (o:=0) (T:=180) (cs:= [if i=0 then .d .nilp else .tp 2 0,.bsl 3 s.length]) (xs:=s) rfl rfl rfl rfl fT).mono ?_;refine' Cp;refine' Gq;refine' Ds;rw [hf]
@[go_sem] def zrJ:Ent Tryz.prog 51:= .m2 zii boolT zys
def zr4 (dn:Bool) (kind:Int) (cookie:Int) (data:Txt) (gk:0<=cookie) (gx:cookie<18446744073709551616) (J:data.length<=9223372036854775807):ACall Tryz.prog 127 0 [.agg [.d (.bool dn),.d (.int .i64 kind),.d (.int .u64 cookie),.d (.str data)]] [] (λr _=>r= .d (.str (zbx dn kind cookie data).1)):=by refine fbod func127 ntmps127 (λbase=>?_);refine' walkW fx (za znp <| zb _)
@[go_sem] def za6:Ent Tryz.prog 127:= .ofL (consL (aggT (consL boolT (consL (intT .i64) (consL (intT .u64) (consL strT nilL)))) (λp=>p) (λp=>p) (λ_=>rfl)) nilL) (λ((dn,kind,cookie,data,_),_)=>(0<=cookie)/\(cookie<18446744073709551616)/\(data.length<=9223372036854775807)) (λ((dn,kind,cookie,data,_),_)=> .d (.str (zbx dn kind cookie data).1)) (λ((dn,kind,cookie,data,_),_) hp=>⟨rfl,zr4 dn kind cookie data hp.1 hp.2.1 hp.2.2⟩)
def zpP (q:Rq) (e:Int) (ch:Bool) (hp:RqOk q/\0<=e/\e<4294967296):AC 121 [rqA q,.d (.int .u32 e),.d (.bool ch)] (.d (.str (zcX q e ch))):=by
 obtain ⟨h,h0,h1⟩:=hp;refine fbod func121 ntmps121 (λbase=>?_);have J:=h.c0;have bo:=h.c1;have gy:=zpF e;cases he:(e==0) with
 |true=>
  refine' HU;rw [zcX,aa (beqP he)]
 | false=>
  cases ch with
  |true=>
   refine' HU;all_goals first|omega|skip
   rw [zcX,U (beqN he),aa rfl]
  |false=>
   refine' HU;all_goals first|omega|decide|skip
   rw [zcX,U (beqN he),U gb]
@[go_sem] def zaB:Ent Tryz.prog 121:= .m3 rqA_T (intT .u32) boolT zpP
def zr5 (t:Tsk) (ch:Bool) (h:TsOk t):AC 63 [tskA t,.d (.bool ch)] (.d (.str (zgV t ch))):=by
 refine fbod func63 ntmps63 (λbase=>?_);refine' DU;cases hd:t.done with
 |false=>
  rw [aa hd] at J;refine' walkW hd (za za6 <| za zaB <| za zaT <| za zcA <| za zbP <| zb _);rw [J]
 |true=>
 rw [U (by rw [hd];decide)] at J;cases he:(t.err !=0) with
 |true=>
  rw [aa (bneP he)] at J;refine' walkW (zg hd he) (za za6 <| za zaB <| za zaT <| za zcA <| za zbP <| zb _);rw [J]
 |false=>
 rw [U (bneN he)] at J;cases ch with
 |false=>
  rw [aa rfl] at J;refine' walkW (zg hd he) (za za6 <| za zaB <| za zaT <| za zcA <| za zbP <| zb _);all_goals first|omega|decide|skip
  rw [J]
 |true=>
 rw [U gb] at J;cases gk:(t.q.kind==0) with
 |true=>
  rw [aa (beqP gk)] at J;refine' walkW (zp hd he gk) (za za6 <| za zaB <| za zaT <| za zcA <| za zbP <| zb _);all_goals first|omega|skip
  rw [J]
 |false=>
 rw [U (beqN gk)] at J;cases nv:(t.q.kind==7) with
 |false=>
  rw [U (beqN nv)] at J;refine' IG;all_goals first|omega|decide|skip
  rw [J]
 |true=>
 rw [aa (beqP nv)] at J;refine' IG;refine' HJ;refine zk (λq: { q:Nat×Txt // q.1<=L.length/\q.2.length<=4024*q.1/\Z=zhB t.q (L.drop q.1) q.2 } =>⟨[(2,true,.vp 0 0),(5,true,.vp 1 0),(8,true,.d (.str q.1.2)),(9,true,.d (.int .i64 q.1.1))],[(1,.var [.d (.int .i64 t.q.flags),.d (.int .i64 t.q.kind),.d (.int .u64 t.q.cookie),.d (.int .u64 t.q.frm),.d (.int .u32 t.q.len),.d (.str t.q.data)]),(0,.var [.d (.int .i64 t.q.flags),.d (.int .i64 t.q.kind),.d (.int .u64 t.q.cookie),.d (.int .u64 t.q.frm),.d (.int .u32 t.q.len),.d (.str t.q.data),.d (.sl 3 (t.cuts.map cutD)),.d (.int .i64 t.loc),.d (.int .u32 t.err),.d (.str t.data),.d (.sl 2 (L.map spnD)),.d (.bool true)])],some []⟩) (λq=>L.length - q.1.1) ⟨(0,[]),ad _,ad _,J⟩ (lxb hL) (λq=>?_);refine' Ey;rcases zw spnD L i hi with ⟨p,hq,b6,ab,aZ,b4,a7⟩|⟨ao,ab⟩
 .simp only [spnD] at aZ;refine' CO;obtain ⟨pN,nf,kY⟩:=qL p (ay hq);rw [b4,zhB] at hf
  have kN:((i:Int)==IntKind.i64.wrap ((L.length:Int) - 1))=(L.drop (i+1)).isEmpty:=by rw [zf fT fT,bV,aF,List.isEmpty_iff,List.drop_eq_nil_iff];omega
  refine' DX;refine' walkW (zat ab aZ hS.symm kN hC.symm) (za za6 <| za zaB <| za zaT <| za zcA <| za zbP <| zb _);all_goals first|omega|skip
  exact ⟨⟨(i+1,s++C.1),fT,w9,hf⟩,lev,gh⟩
 .rw [ao,aP,zhB] at hf;refine' zc ab;rw [hf]
@[go_sem] def znO:Ent Tryz.prog 63:= .m2 zii boolT zr5
def zyK (a b:List Ext) (ha:a.length<=9223372036854775807):AC 103 [.d (.sl 2 (a.map extD)),.d (.sl 2 (b.map extD))] (.d (.bool (decide (a=b)))):=by
 refine fbod func103 ntmps103 (λbase=>?_);by_cases hlen:a.length=b.length
 .have hb:((a.length:Int) !=(b.length:Int))=false:=by simp [hlen]
  refine' zc hb;refine zk (λq:Eqst a b=>⟨[(0,true,.d (.sl 2 (a.map extD))),(1,true,.d (.sl 2 (b.map extD))),(5,true,.d (.int .i64 q.1))],[],some []⟩) (λq=>a.length - q.1) ⟨0,ad _,rfl⟩ le1 (λq=>?_);refine' Di;rcases zw extD a i hi with ⟨⟨u,v⟩,hq,a8,J,ab,b4,a7⟩|⟨ao,J⟩
  .obtain ⟨⟨u',v'⟩,fV⟩:=zaD (l:=b) (i:=i) fT;have ij:=zbB (g:=extD) fV;simp only [extD] at ab ij;refine' CO;refine' zc (zp J ab ij);all_goals first|omega|skip
   .have:a≠b:=eq_ne hq fV (by intro h;cases h;simp at hc);rw [ag this]
   .exact ⟨⟨i+1,fT,zhV hq fV (by simp at hc;simp [hc]) hf⟩,lew,gh⟩
  .have:=zkp ao hlen hf;refine' zc J;rw [af this]
 .have hb:((a.length:Int) !=(b.length:Int))=true:=by rw [bD];omega
  refine' zc hb;rw [ag (λh=>hlen lj)]
@[go_sem] def zcD:Ent Tryz.prog 103:= .m2 (slT 2 extD zeG) (slT 2 extD zeG) zyK
structure TmOk (t:Tsk):Prop where
 cuts:t.cuts.length<=65536
 spans:t.spans.length<=65536
 rows:∀s∈t.spans,s.list.length<=9223372036854775807
def zEi (a b:Rq):(a.flags==b.flags&&(a.kind==b.kind&&(a.cookie==b.cookie&&(a.frm==b.frm&&(a.len==b.len&&a.data==b.data)))))=decide (a=b):=by obtain ⟨_,_,_,_,_,_⟩:=a;obtain ⟨_,_,_,_,_,_⟩:=b;rw [bV];simp
def zDk (a b c J b' c':Nat):(((a:Int)==(J:Int))&&(((b:Int)==(b':Int))&&((c:Int)==(c':Int))))=decide ((a,b,c)=(J,b',c')):=by rw [bV];simp;omega
def zDl {a b:Tsk} (h1:a.q=b.q) (h2:a.loc=b.loc) (J:a.err=b.err) (h4:a.data=b.data) (h5:a.done=b.done) (h6:a.cuts=b.cuts) (h7:a.spans=b.spans):a=b:=by obtain ⟨_,_,_,_,_,_,_⟩:=a;obtain ⟨_,_,_,_,_,_,_⟩:=b;simp only at h1 h2 J h4 h5 h6 h7;subst h1 h2 J h4 h5 h6 h7;rfl
def zvu (a b:Tsk) (hp:TmOk a/\TmOk b):AC 47 [tskA a,tskA b] (.d (.bool (decide (a=b)))):=by
 obtain ⟨ha,hb⟩:=hp;refine fbod func47 ntmps47 (λbase=>?_);have wm:=zEi a.q b.q;have r8:=ha.cuts;have ma:=hb.cuts;have pD:=ha.spans;have r9:=hb.spans;cases hX:(!decide (a.q=b.q)||a.loc !=b.loc||a.err !=b.err||a.data !=b.data||a.done !=b.done||(a.cuts.length:Int) !=(b.cuts.length:Int)||(a.spans.length:Int) !=(b.spans.length:Int)) with
 |true=>
  refine' walkW (zg wm hX) (za zcD <| zb _);rw [ag (λh=>by subst h;simp at hX)]
 | false=>
  have qM:=hX;simp only [bn,bK,ax,bJ] at qM;obtain ⟨⟨⟨⟨⟨⟨x1,x2⟩,x3⟩,x4⟩,x5⟩,x6⟩,x7⟩:=qM;have y6:a.cuts.length=b.cuts.length:=fT;have y7:a.spans.length=b.spans.length:=fT;refine' walkW (zg wm hX) (za zcD <| zb _);refine zk (λq:Eqst a.cuts b.cuts=>⟨[(2,true,.vp 0 0),(3,true,.vp 1 0),(5,true,.d (.int .i64 q.1))],[(1,.var (tskS b)),(0,.var (tskS a))],some []⟩) (λq=>a.cuts.length - q.1) ⟨0,ad _,rfl⟩ le1 (λq=>?_);refine' Di;rcases zw cutD a.cuts i hi with ⟨⟨c0,c1,c2⟩,hq,cc,J,ab,b4,a7⟩|⟨ao,J⟩
  .obtain ⟨⟨d0,d1,d2⟩,fV⟩:=zaD (l:=b.cuts) (i:=i) fT;have ij:=zbB (g:=cutD) fV;simp only [cutD] at ab ij;refine' CO;have pr:=zDk c0 c1 c2 d0 d1 d2;cases gE:decide ((c0,c1,c2)=(d0,d1,d2)) with
   |false=>
    rw [gE] at pr
    (have tk:=za zcD <| zb Tryz.prog);repeat' (first|((first|(refine sa ?_;intro K hK)|refine sb ?_);simp only [go_sem,aeq,aeq.aeqF,simprocAttr,J,ab,ij,pr,cq,results47])|refine zaC (λK hK=>?_)|refine sc ?_|refine za1 rfl (λhc=>?_) (λhc=>?_)|(refine hK _ ?_;clear hK K)|with_reducible refine And.intro ?_ ?_|(refine (show zb8 _ _=true from ?_);kernel_rfl)|omega|assumption|refine λ(hg:(_:Bool)=(_:Bool))=>?_|clear hK K)
    all_goals first|omega|skip
    have:a.cuts≠b.cuts:=eq_ne hq fV (by simpa using gE);rw [ag (λh=>this lj)]
   |true=>
    rw [gE] at pr
    (have tk:=za zcD <| zb Tryz.prog);repeat' (first|((first|(refine sa ?_;intro K hK)|refine sb ?_);simp only [go_sem,aeq,aeq.aeqF,simprocAttr,J,ab,ij,pr,Bool.not_true,results47])|refine zaC (λK hK=>?_)|refine sc ?_|refine za1 rfl (λhc=>?_) (λhc=>?_)|(refine hK _ ?_;clear hK K)|with_reducible refine And.intro ?_ ?_|(refine (show zb8 _ _=true from ?_);kernel_rfl)|omega|assumption|refine λ(hg:(_:Bool)=(_:Bool))=>?_|clear hK K)
    all_goals first|omega|skip
    exact ⟨⟨i+1,fT,zhV hq fV (by simpa using gE) hf⟩,lev,gh⟩
  have iB:=zkp ao y6 hf;refine' walkW J (za zcD <| zb _);refine zk (λq:Eqst a.spans b.spans=>⟨[(2,true,.vp 0 0),(3,true,.vp 1 0),(6,true,.d (.int .i64 q.1))],[(1,.var (tskS b)),(0,.var (tskS a))],some []⟩) (λq=>a.spans.length - q.1) ⟨0,ad _,rfl⟩ le1 (λq=>?_);refine' GO;rcases zw spnD a.spans j hj with ⟨⟨u,l⟩,jZ,qg,l7,km,vT,tL⟩|⟨rS,l7⟩
  .obtain ⟨⟨u',l'⟩,n5⟩:=zaD (l:=b.spans) (i:=j) fT;have oU:=zbB (g:=spnD) n5;have gF:=ha.rows _ (ay jZ);simp only [spnD] at km oU gF;have nQ:=zo (i:=j) fT;cases b3:(u !=u'|| !decide (l=l')) with
   |true=>
    refine' walkW (zB l7 km oU b3) (za zcD <| zb _);all_goals first|omega|skip
    have:a.spans≠b.spans:=eq_ne jZ n5 (by intro h;cases h;simp at b3);rw [ag (λh=>this lj)]
   |false=>
    refine' walkW (zB l7 km oU b3) (za zcD <| zb _);all_goals first|omega|skip
    simp only [bn,bK,ax,bJ] at b3;exact ⟨⟨j+1,fT,zhV jZ n5 (by rw [b3.1,b3.2]) hg⟩,lxb nQ,gh⟩
  .have mb:=zkp rS y7 hg;refine' walkW l7 (za zcD <| zb _);rw [af (zDl x1 x2 x3 x4 x5 iB mb)]
@[go_sem] def zb4:Ent Tryz.prog 47:= .m2 zii zii zvu
def SpR (l:List Spn):Prop:=∀s∈l,0<=s.ctx/\s.ctx<4294967296/\s.list.length<=65536
def zr8 {x:Img} {l1 a n:Int} :(zcy x l1 a n).1.length<=65536:=by
 unfold zcy;split
 .exact ad _
 .have h1:=zru (f:=elkF x.disk l1) (cutsL a n) [];have h2:=zc6 a n;simp only [aM] at h1;omega
def zvx {x:Img} {m:Txt} {a n:Int} :(zdD x m a n).1.length<=65536:=by
 unfold zdD;split
 .exact ad _
 split
 .exact ad _
 .rename_i m hm;have h1:=zru (f:=bitF m) (cutsL a n) [];have h2:=zc6 a n;simp only [aM] at h1;omega
def zBk {x:Img} {q:Rq} {k:Int} :(tctx x q k).1.length<=65536:=by
 have h0:(tctx0 x q k).1.length<=65536:=by
  unfold tctx0;split
  .split
   .exact ad _
   .exact zr8
  .split
   .exact ad _
   .exact zvx
 rw [tctx,tcut1];split
 .rw [az];omega
 .exact h0
def zml {x:Img} {q:Rq} :∀ (ms:List Int) (l:List Spn),(∀m∈ms,0<=m/\m<4294967296)->SpR l->SpR (tctxL x q ms l).1
 | [],l,_,h=>h
 | k::r,l,hm,h=>by
  rw [tctxL];split
  .intro s J;cases J
  .refine zml r _ (λm nk=>hm m (cY _ nk)) (λs J=>?_);rcases aS.1 J with J|J
   .exact h s J
   .rw [bp] at J;subst J;have:=hm k cW;exact ⟨this.1,this.2,zBk⟩
def SpR.nil:SpR []:=λs J=>by cases J
def zmm {x:Img} {t:Tsk} {ms:List Int} (hm:∀m∈ms,0<=m/\m<4294967296) (h:SpR t.spans):SpR (tstep x t ms).2.spans:=by
 unfold tstep;split
 .exact h
 split
 .simp only;split
  .exact SpR.nil
  .exact h
 .simp only;split
  .exact SpR.nil
  .simp only [tlast];split
   .exact zml _ _ hm SpR.nil
   split
   .exact SpR.nil
   .exact SpR.nil
def Tiv.ts {q:Rq} {x:Img} {t:Tsk} {ms:List Int} (h:Tiv q t) (hf:RqF x q ms) (J:SpR t.spans):TsOk t/\TmOk t:=by have h1:=h.ok hf;have h2:=h.err;have h3:=h.spans;exact ⟨⟨h1.ok,fT,fT,h1.data,fT,λs ga=>by have:=J s ga;exact ⟨this.1,this.2.1,fT⟩⟩,⟨h1.len,fT,λs ga=>by have:=J s ga;omega⟩⟩
deriving instance DecidableEq for Cn,Srv
structure SmOk (c:Cn):Prop where
 ms:c.n.metas.length<=1000000
 tl:c.tasks.length<=1000000
 tm:∀t∈c.tasks,TmOk t
def CnOk.sm {L:Nat} {x:Img} {c:Cn} (h:CnOk L x c):SmOk c:=⟨by have:=h.ms.1;omega,by have:=h.tasks;omega,λt J=>by obtain ⟨h1,h2,h3⟩:=h.tsk t J;exact (h2.ts h3 (by rw [(h2.fresh h1).1];exact SpR.nil)).2⟩
def zEm {c d:Cn} (h1:c.n=d.n) (h2:c.out=d.out) (J:c.gone=d.gone) (h4:c.tasks=d.tasks):c=d:=by obtain ⟨_,_,_,_⟩:=c;obtain ⟨_,_,_,_⟩:=d;simp only at h1 h2 J h4;subst h1 h2 J h4;rfl
def zDn {a b:Srv} (h1:a.x=b.x) (h2:a.conns=b.conns):a=b:=by obtain ⟨_,_⟩:=a;obtain ⟨_,_⟩:=b;simp only at h1 h2;subst h1 h2;rfl
def zvN (a b:Srv) (s9:ImgOk a.x) (Cq:ImgOk b.x) (oA:a.conns.length<=1000) (oB:b.conns.length<=1000) (r8:∀c∈a.conns,SmOk c) (ma:∀c∈b.conns,SmOk c):ACall Tryz.prog 15 0 [srvA a,srvA b] [] (λr _=>r= .d (.bool (decide (a=b)))):=by
 obtain ⟨V,hV⟩:∃V,V=decide (a=b):=⟨_,rfl⟩
 rw [<-hV];refine fbod func15 ntmps15 (λbase=>?_);cases hX:(!decide (a.x=b.x)||(a.conns.length:Int) !=(b.conns.length:Int)) with
 |true=>
  refine' walkW hX (za zaq <| za zb5 <| za zb4 <| zb _);rw [hV,ag (λh=>by subst h;simp at hX)]
 | false=>
  have qM:=hX;simp only [bn,bK,ax,bJ] at qM;obtain ⟨x1,x2⟩:=qM;have y2:a.conns.length=b.conns.length:=fT;refine' walkW hX (za zaq <| za zb5 <| za zb4 <| zb _);refine zk (λq:Eqst a.conns b.conns=>⟨[(2,true,.vp 0 0),(3,true,.vp 1 0),(5,true,.d (.int .i64 q.1))],[(1,.var (imgC b.x++ [.d (.sl 8 (b.conns.map cnD))])),(0,.var (imgC a.x++ [.d (.sl 8 (a.conns.map cnD))]))],some []⟩) (λq=>a.conns.length - q.1) ⟨0,ad _,rfl⟩ vR (λq=>?_);refine' Di;unfold imgC;rcases zw cnD a.conns i hi with ⟨c,hq,b3,J,ab,b4,a7⟩|⟨ao,J⟩
  .obtain ⟨d,fV⟩:=zaD (l:=b.conns) (i:=i) fT;have ij:=zbB (g:=cnD) fV;simp only [cnD] at ab ij;refine' CO;obtain ⟨Cr,Cs,yN⟩:=r8 c (ay hq);obtain ⟨Ct,Cu,yO⟩:=ma d (ay fV);have b5:c≠d->V=false:=λe=>by rw [hV,ag (λh=>eq_ne hq fV e lj)]
   cases hC:(!decide (c.n=d.n)||c.out !=d.out||c.gone !=d.gone||(c.tasks.length:Int) !=(d.tasks.length:Int)) with
   |true=>
    refine' walkW (zB J ab ij hC) (za zaq <| za zb5 <| za zb4 <| zb _);all_goals first|omega|skip
    rw [b5 (λh=>by subst h;simp at hC)]
   | false=>
    have qN:=hC;simp only [bn,bK,ax,bJ] at qN;obtain ⟨⟨⟨z1,z2⟩,z3⟩,z4⟩:=qN;have z5:c.tasks.length=d.tasks.length:=fT;refine' walkW (zB J ab ij hC) (za zaq <| za zb5 <| za zb4 <| zb _);all_goals first|omega|skip
    refine zk (λq:Eqst c.tasks d.tasks=>⟨[(2,true,.vp 0 0),(3,true,.vp 1 0),(5,true,.d (.int .i64 i)),(6,true,.vp 2 0),(7,true,.vp 3 0),(8,true,.d (.int .i64 q.1))],[(3,.var (rowD d)),(2,.var (rowD c)),(1,.var (imgC b.x++ [.d (.sl 8 (b.conns.map cnD))])),(0,.var (imgC a.x++ [.d (.sl 8 (a.conns.map cnD))]))],some []⟩) (λq=>c.tasks.length - q.1) ⟨0,ad _,rfl⟩ (by unfold imgC rowD rowC;exact lxa) (λq=>?_);refine' GO;unfold imgC rowD rowC;rcases zw tskD c.tasks j hj with ⟨u,jZ,qg,l7,km,vT,tL⟩|⟨rS,l7⟩
    .obtain ⟨w,n5⟩:=zaD (l:=d.tasks) (i:=j) fT;have oU:=zbB (g:=tskD) n5;simp only [tskD] at km oU;have nQ:=zo (i:=j) fT;have hu:=yN u (ay jZ);have hw:=yO w (ay n5);cases sd:decide (u=w) with
     |false=>
      refine' walkW (zB l7 km oU sd) (za zaq <| za zb5 <| za zb4 <| zb _);all_goals first|omega|skip
      rw [b5 (λh=>eq_ne jZ n5 (by simpa using sd) lj)]
     |true=>
      refine' walkW (zB l7 km oU sd) (za zaq <| za zb5 <| za zb4 <| zb _);all_goals first|omega|skip
      exact ⟨⟨j+1,fT,zhV jZ n5 (by simpa using sd) hg⟩,lxb nQ,gh⟩
    .have sU:=zkp rS z5 hg;refine' walkW l7 (za zaq <| za zb5 <| za zb4 <| zb _);exact ⟨⟨i+1,fT,zhV hq fV (zEm z1 z2 z3 sU) hf⟩,lev,gh⟩
  .have iB:=zkp ao y2 hf;refine' walkW J (za zaq <| za zb5 <| za zb4 <| zb _);rw [hV,af (zDn x1 iB)]
end
end Go.Aw
