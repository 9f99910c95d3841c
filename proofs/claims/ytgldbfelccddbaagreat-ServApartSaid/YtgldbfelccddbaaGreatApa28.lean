/- Lemmas. -/
import Derived.Test.YtgldbfelccddbaaGreatApa27
set_option linter.all false
set_option maxRecDepth 100000
set_option maxHeartbeats 2000000
namespace Go.Aw
noncomputable section
open Go Go.Proofs Go.Proofs.Tryz
def zpl (err:Int) (cookie:Int) (data:Txt) (h0:0<=err) (h1:err<4294967296) (gk:0<=cookie) (gx:cookie<18446744073709551616) (hd:data.length<=9223372036854775807):ACall Tryz.prog 126 0 [.agg [.d (.int .u32 err),.d (.int .u64 cookie),.d (.str data)]] [] (λr _=>r= .tup [.d (.str (zcW err cookie data).1),.d (.int .i64 (zcW err cookie data).2)]):=by
 refine fbod func126 ntmps126 (λbase=>?_);have hw:IntKind.u64.wrap err=err:=zA fT fT;have iA:=zu err.toNat 4;have kC:=zu cookie.toNat 8;have oQ:(data== [])=decide (data= []):=by cases data<;>simp
 by_cases hr:4096<(data.length:Int)\/err≠0/\data≠ []
 .have J:(decide (4096<(data.length:Int))||(err !=0&&data != []))=true:=by simp only [aH,aq,ax,bD];exact hr
  refine' walkW J (za zH <| zb _);all_goals first|(simp_all;done)|skip
  rw [zcW,aa hr]
 .have J:(decide (4096<(data.length:Int))||(err !=0&&data != []))=false:=by rw [<-cb];simp only [aH,aq,ax,bD];exact hr
  refine' walkW (zr J hw @zgv @zgw @List.length_append.{0} (zg iA kC)) (za zH <| zb _);all_goals first|omega|(simp_all;done)|skip
  rw [zcW,U hr];rfl
@[go_sem] def zaT:Ent Tryz.prog 126:= .ofL (consL (aggT (consL (intT .u32) (consL (intT .u64) (consL strT nilL))) (λp=>p) (λp=>p) (λ_=>rfl)) nilL) (λ((err,cookie,data,_),_)=>(0<=err)/\(err<4294967296)/\(0<=cookie)/\(cookie<18446744073709551616)/\(data.length<=9223372036854775807)) (λ((err,cookie,data,_),_)=> .tup [.d (.str (zcW err cookie data).1),.d (.int .i64 (zcW err cookie data).2)]) (λ((err,cookie,data,_),_) hp=>⟨rfl,zpl err cookie data hp.1 hp.2.1 hp.2.2.1 hp.2.2.2.1 hp.2.2.2.2⟩)
def zrt (dn:Bool) (kind:Int) (cookie:Int) (data:Txt) (gk:0<=cookie) (gx:cookie<18446744073709551616) (hd:data.length<=9223372036854775807):ACall Tryz.prog 201 0 [.agg [.d (.bool dn),.d (.int .i64 kind),.d (.int .u64 cookie),.d (.str data)]] [] (λr _=>r= .tup [.d (.str (zbx dn kind cookie data).1),.d (.int .i64 (zbx dn kind cookie data).2)]):=by
 refine fbod func201 ntmps201 (λbase=>?_);have js:=λn=>zu n 2;have iA:=zu data.length 4;have kC:=zu cookie.toNat 8;by_cases hr:kind<0\/65535<kind
 .have J:(decide (kind<0)||decide (65535<kind))=true:=by simpa using hr
  refine' walkW J (za zH <| zb _);rw [zbx,aa hr]
 .have J:(decide (kind<0)||decide (65535<kind))=false:=by simpa using hr
  have ab:IntKind.u64.wrap kind=kind:=zA fT fT;have a6:IntKind.u64.wrap (data.length:Int)=data.length:=zA fT fT;cases hs:decide (4128<(data.length:Int)) with
  |true=>
   refine' walkW (zg J hs) (za zH <| zb _);rw [zbx,U hr,aa oR]
  | false=>
   have eg:¬4128<(data.length:Int):=oR;cases dn with
   |true=>
    refine' G5;all_goals first|omega|skip
    all_goals (rw [zbx,U hr,U eg];rfl)
   |false=>
    refine' G5;all_goals first|omega|skip
    all_goals (rw [zbx,U hr,U eg];rfl)
@[go_sem] def znp:Ent Tryz.prog 201:= .ofL (consL (aggT (consL boolT (consL (intT .i64) (consL (intT .u64) (consL strT nilL)))) (λp=>p) (λp=>p) (λ_=>rfl)) nilL) (λ((dn,kind,cookie,data,_),_)=>(0<=cookie)/\(cookie<18446744073709551616)/\(data.length<=9223372036854775807)) (λ((dn,kind,cookie,data,_),_)=> .tup [.d (.str (zbx dn kind cookie data).1),.d (.int .i64 (zbx dn kind cookie data).2)]) (λ((dn,kind,cookie,data,_),_) hp=>⟨rfl,zrt dn kind cookie data hp.1 hp.2.1 hp.2.2⟩)
def zuW (frm:Int) (s:Txt) (hp:0<=frm/\frm<18446744073709551616/\s.length<=1000000):AC 128 [.d (.int .u64 frm),.d (.str s)] (.d (.str (rdata frm s))):=by obtain ⟨h0,h1,J⟩:=hp;refine fbod func128 ntmps128 (λbase=>?_);have kC:=zu frm.toNat 8;refine' walkW (zp @zgw @List.length_append.{0} kC) (za zH <| zb _);all_goals first|omega|rfl
@[go_sem] def zcA:Ent Tryz.prog 128:= .m2 (intT .u64) strT zuW
def zuX (e:Int) (hp:0<=e/\e<4294967296):AC 195 [.d (.int .u32 e)] (.d (.str (rfail e))):=by refine' EP;refine fbod func195 ntmps195 (λbase=>?_);have hw:IntKind.u64.wrap e=e:=zA fT fT;have iA:=zu e.toNat 4;refine' walkW (zp hw @zgv iA) (za zH <| zb _);all_goals first|omega|rfl
@[go_sem] def zgW:Ent Tryz.prog 195:= .m1 (intT .u32) zuX
def zpm (e:Ext):(decide (e.len<1)||decide (4294967295<e.len)||decide (e.flags<0)||decide (4294967295<e.flags))= !extOk e:=by rw [bV,bI,<-cb,extOk];simp only [aH,aq,ax];omega
def zpn (ctx:Int) (l:List Ext) (hp:0<=ctx/\ctx<4294967296/\l.length<=9223372036854775807):AC 129 [.d (.int .u32 ctx),.d (.sl 2 (l.map extD))] (.tup [.d (.str (zdg ctx l).1),.d (.int .i64 (zdg ctx l).2)]):=by
 obtain ⟨h0,h1,hl⟩:=hp;refine fbod func129 ntmps129 (λbase=>?_);obtain ⟨Z,hZ⟩:∃Z,Z=zdg ctx l:=⟨_,rfl⟩
 rw [<-hZ];rw [zdg] at hZ;have hw:IntKind.u64.wrap ctx=ctx:=zA fT fT;have iA:=λn=>zu n 4;by_cases hr:l.length=0\/500<l.length
 .rw [aa hr] at hZ
  have an:((l.length:Int)==0||decide (500<(l.length:Int)))=true:=by simp only [aH,aF,ax];omega
  refine' walkW an (za zH <| zb _);rw [hZ]
 .rw [U hr] at hZ
  have an:((l.length:Int)==0||decide (500<(l.length:Int)))=false:=by rw [<-cb];simp only [aH,aF,ax];omega
  refine' walkW (zp an hw @zgv) (za zH <| zb _);refine zk (λq: { q:Nat×Txt // q.1<=l.length/\q.2.length=4+8*q.1/\Z=rrows (l.drop q.1) q.2 } =>⟨[(1,true,.d (.sl 2 (l.map extD))),(6,true,.d (.str q.1.2)),(7,true,.d (.int .i64 q.1.1))],[],some []⟩) (λq=>l.length - q.1.1) ⟨(0,putN ctx.toNat 4),ad _,zu _ _,hZ⟩ le1 (λq=>?_);refine' Ey;rcases zw extD l i hi with ⟨e,hq,b3,J,aZ,b4,a7⟩|⟨ao,J⟩
  .simp only [extD] at aZ;refine' CO;have hn:=zpm e;rw [b4,rrows] at hf;cases he:extOk e with
   |false=>
    rw [he] at hf hn;rw [U gb] at hf;refine' walkW (zp J aZ hn) (za zH <| zb _);rw [hf]
   |true=>
    refine' IS;have ab:IntKind.u64.wrap e.len=e.len:=zA fT fT;have a6:IntKind.u64.wrap e.flags=e.flags:=zA fT fT;refine' walkW (zr J aZ hn ab a6 (zp @zgv @List.length_append.{0} iA)) (za zH <| zb _);all_goals first|omega|skip
    exact ⟨⟨(i+1,s++putN e.len.toNat 4++putN e.flags.toNat 4),fT,by simp only [ae,iA];omega,hf⟩,lev,gh⟩
  .refine' walkW J (za zH <| zb _);rw [hf,ao,aP];rfl
@[go_sem] def zbP:Ent Tryz.prog 129:= .m2 (intT .u32) (slT 2 extD zeG) zpn
def zaE {P:Program} {f:FuncId} {fl:Nat} {args:List AV} {r:AV} {h:AHeap} (hc:ACall P f 0 args [] (λr' _=>r'=r)) (J:args.map (frz 9 h)=args:=by rfl) (gL:AV.idsL args= []:=by first|rfl|simp [AV.idsL,AV.ids,AV.idsR]) (rU:r.ids= []:=by rfl):ACallAt P fl f args h (λr' h'=>r'=r/\h'=h):=ACall.data (n:=9) (by rw [J];exact hc) gL rU
inductive Anyv where
 |u16 (n:Int)
 |u32 (n:Int)
 |u64 (n:Int)
 |str (s:Txt)
def anvR:Anyv->List AV
 | .u16 n=> [.iface 325 (.d (.int .u16 n))]
 | .u32 n=> [.iface 67 (.d (.int .u32 n))]
 | .u64 n=> [.iface 22 (.d (.int .u64 n))]
 | .str s=> [.iface 9 (.d (.str s))]
def anvB:Anyv->Txt
 | .u16 n=>putN n.toNat 2
 | .u32 n=>putN n.toNat 4
 | .u64 n=>putN n.toNat 8
 | .str s=>s
def anvOk:Anyv->Prop
 | .u16 n=>0<=n/\n<65536
 | .u32 n=>0<=n/\n<4294967296
 | .u64 n=>0<=n/\n<18446744073709551616
 | .str s=>s.length<=2000000
def anvsB (l:List Anyv):Txt:=l.flatMap anvB
@[simp, go_sem] def zEa:anvsB []= []:=rfl
@[go_sem] def zAP:∀l:List Anyv,AV.idsR (l.map anvR)= []
 | []=>rfl
 |v::l=>by rw [au,AV.idsR,zAP l];cases v<;>rfl
def zu1 (l:List Anyv) (v:Anyv):anvsB (l++ [v])=anvsB l++anvB v:=by simp [anvsB]
def zps:∀ {l:List Anyv},(∀v∈l,anvOk v)->(anvsB l).length<=2000000*l.length
 | [],_=>ad _
 | v::l,h=>by
  have h1:=zps (l:=l) (λy J=>h y (cY _ J));have h2:=h v cW
  have h3:(anvB v).length<=2000000:=by cases v<;>simp only [anvB,zu,anvOk] at h2 ⊢ <;>omega
  simp only [anvsB,eV,ae,aC] at h1 |-;omega
def zgi (l:List Anyv) (h:∀v∈l,anvOk v) (hl:l.length<=10):ACall Tryz.prog 186 0 [.asl 1 (l.map anvR)] [] (λr _=>r= .d (.str (anvsB l))):=by
 refine fbod func186 ntmps186 (λbase=>?_);have qC:(l.map anvR).length=l.length:=al _;refine' walkW qC (za zaJ <| zb _);refine zfG 0 1 rfl rfl ?_;refine' Cl;refine zk (λq: { i:Nat // i<=l.length } =>⟨[(3,true,.tp 0 0),(10,true,.asl 1 (l.map anvR)),(11,true,.d (.int .i64 l.length)),(12,true,.d (.int .i64 q.1))],[(1,.buf 5 (anvsB (l.take q.1))),(0,.tvar 180 [if q.1=0 then .d .nilp else .tp 0 0,.bsl 1 (anvsB (l.take q.1)).length])],some []⟩) (λq=>l.length - q.1) ⟨0,ad _⟩ (by simp only [AS.le,leT,leH,ze,AsgK,AV.le,AV.leL,AObj.le,inH,idsT,idsH,AV.ids,AV.idsL,AV.idsR,AObj.ids,lk,hget,go_sem,aeq,aeq.aeqF,simprocAttr,av,di]<;>and_intros<;>rfl) (λq=>?_);refine' Dl;obtain ⟨b,hb⟩:∃b,b=anvsB (l.take i):=⟨_,rfl⟩
 have c8:b.length<=20000000:=by have:=zps (l:=l.take i) (λv hv=>h v (List.mem_of_mem_take hv));rw [az] at this;rw [hb];omega
 rw [<-hb];rcases aO i l.length with aZ|gU
 .obtain ⟨v,hv⟩:=zaD aZ;have J:=zbB (g:=anvR) hv;have ab:decide ((i:Int)<(l.length:Int))=true:=af fT;refine' CO;have rV:=h v (ay hv);have e8:anvsB (l.take (i+1))=b++anvB v:=by rw [zcT hv,zu1,hb]
  have j9:(if i+1=0 then AV.d .nilp else AV.tp 0 0)= .tp 0 0:=U fT
  have kn:∀t:Txt,t=anvB v->∃q': { i:Nat // i<=l.length },q'.1=i+1/\anvsB (l.take q'.1)=b++t:=by rintro t rfl;exact ⟨⟨i+1,fT⟩,rfl,e8⟩
  cases v with
  |u16 n=>
   refine' Ic;refine' GD;have sW:=zu n.toNat 2;refine' walkW (zr ab J natC qC hw @zjo) (za zaJ <| zb _);all_goals first|omega|skip
   refine' Dq;refine' Cp;refine' Ds;exact ⟨⟨i+1,fT⟩,(by simp only [AS.le,leT,leH,ze,AsgK,AV.le,AV.leL,AObj.le,inH,idsT,idsH,AV.ids,AV.idsL,AV.idsR,AObj.ids,lk,hget,go_sem,aeq,aeq.aeqF,simprocAttr,hwi,e8,j9,ae]<;>and_intros<;>rfl),gh⟩
  |u32 n=>
   refine' Ic;refine' GD;have sW:=zu n.toNat 4;refine' walkW (zr ab J natC qC hw @zgv) (za zaJ <| zb _);all_goals first|omega|skip
   refine' Dq;refine' Cp;refine' Ds;exact ⟨⟨i+1,fT⟩,(by simp only [AS.le,leT,leH,ze,AsgK,AV.le,AV.leL,AObj.le,inH,idsT,idsH,AV.ids,AV.idsL,AV.idsR,AObj.ids,lk,hget,go_sem,aeq,aeq.aeqF,simprocAttr,hwi,e8,j9,ae]<;>and_intros<;>rfl),gh⟩
  |u64 n=>
   refine' Ic;have sW:=zu n.toNat 8;refine' walkW (zat ab J natC qC @zgw) (za zaJ <| zb _);all_goals first|omega|skip
   refine' Dq;refine' Cp;refine' Ds;exact ⟨⟨i+1,fT⟩,(by simp only [AS.le,leT,leH,ze,AsgK,AV.le,AV.leL,AObj.le,inH,idsT,idsH,AV.ids,AV.idsL,AV.idsR,AObj.ids,lk,hget,go_sem,aeq,aeq.aeqF,simprocAttr,hwi,e8,j9,ae]<;>and_intros<;>rfl),gh⟩
  |str s=>
   refine' Ic;refine' walkW (zB ab J natC qC) (za zaJ <| zb _);all_goals first|omega|skip
   refine' Dq;refine' Cp;refine' Ds;exact ⟨⟨i+1,fT⟩,(by simp only [AS.le,leT,leH,ze,AsgK,AV.le,AV.leL,AObj.le,inH,idsT,idsH,AV.ids,AV.idsL,AV.idsR,AObj.ids,lk,hget,go_sem,aeq,aeq.aeqF,simprocAttr,hwi,e8,j9,ae]<;>and_intros<;>rfl),gh⟩
 .have ab:decide ((i:Int)<(l.length:Int))=false:=ag fT;have yg:b=anvsB l:=by rw [hb,aA gU]
  refine' walkW ab (za zaJ <| zb _);refine (zfF (i:=0) (j:=1) (o:=0) (T:=180) (cs:= [if i=0 then .d .nilp else .tp 0 0,.bsl 1 b.length]) (xs:=b) rfl rfl rfl rfl fT).mono ?_;refine' Cp;refine' Gq;refine' Ds;rw [yg]
def zu2 (err:Int) (cookie:Int) (data:Txt) (h0:0<=err) (h1:err<4294967296) (gk:0<=cookie) (gx:cookie<18446744073709551616) (hd:data.length<=9223372036854775807):ACall Tryz.prog 109 0 [.agg [.d (.int .u32 err),.d (.int .u64 cookie),.d (.str data)]] [] (λr _=>r= .tup [.d (.str (zcW err cookie data).1),.d (.int .i64 (zcW err cookie data).2)]):=by
 refine fbod func109 ntmps109 (λbase=>?_);by_cases hr:4096<(data.length:Int)\/err≠0/\data≠ []
 .have J:(decide (4096<(data.length:Int))||(data != []&&err !=0))=true:=by simp only [aH,aq,ax,bD];rw [And.comm];exact hr
  refine' zc J;all_goals first|(simp_all;done)|skip
  rw [zcW,aa hr]
 .have J:(decide (4096<(data.length:Int))||(data != []&&err !=0))=false:=by rw [<-cb];simp only [aH,aq,ax,bD];rw [And.comm];exact hr
  refine' zc J;all_goals first|(simp_all;done)|skip
  refine (zaE (zgi [.str ztg,.u32 err,.u64 cookie,.str data] (by simp [anvOk,ztg];omega) fZ)).mono ?_;refine' Cp;refine' Cl;refine' Ds;rw [zcW,U hr];simp [anvsB,anvB]
@[go_sem] def zbs:Ent Tryz.prog 109:= .ofL (consL (aggT (consL (intT .u32) (consL (intT .u64) (consL strT nilL))) (λp=>p) (λp=>p) (λ_=>rfl)) nilL) (λ((err,cookie,data,_),_)=>(0<=err)/\(err<4294967296)/\(0<=cookie)/\(cookie<18446744073709551616)/\(data.length<=9223372036854775807)) (λ((err,cookie,data,_),_)=> .tup [.d (.str (zcW err cookie data).1),.d (.int .i64 (zcW err cookie data).2)]) (λ((err,cookie,data,_),_) hp=>⟨rfl,zu2 err cookie data hp.1 hp.2.1 hp.2.2.1 hp.2.2.2.1 hp.2.2.2.2⟩)
def zxY (dn:Bool) (kind:Int) (cookie:Int) (data:Txt) (gk:0<=cookie) (gx:cookie<18446744073709551616) (hd:data.length<=9223372036854775807):ACall Tryz.prog 187 0 [.agg [.d (.bool dn),.d (.int .i64 kind),.d (.int .u64 cookie),.d (.str data)]] [] (λr _=>r= .tup [.d (.str (zbx dn kind cookie data).1),.d (.int .i64 (zbx dn kind cookie data).2)]):=by
 refine fbod func187 ntmps187 (λbase=>?_);by_cases hr:kind<0\/65535<kind
 .have J:(decide (kind<0)||decide (65536<=kind))=true:=by simp only [aH,ax];omega
  refine' zc J;rw [zbx,aa hr]
 .have J:(decide (kind<0)||decide (65536<=kind))=false:=by rw [<-cb];simp only [aH,ax];omega
  have ab:IntKind.u16.wrap kind=kind:=by rw [IntKind.wrap_u16];omega
  cases hs:decide (4128<(data.length:Int)) with
  |true=>
   refine' zc (zg J hs);rw [zbx,U hr,aa oR]
  | false=>
   have eg:¬4128<(data.length:Int):=oR;have a6:IntKind.u32.wrap (data.length:Int)=data.length:=zbT fT fT;cases dn with
   |true=>
    refine' zc (zB J hs ab a6);refine (zaE (zgi [.str zgg,.u16 1,.u16 kind,.u64 cookie,.u32 data.length,.str data] (by simp [anvOk,zgg];omega) fZ)).mono ?_;refine' Cp;refine' Cl;refine' Ds;rw [zbx,U hr,U eg];simp [anvsB,anvB]
   |false=>
    refine' zc (zB J hs ab a6);refine (zaE (zgi [.str zgg,.u16 0,.u16 kind,.u64 cookie,.u32 data.length,.str data] (by simp [anvOk,zgg];omega) fZ)).mono ?_;refine' Cp;refine' Cl;refine' Ds;rw [zbx,U hr,U eg];simp [anvsB,anvB]
@[go_sem] def zry:Ent Tryz.prog 187:= .ofL (consL (aggT (consL boolT (consL (intT .i64) (consL (intT .u64) (consL strT nilL)))) (λp=>p) (λp=>p) (λ_=>rfl)) nilL) (λ((dn,kind,cookie,data,_),_)=>(0<=cookie)/\(cookie<18446744073709551616)/\(data.length<=9223372036854775807)) (λ((dn,kind,cookie,data,_),_)=> .tup [.d (.str (zbx dn kind cookie data).1),.d (.int .i64 (zbx dn kind cookie data).2)]) (λ((dn,kind,cookie,data,_),_) hp=>⟨rfl,zxY dn kind cookie data hp.1 hp.2.1 hp.2.2⟩)
def zAQ (frm:Int) (s:Txt) (hp:0<=frm/\frm<18446744073709551616/\s.length<=1000000):AC 111 [.d (.int .u64 frm),.d (.str s)] (.d (.str (rdata frm s))):=by obtain ⟨h0,h1,J⟩:=hp;refine fbod func111 ntmps111 (λbase=>?_);refine' Ds;refine (zaE (zgi [.u64 frm,.str s] rF fZ)).mono ?_;refine' Cp;refine' Cl;refine' Ds;simp [anvsB,anvB,rdata]
@[go_sem] def zck:Ent Tryz.prog 111:= .m2 (intT .u64) strT zAQ
def zAR (e:Int) (hp:0<=e/\e<4294967296):AC 148 [.d (.int .u32 e)] (.d (.str (rfail e))):=by refine' EP;refine fbod func148 ntmps148 (λbase=>?_);refine' Ds;refine (zaE (zgi [.u32 e,.u16 0] rF fZ)).mono ?_;refine' Cp;refine' Cl;refine' Ds;simp [anvsB,anvB,rfail];rfl
@[go_sem] def ziZ:Ent Tryz.prog 148:= .m1 (intT .u32) zAR
def zu3 (ctx:Int) (l:List Ext) (hp:0<=ctx/\ctx<4294967296/\l.length<=9223372036854775807):AC 112 [.d (.int .u32 ctx),.d (.sl 2 (l.map extD))] (.tup [.d (.str (zdg ctx l).1),.d (.int .i64 (zdg ctx l).2)]):=by
 obtain ⟨h0,h1,hl⟩:=hp;refine fbod func112 ntmps112 (λbase=>?_);obtain ⟨Z,hZ⟩:∃Z,Z=zdg ctx l:=⟨_,rfl⟩
 rw [<-hZ];rw [zdg] at hZ;have iA:=λn=>zu n 4;by_cases hr:l.length=0\/500<l.length
 .rw [aa hr] at hZ
  have an:((l.length:Int)==0||decide (500<(l.length:Int)))=true:=by simp only [aH,aF,ax];omega
  refine' zc an;rw [hZ]
 .rw [U hr] at hZ
  have an:((l.length:Int)==0||decide (500<(l.length:Int)))=false:=by rw [<-cb];simp only [aH,aF,ax];omega
  refine' zc an;refine (zaE (zgi [.u32 ctx] rF fZ)).mono ?_;refine' Cp;refine' Cl;refine' Ds;have ji:anvsB [.u32 ctx]=putN ctx.toNat 4:=by simp [anvsB,anvB]
  refine zk (λq: { q:Nat×Txt // q.1<=l.length/\q.2.length=4+8*q.1/\Z=rrows (l.drop q.1) q.2 } =>⟨[(6,true,.d (.str q.1.2)),(21,true,.d (.sl 2 (l.map extD))),(22,true,.d (.int .i64 l.length)),(23,true,.d (.int .i64 q.1.1))],[],some []⟩) (λq=>l.length - q.1.1) ⟨(0,putN ctx.toNat 4),ad _,zu _ _,hZ⟩ (lxb ji) (λq=>?_);refine' Ey;rcases zw extD l i hi with ⟨e,hq,b3,J,aZ,b4,a7⟩|⟨ao,J⟩
  .simp only [extD] at aZ;refine' CO;have hn:=zpm e;rw [b4,rrows] at hf;cases he:extOk e with
   |false=>
    rw [he] at hf hn;rw [U gb] at hf;refine' zc (zp J aZ hn);rw [hf]
   |true=>
    refine' IS;have ab:IntKind.u32.wrap e.len=e.len:=zbT fT fT;have a6:IntKind.u32.wrap e.flags=e.flags:=zbT fT fT;refine' zc (zat J aZ hn ab a6);refine (zaE (zgi [.u32 e.len,.u32 e.flags] rF fZ)).mono ?_;refine' Cp;have oA:=zu e.len.toNat 4;have oB:=zu e.flags.toNat 4;have gE:anvsB [.u32 e.len,.u32 e.flags]=putN e.len.toNat 4++putN e.flags.toNat 4:=by simp [anvsB,anvB]
    simp only [go_sem,aeq,aeq.aeqF,simprocAttr,gE];refine' zc (zp gE @List.length_append.{0} iA);all_goals first|omega|(refine (show s.length+(putN e.len.toNat 4++putN e.flags.toNat 4).length<9223372036854775808 from ?_);rw [ae];omega)|skip
    exact ⟨⟨(i+1,s++putN e.len.toNat 4++putN e.flags.toNat 4),fT,by simp only [ae,iA];omega,hf⟩,by simp only [aY];exact lxb hwi,gh⟩
  .refine' Hp
@[go_sem] def zcB:Ent Tryz.prog 112:= .m2 (intT .u32) (slT 2 extD zeG) zu3
end
end Go.Aw
