/- Lemmas. -/
import Derived.Test.YtgldbfelccddbaaGreatApa27
set_option linter.all false
set_option maxRecDepth 100000
set_option maxHeartbeats 2000000
namespace Go.Aw
noncomputable section
open Go Go.Proofs Go.Proofs.Tryz
structure TkOk (x:Img) (t:Tsk):Prop where
 ok:RqOk t.q
 img:ImgF x
 g0:0<=x.geom.guest
 maps:x.maps.length<=5000
 frm:t.q.frm<=1000000
 lo:0<=t.loc
 hi:t.loc<=65536
 len:t.cuts.length<=65536
 cut:∀c∈t.cuts,c.1*128+c.2.1<=1000000/\c.2.2<=128/\(t.q.kind=1->t.q.frm<=c.1*128+c.2.1/\(c.1*128+c.2.1+c.2.2:Int)<=t.q.frm+t.q.data.length)
 kind:t.cuts≠ []->t.q.kind=0\/t.q.kind=1\/t.q.kind=4\/t.q.kind=6
 data:t.data.length<=1000000
 spans:t.done=false->t.spans= []
def Tiv.ok {q:Rq} {x:Img} {t:Tsk} {ms:List Int} (h:Tiv q t) (J:RqF x q ms):TkOk x t:=by
 have hq:=h.rq;have hc:=h.cuts;have hl:=zA5 q;have jJ:=J.ok.f0;have lW:=J.ok.l0;have hg:=J.g1;have hr:=J.rng;have jl:=J.len;have wj:=h.lo;have qF:=h.hi;refine ⟨by rw [hq];exact J.ok,J.img,by have:=J.g0;omega,by have:=J.maps;omega,by rw [hq];omega,h.lo,?_,by rw [hc];exact hl,λc j5=>?_,λb5=>?_,?_,λhd=>(h.fresh hd).1⟩
 .rw [hc] at qF;omega
 .rw [hc] at j5;unfold tnew at j5;simp only at j5;split at j5
  .have:=zeh c j5;have h2:=zhn _ _ c j5;refine ⟨fT,h2,λhk=>?_⟩;rw [hq] at hk |-;have h3:=J.data hk;omega
  .cases j5
 .rw [hc] at b5;unfold tnew at b5;simp only at b5;split at b5
  .rename_i h1;have h2:=h1.1;unfold isPc at h2;simp only [aH,aF] at h2;rw [hq];omega
  .exact absurd rfl b5
 .have h1:=h.data;have h2:=zro t.cuts t.loc.toNat
  have h3:csz t.cuts<=q.len.toNat:=by
   rw [hc];unfold tnew;simp only;split
   .exact zpd
   .exact ad _
  omega
def znC (f k:Int):(ibits .and .i64 f k==0)= !hasF f k:=by unfold hasF;simp [bne]
def tpcK (x:Img) (t:Tsk) (c:Nat×Nat×Nat):Img×Tsk:=((tpc x t.q c).1,if (tpc x t.q c).2.2≠0 then tfail { t with loc:=t.loc+1 } (tpc x t.q c).2.2 else { t with loc:=t.loc+1,data:=t.data++(tpc x t.q c).2.1,done:=(t.loc+1==(t.cuts.length:Int))&& !hasF t.q.flags 1 })
def tpcG (x:Img) (t:Tsk):Img×Tsk:=tpcK x t (t.cuts.getD t.loc.toNat (0,0,0))
def zyq (x:Img) (t:Tsk) (ms:List Int):Img×Tsk:=((tlast x t.q ms).1,if (tlast x t.q ms).2.2≠0 then tfail t (tlast x t.q ms).2.2 else { t with spans:=(tlast x t.q ms).2.1,done:=true })
def ztD {x:Img} {t:Tsk} {ms:List Int} (J:t.done=false) (hl:t.loc.toNat<t.cuts.length):tstep x t ms=tpcG x t:=by unfold tstep;rw [J,U gb,tpcG,aN,bk hl];rfl
def zmb {x:Img} {t:Tsk} {ms:List Int} (J:t.done=false) (hl:t.cuts.length<=t.loc.toNat):tstep x t ms=zyq x t ms:=by unfold tstep;rw [J,U gb,cp hl];rfl
def zrI (x:Img) (t:Tsk) (hp:TkOk x t/\t.loc<t.cuts.length):AC 122 [imgA x,tskA t] (.tup [imgA (tpcG x t).1,tskA (tpcG x t).2]):=by
 obtain ⟨h,hl⟩:=hp;refine fbod func122 ntmps122 (λbase=>?_);obtain ⟨k,hk⟩:∃k:Nat,t.loc=k:=⟨t.loc.toNat,by have:=h.lo;omega⟩
 have qF:=h.hi;have jl:=h.len;have lb:=znC t.q.flags 1;have r4:=znC t.q.flags 2;have r5:=h.maps;have k5:=h.img;have oy:=h.g0;have jJ:=h.ok.f0;have qB:=h.ok.f1;have hds:=h.ok.d;obtain ⟨⟨c0,c1,c2⟩,hc⟩:=zaD (l:=t.cuts) (i:=k) fT;have an:=zbB (g:=cutD) hc;simp only [cutD] at an;obtain ⟨j4,jg,kk⟩:=h.cut _ (ay hc);simp only at j4 jg kk;obtain ⟨Z,J⟩:∃Z,Z=tpcG x t:=⟨_,rfl⟩
 rw [<-J];rw [tpcG,aN,show t.loc.toNat=k by omega,hc] at J;refine' HH;have ra:(t.loc+1:Int)=((k+1:Nat):Int):=fT;have gw:=h.data;have fW:IntKind.i64.wrap ((k:Int)+1)=((k+1:Nat):Int):=gP;have ab:IntKind.i64.wrap ((c0:Int)*128)=c0*128:=zf fT fT;have a6:IntKind.i64.wrap ((c0:Int)*128+c1)=c0*128+c1:=zf fT fT;rw [ra] at J;have gB:=zxJ (x:=x) (q:=t.q) (c:=(c0,c1,c2));rw [<-hP] at gB;simp only at gB;rcases h.kind (by intro e;rw [e] at hc;cases hc) with hq|hq|hq|hq
 .have e0:(t.q.kind==0)=true:=by simpa using hq
  refine' HB;rw [ld] at J gB;simp only at J gB;cases he:(R.2 !=0) with
  |true=>
   rw [aa gp] at J;refine' walkW (zr hk an e0 ab a6 (zB fW hR.symm he natC)) (za zb3 <| za zbJ <| za zb1 <| za z6 <| zb _);all_goals first|omega|(rw [J];done)|(rw [J];rfl)|skip
  |false=>
   rw [U gp] at J;refine' walkW (zr hk an e0 ab a6 (zat fW hR.symm he lb natC)) (za zb3 <| za zbJ <| za zb1 <| za z6 <| zb _);all_goals first|omega|(rw [J];done)|(rw [J];rfl)|skip
 .have e0:(t.q.kind==0)=false:=by simp [hq]
  have e1:(t.q.kind==1)=true:=by simp [hq]
  obtain ⟨h1,h2⟩:=kk hq;have wk:IntKind.i64.wrap t.q.frm=t.q.frm:=zf fT fT;have j1:IntKind.i64.wrap ((c0:Int)*128+c1 - t.q.frm)=c0*128+c1 - t.q.frm:=zf fT fT;have qD:IntKind.i64.wrap ((c0:Int)*128+c1 - t.q.frm+c2)=c0*128+c1 - t.q.frm+c2:=zf fT fT;refine' Ga;have jU:s.length<=9223372036854775807:=by rw [hs,ak,az];omega
  refine' G6;cases he:(R.2 !=0) with
  |true=>
   rw [aa gp] at J;refine' walkW (zr hk an e0 e1 ab (zr a6 fW wk j1 qD (zB hs.symm hR.symm he natC))) (za zb3 <| za zbJ <| za zb1 <| za z6 <| zb _);all_goals first|omega|(rw [J];done)|(rw [J];rfl)|skip
  |false=>
   rw [U gp] at J;refine' walkW (zr hk an e0 e1 ab (zr a6 fW wk j1 qD (zat hs.symm hR.symm he lb natC))) (za zb3 <| za zbJ <| za zb1 <| za z6 <| zb _);all_goals first|omega|(rw [J];done)|(rw [J];rfl)|skip
 all_goals
  have e0:(t.q.kind==0)=false:=by simp [hq]
  have e1:(t.q.kind==1)=false:=by simp [hq]
  obtain ⟨hole,hh⟩:∃hole,hole=(t.q.kind==4|| !hasF t.q.flags 2):=⟨_,rfl⟩
  obtain ⟨R,hR⟩:∃R,R=zco hole (c0,c1,c2) x:=⟨_,rfl⟩
  have ld:P=(R.1,[],R.2):=by rw [hP,tpc,U kW,U kW,<-hh,hR]
  rw [ld] at J;simp only [bm] at J;unfold zco at hR;simp only at hR;by_cases pM:c2=128
  .have e2:((c2:Int)==128)=true:=by simp;omega
   rw [aa pM] at hR;cases he:(R.2 !=0) with
   |true=>
    rw [aa gp] at J;refine' walkW (zr hk an e0 e1 ab (zr a6 fW r4 hh.symm e2 (zp hR.symm he natC))) (za zb3 <| za zbJ <| za zb1 <| za z6 <| zb _);all_goals first|omega|(rw [J];done)|(rw [J];rfl)|skip
   |false=>
    rw [U gp] at J;refine' walkW (zr hk an e0 e1 ab (zr a6 fW r4 hh.symm e2 (zB hR.symm he lb natC))) (za zb3 <| za zbJ <| za zb1 <| za z6 <| zb _);all_goals first|omega|(rw [J];done)|(rw [J];rfl)|skip
  .have e2:((c2:Int)==128)=false:=by simp;omega
   rw [U pM] at hR;cases he:(R.2 !=0) with
   |true=>
    rw [aa gp] at J;refine' walkW (zr hk an e0 e1 ab (zr a6 fW r4 hh.symm e2 (zr hR.symm he natC @zdQ @zgK (zat @zic @if_true.{1} @zao @za5 @List.length_replicate.{0})))) (za zb3 <| za zbJ <| za zb1 <| za z6 <| zb _);all_goals first|omega|(rw [J];done)|(rw [J];rfl)|skip
   |false=>
    rw [U gp] at J;refine' walkW (zr hk an e0 e1 ab (zr a6 fW r4 hh.symm e2 (zr hR.symm he lb natC @zdQ (zr @zgK @zic @if_true.{1} @zao @za5 @List.length_replicate.{0})))) (za zb3 <| za zbJ <| za zb1 <| za z6 <| zb _);all_goals first|omega|(rw [J];done)|(rw [J];rfl)|skip
@[go_sem] def zbo:Ent Tryz.prog 122:= .m2 za9 zii zrI
def zDj {m:Dmap} {Z:List Ext×Int} {c0 c1 c2:Nat} {r:List (Nat×Nat×Nat)} {o:List Ext} (h:Z=spL (bitF m) ((c0,c1,c2)::r) o):Z=spL (bitF m) r (o++ [⟨c2,if m.bits.getD c0 false then 1 else 0⟩]):=by rw [h,spL,U (show ¬(bitF m c0).2≠0 from λh=>h rfl)];rfl
def zr6 (x:Img) (name:Txt) (a n:Int) (hp:ImgF x∧0≤x.geom.guest∧x.maps.length≤5000):AC 200 [imgA x,.d (.str name),.d (.int .i64 a),.d (.int .i64 n)] (.tup [.d (.sl 2 ((zdD x name a n).1.map extD)),.d (.int .i64 (zdD x name a n).2)]):=by
 obtain ⟨h,h0,hm⟩:=hp
 refine fbod func200 ntmps200 (fun base=>?_)
 have hgu:=h.guest
 have hmb:=h.ok.bits
 obtain ⟨Z,hZ⟩:∃Z,Z=zdD x name a n:=⟨_,rfl⟩
 rw [← hZ]
 rw [zdD] at hZ
 by_cases hr:n<1∨inB x.geom.guest a n=false
 ·rw [aa hr] at hZ
  have hdec:(decide (n<1)|| !inB x.geom.guest a n)=true:=jX
  refine' walkW hdec (za zU <| za zaj <| za zaR <| zb _)
  rw [hZ]
  rfl
 rw [U hr] at hZ
 have hdec:(decide (n<1)|| !inB x.geom.guest a n)=false:=jX
 have hin:inB x.geom.guest a n=true:=by simp at hr;exact hr.2
 rw [inB_iff] at hin
 refine' EG
 have hll:l.length≤65536:=mF
 have hrg:∀q∈l,1≤q.2.2∧q.2.2≤128∧q.1<64:=by
  rw [hl]
  intro q hq
  have h1:=zeh q hq
  have h2:=zhn a n q hq
  omega
 rw [← hl] at hZ
 refine' walkW hdec (za zU <| za zaj <| za zaR <| zb _)
 refine zk (fun q: { i:Nat // i≤x.maps.length∧x.maps.find? (fun m=>m.name==name)=(x.maps.drop i).find? (fun m=>m.name==name) } =>⟨[(1,true,.d (.str name)),(2,true,.d (.int .i64 a)),(3,true,.d (.int .i64 n)),(4,true,.vp 0 0),(10,true,.d (.int .i64 q.1))],[(0,.var (imgV x))],some []⟩) (fun q=>x.maps.length - q.1) ⟨0,ad _,rfl⟩ le1 (fun q=>?_)
 refine' Di
 rcases zw dmapD x.maps i hi with ⟨m,hq,hlt,hcmp,hrow,hdr,htk⟩|⟨hend,hcmp⟩
 ·simp only [dmapD] at hrow
  refine' CO
  rw [hdr,dV] at hf
  cases hnm:(m.name==name) with
  |false=>
   have hnn:(m.name !=name)=true:=by simp [bne,hnm]
   rw [hnm] at hf
   refine' walkW (zp hcmp hrow hnn) (za zU <| za zaj <| za zaR <| zb _)
   exact ⟨⟨i+1,fT,hf⟩,lev,gh⟩
  | true=>
   have hnn:(m.name !=name)=false:=by simp [bne,hnm]
   rw [hnm] at hf
   rw [hf] at hZ
   simp only at hZ
   have hml:=hmb m (ay hq)
   refine' walkW (zB hcmp hrow hnn hl.symm) (za zU <| za zaj <| za zaR <| zb _)
   refine zaI 11 2 rfl ?_
   refine' Ev
   refine zk (fun q: { q:Nat×List Ext // q.1≤l.length∧q.2.length=q.1∧(∀y∈q.2,1≤y.len∧y.len≤128)∧Z=spL (bitF m) (l.drop q.1) q.2 } =>⟨[(4,true,.vp 0 0),(10,true,.d (.int .i64 i)),(11,true,.osl 1 2 q.1.2.length 0 q.1.2.length),(12,true,.d (.sl 3 (l.map cutD))),(13,true,.d (.int .i64 q.1.1))],[(1,.arr 2 (q.1.2.map extD)),(0,.var (imgV x))],some []⟩) (fun q=>l.length - q.1.1) ⟨(0,[]),ad _,rfl,fZ,hZ⟩ le1 (fun q=>?_)
   obtain ⟨⟨j,o⟩,hj,hol,ho,hf2⟩:=q
   simp only at hj hol ho hf2 ⊢
   rcases zw cutD l j hj with ⟨⟨c0,c1,c2⟩,hq2,hlt2,hcmp2,hrow2,hdr2,htk2⟩|⟨hend2,hcmp2⟩
   ·simp only [cutD] at hrow2
    have hwj:=zo (i:=j) fT
    have hcr:=hrg _ (ay hq2)
    rw [hdr2] at hf2
    have hf2:=zDj hf2
    simp only at hcr
    have hgo:∀v:Int,v=(if m.bits.getD c0 false then 1 else 0)→∃q': { q:Nat×List Ext // q.1≤l.length∧q.2.length=q.1∧(∀y∈q.2,1≤y.len∧y.len≤128)∧Z=spL (bitF m) (l.drop q.1) q.2 },q'.1=(j+1,o++ [⟨c2,v⟩]):=by
     rintro v rfl
     exact ⟨⟨(j+1,o++ [⟨c2,_⟩]),fT,by simp [hol],fun y hy=>by
      rcases aS.1 hy with hy|hy
      ·exact ho y hy
      ·rw [bp] at hy
       subst hy
       simp only
       omega,hf2⟩,rfl⟩
    have hbl:1≤(List.drop (c0*1) (List.map AV.d (List.map D.bool m.bits))).length:=gh
    have hbv:(List.drop (c0*1) (List.map AV.d (List.map D.bool m.bits))).getD 0 AV.any= .d (.bool (m.bits.getD c0 false)):=by
     rw [cF,aN,eX,bZ,cT,cJ,bk fT,aN,bk fT]
     rfl
    cases hbt:m.bits.getD c0 false with
    |true=>
     rw [hbt] at hgo hbv
     obtain ⟨q',hq'⟩:=hgo 1 rfl
     refine' H4
     all_goals first|omega|skip
     exact ⟨q',yx,by rw [hq'];simp;omega⟩
    |false=>
     rw [hbt] at hgo hbv
     obtain ⟨q',hq'⟩:=hgo 0 rfl
     refine' H4
     all_goals first|omega|skip
     exact ⟨q',yx,by rw [hq'];simp;omega⟩
   ·rw [hend2,aP,spL] at hf2
    refine' H8
    refine' walkW hcmp2 (za zU <| za zaj <| za zaR <| zb _)
    all_goals first|omega|exact ho|skip
    rw [hf2]
 ·rw [hend,aP,List.find?_nil] at hf
  rw [hf] at hZ
  simp only at hZ
  refine' walkW hcmp (za zU <| za zaj <| za zaR <| zb _)
  rw [hZ]
  rfl
@[go_sem] def zcN:Ent Tryz.prog 200:= .m4 za9 strT (intT .i64) (intT .i64) zr6
def zpQ {x:Img} {q:Rq} :tctx0 x q 1=if (zF x.disk p0).2≠0 then ([],(zF x.disk p0).2) else zcy x (zF x.disk p0).1.l1 q.frm q.len:=by rw [tctx0,aa rfl]
def zmi {x:Img} {q:Rq} {k:Int} (h1:k≠1) (h:k<2\/(x.maps.length:Int)+2<=k):tctx0 x q k=([],21):=by
 rw [tctx0,U h1]
 have:(if k<2 then none else x.maps[(k - 2).toNat]?)=none:=by
  split
  .rfl
  .exact cp fT
 rw [this]
def zmj {x:Img} {q:Rq} {k:Nat} {m:Dmap} (h:x.maps[k]?=some m):tctx0 x q ((k:Int)+2)=zdD x m.name q.frm q.len:=by
 rw [tctx0,U fT]
 have:(if (k:Int)+2<2 then none else x.maps[((k:Int)+2 - 2).toNat]?)=some m:=by rw [U fT,show ((k:Int)+2 - 2).toNat=k by omega];exact h
 rw [this]
def zit {q:Rq} {s:List Ext×Int} (h:(s.2==0&&(ibits .and .i64 q.flags 8 !=0))=true):tcut1 q s=(s.1.take 1,0):=by rw [aq,aF] at h;rw [tcut1,aa ⟨h.1,h.2⟩]
def zel {q:Rq} {s:List Ext×Int} (h:(s.2==0&&(ibits .and .i64 q.flags 8 !=0))=false):tcut1 q s=s:=by rw [<-cb,aq,aF] at h;rw [tcut1,U (λhh=>h ⟨hh.1,hh.2⟩)]
def znP (x:Img) (q:Rq) (k:Int) (hp:ImgF x/\0<=x.geom.guest/\x.maps.length<=5000/\RqOk q/\q.frm<=1000000/\0<=k/\k<4294967296):AC 125 [imgA x,rqA q,.d (.int .u32 k)] (.tup [.d (.sl 2 ((tctx x q k).1.map extD)),.d (.int .i64 (tctx x q k).2)]):=by
 obtain ⟨h,oy,hm,hq,hf,gk,gx⟩:=hp;refine fbod func125 ntmps125 (λbase=>?_);refine' FH;have l4:=h.guest;have lW:=hq.l0;have jv:=hq.l1;have jJ:=hq.f0;have j1:IntKind.i64.wrap q.frm=q.frm:=zf fT fT;have iu:IntKind.i64.wrap q.len=q.len:=zf fT fT;rw [tctx];by_cases h1:k=1
 .subst h1;rw [zpQ];obtain ⟨R,hR⟩:∃R,R=zF x.disk p0:=⟨_,rfl⟩
  rw [<-hR];cases he:(R.2 !=0) with
  |true=>
   have hn:(R.2==0)=false:=by simpa [bne] using he
   rw [aa gp,zel (by simp [hn])];refine' walkW (zg hR.symm he) (za zJ <| za zcl <| za zcN <| zb _)
  | false=>
   rw [U gp];have b5:=zl7 (x:=x) (l1:=R.1.l1) (a:=q.frm) (n:=q.len) l4;obtain ⟨S,hS⟩:∃S,S=zcy x R.1.l1 q.frm q.len:=⟨_,rfl⟩
   rw [<-hS] at b5 |-;cases hb:(S.2==0&&(ibits .and .i64 q.flags 8 !=0)) with
   | true=>
    rw [zit hb];have b3:=hb;rw [aq,aF] at b3
    have tT:1<=S.1.length:=by
     have:=b5 b3.1;cases oT:S.1 with
     |nil=>exact absurd oT this
     |cons a l=>simp
    have hz:=b3.1
    (have tk:=za zJ <| za zcl <| za zcN <| zb Tryz.prog);repeat' (first|((first|(refine sa ?_;intro K hK)|refine sb ?_);simp only [go_sem,aeq,aeq.aeqF,simprocAttr,<-hR,he,j1,iu,<-hS,hb,cE,results125])|refine zaC (λK hK=>?_)|refine sc ?_|refine za1 rfl (λhc=>?_) (λhc=>?_)|(refine hK _ ?_;clear hK K)|refine λ(nb:Bool) (hnb:nb=true->_)=>?_|with_reducible refine And.intro ?_ ?_|(refine (show zb8 _ _=true from ?_);kernel_rfl)|omega|assumption|refine λ(hg:(_:Bool)=(_:Bool))=>?_|clear hK K)
    all_goals first|omega|(rw [hz];done)|(rw [hz];rfl)|skip
   |false=>
    rw [zel hb];refine' walkW (zr hR.symm he j1 iu hS.symm hb) (za zJ <| za zcl <| za zcN <| zb _)
 .have e1:(k==1)=false:=by simpa using h1
  have a6:IntKind.u64.wrap (IntKind.i64.wrap ((x.maps.length:Int)+2))=(x.maps.length:Int)+2:=by rw [zf fT fT,zA fT fT]
  have fW:IntKind.u64.wrap k=k:=zA fT fT;by_cases h2:k<2\/(x.maps.length:Int)+2<=k
  .have hb:(decide (k<2)||decide ((x.maps.length:Int)+2<=k))=true:=by simpa using h2
   rw [zmi h1 h2,zel iz];refine' walkW (zB e1 a6 fW hb) (za zJ <| za zcl <| za zcN <| zb _)
  .have hb:(decide (k<2)||decide ((x.maps.length:Int)+2<=k))=false:=by simpa using h2
   obtain ⟨j,rfl⟩:∃j:Nat,k=(j:Int)+2:=⟨(k - 2).toNat,fT⟩
   obtain ⟨m,qG⟩:=zaD (l:=x.maps) (i:=j) fT;have J:=zbB (g:=dmapD) qG;simp only [dmapD] at J;have nQ:IntKind.u32.wrap ((j:Int)+2 - 2)=(j:Int):=by rw [zbT fT fT];omega
   rw [zmj qG];have b5:=zpp (x:=x) (m:=m.name) (a:=q.frm) (n:=q.len) l4;obtain ⟨S,hS⟩:∃S,S=zdD x m.name q.frm q.len:=⟨_,rfl⟩
   rw [<-hS] at b5 |-;cases iH:(S.2==0&&(ibits .and .i64 q.flags 8 !=0)) with
   | true=>
    rw [zit iH];have b3:=iH;rw [aq,aF] at b3
    have tT:1<=S.1.length:=by
     have:=b5 b3.1;cases oT:S.1 with
     |nil=>exact absurd oT this
     |cons a l=>simp
    have hz:=b3.1
    (have tk:=za zJ <| za zcl <| za zcN <| zb Tryz.prog);repeat' (first|((first|(refine sa ?_;intro K hK)|refine sb ?_);simp only [go_sem,aeq,aeq.aeqF,simprocAttr,e1,a6,fW,hb,nQ,J,aw,j1,iu,<-hS,iH,cE,results125])|refine zaC (λK hK=>?_)|refine sc ?_|refine za1 rfl (λhc=>?_) (λhc=>?_)|(refine hK _ ?_;clear hK K)|refine λ(nb:Bool) (hnb:nb=true->_)=>?_|with_reducible refine And.intro ?_ ?_|(refine (show zb8 _ _=true from ?_);kernel_rfl)|omega|assumption|refine λ(hg:(_:Bool)=(_:Bool))=>?_|clear hK K)
    all_goals first|omega|(rw [hz];done)|(rw [hz];rfl)|skip
   |false=>
    rw [zel iH];refine' walkW (zr e1 a6 fW hb nQ (zr J natC j1 iu hS.symm iH)) (za zJ <| za zcl <| za zcN <| zb _);all_goals first|omega|skip
@[go_sem] def zaY:Ent Tryz.prog 125:= .m3 za9 rqA_T (intT .u32) znP
def tskV (t:Tsk) (v:AV):List AV:= [.d (.int .i64 t.q.flags),.d (.int .i64 t.q.kind),.d (.int .u64 t.q.cookie),.d (.int .u64 t.q.frm),.d (.int .u32 t.q.len),.d (.str t.q.data),.d (.sl 3 (t.cuts.map cutD)),.d (.int .i64 t.loc),.d (.int .u32 t.err),.d (.str t.data),v,.d (.bool t.done)]
attribute [go_sem] tskV
@[go_sem] abbrev tskS (t:Tsk):List AV:=tskV t (.d (.sl 2 (t.spans.map spnD)))
def tsk0:List AV:= [.d (.int .i64 0),.d (.int .i64 0),.d (.int .u64 0),.d (.int .u64 0),.d (.int .u32 0),.d (.str []),.nils 3,.d (.int .i64 0),.d (.int .u32 0),.d (.str []),.nils 2,.d (.bool false)]
attribute [go_sem] tsk0
def rqV (q:Rq):List AV:= [.d (.int .i64 q.flags),.d (.int .i64 q.kind),.d (.int .u64 q.cookie),.d (.int .u64 q.frm),.d (.int .u32 q.len),.d (.str q.data)]
attribute [go_sem] rqV
def zmk {x:Img} {q:Rq} {Z:List Spn×Int} {k:Int} {r:List Int} {l:List Spn} (h:Z=tctxL x q (k::r) l):Z=if (tctx x q k).2≠0 then ([],(tctx x q k).2) else tctxL x q r (l++ [⟨k,(tctx x q k).1⟩]):=by rw [h,tctxL]
def zvt (x:Img) (t:Tsk) (ms:List Int) (hp:TkOk x t/\ms.length<=1000/\(∀m∈ms,0<=m/\m<4294967296)):AC 62 [imgA x,tskA t,.d (.sl 1 (ms.map u32D))] (.tup [imgA (tstep x t ms).1,tskA (tstep x t ms).2]):=by
 obtain ⟨h,hm,hr⟩:=hp;refine fbod func62 ntmps62 (λbase=>?_);refine' FL;cases hd:t.done with
 |true=>
  rw [zl3 hd] at J;refine' walkW hd (za zbo <| za zbn <| za z6 <| za zaY <| zb _);all_goals first|(rw [J];done)|(rw [J,<-hd];done)|(rw [J,<-hd];rfl)|skip
 |false=>
 have ef:=h.spans hd;by_cases hl:t.loc<t.cuts.length
 .have hb:decide (t.loc<(t.cuts.length:Int))=true:=af hl;rw [ztD hd fT] at J;refine' walkW (zp hd hb J.symm) (za zbo <| za zbn <| za z6 <| za zaY <| zb _);all_goals first|omega|(rw [<-hd];exact h)|(simp only [*,cq,cG];done)|(rw [J];done)|(rw [J];rfl)|(rw [J,ef];done)|(rw [J,ef];rfl)|skip
 have hb:decide (t.loc<(t.cuts.length:Int))=false:=ag hl;rw [zmb hd fT,zyq,tlast] at J
 have gy:∀c:Bool,c=(t.q.kind==3||(t.q.kind !=7&&(ibits .and .i64 t.q.flags 1 !=0)))->(c=true->t.q.kind≠7/\(t.q.kind=3\/hasF t.q.flags 1=true))/\(c=false->t.q.kind=7\/¬(t.q.kind=3\/hasF t.q.flags 1=true)):=by
  rintro c rfl;unfold hasF;by_cases h3:t.q.kind=3
  .rw [h3];simp
  .by_cases h7:t.q.kind=7
   .rw [h7];simp
   .simp [h3,h7]
 cases bo:(t.q.kind==3||(t.q.kind !=7&&(ibits .and .i64 t.q.flags 1 !=0))) with
 | true=>
  obtain ⟨h7,h3⟩:=(gy _ rfl).1 bo;rw [U h7,aa h3] at J;obtain ⟨F,hF⟩:∃F,F=zew x:=⟨_,rfl⟩
  rw [<-hF] at J;cases he:(F.2 !=0) with
  |true=>
   rw [aa gp] at J;refine' IU;all_goals first|omega|(rw [<-hd];exact h)|(simp only [*,cq,cG];done)|(rw [J];done)|(rw [J];rfl)|(rw [J,ef];done)|(rw [J,ef];rfl)|skip
  |false=>
   rw [U gp] at J;refine' IU;all_goals first|omega|(rw [<-hd];exact h)|(simp only [*,cq,cG];done)|(rw [J];done)|(rw [J];rfl)|(rw [J,ef];done)|(rw [J,ef];rfl)|skip
 |false=>
 cases h7:(t.q.kind==7) with
 | false=>
  have h3:¬(t.q.kind=3\/hasF t.q.flags 1=true):=by
   rcases (gy _ rfl).2 bo with h|h
   .exact absurd h (beqN h7)
   .exact h
  rw [U (beqN h7),U h3] at J;refine' walkW (zB hd hb bo h7) (za zbo <| za zbn <| za z6 <| za zaY <| zb _);all_goals first|omega|(rw [<-hd];exact h)|(simp only [*,cq,cG];done)|(rw [J];done)|(rw [J];rfl)|(rw [J,ef];done)|(rw [J,ef];rfl)|skip
 | true=>
  rw [aa (beqP h7)] at J;obtain ⟨S,hS⟩:∃S,S=tctxL x t.q ms []:=⟨_,rfl⟩
  rw [<-hS] at J;simp only at J;refine' walkW (zB hd hb bo h7) (za zbo <| za zbn <| za z6 <| za zaY <| zb _);all_goals first|(simp only [*,cq,cG];done)|skip
  refine zaI 11 2 rfl ?_;refine' Ev;refine zk (λq: { q:Nat×List Spn // q.1<=ms.length/\q.2.length=q.1/\S=tctxL x t.q (ms.drop q.1) q.2 } =>⟨[(2,true,.d (.sl 1 (ms.map u32D))),(3,true,.vp 0 0),(4,true,.vp 1 0),(6,true,.vp 2 0),(7,true,.vp 3 0),(8,true,.vp 4 0),(11,true,.osl 5 2 q.1.2.length 0 q.1.2.length),(12,true,.d (.int .i64 q.1.1))],[(5,.arr 2 (q.1.2.map spnD)),(4,.var (rqV t.q)),(3,.var tsk0),(2,.var img0),(1,.var (tskS t)),(0,.var (imgV x))],some []⟩) (λq=>ms.length - q.1.1) ⟨(0,[]),ad _,rfl,hS⟩ (lxb hd) (λq=>?_);obtain ⟨⟨i,L⟩,hi,qH,hf⟩:=q;simp only at hi qH hf |-;rcases zw u32D ms i hi with ⟨k,hq,b9,an,a6,b4,a7⟩|⟨ao,an⟩
  .simp only [u32D] at a6;refine' CO;obtain ⟨gk,gx⟩:=hr k (ay hq);rw [b4] at hf;have hf:=zmk hf;obtain ⟨C,hC⟩:∃C,C=tctx x t.q k:=⟨_,rfl⟩
   rw [<-hC] at hf;cases he:(C.2 !=0) with
   |true=>
    rw [aa gp] at hf;rw [hf,aa gp] at J;refine' walkW (zB an a6 hC.symm he) (za zbo <| za zbn <| za z6 <| za zaY <| zb _);all_goals first|omega|(rw [<-hd];exact h)|(simp only [*,cq,cG];done)|(rw [J];done)|(rw [J];rfl)|(rw [J,ef];done)|(rw [J,ef];rfl)|skip
   |false=>
    rw [U gp] at hf;refine' walkW (zB an a6 hC.symm he) (za zbo <| za zbn <| za z6 <| za zaY <| zb _);all_goals first|omega|(rw [<-hd];exact h)|(simp only [*,cq,cG];done)|(rw [J];done)|(rw [J];rfl)|(rw [J,ef];done)|(rw [J,ef];rfl)|skip
    exact ⟨⟨(i+1,L++ [⟨k,C.1⟩]),fT,by simp [qH],hf⟩,by simp only [aG,ae,bl,au,bM];exact lxb (lan hwi @spnD.eq_1),gh⟩
  .rw [ao,aP,tctxL] at hf;rw [hf,U fZ] at J;refine' walkW an (za zbo <| za zbn <| za z6 <| za zaY <| zb _);all_goals first|omega|(rw [<-hd];exact h)|(simp only [*,cq,cG];done)|(rw [J];done)|(rw [J];rfl)|(rw [J,ef];done)|(rw [J,ef];rfl)|skip
@[go_sem] def zpR:Ent Tryz.prog 62:= .m3 za9 zii (slT 1 u32D zjS) zvt
end
end Go.Aw
