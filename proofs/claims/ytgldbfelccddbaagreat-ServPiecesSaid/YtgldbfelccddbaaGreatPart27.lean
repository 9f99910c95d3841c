/-
 Parts of the proof: lemmas.
-/
import Derived.Test.YtgldbfelccddbaaGreatPart22
set_option maxRecDepth 100000
set_option maxHeartbeats 2000000
set_option linter.unusedSimpArgs false
set_option linter.unusedVariables false
namespace Go.Aw
open Go Go.Proofs
theorem zx9 {k:Int} (h:k=0∨k=1∨k=4∨k=6):isPc k=true:=by
 unfold isPc
 rcases h with rfl|rfl|rfl|rfl<;>rfl
theorem zya {k:Int} (h:¬(k=0∨k=1∨k=4∨k=6)):isPc k=false:=by
 rw [← Bool.not_eq_true,isPc]
 simp only [Bool.or_eq_true,beq_iff_eq]
 omega
theorem zyb (q:Rq) (h:RqOk q):AC 102 [rqA q] (tskA (tnew q)):=by
 refine fbod Tryz.func102 Tryz.ntmps102 (fun base=>?_)
 have hl0:=h.l0
 have hl1:=h.l1
 have hf0:=h.f0
 have hf1:=h.f1
 by_cases hk:q.kind=0∨q.kind=1∨q.kind=4∨q.kind=6
 ·have hp:=zx9 hk
  cases hb:decide (q.frm<1073741824) with
  | true=>
   have hb2:q.frm<1073741824:=of_decide_eq_true hb
   have hw1:IntKind.i64.wrap q.frm=q.frm:=zi U U
   have hw2:IntKind.i64.wrap q.len=q.len:=zi U U
   have hT:tnew q=⟨q,cutsL q.frm q.len,0,0,[],[],false⟩:=zqb (by rw [hp,hb];rfl)
   rcases hk with hk|hk|hk|hk
   all_goals
    refine' walkW (zE hk hb hw1 hw2) (za zix <| zb _)
    first|(rw [hT];simp only [hk];done)|(rw [hT];simp only [hk];rfl)
  | false=>
   have hT:tnew q=⟨q,[],0,0,[],[],false⟩:=zll (by rw [hp,hb];rfl)
   rcases hk with hk|hk|hk|hk
   all_goals
    refine' walkW (zj hk hb) (za zix <| zb _)
    first|(rw [hT];simp only [hk];done)|(rw [hT];simp only [hk];rfl)
 ·have hp:=zya hk
  have e0:(q.kind==0)=false:=aI
  have e1:(q.kind==1)=false:=aI
  have e4:(q.kind==4)=false:=aI
  have e6:(q.kind==6)=false:=aI
  have hT:tnew q=⟨q,[],0,0,[],[],false⟩:=zll (by rw [hp];rfl)
  refine' walkW (zE e0 e1 e4 e6) (za zix <| zb _)
  rw [hT]
  rfl
@[go_sem] noncomputable def zgx:Ent Tryz.prog 102:= .m1 rqA_T zyb
theorem zus (dn:Bool) (kind:Int) (cookie:Int) (data:Txt) (hk0:0≤cookie) (hk1:cookie<18446744073709551616) (hd:data.length≤9223372036854775807):ACall Tryz.prog 110 0 [.agg [.d (.bool dn),.d (.int .i64 kind),.d (.int .u64 cookie),.d (.str data)]] [] (fun r _=>r= .d (.str (za2 dn kind cookie data).1)):=by
 refine fbod Tryz.func110 Tryz.ntmps110 (fun base=>?_)
 refine' walkW fx (za zoA <| zb _)
@[go_sem] noncomputable def zcI:Ent Tryz.prog 110:= .ofL (consL (aggT (consL boolT (consL (intT .i64) (consL (intT .u64) (consL strT nilL)))) (fun p=>p) (fun p=>p) (fun _=>rfl)) nilL) (fun ((dn,kind,cookie,data,_),_)=>(0≤cookie)∧(cookie<18446744073709551616)∧(data.length≤9223372036854775807)) (fun ((dn,kind,cookie,data,_),_)=> .d (.str (za2 dn kind cookie data).1)) (fun ((dn,kind,cookie,data,_),_) hp=>⟨rfl,zus dn kind cookie data hp.1 hp.2.1 hp.2.2⟩)
theorem zmZ (e:Int):(rfail e).length=6:=by simp [rfail,zu]
theorem zru (q:Rq) (e:Int) (ch:Bool) (hp:RqOk q∧0≤e∧e<4294967296):AC 101 [rqA q,.d (.int .u32 e),.d (.bool ch)] (.d (.str (zb8 q e ch))):=by
 obtain ⟨h,h0,h1⟩:=hp
 refine fbod Tryz.func101 Tryz.ntmps101 (fun base=>?_)
 have hc0:=h.c0
 have hc1:=h.c1
 have hfl:=zmZ e
 cases he:(e==0) with
 |true=>
  refine' walkW he (za zcI <| za zg7 <| za ze1 <| za zg6 <| zb _)
  rw [zb8,if_pos (beqP he)]
 | false=>
  cases ch with
  |true=>
   refine' walkW he (za zcI <| za zg7 <| za ze1 <| za zg6 <| zb _)
   all_goals first|omega|skip
   rw [zb8,if_neg (beqN he),if_pos rfl]
  |false=>
   refine' walkW he (za zcI <| za zg7 <| za ze1 <| za zg6 <| zb _)
   all_goals first|omega|decide|skip
   rw [zb8,if_neg (beqN he),if_neg ae]
@[go_sem] noncomputable def zbP:Ent Tryz.prog 101:= .m3 rqA_T (intT .u32) boolT zru
theorem zrv {dn:Bool} {k c:Int} {s:Txt} :(za2 dn k c s).1.length≤20+s.length:=by
 unfold za2
 split
 ·exact Nat.zero_le _
 split
 ·exact Nat.zero_le _
 ·simp only [List.length_append,zu,zer,List.length_cons,List.length_nil]
  omega
structure TsOk (t:Tsk):Prop where
 ok:RqOk t.q
 err0:0≤t.err
 err1:t.err<4294967296
 data:t.data.length≤1000000
 spans:t.spans.length≤1000
 rows:∀s∈t.spans,0≤s.ctx∧s.ctx<4294967296∧s.list.length≤9223372036854775807
open Go Go.Proofs
theorem zo0 (dn:Bool) (kind:Int) (cookie:Int) (data:Txt) (hk0:0≤cookie) (hk1:cookie<18446744073709551616) (hd:data.length≤9223372036854775807):ACall Tryz.prog 127 0 [.agg [.d (.bool dn),.d (.int .i64 kind),.d (.int .u64 cookie),.d (.str data)]] [] (fun r _=>r= .d (.str (za2 dn kind cookie data).1)):=by
 refine fbod Tryz.func127 Tryz.ntmps127 (fun base=>?_)
 refine' walkW fx (za zk8 <| zb _)
@[go_sem] noncomputable def zaE:Ent Tryz.prog 127:= .ofL (consL (aggT (consL boolT (consL (intT .i64) (consL (intT .u64) (consL strT nilL)))) (fun p=>p) (fun p=>p) (fun _=>rfl)) nilL) (fun ((dn,kind,cookie,data,_),_)=>(0≤cookie)∧(cookie<18446744073709551616)∧(data.length≤9223372036854775807)) (fun ((dn,kind,cookie,data,_),_)=> .d (.str (za2 dn kind cookie data).1)) (fun ((dn,kind,cookie,data,_),_) hp=>⟨rfl,zo0 dn kind cookie data hp.1 hp.2.1 hp.2.2⟩)
theorem znb (q:Rq) (e:Int) (ch:Bool) (hp:RqOk q∧0≤e∧e<4294967296):AC 121 [rqA q,.d (.int .u32 e),.d (.bool ch)] (.d (.str (zb8 q e ch))):=by
 obtain ⟨h,h0,h1⟩:=hp
 refine fbod Tryz.func121 Tryz.ntmps121 (fun base=>?_)
 have hc0:=h.c0
 have hc1:=h.c1
 have hfl:=zmZ e
 cases he:(e==0) with
 |true=>
  refine' walkW he (za zaE <| za ze0 <| za zav <| zb _)
  rw [zb8,if_pos (beqP he)]
 | false=>
  cases ch with
  |true=>
   refine' walkW he (za zaE <| za ze0 <| za zav <| zb _)
   all_goals first|omega|skip
   rw [zb8,if_neg (beqN he),if_pos rfl]
  |false=>
   refine' walkW he (za zaE <| za ze0 <| za zav <| zb _)
   all_goals first|omega|decide|skip
   rw [zb8,if_neg (beqN he),if_neg ae]
@[go_sem] noncomputable def zai:Ent Tryz.prog 121:= .m3 rqA_T (intT .u32) boolT znb
theorem zo1 (t:Tsk) (ch:Bool) (h:TsOk t):AC 63 [tskA t,.d (.bool ch)] (.d (.str (zeZ t ch))):=by
 refine fbod Tryz.func63 Tryz.ntmps63 (fun base=>?_)
 have hok:=h.ok
 have hc0:=h.ok.c0
 have hc1:=h.ok.c1
 have hf0:=h.ok.f0
 have hf1:=h.ok.f1
 have he0:=h.err0
 have he1:=h.err1
 have hdl:=h.data
 have hdl2:(rdata t.q.frm t.data).length≤9223372036854775807:=by simp only [rdata,List.length_append,zu];omega
 obtain ⟨Z,hZ⟩:∃Z,Z=zeZ t ch:=⟨_,rfl⟩
 rw [← hZ]
 unfold zeZ at hZ
 cases hd:t.done with
 |false=>
  rw [if_pos hd] at hZ
  refine' walkW hd (za zaE <| za zai <| za zav <| za zbO <| za zbf <| zb _)
  rw [hZ]
 |true=>
 rw [if_neg (by rw [hd];decide)] at hZ
 cases he:(t.err !=0) with
 |true=>
  rw [if_pos (bneP he)] at hZ
  refine' walkW (zj hd he) (za zaE <| za zai <| za zav <| za zbO <| za zbf <| zb _)
  rw [hZ]
 |false=>
 rw [if_neg (bneN he)] at hZ
 cases ch with
 |false=>
  rw [if_pos rfl] at hZ
  refine' walkW (zj hd he) (za zaE <| za zai <| za zav <| za zbO <| za zbf <| zb _)
  all_goals first|omega|decide|skip
  rw [hZ]
 |true=>
 rw [if_neg ae] at hZ
 cases hk0:(t.q.kind==0) with
 |true=>
  rw [if_pos (beqP hk0)] at hZ
  refine' walkW (zq hd he hk0) (za zaE <| za zai <| za zav <| za zbO <| za zbf <| zb _)
  all_goals first|omega|skip
  rw [hZ]
 |false=>
 rw [if_neg (beqN hk0)] at hZ
 cases hk7:(t.q.kind==7) with
 |false=>
  rw [if_neg (beqN hk7)] at hZ
  refine' walkW (zE hd he hk0 hk7) (za zaE <| za zai <| za zav <| za zbO <| za zbf <| zb _)
  all_goals first|omega|decide|skip
  rw [hZ]
 |true=>
 rw [if_pos (beqP hk7)] at hZ
 refine' walkW (zE hd he hk0 hk7) (za zaE <| za zai <| za zav <| za zbO <| za zbf <| zb _)
 have hsl:=h.spans
 obtain ⟨L,hL⟩:∃L,L=t.spans:=⟨_,rfl⟩
 have hrw:=h.rows
 rw [← hL] at hsl hrw hZ
 refine zk (fun q: { q:Nat×Txt // q.1≤L.length∧q.2.length≤4024*q.1∧Z=ziz t.q (L.drop q.1) q.2 } =>⟨[(2,true,.vp 0 0),(5,true,.vp 1 0),(8,true,.d (.str q.1.2)),(9,true,.d (.int .i64 q.1.1))],[(1,.var [.d (.int .i64 t.q.flags),.d (.int .i64 t.q.kind),.d (.int .u64 t.q.cookie),.d (.int .u64 t.q.frm),.d (.int .u32 t.q.len),.d (.str t.q.data)]),(0,.var [.d (.int .i64 t.q.flags),.d (.int .i64 t.q.kind),.d (.int .u64 t.q.cookie),.d (.int .u64 t.q.frm),.d (.int .u32 t.q.len),.d (.str t.q.data),.d (.sl 3 (t.cuts.map cutD)),.d (.int .i64 t.loc),.d (.int .u32 t.err),.d (.str t.data),.d (.sl 2 (L.map spnD)),.d (.bool true)])],some []⟩) (fun q=>L.length - q.1.1) ⟨(0,[]),Nat.zero_le _,Nat.zero_le _,hZ⟩ (by simp only [AS.le,leT,leH,zf,AsgK,AV.le,AV.leL,AObj.le,inH,idsT,idsH,AV.ids,AV.idsL,AV.idsR,AObj.ids,lk,hget,go_sem,aeq,aeq.aeqF,simprocAttr,hL]<;>and_intros<;>rfl) (fun q=>?_)
 obtain ⟨⟨i,s⟩,hi,hs,hf⟩:=q
 simp only at hi hs hf ⊢
 rcases zy spnD L i hi with ⟨p,hq,hlt,hcmp,hrow,hdr,htk⟩|⟨hend,hcmp⟩
 ·simp only [spnD] at hrow
  have hwi:=zn (i:=i) U
  obtain ⟨hp0,hp1,hp2⟩:=hrw p (List.mem_of_getElem? hq)
  rw [hdr,ziz] at hf
  have hdn:((i:Int)==IntKind.i64.wrap ((L.length:Int) - 1))=(L.drop (i+1)).isEmpty:=by
   rw [zi U U,Bool.eq_iff_iff,beq_iff_eq,List.isEmpty_iff,List.drop_eq_nil_iff]
   omega
  obtain ⟨S,hS⟩:∃S,S=zdV p.ctx p.list:=⟨_,rfl⟩
  have hSl:=zot (c:=p.ctx) (l:=p.list)
  rw [← hS] at hf hSl
  have hcl:=zrv (dn:=(L.drop (i+1)).isEmpty) (k:=5) (c:=t.q.cookie) (s:=S.1)
  obtain ⟨C,hC⟩:∃C,C=za2 (L.drop (i+1)).isEmpty 5 t.q.cookie S.1:=⟨_,rfl⟩
  rw [← hC] at hf hcl
  refine' walkW (zaB hcmp hrow hS.symm hdn hC.symm) (za zaE <| za zai <| za zav <| za zbO <| za zbf <| zb _)
  all_goals first|omega|skip
  exact ⟨⟨(i+1,s++C.1),U,ba,hf⟩,lev,af⟩
 ·rw [hend,List.drop_length,ziz] at hf
  refine' zc hcmp
  rw [hf]
@[go_sem] noncomputable def zls:Ent Tryz.prog 63:= .m2 zgr boolT zo1
open Go Go.Proofs
theorem zrY (s:Tw) (h:ImgF s.x):ACall Tryz.prog 185 30 [.vp 4 0] [(4,.var (twV s (.nils 2)))] (fun r h'=>∃ob',h'= [(4,ob')]∧r= .d (.int .i64 (zb1 s.x).2)∧ob'= .var (twV { s with x:=(zb1 s.x).1 } (.nils 2))):=by
 refine za6 (fun i=>decide (i=4)) ?_
 refine bod Tryz.func185 Tryz.ntmps185 (fun base=>?_)
 refine' walkW fx (za zmL <| zb _)
 all_goals first|omega|exact ⟨_,rfl,rfl,rfl⟩|exact ⟨_,rfl,rfl⟩|skip
theorem zuW (s:Tw) (h:ImgF s.x) (hk:s.q.kind=3):ACall Tryz.prog 108 30 [.vp 4 0] [(4,.var (twV s (.nils 2)))] (fun r h'=>∃ob',h'= [(4,ob')]∧r= .d (.int .i64 (zb1 s.x).2)∧ob'= .var (twV { s with x:=(zb1 s.x).1 } (.nils 2))):=by
 refine bod Tryz.func108 Tryz.ntmps108 (fun base=>?_)
 have hb:(s.q.kind==7)=false:=bg
 have hb2:(s.q.kind==3)=true:=bg
 refine' zc (zj hb hb2)
 refine (zhq (fix1 (zrY s h)) ae rfl (zxg rfl) aD).mono ?_
 rintro r h' ⟨rfl,rfl⟩
 simp only [go_sem,aeq,aeq.aeqF,simprocAttr]
 refine' zc fx
 all_goals first|exact ⟨_,rfl,rfl,rfl⟩|exact ⟨_,rfl,rfl⟩|skip
def FlOk (t:Tsk):Prop:=t.q.kind=3∧t.done=false∧t.cuts= []∧t.loc=0
theorem FlOk.step {x:Img} {t:Tsk} {ms:List Int} (h:FlOk t):tstep x t ms=((zb1 x).1,if (zb1 x).2≠0 then tfail t (zb1 x).2 else { t with spans:= [],done:=true }):=by
 obtain ⟨h1,h2,h3,h4⟩:=h
 rw [tstep,h2,h3,tlast,h1]
 rfl
theorem zuX (x:Img) (t:Tsk) (ms:List Int) (hp:ImgF x∧FlOk t):AC 50 [imgA x,tskA t,.d (.sl 1 (ms.map u32D))] (.tup [imgA (tstep x t ms).1,tskA (tstep x t ms).2]):=by
 obtain ⟨h,hm⟩:=hp
 refine fbod Tryz.func50 Tryz.ntmps50 (fun base=>?_)
 obtain ⟨Z,hZ⟩:∃Z,Z=tstep x t ms:=⟨_,rfl⟩
 rw [← hZ]
 rw [hm.step] at hZ
 obtain ⟨hk,hd,hcu,hlo⟩:=hm
 have hb:decide (t.loc<(t.cuts.length:Int))=false:=by rw [hlo,hcu];rfl
 have hlF:=zuW ⟨t.q,t.cuts,t.loc,t.err,t.data,[],false,x,ms,0,0,0⟩ h hk
 obtain ⟨S,hS⟩:∃S,S=zb1 x:=⟨_,rfl⟩
 simp only at hlF
 rw [← hS] at hlF hZ
 refine' zc (zj hd hb)
 refine (zhq (fix1 hlF) ae rfl (zxg rfl) aD).mono ?_
 rintro r h' ⟨rfl,rfl⟩
 cases he:(S.2 !=0) with
 |true=>
  rw [if_pos aj,tfail] at hZ
  simp only [go_sem,aeq,aeq.aeqF,simprocAttr]
  refine' zc he
  all_goals first|(rw [if_pos (beqP hc)] at hZ;rw [hZ];done)|(rw [if_pos (beqP hc)] at hZ;rw [hZ];rfl)|(rw [if_neg (beqN hc)] at hZ;rw [hZ];done)|(rw [if_neg (beqN hc)] at hZ;rw [hZ];rfl)|skip
 |false=>
  rw [if_neg aj] at hZ
  simp only [go_sem,aeq,aeq.aeqF,simprocAttr]
  refine' zc he
  all_goals first|(rw [hZ];done)|(rw [hZ];rfl)|skip
@[go_sem] noncomputable def zo8:Ent Tryz.prog 50:= .m3 zbk zgr (slT 1 u32D zhP) zuX
theorem zrZ (t:Tsk) (ch:Bool) (hp:TsOk t∧t.q.kind=3∧ch=true):AC 51 [tskA t,.d (.bool ch)] (.d (.str (zeZ t ch))):=by
 obtain ⟨h,hk,hch⟩:=hp
 subst hch
 refine fbod Tryz.func51 Tryz.ntmps51 (fun base=>?_)
 have hok:=h.ok
 have hc0:=h.ok.c0
 have hc1:=h.ok.c1
 have he0:=h.err0
 have he1:=h.err1
 obtain ⟨Z,hZ⟩:∃Z,Z=zeZ t true:=⟨_,rfl⟩
 rw [← hZ]
 unfold zeZ at hZ
 cases hd:t.done with
 |false=>
  rw [if_pos hd] at hZ
  refine' walkW hd (za zcI <| za zbP <| zb _)
  rw [hZ]
 |true=>
 rw [if_neg (by rw [hd];decide)] at hZ
 cases he:(t.err !=0) with
 |true=>
  rw [if_pos (bneP he)] at hZ
  refine' walkW (zj hd he) (za zcI <| za zbP <| zb _)
  rw [hZ]
 |false=>
 rw [if_neg (bneN he),if_neg ae,if_neg (by rw [hk];decide),if_neg (by rw [hk];decide)] at hZ
 have hk0:(t.q.kind==0)=false:=bg
 have hk7:(t.q.kind !=7)=true:=bg
 refine' walkW (zE hd he hk0 hk7) (za zcI <| za zbP <| zb _)
 all_goals first|omega|decide|skip
 rw [hZ]
@[go_sem] noncomputable def znm:Ent Tryz.prog 51:= .m2 zgr boolT zrZ
end Go.Aw
