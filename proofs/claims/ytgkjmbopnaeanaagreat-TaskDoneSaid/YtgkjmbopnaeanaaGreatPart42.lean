/-
  Parts of the proof: TaskM, TaskO (short names; the readable texts lie in the repo, under wip).
-/
import Derived.Test.YtgkjmbopnaeanaaGreatPart39
import Derived.Test.YtgkjmbopnaeanaaGreatPart36
set_option maxRecDepth 100000
set_option maxHeartbeats 2000000
set_option linter.unusedSimpArgs false
set_option linter.unusedVariables false
namespace Go.Aw
open Go Go.Proofs
theorem zwX {k:Int} (h:k=0∨k=1∨k=4∨k=6):isPc k=true:=by
 unfold isPc
 rcases h with rfl|rfl|rfl|rfl<;>rfl
theorem zwY {k:Int} (h:¬(k=0∨k=1∨k=4∨k=6)):isPc k=false:=by
 rw [← Bool.not_eq_true,isPc]
 simp only [Bool.or_eq_true,beq_iff_eq]
 omega
theorem zwZ (q:Rq) (h:RqOk q):AC 16 [rqA q] (tskA (tnew q)):=by
 refine fbod Tryz.func16 Tryz.ntmps16 (fun base=>?_)
 have hl0:=h.l0
 have hl1:=h.l1
 have hf0:=h.f0
 have hf1:=h.f1
 by_cases hk:q.kind=0∨q.kind=1∨q.kind=4∨q.kind=6
 ·have hp:=zwX hk
  cases hb:decide (q.frm<1073741824) with
  | true=>
   have hb2:q.frm<1073741824:=of_decide_eq_true hb
   have hw1:IntKind.i64.wrap q.frm=q.frm:=ze (by omega) (by omega)
   have hw2:IntKind.i64.wrap q.len=q.len:=ze (by omega) (by omega)
   have hT:tnew q=⟨q,cutsL q.frm q.len,0,0,[],[],false⟩:=zpt (by rw [hp,hb];rfl)
   rcases hk with hk|hk|hk|hk
   all_goals
    refine' walkW (zS hk hb hw1 hw2) (za zbA <| zb _)
    first|(rw [hT];simp only [hk];done)|(rw [hT];simp only [hk];rfl)
  | false=>
   have hT:tnew q=⟨q,[],0,0,[],[],false⟩:=zkL (by rw [hp,hb];rfl)
   rcases hk with hk|hk|hk|hk
   all_goals
    refine' walkW (zk hk hb) (za zbA <| zb _)
    first|(rw [hT];simp only [hk];done)|(rw [hT];simp only [hk];rfl)
 ·have hp:=zwY hk
  have e0:(q.kind==0)=false:=by rw [beq_eq_false_iff_ne];omega
  have e1:(q.kind==1)=false:=by rw [beq_eq_false_iff_ne];omega
  have e4:(q.kind==4)=false:=by rw [beq_eq_false_iff_ne];omega
  have e6:(q.kind==6)=false:=by rw [beq_eq_false_iff_ne];omega
  have hT:tnew q=⟨q,[],0,0,[],[],false⟩:=zkL (by rw [hp];rfl)
  refine' walkW (zS e0 e1 e4 e6) (za zbA <| zb _)
  rw [hT]
  rfl
@[go_sem] noncomputable def zbR:Ent Tryz.prog 16:= .m1 rqA_T zwZ
theorem zs9 (q:Rq) (h:RqOk q):AC 19 [rqA q] (.d (.int .i64 ((tnew q).cuts.length+1))):=by
 refine fbod Tryz.func19 Tryz.ntmps19 (fun base=>?_)
 have hn:=zfK q
 have hw:IntKind.i64.wrap (1+((tnew q).cuts.length:Int))=(tnew q).cuts.length+1:=by rw [ze (by omega) (by omega)];omega
 refine' walkW hw (za zbR <| zb _)
@[go_sem] noncomputable def zbS:Ent Tryz.prog 19:= .m1 rqA_T zs9
theorem zta (dn:Bool) (kind:Int) (cookie:Int) (data:Txt) (hk0:0≤cookie) (hk1:cookie<18446744073709551616) (hd:data.length≤9223372036854775807):ACall Tryz.prog 32 0 [.agg [.d (.bool dn),.d (.int .i64 kind),.d (.int .u64 cookie),.d (.str data)]] [] (fun r _=>r= .d (.str (zaV dn kind cookie data).1)):=by
 refine fbod Tryz.func32 Tryz.ntmps32 (fun base=>?_)
 refine' walkW fx (za zod <| zb _)
@[go_sem] noncomputable def zbg:Ent Tryz.prog 32:= .ofL (consL (aggT (consL boolT (consL (intT .i64) (consL (intT .u64) (consL strT nilL)))) (fun p=>p) (fun p=>p) (fun _=>rfl)) nilL) (fun ((dn,kind,cookie,data,_),_)=>(0≤cookie)∧(cookie<18446744073709551616)∧(data.length≤9223372036854775807)) (fun ((dn,kind,cookie,data,_),_)=> .d (.str (zaV dn kind cookie data).1)) (fun ((dn,kind,cookie,data,_),_) hp=>⟨rfl,zta dn kind cookie data hp.1 hp.2.1 hp.2.2⟩)
theorem zmn (e:Int):(rfail e).length=6:=by simp [rfail,zu]
theorem zqS (q:Rq) (e:Int) (ch:Bool) (hp:RqOk q∧0≤e∧e<4294967296):AC 14 [rqA q,.d (.int .u32 e),.d (.bool ch)] (.d (.str (zdm q e ch))):=by
 obtain ⟨h,h0,h1⟩:=hp
 refine fbod Tryz.func14 Tryz.ntmps14 (fun base=>?_)
 have hc0:=h.c0
 have hc1:=h.c1
 have hfl:=zmn e
 cases he:(e==0) with
 |true=>
  refine' walkW he (za zbg <| za zg3 <| za zaP <| za zbD <| zb _)
  rw [zdm,if_pos (beqP he)]
 | false=>
  cases ch with
  |true=>
   refine' walkW he (za zbg <| za zg3 <| za zaP <| za zbD <| zb _)
   all_goals first|omega|skip
   rw [zdm,if_neg (beqN he),if_pos rfl]
  |false=>
   refine' walkW he (za zbg <| za zg3 <| za zaP <| za zbD <| zb _)
   all_goals first|omega|decide|skip
   rw [zdm,if_neg (beqN he),if_neg (by decide)]
@[go_sem] noncomputable def zba:Ent Tryz.prog 14:= .m3 rqA_T (intT .u32) boolT zqS
theorem zjO {dn:Bool} {k c:Int} {s:Txt} :(zaV dn k c s).1.length≤20+s.length:=by
 unfold zaV
 split
 ·exact Nat.zero_le _
 split
 ·exact Nat.zero_le _
 ·simp only [List.length_append,zu,zeM,List.length_cons,List.length_nil]
  omega
structure TsOk (t:Tsk):Prop where
 ok:RqOk t.q
 err0:0≤t.err
 err1:t.err<4294967296
 data:t.data.length≤1000000
 spans:t.spans.length≤1000
 rows:∀s∈t.spans,0≤s.ctx∧s.ctx<4294967296∧s.list.length≤9223372036854775807
theorem ztb (t:Tsk) (ch:Bool) (h:TsOk t):AC 12 [tskA t,.d (.bool ch)] (.d (.str (zcJ t ch))):=by
 refine fbod Tryz.func12 Tryz.ntmps12 (fun base=>?_)
 have hok:=h.ok
 have hc0:=h.ok.c0
 have hc1:=h.ok.c1
 have hf0:=h.ok.f0
 have hf1:=h.ok.f1
 have he0:=h.err0
 have he1:=h.err1
 have hdl:=h.data
 have hdl2:(rdata t.q.frm t.data).length≤9223372036854775807:=by simp only [rdata,List.length_append,zu];omega
 obtain ⟨Z,hZ⟩:∃Z,Z=zcJ t ch:=⟨_,rfl⟩
 rw [← hZ]
 unfold zcJ at hZ
 cases hd:t.done with
 |false=>
  rw [if_pos hd] at hZ
  refine' walkW hd (za zbg <| za zba <| za zaP <| za zbD <| za zbQ <| zb _)
  rw [hZ]
 |true=>
 rw [if_neg (by rw [hd];decide)] at hZ
 cases he:(t.err !=0) with
 |true=>
  rw [if_pos (bneP he)] at hZ
  refine' walkW (zk hd he) (za zbg <| za zba <| za zaP <| za zbD <| za zbQ <| zb _)
  rw [hZ]
 |false=>
 rw [if_neg (bneN he)] at hZ
 cases ch with
 |false=>
  rw [if_pos rfl] at hZ
  refine' walkW (zk hd he) (za zbg <| za zba <| za zaP <| za zbD <| za zbQ <| zb _)
  all_goals first|omega|decide|skip
  rw [hZ]
 |true=>
 rw [if_neg (by decide)] at hZ
 cases hk0:(t.q.kind==0) with
 |true=>
  rw [if_pos (beqP hk0)] at hZ
  refine' walkW (zr hd he hk0) (za zbg <| za zba <| za zaP <| za zbD <| za zbQ <| zb _)
  all_goals first|omega|skip
  rw [hZ]
 |false=>
 rw [if_neg (beqN hk0)] at hZ
 cases hk7:(t.q.kind !=7) with
 |true=>
  rw [if_neg (bneP hk7)] at hZ
  refine' walkW (zS hd he hk0 hk7) (za zbg <| za zba <| za zaP <| za zbD <| za zbQ <| zb _)
  all_goals first|omega|decide|skip
  rw [hZ]
 |false=>
 rw [if_pos (by simpa using hk7)] at hZ
 refine' walkW (zS hd he hk0 hk7) (za zbg <| za zba <| za zaP <| za zbD <| za zbQ <| zb _)
 refine zgs 2 1 rfl rfl ?_
 simp only [go_sem,aeq,aeq.aeqF,simprocAttr]
 have hsl:=h.spans
 obtain ⟨L,hL⟩:∃L,L=t.spans:=⟨_,rfl⟩
 have hrw:=h.rows
 rw [← hL] at hsl hrw hZ
 refine zo (fun q: { q:Nat×Txt // q.1≤L.length∧q.2.length≤4024*q.1∧Z=zfo t.q (L.drop q.1) q.2 } =>⟨[(2,true,.vp 0 0),(5,true,.vp 1 0),(8,true,.tp 2 0),(63,true,.d (.sl 2 (L.map spnD))),(64,true,.d (.int .i64 L.length)),(65,true,.d (.int .i64 q.1.1))],[(3,.buf 5 q.1.2),(2,.tvar 85 [if q.1.1=0 then .d .nilp else .tp 2 0,.bsl 3 q.1.2.length]),(1,.var [.d (.int .i64 t.q.flags),.d (.int .i64 t.q.kind),.d (.int .u64 t.q.cookie),.d (.int .u64 t.q.frm),.d (.int .u32 t.q.len),.d (.str t.q.data)]),(0,.var [.d (.int .i64 t.q.flags),.d (.int .i64 t.q.kind),.d (.int .u64 t.q.cookie),.d (.int .u64 t.q.frm),.d (.int .u32 t.q.len),.d (.str t.q.data),.d (.sl 3 (t.cuts.map cutD)),.d (.int .i64 t.loc),.d (.int .u32 t.err),.d (.str t.data),.d (.sl 2 (L.map spnD)),.d (.bool true)])],some []⟩) (fun q=>L.length - q.1.1) ⟨(0,[]),Nat.zero_le _,Nat.zero_le _,hZ⟩ (by simp only [AS.le,leT,leH,zf,AsgK,AV.le,AV.leL,AObj.le,inH,idsT,idsH,AV.ids,AV.idsL,AV.idsR,AObj.ids,lk,hget,go_sem,aeq,aeq.aeqF,simprocAttr,hL,if_true]<;>and_intros<;>rfl) (fun q=>?_)
 obtain ⟨⟨i,s⟩,hi,hs,hf⟩:=q
 simp only at hi hs hf ⊢
 rcases zD spnD L i hi with ⟨p,hq,hlt,hcmp,hrow,hdr,htk⟩|⟨hend,hcmp⟩
 ·simp only [spnD] at hrow
  have hwi:=zn (i:=i) (by omega)
  obtain ⟨hp0,hp1,hp2⟩:=hrw p (List.mem_of_getElem? hq)
  rw [hdr,zfo] at hf
  have hdn:((i:Int)==IntKind.i64.wrap ((L.length:Int) - 1))=(L.drop (i+1)).isEmpty:=by
   rw [ze (by omega) (by omega),Bool.eq_iff_iff,beq_iff_eq,List.isEmpty_iff,List.drop_eq_nil_iff]
   omega
  obtain ⟨S,hS⟩:∃S,S=zcI p.ctx p.list:=⟨_,rfl⟩
  have hSl:=zf7 (c:=p.ctx) (l:=p.list)
  rw [← hS] at hf hSl
  have hcl:=zjO (dn:=(L.drop (i+1)).isEmpty) (k:=5) (c:=t.q.cookie) (s:=S.1)
  obtain ⟨C,hC⟩:∃C,C=zaV (L.drop (i+1)).isEmpty 5 t.q.cookie S.1:=⟨_,rfl⟩
  rw [← hC] at hf hcl
  refine' walkW (zaH hcmp hrow hS.symm hdn hC.symm) (za zbg <| za zba <| za zaP <| za zbD <| za zbQ <| zb _)
  all_goals first|omega|skip
  refine (zeK (i:=2) (j:=3) (o:=0) (T:=85) (cs:= [if i=0 then .d .nilp else .tp 2 0,.bsl 3 s.length]) (xs:=s) rfl (by by_cases h0:i=0<;>simp [h0]) rfl rfl rfl zf4 (by omega)).mono ?_
  rintro r h' ⟨rfl,rfl⟩
  have hif:(if i+1=0 then AV.d .nilp else AV.tp 2 0)= .tp 2 0:=if_neg (by omega)
  refine' zc fx
  exact ⟨⟨(i+1,s++C.1),by omega,by simp only [List.length_append];omega,hf⟩,by simp only [AS.le,leT,leH,zf,AsgK,AV.le,AV.leL,AObj.le,inH,idsT,idsH,AV.ids,AV.idsL,AV.idsR,AObj.ids,lk,hget,go_sem,aeq,aeq.aeqF,simprocAttr,hwi,hif,List.length_append]<;>and_intros<;>rfl,by simp;omega⟩
 ·rw [hend,List.drop_length,zfo] at hf
  refine' zc hcmp
  refine (zgr (i:=2) (j:=3) (o:=0) (T:=85) (cs:= [if i=0 then .d .nilp else .tp 2 0,.bsl 3 s.length]) (xs:=s) rfl rfl rfl rfl (by omega)).mono ?_
  rintro r h' ⟨rfl,rfl⟩
  simp only [go_sem,aeq,aeq.aeqF,simprocAttr,hset]
  refine' zc fx
  rw [hf]
@[go_sem] noncomputable def zd0:Ent Tryz.prog 12:= .m2 zfn boolT ztb
open Go Go.Proofs
theorem zoe (dn:Bool) (kind:Int) (cookie:Int) (data:Txt) (hk0:0≤cookie) (hk1:cookie<18446744073709551616) (hd:data.length≤9223372036854775807):ACall Tryz.prog 38 0 [.agg [.d (.bool dn),.d (.int .i64 kind),.d (.int .u64 cookie),.d (.str data)]] [] (fun r _=>r= .d (.str (zaV dn kind cookie data).1)):=by
 refine fbod Tryz.func38 Tryz.ntmps38 (fun base=>?_)
 refine' walkW fx (za zkJ <| zb _)
@[go_sem] noncomputable def zaC:Ent Tryz.prog 38:= .ofL (consL (aggT (consL boolT (consL (intT .i64) (consL (intT .u64) (consL strT nilL)))) (fun p=>p) (fun p=>p) (fun _=>rfl)) nilL) (fun ((dn,kind,cookie,data,_),_)=>(0≤cookie)∧(cookie<18446744073709551616)∧(data.length≤9223372036854775807)) (fun ((dn,kind,cookie,data,_),_)=> .d (.str (zaV dn kind cookie data).1)) (fun ((dn,kind,cookie,data,_),_) hp=>⟨rfl,zoe dn kind cookie data hp.1 hp.2.1 hp.2.2⟩)
theorem zmo (q:Rq) (e:Int) (ch:Bool) (hp:RqOk q∧0≤e∧e<4294967296):AC 15 [rqA q,.d (.int .u32 e),.d (.bool ch)] (.d (.str (zdm q e ch))):=by
 obtain ⟨h,h0,h1⟩:=hp
 refine fbod Tryz.func15 Tryz.ntmps15 (fun base=>?_)
 have hc0:=h.c0
 have hc1:=h.c1
 have hfl:=zmn e
 cases he:(e==0) with
 |true=>
  refine' walkW he (za zaC <| za zfp <| za zat <| zb _)
  rw [zdm,if_pos (beqP he)]
 | false=>
  cases ch with
  |true=>
   refine' walkW he (za zaC <| za zfp <| za zat <| zb _)
   all_goals first|omega|skip
   rw [zdm,if_neg (beqN he),if_pos rfl]
  |false=>
   refine' walkW he (za zaC <| za zfp <| za zat <| zb _)
   all_goals first|omega|decide|skip
   rw [zdm,if_neg (beqN he),if_neg (by decide)]
@[go_sem] noncomputable def zaD:Ent Tryz.prog 15:= .m3 rqA_T (intT .u32) boolT zmo
theorem zof (t:Tsk) (ch:Bool) (h:TsOk t):AC 13 [tskA t,.d (.bool ch)] (.d (.str (zcJ t ch))):=by
 refine fbod Tryz.func13 Tryz.ntmps13 (fun base=>?_)
 have hok:=h.ok
 have hc0:=h.ok.c0
 have hc1:=h.ok.c1
 have hf0:=h.ok.f0
 have hf1:=h.ok.f1
 have he0:=h.err0
 have he1:=h.err1
 have hdl:=h.data
 have hdl2:(rdata t.q.frm t.data).length≤9223372036854775807:=by simp only [rdata,List.length_append,zu];omega
 obtain ⟨Z,hZ⟩:∃Z,Z=zcJ t ch:=⟨_,rfl⟩
 rw [← hZ]
 unfold zcJ at hZ
 cases hd:t.done with
 |false=>
  rw [if_pos hd] at hZ
  refine' walkW hd (za zaC <| za zaD <| za zat <| za zbP <| za zbf <| zb _)
  rw [hZ]
 |true=>
 rw [if_neg (by rw [hd];decide)] at hZ
 cases he:(t.err !=0) with
 |true=>
  rw [if_pos (bneP he)] at hZ
  refine' walkW (zk hd he) (za zaC <| za zaD <| za zat <| za zbP <| za zbf <| zb _)
  rw [hZ]
 |false=>
 rw [if_neg (bneN he)] at hZ
 cases ch with
 |false=>
  rw [if_pos rfl] at hZ
  refine' walkW (zk hd he) (za zaC <| za zaD <| za zat <| za zbP <| za zbf <| zb _)
  all_goals first|omega|decide|skip
  rw [hZ]
 |true=>
 rw [if_neg (by decide)] at hZ
 cases hk0:(t.q.kind==0) with
 |true=>
  rw [if_pos (beqP hk0)] at hZ
  refine' walkW (zr hd he hk0) (za zaC <| za zaD <| za zat <| za zbP <| za zbf <| zb _)
  all_goals first|omega|skip
  rw [hZ]
 |false=>
 rw [if_neg (beqN hk0)] at hZ
 cases hk7:(t.q.kind==7) with
 |false=>
  rw [if_neg (beqN hk7)] at hZ
  refine' walkW (zS hd he hk0 hk7) (za zaC <| za zaD <| za zat <| za zbP <| za zbf <| zb _)
  all_goals first|omega|decide|skip
  rw [hZ]
 |true=>
 rw [if_pos (beqP hk7)] at hZ
 refine' walkW (zS hd he hk0 hk7) (za zaC <| za zaD <| za zat <| za zbP <| za zbf <| zb _)
 have hsl:=h.spans
 obtain ⟨L,hL⟩:∃L,L=t.spans:=⟨_,rfl⟩
 have hrw:=h.rows
 rw [← hL] at hsl hrw hZ
 refine zo (fun q: { q:Nat×Txt // q.1≤L.length∧q.2.length≤4024*q.1∧Z=zfo t.q (L.drop q.1) q.2 } =>⟨[(2,true,.vp 0 0),(5,true,.vp 1 0),(8,true,.d (.str q.1.2)),(9,true,.d (.int .i64 q.1.1))],[(1,.var [.d (.int .i64 t.q.flags),.d (.int .i64 t.q.kind),.d (.int .u64 t.q.cookie),.d (.int .u64 t.q.frm),.d (.int .u32 t.q.len),.d (.str t.q.data)]),(0,.var [.d (.int .i64 t.q.flags),.d (.int .i64 t.q.kind),.d (.int .u64 t.q.cookie),.d (.int .u64 t.q.frm),.d (.int .u32 t.q.len),.d (.str t.q.data),.d (.sl 3 (t.cuts.map cutD)),.d (.int .i64 t.loc),.d (.int .u32 t.err),.d (.str t.data),.d (.sl 2 (L.map spnD)),.d (.bool true)])],some []⟩) (fun q=>L.length - q.1.1) ⟨(0,[]),Nat.zero_le _,Nat.zero_le _,hZ⟩ (by simp only [AS.le,leT,leH,zf,AsgK,AV.le,AV.leL,AObj.le,inH,idsT,idsH,AV.ids,AV.idsL,AV.idsR,AObj.ids,lk,hget,go_sem,aeq,aeq.aeqF,simprocAttr,hL]<;>and_intros<;>rfl) (fun q=>?_)
 obtain ⟨⟨i,s⟩,hi,hs,hf⟩:=q
 simp only at hi hs hf ⊢
 rcases zD spnD L i hi with ⟨p,hq,hlt,hcmp,hrow,hdr,htk⟩|⟨hend,hcmp⟩
 ·simp only [spnD] at hrow
  have hwi:=zn (i:=i) (by omega)
  obtain ⟨hp0,hp1,hp2⟩:=hrw p (List.mem_of_getElem? hq)
  rw [hdr,zfo] at hf
  have hdn:((i:Int)==IntKind.i64.wrap ((L.length:Int) - 1))=(L.drop (i+1)).isEmpty:=by
   rw [ze (by omega) (by omega),Bool.eq_iff_iff,beq_iff_eq,List.isEmpty_iff,List.drop_eq_nil_iff]
   omega
  obtain ⟨S,hS⟩:∃S,S=zcI p.ctx p.list:=⟨_,rfl⟩
  have hSl:=zf7 (c:=p.ctx) (l:=p.list)
  rw [← hS] at hf hSl
  have hcl:=zjO (dn:=(L.drop (i+1)).isEmpty) (k:=5) (c:=t.q.cookie) (s:=S.1)
  obtain ⟨C,hC⟩:∃C,C=zaV (L.drop (i+1)).isEmpty 5 t.q.cookie S.1:=⟨_,rfl⟩
  rw [← hC] at hf hcl
  refine' walkW (zaH hcmp hrow hS.symm hdn hC.symm) (za zaC <| za zaD <| za zat <| za zbP <| za zbf <| zb _)
  all_goals first|omega|skip
  exact ⟨⟨(i+1,s++C.1),by omega,by simp only [List.length_append];omega,hf⟩,lev,by simp;omega⟩
 ·rw [hend,List.drop_length,zfo] at hf
  refine' zc hcmp
  rw [hf]
@[go_sem] noncomputable def zgv:Ent Tryz.prog 13:= .m2 zfn boolT zof
end Go.Aw
