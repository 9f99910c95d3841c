/-
 Replies as bytes, the reference's.
-/
import Derived.Test.YtgldbfelccddbaaGreatPart17
set_option maxRecDepth 100000
set_option maxHeartbeats 2000000
set_option linter.unusedSimpArgs false
set_option linter.unusedVariables false
namespace Go.Aw
open Go Go.Proofs
theorem zmI (err:Int) (cookie:Int) (data:Txt) (h0:0≤err) (h1:err<4294967296) (hk0:0≤cookie) (hk1:cookie<18446744073709551616) (hd:data.length≤9223372036854775807):ACall Tryz.prog 126 0 [.agg [.d (.int .u32 err),.d (.int .u64 cookie),.d (.str data)]] [] (fun r _=>r= .tup [.d (.str (zb7 err cookie data).1),.d (.int .i64 (zb7 err cookie data).2)]):=by
 refine fbod Tryz.func126 Tryz.ntmps126 (fun base=>?_)
 have hw:IntKind.u64.wrap err=err:=zA U U
 have hl4:=zu err.toNat 4
 have hl8:=zu cookie.toNat 8
 have hdd:(data== [])=decide (data= []):=by cases data<;>simp
 by_cases hr:4096<(data.length:Int)∨err≠0∧data≠ []
 ·have hdec:(decide (4096<(data.length:Int))||(err !=0&&data != []))=true:=by
   simp only [Bool.or_eq_true,Bool.and_eq_true,decide_eq_true_eq,bne_iff_ne]
   exact hr
  refine' walkW hdec (za zt <| zb _)
  all_goals first|(simp_all;done)|skip
  rw [zb7,if_pos hr]
 ·have hdec:(decide (4096<(data.length:Int))||(err !=0&&data != []))=false:=by
   rw [← Bool.not_eq_true]
   simp only [Bool.or_eq_true,Bool.and_eq_true,decide_eq_true_eq,bne_iff_ne]
   exact hr
  refine' walkW (zo hdec hw @zeR @zeS @List.length_append.{0} (zj hl4 hl8)) (za zt <| zb _)
  all_goals first|omega|(simp_all;done)|skip
  rw [zb7,if_neg hr]
  rfl
@[go_sem] noncomputable def zav:Ent Tryz.prog 126:= .ofL (consL (aggT (consL (intT .u32) (consL (intT .u64) (consL strT nilL))) (fun p=>p) (fun p=>p) (fun _=>rfl)) nilL) (fun ((err,cookie,data,_),_)=>(0≤err)∧(err<4294967296)∧(0≤cookie)∧(cookie<18446744073709551616)∧(data.length≤9223372036854775807)) (fun ((err,cookie,data,_),_)=> .tup [.d (.str (zb7 err cookie data).1),.d (.int .i64 (zb7 err cookie data).2)]) (fun ((err,cookie,data,_),_) hp=>⟨rfl,zmI err cookie data hp.1 hp.2.1 hp.2.2.1 hp.2.2.2.1 hp.2.2.2.2⟩)
theorem zox (dn:Bool) (kind:Int) (cookie:Int) (data:Txt) (hk0:0≤cookie) (hk1:cookie<18446744073709551616) (hd:data.length≤9223372036854775807):ACall Tryz.prog 201 0 [.agg [.d (.bool dn),.d (.int .i64 kind),.d (.int .u64 cookie),.d (.str data)]] [] (fun r _=>r= .tup [.d (.str (za2 dn kind cookie data).1),.d (.int .i64 (za2 dn kind cookie data).2)]):=by
 refine fbod Tryz.func201 Tryz.ntmps201 (fun base=>?_)
 have hl2:=fun n=>zu n 2
 have hl4:=zu data.length 4
 have hl8:=zu cookie.toNat 8
 by_cases hr:kind<0∨65535<kind
 ·have hdec:(decide (kind<0)||decide (65535<kind))=true:=by simpa using hr
  refine' walkW hdec (za zt <| zb _)
  rw [za2,if_pos hr]
 ·have hdec:(decide (kind<0)||decide (65535<kind))=false:=by simpa using hr
  have hw1:IntKind.u64.wrap kind=kind:=zA U U
  have hw2:IntKind.u64.wrap (data.length:Int)=data.length:=zA U U
  cases hs:decide (4128<(data.length:Int)) with
  |true=>
   refine' walkW (zj hdec hs) (za zt <| zb _)
   rw [za2,if_neg hr,if_pos cj]
  | false=>
   have hs2:¬4128<(data.length:Int):=cj
   cases dn with
   |true=>
    refine' walkW (zo hdec hs hw1 hw2 @zjH (zo @zeR @zeS @List.length_append.{0} hl2 hl4 (zj hl8 natC))) (za zt <| zb _)
    all_goals first|omega|skip
    all_goals (rw [za2,if_neg hr,if_neg hs2];rfl)
   |false=>
    refine' walkW (zo hdec hs hw1 hw2 @zjH (zo @zeR @zeS @List.length_append.{0} hl2 hl4 (zj hl8 natC))) (za zt <| zb _)
    all_goals first|omega|skip
    all_goals (rw [za2,if_neg hr,if_neg hs2];rfl)
@[go_sem] noncomputable def zk8:Ent Tryz.prog 201:= .ofL (consL (aggT (consL boolT (consL (intT .i64) (consL (intT .u64) (consL strT nilL)))) (fun p=>p) (fun p=>p) (fun _=>rfl)) nilL) (fun ((dn,kind,cookie,data,_),_)=>(0≤cookie)∧(cookie<18446744073709551616)∧(data.length≤9223372036854775807)) (fun ((dn,kind,cookie,data,_),_)=> .tup [.d (.str (za2 dn kind cookie data).1),.d (.int .i64 (za2 dn kind cookie data).2)]) (fun ((dn,kind,cookie,data,_),_) hp=>⟨rfl,zox dn kind cookie data hp.1 hp.2.1 hp.2.2⟩)
theorem zq9 (frm:Int) (s:Txt) (hp:0≤frm∧frm<18446744073709551616∧s.length≤1000000):AC 128 [.d (.int .u64 frm),.d (.str s)] (.d (.str (rdata frm s))):=by
 obtain ⟨h0,h1,hs⟩:=hp
 refine fbod Tryz.func128 Tryz.ntmps128 (fun base=>?_)
 have hl8:=zu frm.toNat 8
 refine' walkW (zq @zeS @List.length_append.{0} hl8) (za zt <| zb _)
 all_goals first|omega|rfl
@[go_sem] noncomputable def zbO:Ent Tryz.prog 128:= .m2 (intT .u64) strT zq9
theorem zra (e:Int) (hp:0≤e∧e<4294967296):AC 195 [.d (.int .u32 e)] (.d (.str (rfail e))):=by
 obtain ⟨h0,h1⟩:=hp
 refine fbod Tryz.func195 Tryz.ntmps195 (fun base=>?_)
 have hw:IntKind.u64.wrap e=e:=zA U U
 have hl4:=zu e.toNat 4
 refine' walkW (zq hw @zeR hl4) (za zt <| zb _)
 all_goals first|omega|rfl
@[go_sem] noncomputable def ze0:Ent Tryz.prog 195:= .m1 (intT .u32) zra
theorem ztU (e:Ext):(decide (e.len<1)||decide (4294967295<e.len)||decide (e.flags<0)||decide (4294967295<e.flags))= !extOk e:=by
 rw [Bool.eq_iff_iff,Bool.not_eq_true',← Bool.not_eq_true,extOk]
 simp only [Bool.or_eq_true,Bool.and_eq_true,decide_eq_true_eq]
 omega
theorem zmJ (ctx:Int) (l:List Ext) (hp:0≤ctx∧ctx<4294967296∧l.length≤9223372036854775807):AC 129 [.d (.int .u32 ctx),.d (.sl 2 (l.map extD))] (.tup [.d (.str (zdV ctx l).1),.d (.int .i64 (zdV ctx l).2)]):=by
 obtain ⟨h0,h1,hl⟩:=hp
 refine fbod Tryz.func129 Tryz.ntmps129 (fun base=>?_)
 obtain ⟨Z,hZ⟩:∃Z,Z=zdV ctx l:=⟨_,rfl⟩
 rw [← hZ]
 rw [zdV] at hZ
 have hw:IntKind.u64.wrap ctx=ctx:=zA U U
 have hl4:=fun n=>zu n 4
 by_cases hr:l.length=0∨500<l.length
 ·rw [if_pos hr] at hZ
  have hdec:((l.length:Int)==0||decide (500<(l.length:Int)))=true:=by
   simp only [Bool.or_eq_true,beq_iff_eq,decide_eq_true_eq];omega
  refine' walkW hdec (za zt <| zb _)
  rw [hZ]
 ·rw [if_neg hr] at hZ
  have hdec:((l.length:Int)==0||decide (500<(l.length:Int)))=false:=by
   rw [← Bool.not_eq_true]
   simp only [Bool.or_eq_true,beq_iff_eq,decide_eq_true_eq];omega
  refine' walkW (zq hdec hw @zeR) (za zt <| zb _)
  refine zk (fun q: { q:Nat×Txt // q.1≤l.length∧q.2.length=4+8*q.1∧Z=rrows (l.drop q.1) q.2 } =>⟨[(1,true,.d (.sl 2 (l.map extD))),(6,true,.d (.str q.1.2)),(7,true,.d (.int .i64 q.1.1))],[],some []⟩) (fun q=>l.length - q.1.1) ⟨(0,putN ctx.toNat 4),Nat.zero_le _,zu _ _,hZ⟩ le1 (fun q=>?_)
  obtain ⟨⟨i,s⟩,hi,hs,hf⟩:=q
  simp only at hi hs hf ⊢
  rcases zy extD l i hi with ⟨e,hq,hlt,hcmp,hrow,hdr,htk⟩|⟨hend,hcmp⟩
  ·simp only [extD] at hrow
   have hwi:=zn (i:=i) U
   have hn:=ztU e
   rw [hdr,rrows] at hf
   cases he:extOk e with
   |false=>
    rw [he] at hf hn
    rw [if_neg ae] at hf
    refine' walkW (zq hcmp hrow hn) (za zt <| zb _)
    rw [hf]
   |true=>
    rw [he] at hf hn
    rw [if_pos rfl] at hf
    have he2:=he
    unfold extOk at he2
    simp only [Bool.and_eq_true,decide_eq_true_eq] at he2
    have hw1:IntKind.u64.wrap e.len=e.len:=zA U U
    have hw2:IntKind.u64.wrap e.flags=e.flags:=zA U U
    refine' walkW (zo hcmp hrow hn hw1 hw2 (zq @zeR @List.length_append.{0} hl4)) (za zt <| zb _)
    all_goals first|omega|skip
    exact ⟨⟨(i+1,s++putN e.len.toNat 4++putN e.flags.toNat 4),U,by simp only [List.length_append,hl4];omega,hf⟩,lev,af⟩
  ·refine' walkW hcmp (za zt <| zb _)
   rw [hf,hend,List.drop_length]
   rfl
@[go_sem] noncomputable def zbf:Ent Tryz.prog 129:= .m2 (intT .u32) (slT 2 extD zgq) zmJ
end Go.Aw
