/-
  Parts of the proof: TaskH, TaskQ, TaskR (short names; the readable texts lie in the repo, under wip).
-/
import Derived.Test.YtgkjmbopnaeanaaGreatPart39
import Derived.Test.YtgkjmbopnaeanaaGreatPart40
set_option maxRecDepth 100000
set_option maxHeartbeats 2000000
set_option linter.unusedSimpArgs false
set_option linter.unusedVariables false
namespace Go.Aw
open Go Go.Proofs
structure TkOk (x:Img) (t:Tsk):Prop where
 ok:RqOk t.q
 img:ImgF x
 g0:0≤x.geom.guest
 maps:x.maps.length≤5000
 frm:t.q.frm≤1000000
 lo:0≤t.loc
 hi:t.loc≤65536
 len:t.cuts.length≤65536
 cut:∀c∈t.cuts,c.1*128+c.2.1≤1000000∧c.2.2≤128∧(t.q.kind=1→t.q.frm≤c.1*128+c.2.1∧(c.1*128+c.2.1+c.2.2:Int)≤t.q.frm+t.q.data.length)
 kind:t.cuts≠ []→t.q.kind=0∨t.q.kind=1∨t.q.kind=4∨t.q.kind=6
 data:t.data.length≤1000000
 spans:t.done=false→t.spans= []
theorem Tiv.ok {q:Rq} {x:Img} {t:Tsk} {ms:List Int} (h:Tiv q t) (hf:RqF x q ms):TkOk x t:=by
 have hq:=h.rq
 have hc:=h.cuts
 have hl:=zfK q
 have hf0:=hf.ok.f0
 have hl0:=hf.ok.l0
 have hg:=hf.g1
 have hr:=hf.rng
 have hln:=hf.len
 have hlo:=h.lo
 have hhi:=h.hi
 refine ⟨by rw [hq];exact hf.ok,hf.img,by have:=hf.g0;omega,by have:=hf.maps;omega,by rw [hq];omega,h.lo,?_,by rw [hc];exact hl,fun c hcm=>?_,fun hne=>?_,?_,fun hd=>(h.fresh hd).1⟩
 ·rw [hc] at hhi;omega
 ·rw [hc] at hcm
  unfold tnew at hcm
  simp only at hcm
  split at hcm
  ·have:=zdf c hcm
   have h2:=zfH _ _ c hcm
   refine ⟨by omega,h2,fun hk=>?_⟩
   rw [hq] at hk ⊢
   have h3:=hf.data hk
   omega
  ·cases hcm
 ·rw [hc] at hne
  unfold tnew at hne
  simp only at hne
  split at hne
  ·rename_i h1
   have h2:=h1.1
   unfold isPc at h2
   simp only [Bool.or_eq_true,beq_iff_eq] at h2
   rw [hq]
   omega
  ·exact absurd rfl hne
 ·have h1:=h.data
  have h2:=ziz t.cuts t.loc.toNat
  have h3:csz t.cuts≤q.len.toNat:=by
   rw [hc]
   unfold tnew
   simp only
   split
   ·exact ziA
   ·exact Nat.zero_le _
  omega
theorem zkM (f k:Int):(ibits .and .i64 f k==0)= !hasF f k:=by unfold hasF;simp [bne]
def tpcK (x:Img) (t:Tsk) (c:Nat×Nat×Nat):Img×Tsk:=((tpc x t.q c).1,if (tpc x t.q c).2.2≠0 then tfail { t with loc:=t.loc+1 } (tpc x t.q c).2.2 else { t with loc:=t.loc+1,data:=t.data++(tpc x t.q c).2.1,done:=(t.loc+1==(t.cuts.length:Int))&& !hasF t.q.flags 1 })
def tpcG (x:Img) (t:Tsk):Img×Tsk:=tpcK x t (t.cuts.getD t.loc.toNat (0,0,0))
def zs5 (x:Img) (t:Tsk) (ms:List Int):Img×Tsk:=((tlast x t.q ms).1,if (tlast x t.q ms).2.2≠0 then tfail t (tlast x t.q ms).2.2 else { t with spans:=(tlast x t.q ms).2.1,done:=true })
theorem zpu {x:Img} {t:Tsk} {ms:List Int} (hd:t.done=false) (hl:t.loc.toNat<t.cuts.length):tstep x t ms=tpcG x t:=by
 unfold tstep
 rw [hd,if_neg (by decide),tpcG,List.getD_eq_getElem?_getD,List.getElem?_eq_getElem hl]
 rfl
theorem zjN {x:Img} {t:Tsk} {ms:List Int} (hd:t.done=false) (hl:t.cuts.length≤t.loc.toNat):tstep x t ms=zs5 x t ms:=by
 unfold tstep
 rw [hd,if_neg (by decide),List.getElem?_eq_none hl]
 rfl
theorem zoa (x:Img) (t:Tsk) (hp:TkOk x t∧t.loc<t.cuts.length):AC 55 [imgA x,tskA t] (.tup [imgA (tpcG x t).1,tskA (tpcG x t).2]):=by
 obtain ⟨h,hl⟩:=hp
 refine fbod Tryz.func55 Tryz.ntmps55 (fun base=>?_)
 obtain ⟨k,hk⟩:∃k:Nat,t.loc=k:=⟨t.loc.toNat,by have:=h.lo;omega⟩
 have hhi:=h.hi
 have hln:=h.len
 have hnf:=zkM t.q.flags 1
 have hnh:=zkM t.q.flags 2
 have hmp:=h.maps
 have hio:=h.img
 have hg0:=h.g0
 have hf0:=h.ok.f0
 have hf1:=h.ok.f1
 have hds:=h.ok.d
 obtain ⟨⟨c0,c1,c2⟩,hc⟩:=zai (l:=t.cuts) (i:=k) (by omega)
 have hrow:=za1 (g:=cutD) hc
 simp only [cutD] at hrow
 obtain ⟨hm1,hm2,hm3⟩:=h.cut _ (List.mem_of_getElem? hc)
 simp only at hm1 hm2 hm3
 obtain ⟨Z,hZ⟩:∃Z,Z=tpcG x t:=⟨_,rfl⟩
 rw [← hZ]
 rw [tpcG,List.getD_eq_getElem?_getD,show t.loc.toNat=k by omega,hc] at hZ
 simp only [Option.getD_some] at hZ
 obtain ⟨P,hP⟩:∃P,P=tpc x t.q (c0,c1,c2):=⟨_,rfl⟩
 rw [tpcK,← hP] at hZ
 have hlk:(t.loc+1:Int)=((k+1:Nat):Int):=by omega
 have hdl:=h.data
 have hwk:IntKind.i64.wrap ((k:Int)+1)=((k+1:Nat):Int):=by rw [ze (by omega) (by omega)];omega
 have hw1:IntKind.i64.wrap ((c0:Int)*128)=c0*128:=ze (by omega) (by omega)
 have hw2:IntKind.i64.wrap ((c0:Int)*128+c1)=c0*128+c1:=ze (by omega) (by omega)
 rw [hlk] at hZ
 have hpl:=zsW (x:=x) (q:=t.q) (c:=(c0,c1,c2))
 rw [← hP] at hpl
 simp only at hpl
 rcases h.kind (by intro e;rw [e] at hc;cases hc) with hq|hq|hq|hq
 ·have e0:(t.q.kind==0)=true:=by simpa using hq
  obtain ⟨R,hR⟩:∃R,R=iread x (c0*128+c1) c2:=⟨_,rfl⟩
  have hPe:P=(x,R):=by rw [hP,tpc,if_pos hq,hR]
  rw [hPe] at hZ hpl
  simp only at hZ hpl
  cases he:(R.2 !=0) with
  |true=>
   rw [if_pos (by simpa using he)] at hZ
   refine' walkW (zq hk hrow e0 hw1 hw2 (zS hwk hR.symm he natC)) (za za7 <| za za6 <| za zbo <| za zM <| zb _)
   all_goals first|omega|(rw [hZ];done)|(rw [hZ];rfl)|skip
  |false=>
   rw [if_neg (by simpa using he)] at hZ
   refine' walkW (zq hk hrow e0 hw1 hw2 (zaH hwk hR.symm he hnf natC)) (za za7 <| za za6 <| za zbo <| za zM <| zb _)
   all_goals first|omega|(rw [hZ];done)|(rw [hZ];rfl)|skip
 ·have e0:(t.q.kind==0)=false:=by simp [hq]
  have e1:(t.q.kind==1)=true:=by simp [hq]
  obtain ⟨h1,h2⟩:=hm3 hq
  have hwq:IntKind.i64.wrap t.q.frm=t.q.frm:=ze (by omega) (by omega)
  have hwf:IntKind.i64.wrap ((c0:Int)*128+c1 - t.q.frm)=c0*128+c1 - t.q.frm:=ze (by omega) (by omega)
  have hwg:IntKind.i64.wrap ((c0:Int)*128+c1 - t.q.frm+c2)=c0*128+c1 - t.q.frm+c2:=ze (by omega) (by omega)
  obtain ⟨s,hs⟩:∃s,s=(t.q.data.take ((c0:Int)*128+c1 - t.q.frm+c2).toNat).drop ((c0:Int)*128+c1 - t.q.frm).toNat:=⟨_,rfl⟩
  have hsl:s.length≤9223372036854775807:=by rw [hs,List.length_drop,List.length_take];omega
  obtain ⟨R,hR⟩:∃R,R=zbk x c0 c1 s:=⟨_,rfl⟩
  have hPe:P=(R.1,[],R.2):=by rw [hP,tpc,if_neg (by rw [hq];decide),if_pos hq,hR,hs]
  rw [hPe] at hZ
  simp only [List.append_nil] at hZ
  cases he:(R.2 !=0) with
  |true=>
   rw [if_pos (by simpa using he)] at hZ
   refine' walkW (zq hk hrow e0 e1 hw1 (zq hw2 hwk hwq hwf hwg (zS hs.symm hR.symm he natC))) (za za7 <| za za6 <| za zbo <| za zM <| zb _)
   all_goals first|omega|(rw [hZ];done)|(rw [hZ];rfl)|skip
  |false=>
   rw [if_neg (by simpa using he)] at hZ
   refine' walkW (zq hk hrow e0 e1 hw1 (zq hw2 hwk hwq hwf hwg (zaH hs.symm hR.symm he hnf natC))) (za za7 <| za za6 <| za zbo <| za zM <| zb _)
   all_goals first|omega|(rw [hZ];done)|(rw [hZ];rfl)|skip
 all_goals
  have e0:(t.q.kind==0)=false:=by simp [hq]
  have e1:(t.q.kind==1)=false:=by simp [hq]
  obtain ⟨hole,hh⟩:∃hole,hole=(t.q.kind==4|| !hasF t.q.flags 2):=⟨_,rfl⟩
  obtain ⟨R,hR⟩:∃R,R=zbE hole (c0,c1,c2) x:=⟨_,rfl⟩
  have hPe:P=(R.1,[],R.2):=by rw [hP,tpc,if_neg (by rw [hq];decide),if_neg (by rw [hq];decide),← hh,hR]
  rw [hPe] at hZ
  simp only [List.append_nil] at hZ
  unfold zbE at hR
  simp only at hR
  by_cases h128:c2=128
  ·have e2:((c2:Int)==128)=true:=by simp;omega
   rw [if_pos h128] at hR
   cases he:(R.2 !=0) with
   |true=>
    rw [if_pos (by simpa using he)] at hZ
    refine' walkW (zq hk hrow e0 e1 hw1 (zq hw2 hwk hnh hh.symm e2 (zr hR.symm he natC))) (za za7 <| za za6 <| za zbo <| za zM <| zb _)
    all_goals first|omega|(rw [hZ];done)|(rw [hZ];rfl)|skip
   |false=>
    rw [if_neg (by simpa using he)] at hZ
    refine' walkW (zq hk hrow e0 e1 hw1 (zq hw2 hwk hnh hh.symm e2 (zS hR.symm he hnf natC))) (za za7 <| za za6 <| za zbo <| za zM <| zb _)
    all_goals first|omega|(rw [hZ];done)|(rw [hZ];rfl)|skip
  ·have e2:((c2:Int)==128)=false:=by simp;omega
   rw [if_neg h128] at hR
   cases he:(R.2 !=0) with
   |true=>
    rw [if_pos (by simpa using he)] at hZ
    refine' walkW (zq hk hrow e0 e1 hw1 (zq hw2 hwk hnh hh.symm e2 (zq hR.symm he natC @zdx @zgl (zaH @zhC @if_true.{1} @zap @za2 @List.length_replicate.{0})))) (za za7 <| za za6 <| za zbo <| za zM <| zb _)
    all_goals first|omega|(rw [hZ];done)|(rw [hZ];rfl)|skip
   |false=>
    rw [if_neg (by simpa using he)] at hZ
    refine' walkW (zq hk hrow e0 e1 hw1 (zq hw2 hwk hnh hh.symm e2 (zq hR.symm he hnf natC @zdx (zq @zgl @zhC @if_true.{1} @zap @za2 @List.length_replicate.{0})))) (za za7 <| za za6 <| za zbo <| za zM <| zb _)
    all_goals first|omega|(rw [hZ];done)|(rw [hZ];rfl)|skip
@[go_sem] noncomputable def zaM:Ent Tryz.prog 55:= .m2 zaO zfn zoa
open Go Go.Proofs
def tskV (t:Tsk) (v:AV):List AV:= [.d (.int .i64 t.q.flags),.d (.int .i64 t.q.kind),.d (.int .u64 t.q.cookie),.d (.int .u64 t.q.frm),.d (.int .u32 t.q.len),.d (.str t.q.data),.d (.sl 3 (t.cuts.map cutD)),.d (.int .i64 t.loc),.d (.int .u32 t.err),.d (.str t.data),v,.d (.bool t.done)]
attribute [go_sem] tskV
@[go_sem] abbrev tskS (t:Tsk):List AV:=tskV t (.d (.sl 2 (t.spans.map spnD)))
def tsk0:List AV:= [.d (.int .i64 0),.d (.int .i64 0),.d (.int .u64 0),.d (.int .u64 0),.d (.int .u32 0),.d (.str []),.nils 3,.d (.int .i64 0),.d (.int .u32 0),.d (.str []),.nils 2,.d (.bool false)]
attribute [go_sem] tsk0
def rqV (q:Rq):List AV:= [.d (.int .i64 q.flags),.d (.int .i64 q.kind),.d (.int .u64 q.cookie),.d (.int .u64 q.frm),.d (.int .u32 q.len),.d (.str q.data)]
attribute [go_sem] rqV
theorem zjR {x:Img} {q:Rq} {Z:List Spn×Int} {k:Int} {r:List Int} {l:List Spn} (h:Z=tctxL x q (k::r) l):Z=if (tctx x q k).2≠0 then ([],(tctx x q k).2) else tctxL x q r (l++ [⟨k,(tctx x q k).1⟩]):=by rw [h,tctxL]
theorem zqT (x:Img) (t:Tsk) (ms:List Int) (hp:TkOk x t∧ms.length≤1000∧(∀m∈ms,0≤m∧m<4294967296)):AC 22 [imgA x,tskA t,.d (.sl 1 (ms.map u32D))] (.tup [imgA (tstep x t ms).1,tskA (tstep x t ms).2]):=by
 obtain ⟨h,hm,hr⟩:=hp
 refine fbod Tryz.func22 Tryz.ntmps22 (fun base=>?_)
 obtain ⟨Z,hZ⟩:∃Z,Z=tstep x t ms:=⟨_,rfl⟩
 rw [← hZ]
 have hio:=h.img
 have hg0:=h.g0
 have hmp:=h.maps
 have hok:=h.ok
 have hfr:=h.frm
 have hlo:=h.lo
 cases hd:t.done with
 |true=>
  rw [zfJ hd] at hZ
  refine' walkW hd (za zaM <| za zaL <| za zM <| za zaw <| zb _)
  all_goals first|(rw [hZ];done)|(rw [hZ,← hd];done)|(rw [hZ,← hd];rfl)|skip
 |false=>
 have hsp:=h.spans hd
 by_cases hl:t.loc<t.cuts.length
 ·have hb:decide (t.loc<(t.cuts.length:Int))=true:=decide_eq_true hl
  rw [zpu hd (by omega)] at hZ
  refine' walkW (zr hd hb hZ.symm) (za zaM <| za zaL <| za zM <| za zaw <| zb _)
  all_goals first|omega|(rw [← hd];exact h)|(simp only [*,Bool.not_false,Bool.and_self];done)|(rw [hZ];done)|(rw [hZ];rfl)|(rw [hZ,hsp];done)|(rw [hZ,hsp];rfl)|skip
 have hb:decide (t.loc<(t.cuts.length:Int))=false:=decide_eq_false hl
 rw [zjN hd (by omega),zs5,tlast] at hZ
 have hfl:∀c:Bool,c=(t.q.kind==3||(t.q.kind !=7&&(ibits .and .i64 t.q.flags 1 !=0)))→(c=true→t.q.kind≠7∧(t.q.kind=3∨hasF t.q.flags 1=true))∧(c=false→t.q.kind=7∨¬(t.q.kind=3∨hasF t.q.flags 1=true)):=by
  rintro c rfl
  unfold hasF
  by_cases h3:t.q.kind=3
  ·rw [h3];simp
  ·by_cases h7:t.q.kind=7
   ·rw [h7];simp
   ·simp [h3,h7]
 cases hc1:(t.q.kind==3||(t.q.kind !=7&&(ibits .and .i64 t.q.flags 1 !=0))) with
 | true=>
  obtain ⟨h7,h3⟩:=(hfl _ rfl).1 hc1
  rw [if_neg h7,if_pos h3] at hZ
  obtain ⟨F,hF⟩:∃F,F=zdp x:=⟨_,rfl⟩
  rw [← hF] at hZ
  cases he:(F.2 !=0) with
  |true=>
   rw [if_pos (by simpa using he)] at hZ
   refine' walkW (zaH hd hb hc1 hF.symm he) (za zaM <| za zaL <| za zM <| za zaw <| zb _)
   all_goals first|omega|(rw [← hd];exact h)|(simp only [*,Bool.not_false,Bool.and_self];done)|(rw [hZ];done)|(rw [hZ];rfl)|(rw [hZ,hsp];done)|(rw [hZ,hsp];rfl)|skip
  |false=>
   rw [if_neg (by simpa using he)] at hZ
   refine' walkW (zaH hd hb hc1 hF.symm he) (za zaM <| za zaL <| za zM <| za zaw <| zb _)
   all_goals first|omega|(rw [← hd];exact h)|(simp only [*,Bool.not_false,Bool.and_self];done)|(rw [hZ];done)|(rw [hZ];rfl)|(rw [hZ,hsp];done)|(rw [hZ,hsp];rfl)|skip
 |false=>
 cases h7:(t.q.kind==7) with
 | false=>
  have h3:¬(t.q.kind=3∨hasF t.q.flags 1=true):=by
   rcases (hfl _ rfl).2 hc1 with h|h
   ·exact absurd h (beqN h7)
   ·exact h
  rw [if_neg (beqN h7),if_neg h3] at hZ
  refine' walkW (zS hd hb hc1 h7) (za zaM <| za zaL <| za zM <| za zaw <| zb _)
  all_goals first|omega|(rw [← hd];exact h)|(simp only [*,Bool.not_false,Bool.and_self];done)|(rw [hZ];done)|(rw [hZ];rfl)|(rw [hZ,hsp];done)|(rw [hZ,hsp];rfl)|skip
 | true=>
  rw [if_pos (beqP h7)] at hZ
  obtain ⟨S,hS⟩:∃S,S=tctxL x t.q ms []:=⟨_,rfl⟩
  rw [← hS] at hZ
  simp only at hZ
  refine' walkW (zS hd hb hc1 h7) (za zaM <| za zaL <| za zM <| za zaw <| zb _)
  all_goals first|(simp only [*,Bool.not_false,Bool.and_self];done)|skip
  refine zcg 11 2 rfl ?_
  simp only [fresh,top,hget, ↓reduceIte]
  refine zo (fun q: { q:Nat×List Spn // q.1≤ms.length∧q.2.length=q.1∧S=tctxL x t.q (ms.drop q.1) q.2 } =>⟨[(2,true,.d (.sl 1 (ms.map u32D))),(3,true,.vp 0 0),(4,true,.vp 1 0),(6,true,.vp 2 0),(7,true,.vp 3 0),(8,true,.vp 4 0),(11,true,.osl 5 2 q.1.2.length 0 q.1.2.length),(12,true,.d (.int .i64 q.1.1))],[(5,.arr 2 (q.1.2.map spnD)),(4,.var (rqV t.q)),(3,.var tsk0),(2,.var img0),(1,.var (tskS t)),(0,.var (imgV x))],some []⟩) (fun q=>ms.length - q.1.1) ⟨(0,[]),Nat.zero_le _,rfl,hS⟩ (by simp only [AS.le,leT,leH,zf,AsgK,AV.le,AV.leL,AObj.le,inH,idsT,idsH,AV.ids,AV.idsL,AV.idsR,AObj.ids,lk,hget,go_sem,aeq,aeq.aeqF,simprocAttr,hd]<;>and_intros<;>rfl) (fun q=>?_)
  obtain ⟨⟨i,L⟩,hi,hLl,hf⟩:=q
  simp only at hi hLl hf ⊢
  rcases zD u32D ms i hi with ⟨k,hq,hlt,hcmp,hrow,hdr,htk⟩|⟨hend,hcmp⟩
  ·simp only [u32D] at hrow
   have hwi:=zn (i:=i) (by omega)
   obtain ⟨hk0,hk1⟩:=hr k (List.mem_of_getElem? hq)
   rw [hdr] at hf
   have hf:=zjR hf
   obtain ⟨C,hC⟩:∃C,C=tctx x t.q k:=⟨_,rfl⟩
   rw [← hC] at hf
   cases he:(C.2 !=0) with
   |true=>
    rw [if_pos (by simpa using he)] at hf
    rw [hf,if_pos (by simpa using he)] at hZ
    refine' walkW (zS hcmp hrow hC.symm he) (za zaM <| za zaL <| za zM <| za zaw <| zb _)
    all_goals first|omega|(rw [← hd];exact h)|(simp only [*,Bool.not_false,Bool.and_self];done)|(rw [hZ];done)|(rw [hZ];rfl)|(rw [hZ,hsp];done)|(rw [hZ,hsp];rfl)|skip
   |false=>
    rw [if_neg (by simpa using he)] at hf
    refine' walkW (zS hcmp hrow hC.symm he) (za zaM <| za zaL <| za zM <| za zaw <| zb _)
    all_goals first|omega|(rw [← hd];exact h)|(simp only [*,Bool.not_false,Bool.and_self];done)|(rw [hZ];done)|(rw [hZ];rfl)|(rw [hZ,hsp];done)|(rw [hZ,hsp];rfl)|skip
    exact ⟨⟨(i+1,L++ [⟨k,C.1⟩]),by omega,by simp [hLl],hf⟩,by simp only [List.map_append,List.length_append,List.length_singleton,List.map_cons,List.map_nil];simp only [AS.le,leT,leH,zf,AsgK,AV.le,AV.leL,AObj.le,inH,idsT,idsH,AV.ids,AV.idsL,AV.idsR,AObj.ids,lk,hget,go_sem,aeq,aeq.aeqF,simprocAttr,hwi,spnD]<;>and_intros<;>rfl,by simp;omega⟩
  ·rw [hend,List.drop_length,tctxL] at hf
   rw [hf,if_neg (by simp)] at hZ
   refine' walkW hcmp (za zaM <| za zaL <| za zM <| za zaw <| zb _)
   all_goals first|omega|(rw [← hd];exact h)|(simp only [*,Bool.not_false,Bool.and_self];done)|(rw [hZ];done)|(rw [hZ];rfl)|(rw [hZ,hsp];done)|(rw [hZ,hsp];rfl)|skip
@[go_sem] noncomputable def zbp:Ent Tryz.prog 22:= .m3 zaO zfn (slT 1 u32D zfI) zqT
theorem ztc (x:Img) (q:Rq) (ms:List Int) (h:RqF x q ms):AC 9 [imgA x,rqA q,.d (.sl 1 (ms.map u32D))] (.tup [imgA (trun x q ms).1,tskA (trun x q ms).2]):=by
 refine fbod Tryz.func9 Tryz.ntmps9 (fun base=>?_)
 obtain ⟨Z,hZ⟩:∃Z,Z=trun x q ms:=⟨_,rfl⟩
 rw [← hZ]
 rw [trun] at hZ
 have hok:=h.ok
 have hlm:=h.lms
 have hmr:∀m∈ms,0≤m∧m<4294967296:=fun m hm=>by have:=h.mr m hm;omega
 have hml:ms.length≤1000:=by omega
 have hnl:=zfK q
 obtain ⟨N,hN⟩:∃N,N=(tnew q).cuts.length:=⟨_,rfl⟩
 obtain ⟨T,hT⟩:∃T,T=tnew q:=⟨_,rfl⟩
 have hTi:Tiv q T:=by rw [hT];exact Tiv.new q
 rw [← hN,← hT] at hZ
 rw [← hN] at hnl
 refine' walkW hT.symm (za zbx <| za za8 <| za zbp <| zb _)
 refine zo (fun p: { p:Nat×Img×Tsk // p.1≤N+1∧Z=trunN ms (N+1 - p.1) p.2.1 p.2.2∧ImgF p.2.1∧IF x p.2.1∧Tiv q p.2.2 } =>⟨[(2,true,.d (.sl 1 (ms.map u32D))),(3,true,.vp 0 0),(4,true,.vp 1 0),(6,true,.vp 2 0),(7,true,.vp 3 0),(8,true,.vp 4 0),(9,true,.d (.int .i64 p.1.1))],[(4,.var (tskS p.1.2.2)),(3,.var tsk0),(2,.var img0),(1,.var (rqV q)),(0,.var (imgV p.1.2.1))],some []⟩) (fun p=>N+1 - p.1.1) ⟨(0,x,T),Nat.zero_le _,hZ,h.img,IF.refl x,hTi⟩ le1 (fun p=>?_)
 obtain ⟨⟨i,X,t⟩,hi,hf,hX,hif,ht⟩:=p
 simp only at hi hf hX hif ht ⊢
 have hc:(tnew q).cuts.length=N:=hN.symm
 cases hd:t.done with
 |true=>
  rw [zgZ _ hd] at hf
  (have tk:=za zbx <| za za8 <| za zbp <| zb Tryz.prog);repeat' (first|((first|(refine sa ?_;intro K hK)|refine sb ?_);simp only [go_sem,aeq,aeq.aeqF,simprocAttr,hd,Bool.not_true,Bool.and_false,Tryz.results9])|refine zae (fun K hK=>?_)|refine sc ?_|refine zar rfl (fun hc=>?_) (fun hc=>?_)|(refine hK _ ?_;clear hK K)|with_reducible refine And.intro ?_ ?_|(refine (show zaX _ _=true from ?_);kernel_rfl)|omega|assumption|refine fun (hg:(_:Bool)=(_:Bool))=>?_|clear hK K)
  all_goals first|(rw [hf,← hd];done)|(rw [hf,← hd];rfl)|skip
 | false=>
  rcases Nat.lt_or_ge i (N+1) with hlt|hge
  ·have hcmp:decide ((i:Int)<((tnew q).cuts.length:Int)+1)=true:=decide_eq_true (by omega)
   have hwi:=zn (i:=i) (by omega)
   have hok2:=ht.ok (h.step hX hif)
   rw [show N+1 - i=(N - i)+1 by omega,trunN] at hf
   obtain ⟨h1,h2⟩:=IF.step hX t ms
   have h3:=ht.step X ms hlm
   obtain ⟨S,hS⟩:∃S,S=tstep X t ms:=⟨_,rfl⟩
   rw [← hS] at hf h1 h2 h3
   have hS2:tstep X ⟨t.q,t.cuts,t.loc,t.err,t.data,t.spans,false⟩ ms=S:=by rw [hS,← hd]
   refine' walkW (zr hcmp hd hS2) (za zbx <| za za8 <| za zbp <| zb _)
   all_goals first|omega|exact hok2|(rw [← hd];exact hok2)|skip
   exact ⟨⟨(i+1,S.1,S.2),by omega,by rw [hf,show N+1 - (i+1)=N - i by omega],h2,hif.trans h1,h3⟩,lev,by simp;omega⟩
  ·have hcmp:decide ((i:Int)<((tnew q).cuts.length:Int)+1)=false:=decide_eq_false (by omega)
   rw [show N+1 - i=0 by omega,trunN] at hf
   refine' walkW (zk hcmp hd) (za zbx <| za za8 <| za zbp <| zb _)
   all_goals first|(rw [hf,← hd];done)|(rw [hf,← hd];rfl)|skip
@[go_sem] noncomputable def ziF:Ent Tryz.prog 9:= .m3 zaO rqA_T (slT 1 u32D zfI) ztc
open Go Go.Proofs
theorem zqY (s:Tw) (h:ImgF s.x) (g0:0≤s.x.geom.guest) (hm:s.x.maps.length≤5000) (hq:RqOk s.q) (hf:s.q.frm≤1000000) (hml:s.ms.length≤1000) (hmr:∀m∈s.ms,0≤m∧m<4294967296):ACall Tryz.prog 88 40 [.vp 4 0] [(4,.var (twV s (.nils 2)))] (fun r h'=>∃ob',h'= [(4,ob')]∧∃L,r= .d (.int .i64 (tctxL s.x s.q s.ms []).2)∧((tctxL s.x s.q s.ms []).2=0→L=(tctxL s.x s.q s.ms []).1)∧ob'= .var (twV s (.d (.sl 2 (L.map spnD))))):=by
 refine zQ (fun i=>decide (i=4)) ?_
 refine bod Tryz.func88 Tryz.ntmps88 (fun base=>?_)
 obtain ⟨S,hS⟩:∃S,S=tctxL s.x s.q s.ms []:=⟨_,rfl⟩
 rw [← hS]
 refine' zc fx
 refine zge 4 10 2 (cs:=twV s (.nils 2)) rfl rfl ?_
 simp only [go_sem,aeq,aeq.aeqF,simprocAttr]
 refine zo (fun q: { q:Nat×List Spn // q.1≤s.ms.length∧q.2.length=q.1∧S=tctxL s.x s.q (s.ms.drop q.1) q.2 } =>⟨[(0,true,.vp 4 0),(10,true,.d (.sl 1 (s.ms.map u32D))),(11,true,.d (.int .i64 s.ms.length)),(12,true,.d (.int .i64 q.1.1))],wcH s q.1.2,some []⟩) (fun q=>s.ms.length - q.1.1) ⟨(0,[]),Nat.zero_le _,rfl,hS⟩ le1 (fun q=>?_)
 obtain ⟨⟨i,L⟩,hi,hLl,hfS⟩:=q
 simp only at hi hLl hfS ⊢
 rcases zD u32D s.ms i hi with ⟨k,hq1,hlt,hcmp,hrow,hdr,htk⟩|⟨hend,hcmp⟩
 ·simp only [u32D] at hrow
  have hwi:=zn (i:=i) (by omega)
  obtain ⟨hk0,hk1⟩:=hmr k (List.mem_of_getElem? hq1)
  rw [hdr] at hfS
  have hfS:=zjR hfS
  refine' zc (zk hcmp hrow)
  refine ((zom s L k h g0 hm hq hf hk0 hk1).whole (z2 rfl) (by omega) (by rintro r h' ⟨_,_,_,_,rfl⟩ i hi;exact hi)).mono ?_
  rintro r h' ⟨v,rfl,hv,hv2,rfl⟩
  obtain ⟨C,hC⟩:∃C,C=tctx s.x s.q k:=⟨_,rfl⟩
  rw [← hC] at hfS hv ⊢
  cases he:(C.2 !=0) with
  | true=>
   rw [if_pos (by simpa using he)] at hfS
   have hvid:v.ids= []∧AV.le v v:=by
    rcases hv2 with rfl|⟨rows,rfl⟩
    ·exact ⟨rfl,AV.le_refl _⟩
    ·exact ⟨rfl,AV.le_refl _⟩
   rcases hv2 with rfl|⟨rows,rfl⟩
   ·simp only [go_sem,aeq,aeq.aeqF,simprocAttr]
    refine' zdS (zbh 5) fx
    refine zc8 40 rfl ?_;simp only [go_sem,aeq,aeq.aeqF,simprocAttr]
    refine' zc he
    all_goals first|omega|exact ⟨_,rfl,L,by rw [hfS],fun h0=>absurd h0 (by rw [hfS];simpa using he),rfl⟩|skip
   ·simp only [go_sem,aeq,aeq.aeqF,simprocAttr]
    refine' zdS (zbh 5) fx
    refine zc8 40 rfl ?_;simp only [go_sem,aeq,aeq.aeqF,simprocAttr]
    refine' zc he
    all_goals first|omega|exact ⟨_,rfl,L,by rw [hfS],fun h0=>absurd h0 (by rw [hfS];simpa using he),rfl⟩|skip
  |false=>
   rw [if_neg (by simpa using he)] at hfS
   rw [hv (by simpa using he)]
   simp only [go_sem,aeq,aeq.aeqF,simprocAttr]
   refine' zc he
   all_goals first|omega|skip
   exact ⟨⟨(i+1,L++ [⟨k,C.1⟩]),by omega,by simp [hLl],hfS⟩,by simp only [wcH,List.map_append,List.length_append,List.length_singleton,List.map_cons,List.map_nil];simp only [AS.le,leT,leH,zf,AsgK,AV.le,AV.leL,AObj.le,inH,idsT,idsH,AV.ids,AV.idsL,AV.idsR,AObj.ids,lk,hget,go_sem,aeq,aeq.aeqF,simprocAttr,hwi,spnD]<;>and_intros<;>rfl,by simp;omega⟩
 ·rw [hend,List.drop_length,tctxL] at hfS
  refine zc8 40 rfl ?_;simp only [go_sem,aeq,aeq.aeqF,simprocAttr]
  refine' zc hcmp
  all_goals first|omega|exact ⟨_,rfl,L,by rw [hfS],fun _=>by rw [hfS],rfl⟩|skip
end Go.Aw
