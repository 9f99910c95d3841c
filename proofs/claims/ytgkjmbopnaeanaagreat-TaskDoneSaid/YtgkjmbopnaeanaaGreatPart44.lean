/-
  Parts of the proof: TaskV, TaskW (short names; the readable texts lie in the repo, under wip).
-/
import Derived.Test.YtgkjmbopnaeanaaGreatPart42
import Derived.Test.YtgkjmbopnaeanaaGreatPart43
set_option maxRecDepth 100000
set_option maxHeartbeats 2000000
set_option linter.unusedSimpArgs false
set_option linter.unusedVariables false
namespace Go.Aw
open Go Go.Proofs
theorem ztd (a b:List Ext) (ha:a.length≤9223372036854775807):AC 30 [.d (.sl 2 (a.map extD)),.d (.sl 2 (b.map extD))] (.d (.bool (decide (a=b)))):=by
 refine fbod Tryz.func30 Tryz.ntmps30 (fun base=>?_)
 by_cases hlen:a.length=b.length
 ·have hb:((a.length:Int) !=(b.length:Int))=false:=by simp [hlen]
  refine' zc hb
  refine zo (fun q:Eqst a b=>⟨[(0,true,.d (.sl 2 (a.map extD))),(1,true,.d (.sl 2 (b.map extD))),(5,true,.d (.int .i64 q.1))],[],some []⟩) (fun q=>a.length - q.1) ⟨0,Nat.zero_le _,rfl⟩ le1 (fun q=>?_)
  obtain ⟨i,hi,hf⟩:=q
  simp only at hi hf ⊢
  rcases zD extD a i hi with ⟨⟨u,v⟩,hq,hlt,hcmp,hrow,hdr,htk⟩|⟨hend,hcmp⟩
  ·obtain ⟨⟨u',v'⟩,hq'⟩:=zai (l:=b) (i:=i) (by omega)
   have hrow':=za1 (g:=extD) hq'
   simp only [extD] at hrow hrow'
   have hwi:=zn (i:=i) (by omega)
   refine' zc (zr hcmp hrow hrow')
   all_goals first|omega|skip
   ·have:a≠b:=eq_ne hq hq' (by intro h;cases h;simp at hc)
    rw [decide_eq_false this]
   ·exact ⟨⟨i+1,by omega,ze8 hq hq' (by simp at hc;simp [hc]) hf⟩,lew,by simp;omega⟩
  ·have:=zhf hend hlen hf
   refine' zc hcmp
   rw [decide_eq_true this]
 ·have hb:((a.length:Int) !=(b.length:Int))=true:=by rw [bne_iff_ne];omega
  refine' zc hb
  rw [decide_eq_false (fun h=>hlen (by rw [h]))]
@[go_sem] noncomputable def zbT:Ent Tryz.prog 30:= .m2 (slT 2 extD zb1) (slT 2 extD zb1) ztd
structure TmOk (t:Tsk):Prop where
 cuts:t.cuts.length≤65536
 spans:t.spans.length≤65536
 rows:∀s∈t.spans,s.list.length≤9223372036854775807
theorem zvP (a b:Rq):(a.flags==b.flags&&(a.kind==b.kind&&(a.cookie==b.cookie&&(a.frm==b.frm&&(a.len==b.len&&a.data==b.data)))))=decide (a=b):=by
 obtain ⟨_,_,_,_,_,_⟩:=a
 obtain ⟨_,_,_,_,_,_⟩:=b
 rw [Bool.eq_iff_iff]
 simp
theorem zw1 (a b c a' b' c':Nat):(((a:Int)==(a':Int))&&(((b:Int)==(b':Int))&&((c:Int)==(c':Int))))=decide ((a,b,c)=(a',b',c')):=by
 rw [Bool.eq_iff_iff]
 simp
 omega
theorem zte {a b:Tsk} (h1:a.q=b.q) (h2:a.loc=b.loc) (h3:a.err=b.err) (h4:a.data=b.data) (h5:a.done=b.done) (h6:a.cuts=b.cuts) (h7:a.spans=b.spans):a=b:=by
 obtain ⟨_,_,_,_,_,_,_⟩:=a
 obtain ⟨_,_,_,_,_,_,_⟩:=b
 simp only at h1 h2 h3 h4 h5 h6 h7
 subst h1 h2 h3 h4 h5 h6 h7
 rfl
theorem zqU (a b:Tsk) (hp:TmOk a∧TmOk b):AC 11 [tskA a,tskA b] (.d (.bool (decide (a=b)))):=by
 obtain ⟨ha,hb⟩:=hp
 refine fbod Tryz.func11 Tryz.ntmps11 (fun base=>?_)
 have hqe:=zvP a.q b.q
 have hca:=ha.cuts
 have hcb:=hb.cuts
 have hsa:=ha.spans
 have hsb:=hb.spans
 cases hX:(!decide (a.q=b.q)||a.loc !=b.loc||a.err !=b.err||a.data !=b.data||a.done !=b.done||(a.cuts.length:Int) !=(b.cuts.length:Int)||(a.spans.length:Int) !=(b.spans.length:Int)) with
 |true=>
  refine' walkW (zk hqe hX) (za zbT <| zb _)
  rw [decide_eq_false (fun h=>by subst h;simp at hX)]
 | false=>
  have hX2:=hX
  simp only [Bool.or_eq_false_iff,Bool.not_eq_false',decide_eq_true_eq,bne_eq_false_iff_eq] at hX2
  obtain ⟨⟨⟨⟨⟨⟨x1,x2⟩,x3⟩,x4⟩,x5⟩,x6⟩,x7⟩:=hX2
  have y6:a.cuts.length=b.cuts.length:=by omega
  have y7:a.spans.length=b.spans.length:=by omega
  refine' walkW (zk hqe hX) (za zbT <| zb _)
  refine zo (fun q:Eqst a.cuts b.cuts=>⟨[(2,true,.vp 0 0),(3,true,.vp 1 0),(5,true,.d (.int .i64 q.1))],[(1,.var (tskS b)),(0,.var (tskS a))],some []⟩) (fun q=>a.cuts.length - q.1) ⟨0,Nat.zero_le _,rfl⟩ le1 (fun q=>?_)
  obtain ⟨i,hi,hf⟩:=q
  simp only at hi hf ⊢
  rcases zD cutD a.cuts i hi with ⟨⟨c0,c1,c2⟩,hq,hlt,hcmp,hrow,hdr,htk⟩|⟨hend,hcmp⟩
  ·obtain ⟨⟨d0,d1,d2⟩,hq'⟩:=zai (l:=b.cuts) (i:=i) (by omega)
   have hrow':=za1 (g:=cutD) hq'
   simp only [cutD] at hrow hrow'
   have hwi:=zn (i:=i) (by omega)
   have hce:=zw1 c0 c1 c2 d0 d1 d2
   cases hb1:decide ((c0,c1,c2)=(d0,d1,d2)) with
   |false=>
    rw [hb1] at hce
    (have tk:=za zbT <| zb Tryz.prog);repeat' (first|((first|(refine sa ?_;intro K hK)|refine sb ?_);simp only [go_sem,aeq,aeq.aeqF,simprocAttr,hcmp,hrow,hrow',hce,Bool.not_false,Tryz.results11])|refine zae (fun K hK=>?_)|refine sc ?_|refine zar rfl (fun hc=>?_) (fun hc=>?_)|(refine hK _ ?_;clear hK K)|with_reducible refine And.intro ?_ ?_|(refine (show zaX _ _=true from ?_);kernel_rfl)|omega|assumption|refine fun (hg:(_:Bool)=(_:Bool))=>?_|clear hK K)
    all_goals first|omega|skip
    have:a.cuts≠b.cuts:=eq_ne hq hq' (by simpa using hb1)
    rw [decide_eq_false (fun h=>this (by rw [h]))]
   |true=>
    rw [hb1] at hce
    (have tk:=za zbT <| zb Tryz.prog);repeat' (first|((first|(refine sa ?_;intro K hK)|refine sb ?_);simp only [go_sem,aeq,aeq.aeqF,simprocAttr,hcmp,hrow,hrow',hce,Bool.not_true,Tryz.results11])|refine zae (fun K hK=>?_)|refine sc ?_|refine zar rfl (fun hc=>?_) (fun hc=>?_)|(refine hK _ ?_;clear hK K)|with_reducible refine And.intro ?_ ?_|(refine (show zaX _ _=true from ?_);kernel_rfl)|omega|assumption|refine fun (hg:(_:Bool)=(_:Bool))=>?_|clear hK K)
    all_goals first|omega|skip
    exact ⟨⟨i+1,by omega,ze8 hq hq' (by simpa using hb1) hf⟩,lev,by simp;omega⟩
  have hcc:=zhf hend y6 hf
  refine' walkW hcmp (za zbT <| zb _)
  refine zo (fun q:Eqst a.spans b.spans=>⟨[(2,true,.vp 0 0),(3,true,.vp 1 0),(6,true,.d (.int .i64 q.1))],[(1,.var (tskS b)),(0,.var (tskS a))],some []⟩) (fun q=>a.spans.length - q.1) ⟨0,Nat.zero_le _,rfl⟩ le1 (fun q=>?_)
  obtain ⟨j,hj,hg⟩:=q
  simp only at hj hg ⊢
  rcases zD spnD a.spans j hj with ⟨⟨u,l⟩,hq2,hlt2,hcmp2,hrow2,hdr2,htk2⟩|⟨hend2,hcmp2⟩
  ·obtain ⟨⟨u',l'⟩,hq2'⟩:=zai (l:=b.spans) (i:=j) (by omega)
   have hrow2':=za1 (g:=spnD) hq2'
   have hll:=ha.rows _ (List.mem_of_getElem? hq2)
   simp only [spnD] at hrow2 hrow2' hll
   have hwj:=zn (i:=j) (by omega)
   cases hb2:(u !=u'|| !decide (l=l')) with
   |true=>
    refine' walkW (zS hcmp2 hrow2 hrow2' hb2) (za zbT <| zb _)
    all_goals first|omega|skip
    have:a.spans≠b.spans:=eq_ne hq2 hq2' (by intro h;cases h;simp at hb2)
    rw [decide_eq_false (fun h=>this (by rw [h]))]
   |false=>
    refine' walkW (zS hcmp2 hrow2 hrow2' hb2) (za zbT <| zb _)
    all_goals first|omega|skip
    simp only [Bool.or_eq_false_iff,Bool.not_eq_false',decide_eq_true_eq,bne_eq_false_iff_eq] at hb2
    exact ⟨⟨j+1,by omega,ze8 hq2 hq2' (by rw [hb2.1,hb2.2]) hg⟩,by simp only [AS.le,leT,leH,zf,AsgK,AV.le,AV.leL,AObj.le,inH,idsT,idsH,AV.ids,AV.idsL,AV.idsR,AObj.ids,lk,hget,go_sem,aeq,aeq.aeqF,simprocAttr,hwj]<;>and_intros<;>rfl,by simp;omega⟩
  ·have hss:=zhf hend2 y7 hg
   refine' walkW hcmp2 (za zbT <| zb _)
   rw [decide_eq_true (zte x1 x2 x3 x4 x5 hcc hss)]
@[go_sem] noncomputable def zbq:Ent Tryz.prog 11:= .m2 zfn zfn zqU
open Go Go.Proofs
theorem zvl (a b:List Ext) (ha:a.length≤9223372036854775807):AC 53 [.d (.sl 2 (a.map extD)),.d (.sl 2 (b.map extD))] (.d (.bool (decide (a=b)))):=by
 refine bod Tryz.func53 Tryz.ntmps53 (fun base=>?_)
 refine' zc fx
 ·have:a≠b:=by rintro rfl;simp at hc
  rw [decide_eq_false this]
 ·have hlen:a.length=b.length:=by simp at hc;omega
  refine zo (fun q:Eqst a b=>⟨[(0,true,.d (.sl 2 (a.map extD))),(1,true,.d (.sl 2 (b.map extD))),(12,true,.d (.int .i64 a.length)),(13,true,.d (.int .i64 q.1))],[],some []⟩) (fun q=>a.length - q.1) ⟨0,Nat.zero_le _,rfl⟩ le1 (fun q=>?_)
  obtain ⟨i,hi,hf⟩:=q
  simp only at hi hf ⊢
  rcases zD extD a i hi with ⟨⟨u,v⟩,hq,hlt,hcmp,hrow,hdr,htk⟩|⟨hend,hcmp⟩
  ·obtain ⟨⟨u',v'⟩,hq'⟩:=zai (l:=b) (i:=i) (by omega)
   have hrow':=za1 (g:=extD) hq'
   simp only [extD] at hrow hrow'
   have hwi:=zn (i:=i) (by omega)
   refine' zc (zr hcmp hrow hrow')
   ·have:a≠b:=eq_ne hq hq' (by intro h;cases h;simp at hc)
    rw [decide_eq_false this]
   ·exact ⟨⟨i+1,by omega,ze8 hq hq' (by simp at hc;simp [hc]) hf⟩,lew,by simp;omega⟩
  ·have:=zhf hend hlen hf
   refine' zc hcmp
   rw [decide_eq_true this]
@[go_sem] noncomputable def zqZ:Ent Tryz.prog 53:= .m2 (slT 2 extD zb1) (slT 2 extD zb1) zvl
theorem zvm (a b:List (Nat×Nat×Nat)) (ha:a.length≤9223372036854775807):AC 54 [.d (.sl 3 (a.map cutD)),.d (.sl 3 (b.map cutD))] (.d (.bool (decide (a=b)))):=by
 refine bod Tryz.func54 Tryz.ntmps54 (fun base=>?_)
 refine' zc fx
 ·have:a≠b:=by rintro rfl;simp at hc
  rw [decide_eq_false this]
 ·have hlen:a.length=b.length:=by simp at hc;omega
  refine zo (fun q:Eqst a b=>⟨[(0,true,.d (.sl 3 (a.map cutD))),(1,true,.d (.sl 3 (b.map cutD))),(12,true,.d (.int .i64 a.length)),(13,true,.d (.int .i64 q.1))],[],some []⟩) (fun q=>a.length - q.1) ⟨0,Nat.zero_le _,rfl⟩ le1 (fun q=>?_)
  obtain ⟨i,hi,hf⟩:=q
  simp only at hi hf ⊢
  rcases zD cutD a i hi with ⟨⟨c0,c1,c2⟩,hq,hlt,hcmp,hrow,hdr,htk⟩|⟨hend,hcmp⟩
  ·obtain ⟨⟨d0,d1,d2⟩,hq'⟩:=zai (l:=b) (i:=i) (by omega)
   have hrow':=za1 (g:=cutD) hq'
   simp only [cutD] at hrow hrow'
   have hwi:=zn (i:=i) (by omega)
   refine' zc (zr hcmp hrow hrow')
   ·have:a≠b:=eq_ne hq hq' (by intro h;cases h;simp at hc)
    rw [decide_eq_false this]
   ·exact ⟨⟨i+1,by omega,ze8 hq hq' (by simp at hc;simp;omega) hf⟩,lew,by simp;omega⟩
  ·have:=zhf hend hlen hf
   refine' zc hcmp
   rw [decide_eq_true this]
@[go_sem] noncomputable def zq0:Ent Tryz.prog 54:= .m2 (slT 3 cutD zkH) (slT 3 cutD zkH) zvm
theorem ztp (u:Int) (l:List Ext) (v:Int) (m:List Ext) (hl:l.length≤9223372036854775807):ACall Tryz.prog 52 0 [.agg [.d (.int .u32 u),.d (.sl 2 (l.map extD))],.agg [.d (.int .u32 v),.d (.sl 2 (m.map extD))]] [] (fun r _=>r= .d (.bool (u==v&&decide (l=m)))):=by
 refine fbod Tryz.func52 Tryz.ntmps52 (fun base=>?_)
 refine' walkW fx (za zqZ <| zb _)
@[go_sem] noncomputable def ziI:Ent Tryz.prog 52:= .ofL (consL (aggT (consL (intT .u32) (consL (slT 2 extD zb1) nilL)) (fun p=>p) (fun p=>p) (fun _=>rfl)) (consL (aggT (consL (intT .u32) (consL (slT 2 extD zb1) nilL)) (fun p=>p) (fun p=>p) (fun _=>rfl)) nilL)) (fun ((u,l,_),(v,m,_),_)=>l.length≤9223372036854775807) (fun ((u,l,_),(v,m,_),_)=> .d (.bool (u==v&&decide (l=m)))) (fun ((u,l,_),(v,m,_),_) hp=>⟨rfl,ztp u l v m hp⟩)
theorem zvn (a:List Spn) (b:List Spn) (ha:a.length≤9223372036854775807) (hr:∀s∈a,s.list.length≤9223372036854775807):ACall Tryz.prog 51 0 [.d (.sl 2 (a.map spnD)),.d (.sl 2 (b.map spnD)),.fn (.func 52) [] []] [] (fun r _=>r= .d (.bool (decide (a=b)))):=by
 refine fbod Tryz.func51 Tryz.ntmps51 (fun base=>?_)
 by_cases hlen:a.length=b.length
 ·have hb:((a.length:Int) !=(b.length:Int))=false:=by simp [hlen]
  refine' zc hb
  refine zo (fun q:Eqst a b=>⟨[(1,true,.d (.sl 2 (b.map spnD))),(2,true,.fn (.func 52) [] []),(15,true,.d (.sl 2 (a.map spnD))),(16,true,.d (.int .i64 a.length)),(17,true,.d (.int .i64 q.1))],[],some []⟩) (fun q=>a.length - q.1) ⟨0,Nat.zero_le _,rfl⟩ le1 (fun q=>?_)
  obtain ⟨i,hi,hf⟩:=q
  simp only at hi hf ⊢
  rcases zD spnD a i hi with ⟨⟨u,l⟩,hq,hlt,hcmp,hrow,hdr,htk⟩|⟨hend,hcmp⟩
  ·obtain ⟨⟨v,m⟩,hq'⟩:=zai (l:=b) (i:=i) (by omega)
   have hrow':=za1 (g:=spnD) hq'
   have hll:=hr _ (List.mem_of_getElem? hq)
   simp only [spnD] at hrow hrow' hll
   have hwi:=zn (i:=i) (by omega)
   cases hb1:(u==v&&decide (l=m)) with
   |false=>
    (have tk:=za ziI <| zb Tryz.prog);repeat' (first|((first|(refine sa ?_;intro K hK)|refine sb ?_);simp only [go_sem,aeq,aeq.aeqF,simprocAttr,hcmp,hrow,hrow',Int.toNat_natCast,hb1,Bool.not_false,Tryz.results51])|refine zae (fun K hK=>?_)|refine sc ?_|refine zar rfl (fun hc=>?_) (fun hc=>?_)|(refine hK _ ?_;clear hK K)|with_reducible refine And.intro ?_ ?_|omega|assumption|clear hK K)
    all_goals first|omega|skip
    have:a≠b:=eq_ne hq hq' (by intro h;cases h;simp at hb1)
    rw [decide_eq_false this]
   |true=>
    (have tk:=za ziI <| zb Tryz.prog);repeat' (first|((first|(refine sa ?_;intro K hK)|refine sb ?_);simp only [go_sem,aeq,aeq.aeqF,simprocAttr,hcmp,hrow,hrow',Int.toNat_natCast,hb1,Bool.not_true,Tryz.results51])|refine zae (fun K hK=>?_)|refine sc ?_|refine zar rfl (fun hc=>?_) (fun hc=>?_)|(refine hK _ ?_;clear hK K)|with_reducible refine And.intro ?_ ?_|omega|assumption|clear hK K)
    all_goals first|omega|skip
    simp only [Bool.and_eq_true,beq_iff_eq,decide_eq_true_eq] at hb1
    exact ⟨⟨i+1,by omega,ze8 hq hq' (by rw [hb1.1,hb1.2]) hf⟩,lew,by simp;omega⟩
  ·have:=zhf hend hlen hf
   refine' zc hcmp
   rw [decide_eq_true this]
 ·have hb:((a.length:Int) !=(b.length:Int))=true:=by rw [bne_iff_ne];omega
  refine' zc hb
  rw [decide_eq_false (fun h=>hlen (by rw [h]))]
@[go_sem] noncomputable def zq1:Ent Tryz.prog 51:= .ofL (consL (slT 2 spnD zkI) (consL (slT 2 spnD zkI) (consL (fnT 52 nilL) nilL))) (fun (a,b,_,_)=>(a.length≤9223372036854775807)∧(∀s∈a,s.list.length≤9223372036854775807)) (fun (a,b,_,_)=> .d (.bool (decide (a=b)))) (fun (a,b,_,_) hp=>⟨rfl,zvn a b hp.1 hp.2⟩)
theorem zw3 (a b:Tsk):(decide (a.q=b.q)&&decide (a.cuts=b.cuts)&&a.loc==b.loc&&a.err==b.err&&a.data==b.data&&decide (a.spans=b.spans)&&a.done==b.done)=decide (a=b):=by
 rw [Bool.eq_iff_iff]
 simp only [Bool.and_eq_true,decide_eq_true_eq,beq_iff_eq]
 constructor
 ·rintro ⟨⟨⟨⟨⟨⟨h1,h2⟩,h3⟩,h4⟩,h5⟩,h6⟩,h7⟩
  exact zte h1 h3 h4 h5 h7 h2 h6
 ·rintro rfl
  simp
theorem zvo (a b:Tsk) (ha:TmOk a):AC 21 [tskA a,tskA b] (.d (.bool (decide (a=b)))):=by
 refine fbod Tryz.func21 Tryz.ntmps21 (fun base=>?_)
 have hqe:=zvP a.q b.q
 have hte:=zw3 a b
 have hca:=ha.cuts
 have hsa:=ha.spans
 have hra:=ha.rows
 refine' walkW (zk hqe hte) (za zq1 <| za zq0 <| zb _)
 all_goals first|omega|exact hra|skip
@[go_sem] noncomputable def zfL:Ent Tryz.prog 21:= .m2 zfn zfn zvo
theorem ztq (x:Img) (q:Rq) (ms:List Int) (h:RqF x q ms):AC 8 [imgA x,rqA q,.d (.sl 1 (ms.map u32D))] (.tup [imgA (trun x q ms).1,tskA (trun x q ms).2]):=by
 refine fbod Tryz.func8 Tryz.ntmps8 (fun base=>?_)
 obtain ⟨Z,hZ⟩:∃Z,Z=trun x q ms:=⟨_,rfl⟩
 rw [← hZ]
 rw [trun] at hZ
 have hok:=h.ok
 have hlm:=h.lms
 have hmr:∀m∈ms,0≤m∧m<4294967296:=fun m hm=>by have:=h.mr m hm;omega
 have hml:ms.length≤1000:=by omega
 have hnl:=zfK q
 obtain ⟨N,hN⟩:∃N,N=(tnew q).cuts.length:=⟨_,rfl⟩
 obtain ⟨T,hT⟩:∃T,T=tnew q:=⟨_,rfl⟩
 have hTi:Tiv q T:=by rw [hT];exact Tiv.new q
 rw [← hN,← hT] at hZ
 rw [← hN] at hnl
 have hTN:(T.cuts.length:Int)=N:=by rw [hT,hN]
 refine' walkW hT.symm (za zbR <| za zbS <| za zcZ <| zb _)
 refine zo (fun p: { p:Nat×Img×Tsk // p.1≤N+1∧Z=trunN ms (N+1 - p.1) p.2.1 p.2.2∧ImgF p.2.1∧IF x p.2.1∧Tiv q p.2.2 } =>⟨[(2,true,.d (.sl 1 (ms.map u32D))),(3,true,.vp 0 0),(6,true,.vp 2 0),(7,true,.vp 3 0),(8,true,.vp 4 0),(12,true,.d (.int .i64 ((N:Int)+1))),(13,true,.d (.int .i64 p.1.1))],[(4,.var (tskS p.1.2.2)),(3,.var tsk0),(2,.var img0),(0,.var (imgV p.1.2.1))],some []⟩) (fun p=>N+1 - p.1.1) ⟨(0,x,T),Nat.zero_le _,hZ,h.img,IF.refl x,hTi⟩ (by simp only [AS.le,leT,leH,zf,AsgK,AV.le,AV.leL,AObj.le,inH,idsT,idsH,AV.ids,AV.idsL,AV.idsR,AObj.ids,lk,hget,go_sem,aeq,aeq.aeqF,simprocAttr,hTN]<;>and_intros<;>rfl) (fun p=>?_)
 obtain ⟨⟨i,X,t⟩,hi,hf,hX,hif,ht⟩:=p
 simp only at hi hf hX hif ht ⊢
 rcases Nat.lt_or_ge i (N+1) with hlt|hge
 ·have hcmp:decide ((i:Int)<((N:Int)+1))=true:=decide_eq_true (by omega)
  have hwi:=zn (i:=i) (by omega)
  have hok2:=ht.ok (h.step hX hif)
  rw [show N+1 - i=(N - i)+1 by omega,trunN] at hf
  obtain ⟨h1,h2⟩:=IF.step hX t ms
  have h3:=ht.step X ms hlm
  obtain ⟨S,hS⟩:∃S,S=tstep X t ms:=⟨_,rfl⟩
  rw [← hS] at hf h1 h2 h3
  refine' walkW (zk hcmp hS.symm) (za zbR <| za zbS <| za zcZ <| zb _)
  all_goals first|omega|exact hok2|skip
  exact ⟨⟨(i+1,S.1,S.2),by omega,by rw [hf,show N+1 - (i+1)=N - i by omega],h2,hif.trans h1,h3⟩,lev,by simp;omega⟩
 ·have hcmp:decide ((i:Int)<((N:Int)+1))=false:=decide_eq_false (by omega)
  rw [show N+1 - i=0 by omega,trunN] at hf
  refine' walkW hcmp (za zbR <| za zbS <| za zcZ <| zb _)
  all_goals first|(rw [hf];done)|(rw [hf];rfl)|skip
@[go_sem] noncomputable def ziJ:Ent Tryz.prog 8:= .m3 zaO rqA_T (slT 1 u32D zfI) ztq
end Go.Aw
