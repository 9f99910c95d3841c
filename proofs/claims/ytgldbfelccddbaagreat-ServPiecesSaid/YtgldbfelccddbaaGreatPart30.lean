/-
 Parts of the proof: lemmas.
-/
import Derived.Test.YtgldbfelccddbaaGreatPart23
import Derived.Test.YtgldbfelccddbaaGreatPart27
import Derived.Test.YtgldbfelccddbaaGreatPart24
set_option maxRecDepth 100000
set_option maxHeartbeats 2000000
set_option linter.unusedSimpArgs false
set_option linter.unusedVariables false
namespace Go.Aw
open Go Go.Proofs
theorem zuH (a b:List Ext) (ha:a.length≤9223372036854775807):AC 103 [.d (.sl 2 (a.map extD)),.d (.sl 2 (b.map extD))] (.d (.bool (decide (a=b)))):=by
 refine fbod Tryz.func103 Tryz.ntmps103 (fun base=>?_)
 by_cases hlen:a.length=b.length
 ·have hb:((a.length:Int) !=(b.length:Int))=false:=by simp [hlen]
  refine' zc hb
  refine zk (fun q:Eqst a b=>⟨[(0,true,.d (.sl 2 (a.map extD))),(1,true,.d (.sl 2 (b.map extD))),(5,true,.d (.int .i64 q.1))],[],some []⟩) (fun q=>a.length - q.1) ⟨0,Nat.zero_le _,rfl⟩ le1 (fun q=>?_)
  obtain ⟨i,hi,hf⟩:=q
  simp only at hi hf ⊢
  rcases zy extD a i hi with ⟨⟨u,v⟩,hq,hlt,hcmp,hrow,hdr,htk⟩|⟨hend,hcmp⟩
  ·obtain ⟨⟨u',v'⟩,hq'⟩:=zaH (l:=b) (i:=i) U
   have hrow':=zbJ (g:=extD) hq'
   simp only [extD] at hrow hrow'
   have hwi:=zn (i:=i) U
   refine' zc (zq hcmp hrow hrow')
   all_goals first|omega|skip
   ·have:a≠b:=eq_ne hq hq' (by intro h;cases h;simp at hc)
    rw [decide_eq_false this]
   ·exact ⟨⟨i+1,U,zfS hq hq' (by simp at hc;simp [hc]) hf⟩,lew,af⟩
  ·have:=zik hend hlen hf
   refine' zc hcmp
   rw [decide_eq_true this]
 ·have hb:((a.length:Int) !=(b.length:Int))=true:=by rw [bne_iff_ne];omega
  refine' zc hb
  rw [decide_eq_false (fun h=>hlen (by rw [h]))]
@[go_sem] noncomputable def zbR:Ent Tryz.prog 103:= .m2 (slT 2 extD zgq) (slT 2 extD zgq) zuH
structure TmOk (t:Tsk):Prop where
 cuts:t.cuts.length≤65536
 spans:t.spans.length≤65536
 rows:∀s∈t.spans,s.list.length≤9223372036854775807
theorem zy0 (a b:Rq):(a.flags==b.flags&&(a.kind==b.kind&&(a.cookie==b.cookie&&(a.frm==b.frm&&(a.len==b.len&&a.data==b.data)))))=decide (a=b):=by
 obtain ⟨_,_,_,_,_,_⟩:=a
 obtain ⟨_,_,_,_,_,_⟩:=b
 rw [Bool.eq_iff_iff]
 simp
theorem zye (a b c a' b' c':Nat):(((a:Int)==(a':Int))&&(((b:Int)==(b':Int))&&((c:Int)==(c':Int))))=decide ((a,b,c)=(a',b',c')):=by
 rw [Bool.eq_iff_iff]
 simp
 omega
theorem zyf {a b:Tsk} (h1:a.q=b.q) (h2:a.loc=b.loc) (h3:a.err=b.err) (h4:a.data=b.data) (h5:a.done=b.done) (h6:a.cuts=b.cuts) (h7:a.spans=b.spans):a=b:=by
 obtain ⟨_,_,_,_,_,_,_⟩:=a
 obtain ⟨_,_,_,_,_,_,_⟩:=b
 simp only at h1 h2 h3 h4 h5 h6 h7
 subst h1 h2 h3 h4 h5 h6 h7
 rfl
theorem zrP (a b:Tsk) (hp:TmOk a∧TmOk b):AC 47 [tskA a,tskA b] (.d (.bool (decide (a=b)))):=by
 obtain ⟨ha,hb⟩:=hp
 refine fbod Tryz.func47 Tryz.ntmps47 (fun base=>?_)
 have hqe:=zy0 a.q b.q
 have hca:=ha.cuts
 have hcb:=hb.cuts
 have hsa:=ha.spans
 have hsb:=hb.spans
 cases hX:(!decide (a.q=b.q)||a.loc !=b.loc||a.err !=b.err||a.data !=b.data||a.done !=b.done||(a.cuts.length:Int) !=(b.cuts.length:Int)||(a.spans.length:Int) !=(b.spans.length:Int)) with
 |true=>
  refine' walkW (zj hqe hX) (za zbR <| zb _)
  rw [decide_eq_false (fun h=>by subst h;simp at hX)]
 | false=>
  have hX2:=hX
  simp only [Bool.or_eq_false_iff,Bool.not_eq_false',decide_eq_true_eq,bne_eq_false_iff_eq] at hX2
  obtain ⟨⟨⟨⟨⟨⟨x1,x2⟩,x3⟩,x4⟩,x5⟩,x6⟩,x7⟩:=hX2
  have y6:a.cuts.length=b.cuts.length:=U
  have y7:a.spans.length=b.spans.length:=U
  refine' walkW (zj hqe hX) (za zbR <| zb _)
  refine zk (fun q:Eqst a.cuts b.cuts=>⟨[(2,true,.vp 0 0),(3,true,.vp 1 0),(5,true,.d (.int .i64 q.1))],[(1,.var (tskS b)),(0,.var (tskS a))],some []⟩) (fun q=>a.cuts.length - q.1) ⟨0,Nat.zero_le _,rfl⟩ le1 (fun q=>?_)
  obtain ⟨i,hi,hf⟩:=q
  simp only at hi hf ⊢
  rcases zy cutD a.cuts i hi with ⟨⟨c0,c1,c2⟩,hq,hlt,hcmp,hrow,hdr,htk⟩|⟨hend,hcmp⟩
  ·obtain ⟨⟨d0,d1,d2⟩,hq'⟩:=zaH (l:=b.cuts) (i:=i) U
   have hrow':=zbJ (g:=cutD) hq'
   simp only [cutD] at hrow hrow'
   have hwi:=zn (i:=i) U
   have hce:=zye c0 c1 c2 d0 d1 d2
   cases hb1:decide ((c0,c1,c2)=(d0,d1,d2)) with
   |false=>
    rw [hb1] at hce
    (have tk:=za zbR <| zb Tryz.prog);repeat' (first|((first|(refine sa ?_;intro K hK)|refine sb ?_);simp only [go_sem,aeq,aeq.aeqF,simprocAttr,hcmp,hrow,hrow',hce,Bool.not_false,Tryz.results47])|refine zbm (fun K hK=>?_)|refine sc ?_|refine zb3 rfl (fun hc=>?_) (fun hc=>?_)|(refine hK _ ?_;clear hK K)|with_reducible refine And.intro ?_ ?_|(refine (show zb5 _ _=true from ?_);kernel_rfl)|omega|assumption|refine fun (hg:(_:Bool)=(_:Bool))=>?_|clear hK K)
    all_goals first|omega|skip
    have:a.cuts≠b.cuts:=eq_ne hq hq' (by simpa using hb1)
    rw [decide_eq_false (fun h=>this (by rw [h]))]
   |true=>
    rw [hb1] at hce
    (have tk:=za zbR <| zb Tryz.prog);repeat' (first|((first|(refine sa ?_;intro K hK)|refine sb ?_);simp only [go_sem,aeq,aeq.aeqF,simprocAttr,hcmp,hrow,hrow',hce,Bool.not_true,Tryz.results47])|refine zbm (fun K hK=>?_)|refine sc ?_|refine zb3 rfl (fun hc=>?_) (fun hc=>?_)|(refine hK _ ?_;clear hK K)|with_reducible refine And.intro ?_ ?_|(refine (show zb5 _ _=true from ?_);kernel_rfl)|omega|assumption|refine fun (hg:(_:Bool)=(_:Bool))=>?_|clear hK K)
    all_goals first|omega|skip
    exact ⟨⟨i+1,U,zfS hq hq' (by simpa using hb1) hf⟩,lev,af⟩
  have hcc:=zik hend y6 hf
  refine' walkW hcmp (za zbR <| zb _)
  refine zk (fun q:Eqst a.spans b.spans=>⟨[(2,true,.vp 0 0),(3,true,.vp 1 0),(6,true,.d (.int .i64 q.1))],[(1,.var (tskS b)),(0,.var (tskS a))],some []⟩) (fun q=>a.spans.length - q.1) ⟨0,Nat.zero_le _,rfl⟩ le1 (fun q=>?_)
  obtain ⟨j,hj,hg⟩:=q
  simp only at hj hg ⊢
  rcases zy spnD a.spans j hj with ⟨⟨u,l⟩,hq2,hlt2,hcmp2,hrow2,hdr2,htk2⟩|⟨hend2,hcmp2⟩
  ·obtain ⟨⟨u',l'⟩,hq2'⟩:=zaH (l:=b.spans) (i:=j) U
   have hrow2':=zbJ (g:=spnD) hq2'
   have hll:=ha.rows _ (List.mem_of_getElem? hq2)
   simp only [spnD] at hrow2 hrow2' hll
   have hwj:=zn (i:=j) U
   cases hb2:(u !=u'|| !decide (l=l')) with
   |true=>
    refine' walkW (zE hcmp2 hrow2 hrow2' hb2) (za zbR <| zb _)
    all_goals first|omega|skip
    have:a.spans≠b.spans:=eq_ne hq2 hq2' (by intro h;cases h;simp at hb2)
    rw [decide_eq_false (fun h=>this (by rw [h]))]
   |false=>
    refine' walkW (zE hcmp2 hrow2 hrow2' hb2) (za zbR <| zb _)
    all_goals first|omega|skip
    simp only [Bool.or_eq_false_iff,Bool.not_eq_false',decide_eq_true_eq,bne_eq_false_iff_eq] at hb2
    exact ⟨⟨j+1,U,zfS hq2 hq2' (by rw [hb2.1,hb2.2]) hg⟩,dN,af⟩
  ·have hss:=zik hend2 y7 hg
   refine' walkW hcmp2 (za zbR <| zb _)
   rw [decide_eq_true (zyf x1 x2 x3 x4 x5 hcc hss)]
@[go_sem] noncomputable def zbt:Ent Tryz.prog 47:= .m2 zgr zgr zrP
open Go Go.Proofs
def SpR (l:List Spn):Prop:=∀s∈l,0≤s.ctx∧s.ctx<4294967296∧s.list.length≤65536
theorem zo4 {x:Img} {l1 a n:Int} :(zc4 x l1 a n).1.length≤65536:=by
 unfold zc4
 split
 ·exact Nat.zero_le _
 ·have h1:=zoy (f:=elkF x.disk l1) (cutsL a n) []
  have h2:=zd3 a n
  simp only [List.length_nil] at h1
  omega
theorem zrR {x:Img} {m:Txt} {a n:Int} :(zeG x m a n).1.length≤65536:=by
 unfold zeG
 split
 ·exact Nat.zero_le _
 split
 ·exact Nat.zero_le _
 ·rename_i m hm
  have h1:=zoy (f:=bitF m) (cutsL a n) []
  have h2:=zd3 a n
  simp only [List.length_nil] at h1
  omega
theorem zwJ {x:Img} {q:Rq} {k:Int} :(tctx x q k).1.length≤65536:=by
 have h0:(tctx0 x q k).1.length≤65536:=by
  unfold tctx0
  split
  ·split
   ·exact Nat.zero_le _
   ·exact zo4
  ·split
   ·exact Nat.zero_le _
   ·exact zrR
 rw [tctx,tcut1]
 split
 ·rw [List.length_take];omega
 ·exact h0
theorem zj2 {x:Img} {q:Rq} :∀ (ms:List Int) (l:List Spn),(∀m∈ms,0≤m∧m<4294967296)→SpR l→SpR (tctxL x q ms l).1
 | [],l,_,h=>h
 | k::r,l,hm,h=>by
  rw [tctxL]
  split
  ·intro s hs;cases hs
  ·refine zj2 r _ (fun m hm'=>hm m (List.mem_cons_of_mem _ hm')) (fun s hs=>?_)
   rcases List.mem_append.1 hs with hs|hs
   ·exact h s hs
   ·rw [List.mem_singleton] at hs
    subst hs
    have:=hm k List.mem_cons_self
    exact ⟨this.1,this.2,zwJ⟩
theorem SpR.nil:SpR []:=fun s hs=>by cases hs
theorem zj3 {x:Img} {t:Tsk} {ms:List Int} (hm:∀m∈ms,0≤m∧m<4294967296) (h:SpR t.spans):SpR (tstep x t ms).2.spans:=by
 unfold tstep
 split
 ·exact h
 split
 ·simp only
  split
  ·exact SpR.nil
  ·exact h
 ·simp only
  split
  ·exact SpR.nil
  ·simp only [tlast]
   split
   ·exact zj2 _ _ hm SpR.nil
   split
   ·exact SpR.nil
   ·exact SpR.nil
theorem Tiv.ts {q:Rq} {x:Img} {t:Tsk} {ms:List Int} (h:Tiv q t) (hf:RqF x q ms) (hs:SpR t.spans):TsOk t∧TmOk t:=by
 have h1:=h.ok hf
 have h2:=h.err
 have h3:=h.spans
 exact ⟨⟨h1.ok,U,U,h1.data,U,fun s hs'=>by have:=hs s hs';exact ⟨this.1,this.2.1,U⟩⟩,⟨h1.len,U,fun s hs'=>by have:=hs s hs';omega⟩⟩
open Go Go.Proofs
deriving instance DecidableEq for Cn,Srv
structure SmOk (c:Cn):Prop where
 ms:c.n.metas.length≤1000000
 tl:c.tasks.length≤1000000
 tm:∀t∈c.tasks,TmOk t
theorem CnOk.sm {L:Nat} {x:Img} {c:Cn} (h:CnOk L x c):SmOk c:=⟨by have:=h.ms.1;omega,by have:=h.tasks;omega,fun t ht=>by
 obtain ⟨h1,h2,h3⟩:=h.tsk t ht
 exact (h2.ts h3 (by rw [(h2.fresh h1).1];exact SpR.nil)).2⟩
theorem zy5 {c d:Cn} (h1:c.n=d.n) (h2:c.out=d.out) (h3:c.gone=d.gone) (h4:c.tasks=d.tasks):c=d:=by
 obtain ⟨_,_,_,_⟩:=c
 obtain ⟨_,_,_,_⟩:=d
 simp only at h1 h2 h3 h4
 subst h1 h2 h3 h4
 rfl
theorem zyg {a b:Srv} (h1:a.x=b.x) (h2:a.conns=b.conns):a=b:=by
 obtain ⟨_,_⟩:=a
 obtain ⟨_,_⟩:=b
 simp only at h1 h2
 subst h1 h2
 rfl
theorem zr5 (a b:Srv) (hxa:ImgOk a.x) (hxb:ImgOk b.x) (hla:a.conns.length≤1000) (hlb:b.conns.length≤1000) (hca:∀c∈a.conns,SmOk c) (hcb:∀c∈b.conns,SmOk c):ACall Tryz.prog 15 0 [srvA a,srvA b] [] (fun r _=>r= .d (.bool (decide (a=b)))):=by
 obtain ⟨V,hV⟩:∃V,V=decide (a=b):=⟨_,rfl⟩
 rw [← hV]
 refine fbod Tryz.func15 Tryz.ntmps15 (fun base=>?_)
 cases hX:(!decide (a.x=b.x)||(a.conns.length:Int) !=(b.conns.length:Int)) with
 |true=>
  refine' walkW hX (za zbo <| za zbu <| za zbt <| zb _)
  rw [hV,decide_eq_false (fun h=>by subst h;simp at hX)]
 | false=>
  have hX2:=hX
  simp only [Bool.or_eq_false_iff,Bool.not_eq_false',decide_eq_true_eq,bne_eq_false_iff_eq] at hX2
  obtain ⟨x1,x2⟩:=hX2
  have y2:a.conns.length=b.conns.length:=U
  refine' walkW hX (za zbo <| za zbu <| za zbt <| zb _)
  refine zk (fun q:Eqst a.conns b.conns=>⟨[(2,true,.vp 0 0),(3,true,.vp 1 0),(5,true,.d (.int .i64 q.1))],[(1,.var (imgC b.x++ [.d (.sl 8 (b.conns.map cnD))])),(0,.var (imgC a.x++ [.d (.sl 8 (a.conns.map cnD))]))],some []⟩) (fun q=>a.conns.length - q.1) ⟨0,Nat.zero_le _,rfl⟩ dL (fun q=>?_)
  obtain ⟨i,hi,hf⟩:=q
  simp only at hi hf ⊢
  unfold imgC
  rcases zy cnD a.conns i hi with ⟨c,hq,hlt,hcmp,hrow,hdr,htk⟩|⟨hend,hcmp⟩
  ·obtain ⟨d,hq'⟩:=zaH (l:=b.conns) (i:=i) U
   have hrow':=zbJ (g:=cnD) hq'
   simp only [cnD] at hrow hrow'
   have hwi:=zn (i:=i) U
   obtain ⟨sc1,sc2,sc3⟩:=hca c (List.mem_of_getElem? hq)
   obtain ⟨sd1,sd2,sd3⟩:=hcb d (List.mem_of_getElem? hq')
   have hne:c≠d→V=false:=fun e=>by rw [hV,decide_eq_false (fun h=>eq_ne hq hq' e (by rw [h]))]
   cases hC:(!decide (c.n=d.n)||c.out !=d.out||c.gone !=d.gone||(c.tasks.length:Int) !=(d.tasks.length:Int)) with
   |true=>
    refine' walkW (zE hcmp hrow hrow' hC) (za zbo <| za zbu <| za zbt <| zb _)
    all_goals first|omega|skip
    rw [hne (fun h=>by subst h;simp at hC)]
   | false=>
    have hC2:=hC
    simp only [Bool.or_eq_false_iff,Bool.not_eq_false',decide_eq_true_eq,bne_eq_false_iff_eq] at hC2
    obtain ⟨⟨⟨z1,z2⟩,z3⟩,z4⟩:=hC2
    have z5:c.tasks.length=d.tasks.length:=U
    refine' walkW (zE hcmp hrow hrow' hC) (za zbo <| za zbu <| za zbt <| zb _)
    all_goals first|omega|skip
    refine zk (fun q:Eqst c.tasks d.tasks=>⟨[(2,true,.vp 0 0),(3,true,.vp 1 0),(5,true,.d (.int .i64 i)),(6,true,.vp 2 0),(7,true,.vp 3 0),(8,true,.d (.int .i64 q.1))],[(3,.var (rowD d)),(2,.var (rowD c)),(1,.var (imgC b.x++ [.d (.sl 8 (b.conns.map cnD))])),(0,.var (imgC a.x++ [.d (.sl 8 (a.conns.map cnD))]))],some []⟩) (fun q=>c.tasks.length - q.1) ⟨0,Nat.zero_le _,rfl⟩ (by unfold imgC rowD rowC;simp only [AS.le,leT,leH,zf,AsgK,AV.le,AV.leL,AObj.le,inH,idsT,idsH,AV.ids,AV.idsL,AV.idsR,AObj.ids,lk,hget,go_sem,aeq,aeq.aeqF,simprocAttr]<;>and_intros<;>rfl) (fun q=>?_)
    obtain ⟨j,hj,hg⟩:=q
    simp only at hj hg ⊢
    unfold imgC rowD rowC
    rcases zy tskD c.tasks j hj with ⟨u,hq2,hlt2,hcmp2,hrow2,hdr2,htk2⟩|⟨hend2,hcmp2⟩
    ·obtain ⟨w,hq2'⟩:=zaH (l:=d.tasks) (i:=j) U
     have hrow2':=zbJ (g:=tskD) hq2'
     simp only [tskD] at hrow2 hrow2'
     have hwj:=zn (i:=j) U
     have hu:=sc3 u (List.mem_of_getElem? hq2)
     have hw:=sd3 w (List.mem_of_getElem? hq2')
     cases huw:decide (u=w) with
     |false=>
      refine' walkW (zE hcmp2 hrow2 hrow2' huw) (za zbo <| za zbu <| za zbt <| zb _)
      all_goals first|omega|skip
      rw [hne (fun h=>eq_ne hq2 hq2' (by simpa using huw) (by rw [h]))]
     |true=>
      refine' walkW (zE hcmp2 hrow2 hrow2' huw) (za zbo <| za zbu <| za zbt <| zb _)
      all_goals first|omega|skip
      exact ⟨⟨j+1,U,zfS hq2 hq2' (by simpa using huw) hg⟩,dN,af⟩
    ·have htt:=zik hend2 z5 hg
     refine' walkW hcmp2 (za zbo <| za zbu <| za zbt <| zb _)
     exact ⟨⟨i+1,U,zfS hq hq' (zy5 z1 z2 z3 htt) hf⟩,lev,af⟩
  ·have hcc:=zik hend y2 hf
   refine' walkW hcmp (za zbo <| za zbu <| za zbt <| zb _)
   rw [hV,decide_eq_true (zyg x1 hcc)]
@[go_sem] noncomputable def zdS:Ent Tryz.prog 15:= .ofL (consL zfA (consL zfA nilL)) (fun (a,b,_)=>(ImgOk a.x)∧(ImgOk b.x)∧(a.conns.length≤1000)∧(b.conns.length≤1000)∧(∀c∈a.conns,SmOk c)∧(∀c∈b.conns,SmOk c)) (fun (a,b,_)=> .d (.bool (decide (a=b)))) (fun (a,b,_) hp=>⟨rfl,zr5 a b hp.1 hp.2.1 hp.2.2.1 hp.2.2.2.1 hp.2.2.2.2.1 hp.2.2.2.2.2⟩)
end Go.Aw
