/-
  Parts of the proof: TaskX, TaskY, TaskDn (short names; the readable texts lie in the repo, under wip).
-/
import Derived.Test.YtgkjmbopnaeanaaGreatPart44
set_option maxRecDepth 100000
set_option maxHeartbeats 2000000
set_option linter.unusedSimpArgs false
set_option linter.unusedVariables false
namespace Go.Aw
open Go Go.Proofs
def SpR (l:List Spn):Prop:=∀s∈l,0≤s.ctx∧s.ctx<4294967296∧s.list.length≤65536
theorem zoo {x:Img} {l1 a n:Int} :(zbO x l1 a n).1.length≤65536:=by
 unfold zbO
 split
 ·exact Nat.zero_le _
 ·have h1:=zn0 (f:=elkF x.disk l1) (cutsL a n) []
  have h2:=zce a n
  simp only [List.length_nil] at h1
  omega
theorem zq3 {x:Img} {m:Txt} {a n:Int} :(zcG x m a n).1.length≤65536:=by
 unfold zcG
 split
 ·exact Nat.zero_le _
 split
 ·exact Nat.zero_le _
 ·rename_i m hm
  have h1:=zn0 (f:=bitF m) (cutsL a n) []
  have h2:=zce a n
  simp only [List.length_nil] at h1
  omega
theorem zvp {x:Img} {q:Rq} {k:Int} :(tctx x q k).1.length≤65536:=by
 have h0:(tctx0 x q k).1.length≤65536:=by
  unfold tctx0
  split
  ·split
   ·exact Nat.zero_le _
   ·exact zoo
  ·split
   ·exact Nat.zero_le _
   ·exact zq3
 rw [tctx,tcut1]
 split
 ·rw [List.length_take];omega
 ·exact h0
theorem zjS {x:Img} {q:Rq} :∀ (ms:List Int) (l:List Spn),(∀m∈ms,0≤m∧m<4294967296)→SpR l→SpR (tctxL x q ms l).1
 | [],l,_,h=>h
 | k::r,l,hm,h=>by
  rw [tctxL]
  split
  ·intro s hs;cases hs
  ·refine zjS r _ (fun m hm'=>hm m (List.mem_cons_of_mem _ hm')) (fun s hs=>?_)
   rcases List.mem_append.1 hs with hs|hs
   ·exact h s hs
   ·rw [List.mem_singleton] at hs
    subst hs
    have:=hm k List.mem_cons_self
    exact ⟨this.1,this.2,zvp⟩
theorem SpR.nil:SpR []:=fun s hs=>by cases hs
theorem zjT {x:Img} {t:Tsk} {ms:List Int} (hm:∀m∈ms,0≤m∧m<4294967296) (h:SpR t.spans):SpR (tstep x t ms).2.spans:=by
 unfold tstep
 split
 ·exact h
 split
 ·simp only
  split
  ·exact SpR.nil
  ·exact h
 ·simp only
  split
  ·exact SpR.nil
  ·simp only [tlast]
   split
   ·exact zjS _ _ hm SpR.nil
   split
   ·exact SpR.nil
   ·exact SpR.nil
theorem zfM {ms:List Int} (hm:∀m∈ms,0≤m∧m<4294967296):∀ (n:Nat) {x:Img} {t:Tsk},SpR t.spans→SpR (trunN ms n x t).2.spans
 |0,_,_,h=>h
 |n+1,x,t,h=>by rw [trunN];exact zfM hm n (zjT hm h)
theorem Tiv.ts {q:Rq} {x:Img} {t:Tsk} {ms:List Int} (h:Tiv q t) (hf:RqF x q ms) (hs:SpR t.spans):TsOk t∧TmOk t:=by
 have h1:=h.ok hf
 have h2:=h.err
 have h3:=h.spans
 exact ⟨⟨h1.ok,by omega,by omega,h1.data,by omega,fun s hs'=>by have:=hs s hs';exact ⟨this.1,this.2.1,by omega⟩⟩,⟨h1.len,by omega,fun s hs'=>by have:=hs s hs';omega⟩⟩
def awQ:Rq:=⟨0,1,0,127,3,[97,98,99]⟩
def awF:Rq:=⟨1,1,0,127,3,[97,98,99]⟩
def awG:Rq:=⟨0,3,0,0,0,[]⟩
def awR:Img×Tsk:=trun csmall awQ []
def awS:Txt×Int:=iread awR.1 126 5
theorem zts:(((tnew awQ).cuts.length:Int)+1==3&&awR.2.done&&awR.2.loc==2&&awS.1== [0,97,98,99,0]&&awS.2==0&&((tnew awF).cuts.length:Int)==2&&(((tnew awG).cuts.length:Int)+1==1)&&((zcJ awR.2 true).length:Int)==20)=true:=by decide+kernel
theorem zq4:ifit csmall=true:=by decide+kernel
theorem zvS:RqOk awQ:=⟨by decide,by decide,by decide,by decide,by decide,by decide,by decide⟩
theorem zxI:RqOk awF:=⟨by decide,by decide,by decide,by decide,by decide,by decide,by decide⟩
theorem zxJ:RqOk awG:=⟨by decide,by decide,by decide,by decide,by decide,by decide,by decide⟩
theorem awQ_f:RqF csmall awQ []:=⟨zvS,ztr,zq4,by decide,by decide,by decide,.inr (.inl rfl),by decide,by decide,fun _=>rfl,fun _=>by decide,by decide,(fun m hm=>by cases hm),(fun h=>by cases h)⟩
theorem zxK:ACall Tryz.prog 7 0 [] [] (fun r _=>r= .d (.bool true)):=by
 have hQ:=awQ_f
 have hQo:=zvS
 have hFo:=zxI
 have hGo:=zxJ
 have hfin:=zts
 obtain ⟨hi1,hi2,hi3⟩:=zhI awQ_f.img awQ (ms:= []) (by decide)
 have hrows:=zfM (ms:= []) (fun m hm=>by cases hm) ((tnew awQ).cuts.length+1) (x:=csmall) (t:=tnew awQ) SpR.nil
 have hts:=(hi3.ts awQ_f hrows).1
 obtain ⟨C,hC⟩:∃C,C=csmall:=⟨_,rfl⟩
 obtain ⟨R,hR⟩:∃R,R=awR:=⟨_,rfl⟩
 obtain ⟨S,hS⟩:∃S,S=awS:=⟨_,rfl⟩
 have eR:trun C awQ []=R:=by rw [hC,hR];rfl
 have eS:iread R.1 126 5=S:=by rw [hS,hR];rfl
 rw [← hC] at hQ
 have hgR:R.1.geom=csmall.geom:=by rw [hR];exact hi1.geom
 have hg0:0≤R.1.geom.guest:=by rw [hgR];decide
 have hIR:ImgF R.1:=by rw [hR];exact hi2
 have hTR:TsOk R.2:=by rw [hR];exact hts
 rw [← hR,← hS] at hfin
 obtain ⟨Q,hQe⟩:∃Q,Q=awQ:=⟨_,rfl⟩
 obtain ⟨F,hFe⟩:∃F,F=awF:=⟨_,rfl⟩
 obtain ⟨G,hGe⟩:∃G,G=awG:=⟨_,rfl⟩
 have q1:Rq.mk 0 1 0 127 3 [97,98,99]=Q:=by rw [hQe];rfl
 have q2:Rq.mk 1 1 0 127 3 [97,98,99]=F:=by rw [hFe];rfl
 have q3:Rq.mk 0 3 0 0 0 []=G:=by rw [hGe];rfl
 rw [← hQe,← hFe,← hGe] at hfin
 rw [← hQe] at eR hQ hQo
 rw [← hFe] at hFo
 rw [← hGe] at hGo
 simp only [Bool.and_eq_true] at hfin
 obtain ⟨⟨⟨⟨⟨⟨⟨f1,f2⟩,f3⟩,f4⟩,f5⟩,f6⟩,f7⟩,f8⟩:=hfin
 refine fbod Tryz.func7 Tryz.ntmps7 (fun base=>?_)
 have e8:zcJ ⟨R.2.q,R.2.cuts,R.2.loc,R.2.err,R.2.data,R.2.spans,true⟩ true=zcJ R.2 true:=by rw [← f2]
 refine' walkW (zq hC.symm q1 q2 q3 eR (zq eS f1 f2 f3 f4 (zaH f5 f6 f7 e8 f8))) (za zkS <| za ziJ <| za za7 <| za zbS <| za zbR <| za zd0 <| zb _)
 all_goals first|(rw [← f2];exact hTR)|skip
@[go_sem] noncomputable def zed:Ent Tryz.prog 7:= .ofL nilL (fun _=>True) (fun _=> .d (.bool true)) (fun _ hp=>⟨rfl,zxK⟩)
theorem zpx (x:Img) (q:Rq) (ms:List Int) (hp:ImgOk x∧RqOk q∧ms.length≤9223372036854775807):AC 6 [imgA x,rqA q,.d (.sl 1 (ms.map u32D))] (.d (.bool (tgood x q ms))):=by
 obtain ⟨h,hq,hm⟩:=hp
 refine fbod Tryz.func6 Tryz.ntmps6 (fun base=>?_)
 obtain ⟨Z,hZ⟩:∃Z,Z=tgood x q ms:=⟨_,rfl⟩
 rw [← hZ]
 rw [tgood] at hZ
 have hl0:=hq.l0
 have hl1:=hq.l1
 have hml:=h.maps
 have hdk:=h.disk
 refine' zc fx
 refine zo (fun p: { i:Nat // i≤ms.length∧mtOk 0 ms=mtOk (if i=0 then 0 else ms.getD (i - 1) 0) (ms.drop i) } =>⟨[(2,true,.d (.sl 1 (ms.map u32D))),(3,true,.vp 0 0),(4,true,.vp 1 0),(10,true,.d (.sl 1 (ms.map u32D))),(11,true,.d (.int .i64 ms.length)),(12,true,.d (.int .i64 p.1))],[(1,.var [.d (.int .i64 q.flags),.d (.int .i64 q.kind),.d (.int .u64 q.cookie),.d (.int .u64 q.frm),.d (.int .u32 q.len),.d (.str q.data)]),(0,.var (imgV x))],some []⟩) (fun p=>ms.length - p.1) ⟨0,Nat.zero_le _,rfl⟩ le1 (fun p=>?_)
 obtain ⟨i,hi,hf⟩:=p
 simp only at hi hf ⊢
 rcases zD u32D ms i hi with ⟨m,hmq,hlt,hcmp,hrow,hdr,htk⟩|⟨hend,hcmp⟩
 ·simp only [u32D] at hrow
  have hwi:=zn (i:=i) (by omega)
  rw [hdr,mtOk] at hf
  obtain ⟨pv,hpv⟩:∃pv,pv=(if i=0 then 0 else ms.getD (i - 1) 0):=⟨_,rfl⟩
  rw [← hpv] at hf
  have hnx:(if i+1=0 then 0 else ms.getD (i+1 - 1) 0)=m:=by
   rw [if_neg (by omega),Nat.add_sub_cancel,List.getD_eq_getElem?_getD,hmq]
   rfl
  rcases Nat.eq_zero_or_pos i with h0|h0
  ·have hp0:pv=0:=by rw [hpv,if_pos h0]
   have hg0:decide ((0:Int)<(i:Int))=false:=decide_eq_false (by omega)
   cases hb:(decide (m<1)||decide (3<m)) with
   | true=>
    have hz:mtOk 0 ms=false:=by
     rw [hf]
     simp only [Bool.or_eq_true,decide_eq_true_eq] at hb
     rcases hb with hb|hb
     ·rw [decide_eq_false (by omega:¬1≤m)];simp
     ·rw [decide_eq_false (by omega:¬m≤3)];simp
    refine' zc (zS hcmp hrow hb hg0)
    all_goals first|omega|(rw [hZ,hz];rfl)|skip
   | false=>
    have hz:mtOk 0 ms=mtOk m (ms.drop (i+1)):=by
     rw [hf]
     simp only [Bool.or_eq_false_iff,decide_eq_false_iff_not] at hb
     rw [decide_eq_true (by omega:1≤m),decide_eq_true (by omega:m≤3),decide_eq_true (by omega:pv<m)]
     rfl
    (have tk:=zb Tryz.prog);repeat' (first|((first|(refine sa ?_;intro K hK)|refine sb ?_);simp only [go_sem,aeq,aeq.aeqF,simprocAttr,hcmp,hrow,hb,hg0,Bool.or_false,Tryz.results6])|refine zae (fun K hK=>?_)|refine sc ?_|refine zar rfl (fun hc=>?_) (fun hc=>?_)|(refine hK _ ?_;clear hK K)|with_reducible refine And.intro ?_ ?_|(refine (show zaX _ _=true from ?_);kernel_rfl)|omega|assumption|refine fun (hg:(_:Bool)=(_:Bool))=>?_|clear hK K)
    all_goals first|omega|skip
    exact ⟨⟨i+1,by omega,by rw [hnx];exact hz⟩,lev,by simp;omega⟩
  ·obtain ⟨v,hv⟩:=zai (l:=ms) (i:=i - 1) (by omega)
   have hrow2:=za1 (g:=u32D) hv
   simp only [u32D] at hrow2
   have hp0:pv=v:=by rw [hpv,if_neg (by omega),List.getD_eq_getElem?_getD,hv];rfl
   have hg0:decide ((0:Int)<(i:Int))=true:=decide_eq_true (by omega)
   have hw1:IntKind.i64.wrap ((i:Int) - 1)=((i - 1:Nat):Int):=by rw [ze (by omega) (by omega)];omega
   cases hb:(decide (m<1)||decide (3<m)||decide (m≤v)) with
   | true=>
    have hz:mtOk 0 ms=false:=by
     rw [hf]
     simp only [Bool.or_eq_true,decide_eq_true_eq] at hb
     rcases hb with (hb|hb)|hb
     ·rw [decide_eq_false (by omega:¬1≤m)];simp
     ·rw [decide_eq_false (by omega:¬m≤3)];simp
     ·rw [decide_eq_false (by omega:¬pv<m)];simp
    (have tk:=zb Tryz.prog);repeat' (first|((first|(refine sa ?_;intro K hK)|refine sb ?_);simp only [go_sem,aeq,aeq.aeqF,simprocAttr,hcmp,hrow,hrow2,hw1,Int.toNat_natCast,hg0,Bool.true_and,hb,Tryz.results6])|refine zae (fun K hK=>?_)|refine sc ?_|refine zar rfl (fun hc=>?_) (fun hc=>?_)|(refine hK _ ?_;clear hK K)|with_reducible refine And.intro ?_ ?_|(refine (show zaX _ _=true from ?_);kernel_rfl)|omega|assumption|refine fun (hg:(_:Bool)=(_:Bool))=>?_|clear hK K)
    all_goals first|omega|(rw [hZ,hz];rfl)|skip
   | false=>
    have hz:mtOk 0 ms=mtOk m (ms.drop (i+1)):=by
     rw [hf]
     simp only [Bool.or_eq_false_iff,decide_eq_false_iff_not] at hb
     rw [decide_eq_true (by omega:1≤m),decide_eq_true (by omega:m≤3),decide_eq_true (by omega:pv<m)]
     rfl
    (have tk:=zb Tryz.prog);repeat' (first|((first|(refine sa ?_;intro K hK)|refine sb ?_);simp only [go_sem,aeq,aeq.aeqF,simprocAttr,hcmp,hrow,hrow2,hw1,Int.toNat_natCast,hg0,Bool.true_and,hb,Tryz.results6])|refine zae (fun K hK=>?_)|refine sc ?_|refine zar rfl (fun hc=>?_) (fun hc=>?_)|(refine hK _ ?_;clear hK K)|with_reducible refine And.intro ?_ ?_|(refine (show zaX _ _=true from ?_);kernel_rfl)|omega|assumption|refine fun (hg:(_:Bool)=(_:Bool))=>?_|clear hK K)
    all_goals first|omega|skip
    exact ⟨⟨i+1,by omega,by rw [hnx];exact hz⟩,lev,by simp;omega⟩
 ·rw [hend,List.drop_length,mtOk] at hf
  rw [hf,Bool.true_and] at hZ
  cases hE:(decide ((x.disk.cache.length:Int)≤300)&&decide ((x.maps.length:Int)≤2)&&ifit x&&decide ((ms.length:Int)≤3)&&(q.kind !=2)) with
  |false=>
   rw [hE,Bool.false_and,Bool.false_and] at hZ
   refine' walkW (zr hcmp hE @Bool.false_and) (za zio <| za zfV <| za zeN <| zb _)
   all_goals first|omega|(rw [hZ];done)|skip
  | true=>
   rw [hE,Bool.true_and] at hZ
   have hE2:=hE
   simp only [Bool.and_eq_true,decide_eq_true_eq,bne_iff_ne] at hE2
   obtain ⟨⟨⟨⟨e1,e2⟩,e3⟩,e4⟩,e5⟩:=hE2
   have hgeo:1≤x.geom.guest∧x.geom.guest≤64:=by
    have h2:=e3
    unfold ifit at h2
    simp only [Bool.and_eq_true] at h2
    have h3:=h2.1.1.1.1.1
    rw [geo_iff] at h3
    omega
   obtain ⟨hg0,hg1⟩:=hgeo
   have hwl:IntKind.i64.wrap q.len=q.len:=ze (by omega) (by omega)
   (have tk:=za zio <| za zfV <| za zeN <| zb Tryz.prog);repeat' (first|((first|(refine sa ?_;intro K hK)|refine sb ?_);simp only [go_sem,aeq,aeq.aeqF,simprocAttr,hcmp,hE,Bool.true_and,hwl,Tryz.results6])|refine zae (fun K hK=>?_)|refine sc ?_|refine zar rfl (fun hc=>?_) (fun hc=>?_)|(refine hK _ ?_;clear hK K)|with_reducible refine And.intro ?_ ?_|(refine (show zaX _ _=true from ?_);kernel_rfl)|omega|assumption|refine fun (hg:(_:Bool)=(_:Bool))=>?_|clear hK K)
   all_goals first|omega|exact hq|(rw [hZ];done)|(simp_all;done)|skip
@[go_sem] noncomputable def zdH:Ent Tryz.prog 6:= .m3 zaO rqA_T (slT 1 u32D zfI) zpx
open Go Go.Proofs
theorem ziK (x:Img) (q:Rq) (ms:List Int) (ch:Bool) (e:Int) (h:ImgOk x) (hq:RqOk q) (hm:ms.length≤9223372036854775807) (h0:0≤e) (h1:e<4294967296):ACall Tryz.prog 3 0 [imgA x,rqA q,.d (.sl 1 (ms.map u32D)),.d (.bool ch),.d (.int .u32 e)] [] (fun r _=>r= .d (.bool true)):=by
 refine fbod Tryz.func3 Tryz.ntmps3 (fun base=>?_)
 cases hg:tgood x q ms with
 |false=>refine' walkW hg (za zdH <| za zed <| za ziJ <| za ziF <| za zbm <| za zbq <| za zd0 <| za zgv <| za zba <| za zaD <| za zbR <| zb _)
 |true=>
 have hf:=zn5 h hq hg
 have hmr:∀m∈ms,0≤m∧m<4294967296:=fun m hm=>by have:=hf.mr m hm;omega
 obtain ⟨hi1,hi2,hi3⟩:=zhI hf.img q hf.lms
 have hrows:=zfM hmr ((tnew q).cuts.length+1) (x:=x) (t:=tnew q) SpR.nil
 have hts:=hi3.ts hf hrows
 have hnw:=(Tiv.new q).ts hf SpR.nil
 have hn0:zcJ (tnew q) ch= []:=by rw [zcJ,if_pos (show (tnew q).done=false from rfl)]
 obtain ⟨R,hR⟩:∃R,R=trun x q ms:=⟨_,rfl⟩
 obtain ⟨T,hT⟩:∃T,T=tnew q:=⟨_,rfl⟩
 rw [← hR] at hi1 hi2 hi3
 rw [← hT] at hnw hn0
 have hts1:TsOk R.2:=by rw [hR];exact hts.1
 have hts2:TmOk R.2:=by rw [hR];exact hts.2
 have hio:=hi2.ok
 obtain ⟨hnw1,hnw2⟩:=hnw
 have d1:decide (R.1=R.1)=true:=by simp
 have d2:decide (R.2=R.2)=true:=by simp
 have d3:(zcJ R.2 ch==zcJ R.2 ch)=true:=by simp
 have d4:(zdm q e ch==zdm q e ch)=true:=by simp
 have d5:(([]:Txt)== [])=true:=rfl
 refine' walkW (zq hg hR.symm hT.symm d1 d2 (zS d3 d4 hn0 d5)) (za zdH <| za zed <| za ziJ <| za ziF <| za zbm <| za zbq <| za zd0 <| za zgv <| za zba <| za zaD <| za zbR <| zb _)
 all_goals skip
theorem zkT (x:Img) (q:Rq) (ms:List Int) (h:ImgOk x) (hq:RqOk q) (hm:ms.length≤9223372036854775807):ACall Tryz.prog 5 0 [imgA x,rqA q,.d (.sl 1 (ms.map u32D))] [] (fun r _=>r= .d (.bool true)):=by
 refine fbod Tryz.func5 Tryz.ntmps5 (fun base=>?_)
 cases hg:tgood x q ms with
 |false=>refine' walkW hg (za zdH <| za zed <| za zcZ <| za zbp <| za zbm <| za zbq <| za zfL <| za zbR <| za zbx <| za zbS <| za za8 <| zb _)
 |true=>
 have hf:=zn5 h hq hg
 have hmr:∀m∈ms,0≤m∧m<4294967296:=fun m hm=>by have:=hf.mr m hm;omega
 have hlm:=hf.lms
 have hml:ms.length≤1000:=by omega
 have hnl:=zfK q
 have hend:(trunN ms ((tnew q).cuts.length+2) x (tnew q)).2.done=true:=ziB hf.lms _ (Tiv.new q) (by simp [tnew])
 obtain ⟨N,hN⟩:∃N,N=(tnew q).cuts.length:=⟨_,rfl⟩
 obtain ⟨T,hT⟩:∃T,T=tnew q:=⟨_,rfl⟩
 have hTi:Tiv q T:=by rw [hT];exact Tiv.new q
 have hTs:SpR T.spans:=by rw [hT];exact SpR.nil
 have hTm:TmOk T:=(hTi.ts hf hTs).2
 rw [← hN,← hT] at hend
 rw [← hN] at hnl
 have hTN:(T.cuts.length:Int)=N:=by rw [hT,hN]
 have hw2:IntKind.i64.wrap ((N:Int)+1+1)=(N:Int)+2:=by rw [ze (by omega) (by omega)];omega
 have d0:decide (T=T)=true:=by simp
 have d1:((N:Int)+1 !=(N:Int)+1)=false:=by simp
 refine' walkW (zq hg hT.symm hTN d0 d1 hw2) (za zdH <| za zed <| za zcZ <| za zbp <| za zbm <| za zbq <| za zfL <| za zbR <| za zbx <| za zbS <| za za8 <| zb _)
 refine zo (fun p: { p:Nat×Img×Tsk // p.1≤N+2∧(trunN ms (N+2 - p.1) p.2.1 p.2.2).2.done=true∧ImgF p.2.1∧IF x p.2.1∧Tiv q p.2.2∧SpR p.2.2.spans } =>⟨[(2,true,.d (.sl 1 (ms.map u32D))),(3,true,.vp 0 0),(7,true,.vp 6 0),(8,true,.vp 7 0),(9,true,.vp 8 0),(44,true,.d (.int .i64 ((N:Int)+2))),(45,true,.d (.int .i64 p.1.1))],[(8,.var (imgV p.1.2.1)),(7,.var (tskS p.1.2.2)),(6,.var (tskS p.1.2.2)),(0,.var (imgV p.1.2.1))],some []⟩) (fun p=>N+2 - p.1.1) ⟨(0,x,T),Nat.zero_le _,hend,hf.img,IF.refl x,hTi,hTs⟩ le1 (fun p=>?_)
 obtain ⟨⟨i,X,t⟩,hi,hfi,hX,hif,ht,hts⟩:=p
 simp only at hi hfi hX hif ht hts ⊢
 rcases Nat.lt_or_ge i (N+2) with hlt|hge
 ·have hcmp:decide ((i:Int)<(N:Int)+2)=true:=decide_eq_true (by omega)
  have hwi:=zn (i:=i) (by omega)
  have hfX:=hf.step hX hif
  have hok2:=ht.ok hfX
  rw [show N+2 - i=(N+1 - i)+1 by omega,trunN] at hfi
  obtain ⟨h1,h2⟩:=IF.step hX t ms
  have h3:=ht.step X ms hlm
  have h4:=zjT (x:=X) hmr hts
  have h5:=(ht.ts hfX hts).2
  obtain ⟨S,hS⟩:∃S,S=tstep X t ms:=⟨_,rfl⟩
  rw [← hS] at hfi h1 h2 h3 h4
  have h6:=(h3.ts hf h4).2
  have hSo:=h2.ok
  have e1:decide (S.1=S.1)=true:=by simp
  have e2:decide (S.2=S.2)=true:=by simp
  have e3:(decide (t=S.2) !=decide (t=S.2))=false:=by simp
  refine' walkW (zaH hcmp hS.symm e1 e2 e3) (za zdH <| za zed <| za zcZ <| za zbp <| za zbm <| za zbq <| za zfL <| za zbR <| za zbx <| za zbS <| za za8 <| zb _)
  all_goals first|omega|skip
  exact ⟨⟨(i+1,S.1,S.2),by omega,by rw [show N+2 - (i+1)=N+1 - i by omega];exact hfi,h2,hif.trans h1,h3,h4⟩,lev,by simp;omega⟩
 ·have hcmp:decide ((i:Int)<(N:Int)+2)=false:=decide_eq_false (by omega)
  rw [show N+2 - i=0 by omega,trunN] at hfi
  simp only at hfi
  refine' walkW (zk hcmp hfi) (za zdH <| za zed <| za zcZ <| za zbp <| za zbm <| za zbq <| za zfL <| za zbR <| za zbx <| za zbS <| za za8 <| zb _)
open Go Go.Proofs
theorem zmJ (x:Img) (q:Rq) (h:ImgOk x) (hq:RqOk q):ACall Tryz.prog 4 0 [imgA x,rqA q] [] (fun r _=>r= .d (.bool true)):=by
 refine fbod Tryz.func4 Tryz.ntmps4 (fun base=>?_)
 have hgd:=zpx x q [1] ⟨h,hq,by decide⟩
 refine' zdS (zbh 1) fx
 refine zae (fun K hK=>?_)
 refine zeg noTab (zb _) 3 2 (fun K hK=>?_)
 simp only [go_sem,aeq,aeq.aeqF,simprocAttr]
 refine ⟨_,rfl,?_⟩
 simp only [go_sem,aeq,aeq.aeqF,simprocAttr]
 refine (zbJ hgd).mono ?_
 rintro r h' ⟨rfl,rfl⟩
 cases hg:tgood x q [1] with
 |false=>
  simp only [go_sem,aeq,aeq.aeqF,simprocAttr]
  refine' walkW fx (za zed <| za zbm <| za zbq <| za zd0 <| zb _)
 |true=>
 have hf:=zn5 h hq hg
 have hmr:∀m∈([1]:List Int),0≤m∧m<4294967296:=fun m hm=>by have:=hf.mr m hm;omega
 obtain ⟨hi1,hi2,hi3⟩:=zhI hf.img q hf.lms
 have hrows:=zfM hmr ((tnew q).cuts.length+1) (x:=x) (t:=tnew q) SpR.nil
 have hts:=hi3.ts hf hrows
 have hdn:=zl7 (x:=x) q hf.lms
 have hrn:=ztq x q [1] hf
 have hne:=zwW hf
 have hok2:=hi3.ok (hf.step hi2 hi1)
 have hst:=zpw (trun x q [1]).1 (trun x q [1]).2 [1] ⟨hok2,by decide,hmr⟩
 rw [zfJ hdn] at hst
 obtain ⟨R,hR⟩:∃R,R=trun x q [1]:=⟨_,rfl⟩
 rw [← hR] at hi1 hi2 hi3 hdn hrn hne hst
 have hts1:TsOk R.2:=by rw [hR];exact hts.1
 have hts2:TmOk R.2:=by rw [hR];exact hts.2
 have hio:=hi2.ok
 simp only [go_sem,aeq,aeq.aeqF,simprocAttr]
 refine' zdS (zbh 3) fx
 refine zeg noTab (zb _) 3 2 (fun K hK=>?_)
 simp only [go_sem,aeq,aeq.aeqF,simprocAttr]
 refine ⟨_,rfl,?_⟩
 simp only [go_sem,aeq,aeq.aeqF,simprocAttr]
 refine (zbJ hrn).mono ?_
 rintro r h' ⟨rfl,rfl⟩
 simp only [go_sem,aeq,aeq.aeqF,simprocAttr]
 refine' zdS (zbh 4) fx
 refine zeg noTab (zb _) 3 4 (fun K hK=>?_)
 simp only [go_sem,aeq,aeq.aeqF,simprocAttr]
 refine ⟨_,rfl,?_⟩
 simp only [go_sem,aeq,aeq.aeqF,simprocAttr]
 refine (zbJ hst).mono ?_
 rintro r h' ⟨rfl,rfl⟩
 simp only [go_sem,aeq,aeq.aeqF,simprocAttr]
 have d1:decide (R.1=R.1)=true:=by simp
 have d2:decide (R.2=R.2)=true:=by simp
 have d3:(zcJ R.2 true==zcJ R.2 true)=true:=by simp
 have d4:(zcJ R.2 true != [])=true:=by simpa using hne
 have e9:Tsk.mk R.2.q R.2.cuts R.2.loc R.2.err R.2.data R.2.spans true=R.2:=by rw [← hdn]
 refine' walkW (zq d1 d2 d3 d4 hdn e9) (za zed <| za zbm <| za zbq <| za zd0 <| zb _)
end Go.Aw
