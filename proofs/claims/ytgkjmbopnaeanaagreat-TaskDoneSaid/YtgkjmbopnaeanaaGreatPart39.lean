/-
 Requests, the reference's: what is checked, what is begun.
-/
import Derived.Test.YtgkjmbopnaeanaaGreatPart37
set_option maxRecDepth 100000
set_option maxHeartbeats 2000000
set_option linter.unusedSimpArgs false
set_option linter.unusedVariables false
namespace Go.Aw
open Go Go.Proofs
theorem zn7 (k:Int) (ch:Bool) (_:True):AC 65 [.d (.int .i64 k),.d (.bool ch)] (.d (.int .i64 (ziD k ch))):=by
 refine fbod Tryz.func65 Tryz.ntmps65 (fun base=>?_)
 obtain ⟨Z,hZ⟩:∃Z,Z=ziD k ch:=⟨_,rfl⟩
 rw [← hZ]
 unfold ziD at hZ
 by_cases h:k=0∨k=1∨k=4∨k=6∨k=3∨k=2∨k=7
 ·rcases h with rfl|rfl|rfl|rfl|rfl|rfl|rfl
  ·cases ch with
   |true=>
    refine' zc fx
    rw [hZ];rfl
   |false=>
    refine' zc fx
    rw [hZ];rfl
  all_goals
   refine' zc fx
   rw [hZ]
   rfl
 ·have e0:(k==0)=false:=by rw [beq_eq_false_iff_ne];omega
  have e1:(k==1)=false:=by rw [beq_eq_false_iff_ne];omega
  have e4:(k==4)=false:=by rw [beq_eq_false_iff_ne];omega
  have e6:(k==6)=false:=by rw [beq_eq_false_iff_ne];omega
  have e3:(k==3)=false:=by rw [beq_eq_false_iff_ne];omega
  have e2:(k==2)=false:=by rw [beq_eq_false_iff_ne];omega
  have e7:(k==7)=false:=by rw [beq_eq_false_iff_ne];omega
  rw [if_neg (by omega),if_neg (by omega),if_neg (by omega),if_neg (by omega),if_neg (by omega)] at hZ
  refine' zc (zq e0 e1 e4 e6 e3 (zk e2 e7))
  rw [hZ]
@[go_sem] noncomputable def zaj:Ent Tryz.prog 65:= .m2 (intT .i64) boolT zn7
theorem zmi (x:Img) (hp:ImgOk x∧0≤x.geom.guest∧x.geom.guest≤1000000∧x.maps.length≤1000000):AC 25 [imgA x] (.agg [.d (.int .u64 (128*x.geom.guest)),.d (.sl 1 ((x.maps.map (fun m=>m.name)).map strD))]):=by
 obtain ⟨h,h0,h1,hm⟩:=hp
 refine fbod Tryz.func25 Tryz.ntmps25 (fun base=>?_)
 have hw:IntKind.u64.wrap (128*x.geom.guest)=128*x.geom.guest:=zT (by omega) (by omega)
 refine' walkW hw (za zmd <| zb _)
 refine zge 2 1 1 (cs:= [.d (.int .u64 (128*x.geom.guest)),.nils 1]) rfl rfl ?_
 simp only [go_sem,aeq,aeq.aeqF,simprocAttr]
 refine zo (fun q: { i:Nat // i≤x.maps.length } =>⟨[(1,true,.vp 0 0),(2,true,.vp 1 0),(3,true,.vp 2 0),(4,true,.d (.int .i64 q.1))],[(3,.arr 1 (((x.maps.take q.1).map (fun m=>m.name)).map strD)),(2,.var [.d (.int .u64 (128*x.geom.guest)),.osl 3 1 q.1 0 q.1]),(1,.var [.d (.int .u64 0),.nils 1]),(0,.var (imgV x))],some []⟩) (fun q=>x.maps.length - q.1) ⟨0,Nat.zero_le _⟩ le1 (fun q=>?_)
 obtain ⟨i,hi⟩:=q
 simp only at hi ⊢
 have htl:(((x.maps.take i).map (fun m=>m.name)).map strD).length=i:=by simp;omega
 rcases zD dmapD x.maps i hi with ⟨m,hq,hlt,hcmp,hrow,hdr,htk⟩|⟨hend,hcmp⟩
 ·simp only [dmapD] at hrow
  have hwi:=zn (i:=i) (by omega)
  refine' zc (zr hcmp hrow htl)
  all_goals first|omega|skip
  exact ⟨⟨i+1,by omega⟩,by simp only [htk,List.map_append,List.map_cons,List.map_nil];simp only [AS.le,leT,leH,zf,AsgK,AV.le,AV.leL,AObj.le,inH,idsT,idsH,AV.ids,AV.idsL,AV.idsR,AObj.ids,lk,hget,go_sem,aeq,aeq.aeqF,simprocAttr,hwi,strD]<;>and_intros<;>rfl,by simp;omega⟩
 ·refine' zc (zk hcmp htl)
  rw [hend,List.take_length,List.take_of_length_le (by simp)]
@[go_sem] noncomputable def zfV:Ent Tryz.prog 25:= .m1 zaO zmi
theorem zn8 (q:Rq) (size:Int) (names:List (List D)) (ms:List Int) (h:RqOk q) (h0:0≤size) (h1:size<9223372036854775808) (hm:ms.length≤9223372036854775807):ACall Tryz.prog 24 0 [rqA q,.agg [.d (.int .u64 size),.d (.sl 1 names)],.agg [.d (.int .i64 0),.d (.str []),.d (.bool false),.d (.bool true),.d (.sl 1 (ms.map u32D))]] [] (fun r _=>r= .d (.int .u32 (zhr q size ms))):=by
 refine fbod Tryz.func24 Tryz.ntmps24 (fun base=>?_)
 obtain ⟨Z,hZ⟩:∃Z,Z=zhr q size ms:=⟨_,rfl⟩
 rw [← hZ]
 rw [zhr] at hZ
 have hl0:=h.l0
 have hl1:=h.l1
 have hf0:=h.f0
 have hf1:=h.f1
 have hw:IntKind.u64.wrap q.len=q.len:=zT (by omega) (by omega)
 obtain ⟨m,hmay⟩:∃m,m=ziD q.kind true:=⟨_,rfl⟩
 rw [← hmay] at hZ
 cases e0:decide (m<0) with
 |true=>
  refine' walkW (zk hmay.symm e0) (za zaj <| zb _)
  rw [hZ,if_pos (of_decide_eq_true e0)]
 |false=>
 rw [if_neg (of_decide_eq_false e0)] at hZ
 refine' walkW (zk hmay.symm e0) (za zaj <| zb _)
 refine zo (fun q': { i:Nat // i≤16∧cbad q.flags m=cbadL q.flags m i (16 - i) } =>⟨[(3,true,.vp 0 0),(4,true,.vp 1 0),(5,true,.vp 2 0),(7,true,.d (.int .i64 m)),(8,true,.d (.int .i64 q'.1))],[(2,.var [.d (.int .i64 0),.d (.str []),.d (.bool false),.d (.bool true),.d (.sl 1 (ms.map u32D))]),(1,.var [.d (.int .u64 size),.d (.sl 1 names)]),(0,.var [.d (.int .i64 q.flags),.d (.int .i64 q.kind),.d (.int .u64 q.cookie),.d (.int .u64 q.frm),.d (.int .u32 q.len),.d (.str q.data)])],some []⟩) (fun q'=>16 - q'.1) ⟨0,Nat.zero_le _,rfl⟩ le1 (fun q'=>?_)
 obtain ⟨i,hi,hf⟩:=q'
 simp only at hi hf ⊢
 rcases Nat.lt_or_ge i 16 with hlt|hge
 ·have hcmp:decide ((i:Int)<16)=true:=decide_eq_true (by omega)
  have hwi:=zn (i:=i) (by omega)
  rw [show 16 - i=(15 - i)+1 by omega,cbadL] at hf
  cases hb:cbad1 q.flags m i with
  |true=>
   have hb2:=hb
   unfold cbad1 at hb2
   rw [hb,Bool.true_or] at hf
   rw [if_pos hf] at hZ
   refine' walkW (zk hcmp hb2) (za zaj <| zb _)
   rw [hZ]
  |false=>
   have hb2:=hb
   unfold cbad1 at hb2
   rw [hb,Bool.false_or] at hf
   refine' walkW (zk hcmp hb2) (za zaj <| zb _)
   exact ⟨⟨i+1,by omega,by rw [hf,show 16 - (i+1)=15 - i by omega]⟩,lev,by simp;omega⟩
 ·have hcmp:decide ((i:Int)<16)=false:=decide_eq_false (by omega)
  rw [show 16 - i=0 by omega,cbadL] at hf
  rw [hf,if_neg (by decide)] at hZ
  cases e2:(q.kind==2) with
  |true=>
   refine' walkW (zk hcmp e2) (za zaj <| zb _)
   rw [hZ,if_pos (beqP e2)]
  |false=>
  rw [if_neg (beqN e2)] at hZ
  cases e3:(q.kind==3) with
  | true=>
   rw [if_pos (beqP e3)] at hZ
   cases e4:(q.frm !=0||q.len !=0) with
   |true=>
    refine' walkW (zS hcmp e2 e3 e4) (za zaj <| zb _)
    rw [hZ,if_pos (by simpa using e4)]
   |false=>
    refine' walkW (zS hcmp e2 e3 e4) (za zaj <| zb _)
    rw [hZ,if_neg (by simpa using e4)]
  |false=>
  rw [if_neg (beqN e3)] at hZ
  cases e5:(q.len==0) with
  |true=>
   refine' walkW (zS hcmp e2 e3 e5) (za zaj <| zb _)
   rw [hZ,if_pos (beqP e5)]
  |false=>
  rw [if_neg (beqN e5)] at hZ
  cases e6:decide (1024<q.len) with
  |true=>
   refine' walkW (zaH hcmp e2 e3 e5 e6) (za zaj <| zb _)
   rw [hZ,if_pos (of_decide_eq_true e6)]
  |false=>
  rw [if_neg (of_decide_eq_false e6)] at hZ
  have e7:(decide (size<q.frm)||decide (IntKind.u64.wrap (size - q.frm)<q.len))=decide (size<q.frm∨size - q.frm<q.len):=by
   rcases Int.lt_or_le size q.frm with h2|h2
   ·rw [decide_eq_true h2,decide_eq_true (Or.inl h2),Bool.true_or]
   ·rw [zT (by omega) (by omega),decide_eq_false (by omega:¬size<q.frm),Bool.false_or]
    simp only [show ¬size<q.frm by omega,false_or]
  by_cases h7:size<q.frm∨size - q.frm<q.len
  ·rw [if_pos h7] at hZ
   rw [decide_eq_true h7] at e7
   cases e8:(q.kind==1) with
   |true=>
    refine' walkW (zq hcmp e2 e3 e5 e6 (zr hw e7 e8)) (za zaj <| zb _)
    rw [hZ,if_pos (beqP e8)]
   |false=>
    refine' walkW (zq hcmp e2 e3 e5 e6 (zr hw e7 e8)) (za zaj <| zb _)
    rw [hZ,if_neg (beqN e8)]
  ·rw [if_neg h7] at hZ
   rw [decide_eq_false h7] at e7
   cases e8:(q.kind==7&&((ms.length:Int)==0)) with
   |true=>
    refine' walkW (zq hcmp e2 e3 e5 e6 (zr hw e7 e8)) (za zaj <| zb _)
    rw [hZ,if_pos (by simpa using e8)]
   |false=>
    refine' walkW (zq hcmp e2 e3 e5 e6 (zr hw e7 e8)) (za zaj <| zb _)
    rw [hZ,if_neg (by simpa using e8)]
noncomputable def zeN:Ent Tryz.prog 24:=Ent.of 24 (fun x:(Rq)×(Int)×(List (List D))×(List Int)=>(fun (q:Rq) (size:Int) (names:List (List D)) (ms:List Int)=>([rqA q,.agg [.d (.int .u64 size),.d (.sl 1 names)],.agg [.d (.int .i64 0),.d (.str []),.d (.bool false),.d (.bool true),.d (.sl 1 (ms.map u32D))]]:List AV)) x.1 x.2.1 x.2.2.1 x.2.2.2) (fun x:(Rq)×(Int)×(List (List D))×(List Int)=>(fun (q:Rq) (size:Int) (names:List (List D)) (ms:List Int)=>((RqOk q)∧(0≤size)∧(size<9223372036854775808)∧(ms.length≤9223372036854775807):Prop)) x.1 x.2.1 x.2.2.1 x.2.2.2) (fun x:(Rq)×(Int)×(List (List D))×(List Int)=>(fun (q:Rq) (size:Int) (names:List (List D)) (ms:List Int)=>(.d (.int .u32 (zhr q size ms)):AV)) x.1 x.2.1 x.2.2.1 x.2.2.2) (fun x hp=>⟨rfl,zn8 x.1 x.2.1 x.2.2.1 x.2.2.2 hp.1 hp.2.1 hp.2.2.1 hp.2.2.2⟩)
theorem zkK:∀x y:(Rq)×(Int)×(List (List D))×(List Int),(fun x:(Rq)×(Int)×(List (List D))×(List Int)=>(fun (q:Rq) (size:Int) (names:List (List D)) (ms:List Int)=>([rqA q,.agg [.d (.int .u64 size),.d (.sl 1 names)],.agg [.d (.int .i64 0),.d (.str []),.d (.bool false),.d (.bool true),.d (.sl 1 (ms.map u32D))]]:List AV)) x.1 x.2.1 x.2.2.1 x.2.2.2) x=(fun x:(Rq)×(Int)×(List (List D))×(List Int)=>(fun (q:Rq) (size:Int) (names:List (List D)) (ms:List Int)=>([rqA q,.agg [.d (.int .u64 size),.d (.sl 1 names)],.agg [.d (.int .i64 0),.d (.str []),.d (.bool false),.d (.bool true),.d (.sl 1 (ms.map u32D))]]:List AV)) x.1 x.2.1 x.2.2.1 x.2.2.2) y→x=y:=by
 intro x y h
 obtain ⟨⟨_,_,_,_,_,_⟩,_,_,_⟩:=x
 obtain ⟨⟨_,_,_,_,_,_⟩,_,_,_⟩:=y
 simpa only [rqA,Rq.mk.injEq,List.cons.injEq,AV.d.injEq,AV.agg.injEq,AV.dp.injEq,AV.fn.injEq,AV.tup.injEq,AV.asl.injEq,Int.natCast_inj,D.int.injEq,D.str.injEq,D.bool.injEq,D.sl.injEq,Prod.mk.injEq,and_true,true_and,and_assoc,zrB zfI] using h
@[go_sem] theorem ztw (q_flags:Int) (q_kind:Int) (q_cookie:Int) (q_frm:Int) (q_len:Int) (q_data:Txt) (size:Int) (names:List (List D)) (ms:List Int):(zeN).e [.agg [.d (.int .i64 q_flags),.d (.int .i64 q_kind),.d (.int .u64 q_cookie),.d (.int .u64 q_frm),.d (.int .u32 q_len),.d (.str q_data)],.agg [.d (.int .u64 size),.d (.sl 1 names)],.agg [.d (.int .i64 0),.d (.str []),.d (.bool false),.d (.bool true),.d (.sl 1 (ms.map u32D))]]=some ((RqOk (Rq.mk q_flags q_kind q_cookie q_frm q_len q_data))∧(0≤size)∧(size<9223372036854775808)∧(ms.length≤9223372036854775807),.d (.int .u32 (zhr (Rq.mk q_flags q_kind q_cookie q_frm q_len q_data) size ms))):=Ent.of_app zkK ((Rq.mk q_flags q_kind q_cookie q_frm q_len q_data),size,names,ms)
theorem zmj (k:Int) (_:True):AC 49 [.d (.int .i64 k)] (.d (.bool (isPc k))):=by
 refine fbod Tryz.func49 Tryz.ntmps49 (fun base=>?_)
 refine' zc fx
 rfl
@[go_sem] noncomputable def zfW:Ent Tryz.prog 49:= .m1 (intT .i64) zmj
theorem zpt {q:Rq} (h:(isPc q.kind&&decide (q.frm<1073741824))=true):tnew q=⟨q,cutsL q.frm q.len,0,0,[],[],false⟩:=by
 rw [Bool.and_eq_true,decide_eq_true_eq] at h
 rw [tnew,if_pos h]
theorem zkL {q:Rq} (h:(isPc q.kind&&decide (q.frm<1073741824))=false):tnew q=⟨q,[],0,0,[],[],false⟩:=by
 rw [← Bool.not_eq_true,Bool.and_eq_true,decide_eq_true_eq] at h
 rw [tnew,if_neg h]
theorem zs4 (q:Rq) (h:RqOk q):AC 18 [rqA q] (tskA (tnew q)):=by
 refine fbod Tryz.func18 Tryz.ntmps18 (fun base=>?_)
 have hl0:=h.l0
 have hl1:=h.l1
 have hf0:=h.f0
 have hf1:=h.f1
 cases hb:(isPc q.kind&&decide (q.frm<1073741824)) with
 |true=>
  have hb2:q.frm<1073741824:=by simp only [Bool.and_eq_true,decide_eq_true_eq] at hb;exact hb.2
  have hw1:IntKind.i64.wrap q.frm=q.frm:=ze (by omega) (by omega)
  have hw2:IntKind.i64.wrap q.len=q.len:=ze (by omega) (by omega)
  refine' walkW (zr hb hw1 hw2) (za zfW <| za z7 <| zb _)
  rw [zpt hb]
  rfl
 |false=>
  refine' walkW hb (za zfW <| za z7 <| zb _)
  rw [zkL hb]
  rfl
@[go_sem] noncomputable def zbx:Ent Tryz.prog 18:= .m1 rqA_T zs4
theorem zfK (q:Rq):(tnew q).cuts.length≤65536:=by
 unfold tnew
 simp only
 split
 ·exact zce _ _
 ·exact Nat.zero_le _
theorem zn9 (q:Rq) (h:RqOk q):AC 20 [rqA q] (.d (.int .i64 ((tnew q).cuts.length+1))):=by
 refine fbod Tryz.func20 Tryz.ntmps20 (fun base=>?_)
 have hn:=zfK q
 have hw:IntKind.i64.wrap (((tnew q).cuts.length:Int)+1)=(tnew q).cuts.length+1:=ze (by omega) (by omega)
 refine' walkW hw (za zbx <| zb _)
@[go_sem] noncomputable def za8:Ent Tryz.prog 20:= .m1 rqA_T zn9
theorem zmk (t:Tsk) (e:Int) (_:True):AC 57 [tskA t,.d (.int .i64 e)] (tskA (tfail t e)):=by
 refine fbod Tryz.func57 Tryz.ntmps57 (fun base=>?_)
 refine' zc fx
 ·rw [tfail,if_pos (beqP hc)]
  rfl
 ·rw [tfail,if_neg (beqN hc)]
  rfl
@[go_sem] noncomputable def zM:Ent Tryz.prog 57:= .m2 zfn (intT .i64) zmk
end Go.Aw
