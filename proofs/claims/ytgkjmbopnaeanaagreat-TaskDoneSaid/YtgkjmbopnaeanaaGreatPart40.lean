/-
  Parts of the proof: TaskP, TaskT, TaskN (short names; the readable texts lie in the repo, under wip).
-/
import Derived.Test.YtgkjmbopnaeanaaGreatPart37
import Derived.Test.YtgkjmbopnaeanaaGreatPart38
set_option maxRecDepth 100000
set_option maxHeartbeats 2000000
set_option linter.unusedSimpArgs false
set_option linter.unusedVariables false
namespace Go.Aw
open Go Go.Proofs
theorem zw0 {m:Dmap} {Z:List Ext×Int} {c0 c1 c2:Nat} {r:List (Nat×Nat×Nat)} {o:List Ext} (h:Z=spL (bitF m) ((c0,c1,c2)::r) o):Z=spL (bitF m) r (o++ [⟨c2,if m.bits.getD c0 false then 1 else 0⟩]):=by
 rw [h,spL,if_neg (show ¬(bitF m c0).2≠0 from fun h=>h rfl)]
 rfl
theorem zog (x:Img) (name:Txt) (a n:Int) (hp:ImgF x∧0≤x.geom.guest∧x.maps.length≤5000):AC 93 [imgA x,.d (.str name),.d (.int .i64 a),.d (.int .i64 n)] (.tup [.d (.sl 2 ((zcG x name a n).1.map extD)),.d (.int .i64 (zcG x name a n).2)]):=by
 obtain ⟨h,h0,hm⟩:=hp
 refine fbod Tryz.func93 Tryz.ntmps93 (fun base=>?_)
 have hgu:=h.guest
 have hmb:=h.ok.bits
 obtain ⟨Z,hZ⟩:∃Z,Z=zcG x name a n:=⟨_,rfl⟩
 rw [← hZ]
 rw [zcG] at hZ
 by_cases hr:n<1∨inB x.geom.guest a n=false
 ·rw [if_pos hr] at hZ
  have hdec:(decide (n<1)|| !inB x.geom.guest a n)=true:=by simpa using hr
  refine' walkW hdec (za zH <| za z7 <| za zas <| zb _)
  rw [hZ]
  rfl
 rw [if_neg hr] at hZ
 have hdec:(decide (n<1)|| !inB x.geom.guest a n)=false:=by simpa using hr
 have hin:inB x.geom.guest a n=true:=by simp at hr;exact hr.2
 rw [inB_iff] at hin
 obtain ⟨l,hl⟩:∃l,l=cutsL a n:=⟨_,rfl⟩
 have hll:l.length≤65536:=by rw [hl];exact zce a n
 have hrg:∀q∈l,1≤q.2.2∧q.2.2≤128∧q.1<64:=by
  rw [hl]
  intro q hq
  have h1:=zdf q hq
  have h2:=zfH a n q hq
  omega
 rw [← hl] at hZ
 refine' walkW hdec (za zH <| za z7 <| za zas <| zb _)
 refine zo (fun q: { i:Nat // i≤x.maps.length∧x.maps.find? (fun m=>m.name==name)=(x.maps.drop i).find? (fun m=>m.name==name) } =>⟨[(1,true,.d (.str name)),(2,true,.d (.int .i64 a)),(3,true,.d (.int .i64 n)),(4,true,.vp 0 0),(10,true,.d (.int .i64 q.1))],[(0,.var (imgV x))],some []⟩) (fun q=>x.maps.length - q.1) ⟨0,Nat.zero_le _,rfl⟩ le1 (fun q=>?_)
 obtain ⟨i,hi,hf⟩:=q
 simp only at hi hf ⊢
 rcases zD dmapD x.maps i hi with ⟨m,hq,hlt,hcmp,hrow,hdr,htk⟩|⟨hend,hcmp⟩
 ·simp only [dmapD] at hrow
  have hwi:=zn (i:=i) (by omega)
  rw [hdr,List.find?_cons] at hf
  cases hnm:(m.name==name) with
  |false=>
   have hnn:(m.name !=name)=true:=by simp [bne,hnm]
   rw [hnm] at hf
   refine' walkW (zr hcmp hrow hnn) (za zH <| za z7 <| za zas <| zb _)
   exact ⟨⟨i+1,by omega,hf⟩,lev,by simp;omega⟩
  | true=>
   have hnn:(m.name !=name)=false:=by simp [bne,hnm]
   rw [hnm] at hf
   rw [hf] at hZ
   simp only at hZ
   have hml:=hmb m (List.mem_of_getElem? hq)
   refine' walkW (zS hcmp hrow hnn hl.symm) (za zH <| za z7 <| za zas <| zb _)
   refine zcg 11 2 rfl ?_
   simp only [fresh,top,hget, ↓reduceIte]
   refine zo (fun q: { q:Nat×List Ext // q.1≤l.length∧q.2.length=q.1∧(∀y∈q.2,1≤y.len∧y.len≤128)∧Z=spL (bitF m) (l.drop q.1) q.2 } =>⟨[(4,true,.vp 0 0),(10,true,.d (.int .i64 i)),(11,true,.osl 1 2 q.1.2.length 0 q.1.2.length),(12,true,.d (.sl 3 (l.map cutD))),(13,true,.d (.int .i64 q.1.1))],[(1,.arr 2 (q.1.2.map extD)),(0,.var (imgV x))],some []⟩) (fun q=>l.length - q.1.1) ⟨(0,[]),Nat.zero_le _,rfl,by simp,hZ⟩ le1 (fun q=>?_)
   obtain ⟨⟨j,o⟩,hj,hol,ho,hf2⟩:=q
   simp only at hj hol ho hf2 ⊢
   rcases zD cutD l j hj with ⟨⟨c0,c1,c2⟩,hq2,hlt2,hcmp2,hrow2,hdr2,htk2⟩|⟨hend2,hcmp2⟩
   ·simp only [cutD] at hrow2
    have hwj:=zn (i:=j) (by omega)
    have hcr:=hrg _ (List.mem_of_getElem? hq2)
    rw [hdr2] at hf2
    have hf2:=zw0 hf2
    simp only at hcr
    have hgo:∀v:Int,v=(if m.bits.getD c0 false then 1 else 0)→∃q': { q:Nat×List Ext // q.1≤l.length∧q.2.length=q.1∧(∀y∈q.2,1≤y.len∧y.len≤128)∧Z=spL (bitF m) (l.drop q.1) q.2 },q'.1=(j+1,o++ [⟨c2,v⟩]):=by
     rintro v rfl
     exact ⟨⟨(j+1,o++ [⟨c2,_⟩]),by omega,by simp [hol],fun y hy=>by
      rcases List.mem_append.1 hy with hy|hy
      ·exact ho y hy
      ·rw [List.mem_singleton] at hy
       subst hy
       simp only
       omega,hf2⟩,rfl⟩
    have hbl:1≤(List.drop (c0*1) (List.map AV.d (List.map D.bool m.bits))).length:=by simp;omega
    have hbv:(List.drop (c0*1) (List.map AV.d (List.map D.bool m.bits))).getD 0 AV.any= .d (.bool (m.bits.getD c0 false)):=by
     rw [Nat.mul_one,List.getD_eq_getElem?_getD,List.getElem?_drop,List.map_map,List.getElem?_map,Nat.add_zero,List.getElem?_eq_getElem (by omega),List.getD_eq_getElem?_getD,List.getElem?_eq_getElem (by omega)]
     rfl
    cases hbt:m.bits.getD c0 false with
    |true=>
     rw [hbt] at hgo hbv
     obtain ⟨q',hq'⟩:=hgo 1 rfl
     refine' walkW (zq hcmp2 hrow2 hlt hrow natC (zk hml hbv)) (za zH <| za z7 <| za zas <| zb _)
     all_goals first|omega|skip
     exact ⟨q',by rw [hq'];simp only [List.map_append,List.length_append,List.length_singleton,List.map_cons,List.map_nil];simp only [AS.le,leT,leH,zf,AsgK,AV.le,AV.leL,AObj.le,inH,idsT,idsH,AV.ids,AV.idsL,AV.idsR,AObj.ids,lk,hget,go_sem,aeq,aeq.aeqF,simprocAttr,hwj,extD]<;>and_intros<;>rfl,by rw [hq'];simp;omega⟩
    |false=>
     rw [hbt] at hgo hbv
     obtain ⟨q',hq'⟩:=hgo 0 rfl
     refine' walkW (zq hcmp2 hrow2 hlt hrow natC (zk hml hbv)) (za zH <| za z7 <| za zas <| zb _)
     all_goals first|omega|skip
     exact ⟨q',by rw [hq'];simp only [List.map_append,List.length_append,List.length_singleton,List.map_cons,List.map_nil];simp only [AS.le,leT,leH,zf,AsgK,AV.le,AV.leL,AObj.le,inH,idsT,idsH,AV.ids,AV.idsL,AV.idsR,AObj.ids,lk,hget,go_sem,aeq,aeq.aeqF,simprocAttr,hwj,extD]<;>and_intros<;>rfl,by rw [hq'];simp;omega⟩
   ·rw [hend2,List.drop_length,spL] at hf2
    have hol2:o.length≤65536:=by omega
    refine zc8 1 rfl ?_;simp only [go_sem,aeq,aeq.aeqF,simprocAttr]
    refine' walkW hcmp2 (za zH <| za z7 <| za zas <| zb _)
    all_goals first|omega|exact ho|skip
    rw [hf2]
 ·rw [hend,List.drop_length,List.find?_nil] at hf
  rw [hf] at hZ
  simp only at hZ
  refine' walkW hcmp (za zH <| za z7 <| za zas <| zb _)
  rw [hZ]
  rfl
@[go_sem] noncomputable def zb3:Ent Tryz.prog 93:= .m4 zaO strT (intT .i64) (intT .i64) zog
theorem zmp {x:Img} {q:Rq} :tctx0 x q 1=if (zC x.disk p0).2≠0 then ([],(zC x.disk p0).2) else zbO x (zC x.disk p0).1.l1 q.frm q.len:=by rw [tctx0,if_pos rfl]
theorem zjP {x:Img} {q:Rq} {k:Int} (h1:k≠1) (h:k<2∨(x.maps.length:Int)+2≤k):tctx0 x q k=([],21):=by
 rw [tctx0,if_neg h1]
 have:(if k<2 then none else x.maps[(k - 2).toNat]?)=none:=by
  split
  ·rfl
  ·exact List.getElem?_eq_none (by omega)
 rw [this]
theorem zjQ {x:Img} {q:Rq} {k:Nat} {m:Dmap} (h:x.maps[k]?=some m):tctx0 x q ((k:Int)+2)=zcG x m.name q.frm q.len:=by
 rw [tctx0,if_neg (by omega)]
 have:(if (k:Int)+2<2 then none else x.maps[((k:Int)+2 - 2).toNat]?)=some m:=by
  rw [if_neg (by omega),show ((k:Int)+2 - 2).toNat=k by omega]
  exact h
 rw [this]
theorem zgw {q:Rq} {s:List Ext×Int} (h:(s.2==0&&(ibits .and .i64 q.flags 8 !=0))=true):tcut1 q s=(s.1.take 1,0):=by
 rw [Bool.and_eq_true,beq_iff_eq] at h
 rw [tcut1,if_pos ⟨h.1,h.2⟩]
theorem zdg {q:Rq} {s:List Ext×Int} (h:(s.2==0&&(ibits .and .i64 q.flags 8 !=0))=false):tcut1 q s=s:=by
 rw [← Bool.not_eq_true,Bool.and_eq_true,beq_iff_eq] at h
 rw [tcut1,if_neg (fun hh=>h ⟨hh.1,hh.2⟩)]
theorem zkN (x:Img) (q:Rq) (k:Int) (hp:ImgF x∧0≤x.geom.guest∧x.maps.length≤5000∧RqOk q∧q.frm≤1000000∧0≤k∧k<4294967296):AC 58 [imgA x,rqA q,.d (.int .u32 k)] (.tup [.d (.sl 2 ((tctx x q k).1.map extD)),.d (.int .i64 (tctx x q k).2)]):=by
 obtain ⟨h,hg0,hm,hq,hf,hk0,hk1⟩:=hp
 refine fbod Tryz.func58 Tryz.ntmps58 (fun base=>?_)
 have hdp:DP x.disk p0:=⟨h.disk,zcc⟩
 have hgu:=h.guest
 have hl0:=hq.l0
 have hl1:=hq.l1
 have hf0:=hq.f0
 have hwf:IntKind.i64.wrap q.frm=q.frm:=ze (by omega) (by omega)
 have hwl:IntKind.i64.wrap q.len=q.len:=ze (by omega) (by omega)
 rw [tctx]
 by_cases h1:k=1
 ·subst h1
  rw [zmp]
  obtain ⟨R,hR⟩:∃R,R=zC x.disk p0:=⟨_,rfl⟩
  rw [← hR]
  cases he:(R.2 !=0) with
  |true=>
   have hn:(R.2==0)=false:=by simpa [bne] using he
   rw [if_pos (by simpa using he),zdg (by simp [hn])]
   refine' walkW (zk hR.symm he) (za zw <| za zbC <| za zb3 <| zb _)
  | false=>
   rw [if_neg (by simpa using he)]
   have hne:=zjM (x:=x) (l1:=R.1.l1) (a:=q.frm) (n:=q.len) hgu
   obtain ⟨S,hS⟩:∃S,S=zbO x R.1.l1 q.frm q.len:=⟨_,rfl⟩
   rw [← hS] at hne ⊢
   cases hb:(S.2==0&&(ibits .and .i64 q.flags 8 !=0)) with
   | true=>
    rw [zgw hb]
    have hb2:=hb
    rw [Bool.and_eq_true,beq_iff_eq] at hb2
    have hSn:1≤S.1.length:=by
     have:=hne hb2.1
     cases hSS:S.1 with
     |nil=>exact absurd hSS this
     |cons a l=>simp
    have hz:=hb2.1
    (have tk:=za zw <| za zbC <| za zb3 <| zb Tryz.prog);repeat' (first|((first|(refine sa ?_;intro K hK)|refine sb ?_);simp only [go_sem,aeq,aeq.aeqF,simprocAttr,← hR,he,hwf,hwl,← hS,hb,List.map_take,Tryz.results58])|refine zae (fun K hK=>?_)|refine sc ?_|refine zar rfl (fun hc=>?_) (fun hc=>?_)|(refine hK _ ?_;clear hK K)|refine fun (nb:Bool) (hnb:nb=true→_)=>?_|with_reducible refine And.intro ?_ ?_|(refine (show zaX _ _=true from ?_);kernel_rfl)|omega|assumption|refine fun (hg:(_:Bool)=(_:Bool))=>?_|clear hK K)
    all_goals first|omega|(rw [hz];done)|(rw [hz];rfl)|skip
   |false=>
    rw [zdg hb]
    refine' walkW (zq hR.symm he hwf hwl hS.symm hb) (za zw <| za zbC <| za zb3 <| zb _)
 ·have e1:(k==1)=false:=by simpa using h1
  have hw2:IntKind.u64.wrap (IntKind.i64.wrap ((x.maps.length:Int)+2))=(x.maps.length:Int)+2:=by rw [ze (by omega) (by omega),zT (by omega) (by omega)]
  have hwk:IntKind.u64.wrap k=k:=zT (by omega) (by omega)
  by_cases h2:k<2∨(x.maps.length:Int)+2≤k
  ·have hb:(decide (k<2)||decide ((x.maps.length:Int)+2≤k))=true:=by simpa using h2
   rw [zjP h1 h2,zdg (by rfl)]
   refine' walkW (zS e1 hw2 hwk hb) (za zw <| za zbC <| za zb3 <| zb _)
  ·have hb:(decide (k<2)||decide ((x.maps.length:Int)+2≤k))=false:=by simpa using h2
   obtain ⟨j,rfl⟩:∃j:Nat,k=(j:Int)+2:=⟨(k - 2).toNat,by omega⟩
   obtain ⟨m,hmq⟩:=zai (l:=x.maps) (i:=j) (by omega)
   have hrow:=za1 (g:=dmapD) hmq
   simp only [dmapD] at hrow
   have hwj:IntKind.u32.wrap ((j:Int)+2 - 2)=(j:Int):=by rw [zfD (by omega) (by omega)];omega
   rw [zjQ hmq]
   have hne:=zmb (x:=x) (m:=m.name) (a:=q.frm) (n:=q.len) hgu
   obtain ⟨S,hS⟩:∃S,S=zcG x m.name q.frm q.len:=⟨_,rfl⟩
   rw [← hS] at hne ⊢
   cases hb3:(S.2==0&&(ibits .and .i64 q.flags 8 !=0)) with
   | true=>
    rw [zgw hb3]
    have hb2:=hb3
    rw [Bool.and_eq_true,beq_iff_eq] at hb2
    have hSn:1≤S.1.length:=by
     have:=hne hb2.1
     cases hSS:S.1 with
     |nil=>exact absurd hSS this
     |cons a l=>simp
    have hz:=hb2.1
    (have tk:=za zw <| za zbC <| za zb3 <| zb Tryz.prog);repeat' (first|((first|(refine sa ?_;intro K hK)|refine sb ?_);simp only [go_sem,aeq,aeq.aeqF,simprocAttr,e1,hw2,hwk,hb,hwj,hrow,Int.toNat_natCast,hwf,hwl,← hS,hb3,List.map_take,Tryz.results58])|refine zae (fun K hK=>?_)|refine sc ?_|refine zar rfl (fun hc=>?_) (fun hc=>?_)|(refine hK _ ?_;clear hK K)|refine fun (nb:Bool) (hnb:nb=true→_)=>?_|with_reducible refine And.intro ?_ ?_|(refine (show zaX _ _=true from ?_);kernel_rfl)|omega|assumption|refine fun (hg:(_:Bool)=(_:Bool))=>?_|clear hK K)
    all_goals first|omega|(rw [hz];done)|(rw [hz];rfl)|skip
   |false=>
    rw [zdg hb3]
    refine' walkW (zq e1 hw2 hwk hb hwj (zq hrow natC hwf hwl hS.symm hb3)) (za zw <| za zbC <| za zb3 <| zb _)
    all_goals first|omega|skip
@[go_sem] noncomputable def zaw:Ent Tryz.prog 58:= .m3 zaO rqA_T (intT .u32) zkN
open Go Go.Proofs
def dmapA (m:Dmap):AV:= .agg (.d (.str m.name):: .d (.bool m.inuse)::(m.bits.map D.bool).map AV.d)
theorem zmr (n:Nat) (h:AHeap):∀l:List D,(l.map AV.d).map (frz n h)=l.map AV.d
 | []=>rfl
 |d::l=>by rw [List.map_cons,List.map_cons,frz_d,zmr n h l]
theorem ziG (m:Dmap) (n:Nat) (h:AHeap):frz (n+1) h (dmapA m)=dmapA m:=by
 rw [dmapA,zv3,List.map_cons,List.map_cons,frz_d,frz_d,zmr]
@[go_sem] theorem dmapA_le (m:Dmap):AV.le (dmapA m) (dmapA m):=AV.le_refl _
@[go_sem] theorem ziH (m:Dmap):(dmapA m).ids= []:=by
 simp only [dmapA,AV.ids,AV.idsL,List.nil_append]
 exact zcn _
theorem zms:∀l:List D,(l.map AV.d).all AV.leaf=true
 | []=>rfl
 |d::l=>by rw [List.map_cons,List.all_cons,zms l];rfl
theorem ztl (m:Dmap) (name:Txt):ACall Tryz.prog 205 0 [dmapA m,.dp [.d (.str name)]] [] (fun r _=>r= .d (.bool (m.name==name))):=by
 refine fbod Tryz.func205 Tryz.ntmps205 (fun base=>?_)
 (have tk:=zb Tryz.prog);repeat' (first|((first|(refine sa ?_;intro K hK)|refine sb ?_);simp only [go_sem,aeq,aeq.aeqF,simprocAttr,dmapA,zms,Tryz.results205])|refine zae (fun K hK=>?_)|(refine hK _ ?_;clear hK K)|with_reducible refine And.intro ?_ ?_|omega|assumption|clear hK K)
theorem zok (m:Dmap) (name:Txt) {fl:Nat} {h:AHeap} :ACallAt Tryz.prog fl 205 [dmapA m,.dp [.d (.str name)]] h (fun r h'=>r= .d (.bool (m.name==name))∧h'=h):=zbJ (ztl m name) (by rw [List.map_cons,ziG];rfl) (by simp only [AV.idsL,AV.ids,ziH,List.append_nil]) rfl
theorem zqW (l:List Dmap) (name:Txt) (hl:l.length≤9223372036854775807) (hb:∀m∈l,m.bits.length=64):ACall Tryz.prog 204 0 [.d (.sl 66 (l.map dmapD)),.fn (.func 205) [] [.dp [.d (.str name)]]] [] (fun r _=>r= .d (.int .i64 (idxP (fun m=>m.name==name) l 0))):=by
 refine bod Tryz.func204 Tryz.ntmps204 (fun base=>?_)
 refine' zc fx
 refine zo (fun q:Idst (fun m=>m.name==name) l=>⟨[(0,true,.d (.sl 66 (l.map dmapD))),(1,true,.fn (.func 205) [] [.dp [.d (.str name)]]),(7,true,.d (.int .i64 l.length)),(8,true,.d (.int .i64 q.1))],[],some []⟩) (fun q=>l.length - q.1) ⟨0,Nat.zero_le _,rfl⟩ le1 (fun q=>?_)
 obtain ⟨i,hi,hf⟩:=q
 simp only at hi hf ⊢
 rcases zD dmapD l i hi with ⟨m,hq,hlt,hcmp,hrow,hdr,htk⟩|⟨hend,hcmp⟩
 ·simp only [dmapD] at hrow
  have hwi:=zn (i:=i) (by omega)
  have hm:=hb m (List.mem_of_getElem? hq)
  have ht1:List.take 64 ((m.bits.map D.bool).map AV.d)=(m.bits.map D.bool).map AV.d:=List.take_of_length_le (by simp [hm])
  refine' zc (zaH hcmp hrow ht1 hm natC)
  refine (zok m name).mono ?_
  rintro r h' ⟨rfl,rfl⟩
  refine' zc fx
  ·rw [hf,hdr,idxP,if_pos (by simpa using hc)]
  ·exact ⟨⟨i+1,by omega,by rw [hf,hdr,idxP,if_neg (by simpa using hc)]⟩,lew,by simp;omega⟩
 ·refine' zc hcmp
  rw [hf,hend,List.drop_length]
  rfl
@[go_sem] noncomputable def zfq:Ent Tryz.prog 204:= .ofL (consL (slT 66 dmapD zfe) (consL (fnT 205 (consL (dpT (consL strT nilL) (fun p=>p) (fun p=>p) (fun _=>rfl)) nilL)) nilL)) (fun (l,((name,_),_),_)=>(l.length≤9223372036854775807)∧(∀m∈l,m.bits.length=64)) (fun (l,((name,_),_),_)=> .d (.int .i64 (idxP (fun m=>m.name==name) l 0))) (fun (l,((name,_),_),_) hp=>⟨rfl,zqW l name hp.1 hp.2⟩)
theorem ztm (m:Dmap) (g:Nat) (hm:m.bits.length=64) (hg:g<64):ACall Tryz.prog 329 0 [dmapA m,.d (.int .i64 g)] [] (fun r _=>r= .tup [.d (.int .i64 (bitF m g).1),.d (.int .i64 (bitF m g).2)]):=by
 refine fbod Tryz.func329 Tryz.ntmps329 (fun base=>?_)
 have hb:(AV.d (.str m.name)::AV.d (.bool m.inuse)::(m.bits.map D.bool).map AV.d).getD (2+g*1) AV.any= .d (.bool (m.bits.getD g false)):=by
  rw [Nat.mul_one,Nat.add_comm,List.getD_cons_succ,List.getD_cons_succ,List.map_map,List.getD_eq_getElem?_getD,List.getElem?_map,List.getElem?_eq_getElem (by omega),List.getD_eq_getElem?_getD,List.getElem?_eq_getElem (by omega)]
  rfl
 have hl:(List.map AV.d (List.map D.bool m.bits)).length=64:=by simp [hm]
 cases hv:m.bits.getD g false with
 |true=>
  rw [hv] at hb
  (have tk:=zb Tryz.prog);repeat' (first|((first|(refine sa ?_;intro K hK)|refine sb ?_);simp only [go_sem,aeq,aeq.aeqF,simprocAttr,dmapA,zms,hb,hl,Tryz.results329])|refine zae (fun K hK=>?_)|refine sc ?_|refine zar rfl (fun hc=>?_) (fun hc=>?_)|(refine hK _ ?_;clear hK K)|with_reducible refine And.intro ?_ ?_|omega|assumption|clear hK K)
  all_goals first|omega|(rw [bitF,Int.toNat_natCast,hv];done)|(rw [bitF,Int.toNat_natCast,hv];rfl)|skip
 |false=>
  rw [hv] at hb
  (have tk:=zb Tryz.prog);repeat' (first|((first|(refine sa ?_;intro K hK)|refine sb ?_);simp only [go_sem,aeq,aeq.aeqF,simprocAttr,dmapA,zms,hb,hl,Tryz.results329])|refine zae (fun K hK=>?_)|refine sc ?_|refine zar rfl (fun hc=>?_) (fun hc=>?_)|(refine hK _ ?_;clear hK K)|with_reducible refine And.intro ?_ ?_|omega|assumption|clear hK K)
  all_goals first|omega|(rw [bitF,Int.toNat_natCast,hv];done)|(rw [bitF,Int.toNat_natCast,hv];rfl)|skip
theorem zol (m:Dmap) (g:Nat) (hm:m.bits.length=64) (hg:g<64) {fl:Nat} {h:AHeap} :ACallAt Tryz.prog fl 329 [dmapA m,.d (.int .i64 g)] h (fun r h'=>r= .tup [.d (.int .i64 (bitF m g).1),.d (.int .i64 (bitF m g).2)]∧h'=h):=zbJ (ztm m g hm hg) (by rw [List.map_cons,ziG];rfl) (by simp only [AV.idsL,AV.ids,ziH,List.append_nil]) rfl
theorem zqX (m:Dmap) (a:Int) (n:Int) (hm:m.bits.length=64) (h64:∀q∈cutsL a n,q.1<64):ACall Tryz.prog 203 0 [.d (.int .i64 a),.d (.int .i64 n),.iface 286 (dmapA m)] [] (fun r _=>r= .tup [.d (.sl 2 ((spL (bitF m) (cutsL a n) []).1.map extD)),.d (.int .i64 (spL (bitF m) (cutsL a n) []).2)]):=by
 refine fbod Tryz.func203 Tryz.ntmps203 (fun base=>?_)
 obtain ⟨Z,hZ⟩:∃Z,Z=spL (bitF m) (cutsL a n) []:=⟨_,rfl⟩
 rw [← hZ]
 obtain ⟨l,hl⟩:∃l,l=cutsL a n:=⟨_,rfl⟩
 have hll:l.length≤65536:=by rw [hl];exact zce a n
 have hrg:∀q∈l,1≤q.2.2∧q.2.2≤128:=by rw [hl];exact fun q hq=>⟨(zdf q hq).2.2.2,zfH a n q hq⟩
 rw [← hl] at hZ h64
 refine' walkW hl.symm (za zbA <| za zdh <| zb _)
 refine zcg 8 2 rfl ?_
 simp only [fresh,top,hget, ↓reduceIte]
 refine zo (fun q: { q:Nat×List Ext // q.1≤l.length∧q.2.length=q.1∧(∀y∈q.2,1≤y.len∧y.len≤128)∧Z=spL (bitF m) (l.drop q.1) q.2 } =>⟨[(2,true,.iface 286 (dmapA m)),(8,true,.osl 0 2 q.1.2.length 0 q.1.2.length),(15,true,.d (.sl 3 (l.map cutD))),(16,true,.d (.int .i64 l.length)),(17,true,.d (.int .i64 q.1.1))],[(0,.arr 2 (q.1.2.map extD))],some []⟩) (fun q=>l.length - q.1.1) ⟨(0,[]),Nat.zero_le _,rfl,by simp,hZ⟩ le1 (fun q=>?_)
 obtain ⟨⟨i,o⟩,hi,hol,ho,hf⟩:=q
 simp only at hi hol ho hf ⊢
 rcases zD cutD l i hi with ⟨⟨c0,c1,c2⟩,hq,hlt,hcmp,hrow,hdr,htk⟩|⟨hend,hcmp⟩
 ·simp only [cutD] at hrow
  have hwi:=zn (i:=i) (by omega)
  have hcr:=hrg _ (List.mem_of_getElem? hq)
  rw [hdr] at hf
  have hf:=zpr hf
  simp only at hf hcr
  have hc64:=h64 _ (List.mem_of_getElem? hq)
  simp only at hc64
  obtain ⟨C,hC⟩:∃C,C=bitF m c0:=⟨_,rfl⟩
  have hC2:C.2=0:=by rw [hC];rfl
  rw [← hC,if_neg (by simpa using hC2)] at hf
  refine' walkW (zk hcmp hrow) (za zbA <| za zdh <| zb _)
  refine (zol m c0 hm hc64).mono ?_
  rintro r h' ⟨rfl,rfl⟩
  rw [← hC]
  refine' walkW (zk hC2 @bne_self_eq_false.{0}) (za zbA <| za zdh <| zb _)
  all_goals first|omega|rfl|(simp;done)|skip
  exact ⟨⟨(i+1,o++ [⟨c2,C.1⟩]),by omega,by simp [hol],fun y hy=>by
   rcases List.mem_append.1 hy with hy|hy
   ·exact ho y hy
   ·rw [List.mem_singleton] at hy
    subst hy
    simp only
    omega,hf⟩,by simp only [List.map_append,List.length_append,List.length_singleton];simp only [AS.le,leT,leH,zf,AsgK,AV.le,AV.leL,AObj.le,inH,idsT,idsH,AV.ids,AV.idsL,AV.idsR,AObj.ids,lk,hget,go_sem,aeq,aeq.aeqF,simprocAttr,hwi]<;>and_intros<;>rfl,by simp;omega⟩
 ·rw [hend,List.drop_length,spL] at hf
  have hol2:o.length≤65536:=by omega
  refine zc8 0 rfl ?_;simp only [go_sem,aeq,aeq.aeqF,simprocAttr]
  refine' walkW hcmp (za zbA <| za zdh <| zb _)
  all_goals first|omega|exact ho|skip
  rw [hf]
theorem zvj {l:List Dmap} {name:Txt} :∀i:Nat,(idxP (fun m=>m.name==name) l i<0→l.find? (fun m=>m.name==name)=none)∧(0≤idxP (fun m=>m.name==name) l i→∃ (j:Nat) (m:Dmap),idxP (fun m=>m.name==name) l i=((i+j:Nat):Int)∧l[j]?=some m∧l.find? (fun m=>m.name==name)=some m):=by
 induction l with
 |nil=>
  intro i
  exact ⟨fun _=>rfl,fun h=>absurd h (by simp [idxP])⟩
 | cons a l ih=>
  intro i
  cases ha:(a.name==name) with
  |true=>
   have e:idxP (fun m:Dmap=>m.name==name) (a::l) i=i:=by simp [idxP,ha]
   refine ⟨fun h=>by rw [e] at h;omega,fun _=>⟨0,a,by rw [e];rfl,rfl,by rw [List.find?_cons,ha]⟩⟩
  |false=>
   have e:idxP (fun m:Dmap=>m.name==name) (a::l) i=idxP (fun m:Dmap=>m.name==name) l (i+1):=by simp [idxP,ha]
   rw [e,List.find?_cons,ha]
   refine ⟨(ih (i+1)).1,fun h=>?_⟩
   obtain ⟨j,m,h1,h2,h3⟩:=(ih (i+1)).2 h
   exact ⟨j+1,m,by rw [h1];congr 1;omega,h2,h3⟩
theorem zmt (m:Dmap) (a n:Int) (hm:m.bits.length=64) (h64:∀q∈cutsL a n,q.1<64) {fl:Nat} {h:AHeap} :ACallAt Tryz.prog fl 203 [.d (.int .i64 a),.d (.int .i64 n),.iface 286 (dmapA m)] h (fun r h'=>r= .tup [.d (.sl 2 ((spL (bitF m) (cutsL a n) []).1.map extD)),.d (.int .i64 (spL (bitF m) (cutsL a n) []).2)]∧h'=h):=zbJ (zqX m a n hm h64) (by rw [List.map_cons,List.map_cons,List.map_cons,zrm,ziG];rfl) (by simp only [AV.idsL,AV.ids,ziH,List.append_nil]) rfl
theorem zvk (x:Img) (name:Txt) (a:Int) (n:Int) (h:ImgF x) (h0:0≤x.geom.guest) (hm:x.maps.length≤5000):ACall Tryz.prog 166 0 [imgA x,.d (.str name),.d (.int .i64 a),.d (.int .i64 n)] [] (fun r _=>r= .tup [.d (.sl 2 ((zcG x name a n).1.map extD)),.d (.int .i64 (zcG x name a n).2)]):=by
 refine fbod Tryz.func166 Tryz.ntmps166 (fun base=>?_)
 have hgu:=h.guest
 have hmb:=h.ok.bits
 obtain ⟨Z,hZ⟩:∃Z,Z=zcG x name a n:=⟨_,rfl⟩
 rw [← hZ]
 rw [zcG] at hZ
 have hfd:=zvj (l:=x.maps) (name:=name) 0
 obtain ⟨I,hI⟩:∃I,I=idxP (fun m=>m.name==name) x.maps 0:=⟨_,rfl⟩
 rw [← hI] at hfd
 by_cases hr:n<1∨inB x.geom.guest a n=false
 ·rw [if_pos hr] at hZ
  have hdec:(decide (n<1)|| !inB x.geom.guest a n)=true:=by simpa using hr
  refine' walkW (zk hI.symm hdec) (za zfq <| za zcL <| zb _)
  all_goals first|omega|exact hmb|(rw [hZ];rfl)|skip
 rw [if_neg hr] at hZ
 have hdec:(decide (n<1)|| !inB x.geom.guest a n)=false:=by simpa using hr
 have hin:inB x.geom.guest a n=true:=by simp at hr;exact hr.2
 rw [inB_iff] at hin
 have h64:∀q∈cutsL a n,q.1<64:=by
  intro q hq
  have h1:=zdf q hq
  omega
 by_cases hI0:I<0
 ·have hb:decide (I<0)=true:=decide_eq_true hI0
  rw [hfd.1 hI0] at hZ
  simp only at hZ
  refine' walkW (zr hI.symm hdec hb) (za zfq <| za zcL <| zb _)
  all_goals first|omega|exact hmb|(rw [hZ];rfl)|skip
 ·have hb:decide (I<0)=false:=decide_eq_false hI0
  obtain ⟨j,m,hj,hq,hfm⟩:=hfd.2 (by omega)
  rw [Nat.zero_add] at hj
  rw [hfm] at hZ
  simp only at hZ
  have hrow:=za1 (g:=dmapD) hq
  simp only [dmapD] at hrow
  have hml:=hmb m (List.mem_of_getElem? hq)
  have hjl:=(List.getElem?_eq_some_iff.1 hq).1
  have ht1:List.take 64 ((m.bits.map D.bool).map AV.d)=(m.bits.map D.bool).map AV.d:=List.take_of_length_le (by simp [hml])
  refine' walkW (zq hI.symm hdec hb hj hrow (zr ht1 hml natC)) (za zfq <| za zcL <| zb _)
  all_goals first|omega|exact hmb|exact zms _|skip
  rw [zsM (by simp [hml])]
  refine (zmt m a n hml h64).mono ?_
  rintro r h' ⟨rfl,rfl⟩
  simp only [go_sem,aeq,aeq.aeqF,simprocAttr]
  refine' zc fx
  all_goals first|(rw [hZ];done)|(rw [hZ];rfl)|skip
@[go_sem] noncomputable def zdG:Ent Tryz.prog 166:= .ofL (consL zaO (consL strT (consL (intT .i64) (consL (intT .i64) nilL)))) (fun (x,name,a,n,_)=>(ImgF x)∧(0≤x.geom.guest)∧(x.maps.length≤5000)) (fun (x,name,a,n,_)=> .tup [.d (.sl 2 ((zcG x name a n).1.map extD)),.d (.int .i64 (zcG x name a n).2)]) (fun (x,name,a,n,_) hp=>⟨rfl,zvk x name a n hp.1 hp.2.1 hp.2.2⟩)
open Go Go.Proofs
abbrev wcH (s:Tw) (L:List Spn):AHeap:= [(40,.arr 2 (L.map spnD)),(4,.var (twV s (.osl 40 2 L.length 0 L.length)))]
theorem zom (s:Tw) (L:List Spn) (k:Int) (h:ImgF s.x) (g0:0≤s.x.geom.guest) (hm:s.x.maps.length≤5000) (hq:RqOk s.q) (hf:s.q.frm≤1000000) (k0:0≤k) (k1:k<4294967296):ACall Tryz.prog 123 60 [.vp 4 0,.d (.int .u32 k)] (wcH s L) (fun r h'=>∃v,r= .tup [v,.d (.int .i64 (tctx s.x s.q k).2)]∧((tctx s.x s.q k).2=0→v= .d (.sl 2 ((tctx s.x s.q k).1.map extD)))∧(v= .nils 2∨∃rows,v= .d (.sl 2 rows))∧h'=wcH s L):=by
 refine zQ (fun i=>decide (i<60)) ?_
 refine bod Tryz.func123 Tryz.ntmps123 (fun base=>?_)
 have hdp:DP s.x.disk p0:=⟨h.disk,zcc⟩
 have hgu:=h.guest
 have hl0:=hq.l0
 have hl1:=hq.l1
 have hf0:=hq.f0
 have hwf:IntKind.i64.wrap s.q.frm=s.q.frm:=ze (by omega) (by omega)
 have hwl:IntKind.i64.wrap s.q.len=s.q.len:=ze (by omega) (by omega)
 have hwk:IntKind.i64.wrap k=k:=ze (by omega) (by omega)
 have hwk2:IntKind.i64.wrap (k - 2)=k - 2:=ze (by omega) (by omega)
 rw [tctx]
 by_cases h1:k=1
 ·subst h1
  rw [zmp]
  obtain ⟨R,hR⟩:∃R,R=zC s.x.disk p0:=⟨_,rfl⟩
  rw [← hR]
  cases he:(R.2==0) with
  |false=>
   rw [if_pos (by simpa using he),zdg (by simp [he])]
   refine' walkW (zq hwf hwl hwk hwk2 hR.symm he) (za zj <| za zcY <| za zdG <| zb _)
   all_goals first|omega|exact ⟨_,rfl,fun _=>rfl,.inr ⟨_,rfl⟩,rfl⟩|exact ⟨_,rfl,fun h0=>absurd h0 (by first|decide|simpa using he),.inl rfl,rfl⟩|exact ⟨_,rfl,.inl rfl,rfl⟩|exact ⟨_,by rw [hz],rfl,.inr ⟨_,rfl⟩,rfl⟩|exact ⟨_,by rw [hz],fun _=>rfl,.inr ⟨_,rfl⟩,rfl⟩|skip
  | true=>
   rw [if_neg (by simpa using he)]
   have hne:=zjM (x:=s.x) (l1:=R.1.l1) (a:=s.q.frm) (n:=s.q.len) hgu
   obtain ⟨S,hS⟩:∃S,S=zbO s.x R.1.l1 s.q.frm s.q.len:=⟨_,rfl⟩
   rw [← hS] at hne ⊢
   cases hb:(S.2==0&&(ibits .and .i64 s.q.flags 8 !=0)) with
   | true=>
    rw [zgw hb]
    have hb2:=hb
    rw [Bool.and_eq_true,beq_iff_eq] at hb2
    have hSn:1≤S.1.length:=by
     have:=hne hb2.1
     cases hSS:S.1 with
     |nil=>exact absurd hSS this
     |cons a l=>simp
    have hz:=hb2.1
    (have tk:=za zj <| za zcY <| za zdG <| zb Tryz.prog);repeat' (first|((first|(refine sa ?_;intro K hK)|refine sb ?_);simp only [go_sem,aeq,aeq.aeqF,simprocAttr,hwf,hwl,hwk,hwk2,← hR,he,← hS,hb,List.map_take,Tryz.results123])|refine zae (fun K hK=>?_)|refine sc ?_|refine zar rfl (fun hc=>?_) (fun hc=>?_)|(refine hK _ ?_;clear hK K)|refine fun (nb:Bool) (hnb:nb=true→_)=>?_|with_reducible refine And.intro ?_ ?_|(refine (show zaX _ _=true from ?_);kernel_rfl)|omega|assumption|refine fun (hg:(_:Bool)=(_:Bool))=>?_|clear hK K)
    all_goals first|omega|exact ⟨_,rfl,fun _=>rfl,.inr ⟨_,rfl⟩,rfl⟩|exact ⟨_,rfl,fun h0=>absurd h0 (by first|decide|simpa using he),.inl rfl,rfl⟩|exact ⟨_,rfl,.inl rfl,rfl⟩|exact ⟨_,by rw [hz],rfl,.inr ⟨_,rfl⟩,rfl⟩|exact ⟨_,by rw [hz],fun _=>rfl,.inr ⟨_,rfl⟩,rfl⟩|skip
   |false=>
    rw [zdg hb]
    refine' walkW (zq hwf hwl hwk hwk2 hR.symm (zr he hS.symm hb)) (za zj <| za zcY <| za zdG <| zb _)
    all_goals first|omega|exact ⟨_,rfl,fun _=>rfl,.inr ⟨_,rfl⟩,rfl⟩|exact ⟨_,rfl,fun h0=>absurd h0 (by first|decide|simpa using he),.inl rfl,rfl⟩|exact ⟨_,rfl,.inl rfl,rfl⟩|exact ⟨_,by rw [hz],rfl,.inr ⟨_,rfl⟩,rfl⟩|exact ⟨_,by rw [hz],fun _=>rfl,.inr ⟨_,rfl⟩,rfl⟩|skip
 ·have e1:(k - 2== -1)=false:=by rw [beq_eq_false_iff_ne];omega
  by_cases h2:k<2∨(s.x.maps.length:Int)+2≤k
  ·have hb:(decide (k - 2<0)||decide ((s.x.maps.length:Int)≤k - 2))=true:=by
    simp only [Bool.or_eq_true,decide_eq_true_eq];omega
   rw [zjP h1 h2,zdg (by rfl)]
   refine' walkW (zq hwf hwl hwk hwk2 e1 hb) (za zj <| za zcY <| za zdG <| zb _)
   all_goals first|omega|exact ⟨_,rfl,fun _=>rfl,.inr ⟨_,rfl⟩,rfl⟩|exact ⟨_,rfl,fun h0=>absurd h0 (by first|decide|simpa using he),.inl rfl,rfl⟩|exact ⟨_,rfl,.inl rfl,rfl⟩|exact ⟨_,by rw [hz],rfl,.inr ⟨_,rfl⟩,rfl⟩|exact ⟨_,by rw [hz],fun _=>rfl,.inr ⟨_,rfl⟩,rfl⟩|skip
  ·have hb:(decide (k - 2<0)||decide ((s.x.maps.length:Int)≤k - 2))=false:=by
    rw [← Bool.not_eq_true]
    simp only [Bool.or_eq_true,decide_eq_true_eq];omega
   obtain ⟨j,rfl⟩:∃j:Nat,k=(j:Int)+2:=⟨(k - 2).toNat,by omega⟩
   have hj2:(j:Int)+2 - 2=j:=by omega
   rw [hj2] at hwk2 e1 hb
   obtain ⟨m,hmq⟩:=zai (l:=s.x.maps) (i:=j) (by omega)
   have hrow:=za1 (g:=dmapD) hmq
   simp only [dmapD] at hrow
   rw [zjQ hmq]
   have hne:=zmb (x:=s.x) (m:=m.name) (a:=s.q.frm) (n:=s.q.len) hgu
   obtain ⟨S,hS⟩:∃S,S=zcG s.x m.name s.q.frm s.q.len:=⟨_,rfl⟩
   rw [← hS] at hne ⊢
   cases hb3:(S.2==0&&(ibits .and .i64 s.q.flags 8 !=0)) with
   | true=>
    rw [zgw hb3]
    have hb2:=hb3
    rw [Bool.and_eq_true,beq_iff_eq] at hb2
    have hSn:1≤S.1.length:=by
     have:=hne hb2.1
     cases hSS:S.1 with
     |nil=>exact absurd hSS this
     |cons a l=>simp
    have hz:=hb2.1
    (have tk:=za zj <| za zcY <| za zdG <| zb Tryz.prog);repeat' (first|((first|(refine sa ?_;intro K hK)|refine sb ?_);simp only [go_sem,aeq,aeq.aeqF,simprocAttr,hwf,hwl,hwk,hj2,hwk2,e1,hb,hrow,Int.toNat_natCast,← hS,hb3,List.map_take,Tryz.results123])|refine zae (fun K hK=>?_)|refine sc ?_|refine zar rfl (fun hc=>?_) (fun hc=>?_)|(refine hK _ ?_;clear hK K)|refine fun (nb:Bool) (hnb:nb=true→_)=>?_|with_reducible refine And.intro ?_ ?_|(refine (show zaX _ _=true from ?_);kernel_rfl)|omega|assumption|refine fun (hg:(_:Bool)=(_:Bool))=>?_|clear hK K)
    all_goals first|omega|exact ⟨_,rfl,fun _=>rfl,.inr ⟨_,rfl⟩,rfl⟩|exact ⟨_,rfl,fun h0=>absurd h0 (by first|decide|simpa using he),.inl rfl,rfl⟩|exact ⟨_,rfl,.inl rfl,rfl⟩|exact ⟨_,by rw [hz],rfl,.inr ⟨_,rfl⟩,rfl⟩|exact ⟨_,by rw [hz],fun _=>rfl,.inr ⟨_,rfl⟩,rfl⟩|skip
   |false=>
    rw [zdg hb3]
    refine' walkW (zq hwf hwl hwk hj2 hwk2 (zq e1 hb hrow natC hS.symm hb3)) (za zj <| za zcY <| za zdG <| zb _)
    all_goals first|omega|exact ⟨_,rfl,fun _=>rfl,.inr ⟨_,rfl⟩,rfl⟩|exact ⟨_,rfl,fun h0=>absurd h0 (by first|decide|simpa using he),.inl rfl,rfl⟩|exact ⟨_,rfl,.inl rfl,rfl⟩|exact ⟨_,by rw [hz],rfl,.inr ⟨_,rfl⟩,rfl⟩|exact ⟨_,by rw [hz],fun _=>rfl,.inr ⟨_,rfl⟩,rfl⟩|skip
end Go.Aw
