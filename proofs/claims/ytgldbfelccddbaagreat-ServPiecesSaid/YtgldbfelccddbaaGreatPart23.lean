/-
 Parts of the proof: lemmas.
-/
import Derived.Test.YtgldbfelccddbaaGreatPart20
set_option maxRecDepth 100000
set_option maxHeartbeats 2000000
set_option linter.unusedSimpArgs false
set_option linter.unusedVariables false
namespace Go.Aw
open Go Go.Proofs
structure TkOk (x:Img) (t:Tsk):Prop where
 ok:RqOk t.q
 img:ImgF x
 g0:0≤x.geom.guest
 maps:x.maps.length≤5000
 frm:t.q.frm≤1000000
 lo:0≤t.loc
 hi:t.loc≤65536
 len:t.cuts.length≤65536
 cut:∀c∈t.cuts,c.1*128+c.2.1≤1000000∧c.2.2≤128∧(t.q.kind=1→t.q.frm≤c.1*128+c.2.1∧(c.1*128+c.2.1+c.2.2:Int)≤t.q.frm+t.q.data.length)
 kind:t.cuts≠ []→t.q.kind=0∨t.q.kind=1∨t.q.kind=4∨t.q.kind=6
 data:t.data.length≤1000000
 spans:t.done=false→t.spans= []
theorem Tiv.ok {q:Rq} {x:Img} {t:Tsk} {ms:List Int} (h:Tiv q t) (hf:RqF x q ms):TkOk x t:=by
 have hq:=h.rq
 have hc:=h.cuts
 have hl:=zwz q
 have hf0:=hf.ok.f0
 have hl0:=hf.ok.l0
 have hg:=hf.g1
 have hr:=hf.rng
 have hln:=hf.len
 have hlo:=h.lo
 have hhi:=h.hi
 refine ⟨by rw [hq];exact hf.ok,hf.img,by have:=hf.g0;omega,by have:=hf.maps;omega,by rw [hq];omega,h.lo,?_,by rw [hc];exact hl,fun c hcm=>?_,fun hne=>?_,?_,fun hd=>(h.fresh hd).1⟩
 ·rw [hc] at hhi;omega
 ·rw [hc] at hcm
  unfold tnew at hcm
  simp only at hcm
  split at hcm
  ·have:=zgs c hcm
   have h2:=zk6 _ _ c hcm
   refine ⟨U,h2,fun hk=>?_⟩
   rw [hq] at hk ⊢
   have h3:=hf.data hk
   omega
  ·cases hcm
 ·rw [hc] at hne
  unfold tnew at hne
  simp only at hne
  split at hne
  ·rename_i h1
   have h2:=h1.1
   unfold isPc at h2
   simp only [Bool.or_eq_true,beq_iff_eq] at h2
   rw [hq]
   omega
  ·exact absurd rfl hne
 ·have h1:=h.data
  have h2:=zos t.cuts t.loc.toNat
  have h3:csz t.cuts≤q.len.toNat:=by
   rw [hc]
   unfold tnew
   simp only
   split
   ·exact zmB
   ·exact Nat.zero_le _
  omega
theorem zqc (f k:Int):(ibits .and .i64 f k==0)= !hasF f k:=by unfold hasF;simp [bne]
def tpcK (x:Img) (t:Tsk) (c:Nat×Nat×Nat):Img×Tsk:=((tpc x t.q c).1,if (tpc x t.q c).2.2≠0 then tfail { t with loc:=t.loc+1 } (tpc x t.q c).2.2 else { t with loc:=t.loc+1,data:=t.data++(tpc x t.q c).2.1,done:=(t.loc+1==(t.cuts.length:Int))&& !hasF t.q.flags 1 })
def tpcG (x:Img) (t:Tsk):Img×Tsk:=tpcK x t (t.cuts.getD t.loc.toNat (0,0,0))
def zw9 (x:Img) (t:Tsk) (ms:List Int):Img×Tsk:=((tlast x t.q ms).1,if (tlast x t.q ms).2.2≠0 then tfail t (tlast x t.q ms).2.2 else { t with spans:=(tlast x t.q ms).2.1,done:=true })
theorem zwA {x:Img} {t:Tsk} {ms:List Int} (hd:t.done=false) (hl:t.loc.toNat<t.cuts.length):tstep x t ms=tpcG x t:=by
 unfold tstep
 rw [hd,if_neg ae,tpcG,List.getD_eq_getElem?_getD,List.getElem?_eq_getElem hl]
 rfl
theorem zrt {x:Img} {t:Tsk} {ms:List Int} (hd:t.done=false) (hl:t.cuts.length≤t.loc.toNat):tstep x t ms=zw9 x t ms:=by
 unfold tstep
 rw [hd,if_neg ae,List.getElem?_eq_none hl]
 rfl
theorem zoK (x:Img) (t:Tsk) (hp:TkOk x t∧t.loc<t.cuts.length):AC 122 [imgA x,tskA t] (.tup [imgA (tpcG x t).1,tskA (tpcG x t).2]):=by
 obtain ⟨h,hl⟩:=hp
 refine fbod Tryz.func122 Tryz.ntmps122 (fun base=>?_)
 obtain ⟨k,hk⟩:∃k:Nat,t.loc=k:=⟨t.loc.toNat,by have:=h.lo;omega⟩
 have hhi:=h.hi
 have hln:=h.len
 have hnf:=zqc t.q.flags 1
 have hnh:=zqc t.q.flags 2
 have hmp:=h.maps
 have hio:=h.img
 have hg0:=h.g0
 have hf0:=h.ok.f0
 have hf1:=h.ok.f1
 have hds:=h.ok.d
 obtain ⟨⟨c0,c1,c2⟩,hc⟩:=zaH (l:=t.cuts) (i:=k) U
 have hrow:=zbJ (g:=cutD) hc
 simp only [cutD] at hrow
 obtain ⟨hm1,hm2,hm3⟩:=h.cut _ (List.mem_of_getElem? hc)
 simp only at hm1 hm2 hm3
 obtain ⟨Z,hZ⟩:∃Z,Z=tpcG x t:=⟨_,rfl⟩
 rw [← hZ]
 rw [tpcG,List.getD_eq_getElem?_getD,show t.loc.toNat=k by omega,hc] at hZ
 simp only [Option.getD_some] at hZ
 obtain ⟨P,hP⟩:∃P,P=tpc x t.q (c0,c1,c2):=⟨_,rfl⟩
 rw [tpcK,← hP] at hZ
 have hlk:(t.loc+1:Int)=((k+1:Nat):Int):=U
 have hdl:=h.data
 have hwk:IntKind.i64.wrap ((k:Int)+1)=((k+1:Nat):Int):=aE
 have hw1:IntKind.i64.wrap ((c0:Int)*128)=c0*128:=zi U U
 have hw2:IntKind.i64.wrap ((c0:Int)*128+c1)=c0*128+c1:=zi U U
 rw [hlk] at hZ
 have hpl:=ztI (x:=x) (q:=t.q) (c:=(c0,c1,c2))
 rw [← hP] at hpl
 simp only at hpl
 rcases h.kind (by intro e;rw [e] at hc;cases hc) with hq|hq|hq|hq
 ·have e0:(t.q.kind==0)=true:=by simpa using hq
  obtain ⟨R,hR⟩:∃R,R=iread x (c0*128+c1) c2:=⟨_,rfl⟩
  have hPe:P=(x,R):=by rw [hP,tpc,if_pos hq,hR]
  rw [hPe] at hZ hpl
  simp only at hZ hpl
  cases he:(R.2 !=0) with
  |true=>
   rw [if_pos aj] at hZ
   refine' walkW (zo hk hrow e0 hw1 hw2 (zE hwk hR.symm he natC)) (za zbs <| za zba <| za zbp <| za zJ <| zb _)
   all_goals first|omega|(rw [hZ];done)|(rw [hZ];rfl)|skip
  |false=>
   rw [if_neg aj] at hZ
   refine' walkW (zo hk hrow e0 hw1 hw2 (zaB hwk hR.symm he hnf natC)) (za zbs <| za zba <| za zbp <| za zJ <| zb _)
   all_goals first|omega|(rw [hZ];done)|(rw [hZ];rfl)|skip
 ·have e0:(t.q.kind==0)=false:=by simp [hq]
  have e1:(t.q.kind==1)=true:=bx
  obtain ⟨h1,h2⟩:=hm3 hq
  have hwq:IntKind.i64.wrap t.q.frm=t.q.frm:=zi U U
  have hwf:IntKind.i64.wrap ((c0:Int)*128+c1 - t.q.frm)=c0*128+c1 - t.q.frm:=zi U U
  have hwg:IntKind.i64.wrap ((c0:Int)*128+c1 - t.q.frm+c2)=c0*128+c1 - t.q.frm+c2:=zi U U
  obtain ⟨s,hs⟩:∃s,s=(t.q.data.take ((c0:Int)*128+c1 - t.q.frm+c2).toNat).drop ((c0:Int)*128+c1 - t.q.frm).toNat:=⟨_,rfl⟩
  have hsl:s.length≤9223372036854775807:=by rw [hs,List.length_drop,List.length_take];omega
  obtain ⟨R,hR⟩:∃R,R=zdy x c0 c1 s:=⟨_,rfl⟩
  have hPe:P=(R.1,[],R.2):=by rw [hP,tpc,if_neg (by rw [hq];decide),if_pos hq,hR,hs]
  rw [hPe] at hZ
  simp only [List.append_nil] at hZ
  cases he:(R.2 !=0) with
  |true=>
   rw [if_pos aj] at hZ
   refine' walkW (zo hk hrow e0 e1 hw1 (zo hw2 hwk hwq hwf hwg (zE hs.symm hR.symm he natC))) (za zbs <| za zba <| za zbp <| za zJ <| zb _)
   all_goals first|omega|(rw [hZ];done)|(rw [hZ];rfl)|skip
  |false=>
   rw [if_neg aj] at hZ
   refine' walkW (zo hk hrow e0 e1 hw1 (zo hw2 hwk hwq hwf hwg (zaB hs.symm hR.symm he hnf natC))) (za zbs <| za zba <| za zbp <| za zJ <| zb _)
   all_goals first|omega|(rw [hZ];done)|(rw [hZ];rfl)|skip
 all_goals
  have e0:(t.q.kind==0)=false:=bx
  have e1:(t.q.kind==1)=false:=bx
  obtain ⟨hole,hh⟩:∃hole,hole=(t.q.kind==4|| !hasF t.q.flags 2):=⟨_,rfl⟩
  obtain ⟨R,hR⟩:∃R,R=zeY hole (c0,c1,c2) x:=⟨_,rfl⟩
  have hPe:P=(R.1,[],R.2):=by rw [hP,tpc,if_neg (by rw [hq];decide),if_neg (by rw [hq];decide),← hh,hR]
  rw [hPe] at hZ
  simp only [List.append_nil] at hZ
  unfold zeY at hR
  simp only at hR
  by_cases h128:c2=128
  ·have e2:((c2:Int)==128)=true:=by simp;omega
   rw [if_pos h128] at hR
   cases he:(R.2 !=0) with
   |true=>
    rw [if_pos aj] at hZ
    refine' walkW (zo hk hrow e0 e1 hw1 (zo hw2 hwk hnh hh.symm e2 (zq hR.symm he natC))) (za zbs <| za zba <| za zbp <| za zJ <| zb _)
    all_goals first|omega|(rw [hZ];done)|(rw [hZ];rfl)|skip
   |false=>
    rw [if_neg aj] at hZ
    refine' walkW (zo hk hrow e0 e1 hw1 (zo hw2 hwk hnh hh.symm e2 (zE hR.symm he hnf natC))) (za zbs <| za zba <| za zbp <| za zJ <| zb _)
    all_goals first|omega|(rw [hZ];done)|(rw [hZ];rfl)|skip
  ·have e2:((c2:Int)==128)=false:=by simp;omega
   rw [if_neg h128] at hR
   cases he:(R.2 !=0) with
   |true=>
    rw [if_pos aj] at hZ
    refine' walkW (zo hk hrow e0 e1 hw1 (zo hw2 hwk hnh hh.symm e2 (zo hR.symm he natC @zcB @zeQ (zaB @zgd @if_true.{1} @z8 @zaD @List.length_replicate.{0})))) (za zbs <| za zba <| za zbp <| za zJ <| zb _)
    all_goals first|omega|(rw [hZ];done)|(rw [hZ];rfl)|skip
   |false=>
    rw [if_neg aj] at hZ
    refine' walkW (zo hk hrow e0 e1 hw1 (zo hw2 hwk hnh hh.symm e2 (zo hR.symm he hnf natC @zcB (zo @zeQ @zgd @if_true.{1} @z8 @zaD @List.length_replicate.{0})))) (za zbs <| za zba <| za zbp <| za zJ <| zb _)
    all_goals first|omega|(rw [hZ];done)|(rw [hZ];rfl)|skip
@[go_sem] noncomputable def zaQ:Ent Tryz.prog 122:= .m2 zbk zgr zoK
open Go Go.Proofs
theorem zyd {m:Dmap} {Z:List Ext×Int} {c0 c1 c2:Nat} {r:List (Nat×Nat×Nat)} {o:List Ext} (h:Z=spL (bitF m) ((c0,c1,c2)::r) o):Z=spL (bitF m) r (o++ [⟨c2,if m.bits.getD c0 false then 1 else 0⟩]):=by
 rw [h,spL,if_neg (show ¬(bitF m c0).2≠0 from fun h=>h rfl)]
 rfl
theorem zo2 (x:Img) (name:Txt) (a n:Int) (hp:ImgF x∧0≤x.geom.guest∧x.maps.length≤5000):AC 200 [imgA x,.d (.str name),.d (.int .i64 a),.d (.int .i64 n)] (.tup [.d (.sl 2 ((zeG x name a n).1.map extD)),.d (.int .i64 (zeG x name a n).2)]):=by
 obtain ⟨h,h0,hm⟩:=hp
 refine fbod Tryz.func200 Tryz.ntmps200 (fun base=>?_)
 have hgu:=h.guest
 have hmb:=h.ok.bits
 obtain ⟨Z,hZ⟩:∃Z,Z=zeG x name a n:=⟨_,rfl⟩
 rw [← hZ]
 rw [zeG] at hZ
 by_cases hr:n<1∨inB x.geom.guest a n=false
 ·rw [if_pos hr] at hZ
  have hdec:(decide (n<1)|| !inB x.geom.guest a n)=true:=aA
  refine' walkW hdec (za zD <| za zW <| za zas <| zb _)
  rw [hZ]
  rfl
 rw [if_neg hr] at hZ
 have hdec:(decide (n<1)|| !inB x.geom.guest a n)=false:=aA
 have hin:inB x.geom.guest a n=true:=by simp at hr;exact hr.2
 rw [inB_iff] at hin
 obtain ⟨l,hl⟩:∃l,l=cutsL a n:=⟨_,rfl⟩
 have hll:l.length≤65536:=by rw [hl];exact zd3 a n
 have hrg:∀q∈l,1≤q.2.2∧q.2.2≤128∧q.1<64:=by
  rw [hl]
  intro q hq
  have h1:=zgs q hq
  have h2:=zk6 a n q hq
  omega
 rw [← hl] at hZ
 refine' walkW hdec (za zD <| za zW <| za zas <| zb _)
 refine zk (fun q: { i:Nat // i≤x.maps.length∧x.maps.find? (fun m=>m.name==name)=(x.maps.drop i).find? (fun m=>m.name==name) } =>⟨[(1,true,.d (.str name)),(2,true,.d (.int .i64 a)),(3,true,.d (.int .i64 n)),(4,true,.vp 0 0),(10,true,.d (.int .i64 q.1))],[(0,.var (imgV x))],some []⟩) (fun q=>x.maps.length - q.1) ⟨0,Nat.zero_le _,rfl⟩ le1 (fun q=>?_)
 obtain ⟨i,hi,hf⟩:=q
 simp only at hi hf ⊢
 rcases zy dmapD x.maps i hi with ⟨m,hq,hlt,hcmp,hrow,hdr,htk⟩|⟨hend,hcmp⟩
 ·simp only [dmapD] at hrow
  have hwi:=zn (i:=i) U
  rw [hdr,List.find?_cons] at hf
  cases hnm:(m.name==name) with
  |false=>
   have hnn:(m.name !=name)=true:=by simp [bne,hnm]
   rw [hnm] at hf
   refine' walkW (zq hcmp hrow hnn) (za zD <| za zW <| za zas <| zb _)
   exact ⟨⟨i+1,U,hf⟩,lev,af⟩
  | true=>
   have hnn:(m.name !=name)=false:=by simp [bne,hnm]
   rw [hnm] at hf
   rw [hf] at hZ
   simp only at hZ
   have hml:=hmb m (List.mem_of_getElem? hq)
   refine' walkW (zE hcmp hrow hnn hl.symm) (za zD <| za zW <| za zas <| zb _)
   refine zaI 11 2 rfl ?_
   simp only [fresh,top,hget, ↓reduceIte]
   refine zk (fun q: { q:Nat×List Ext // q.1≤l.length∧q.2.length=q.1∧(∀y∈q.2,1≤y.len∧y.len≤128)∧Z=spL (bitF m) (l.drop q.1) q.2 } =>⟨[(4,true,.vp 0 0),(10,true,.d (.int .i64 i)),(11,true,.osl 1 2 q.1.2.length 0 q.1.2.length),(12,true,.d (.sl 3 (l.map cutD))),(13,true,.d (.int .i64 q.1.1))],[(1,.arr 2 (q.1.2.map extD)),(0,.var (imgV x))],some []⟩) (fun q=>l.length - q.1.1) ⟨(0,[]),Nat.zero_le _,rfl,aa,hZ⟩ le1 (fun q=>?_)
   obtain ⟨⟨j,o⟩,hj,hol,ho,hf2⟩:=q
   simp only at hj hol ho hf2 ⊢
   rcases zy cutD l j hj with ⟨⟨c0,c1,c2⟩,hq2,hlt2,hcmp2,hrow2,hdr2,htk2⟩|⟨hend2,hcmp2⟩
   ·simp only [cutD] at hrow2
    have hwj:=zn (i:=j) U
    have hcr:=hrg _ (List.mem_of_getElem? hq2)
    rw [hdr2] at hf2
    have hf2:=zyd hf2
    simp only at hcr
    have hgo:∀v:Int,v=(if m.bits.getD c0 false then 1 else 0)→∃q': { q:Nat×List Ext // q.1≤l.length∧q.2.length=q.1∧(∀y∈q.2,1≤y.len∧y.len≤128)∧Z=spL (bitF m) (l.drop q.1) q.2 },q'.1=(j+1,o++ [⟨c2,v⟩]):=by
     rintro v rfl
     exact ⟨⟨(j+1,o++ [⟨c2,_⟩]),U,by simp [hol],fun y hy=>by
      rcases List.mem_append.1 hy with hy|hy
      ·exact ho y hy
      ·rw [List.mem_singleton] at hy
       subst hy
       simp only
       omega,hf2⟩,rfl⟩
    have hbl:1≤(List.drop (c0*1) (List.map AV.d (List.map D.bool m.bits))).length:=af
    have hbv:(List.drop (c0*1) (List.map AV.d (List.map D.bool m.bits))).getD 0 AV.any= .d (.bool (m.bits.getD c0 false)):=by
     rw [Nat.mul_one,List.getD_eq_getElem?_getD,List.getElem?_drop,List.map_map,List.getElem?_map,Nat.add_zero,List.getElem?_eq_getElem U,List.getD_eq_getElem?_getD,List.getElem?_eq_getElem U]
     rfl
    cases hbt:m.bits.getD c0 false with
    |true=>
     rw [hbt] at hgo hbv
     obtain ⟨q',hq'⟩:=hgo 1 rfl
     refine' walkW (zo hcmp2 hrow2 hlt hrow natC (zj hml hbv)) (za zD <| za zW <| za zas <| zb _)
     all_goals first|omega|skip
     exact ⟨q',dC,ca⟩
    |false=>
     rw [hbt] at hgo hbv
     obtain ⟨q',hq'⟩:=hgo 0 rfl
     refine' walkW (zo hcmp2 hrow2 hlt hrow natC (zj hml hbv)) (za zD <| za zW <| za zas <| zb _)
     all_goals first|omega|skip
     exact ⟨q',dC,ca⟩
   ·rw [hend2,List.drop_length,spL] at hf2
    have hol2:o.length≤65536:=U
    refine zbh 1 rfl ?_;simp only [go_sem,aeq,aeq.aeqF,simprocAttr]
    refine' walkW hcmp2 (za zD <| za zW <| za zas <| zb _)
    all_goals first|omega|exact ho|skip
    rw [hf2]
 ·rw [hend,List.drop_length,List.find?_nil] at hf
  rw [hf] at hZ
  simp only at hZ
  refine' walkW hcmp (za zD <| za zW <| za zas <| zb _)
  rw [hZ]
  rfl
@[go_sem] noncomputable def zbZ:Ent Tryz.prog 200:= .m4 zbk strT (intT .i64) (intT .i64) zo2
theorem zuG {x:Img} {q:Rq} :tctx0 x q 1=if (zR x.disk p0).2≠0 then ([],(zR x.disk p0).2) else zc4 x (zR x.disk p0).1.l1 q.frm q.len:=by rw [tctx0,if_pos rfl]
theorem zrL {x:Img} {q:Rq} {k:Int} (h1:k≠1) (h:k<2∨(x.maps.length:Int)+2≤k):tctx0 x q k=([],21):=by
 rw [tctx0,if_neg h1]
 have:(if k<2 then none else x.maps[(k - 2).toNat]?)=none:=by
  split
  ·rfl
  ·exact List.getElem?_eq_none U
 rw [this]
theorem zrM {x:Img} {q:Rq} {k:Nat} {m:Dmap} (h:x.maps[k]?=some m):tctx0 x q ((k:Int)+2)=zeG x m.name q.frm q.len:=by
 rw [tctx0,if_neg U]
 have:(if (k:Int)+2<2 then none else x.maps[((k:Int)+2 - 2).toNat]?)=some m:=by
  rw [if_neg U,show ((k:Int)+2 - 2).toNat=k by omega]
  exact h
 rw [this]
theorem znc {q:Rq} {s:List Ext×Int} (h:(s.2==0&&(ibits .and .i64 q.flags 8 !=0))=true):tcut1 q s=(s.1.take 1,0):=by
 rw [Bool.and_eq_true,beq_iff_eq] at h
 rw [tcut1,if_pos ⟨h.1,h.2⟩]
theorem zgA {q:Rq} {s:List Ext×Int} (h:(s.2==0&&(ibits .and .i64 q.flags 8 !=0))=false):tcut1 q s=s:=by
 rw [← Bool.not_eq_true,Bool.and_eq_true,beq_iff_eq] at h
 rw [tcut1,if_neg (fun hh=>h ⟨hh.1,hh.2⟩)]
theorem zlt (x:Img) (q:Rq) (k:Int) (hp:ImgF x∧0≤x.geom.guest∧x.maps.length≤5000∧RqOk q∧q.frm≤1000000∧0≤k∧k<4294967296):AC 125 [imgA x,rqA q,.d (.int .u32 k)] (.tup [.d (.sl 2 ((tctx x q k).1.map extD)),.d (.int .i64 (tctx x q k).2)]):=by
 obtain ⟨h,hg0,hm,hq,hf,hk0,hk1⟩:=hp
 refine fbod Tryz.func125 Tryz.ntmps125 (fun base=>?_)
 have hdp:DP x.disk p0:=⟨h.disk,zdw⟩
 have hgu:=h.guest
 have hl0:=hq.l0
 have hl1:=hq.l1
 have hf0:=hq.f0
 have hwf:IntKind.i64.wrap q.frm=q.frm:=zi U U
 have hwl:IntKind.i64.wrap q.len=q.len:=zi U U
 rw [tctx]
 by_cases h1:k=1
 ·subst h1
  rw [zuG]
  obtain ⟨R,hR⟩:∃R,R=zR x.disk p0:=⟨_,rfl⟩
  rw [← hR]
  cases he:(R.2 !=0) with
  |true=>
   have hn:(R.2==0)=false:=by simpa [bne] using he
   rw [if_pos aj,zgA (by simp [hn])]
   refine' walkW (zj hR.symm he) (za zw <| za zbC <| za zbZ <| zb _)
  | false=>
   rw [if_neg aj]
   have hne:=zrb (x:=x) (l1:=R.1.l1) (a:=q.frm) (n:=q.len) hgu
   obtain ⟨S,hS⟩:∃S,S=zc4 x R.1.l1 q.frm q.len:=⟨_,rfl⟩
   rw [← hS] at hne ⊢
   cases hb:(S.2==0&&(ibits .and .i64 q.flags 8 !=0)) with
   | true=>
    rw [znc hb]
    have hb2:=hb
    rw [Bool.and_eq_true,beq_iff_eq] at hb2
    have hSn:1≤S.1.length:=by
     have:=hne hb2.1
     cases hSS:S.1 with
     |nil=>exact absurd hSS this
     |cons a l=>simp
    have hz:=hb2.1
    (have tk:=za zw <| za zbC <| za zbZ <| zb Tryz.prog);repeat' (first|((first|(refine sa ?_;intro K hK)|refine sb ?_);simp only [go_sem,aeq,aeq.aeqF,simprocAttr,← hR,he,hwf,hwl,← hS,hb,List.map_take,Tryz.results125])|refine zbm (fun K hK=>?_)|refine sc ?_|refine zb3 rfl (fun hc=>?_) (fun hc=>?_)|(refine hK _ ?_;clear hK K)|refine fun (nb:Bool) (hnb:nb=true→_)=>?_|with_reducible refine And.intro ?_ ?_|(refine (show zb5 _ _=true from ?_);kernel_rfl)|omega|assumption|refine fun (hg:(_:Bool)=(_:Bool))=>?_|clear hK K)
    all_goals first|omega|(rw [hz];done)|(rw [hz];rfl)|skip
   |false=>
    rw [zgA hb]
    refine' walkW (zo hR.symm he hwf hwl hS.symm hb) (za zw <| za zbC <| za zbZ <| zb _)
 ·have e1:(k==1)=false:=by simpa using h1
  have hw2:IntKind.u64.wrap (IntKind.i64.wrap ((x.maps.length:Int)+2))=(x.maps.length:Int)+2:=by rw [zi U U,zA U U]
  have hwk:IntKind.u64.wrap k=k:=zA U U
  by_cases h2:k<2∨(x.maps.length:Int)+2≤k
  ·have hb:(decide (k<2)||decide ((x.maps.length:Int)+2≤k))=true:=by simpa using h2
   rw [zrL h1 h2,zgA (by rfl)]
   refine' walkW (zE e1 hw2 hwk hb) (za zw <| za zbC <| za zbZ <| zb _)
  ·have hb:(decide (k<2)||decide ((x.maps.length:Int)+2≤k))=false:=by simpa using h2
   obtain ⟨j,rfl⟩:∃j:Nat,k=(j:Int)+2:=⟨(k - 2).toNat,U⟩
   obtain ⟨m,hmq⟩:=zaH (l:=x.maps) (i:=j) U
   have hrow:=zbJ (g:=dmapD) hmq
   simp only [dmapD] at hrow
   have hwj:IntKind.u32.wrap ((j:Int)+2 - 2)=(j:Int):=by rw [zbT U U];omega
   rw [zrM hmq]
   have hne:=ztY (x:=x) (m:=m.name) (a:=q.frm) (n:=q.len) hgu
   obtain ⟨S,hS⟩:∃S,S=zeG x m.name q.frm q.len:=⟨_,rfl⟩
   rw [← hS] at hne ⊢
   cases hb3:(S.2==0&&(ibits .and .i64 q.flags 8 !=0)) with
   | true=>
    rw [znc hb3]
    have hb2:=hb3
    rw [Bool.and_eq_true,beq_iff_eq] at hb2
    have hSn:1≤S.1.length:=by
     have:=hne hb2.1
     cases hSS:S.1 with
     |nil=>exact absurd hSS this
     |cons a l=>simp
    have hz:=hb2.1
    (have tk:=za zw <| za zbC <| za zbZ <| zb Tryz.prog);repeat' (first|((first|(refine sa ?_;intro K hK)|refine sb ?_);simp only [go_sem,aeq,aeq.aeqF,simprocAttr,e1,hw2,hwk,hb,hwj,hrow,Int.toNat_natCast,hwf,hwl,← hS,hb3,List.map_take,Tryz.results125])|refine zbm (fun K hK=>?_)|refine sc ?_|refine zb3 rfl (fun hc=>?_) (fun hc=>?_)|(refine hK _ ?_;clear hK K)|refine fun (nb:Bool) (hnb:nb=true→_)=>?_|with_reducible refine And.intro ?_ ?_|(refine (show zb5 _ _=true from ?_);kernel_rfl)|omega|assumption|refine fun (hg:(_:Bool)=(_:Bool))=>?_|clear hK K)
    all_goals first|omega|(rw [hz];done)|(rw [hz];rfl)|skip
   |false=>
    rw [zgA hb3]
    refine' walkW (zo e1 hw2 hwk hb hwj (zo hrow natC hwf hwl hS.symm hb3)) (za zw <| za zbC <| za zbZ <| zb _)
    all_goals first|omega|skip
@[go_sem] noncomputable def zaz:Ent Tryz.prog 125:= .m3 zbk rqA_T (intT .u32) zlt
open Go Go.Proofs
def tskV (t:Tsk) (v:AV):List AV:= [.d (.int .i64 t.q.flags),.d (.int .i64 t.q.kind),.d (.int .u64 t.q.cookie),.d (.int .u64 t.q.frm),.d (.int .u32 t.q.len),.d (.str t.q.data),.d (.sl 3 (t.cuts.map cutD)),.d (.int .i64 t.loc),.d (.int .u32 t.err),.d (.str t.data),v,.d (.bool t.done)]
attribute [go_sem] tskV
@[go_sem] abbrev tskS (t:Tsk):List AV:=tskV t (.d (.sl 2 (t.spans.map spnD)))
def tsk0:List AV:= [.d (.int .i64 0),.d (.int .i64 0),.d (.int .u64 0),.d (.int .u64 0),.d (.int .u32 0),.d (.str []),.nils 3,.d (.int .i64 0),.d (.int .u32 0),.d (.str []),.nils 2,.d (.bool false)]
attribute [go_sem] tsk0
def rqV (q:Rq):List AV:= [.d (.int .i64 q.flags),.d (.int .i64 q.kind),.d (.int .u64 q.cookie),.d (.int .u64 q.frm),.d (.int .u32 q.len),.d (.str q.data)]
attribute [go_sem] rqV
theorem zrN {x:Img} {q:Rq} {Z:List Spn×Int} {k:Int} {r:List Int} {l:List Spn} (h:Z=tctxL x q (k::r) l):Z=if (tctx x q k).2≠0 then ([],(tctx x q k).2) else tctxL x q r (l++ [⟨k,(tctx x q k).1⟩]):=by rw [h,tctxL]
theorem zrO (x:Img) (t:Tsk) (ms:List Int) (hp:TkOk x t∧ms.length≤1000∧(∀m∈ms,0≤m∧m<4294967296)):AC 62 [imgA x,tskA t,.d (.sl 1 (ms.map u32D))] (.tup [imgA (tstep x t ms).1,tskA (tstep x t ms).2]):=by
 obtain ⟨h,hm,hr⟩:=hp
 refine fbod Tryz.func62 Tryz.ntmps62 (fun base=>?_)
 obtain ⟨Z,hZ⟩:∃Z,Z=tstep x t ms:=⟨_,rfl⟩
 rw [← hZ]
 have hio:=h.img
 have hg0:=h.g0
 have hmp:=h.maps
 have hok:=h.ok
 have hfr:=h.frm
 have hlo:=h.lo
 cases hd:t.done with
 |true=>
  rw [zq6 hd] at hZ
  refine' walkW hd (za zaQ <| za zaP <| za zJ <| za zaz <| zb _)
  all_goals first|(rw [hZ];done)|(rw [hZ,← hd];done)|(rw [hZ,← hd];rfl)|skip
 |false=>
 have hsp:=h.spans hd
 by_cases hl:t.loc<t.cuts.length
 ·have hb:decide (t.loc<(t.cuts.length:Int))=true:=decide_eq_true hl
  rw [zwA hd U] at hZ
  refine' walkW (zq hd hb hZ.symm) (za zaQ <| za zaP <| za zJ <| za zaz <| zb _)
  all_goals first|omega|(rw [← hd];exact h)|(simp only [*,Bool.not_false,Bool.and_self];done)|(rw [hZ];done)|(rw [hZ];rfl)|(rw [hZ,hsp];done)|(rw [hZ,hsp];rfl)|skip
 have hb:decide (t.loc<(t.cuts.length:Int))=false:=decide_eq_false hl
 rw [zrt hd U,zw9,tlast] at hZ
 have hfl:∀c:Bool,c=(t.q.kind==3||(t.q.kind !=7&&(ibits .and .i64 t.q.flags 1 !=0)))→(c=true→t.q.kind≠7∧(t.q.kind=3∨hasF t.q.flags 1=true))∧(c=false→t.q.kind=7∨¬(t.q.kind=3∨hasF t.q.flags 1=true)):=by
  rintro c rfl
  unfold hasF
  by_cases h3:t.q.kind=3
  ·rw [h3];simp
  ·by_cases h7:t.q.kind=7
   ·rw [h7];simp
   ·simp [h3,h7]
 cases hc1:(t.q.kind==3||(t.q.kind !=7&&(ibits .and .i64 t.q.flags 1 !=0))) with
 | true=>
  obtain ⟨h7,h3⟩:=(hfl _ rfl).1 hc1
  rw [if_neg h7,if_pos h3] at hZ
  obtain ⟨F,hF⟩:∃F,F=zb1 x:=⟨_,rfl⟩
  rw [← hF] at hZ
  cases he:(F.2 !=0) with
  |true=>
   rw [if_pos aj] at hZ
   refine' walkW (zaB hd hb hc1 hF.symm he) (za zaQ <| za zaP <| za zJ <| za zaz <| zb _)
   all_goals first|omega|(rw [← hd];exact h)|(simp only [*,Bool.not_false,Bool.and_self];done)|(rw [hZ];done)|(rw [hZ];rfl)|(rw [hZ,hsp];done)|(rw [hZ,hsp];rfl)|skip
  |false=>
   rw [if_neg aj] at hZ
   refine' walkW (zaB hd hb hc1 hF.symm he) (za zaQ <| za zaP <| za zJ <| za zaz <| zb _)
   all_goals first|omega|(rw [← hd];exact h)|(simp only [*,Bool.not_false,Bool.and_self];done)|(rw [hZ];done)|(rw [hZ];rfl)|(rw [hZ,hsp];done)|(rw [hZ,hsp];rfl)|skip
 |false=>
 cases h7:(t.q.kind==7) with
 | false=>
  have h3:¬(t.q.kind=3∨hasF t.q.flags 1=true):=by
   rcases (hfl _ rfl).2 hc1 with h|h
   ·exact absurd h (beqN h7)
   ·exact h
  rw [if_neg (beqN h7),if_neg h3] at hZ
  refine' walkW (zE hd hb hc1 h7) (za zaQ <| za zaP <| za zJ <| za zaz <| zb _)
  all_goals first|omega|(rw [← hd];exact h)|(simp only [*,Bool.not_false,Bool.and_self];done)|(rw [hZ];done)|(rw [hZ];rfl)|(rw [hZ,hsp];done)|(rw [hZ,hsp];rfl)|skip
 | true=>
  rw [if_pos (beqP h7)] at hZ
  obtain ⟨S,hS⟩:∃S,S=tctxL x t.q ms []:=⟨_,rfl⟩
  rw [← hS] at hZ
  simp only at hZ
  refine' walkW (zE hd hb hc1 h7) (za zaQ <| za zaP <| za zJ <| za zaz <| zb _)
  all_goals first|(simp only [*,Bool.not_false,Bool.and_self];done)|skip
  refine zaI 11 2 rfl ?_
  simp only [fresh,top,hget, ↓reduceIte]
  refine zk (fun q: { q:Nat×List Spn // q.1≤ms.length∧q.2.length=q.1∧S=tctxL x t.q (ms.drop q.1) q.2 } =>⟨[(2,true,.d (.sl 1 (ms.map u32D))),(3,true,.vp 0 0),(4,true,.vp 1 0),(6,true,.vp 2 0),(7,true,.vp 3 0),(8,true,.vp 4 0),(11,true,.osl 5 2 q.1.2.length 0 q.1.2.length),(12,true,.d (.int .i64 q.1.1))],[(5,.arr 2 (q.1.2.map spnD)),(4,.var (rqV t.q)),(3,.var tsk0),(2,.var img0),(1,.var (tskS t)),(0,.var (imgV x))],some []⟩) (fun q=>ms.length - q.1.1) ⟨(0,[]),Nat.zero_le _,rfl,hS⟩ (by simp only [AS.le,leT,leH,zf,AsgK,AV.le,AV.leL,AObj.le,inH,idsT,idsH,AV.ids,AV.idsL,AV.idsR,AObj.ids,lk,hget,go_sem,aeq,aeq.aeqF,simprocAttr,hd]<;>and_intros<;>rfl) (fun q=>?_)
  obtain ⟨⟨i,L⟩,hi,hLl,hf⟩:=q
  simp only at hi hLl hf ⊢
  rcases zy u32D ms i hi with ⟨k,hq,hlt,hcmp,hrow,hdr,htk⟩|⟨hend,hcmp⟩
  ·simp only [u32D] at hrow
   have hwi:=zn (i:=i) U
   obtain ⟨hk0,hk1⟩:=hr k (List.mem_of_getElem? hq)
   rw [hdr] at hf
   have hf:=zrN hf
   obtain ⟨C,hC⟩:∃C,C=tctx x t.q k:=⟨_,rfl⟩
   rw [← hC] at hf
   cases he:(C.2 !=0) with
   |true=>
    rw [if_pos aj] at hf
    rw [hf,if_pos aj] at hZ
    refine' walkW (zE hcmp hrow hC.symm he) (za zaQ <| za zaP <| za zJ <| za zaz <| zb _)
    all_goals first|omega|(rw [← hd];exact h)|(simp only [*,Bool.not_false,Bool.and_self];done)|(rw [hZ];done)|(rw [hZ];rfl)|(rw [hZ,hsp];done)|(rw [hZ,hsp];rfl)|skip
   |false=>
    rw [if_neg aj] at hf
    refine' walkW (zE hcmp hrow hC.symm he) (za zaQ <| za zaP <| za zJ <| za zaz <| zb _)
    all_goals first|omega|(rw [← hd];exact h)|(simp only [*,Bool.not_false,Bool.and_self];done)|(rw [hZ];done)|(rw [hZ];rfl)|(rw [hZ,hsp];done)|(rw [hZ,hsp];rfl)|skip
    exact ⟨⟨(i+1,L++ [⟨k,C.1⟩]),U,by simp [hLl],hf⟩,by simp only [List.map_append,List.length_append,List.length_singleton,List.map_cons,List.map_nil];simp only [AS.le,leT,leH,zf,AsgK,AV.le,AV.leL,AObj.le,inH,idsT,idsH,AV.ids,AV.idsL,AV.idsR,AObj.ids,lk,hget,go_sem,aeq,aeq.aeqF,simprocAttr,hwi,spnD]<;>and_intros<;>rfl,af⟩
  ·rw [hend,List.drop_length,tctxL] at hf
   rw [hf,if_neg aa] at hZ
   refine' walkW hcmp (za zaQ <| za zaP <| za zJ <| za zaz <| zb _)
   all_goals first|omega|(rw [← hd];exact h)|(simp only [*,Bool.not_false,Bool.and_self];done)|(rw [hZ];done)|(rw [hZ];rfl)|(rw [hZ,hsp];done)|(rw [hZ,hsp];rfl)|skip
@[go_sem] noncomputable def znd:Ent Tryz.prog 62:= .m3 zbk zgr (slT 1 u32D zhP) zrO
end Go.Aw
