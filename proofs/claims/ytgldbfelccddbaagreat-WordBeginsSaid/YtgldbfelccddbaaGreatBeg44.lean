/-
 What a server may say: word.Accept.
-/
import Derived.Test.YtgldbfelccddbaaGreatBeg43
import Derived.Test.YtgldbfelccddbaaGreatBeg41
set_option maxRecDepth 100000
set_option maxHeartbeats 2000000
set_option linter.unusedSimpArgs false
set_option linter.unusedVariables false
namespace Go.Aw
open Go Go.Proofs
theorem zk7 (l:List Int) (h:l.length≤1000):AC 32 [.d (.sl 1 (l.map ckD))] (.fn (.func 76) [] [.dp [.d (.sl 1 (l.map ckD))]]):=by
 exact zmv l h
@[go_sem] noncomputable def zh3:Ent Tryz.prog 32:= .m1 (slT 1 ckD zpC) zk7
theorem zqF {cx:Cx} {c:Code} {Q:Exit→AS→Prop} {s s':AS} (hA:AW cx c Q s') (h:AW cx c Q s'→AW cx c Q s):AW cx c Q s:=h hA
theorem zka (F:JF) (m:Nat):∀ (n k:Nat) (s:Txt),(wpcs F m n k s).2.1.length≤s.length
 |0,k,s=>Nat.zero_le _
 |n+1,k,s=>by
  have h1:=(zh2 s).2
  rw [wpcs]
  split
  ·exact Nat.zero_le _
  split
  ·exact Nat.zero_le _
  split
  ·exact h1
  ·exact Nat.le_trans (zka F m n (k+1) _) h1
theorem zk8 (x:Xp) (n:Ng) (q:Rq) (s:Txt):(zbq x n q s).2.1.length≤s.length:=by
 unfold zbq
 split
 ·unfold zV smpRd
  repeat' split
  all_goals first|exact Nat.zero_le _|skip
  all_goals (simp only [smp0,List.length_nil,List.length_drop];omega)
 ·exact zka _ _ _ _ _
theorem zh4 (x:Xp) (sent said:Txt) (hx:XpOk x) (hn2:x.names.length≤2) (hnn:∀t∈x.names,t.length≤1000) (hs:sent.length≤20000) (hd:said.length≤20000):ACall Tryz.prog 10 0 [.d (.str sent),.d (.str said),xpA x] [] (fun r _=>r= .tup [.d (.bool (wacc x sent said).1),.d (.sl 1 ((ckS (wacc x sent said).2).map ckD))]):=by
 have hlen:=zhR hn2 hs
 have hchk:=znj x sent
 have hms:(wreqs x sent).2.1.metas.length≤1000000:=by
  have:=(zeV (n:=ng0) hn2 MsOk.nil sent).1.1
  simp only [wreqs]
  omega
 obtain ⟨V,hV⟩:∃V,V=wacc x sent said:=⟨_,rfl⟩
 rw [← hV]
 unfold wacc at hV
 obtain ⟨R,hR⟩:∃R,R=wreqs x sent:=⟨_,rfl⟩
 rw [← hR] at hV hlen hchk hms
 refine fbod Tryz.func10 Tryz.ntmps10 (fun base=>?_)
 have hll:R.1.length≤1000000:=by omega
 have hlc:(ckS R.1).length≤1000:=by simp only [ckS,List.length_map];exact hlen
 have hcl:(R.1.map (·.cookie)).length≤1000:=hlc
 refine' walkW hR.symm (zb zfj <| zb zaZ <| zb zh3 <| za _)
 obtain ⟨ck,hck⟩:∃ck,ck=ckS R.1:=⟨_,rfl⟩
 have hckl:ck.length=R.1.length:=by rw [hck];simp [ckS]
 rw [show R.1.map (·.cookie)=ck from hck.symm]
 rw [← hck] at hV hlc
 refine (ACall.own (fl':=0) (zmw ck hlc) rfl rfl (Nat.zero_le _) (by rintro r h' ⟨rfl,rfl⟩;rfl)).mono ?_
 rintro r h' ⟨h1,⟨rfl,rfl⟩,rfl⟩
 obtain ⟨N,hN⟩:∃N,N=ck.length:=⟨_,rfl⟩
 have hSl:(sortL ck).length=N:=by rw [zeS,hN]
 rw [← hN]
 refine' zc fx
 refine (ACall.one (fl':=0) (i:=5) (h2:= [(1,.var (ngL R.2.1)),(0,.var (xpL x))]) (zkG (sortL ck) N hSl (by omega)) rfl rfl (zat rfl) rfl (by simp [AObj.ids]) (by simp [AV.idsL,AV.ids]) (Nat.zero_le _)).mono ?_
 rintro r h' ⟨ob',⟨rfl,rows,rfl,hrows⟩,rfl⟩
 obtain ⟨M,hM⟩:∃M,M=cmpN (sortL ck):=⟨_,rfl⟩
 rw [← hM] at hV ⊢
 by_cases hdup:M<R.1.length
 ·have hc:decide ((M:Int)<(R.1.length:Int))=true:=decide_eq_true (by omega)
  rw [if_pos hdup] at hV
  simp only [go_sem,aeq,aeq.aeqF,simprocAttr,hrows,hc]
  refine' zc (zu hc hrows)
  rw [hV]
  rfl
 have hc:decide ((M:Int)<(R.1.length:Int))=false:=decide_eq_false (by omega)
 rw [if_neg hdup] at hV
 simp only [go_sem,aeq,aeq.aeqF,simprocAttr,hrows,hc]
 obtain ⟨z,hz⟩:∃z,z=min said.length R.2.2.length:=⟨_,rfl⟩
 have hzm:imin (said.length:Int) (R.2.2.length:Int)=(z:Int):=by unfold imin;split<;>omega
 have hz1:z≤said.length:=by omega
 have hz2:z≤R.2.2.length:=by omega
 rw [← hz] at hV
 by_cases hb:said.take z=R.2.2.take z
 rotate_left
 ·have hbc:(said.take z !=R.2.2.take z)=true:=bne_iff_ne.2 hb
  rw [if_pos hb] at hV
  refine' zc (z7 hc hrows hzm hbc)
  rw [hV]
  rfl
 have hbc:(said.take z !=R.2.2.take z)=false:=by rw [hb];exact bne_self_eq_false _
 rw [if_neg (fun e=>e hb)] at hV
 refine' zc (z7 hc hrows hzm hbc)
 obtain ⟨F,hF⟩:∃F,F=zbq x R.2.1:=⟨_,rfl⟩
 rw [← hF] at hV
 refine aw_le ⟨[(1,true,.d (.str (said.drop z))),(5,true,.vp 0 0),(8,true,.d (.sl 6 (R.1.map rqD))),(9,true,.vp 1 0)],[(1,.var (ngL R.2.1)),(0,.var (xpL x))],some []⟩ le1 ?_
 refine zt (fun q: { q:Bool×List Rq×Txt // q.2.1.length≤1000∧(∀u∈q.2.1,WqOk u)∧q.2.2.length≤20000∧V=accL F (q.2.1.length+1) q.2.1 q.2.2 } =>⟨[(1,true,.d (.str q.1.2.2)),(5,true,.vp 0 0),(8,true,if q.1.1=true then .osl 34 6 (q.1.2.1.length+1) 0 q.1.2.1.length else .d (.sl 6 (q.1.2.1.map rqD))),(9,true,.vp 1 0)],(if q.1.1=true then [(34,.arr 6 (q.1.2.1.map rqD++ [rqZ]))] else [])++ [(1,.var (ngL R.2.1)),(0,.var (xpL x))],some []⟩) (fun q=>q.1.2.1.length) ⟨(false,R.1,said.drop z),hlen,hchk,by simp only [List.length_drop];omega,hV⟩ le1 (fun q=>?_)
 obtain ⟨⟨fl,l,s⟩,q1,q2,q3,q4⟩:=q
 simp only at q1 q2 q3 q4 ⊢
 clear hV
 have hq1:l.length≤1000000:=by omega
 have hlm:(l.map rqD).length=l.length:=List.length_map ..
 refine zqF (s':=⟨[(1,true,.d (.str s)),(5,true,.vp 0 0),(8,true,.d (.sl 6 (l.map rqD))),(9,true,.vp 1 0)],[(1,.var (ngL R.2.1)),(0,.var (xpL x))],some []⟩) ?_ (fun hA=>?_)
 rotate_left
 ·cases fl
  all_goals simp only [if_true,Bool.false_eq_true,if_false,List.cons_append,List.nil_append]
  ·exact hA
  ·refine zmy 34 (xs:=l.map rqD) (ys:= [rqZ]) rfl (by simp) (by rw [List.length_map,List.length_singleton];omega) (by simp [cxOf]) ?_
   simp only [go_sem,aeq,aeq.aeqF,simprocAttr,hlm,List.length_singleton]
   refine zaW 34 rfl ?_;simp only [go_sem,aeq,aeq.aeqF,simprocAttr]
   exact aw_le _ (by simp only [AS.le,leT,leH,zh,AsgK,AV.le,AV.leL,AObj.le,inH,idsT,idsH,AV.ids,AV.idsL,AV.idsR,AObj.ids,lk,hget,go_sem,aeq,aeq.aeqF,simprocAttr,hlm,List.take_length]<;>and_intros<;>first|rfl|(rw [← hlm,List.take_length];done)) hA
 ·by_cases hs0:s= []
  ·have hne:(s != [])=false:=by rw [hs0];rfl
   rw [accL,if_pos hs0] at q4
   refine' walkW hne (zb zaZ <| za _)
   rw [q4]
   rfl
  have hne:(s != [])=true:=bne_iff_ne.2 hs0
  rw [accL,if_neg hs0] at q4
  refine' walkW hne (zb zaZ <| za _)
  refine zt (fun q: { q:Nat×Bool // q.1≤l.length∧(∀u∈l.take q.1,(F u s).1=false)∧q.2=(l.take q.1).any (fun u=>(F u s).2.2==22) } =>⟨[(1,true,.d (.str s)),(5,true,.vp 0 0),(8,true,.d (.sl 6 (l.map rqD))),(9,true,.vp 1 0),(13,true,.d (.int .i64 (-1))),(14,true,.d (.bool q.1.2)),(15,true,.d (.str [])),(59,true,.d (.sl 6 (l.map rqD))),(60,true,.d (.int .i64 l.length)),(61,true,.d (.int .i64 q.1.1))],[(1,.var (ngL R.2.1)),(0,.var (xpL x))],some []⟩) (fun q=>l.length - q.1.1) ⟨(0,false),Nat.zero_le _,fun u h=>by simp at h,rfl⟩ le1 (fun q=>?_)
  obtain ⟨⟨i,b⟩,hi,hno,hb⟩:=q
  simp only at hi hno hb ⊢
  rcases zaw rqD l i hi with ⟨u,hq,hlt,hcmp,hrow,hdr,htk⟩|⟨hend,hcmp⟩
  ·simp only [rqD] at hrow
   have hu:=q2 u (List.mem_of_getElem? hq)
   have hwi:=zp (i:=i) (by omega)
   obtain ⟨C,hC⟩:∃C,C=F u s:=⟨_,rfl⟩
   have hCs:zbq x R.2.1 u s=C:=by rw [hC,hF]
   have hpw:s.length≤900000∧ChkOk u∧u.frm<18446744073709551616∧XpOk x∧R.2.1.metas.length≤1000000:=⟨by omega,hu.1,hu.2,hx,hms⟩
   cases hc1:C.1 with
   | false=>
    refine' walkW (z7 hcmp hrow hCs hc1) (zb zdn <| za _)
    ·exact hu.1
    ·refine ⟨⟨(i+1,b||C.2.2==22),hlt,fun v hv=>?_,?_⟩,lew,by simp;omega⟩
     ·rw [htk] at hv
      rcases List.mem_append.1 hv with hv|hv
      ·exact hno v hv
      ·rw [List.mem_singleton.1 hv,← hC]
       exact hc1
     ·simp only [htk,List.any_append,List.any_cons,List.any_nil,Bool.or_false]
      rw [← hb,hC]
   | true=>
    have hlow:∀m,m<i→∀y,l[m]?=some y→(F y s).1=false:=fun m hm y hy=>hno y (by
     refine List.mem_of_getElem? (i:=m) ?_
     rw [List.getElem?_take_of_lt hm]
     exact hy)
    obtain ⟨c,hpk⟩:=zdj (F:=F) (s:=s) (i:=0) (b:=false) hq (by rw [← hC];exact hc1) hlow
    rw [hpk,Nat.zero_add,← hC] at q4
    simp only at q4
    have hel:(l.eraseIdx i).length=l.length - 1:=List.length_eraseIdx_of_lt hlt
    have hl1:l.length - 1+1=l.length:=by omega
    have hrl:C.2.1.length≤s.length:=by rw [hC,hF];exact zk8 x R.2.1 u s
    refine' walkW (zad hcmp hrow hCs hc1 hwi) (zb zdn <| za _)
    ·exact hu.1
    refine (ACall.own (fl':=0) (zfh l 34 (by omega)) rfl rfl (Nat.zero_le _) (by rintro r h' ⟨rfl,rfl⟩;rfl)).mono ?_
    rintro r h' ⟨h1,⟨rfl,rfl⟩,rfl⟩
    simp only [go_sem,aeq,aeq.aeqF,simprocAttr,List.cons_append,List.nil_append]
    refine (zan (zmz l i hlt (by omega)) (by decide) rfl (by simp [AObj.ids]) (by simp [AV.idsL,AV.ids])).mono ?_
    rintro r h' ⟨rfl,rfl⟩
    simp only [go_sem,aeq,aeq.aeqF,simprocAttr,hset]
    refine ⟨⟨(true,l.eraseIdx i,C.2.1),by simp only [hel];omega,fun v hv=>q2 v ((List.eraseIdx_sublist l i).subset hv),by simp only;omega,by simp only [hel,hl1];exact q4⟩,?_,by simp only [hel];omega⟩
    simp only [hel,hl1,if_true,List.cons_append,List.nil_append]
    simp only [AS.le,leT,leH,zh,AsgK,AV.le,AV.leL,AObj.le,inH,idsT,idsH,AV.ids,AV.idsL,AV.idsR,AObj.ids,lk,hget,go_sem,aeq,aeq.aeqF,simprocAttr]<;>and_intros<;>rfl
  ·subst hend
   rw [List.take_length] at hno hb
   cases b with
   |false=>
    refine' walkW hcmp (zb zaZ <| za _)
    rw [zbI hno,← hb] at q4
    rw [q4]
    rfl
   |true=>
    refine' walkW hcmp (zb zaZ <| za _)
    rw [zbI hno,← hb] at q4
    rw [q4]
    rfl
@[go_sem] noncomputable def zcV:Ent Tryz.prog 10:= .ofL (consL strT (consL strT (consL xpA_T nilL))) (fun (sent,said,x,_)=>(XpOk x)∧(x.names.length≤2)∧(∀t∈x.names,t.length≤1000)∧(sent.length≤20000)∧(said.length≤20000)) (fun (sent,said,x,_)=> .tup [.d (.bool (wacc x sent said).1),.d (.sl 1 ((ckS (wacc x sent said).2).map ckD))]) (fun (sent,said,x,_) hp=>⟨rfl,zh4 x sent said hp.1 hp.2.1 hp.2.2.1 hp.2.2.2.1 hp.2.2.2.2⟩)
end Go.Aw
