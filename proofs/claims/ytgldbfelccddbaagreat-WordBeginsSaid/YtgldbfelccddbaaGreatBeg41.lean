/-
 A reply read: word.Reply.
-/
import Derived.Test.YtgldbfelccddbaaGreatBeg39
set_option maxRecDepth 100000
set_option maxHeartbeats 2000000
set_option linter.unusedSimpArgs false
set_option linter.unusedVariables false
namespace Go.Aw
open Go Go.Proofs
def wpL (F:JF) (m:Nat):List (Nat×Chk×Txt×Int)→Bool×Txt×Int
 | []=>(false,[],14)
 |r::L=>if r.2.2.2=22∧r.1≤m then (false,[],22) else if r.2.2.2≠0∨(F r.2.1 r.1).1=false∨m<r.1 then (false,[],14) else if (F r.2.1 r.1).2=true then (true,r.2.2.1,0) else wpL F m L
theorem zoZ (F:JF) (m:Nat):∀ (n f k:Nat) (s:Txt),s.length<n→k+f=m+2→wpL F m (chkR n k s)=wpcs F m f k s
 |0,f,k,s,h,_=>by omega
 |n+1,0,k,s,h,hk=>by
  rw [chkR,wpL,if_neg (by simp only;omega),if_pos (.inr (.inr (by simp only;omega)))]
  rfl
 |n+1,f+1,k,s,h,hk=>by
  rw [chkR,wpL,wpcs]
  simp only
  split
  ·rfl
  split
  ·rfl
  rename_i h1 h2
  split
  ·rfl
  have h0:(chkRd s).2.2=0:=Decidable.of_not_not (fun e=>h2 (.inl e))
  have hl:=zcQ h0
  rw [if_neg (fun e=>e h0)]
  exact zoZ F m n f (k+1) _ (by omega) (by omega)
theorem zh2 (s:Txt):(chkRd s).1.data.length≤s.length∧(chkRd s).2.1.length≤s.length:=by
 unfold chkRd
 repeat' split
 all_goals first|(simp only [chk0,List.length_nil];omega)|skip
 simp only [chkQ,List.length_take,List.length_drop]
 omega
theorem zj9:∀ (n k:Nat) (s:Txt),∀r∈chkR n k s,r.1<k+n∧r.2.1.data.length≤s.length
 |0,k,s,r,hr=>by cases hr
 | n+1,k,s,r,hr=>by
  have h0:=zh2 s
  rw [chkR] at hr
  rcases List.mem_cons.1 hr with rfl|hr
  ·exact ⟨by simp only;omega,h0.1⟩
  split at hr
  ·cases hr
  ·have:=zj9 n (k+1) _ r hr
   omega
theorem zpQ {q:Rq} {size:Int} {ch:Bool} {ms:List Int} (h:zbu q size ch ms=0):0≤q.kind∧q.kind<8:=by
 unfold zbu at h
 split at h
 ·cases h
 rename_i h1
 unfold zbF at h1
 repeat' split at h1
 all_goals omega
@[go_sem] abbrev wrB (q:Rq) (n:Ng) (E:Int) (a:Bool) (b:Txt) (e:Int):AHeap:= [(13,.var [.d (.int .i64 q.flags),.d (.int .i64 q.kind),.d (.int .u64 q.cookie),.d (.int .u64 q.frm),.d (.int .u32 q.len),.d (.str q.data),.d (.int .i64 n.phase),.d (.str n.buf),.d (.bool n.brief),.d (.bool n.chunks),.d (.sl 1 (n.metas.map u32D)),.d (.int .u32 E)]),(5,.var [.d (.int .i64 e)]),(4,.var [.d (.str b)]),(3,.var [.d (.bool a)]),(2,.var (ngL n))]
theorem zi6 (s:Txt) (q:Rq) (x:Xp) (n:Ng) (hp:s.length≤900000∧ChkOk q∧q.frm<18446744073709551616∧XpOk x∧n.metas.length≤1000000):AC 35 [.d (.str s),rqA q,xpA x,ngA n] (.tup [.d (.bool (zbq x n q s).1),.d (.str (zbq x n q s).2.1),.d (.int .i64 (zbq x n q s).2.2)]):=by
 obtain ⟨hs,hq,hqf,hx,hm⟩:=hp
 obtain ⟨V,hV⟩:∃V,V=zbq x n q s:=⟨_,rfl⟩
 rw [← hV]
 unfold zbq at hV
 obtain ⟨E,hE⟩:∃E,E=zbu q x.size n.chunks n.metas:=⟨_,rfl⟩
 rw [← hE] at hV
 have hj:JdgOk ⟨q,n,E⟩:=⟨hq.g0,hqf,hq.c0,hq.c1,hm⟩
 have hjk:E=0→0≤q.kind∧q.kind<8:=fun e=>zpQ (by rw [← hE];exact e)
 refine fbod Tryz.func35 Tryz.ntmps35 (fun base=>?_)
 refine' zoQ (zP 2) hE.symm (zb zdI <| za _)
 refine aw_le ⟨[(0,true,.d (.str s)),(7,true,.vp 2 0),(8,true,.vp 3 0),(9,true,.vp 4 0),(10,true,.vp 5 0),(11,true,.vp 13 0)],wrB q n E false [] 0,some []⟩ le1 ?_
 by_cases hch:n.chunks=false
 ·rw [if_pos hch] at hV
  have hcn:(!n.chunks)=true:=by rw [hch];rfl
  obtain ⟨R,hR⟩:∃R,R=zV ⟨q,n,E⟩ s:=⟨_,rfl⟩
  rw [← hR] at hV
  refine' walkR (zu hcn hR.symm) (zb zd1 <| za _)
  rw [hV]
 rw [if_neg hch] at hV
 have hcn:(!n.chunks)=false:=by
  rw [Bool.not_eq_false']
  simpa using hch
 have hit:=zgG (s.length+1) s (by omega) (by omega)
 rw [← zoZ _ _ (s.length+1) _ 0 s (by omega) (by omega)] at hV
 have hLr:=zj9 (s.length+1) 0 s
 obtain ⟨L,hL⟩:∃L,L=chkR (s.length+1) 0 s:=⟨_,rfl⟩
 rw [← hL] at hV hit hLr
 refine' walkR hcn (zb zd1 <| za _)
 refine (ACall.own (fl':=0) (zmA s) rfl rfl (Nat.zero_le _) (by rintro r h' ⟨rfl,rfl⟩;rfl)).mono ?_
 rintro r h' ⟨h1,⟨rfl,rfl⟩,rfl⟩
 refine' zi fx
 obtain ⟨I,hI⟩:∃I:List (List AV)→AHeap×Option (List (List AV)),I=fun xs=>(wrB q n E false [] 0,some []):=⟨_,rfl⟩
 obtain ⟨F,hF⟩:∃F,F=zbY ⟨q,n,E⟩:=⟨_,rfl⟩
 rw [← hF] at hV
 obtain ⟨G,hG⟩:∃G:List (List AV)→Prop,G=fun xs=>V=wpL F n.metas.length (L.drop xs.length):=⟨_,rfl⟩
 obtain ⟨J,hJ⟩:∃J:Code→AHeap→Option (List (List AV))→Prop,J=fun c h g=>g=some []∧∃ (r:Nat×Chk×Txt×Int) (a:Bool) (b:Txt) (e:Int),h=(100,.var [.d (.bool r.2.1.done),.d (.int .i64 r.2.1.kind),.d (.int .u64 r.2.1.cookie),.d (.str r.2.1.data),.d (.str r.2.2.1),.d (.int .i64 r.2.2.2)])::wrB q n E a b e∧(c= .ret∧V=(a,b,e)∨c= .exit 0∧V=(false,[],14)):=⟨_,rfl⟩
 refine aw_le ⟨[(33,true,.fn (.func 145) [] [.vp 50 0]),(7,true,.vp 2 0),(8,true,.vp 3 0),(9,true,.vp 4 0),(10,true,.vp 5 0),(11,true,.vp 13 0)],(50,.var [.d (.str s)])::wrB q n E false [] 0,some []⟩ le1 ?_
 refine zeJ 100 50 (by decide) G I J (hit) (by simp only [go_sem,aeq,aeq.aeqF,simprocAttr]) rfl (zat rfl) (by simp [cxOf,cxY]) (by first|rfl|(simp [inH,idsH,hsel,AV.ids,AV.idsL,AV.idsR,AObj.ids,hget];done)) (by first|rfl|(simp [AV.ids,AV.idsL];done)) (by rw [hG];first|trivial|rfl|simp) (by rw [hI];simp only [AS.le,leT,leH,zh,AsgK,AV.le,AV.leL,AObj.le,inH,idsT,idsH,AV.ids,AV.idsL,AV.idsR,AObj.ids,lk,hget,go_sem,aeq,aeq.aeqF,simprocAttr]<;>simp [AV.leL,AV.le]) (by rw [hI];simp only [AS.le,leT,leH,zh,AsgK,AV.le,AV.leL,AObj.le,inH,idsT,idsH,AV.ids,AV.idsL,AV.idsR,AObj.ids,lk,hget,go_sem,aeq,aeq.aeqF,simprocAttr]<;>simp) (by rw [hI]<;>rfl) (fun xs=>by rw [hI];rfl) ?_ (by intro x hx;obtain ⟨q,_,rfl⟩:=List.mem_map.1 hx;rfl) (by intro t ht;simp at ht;first|(rcases ht with rfl|rfl<;>simp [cxOf,cxY]<;>done)|(subst ht;simp [cxOf,cxY])) ?_ ?_ ?_
 ·rw [hJ]
  rintro c h3 g3 ⟨rfl,r,a,b,e,rfl,_⟩
  rfl
 ·intro xs x1 hpre hgd l' r1
  obtain ⟨ys,r,zs,rfl,rfl,hz⟩:=zeK hpre
  obtain ⟨k,hk⟩:∃k,k=ys.length:=⟨_,rfl⟩
  have hq:L[k]?=some r:=by rw [hz,hk];simp
  have hdk:=zgl hq
  have hyl:(ys.map chkI).length=k:=by rw [List.length_map,hk]
  have hyl2:(ys.map chkI++ [chkI r]).length=k+1:=by rw [List.length_append,hyl];rfl
  have hrr:=hLr r (List.mem_of_getElem? hq)
  rw [hG] at hgd
  simp only [hyl,hdk] at hgd
  rw [wpL] at hgd
  refine aw_le ⟨[(34,true,.d (.int .i64 r.1)),(35,true,.agg [.d (.bool r.2.1.done),.d (.int .i64 r.2.1.kind),.d (.int .u64 r.2.1.cookie),.d (.str r.2.1.data),.d (.str r.2.2.1),.d (.int .i64 r.2.2.2)]),(7,true,.vp 2 0),(8,true,.vp 3 0),(9,true,.vp 4 0),(10,true,.vp 5 0),(11,true,.vp 13 0)],wrB q n E false [] 0,some []⟩ (by rw [hI];simp only [chkI,zaX];simp only [AS.le,leT,leH,zh,AsgK,AV.le,AV.leL,AObj.le,inH,idsT,idsH,AV.ids,AV.idsL,AV.idsR,AObj.ids,lk,hget,go_sem,aeq,aeq.aeqF,simprocAttr]<;>and_intros<;>rfl) ?_
  by_cases g1:r.2.2.2=22∧r.1≤n.metas.length
  ·have hc1:(r.2.2.2==22&&decide ((r.1:Int)≤(n.metas.length:Int)))=true:=by
    rw [g1.1,decide_eq_true (by omega)];rfl
   rw [if_pos g1] at hgd
   refine' zi hc1
   rw [hJ]
   exact ⟨rfl,r,false,[],22,rfl,.inl ⟨rfl,hgd⟩⟩
  have hc1:(r.2.2.2==22&&decide ((r.1:Int)≤(n.metas.length:Int)))=false:=by
   rw [Bool.and_eq_false_iff]
   by_cases e:r.2.2.2=22
   ·exact .inr (decide_eq_false (fun e2=>g1 ⟨e,by omega⟩))
   ·exact .inl (beq_eq_false_iff_ne.2 e)
  rw [if_neg g1] at hgd
  obtain ⟨C,hC⟩:∃C,C=F r.2.1 r.1:=⟨_,rfl⟩
  have hCs:zbY ⟨q,n,E⟩ r.2.1 r.1=C:=by rw [hC,hF]
  rw [← hC] at hgd
  have hpc:JdgOk ⟨q,n,E⟩∧r.1≤2000000∧r.2.1.data.length≤9223372036854775807∧((⟨q,n,E⟩:Jdg).err=0→0≤(⟨q,n,E⟩:Jdg).q.kind∧(⟨q,n,E⟩:Jdg).q.kind<8):=⟨hj,by omega,by omega,hjk⟩
  by_cases g2:r.2.2.2≠0∨C.1=false∨n.metas.length<r.1
  ·have hc2:(r.2.2.2 !=0|| !C.1||decide ((n.metas.length:Int)<(r.1:Int)))=true:=by
    rw [Bool.or_eq_true,Bool.or_eq_true,bne_iff_ne,decide_eq_true_eq,Bool.not_eq_true']
    rcases g2 with g2|g2|g2
    ·exact .inl (.inl g2)
    ·exact .inl (.inr g2)
    ·exact .inr (by omega)
   rw [if_pos g2] at hgd
   refine' walkR (zF hc1 hc2 hCs) (zb zcU <| za _)
   rw [hJ]
   exact ⟨rfl,r,false,[],0,rfl,.inr ⟨rfl,hgd⟩⟩
  have hc2:(r.2.2.2 !=0|| !C.1||decide ((n.metas.length:Int)<(r.1:Int)))=false:=by
   rw [Bool.or_eq_false_iff,Bool.or_eq_false_iff,bne_eq_false_iff_eq,decide_eq_false_iff_not,Bool.not_eq_false']
   refine ⟨⟨Decidable.of_not_not (fun e=>g2 (.inl e)),?_⟩,fun e=>g2 (.inr (.inr (by omega)))⟩
   cases hc:C.1 with
   |true=>rfl
   |false=>exact absurd (.inr (.inl hc)) g2
  rw [if_neg g2] at hgd
  refine' walkR (zF hc1 hc2 hCs) (zb zcU <| za _)
  ·rw [if_pos hc] at hgd
   rw [hJ]
   exact ⟨rfl,r,true,r.2.2.1,0,rfl,.inl ⟨rfl,hgd⟩⟩
  ·rw [if_neg (by rw [hc];decide)] at hgd
   rw [hG]
   simp only [hyl2]
   exact hgd
  ·rw [hI]
   simp only [AS.le,leT,leH,zh,AsgK,AV.le,AV.leL,AObj.le,inH,idsT,idsH,AV.ids,AV.idsL,AV.idsR,AObj.ids,lk,hget,go_sem,aeq,aeq.aeqF,simprocAttr]<;>and_intros<;>rfl
  ·rw [hI]
   simp [inH,idsH,AObj.ids,AV.ids,AV.idsL,AV.idsR,hget]
  ·rw [hI]
 ·intro u hgd
  rw [hG] at hgd
  simp only [List.length_map,List.drop_length] at hgd
  rw [wpL] at hgd
  rw [hI]
  refine' zi fx
  rw [hgd]
 ·rw [hJ]
  rintro c w h3 g3 ⟨rfl,r,a,b,e,rfl,⟨rfl,hv⟩|⟨rfl,hv⟩⟩
  ·refine' zi fx
   rw [hv]
  ·refine' zi fx
   rw [hv]
@[go_sem] noncomputable def zdn:Ent Tryz.prog 35:= .m4 strT rqA_T xpA_T ngA_T zi6
end Go.Aw
