/-
 Parts of the proof: lemmas.
-/
import Derived.Test.YtgldbfelccddbaaGreatPart38
set_option maxRecDepth 100000
set_option maxHeartbeats 2000000
set_option linter.unusedSimpArgs false
set_option linter.unusedVariables false
namespace Go.Aw
open Go Go.Proofs
theorem zrE (n:Ng) (x:Xp) (hp:XpF x∧n.buf.length≤1000000):AC 117 [ngA n,xpA x] (.tup [ngA (ngStep n x).1,.d (.str (ngStep n x).2.1),.d (.bool (ngStep n x).2.2)]):=by
 obtain ⟨h,hb⟩:=hp
 obtain ⟨V,hV⟩:∃V,V=ngStep n x:=⟨_,rfl⟩
 rw [← hV]
 unfold ngStep at hV
 by_cases h0:n.phase=0
 ·rw [if_pos h0] at hV
  have hp:(n.phase==0)=true:=ck
  by_cases h4:n.buf.length<4
  ·rw [if_pos h4] at hV
   have ht:takeS n.buf 4=(0,[],22):=by rw [takeS,if_neg ae,if_pos U]
   refine fbod Tryz.func117 Tryz.ntmps117 (fun base=>?_)
   refine' walkW (zj hp ht) (za zp <| za zck <| za zbE <| zb _)
   rw [hV]
  ·rw [if_neg h4] at hV
   obtain ⟨N,hN⟩:∃N,N=numAt n.buf 0 4:=⟨_,rfl⟩
   have ht:takeS n.buf 4=((N:Int),n.buf.drop 4,0):=by rw [zoR _ U,hN]
   rw [← hN] at hV
   have e3:((N:Int)==3)=(N==3):=by
    by_cases e:N=3
    ·rw [e];rfl
    ·rw [beq_false_of_ne e,beq_false_of_ne (show (N:Int)≠3 by omega)]
   by_cases hk:N=1∨N=3
   ·rw [if_pos hk] at hV
    have hcc:((N:Int) !=1&&(N:Int) !=3)=false:=by rcases hk with rfl|rfl<;>rfl
    refine fbod Tryz.func117 Tryz.ntmps117 (fun base=>?_)
    refine' walkW (zE hp ht e3 hcc) (za zp <| za zck <| za zbE <| zb _)
    rw [hV]
   ·rw [if_neg hk] at hV
    have hcc:((N:Int) !=1&&(N:Int) !=3)=true:=af
    refine fbod Tryz.func117 Tryz.ntmps117 (fun base=>?_)
    refine' walkW (zE hp ht e3 hcc) (za zp <| za zck <| za zbE <| zb _)
    rw [hV]
 rw [if_neg h0] at hV
 have hp:(n.phase==0)=false:=ck
 obtain ⟨O,hO⟩:∃O,O=optRd n.buf:=⟨_,rfl⟩
 rw [← hO] at hV
 by_cases h22:O.2.2=22
 ·rw [if_pos h22] at hV
  have b1:(O.2.2==22)=true:=bI
  refine fbod Tryz.func117 Tryz.ntmps117 (fun base=>?_)
  refine' walkW (zq hp hO.symm b1) (za zp <| za zck <| za zbE <| zb _)
  rw [hV]
 rw [if_neg h22] at hV
 have b1:(O.2.2==22)=false:=bI
 by_cases he:O.2.2=0
 ·rw [if_neg (fun e=>e he)] at hV
  have b2:(O.2.2 !=0)=false:=aj
  have hg:=zd7 (s:=n.buf) (by rw [← hO];exact he)
  have hk0:0≤O.1.1:=by rw [hO,hg.2.2.2];exact Int.natCast_nonneg _
  have hk1:O.1.1≤4294967295:=by
   rw [hO,hg.2.2.2]
   have:=za1 n.buf 8 4
   have e:256 ^ 4=4294967296:=ae
   simp only;omega
  have hd:O.1.2.length≤1000000:=by
   rw [hO,hg.2.2.2];simp only [List.length_take];have:=hg.2.2.1;omega
  refine fbod Tryz.func117 Tryz.ntmps117 (fun base=>?_)
  refine' walkW (zE hp hO.symm b1 b2) (za zp <| za zck <| za zbE <| zb _)
  rw [hV]
 ·rw [if_pos he] at hV
  have b2:(O.2.2 !=0)=true:=aj
  refine fbod Tryz.func117 Tryz.ntmps117 (fun base=>?_)
  refine' walkW (zE hp hO.symm b1 b2) (za zp <| za zck <| za zbE <| zb _)
  rw [hV]
@[go_sem] noncomputable def zhz:Ent Tryz.prog 117:= .m2 ngA_T xpA_T zrE
theorem zrF {n:Ng} {x:Xp} (h:XpF x) (hp:n.phase=0∨n.phase=1) (ht:(ngStep n x).2.2=true):ngM (ngStep n x).1<ngM n∧(ngStep n x).2.1.length≤10000000:=by
 rcases hp with hp|hp
 ·have hst:ngStep n x=if n.buf.length<4 then (n,[],false) else (ngFlg n,[],true):=by
   rw [ngStep,if_pos hp];rfl
  by_cases h4:n.buf.length<4
  ·rw [hst,if_pos h4] at ht;cases ht
  ·rw [hst,if_neg h4]
   refine ⟨?_,Nat.zero_le _⟩
   unfold ngM ngFlg
   simp only [List.length_drop,hp]
   split<;>simp<;>omega
 ·have hst:=ngStep.eq_1 n x
  rw [if_neg U] at hst
  by_cases h22:(optRd n.buf).2.2=22
  ·rw [hst,if_pos h22] at ht;cases ht
  ·rw [if_neg h22] at hst
   by_cases h0:(optRd n.buf).2.2=0
   ·rw [if_neg (fun e=>e h0)] at hst
    have hok:NwOk ⟨n,x,0,[],.d .nilp,[]⟩:=⟨.inl rfl,Nat.zero_le _,Int.le_refl 0,(by show (0:Int)≤4294967295;decide),Nat.zero_le _,h.ok.1,h.ok.2,h.l,h.n⟩
    have hg:=hok.got h0
    have hlen:=ziI hg
    obtain ⟨_,h16,_,eg⟩:=zd7 h0
    rw [hst]
    refine ⟨?_,hlen⟩
    unfold ngM
    rw [zmQ]
    have hbl:(optRd n.buf).2.1.length+16≤n.buf.length:=by
     rw [eg];simp only [List.length_drop];omega
    simp only
    split<;>split<;>(try split)<;>omega
   ·rw [if_pos h0] at hst
    rw [hst]
    refine ⟨?_,Nat.zero_le _⟩
    unfold ngM
    simp [hp]
open Go Go.Proofs
theorem zrG (n:Ng) (x:Xp) (s:Txt) (hp:XpF x∧n.buf.length+s.length≤900000):AC 58 [ngA n,xpA x,.d (.str s)] (.tup [ngA (zM n x s).1,.d (.str (zM n x s).2)]):=by
 obtain ⟨h,hl⟩:=hp
 obtain ⟨V,hV⟩:∃V,V=zM n x s:=⟨_,rfl⟩
 rw [← hV]
 refine fbod Tryz.func58 Tryz.ntmps58 (fun base=>?_)
 by_cases h3:n.phase=3
 ·have h3b:(n.phase==3)=true:=by simpa using h3
  rw [zM,if_pos h3] at hV
  refine' zc h3b
  rw [hV]
 have h3b:(n.phase==3)=false:=bK
 rw [zM,if_neg h3] at hV
 refine' zc h3b
 obtain ⟨m0,hm0⟩:∃m0:Ng,m0= { n with buf:=n.buf++s } :=⟨_,rfl⟩
 obtain ⟨N,hN⟩:∃N,N=n.buf.length+s.length+2:=⟨_,rfl⟩
 have hM0:ngM m0≤N:=by rw [hm0,hN];unfold ngM;simp only [List.length_append];split<;>(try split)<;>omega
 have hV0:V=zI x N m0 []:=by rw [hV,hm0,hN]
 have ho0:([]:Txt).length+10000000*ngM m0≤9100000000000:=by show 0+_≤_;omega
 refine zk (fun q: { q:Ng×Txt×Nat // ngM q.1≤q.2.2∧V=zI x q.2.2 q.1 q.2.1∧q.2.1.length+10000000*ngM q.1≤9100000000000 } =>⟨[(3,true,.vp 0 0),(4,true,.vp 1 0),(6,true,.vp 2 0),(8,true,.d (.str q.1.2.1))],[(2,.var [.d (.int .i64 0),.d (.str []),.d (.bool false),.d (.bool false),.nils 1]),(1,.var [.d (.int .u64 x.size),.d (.sl 1 (x.names.map strD))]),(0,.var [.d (.int .i64 q.1.1.phase),.d (.str q.1.1.buf),.d (.bool q.1.1.brief),.d (.bool q.1.1.chunks),.d (.sl 1 (q.1.1.metas.map u32D))])],some []⟩) (fun q=>ngM q.1.1) ⟨(m0,[],N),hM0,hV0,ho0⟩ (by subst hm0;simp only [AS.le,leT,leH,zf,AsgK,AV.le,AV.leL,AObj.le,inH,idsT,idsH,AV.ids,AV.idsL,AV.idsR,AObj.ids,lk,hget,go_sem,aeq,aeq.aeqF,simprocAttr]<;>and_intros<;>rfl) (fun q=>?_)
 obtain ⟨⟨m,out,k⟩,hM,hVk,ho⟩:=q
 simp only at hM hVk ho ⊢
 have hmb:m.buf.length≤1000000:=by have:=zoG m;omega
 by_cases hp:m.phase=0∨m.phase=1
 ·have hcb:(m.phase==0||m.phase==1)=true:=by rcases hp with e|e<;>rw [e]<;>rfl
  obtain ⟨k,rfl⟩:∃k',k=k'+1:=⟨k - 1,by
   have:1≤ngM m:=by unfold ngM;rcases hp with e|e<;>simp only [e]<;>simp<;>omega
   omega⟩
  rw [zI,if_pos hp] at hVk
  obtain ⟨S,hS⟩:∃S,S=ngStep m x:=⟨_,rfl⟩
  have hD:=zrF h hp
  rw [← hS] at hVk hD
  cases hb:S.2.2 with
  |true=>
   rw [hb,if_pos rfl] at hVk
   obtain ⟨d1,d2⟩:=hD hb
   refine' walkW (zq hcb hS.symm hb) (za zhz <| zb _)
   exact ⟨⟨(S.1,out++S.2.1,k),by show ngM S.1≤k;omega,hVk,by show (out++S.2.1).length+10000000*ngM S.1≤_;rw [List.length_append];omega⟩,by simp only [AS.le,leT,leH,zf,AsgK,AV.le,AV.leL,AObj.le,inH,idsT,idsH,AV.ids,AV.idsL,AV.idsR,AObj.ids,lk,hget,go_sem,aeq,aeq.aeqF,simprocAttr,hcb]<;>and_intros<;>rfl,d1⟩
  | false=>
   rw [hb,if_neg ae] at hVk
   have hS1:S.1=m:=by
    rw [hS] at hb ⊢
    unfold ngStep at hb ⊢
    split
    ·rename_i e
     rw [if_pos e] at hb
     split
     ·rfl
     ·rename_i e2;rw [if_neg e2] at hb;cases hb
    ·rename_i e
     rw [if_neg e] at hb
     split
     ·rfl
     ·rename_i e2
      rw [if_neg e2] at hb
      split at hb<;>cases hb
   refine' walkW (zE hcb hS.symm hb hS1) (za zhz <| zb _)
   rw [hVk]
 ·have hcb:(m.phase==0||m.phase==1)=false:=by simp;omega
  have hVf:V=(ngClr m,out):=by
   rw [hVk]
   cases k with
   |zero=>rw [zI]
   |succ k=>rw [zI,if_neg hp]
  by_cases hp3:m.phase=3
  ·have hb3:(m.phase==3)=true:=by simpa using hp3
   rw [ngClr,if_pos hp3] at hVf
   refine' zc (zj hcb hb3)
   rw [hVf]
  ·have hb3:(m.phase==3)=false:=by simpa using hp3
   rw [ngClr,if_neg hp3] at hVf
   refine' zc (zj hcb hb3)
   rw [hVf]
@[go_sem] noncomputable def zm9:Ent Tryz.prog 58:= .m3 ngA_T xpA_T strT zrG
open Go Go.Proofs
theorem zr9 (v:Srv) (c:Int) (s:Txt) (hp:SvQ v∧s.length≤400000):AC 24 [srvA v,.d (.int .i64 c),.d (.str s)] (srvA (zbl v c s)):=by
 obtain ⟨hq,hl⟩:=hp
 obtain ⟨V,hV⟩:∃V,V=zbl v c s:=⟨_,rfl⟩
 rw [← hV]
 unfold zbl at hV
 have hcl:=hq.1
 by_cases hb:c<0∨(v.conns.length:Int)≤c
 ·have hn:(if c<0 then none else v.conns[c.toNat]?)=none:=by
   split
   ·rfl
   ·exact List.getElem?_eq_none U
  rw [hn] at hV
  have hbd:(decide (0≤c)&&decide (c<(v.conns.length:Int)))=false:=cV
  refine fbod Tryz.func24 Tryz.ntmps24 (fun base=>?_)
  refine' zaS fx
  refine (zaJ (zcJ v c U)).mono ?_
  rintro r h' ⟨rfl,rfl⟩
  rw [hbd]
  simp only [go_sem,aeq,aeq.aeqF,simprocAttr]
  refine' zaS fx
  rw [hV]
 ·obtain ⟨k,rfl⟩:∃k:Nat,c=k:=⟨c.toNat,U⟩
  obtain ⟨o,ho⟩:∃o,v.conns[k]?=some o:=⟨_,List.getElem?_eq_getElem U⟩
  have hn:(if (k:Int)<0 then none else v.conns[(k:Int).toNat]?)=some o:=bA
  rw [hn] at hV
  simp only [Int.toNat_natCast] at hV
  have hmo:=List.mem_of_getElem? ho
  have h:=hq.2 (List.ne_nil_of_mem hmo)
  have hco:=h.ok.conn o hmo
  have hbd:(decide (0≤(k:Int))&&decide ((k:Int)<(v.conns.length:Int)))=true:=cW
  have hpl:k*8=(zO (v.conns.take k)).length:=bQ
  have hrow:(v.conns.map cnD).getD k []= [.int .i64 o.n.phase,.str o.n.buf,.bool o.n.brief,.bool o.n.chunks,.sl 1 (o.n.metas.map u32D),.sl 12 (o.tasks.map tskD),.str o.out,.bool o.gone]:=ew
  refine fbod Tryz.func24 Tryz.ntmps24 (fun base=>?_)
  refine' zaS fx
  refine (zaJ (zcJ v k U)).mono ?_
  rintro r h' ⟨rfl,rfl⟩
  rw [hbd]
  simp only [go_sem,aeq,aeq.aeqF,simprocAttr]
  cases hg:o.gone with
  | true=>
   rw [hg,if_pos rfl] at hV
   refine' zaS fx
   ·rw [hrow];simp
   ·rw [hrow];simp
   ·rw [hrow];rfl
   ·rw [hV]
   ·rw [hrow] at hc
    simp [AV.toB,hg] at hc
  | false=>
   rw [hg,if_neg ae] at hV
   have hxp:=(XOk.xp h.ok.x)
   have hex:=h.ok.x.ex
   have hph:0≤o.n.phase:=by have:=hco.phase;omega
   have hbl:=hco.buf
   obtain ⟨F,hF⟩:∃F,F=zM o.n (xpOf v.x) s:=⟨_,rfl⟩
   have hol:=zhc (n:=o.n) (xctxs hxp).1 s
   have hoo:=h.out o hmo
   unfold OutOk at hoo
   rw [← hF] at hol
   refine' zaS fx
   ·rw [hrow];simp
   ·rw [hrow];simp
   ·rw [hrow];rfl
   ·rw [hrow] at hc
    simp [AV.toB,hg] at hc
   refine ((zo6 v k o ho U (fun o ho=>dj)).own rfl rfl ae dk).mono ?_
   rintro r h' ⟨h1,⟨m,rfl,rfl⟩,rfl⟩
   obtain ⟨pre,hpre⟩:∃pre,pre=zO (v.conns.take k):=⟨_,rfl⟩
   obtain ⟨post,hpost⟩:∃post,post=zO (v.conns.drop (k+1))++List.replicate m .any:=⟨_,rfl⟩
   rw [← hpre,← hpost]
   rw [← hpre] at hpl
   have hip:AV.idsL pre= []:=by rw [hpre];exact zbc
   have hiq:AV.idsL post= []:=by rw [hpost,zg,zbc,zaZ];rfl
   have hF2:F=zM o.n ⟨128*v.x.geom.guest,v.x.maps.map fun m=>m.name⟩ s:=hF
   have hxi:=h.ok.x.img.ok
   have hxg0:=h.ok.x.g0
   have hxg1:=h.ok.x.g1
   have hxm:=h.ok.x.maps
   have hn2:pre.length+1+1=pre.length+2:=rfl
   have hn3:pre.length+2+1=pre.length+3:=rfl
   have hn4:pre.length+3+1=pre.length+4:=rfl
   have hn5:pre.length+4+1=pre.length+5:=rfl
   have hn6:pre.length+5+1=pre.length+6:=rfl
   have hn7:pre.length+6+1=pre.length+7:=rfl
   unfold imgC rowO
   simp only [go_sem,aeq,aeq.aeqF,simprocAttr]
   refine' zgb (zN 8) (zo hpl hg hF2.symm hn2 hn3 hn4) (za zbD <| za zm9 <| zb _)
   obtain ⟨o1,ho1⟩:∃o1:Cn,o1= { o with n:=F.1,out:=o.out++F.2 } :=⟨_,rfl⟩
   obtain ⟨o2,ho2⟩:∃o2:Cn,o2=zca o1:=⟨_,rfl⟩
   obtain ⟨o3,ho3⟩:∃o3:Cn,o3=zal (128*v.x.geom.guest) o2:=⟨_,rfl⟩
   have hcf:o3=zdQ v.x o s:=by rw [ho3,ho2,ho1,hF];rfl
   have hle:OutOk 4100000000000000000 o1:=by
    rw [ho1]
    unfold OutOk
    have:=(ze7 (n:=o.n) (x:=xpOf v.x) en hco.ms s).2
    rw [← hF] at this
    simp only [List.length_append]
    omega
   have hcn:CnOk 900000 v.x o2:=by
    rw [ho2,ho1]
    have:=zj6 h.ok.x (hco.more (show 400000≤400000 by omega)) s
    rw [← hF] at this
    exact this.more U
   obtain ⟨tv2,htv2⟩:∃tv2,tv2=if F.1.phase=3 then .nils 12 else AV.osl 23 12 o.tasks.length 0 o.tasks.length:=⟨_,rfl⟩
   have hT:∃tv ts,TvOk o3 tv ts∧ACall Tryz.prog 61 40 [imgA v.x,.agg (rowC o2 tv2)] [(23,.arr 12 (o.tasks.map tskD))] (fun r h'=>r= .agg (rowC o3 tv)∧h'= [(23,.arr 12 ts)]):=by
    by_cases hp3:F.1.phase=3
    ·have e2:o2=zcp o1:=by rw [ho2,zca,if_pos (by rw [ho1];exact hp3)]
     have e3:o3=o2:=by rw [ho3,e2];exact zbz rfl
     rw [if_pos hp3] at htv2
     rw [htv2,e3]
     exact ⟨.nils 12,o.tasks.map tskD,.inr ⟨rfl,by rw [e2];rfl⟩,zr6 v.x o2 _ (by rw [e2];rfl)⟩
    ·have e2:o2=o1:=by rw [ho2,zca,if_neg (by rw [ho1];exact hp3)]
     have t2:o2.tasks=o.tasks:=by rw [e2,ho1]
     rw [if_neg hp3] at htv2
     rw [htv2,ho3,← t2]
     exact ziS v.x o2 (M:=4100000000000000000) h.ok.x hcn U (by rw [e2];exact hle) U
   obtain ⟨tv,ts,htv,hcall⟩:=hT
   refine aw_le ⟨[(3,true,.vp 0 0),(6,true,.vp 1 0),(7,true,.vp 24 0),(8,true,.vp 35 0),(1,true,.d (.int .i64 k))],[(35,.var [.d (.int .i64 F.1.phase),.d (.str F.1.buf),.d (.bool F.1.brief),.d (.bool F.1.chunks),.d (.sl 1 (F.1.metas.map u32D))]),(24,.var (rowC o1 (.osl 23 12 o.tasks.length 0 o.tasks.length))),(23,.arr 12 (o.tasks.map tskD)),(22,.var (pre++(rowO o++post))),(1,.var (img0++ [.nils 8])),(0,.var (imgC v.x++ [.vsl 22 8 0 v.conns.length]))],some []⟩ (by rw [ho1];unfold img0 imgC rowC rowO;simp only [AS.le,leT,leH,zf,AsgK,AV.le,AV.leL,AObj.le,inH,idsT,idsH,AV.ids,AV.idsL,AV.idsR,AObj.ids,lk,hget,go_sem,aeq,aeq.aeqF,simprocAttr,hg]<;>and_intros<;>first|rfl|exact AV.leL_refl _|simp [inH,AV.idsL,AV.ids,hget,hip,hiq,zg]) ?_
   refine znN ⟨[(3,true,.vp 0 0),(6,true,.vp 1 0),(7,true,.vp 24 0),(1,true,.d (.int .i64 k))],[(24,.var (rowC o2 tv2)),(23,.arr 12 (o.tasks.map tskD)),(22,.var (pre++(rowO o++post))),(1,.var (img0++ [.nils 8])),(0,.var (imgC v.x++ [.vsl 22 8 0 v.conns.length]))],some []⟩ ?_ ?_
   ·cases hp3:(F.1.phase==3) with
    |true=>
     have e2:o2=zcp o1:=by rw [ho2,zca,if_pos (by rw [ho1];exact beqP hp3)]
     rw [if_pos (beqP hp3)] at htv2
     rw [e2,htv2]
     unfold img0 imgC rowC rowO
     refine' zaS hp3
     refine (zb4 (zhd o1 (o.tasks.map tskD) o.tasks.length) rfl ⟨rfl,trivial⟩ trivial ⟨rfl,trivial⟩ rfl).mono ?_
     rintro r h' ⟨rfl,rfl⟩
     simp only [go_sem,aeq,aeq.aeqF,simprocAttr,rowC]
     refine' zaS fx
     all_goals first|rfl|exact AV.leL_refl _|simp [inH,AV.idsL,AV.ids,hget,hip,hiq,zg]
    |false=>
     have e2:o2=o1:=by rw [ho2,zca,if_neg (by rw [ho1];exact beqN hp3)]
     rw [if_neg (beqN hp3)] at htv2
     rw [e2,htv2]
     unfold img0 imgC rowC rowO
     refine' zaS hp3
     all_goals first|rfl|exact AV.leL_refl _|simp [inH,AV.idsL,AV.ids,hget,hip,hiq,zg]
   ·unfold img0 imgC rowC rowO
    unfold imgA rowC at hcall
    split at htv2<;>subst htv2
    all_goals
     refine' zxB (ownsL [1000061]) fx
     refine ⟨23,40,.arr 12 (o.tasks.map tskD),_,.arr 12 ts,rfl,ae,by simp [AObj.ids],aD,hcall,?_⟩
     simp only [go_sem,aeq,aeq.aeqF,simprocAttr]
     have hvl:tv= .nils 12∨tv= .osl 23 12 o3.tasks.length 0 o3.tasks.length:=htv.elim (fun e=> .inr e.1) (fun e=> .inl e.1)
     rcases hvl with e|e<;>subst e
     all_goals
      refine' zsM (zN 11) hpl
      all_goals first|rfl|skip
      simp only [go_sem,aeq,aeq.aeqF,simprocAttr,hpl,hn2,hn3,hn4,hn5,hn6,hn7]
      refine aw_le ⟨[(3,true,.vp 0 0),(6,true,.vp 1 0),(1,true,.d (.int .i64 k))],[(23,.arr 12 ts),(22,.var (zO (v.conns.take k)++(rowC o3 _++(zO (v.conns.drop (k+1))++List.replicate m .any)))),(1,.var (img0++ [.nils 8])),(0,.var (imgC v.x++ [.vsl 22 8 0 v.conns.length]))],some []⟩ (by rw [← hpre,← hpost];unfold img0 imgC rowC;simp only [AS.le,leT,leH,zf,AsgK,AV.le,AV.leL,AObj.le,inH,idsT,idsH,AV.ids,AV.idsL,AV.idsR,AObj.ids,lk,hget,go_sem,aeq,aeq.aeqF,simprocAttr,rowC]<;>and_intros<;>first|rfl|exact AV.leL_refl _|simp [inH,AV.idsL,AV.ids,hget,hip,hiq,zg]) (zgH (l:=v.conns) (k:=k) (m:=m) htv U ae ae ae ?_)
      unfold imgC img0
      refine' zaS fx
      rw [hV,hcf]
@[go_sem] noncomputable def zcY:Ent Tryz.prog 24:= .m3 zfA (intT .i64) strT zr9
open Go Go.Proofs
theorem zlG:∀ (l:List Deed) {L M:Nat} {v:Srv},SvOk L v→SvOut M v→L+dlen l≤400000→SvOk (L+dlen l) (zdz v l)∧SvOut (M+10000000000000*l.length) (zdz v l)
 | [],L,M,v,h,ho,hl=>⟨h,ho⟩
 |d::l,L,M,v,h,ho,hl=>by
  have e:dlen (d::l)=d.text.length+dlen l:=by simp [dlen]
  rw [e] at hl
  have h1:=zuO h d U
  have h2:=zlF h ho d U
  obtain ⟨h3,h4⟩:=zlG l h1 h2 U
  rw [e]
  exact ⟨h3.more U,h4.more (by rw [List.length_cons];omega)⟩
theorem zu0 {v:Srv} (h:v.conns= []) (d:Deed):(svDo v d).1=v:=by
 have e:∀c:Int,(if c<0 then none else v.conns[c.toNat]?)=none:=fun c=>by rw [h];split<;>rfl
 unfold svDo zbl zd5 zbr
 rw [e]
 split
 ·rfl
 split<;>rfl
theorem ziT {v:Srv} (h:v.conns= []):∀l:List Deed,zdz v l=v
 | []=>rfl
 |d::l=>by
  show zdz (svDo v d).1 l=v
  rw [zu0 h,ziT h l]
theorem ziU:∀ (l:List Deed) (i:Nat),dlen (l.take i)≤dlen l
 | [],i=>by simp [dlen]
 |d::l,0=>by simp [dlen]
 |d::l,i+1=>by
  have:=ziU l i
  simp only [dlen,List.take_succ_cons,List.map_cons,List.sum_cons] at this ⊢
  omega
theorem zyh {x:Img} (hx:XOk x) (n:Int) (l:List Deed) (hd:dlen l≤400000) (hl:l.length≤300000):SvQ (zdz (svNew x n).1 l):=by
 by_cases hn:n<1∨4<n
 ·have e:(svNew x n).1.conns= []:=by rw [svNew,if_pos hn]
  rw [ziT e,SvQ,e]
  exact ⟨Nat.zero_le _,fun h=>absurd rfl h⟩
 ·have e:(svNew x n).2=0:=by rw [svNew,if_neg hn]
  have h1:=zlx hx n e
  have h2:SvOut 10000 (svNew x n).1:=by
   rw [svNew,if_neg hn]
   intro c hc
   rw [List.eq_of_mem_replicate hc]
   unfold OutOk
   decide
  obtain ⟨h3,h4⟩:=zlG l h1 h2 U
  exact ⟨h3.len,fun _=>⟨h3.more U,h4.more U⟩⟩
theorem zsb (x:Img) (n:Int) (ds:List Deed) (hp:XOk x∧dlen ds≤400000∧ds.length≤300000):AC 13 [imgA x,.d (.int .i64 n),.d (.sl 4 (ds.map deedD))] (.tup [srvA (zdz (svNew x n).1 ds),.d (.bool ((svNew x n).2==0))]):=by
 obtain ⟨hx,hd,hl⟩:=hp
 obtain ⟨v0,hv0⟩:∃v0,v0=(svNew x n).1:=⟨_,rfl⟩
 obtain ⟨er,her⟩:∃er,er=(svNew x n).2:=⟨_,rfl⟩
 have hq:∀l:List Deed,dlen l≤400000→l.length≤300000→SvQ (zdz v0 l):=fun l h1 h2=>by rw [hv0];exact zyh hx n l h1 h2
 obtain ⟨V,hV⟩:∃V,V=zdz v0 ds:=⟨_,rfl⟩
 rw [← hv0,← her,← hV]
 refine fbod Tryz.func13 Tryz.ntmps13 (fun base=>?_)
 refine' walkW (zj hv0.symm her.symm) (za zdD <| za zcY <| za zcZ <| za zcu <| zb _)
 refine zk (fun q: { i:Nat // i≤ds.length } =>⟨[(6,true,.vp 1 0),(8,true,.vp 2 0),(9,true,.d (.int .i64 er)),(18,true,.d (.sl 4 (ds.map deedD))),(19,true,.d (.int .i64 ds.length)),(20,true,.d (.int .i64 q.1))],[(2,.var (imgC (zdz v0 (ds.take q.1)).x++ [.d (.sl 8 ((zdz v0 (ds.take q.1)).conns.map cnD))])),(1,.var (img0++ [.nils 8]))],some []⟩) (fun q=>ds.length - q.1) ⟨0,Nat.zero_le _⟩ dK (fun q=>?_)
 obtain ⟨i,hi⟩:=q
 simp only at hi ⊢
 obtain ⟨W,hW⟩:∃W,W=zdz v0 (ds.take i):=⟨_,rfl⟩
 rw [← hW]
 have hWq:SvQ W:=by rw [hW];exact hq _ (Nat.le_trans (ziU _ _) hd) ax
 unfold imgC img0
 rcases zy deedD ds i hi with ⟨d,hdq,hlt,hcmp,hrow,hdr,htk⟩|⟨hend,hcmp⟩
 ·simp only [deedD] at hrow
  have hwi:=zn (i:=i) U
  have hnx:zdz v0 (ds.take (i+1))=(svDo W d).1:=by rw [htk,hW];exact List.foldl_append ..
  have htl:d.text.length≤400000:=by
   have h1:=ziU (ds.drop i) 1
   have h2:dlen (ds.drop i)≤dlen ds:=by
    conv=>rhs;rw [← List.take_append_drop i ds]
    simp only [dlen,List.map_append,List.sum_append];omega
   rw [hdr] at h1 h2
   simp [dlen] at h1 h2
   simp [dlen] at hd
   omega
  unfold svDo at hnx
  by_cases h0:d.kind=0
  ·have e0:(d.kind==0)=true:=by rw [h0];rfl
   rw [if_pos h0] at hnx
   refine' walkW (zq hcmp hrow e0) (za zdD <| za zcY <| za zcZ <| za zcu <| zb _)
   all_goals first|omega|skip
   exact ⟨⟨i+1,U⟩,cT,af⟩
  ·have e0:(d.kind==0)=false:=by simpa using h0
   rw [if_neg h0] at hnx
   by_cases h1:d.kind=1
   ·have e1:(d.kind==1)=true:=by rw [h1];rfl
    rw [if_pos h1] at hnx
    refine' walkW (zE hcmp hrow e0 e1) (za zdD <| za zcY <| za zcZ <| za zcu <| zb _)
    all_goals first|omega|skip
    exact ⟨⟨i+1,U⟩,cT,af⟩
   ·have e1:(d.kind==1)=false:=by simpa using h1
    rw [if_neg h1] at hnx
    refine' walkW (zE hcmp hrow e0 e1) (za zdD <| za zcY <| za zcZ <| za zcu <| zb _)
    all_goals first|omega|skip
    exact ⟨⟨i+1,U⟩,cT,af⟩
 ·subst hend
  rw [List.take_length] at hW
  refine' walkW hcmp (za zdD <| za zcY <| za zcZ <| za zcu <| zb _)
  rw [hV,hW]
@[go_sem] noncomputable def zdT:Ent Tryz.prog 13:= .m3 zbk (intT .i64) (slT 4 deedD ziC) zsb
end Go.Aw
