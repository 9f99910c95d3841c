/-
 The document's server: a step of a request.
-/
import Derived.Test.YtgldbfelccddbaaGreatPart36
import Derived.Test.YtgldbfelccddbaaGreatPart30
set_option maxRecDepth 100000
set_option maxHeartbeats 2000000
set_option linter.unusedSimpArgs false
set_option linter.unusedVariables false
namespace Go.Aw
open Go Go.Proofs
theorem zsa (v:Srv) (c i:Int) (hq:SvQ v):AC 25 [srvA v,.d (.int .i64 c),.d (.int .i64 i)] (srvA (zd5 v c i)):=by
 obtain ⟨V,hV⟩:∃V,V=zd5 v c i:=⟨_,rfl⟩
 rw [← hV]
 unfold zd5 at hV
 have hcl:=hq.1
 by_cases hb:c<0∨(v.conns.length:Int)≤c
 ·have hn:(if c<0 then none else v.conns[c.toNat]?)=none:=by
   split
   ·rfl
   ·exact List.getElem?_eq_none U
  rw [hn] at hV
  have hbd:(decide (0≤c)&&decide (c<(v.conns.length:Int)))=false:=cV
  refine fbod Tryz.func25 Tryz.ntmps25 (fun base=>?_)
  refine' zc fx
  refine (zaJ (zcJ v c U)).mono ?_
  rintro r h' ⟨rfl,rfl⟩
  rw [hbd]
  simp only [go_sem,aeq,aeq.aeqF,simprocAttr]
  refine' zc fx
  rw [hV]
 ·obtain ⟨k,rfl⟩:∃k:Nat,c=k:=⟨c.toNat,U⟩
  obtain ⟨o,ho⟩:∃o,v.conns[k]?=some o:=⟨_,List.getElem?_eq_getElem U⟩
  have hn:(if (k:Int)<0 then none else v.conns[(k:Int).toNat]?)=some o:=bA
  rw [hn] at hV
  simp only [Int.toNat_natCast] at hV
  have hmo:=List.mem_of_getElem? ho
  have h:=hq.2 (List.ne_nil_of_mem hmo)
  have hco:=h.ok.conn o hmo
  have hbd:(decide (0≤(k:Int))&&decide ((k:Int)<(v.conns.length:Int)))=true:=cW
  have hpl:k*8=(zO (v.conns.take k)).length:=bQ
  have hrow:(v.conns.map cnD).getD k []= [.int .i64 o.n.phase,.str o.n.buf,.bool o.n.brief,.bool o.n.chunks,.sl 1 (o.n.metas.map u32D),.sl 12 (o.tasks.map tskD),.str o.out,.bool o.gone]:=ew
  refine fbod Tryz.func25 Tryz.ntmps25 (fun base=>?_)
  refine' zc fx
  refine (zaJ (zcJ v k U)).mono ?_
  rintro r h' ⟨rfl,rfl⟩
  rw [hbd]
  simp only [go_sem,aeq,aeq.aeqF,simprocAttr]
  by_cases hbi:i<0∨(o.tasks.length:Int)≤i
  ·have hn2:(if i<0 then none else o.tasks[i.toNat]?)=none:=by
    split
    ·rfl
    ·exact List.getElem?_eq_none U
   rw [hn2] at hV
   by_cases hi0:i<0
   ·have e0:decide (i<0)=true:=decide_eq_true hi0
    refine' zc e0
    all_goals first|(rw [e0] at hc;cases hc;done)|(rw [hV];done)
   ·have e0:decide (i<0)=false:=decide_eq_false hi0
    have e1:decide ((o.tasks.length:Int)≤i)=true:=decide_eq_true U
    refine' zc (zj e0 e1)
    all_goals first|(rw [hrow];rfl)|(rw [hrow];simp;done)|(rw [hV];done)|skip
    rw [hrow] at hc
    replace hc:(decide (i<0)||decide (((o.tasks.map tskD).length:Int)≤i))=false:=hc
    rw [List.length_map,e0,e1] at hc
    cases hc
  ·obtain ⟨j,rfl⟩:∃j:Nat,i=j:=⟨i.toNat,U⟩
   obtain ⟨t,ht⟩:∃t,o.tasks[j]?=some t:=⟨_,List.getElem?_eq_getElem U⟩
   have hn2:(if (j:Int)<0 then none else o.tasks[(j:Int).toNat]?)=some t:=by rw [if_neg U,Int.toNat_natCast];exact ht
   rw [hn2] at hV
   simp only [Int.toNat_natCast] at hV
   have hmt:=List.mem_of_getElem? ht
   obtain ⟨t1,t2,t3⟩:=hco.tsk t hmt
   obtain ⟨T,hT⟩:∃T,T=tstep v.x t o.n.metas:=⟨_,rfl⟩
   rw [← hT] at hV
   have e0:decide ((j:Int)<0)=false:=decide_eq_false U
   have e1:decide ((o.tasks.length:Int)≤j)=false:=decide_eq_false U
   have hrow1:(o.tasks.map tskD).getD j []= [.int .i64 t.q.flags,.int .i64 t.q.kind,.int .u64 t.q.cookie,.int .u64 t.q.frm,.int .u32 t.q.len,.str t.q.data,.sl 3 (t.cuts.map cutD),.int .i64 t.loc,.int .u32 t.err,.str t.data,.sl 2 (t.spans.map spnD),.bool t.done]:=zbJ ht
   have htk:=t2.ok t3
   have hml:o.n.metas.length≤1000:=by have:=hco.ms.1;omega
   have hmr:∀m∈o.n.metas,0≤m∧m<4294967296:=fun m hm=>by have:=hco.ms.2 m hm;omega
   have hjl:j<o.tasks.length:=U
   have hjl2:(o.tasks.map tskD).length=o.tasks.length:=List.length_map ..
   refine' zc (zj e0 e1)
   all_goals first|(rw [hrow];rfl)|(rw [hrow];simp;done)|(rw [e0] at hc;cases hc;done)|skip
   ·rw [hrow] at hc
    replace hc:(decide ((j:Int)<0)||decide (((o.tasks.map tskD).length:Int)≤j))=true:=hc
    rw [List.length_map,e0,e1] at hc
    cases hc
   clear hc
   refine ((zo6 v k o ho U (fun o ho=>dj)).own rfl rfl ae dk).mono ?_
   rintro r h' ⟨h1,⟨m,rfl,rfl⟩,rfl⟩
   obtain ⟨pre,hpre⟩:∃pre,pre=zO (v.conns.take k):=⟨_,rfl⟩
   obtain ⟨post,hpost⟩:∃post,post=zO (v.conns.drop (k+1))++List.replicate m .any:=⟨_,rfl⟩
   rw [← hpre,← hpost]
   rw [← hpre] at hpl
   have hip:AV.idsL pre= []:=by rw [hpre];exact zbc
   have hiq:AV.idsL post= []:=by rw [hpost,zg,zbc,zaZ];rfl
   have hn2:pre.length+1+1=pre.length+2:=rfl
   have hn3:pre.length+2+1=pre.length+3:=rfl
   have hn4:pre.length+3+1=pre.length+4:=rfl
   have hn5:pre.length+4+1=pre.length+5:=rfl
   have hn6:pre.length+5+1=pre.length+6:=rfl
   have hn7:pre.length+6+1=pre.length+7:=rfl
   unfold imgC rowO
   simp only [go_sem,aeq,aeq.aeqF,simprocAttr]
   refine' zga (zN 8) (zo hpl hrow1 hT.symm hjl2 hn2 (zj hn3 hn4)) (za znd <| zb _)
   obtain ⟨g1,g2⟩:=IF.step h.ok.x.img t o.n.metas
   rw [← hT] at g1 g2
   have hxo:=h.ok.x.step g2 g1
   have hss:(o.tasks.set j T.2).length=o.tasks.length:=List.length_set ..
   obtain ⟨o1,ho1⟩:∃o1:Cn,o1= { o with tasks:=o.tasks.set j T.2 } :=⟨_,rfl⟩
   refine aw_le ⟨[(3,true,.vp 0 0),(6,true,.vp 1 0),(7,true,.vp 24 0),(9,true,.vp 40 0),(1,true,.d (.int .i64 k)),(2,true,.d (.int .i64 j))],[(40,.var [.d (.int .i64 T.2.q.flags),.d (.int .i64 T.2.q.kind),.d (.int .u64 T.2.q.cookie),.d (.int .u64 T.2.q.frm),.d (.int .u32 T.2.q.len),.d (.str T.2.q.data),.d (.sl 3 (T.2.cuts.map cutD)),.d (.int .i64 T.2.loc),.d (.int .u32 T.2.err),.d (.str T.2.data),.d (.sl 2 (T.2.spans.map spnD)),.d (.bool T.2.done)]),(24,.var (rowO o)),(23,.arr 12 ((o.tasks.set j T.2).map tskD)),(22,.var (pre++(rowO o++post))),(1,.var (img0++ [.nils 8])),(0,.var (imgC T.1++ [.vsl 22 8 0 v.conns.length]))],some []⟩ (by unfold img0 imgC rowO;simp only [AS.le,leT,leH,zf,AsgK,AV.le,AV.leL,AObj.le,inH,idsT,idsH,AV.ids,AV.idsL,AV.idsR,AObj.ids,lk,hget,go_sem,aeq,aeq.aeqF,simprocAttr,rowC,List.map_set]<;>and_intros<;>first|rfl|exact AV.leL_refl _|simp [inH,AV.idsL,AV.ids,hget,hip,hiq,zg]) ?_
   cases hdn:T.2.done with
   |false=>
    have hVs:V=⟨T.1,v.conns.set k o1⟩:=by rw [hV,zhx,hdn];simp only [Bool.false_eq_true,if_false,ho1]
    unfold img0 imgC rowO
    refine' zad (zN 15) (zo hdn hpl hn2 hn3 hn4 (zq hn5 hn6 hn7))
    refine aw_le ⟨[(3,true,.vp 0 0),(6,true,.vp 1 0),(1,true,.d (.int .i64 k))],[(23,.arr 12 ((o.tasks.set j T.2).map tskD)),(22,.var (zO (v.conns.take k)++(rowC o1 (.osl 23 12 o.tasks.length 0 o.tasks.length)++(zO (v.conns.drop (k+1))++List.replicate m .any)))),(1,.var (img0++ [.nils 8])),(0,.var (imgC T.1++ [.vsl 22 8 0 v.conns.length]))],some []⟩ (by rw [← hpre,← hpost,ho1];unfold img0 imgC rowC;simp only [AS.le,leT,leH,zf,AsgK,AV.le,AV.leL,AObj.le,inH,idsT,idsH,AV.ids,AV.idsL,AV.idsR,AObj.ids,lk,hget,go_sem,aeq,aeq.aeqF,simprocAttr,rowC]<;>and_intros<;>first|rfl|exact AV.leL_refl _|simp [inH,AV.idsL,AV.ids,hget,hip,hiq,zg]) (zgH (l:=v.conns) (k:=k) (m:=m) (by rw [ho1];exact .inl ⟨by simp only [hss],rfl⟩) U ae ae ae ?_)
    unfold imgC img0
    refine' zc fx
    rw [hVs]
   | true=>
    have hts:=t2.step v.x o.n.metas hco.ms.1
    rw [← hT] at hts
    have hsp:=zj3 (x:=v.x) (t:=t) hmr (by rw [(t2.fresh t1).1];exact SpR.nil)
    rw [← hT] at hsp
    have hts2:=(hts.ts (t3.step g2 g1) hsp).1
    obtain ⟨R,hR⟩:∃R,R=zeZ T.2 o.n.chunks:=⟨_,rfl⟩
    have hRl:=zha T.2 o.n.chunks
    rw [← hR] at hRl
    have hsl:=hts.spans
    have hoo:=h.out o hmo
    unfold OutOk at hoo
    unfold img0 imgC rowO
    have hTe:(⟨T.2.q,T.2.cuts,T.2.loc,T.2.err,T.2.data,T.2.spans,true⟩:Tsk)=T.2:=by rw [← hdn]
    rw [← hTe] at hts2 hR
    refine' zga (zN 10) (zo hdn hpl hR.symm hn2 hn3 hn4) (za zls <| zb _)
    obtain ⟨X,hX⟩:∃X,X=(o.tasks.set j T.2).map tskD:=⟨_,rfl⟩
    have hXl:X.length=o.tasks.length:=by rw [hX,List.length_map,hss]
    refine aw_le ⟨[(3,true,.vp 0 0),(6,true,.vp 1 0),(7,true,.vp 24 0),(1,true,.d (.int .i64 k)),(2,true,.d (.int .i64 j))],[(24,.var (rowC { o with out:=o.out++R } (.osl 23 12 o.tasks.length 0 o.tasks.length))),(23,.arr 12 X),(22,.var (pre++(rowO o++post))),(1,.var (img0++ [.nils 8])),(0,.var (imgC T.1++ [.vsl 22 8 0 v.conns.length]))],some []⟩ (by rw [hX];unfold img0 imgC rowO;simp only [AS.le,leT,leH,zf,AsgK,AV.le,AV.leL,AObj.le,inH,idsT,idsH,AV.ids,AV.idsL,AV.idsR,AObj.ids,lk,hget,go_sem,aeq,aeq.aeqF,simprocAttr,rowC]<;>and_intros<;>first|rfl|exact AV.leL_refl _|simp [inH,AV.idsL,AV.ids,hget,hip,hiq,zg]) ?_
    have hP:∀f,AV.trL (onI 23 f) pre=pre:=fun f=>zct pre (by rw [hip];simp)
    have hS:∀f,AV.trL (onI 23 f) post=post:=fun f=>zct post (by rw [hiq];simp)
    refine zbh 23 rfl ?_
    unfold img0 imgC rowO
    simp only [go_sem,aeq,aeq.aeqF,simprocAttr,rowC,hP,hS,hXl,List.take_of_length_le]
    have hidx:IntKind.i64.wrap ((j:Int)+1)=((j+1:Nat):Int):=zn bY
    refine' zad (zN 11) fx
    refine zrW 23 10 12 rfl (Nat.zero_le _) rfl ?_
    simp only [go_sem,aeq,aeq.aeqF,simprocAttr]
    have hE:X.take j++(X.take o.tasks.length).drop (j+1)=(o.tasks.eraseIdx j).map tskD:=by
     have hE0:X.take o.tasks.length=X:=List.take_of_length_le U
     rw [hE0,hX,← List.map_take,← List.map_drop,← List.map_append,List.take_set_of_le (Nat.le_refl _),List.drop_set_of_lt U,← List.eraseIdx_eq_take_drop_succ]
    have hel:(o.tasks.eraseIdx j).length=o.tasks.length - 1:=List.length_eraseIdx_of_lt hjl
    have hAB:(X.take j).length+((X.take o.tasks.length).drop (j+1)).length=(o.tasks.eraseIdx j).length:=by rw [← List.length_append,hE,List.length_map]
    have ht8:=hco.tasks
    refine' zad (zN 13) (zj hidx hXl)
    all_goals first|omega|skip
    obtain ⟨o2,ho2⟩:∃o2:Cn,o2= { o with tasks:=o.tasks.eraseIdx j,out:=o.out++R } :=⟨_,rfl⟩
    have hcn:CnOk 400000 T.1 o2:=by
     rw [ho2]
     refine ⟨hco.phase,hco.buf,hco.ms,by simp only [hel];omega,fun u hu=>?_,fun _=>hco.data (fun e=>by rw [e] at hmt;cases hmt)⟩
     have:=hco.tsk u (ze8 hu)
     exact ⟨this.1,this.2.1,this.2.2.step g2 g1⟩
    have hRl2:R.length≤5000*(T.2.spans.length+1):=hRl
    have hou:OutOk 4100000000000000000 o2:=by
     rw [ho2]
     unfold OutOk
     simp only [List.length_append]
     omega
    obtain ⟨tv,ts,htv,hcall⟩:=ziS T.1 o2 (M:=4100000000000000000) hxo hcn U hou U
    refine aw_le ⟨[(3,true,.vp 0 0),(6,true,.vp 1 0),(7,true,.vp 24 0),(1,true,.d (.int .i64 k))],[(24,.var (rowC o2 (.osl 23 12 o2.tasks.length 0 o2.tasks.length))),(23,.arr 12 (o2.tasks.map tskD)),(22,.var (pre++(rowC o .any++post))),(1,.var (img0++ [.nils 8])),(0,.var (imgC T.1++ [.vsl 22 8 0 v.conns.length]))],some []⟩ (by rw [ho2,← hE,← hAB];unfold img0 imgC;simp only [AS.le,leT,leH,zf,AsgK,AV.le,AV.leL,AObj.le,inH,idsT,idsH,AV.ids,AV.idsL,AV.idsR,AObj.ids,lk,hget,go_sem,aeq,aeq.aeqF,simprocAttr,rowC]<;>and_intros<;>first|rfl|exact AV.leL_refl _|(refine zlA (AV.leL_refl _) ?_;simp [AV.leL,AV.le,AV.leL_refl])|simp [inH,AV.idsL,AV.ids,hget,hip,hiq,zg]) ?_
    unfold img0 imgC
    simp only [go_sem,aeq,aeq.aeqF,simprocAttr,rowC]
    refine' zc fx
    unfold imgA rowC at hcall
    refine (zb4 hcall rfl ⟨rfl,trivial⟩ trivial ⟨rfl,trivial⟩ rfl).mono ?_
    rintro r h' ⟨rfl,rfl⟩
    have hvl:tv= .nils 12∨tv= .osl 23 12 (zal (128*T.1.geom.guest) o2).tasks.length 0 (zal (128*T.1.geom.guest) o2).tasks.length:=htv.elim (fun e=> .inr e.1) (fun e=> .inl e.1)
    rcases hvl with e|e<;>subst e
    all_goals
     simp only [go_sem,aeq,aeq.aeqF,simprocAttr]
     refine' zad (zN 15) (zo hpl hn2 hn3 hn4 hn5 (zj hn6 hn7))
     all_goals first|rfl|skip
     refine aw_le ⟨[(3,true,.vp 0 0),(6,true,.vp 1 0),(1,true,.d (.int .i64 k))],[(23,.arr 12 ts),(22,.var (zO (v.conns.take k)++(rowC (zal (128*T.1.geom.guest) o2) _++(zO (v.conns.drop (k+1))++List.replicate m .any)))),(1,.var (img0++ [.nils 8])),(0,.var (imgC T.1++ [.vsl 22 8 0 v.conns.length]))],some []⟩ (by rw [← hpre,← hpost];unfold img0 imgC;simp only [AS.le,leT,leH,zf,AsgK,AV.le,AV.leL,AObj.le,inH,idsT,idsH,AV.ids,AV.idsL,AV.idsR,AObj.ids,lk,hget,go_sem,aeq,aeq.aeqF,simprocAttr,rowC]<;>and_intros<;>first|rfl|exact AV.leL_refl _|simp [inH,AV.idsL,AV.ids,hget,hip,hiq,zg]) (zgH (l:=v.conns) (k:=k) (m:=m) htv U ae ae ae ?_)
     unfold imgC img0
     refine' zc fx
     rw [hV,zhx,if_pos hdn,ho2,hR,hTe]
@[go_sem] noncomputable def zcZ:Ent Tryz.prog 25:= .m3 zfA (intT .i64) (intT .i64) zsa
end Go.Aw
