/-
 Parts of the proof: lemmas.
-/
import Derived.Test.YtgldbfelccddbaaGreatPart37
import Derived.Test.YtgldbfelccddbaaGreatPart39
set_option maxRecDepth 100000
set_option maxHeartbeats 2000000
set_option linter.unusedSimpArgs false
set_option linter.unusedVariables false
namespace Go.Aw
open Go Go.Proofs
def flSv (v:Srv) (k j:Nat):Bool:=match v.conns[k]? with
 |none=>false
 |some o=>match o.tasks[j]? with
  |none=>false
  |some t=>t.q.kind==3&& !t.done&&t.cuts== []&&t.loc==0&&o.n.chunks
theorem zr0 (v:Srv) (c i:Int) (hp:SvB v∧0≤c∧0≤i∧flSv v c.toNat i.toNat=true):AC 17 [srvA v,.d (.int .i64 c),.d (.int .i64 i)] (srvA (zd5 v c i)):=by
 obtain ⟨h,h0,h1,hf⟩:=hp
 obtain ⟨k,rfl⟩:∃k:Nat,c=k:=⟨c.toNat,U⟩
 obtain ⟨j,rfl⟩:∃j:Nat,i=j:=⟨i.toNat,U⟩
 rw [Int.toNat_natCast,Int.toNat_natCast] at hf
 obtain ⟨V,hV⟩:∃V,V=zd5 v k j:=⟨_,rfl⟩
 rw [← hV]
 unfold zd5 at hV
 have hcl:=h.ok.len
 unfold flSv at hf
 obtain ⟨o,ho⟩:∃o,v.conns[k]?=some o:=by
  cases he:v.conns[k]? with
  |none=>rw [he] at hf;cases hf
  |some o=>exact ⟨o,rfl⟩
 rw [ho] at hf
 obtain ⟨t,ht⟩:∃t,o.tasks[j]?=some t:=by
  cases he:o.tasks[j]? with
  |none=>simp only [he] at hf;cases hf
  |some t=>exact ⟨t,rfl⟩
 simp only [ht,Bool.and_eq_true,beq_iff_eq,Bool.not_eq_true'] at hf
 obtain ⟨⟨⟨⟨hf1,hf2⟩,hf3⟩,hf4⟩,hf5⟩:=hf
 have hfl:FlOk t:=⟨hf1,hf2,hf3,hf4⟩
 have hn:(if (k:Int)<0 then none else v.conns[(k:Int).toNat]?)=some o:=bA
 rw [hn] at hV
 have hn2:(if (j:Int)<0 then none else o.tasks[j]?)=some t:=by rw [if_neg U];exact ht
 simp only [Int.toNat_natCast,hn2] at hV
 have hkl:=(List.getElem?_eq_some_iff.1 ho).1
 have hjl:=(List.getElem?_eq_some_iff.1 ht).1
 have hmo:=List.mem_of_getElem? ho
 have hco:=h.ok.conn o hmo
 have hbg:=zg9 v k o ho U bY
 obtain ⟨pre,hpre⟩:∃pre,pre=((v.conns.take k).map cnD).flatten.map AV.d:=⟨_,rfl⟩
 rw [← hpre] at hbg
 have hip:AV.idsL pre= []:=cH
 refine fbod Tryz.func17 Tryz.ntmps17 (fun base=>?_)
 refine' zc fx
 refine (hbg.own rfl rfl ae dq).mono ?_
 rintro r h' ⟨h1,⟨m,rfl,rfl⟩,rfl⟩
 obtain ⟨post,hpost⟩:∃post,post=((v.conns.drop (k+1)).map cnD).flatten.map AV.d++List.replicate m .any:=⟨_,rfl⟩
 rw [← hpost]
 have hiq:AV.idsL post= []:=cG
 simp only [go_sem,aeq,aeq.aeqF,simprocAttr]
 have hmt:=List.mem_of_getElem? ht
 obtain ⟨t1,t2,t3⟩:=hco.tsk t hmt
 obtain ⟨T,hT⟩:∃T,T=tstep v.x t o.n.metas:=⟨_,rfl⟩
 have hT0:=hfl.step (x:=v.x) (ms:=o.n.metas)
 rw [← hT] at hV hT0
 have hdn:T.2.done=true:=by rw [hT0];simp only;split<;>rfl
 have hkq:T.2.q.kind=3:=by rw [hT0];simp only;split<;>exact hf1
 have e0:decide ((j:Int)<0)=false:=decide_eq_false U
 have e1:decide ((o.tasks.length:Int)≤j)=false:=decide_eq_false U
 have hrow:(o.tasks.map tskD).getD j []= [.int .i64 t.q.flags,.int .i64 t.q.kind,.int .u64 t.q.cookie,.int .u64 t.q.frm,.int .u32 t.q.len,.str t.q.data,.sl 3 (t.cuts.map cutD),.int .i64 t.loc,.int .u32 t.err,.str t.data,.sl 2 (t.spans.map spnD),.bool t.done]:=zbJ ht
 have himg:=h.ok.x.img
 have hmr:∀m∈o.n.metas,0≤m∧m<4294967296:=fun m hm=>by have:=hco.ms.2 m hm;omega
 have hjl2:(o.tasks.map tskD).length=o.tasks.length:=List.length_map ..
 refine' zga (zN 6) (zaB e0 e1 hrow hT.symm hjl2) (za zo8 <| zb _)
 obtain ⟨g1,g2⟩:=IF.step h.ok.x.img t o.n.metas
 rw [← hT] at g1 g2
 have hxo:=h.ok.x.step g2 g1
 have hss:(o.tasks.set j T.2).length=o.tasks.length:=List.length_set ..
 have hrow2:((o.tasks.set j T.2).map tskD).getD j []= [.int .i64 T.2.q.flags,.int .i64 T.2.q.kind,.int .u64 T.2.q.cookie,.int .u64 T.2.q.frm,.int .u32 T.2.q.len,.str T.2.q.data,.sl 3 (T.2.cuts.map cutD),.int .i64 T.2.loc,.int .u32 T.2.err,.str T.2.data,.sl 2 (T.2.spans.map spnD),.bool T.2.done]:=zbJ (List.getElem?_set_self hjl)
 have hrl2:((o.tasks.set j T.2).map tskD).length=o.tasks.length:=by rw [List.length_map,hss]
 obtain ⟨o1,ho1⟩:∃o1:Cn,o1= { o with tasks:=o.tasks.set j T.2 } :=⟨_,rfl⟩
 refine aw_le ⟨[(2,true,.d (.int .i64 j)),(6,true,.vp 1 0),(7,true,.vp 21 0),(9,true,.ap 34 o.tasks.length 12 j 0)],swH ⟨T.1,v.conns.length,pre,o1,post,.osl 34 12 o.tasks.length 0 o.tasks.length,(o.tasks.set j T.2).map tskD⟩++ [(1,.var (img0++ [.nils 8]))],some []⟩ (by rw [ho1];unfold img0;simp only [AS.le,leT,leH,zf,AsgK,AV.le,AV.leL,AObj.le,inH,idsT,idsH,AV.ids,AV.idsL,AV.idsR,AObj.ids,lk,hget,go_sem,aeq,aeq.aeqF,simprocAttr,rowC,swC,List.map_set]<;>and_intros<;>first|rfl|exact AV.leL_refl _|simp [inH,AV.idsL,AV.ids,hget,hip,hiq,zg]) ?_
 have hts:=t2.step v.x o.n.metas hco.ms.1
 rw [← hT] at hts
 have hsp:=zj3 (x:=v.x) (t:=t) hmr (by rw [(t2.fresh t1).1];exact SpR.nil)
 rw [← hT] at hsp
 have hts2:=(hts.ts (t3.step g2 g1) hsp).1
 obtain ⟨R,hR⟩:∃R,R=zeZ T.2 o.n.chunks:=⟨_,rfl⟩
 have hRl:=zha T.2 o.n.chunks
 rw [← hR] at hRl
 have hsl:=hts.spans
 have hoo:=h.out o hmo
 unfold OutOk at hoo
 rw [ho1]
 refine' zad (zN 7) (zq hrow2 hrl2 hdn)
 refine' zga (zN 8) (zq hrow2 hrl2 hR.symm) (za znm <| zb _)
 have hidx:IntKind.i64.wrap ((j:Int)+1)=((j+1:Nat):Int):=zn bY
 have hdl:=zwM (o.tasks.set j T.2) j (by rw [hss];exact hjl) (by rw [hss];have:=hco.tasks;omega)
 rw [hss] at hdl
 refine' zfQ (ownsL [1000052]) hidx
 refine ⟨34,40,.arr 12 ((o.tasks.set j T.2).map tskD),_,_,rfl,ae,by simp [AObj.ids],aD,hdl,?_⟩
 simp only [go_sem,aeq,aeq.aeqF,simprocAttr]
 refine' zad (zN 9) fx
 have her:(o.tasks.set j T.2).eraseIdx j=o.tasks.eraseIdx j:=by
  rw [List.eraseIdx_eq_take_drop_succ,List.eraseIdx_eq_take_drop_succ,List.take_set_of_le (Nat.le_refl _),List.drop_set_of_lt U]
 have hel:(o.tasks.eraseIdx j).length=o.tasks.length - 1:=List.length_eraseIdx_of_lt hjl
 have hel2:o.tasks.length=o.tasks.length - 1+1:=U
 obtain ⟨n1,hn1⟩:∃n1,n1=o.tasks.length - 1:=⟨_,rfl⟩
 rw [← hn1] at hel hel2
 obtain ⟨o2,ho2⟩:∃o2:Cn,o2= { o with tasks:=o.tasks.eraseIdx j,out:=o.out++R } :=⟨_,rfl⟩
 refine aw_le ⟨[(2,true,.d (.int .i64 j)),(6,true,.vp 1 0),(7,true,.vp 21 0)],swH ⟨T.1,v.conns.length,pre,o2,post,.osl 34 12 (n1+1) 0 n1,(o.tasks.eraseIdx j).map tskD++ [tskZ]⟩++ [(1,.var (img0++ [.nils 8]))],some []⟩ (by rw [ho2,← hel2,hn1];unfold img0;simp only [AS.le,leT,leH,zf,AsgK,AV.le,AV.leL,AObj.le,inH,idsT,idsH,AV.ids,AV.idsL,AV.idsR,AObj.ids,lk,hget,go_sem,aeq,aeq.aeqF,simprocAttr,rowC,swC,her]<;>and_intros<;>first|rfl|exact AV.leL_refl _|simp [inH,AV.idsL,AV.ids,hget,hip,hiq,zg]) ?_
 have hP:∀f,AV.trL (onI 34 f) pre=pre:=fun f=>zct pre (by rw [hip];simp)
 have hS:∀f,AV.trL (onI 34 f) post=post:=fun f=>zct post (by rw [hiq];simp)
 refine zuS 34 (xs:=(o.tasks.eraseIdx j).map tskD) (ys:= [tskZ]) rfl aa (by rw [List.length_map,hel];have:=hco.tasks;simp only [List.length_singleton];omega) bM ?_
 unfold img0
 simp only [go_sem,aeq,aeq.aeqF,simprocAttr,hP,hS,List.length_map,hel]
 obtain ⟨σ2,hσ2⟩:∃σ2:SW,σ2=⟨T.1,v.conns.length,pre,o2,post,.osl 34 12 n1 0 n1,(o.tasks.eraseIdx j).map tskD⟩:=⟨_,rfl⟩
 have hso2:SwOk σ2:=by rw [hσ2];exact ⟨hip,hiq,.inl ⟨by rw [ho2];simp only [hel],by rw [ho2]⟩,by rw [ho2];have:=hco.tasks;simp only [hel];omega⟩
 have hx2:σ2.x=T.1:=by rw [hσ2]
 have hcn:CnOk 400000 σ2.x σ2.o:=by
  rw [hσ2,ho2]
  refine ⟨hco.phase,hco.buf,hco.ms,by simp only [hel];have:=hco.tasks;omega,fun u hu=>?_,fun _=>hco.data (fun e=>by rw [e] at hmt;cases hmt)⟩
  have:=hco.tsk u (ze8 hu)
  exact ⟨this.1,this.2.1,this.2.2.step g2 g1⟩
 have hou:OutOk 4100000000000000000 σ2.o:=by
  rw [hσ2,ho2]
  unfold OutOk
  simp only [List.length_append]
  omega
 refine aw_le ⟨[(2,true,.d (.int .i64 j)),(6,true,.vp 1 0),(7,true,.vp 21 0)],swH σ2++ [(1,.var (img0++ [.nils 8]))],some []⟩ (by rw [hσ2];unfold img0;simp only [AS.le,leT,leH,zf,AsgK,AV.le,AV.leL,AObj.le,inH,idsT,idsH,AV.ids,AV.idsL,AV.idsR,AObj.ids,lk,hget,go_sem,aeq,aeq.aeqF,simprocAttr,rowC,swC]<;>and_intros<;>first|rfl|exact AV.leL_refl _|simp [inH,AV.idsL,AV.ids,hget,hip,hiq,zg]) ?_
 refine' zc fx
 refine (sw_at (K:=fun r s'=>r= .tup []∧TkG σ2 s') hso2 ((zni σ2 hso2 (by rw [hx2];exact hxo) hcn U hou U).mono ?_) rfl rfl U).mono ?_
 ·rintro r h' ⟨h1,s',h2,h3⟩
  exact ⟨s',⟨h1,h2⟩,h3⟩
 rintro r h' ⟨s',⟨rfl,hG⟩,rfl⟩
 refine' zad (zN 10) fx
 have hcf:V=⟨T.1,v.conns.set k s'.o⟩:=by
  rw [hV,zhx,hdn,hG.o,hx2,hσ2,ho2,hR]
  rfl
 refine aw_le ⟨[(6,true,.vp 1 0),(7,true,.vp 21 0),(2,true,.d (.int .i64 j))],swH s'++ [(1,.var (img0++ [.nils 8]))],some []⟩ (by unfold img0;simp only [AS.le,leT,leH,zf,AsgK,AV.le,AV.leL,AObj.le,inH,idsT,idsH,AV.ids,AV.idsL,AV.idsR,AObj.ids,lk,hget,go_sem,aeq,aeq.aeqF,simprocAttr,rowC,swC]<;>and_intros<;>first|rfl|exact AV.leL_refl _|(rcases hG.ok.t with ⟨e,_⟩|⟨e,_⟩<;>simp [inH,AV.idsL,AV.ids,e,hget,hG.ok.p,hG.ok.q,zg])) ?_
 refine zlB (l:=v.conns) (k:=k) (m:=m) hG.ok U (by rw [hG.k,hσ2]) (by rw [hG.pre,hσ2,hpre];rfl) (by rw [hG.post,hσ2,hpost];rfl) ae ae ae ?_
 unfold imgC img0
 refine' zc fx
 rw [hcf,hG.x,hx2]
@[go_sem] noncomputable def zhE:Ent Tryz.prog 17:= .m3 zfA (intT .i64) (intT .i64) zr0
open Go Go.Proofs
theorem zwO:XOk csmall:=XOk.of csmall_ok.ok aF
def aw1:Srv:=⟨csmall,aw1l⟩
theorem aw1_ok:SvOk 0 aw1:=zlx (x:=csmall) zwO 1 rfl
theorem aw1_b:SvB aw1:=⟨aw1_ok.more U,fun c hc=>by
 rw [List.mem_singleton.1 hc]
 unfold OutOk
 decide⟩
def awT:Txt:= [0,0,0,3,73,72,65,86,69,79,80,84,0,0,0,8,0,0,0,0,73,72,65,86,69,79,80,84,0,0,0,7,0,0,0,6,0,0,0,0,0,0,37,96,149,19,0,0,0,3,0,0,0,0,0,0,0,9,0,0,0,0,0,0,0,0,0,0,0,0]
def aw2:Srv:=(zbr aw1 0).1
def aw3:Srv:=zbl aw2 0 awT
def aw4:Srv:=(zbr aw3 0).1
def aw5:Srv:=zd5 aw4 0 0
theorem aw_do {L M:Nat} {v:Srv} (h:SvOk L v∧SvOut M v) (d:Deed) (hL:L+d.text.length≤800000):SvOk (L+d.text.length) (svDo v d).1∧SvOut (M+10000000000000) (svDo v d).1:=⟨zuO h.1 d U,zlF h.1 h.2 d hL⟩
theorem zy3:SvOk 0 aw1∧SvOut 4000000000000 aw1:=⟨aw1_ok,fun c hc=>by
 rw [List.mem_singleton.1 hc]
 unfold OutOk
 decide⟩
theorem aw2_do:SvOk 0 aw2∧SvOut 14000000000000 aw2:=aw_do zy3 ⟨2,0,0,[]⟩ ae
theorem aw3_do:SvOk 70 aw3∧SvOut 24000000000000 aw3:=aw_do aw2_do ⟨0,0,0,awT⟩ ae
theorem aw4_do:SvOk 70 aw4∧SvOut 34000000000000 aw4:=aw_do aw3_do ⟨2,0,0,[]⟩ ae
theorem aw5_do:SvOk 70 aw5∧SvOut 44000000000000 aw5:=aw_do aw4_do ⟨1,0,0,[]⟩ ae
theorem aw2_b:SvB aw2:=⟨aw2_do.1.more ae,aw2_do.2.more ae⟩
theorem aw3_b:SvB aw3:=⟨aw3_do.1.more ae,aw3_do.2.more ae⟩
theorem aw4_b:SvB aw4:=⟨aw4_do.1.more ae,aw4_do.2.more ae⟩
theorem aw5_b:SvB aw5:=⟨aw5_do.1.more ae,aw5_do.2.more ae⟩
theorem zy4:flSv aw4 (Int.toNat 0) (Int.toNat 0)=true:=aF
theorem aw5_x:aw5.x=csmall:=aF
theorem aw1_s:(zbr aw1 0).2.length=18:=aF
theorem aw3_n:ziB aw3=1:=aF
theorem aw3_t:20<(zbr aw3 0).2.length:=aF
theorem aw6_n:ziB (zbr aw5 0).1=0:=aF
theorem aw5_u:(zbr aw5 0).2= [102,142,51,239,0,1,0,0,0,0,0,0,0,0,0,9,0,0,0,0]:=aF
theorem aw6_do:SvOk 70 (zbr aw5 0).1∧SvOut 54000000000000 (zbr aw5 0).1:=aw_do aw5_do ⟨2,0,0,[]⟩ ae
theorem zuZ:ACall Tryz.prog 12 0 [] [] (fun r _=>r= .d (.bool true)):=by
 have hb:=aw1_b
 have hb2:=aw2_b
 have hb3:=aw3_b
 have hb4:=aw4_b
 have hb5:=aw5_b
 have hfl:=zy4
 have hx5:=aw5_x
 have hs1:=aw1_s
 have hn3:=aw3_n
 have ht3:=aw3_t
 have hn6:=aw6_n
 have hu5:=aw5_u
 have h6:=aw6_do.1
 obtain ⟨W5,hW5⟩:∃W,W=aw5:=⟨_,rfl⟩
 obtain ⟨W4,hW4⟩:∃W,W=aw4:=⟨_,rfl⟩
 obtain ⟨W3,hW3⟩:∃W,W=aw3:=⟨_,rfl⟩
 obtain ⟨W2,hW2⟩:∃W,W=aw2:=⟨_,rfl⟩
 obtain ⟨X,hX⟩:∃X,X=csmall:=⟨_,rfl⟩
 rw [← hW5] at hb5 hx5 hn6 hu5 h6
 rw [← hW4] at hb4 hfl
 rw [← hW3] at hb3 hn3 ht3
 rw [← hW2] at hb2
 unfold aw1 at hb hs1
 unfold aw2 aw1 at hW2
 have hW4':W4=(zbr W3 0).1:=by rw [hW4,hW3];rfl
 have hW5':W5=zd5 W4 0 0:=by rw [hW5,hW4];rfl
 unfold aw3 aw2 aw1 awT at hW3
 rw [← hX] at hb hW2 hW3 hx5 hs1
 rw [← hW2] at hW3
 have hl3:W3.conns.length≤1000:=by have:=hb3.ok.len;omega
 have ht3':∀c∈W3.conns,c.tasks.length≤1000000:=fun c hc=>by have:=(hb3.ok.conn c hc).tasks;omega
 obtain ⟨W6,hW6⟩:∃W,W=(zbr W5 0).1:=⟨_,rfl⟩
 have hx6:W6.x=W5.x:=by rw [hW6,zbr];split<;>rfl
 rw [hx5] at hx6
 rw [← hW6] at hn6 h6
 have hl6:W6.conns.length≤1000:=by have:=h6.len;omega
 have ht6:∀c∈W6.conns,c.tasks.length≤1000000:=fun c hc=>by have:=(h6.conn c hc).tasks;omega
 obtain ⟨S1,hS1⟩:∃S,S=(zbr ⟨X,aw1l⟩ 0).2:=⟨_,rfl⟩
 obtain ⟨S3,hS3⟩:∃S,S=(zbr W3 0).2:=⟨_,rfl⟩
 rw [← hS1] at hs1
 rw [← hS3] at ht3
 have hs1:(S1.length:Int)=18:=U
 have hq3:decide ((20:Int)<S3.length)=true:=decide_eq_true U
 have hn3:(ziB W3:Int)=1:=U
 have hn6:(ziB W6:Int)=0:=U
 refine fbod Tryz.func12 Tryz.ntmps12 (fun base=>?_)
 refine' zga (zN 8) (zo hX.symm hW2.symm hW3.symm hW4'.symm hW5'.symm (zaB hW6.symm hS1.symm hS3.symm hu5 hn3)) (za zgB <| za ziM <| za zhD <| za zcL <| za ziN <| za zhE <| zb _)
 have hc1:W6.x.disk=csmall.disk:=by rw [hx6,hX]
 have hc2:csmall.disk.cache= []:=by rw [zj8]
 have hcr:=znr W6.x (by rw [hc1];exact csmall_ok.disk.ok) (by rw [hc1];exact hc2) (by rw [hc1,← zj8];exact zwN)
 obtain ⟨Y,hY⟩:∃Y:Img,Y= { (cdone ⟨⟨W6.x.disk.data,[], -1,false,W6.x.disk.bad⟩,⟨20,8⟩,⟨1,0⟩,[],false⟩ p0).1 with maps:= [] } :=⟨_,rfl⟩
 rw [← hY] at hcr
 refine' zad (zN 9) fx
 refine ACallAt.le2 (args':= [imgA W6.x,.d (.sl 1 [])]) (by simp only [imgA,AV.leL,AV.le];and_intros<;>first|rfl|trivial) ((zaJ hcr).mono ?_)
 rintro r h' ⟨rfl,rfl⟩
 simp only [go_sem,aeq,aeq.aeqF,simprocAttr]
 refine' walkW (zE hs1 hn3 hq3 hn6) (za zgB <| za ziM <| za zhD <| za zcL <| za ziN <| za zhE <| zb _)
@[go_sem] noncomputable def zex:Ent Tryz.prog 12:= .ofL nilL (fun _=>True) (fun _=> .d (.bool true)) (fun _ hp=>⟨rfl,zuZ⟩)
open Go Go.Proofs
theorem zy8 {x:Img} {n:Int} {ds:List Deed} (hx:ImgOk x) (hf:fewB x ds=true) (he:(svNew x n).2=0):SvOk 20000 (zdz (svNew x n).1 ds)∧SvOut 1000000000000000 (zdz (svNew x n).1 ds):=by
 unfold fewB at hf
 simp only [Bool.and_eq_true,decide_eq_true_eq] at hf
 obtain ⟨⟨h1,h2⟩,h3⟩:=hf
 have hX:=XOk.of hx h3
 have h4:SvOut 10000 (svNew x n).1:=by
  unfold svNew at he ⊢
  split at he
  ·cases he
  ·rename_i hn
   rw [if_neg hn]
   intro c hc
   rw [List.eq_of_mem_replicate hc]
   unfold OutOk
   decide
 obtain ⟨h5,h6⟩:=zlG ds (zlx hX n he) h4 U
 exact ⟨h5.more U,h6.more U⟩
theorem few_x {x:Img} {ds:List Deed} (hx:ImgOk x) (hf:fewB x ds=true):XOk x∧dlen ds≤400000∧ds.length≤300000:=by
 unfold fewB at hf
 simp only [Bool.and_eq_true,decide_eq_true_eq] at hf
 obtain ⟨⟨h1,h2⟩,h3⟩:=hf
 exact ⟨XOk.of hx h3,U,U⟩
theorem zxj {L M:Nat} {v:Srv} (h:SvOk L v) (ho:SvOut M v) (c:Int) (s:Txt) (hL:L+s.length≤800000):SvOk (L+s.length) (zbl v c s)∧SvOut (M+10000000000000) (zbl v c s):=
 ⟨zng h c s U,zlF h ho ⟨0,c,0,s⟩ hL⟩
theorem cutAt (n:Nat) (cut:Int) (hn:n≤20000):∃k:Nat,IntKind.i64.wrap ((IntKind.u64.wrap cut).tmod (IntKind.u64.wrap (IntKind.i64.wrap ((n:Int)+1))))=(k:Int)∧k≤n∧¬IntKind.u64.wrap (IntKind.i64.wrap ((n:Int)+1))=0:=by
 have hu:IntKind.u64.wrap (IntKind.i64.wrap ((n:Int)+1))=(n:Int)+1:=by rw [IntKind.wrap_i64,IntKind.wrap_u64];omega
 have hc:0≤IntKind.u64.wrap cut:=by rw [IntKind.wrap_u64];omega
 have h1:=Int.emod_nonneg (IntKind.u64.wrap cut) (b:=(n:Int)+1) U
 have h2:=Int.emod_lt_of_pos (IntKind.u64.wrap cut) (b:=(n:Int)+1) U
 rw [hu,Int.tmod_eq_emod_of_nonneg hc]
 refine ⟨(IntKind.u64.wrap cut % ((n:Int)+1)).toNat,?_,U,U⟩
 rw [IntKind.wrap_i64]
 omega
theorem zjc (x:Img) (n:Int) (ds:List Deed) (c:Int) (s:Txt) (cut:Int) (h:ImgOk x) (hl:ds.length≤9223372036854775807) (ht:∀d∈ds,d.text.length≤9223372036854000000) (hs:s.length≤9223372036854775807):ACall Tryz.prog 4 0 [imgA x,.d (.int .i64 n),.d (.sl 4 (ds.map deedD)),.d (.int .i64 c),.d (.str s),.d (.int .i64 cut)] [] (fun r _=>r= .d (.bool true)):=by
 refine fbod Tryz.func4 Tryz.ntmps4 (fun base=>?_)
 cases hf:fewB x ds with
 |false=>
  refine' walkW hf (za zhW <| za zdT <| za zcL <| za zdS <| za zex <| zb _)
 |true=>
 obtain ⟨fx1,fx2,fx3⟩:=few_x h hf
 by_cases hsl:s.length≤20000
 ·have e1:decide (20000<(s.length:Int))=false:=decide_eq_false U
  cases he:(svNew x n).2==0 with
  |false=>
   refine' walkW (zq hf e1 he) (za zhW <| za zdT <| za zcL <| za zdS <| za zex <| zb _)
  |true=>
  obtain ⟨v1,v2⟩:=zy8 h hf aj
  obtain ⟨V,hV⟩:∃V,V=zdz (svNew x n).1 ds:=⟨_,rfl⟩
  rw [← hV] at v1 v2
  have hVb:SvB V:=⟨v1.more U,v2.more U⟩
  obtain ⟨k,hk,hkl,hkz⟩:=cutAt s.length cut hsl
  obtain ⟨a1,a2⟩:=zxj v1 v2 c s U
  obtain ⟨b1,b2⟩:=zxj v1 v2 c (s.take k) ax
  have hap:=zrK V c (s.take k) (s.drop k) (fun o ho=>(v1.conn o ho).phase) (fun o ho s=>ze6 (v1.conn o ho).phase s)
  rw [List.take_append_drop] at hap
  obtain ⟨A,hA⟩:∃A,zbl V c s=A:=⟨_,rfl⟩
  obtain ⟨B,hB⟩:∃B,zbl V c (s.take k)=B:=⟨_,rfl⟩
  rw [hA] at a1 a2 hap
  rw [hB] at b1 b2 hap
  have hs1:s.length≤400000:=U
  have hs2:(s.take k).length≤400000:=ax
  have hs3:(s.drop k).length≤400000:=ar
  have hBb:SvB B:=⟨b1.more ax,b2.more U⟩
  have hA1:=a1.x.img.ok
  have hA2:A.conns.length≤1000:=by have:=a1.len;omega
  have hA3:∀c∈A.conns,SmOk c:=fun c hc=>(a1.conn c hc).sm
  have d1:decide (A=A)=true:=aa
  refine' walkW (zo hf e1 he hV.symm hk (zE hA hB hap d1)) (za zhW <| za zdT <| za zcL <| za zdS <| za zex <| zb _)
 ·have e1:decide (20000<(s.length:Int))=true:=decide_eq_true U
  refine' walkW (zj hf e1) (za zhW <| za zdT <| za zcL <| za zdS <| za zex <| zb _)
end Go.Aw
