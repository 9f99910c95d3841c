/-
  Parts of the proof: TxnD, TxnE, JourA, JourB, JourC (short names; the readable texts lie in the repo, under wip).
-/
import Derived.Test.YtbmlikkofegdeaaGreatDoorPart24
import Derived.Test.YtbmlikkofegdeaaGreatDoorPart17
import Derived.Test.YtbmlikkofegdeaaGreatDoorPart19
set_option maxRecDepth 100000
set_option maxHeartbeats 2000000
set_option linter.unusedSimpArgs false
set_option linter.unusedVariables false
namespace Go.Aw
open Go Go.Proofs
def bItem (s:Txt):List AV:= [.d (.str s)]
def unC (x:List AV):List AV:=
 match x with
 | [.d (.sl _ rows)]=>bItem (padR (encT (rows.map fun r=>match r with| [.int _ n]=>n|_=>0)))
 |_=> []
theorem zn9 (c:List Int):unC (zaQ c)=bItem (padR (encT c)):=by
 simp only [unC,zaQ,List.map_map]
 have:((fun r:List D=>match r with| [.int _ n]=>n|_=>(0:Int)) ∘ intD)=id:=rfl
 rw [this,List.map_id]
theorem zmM (l:List (List Int)):(l.map zaQ).map unC=l.map (fun c=>bItem (padR (encT c))):=by
 rw [List.map_map]
 exact List.map_congr_left (fun c _=>zn9 c)
theorem zmN {l:List Int} (h:l≠ []):trows l=(zch l).map (fun c=>padR (encT c)):=by
 unfold trows zch
 rw [if_neg h]
 split<;>rfl
theorem zhW {p:Plan} (h:p.targets≠ []):(tbody p).map bItem=(zch p.targets).map (fun c=>bItem (padR (encT c)))++p.texts.map bItem:=by
 rw [tbody,zmN h,List.map_append,List.map_map]
 rfl
theorem zmO {l c:List Int} (h:c∈zch l) (hl:l.length≤24):c.length≤16∧∀t∈c,t∈l:=by
 unfold zch at h
 split at h
 ·cases h
 split at h
 ·rename_i h1 h2
  obtain rfl:c=l:=by simpa using h
  exact ⟨h2,fun t ht=>ht⟩
 ·rcases List.mem_cons.1 h with rfl|h
  ·exact ⟨by simp;omega,fun t ht=>List.mem_of_mem_take ht⟩
  ·obtain rfl:c=l.drop 16:=by simpa using h
   exact ⟨by simp;omega,fun t ht=>List.mem_of_mem_drop ht⟩
theorem zvd:liesAt Tryz.prog Tryz.prog.depth 223 (2 / Tryz.prog.cellsOf 223) 0 223 1=true:=by kernel_rfl
theorem zjS (p:Plan) (hp:PlanOk p) (h24:p.targets.length≤24) (hne:p.targets≠ []) (hr:∀t∈p.targets,0≤t∧t<1024):AIter Tryz.prog 301 100 [] [.dp [.d (.sl 1 (p.targets.map intD)),.d (.sl 1 (p.texts.map strD))]] [] ((tbody p).map bItem) (fun g h'=>(∀xs,g=some xs→xs=(tbody p).map bItem)∧h'= []):=by
 refine itr Tryz.func301 Tryz.ntmps301 (fun base y=>?_)
 refine zhA ?_
 refine' walkX fx (za zpj <| zb _)
 obtain ⟨I,hI⟩:∃I:List (List AV)→AHeap×Option (List (List AV)),I=fun xs=>([(100,.var [.fn (.yield y.yl) [] []])],some (xs.map unC)):=⟨_,rfl⟩
 obtain ⟨G,hG⟩:∃G:List (List AV)→Prop,G=fun _=>True:=⟨_,rfl⟩
 obtain ⟨J,hJ⟩:∃J:Code→AHeap→Option (List (List AV))→Prop,J=fun c h g=>c= .ret∧h= [(100,.var [.fn (.yield y.yl) [] []])]∧g=none:=⟨_,rfl⟩
 refine zcu 200 G I J (zla p.targets h24 200) (by simp only [go_sem,aeq,aeq.aeqF,simprocAttr]) rfl (zat rfl) (by simp [cxOf,cxY]) rfl (by rw [hG];first|trivial|rfl|simp) (by rw [hI];simp only [AS.le,leT,leH,zj,AsgK,AV.le,AV.leL,AObj.le,inH,idsT,idsH,AV.ids,AV.idsL,AV.idsR,AObj.ids,lk,hget,go_sem,aeq,aeq.aeqF,simprocAttr]<;>simp [AV.leL,AV.le]) (by rw [hI];simp only [AS.le,leT,leH,zj,AsgK,AV.le,AV.leL,AObj.le,inH,idsT,idsH,AV.ids,AV.idsL,AV.idsR,AObj.ids,lk,hget,go_sem,aeq,aeq.aeqF,simprocAttr]<;>simp) (by rw [hI]<;>rfl) (by intro x hx;obtain ⟨q,_,rfl⟩:=List.mem_map.1 hx;rfl) (by intro t ht;simp at ht;first|(rcases ht with rfl|rfl<;>simp [cxOf,cxY]<;>done)|(subst ht;simp [cxOf,cxY])) ?_ ?_ ?_
 ·intro xs x hpre hgd l1 r1
  obtain ⟨ys,c,zs,rfl,rfl,hzl⟩:=zex hpre
  have hcm:c∈zch p.targets:=by rw [hzl];simp
  obtain ⟨hc16,hcr⟩:=zmO hcm h24
  have hit:(ys.map (fun c=>bItem (padR (encT c)))++ [bItem (padR (encT c))])<+:(tbody p).map bItem:=by
   rw [zhW hne,hzl,List.map_append,List.map_cons]
   exact ⟨zs.map (fun c=>bItem (padR (encT c)))++p.texts.map bItem,by simp⟩
  simp only [zaQ]
  refine aw_le ⟨[(12,true,.d (.sl 1 (c.map intD))),(2,true,.vp 100 0)],[(100,.var [.fn (.yield y.yl) [] []])],some (ys.map (fun c=>bItem (padR (encT c))))⟩ (by rw [hI];simp only [zmM];simp only [AS.le,leT,leH,zj,AsgK,AV.le,AV.leL,AObj.le,inH,idsT,idsH,AV.ids,AV.idsL,AV.idsR,AObj.ids,lk,hget,go_sem,aeq,aeq.aeqF,simprocAttr]) ?_
  refine' zal hI
  refine zrp 200 1 rfl rfl ?_
  simp only [go_sem,aeq,aeq.aeqF,simprocAttr]
  refine zk (fun q: { i:Nat // i≤c.length } =>⟨[(2,true,.vp 100 0),(4,true,.tp 200 0),(13,true,.d (.sl 1 (c.map intD))),(14,true,.d (.int .i64 c.length)),(15,true,.d (.int .i64 q.1))],[(201,.buf 5 (encT (c.take q.1))),(200,.tvar 223 [if q.1=0 then .d .nilp else .tp 200 0,.bsl 201 (encT (c.take q.1)).length]),(100,.var [.fn (.yield y.yl) [] []])],some (ys.map (fun c=>bItem (padR (encT c))))⟩) (fun q=>c.length - q.1) ⟨0,Nat.zero_le _⟩ (by simp only [AS.le,leT,leH,zj,AsgK,AV.le,AV.leL,AObj.le,inH,idsT,idsH,AV.ids,AV.idsL,AV.idsR,AObj.ids,lk,hget,go_sem,aeq,aeq.aeqF,simprocAttr,if_true,List.take_zero]<;>and_intros<;>rfl) (fun q=>?_)
  obtain ⟨i,hi⟩:=q
  simp only at hi ⊢
  rcases zM intD c i hi with ⟨t,hq,hlt,hcmp,hrow,hdr,htk⟩|⟨hend,hcmp⟩
  ·simp only [intD] at hrow
   have hwi:=zn (i:=i) (by omega)
   obtain ⟨ht0,ht1⟩:=hr t (hcr t (List.mem_of_getElem? hq))
   have hel:(encT (c.take i)).length≤64:=by rw [zd6,List.length_take];omega
   have hpl:putS8 t 4=putN t.toNat 4:=rfl
   have hpn:(putN t.toNat 4).length=4:=zI _ _
   have hsn:encT (c.take (i+1))=encT (c.take i)++putN t.toNat 4:=by rw [htk,zhL]
   refine' walkX (zA hcmp hrow hpl) (za zeE <| za zeF <| zb _)
   refine (ztv (i:=200) (j:=201) (o:=0) (T:=223) (cs:= [if i=0 then .d .nilp else .tp 200 0,.bsl 201 (encT (c.take i)).length]) (xs:=encT (c.take i)) rfl (by by_cases h0:i=0<;>simp [h0]) rfl rfl rfl zvd (by omega)).mono ?_
   rintro r h' ⟨rfl,rfl⟩
   refine' zal fx
   have hif:(if i+1=0 then AV.d .nilp else AV.tp 200 0)= .tp 200 0:=if_neg (by omega)
   exact ⟨⟨i+1,by omega⟩,by simp only [AS.le,leT,leH,zj,AsgK,AV.le,AV.leL,AObj.le,inH,idsT,idsH,AV.ids,AV.idsL,AV.idsR,AObj.ids,lk,hget,go_sem,aeq,aeq.aeqF,simprocAttr,hwi,hsn,hif,List.length_append],by simp;omega⟩
  ·have htk:c.take i=c:=by rw [hend,List.take_length]
   rw [htk]
   have hel:(encT c).length≤64:=by rw [zd6];omega
   obtain ⟨x0,hx0⟩:∃x0,x0=(if i=0 then AV.d .nilp else AV.tp 200 0):=⟨_,rfl⟩
   rw [← hx0]
   refine' zqq (zaN 9) hcmp
   have hh:HotOk Tryz.prog 200 (hotOf noHot 168 [.tp 200 0] [(201,.buf 5 (encT c)),(200,.tvar 223 [x0,.bsl 201 (encT c).length]),(100,.var [.fn (.yield y.yl) [] []])] (.d (.str (encT c))) [(201,.buf 5 gone),(200,.tvar 223 [x0,.bsl 201 (encT c).length]),(100,.var [.fn (.yield y.yl) [] []])]):=
    zsF (zsE _ _) (fun K hK=>(zro (i:=200) (j:=201) (o:=0) (T:=223) (cs:= [x0,.bsl 201 (encT c).length]) (xs:=encT c) rfl rfl rfl rfl (by omega)).mono (by rintro r h' ⟨rfl,rfl⟩;exact hK))
   refine zaD (fun K2 hK2=>zjt _ _ (za zeE <| za zeF <| zb Tryz.prog) hh (by kernel_rfl) ?_)
   clear hh
   have hKT:∀s',s'.le ⟨[(27,true,.d (.bool false))],[(100,.var [.fn (.yield y.yl) [] []])],some (ys.map (fun c=>bItem (padR (encT c)))++ [[.d (.str (padR (encT c)))]])⟩→K2 s':=fun s' hle=>hK2 _ (aw_le _ hle (by
    refine' zal hI
    ·rw [hG];trivial
    ·rw [List.map_append,zmM,List.map_singleton,show unC [AV.d (.sl 1 (c.map intD))]= [.d (.str (padR (encT c)))] from zn9 c]))
   have hKF:∀s',s'.le ⟨[(27,true,.d (.bool true))],[(100,.var [.fn (.yield y.yl) [] []])],none⟩→K2 s':=fun s' hle=>hK2 _ (aw_le _ hle (by
    refine' zal hI
    ·rw [hJ];exact ⟨rfl,rfl,rfl⟩))
   have hit':(ys.map (fun c=>bItem (padR (encT c)))++ [[.d (.str (padR (encT c)))]])<+:(tbody p).map bItem:=hit
   clear hK2 hit
   simp only [go_sem,aeq,aeq.aeqF,simprocAttr]
   repeat' (with_reducible refine And.intro ?_ ?_)
   all_goals first|omega|exact hit'|(refine hKT _ ?_;(simp only [AS.le,leT,leH,zj,AsgK,AV.le,AV.leL,AObj.le,inH,idsT,idsH,AV.ids,AV.idsL,AV.idsR,AObj.ids,lk,hget,go_sem,aeq,aeq.aeqF,simprocAttr]);done)|(refine hKF _ ?_;(simp only [AS.le,leT,leH,zj,AsgK,AV.le,AV.leL,AObj.le,inH,idsT,idsH,AV.ids,AV.idsL,AV.idsR,AObj.ids,lk,hget,go_sem,aeq,aeq.aeqF,simprocAttr]);done)
 ·intro _
  rw [hI]
  simp only [zmM]
  obtain ⟨B,hB⟩:∃B,B=(zch p.targets).map (fun c=>bItem (padR (encT c))):=⟨_,rfl⟩
  have hall:(tbody p).map bItem=B++p.texts.map bItem:=by rw [hB];exact zhW hne
  rw [← hB]
  refine' zal fx
  have htx:=hp.texts
  refine zk (fun q: { i:Nat // i≤p.texts.length } =>⟨[(2,true,.vp 100 0),(29,true,.d (.sl 1 (p.texts.map strD))),(30,true,.d (.int .i64 p.texts.length)),(31,true,.d (.int .i64 q.1))],[(100,.var [.fn (.yield y.yl) [] []])],some (B++(p.texts.take q.1).map bItem)⟩) (fun q=>p.texts.length - q.1) ⟨0,Nat.zero_le _⟩ (by simp only [AS.le,leT,leH,zj,AsgK,AV.le,AV.leL,AObj.le,inH,idsT,idsH,AV.ids,AV.idsL,AV.idsR,AObj.ids,lk,hget,go_sem,aeq,aeq.aeqF,simprocAttr]<;>simp) (fun q=>?_)
  obtain ⟨i,hi⟩:=q
  simp only at hi ⊢
  rcases zM strD p.texts i hi with ⟨s,hq,hlt,hcmp,hrow,hdr,htk⟩|⟨hend,hcmp⟩
  ·simp only [strD] at hrow
   have hwi:=zn (i:=i) (by omega)
   have hpr:((B++(p.texts.take i).map bItem)++ [[.d (.str s)]])<+:(tbody p).map bItem:=by
    rw [hall]
    refine ⟨(p.texts.drop (i+1)).map bItem,?_⟩
    have h1:=List.take_append_drop i p.texts
    rw [hdr] at h1
    conv=>rhs;rw [← h1]
    simp [bItem]
   refine' zal (zp hcmp hrow)
   exact ⟨⟨i+1,by omega⟩,by simp only [AS.le,leT,leH,zj,AsgK,AV.le,AV.leL,AObj.le,inH,idsT,idsH,AV.ids,AV.idsL,AV.idsR,AObj.ids,lk,hget,go_sem,aeq,aeq.aeqF,simprocAttr,hwi,htk,List.map_append,List.append_assoc,bItem,List.map_singleton],by simp;omega⟩
  ·refine' zal hcmp
   rintro zs rfl
   rw [hall,hend,List.take_length]
 ·rw [hJ]
  rintro c h3 g3 ⟨rfl,rfl,rfl⟩
  refine' zal fx
open Go Go.Proofs
theorem zrq (p:Plan) (_:True):AC 276 [planA p] (.fn (.func 301) [] [.dp [.d (.sl 1 (p.targets.map intD)),.d (.sl 1 (p.texts.map strD))]]):=by
 refine fbod Tryz.func276 Tryz.ntmps276 (fun base=>?_)
 refine' zc fx
@[go_sem] noncomputable def zfp:Ent Tryz.prog 276:= .m1 zw zrq
@[simp] theorem tsum_nil (c:Int):tsum c []=c:=rfl
def unB (x:List AV):Txt:=match x with| [.d (.str s)]=>s|_=> []
theorem zmP (l:List Txt):(l.map bItem).map unB=l:=by
 rw [List.map_map]
 conv=>rhs;rw [← List.map_id l]
 exact List.map_congr_left (fun c _=>rfl)
theorem zmQ (t:Tx) (hp:PlanOk t.plan∧pfit t.plan=true∧t.plan.targets.length≠0∧0≤t.seq∧t.seq<18446744073709551616):AC 238 [txA t] (.tup [.d (.sl 1 ((zb9 t.seq t.plan).map strD)),.d (.int .i64 0)]):=by
 obtain ⟨hp,hf,hn,h0,h1⟩:=hp
 refine fbod Tryz.func238 Tryz.ntmps238 (fun base=>?_)
 obtain ⟨hl,h24,h64⟩:=zay hf
 have hrng:=zn1 hf
 have hn0:((t.plan.targets.length:Int)==0)=false:=by rw [beq_eq_false_iff_ne];omega
 have hne:t.plan.targets≠ []:=by intro e;rw [e] at hn;exact hn rfl
 have hp8:putS8 t.seq 8=putN t.seq.toNat 8:=by rw [putS8,if_neg (by omega)];rfl
 have hp2:putS8 (t.plan.targets.length:Int) 2=putN t.plan.targets.length 2:=by rw [putS8,if_neg (by omega)];rfl
 have hw5:IntKind.i64.wrap (65535 - (t.plan.targets.length:Int))=((65535 - t.plan.targets.length:Nat):Int):=by rw [ze (by omega) (by omega)];omega
 have hp5:putS8 ((65535 - t.plan.targets.length:Nat):Int) 2=putN (65535 - t.plan.targets.length) 2:=by rw [putS8,if_neg (by omega)];rfl
 have hl8:=zI t.seq.toNat 8
 have hl2:=zI t.plan.targets.length 2
 have hl5:=zI (65535 - t.plan.targets.length) 2
 refine' walkR (zL hf hn0 hp8 hp2 hl8 (zp hl2 @List.length_append.{0})) (za zhH <| za zhV <| za zeE <| za zeF <| za zcV <| za zey <| za zbw <| za zfp <| zb _)
 obtain ⟨H,hH⟩:∃H,H=putN t.seq.toNat 8++putN t.plan.targets.length 2:=⟨_,rfl⟩
 have hHl:H.length=10:=by rw [hH,List.length_append,hl8,hl2]
 rw [← hH]
 have hc0:0≤sumOf 0 H∧sumOf 0 H≤4294967295:=zfm 0 H (by omega) (by omega)
 obtain ⟨I,hI⟩:∃I:List (List AV)→AHeap×Option (List (List AV)),I=fun xs=>([(3,.var [.d (.int .u32 (tsum (sumOf 0 H) (xs.map unB)))]),(2,.var [.osl 1 1 (xs.length+1) 0 (xs.length+1)]),(1,.arr 1 ([.str []]::(xs.map unB).map strD)),(0,.var [.d (.int .u64 t.seq),.d (.sl 1 (t.plan.targets.map intD)),.d (.sl 1 (t.plan.texts.map strD))])],some []):=⟨_,rfl⟩
 obtain ⟨G,hG⟩:∃G:List (List AV)→Prop,G=fun _=>True:=⟨_,rfl⟩
 obtain ⟨J,hJ⟩:∃J:Code→AHeap→Option (List (List AV))→Prop,J=fun c h g=>False:=⟨_,rfl⟩
 have hB64:∀s∈tbody t.plan,s.length=64:=zhM hf
 have hBl:(tbody t.plan).length≤26:=by
  have:(trows t.plan.targets).length≤2:=by unfold trows;split<;>simp
  rw [tbody,List.length_append]
  omega
 refine zcu 100 G I J (zjS t.plan hp h24 hne hrng) (by simp only [go_sem,aeq,aeq.aeqF,simprocAttr]) rfl (zat rfl) (by simp [cxOf,cxY]) rfl (by rw [hG];first|trivial|rfl|simp) (by rw [hI];simp only [AS.le,leT,leH,zj,AsgK,AV.le,AV.leL,AObj.le,inH,idsT,idsH,AV.ids,AV.idsL,AV.idsR,AObj.ids,lk,hget,go_sem,aeq,aeq.aeqF,simprocAttr]<;>simp [AV.leL,AV.le]) (by rw [hI];simp only [AS.le,leT,leH,zj,AsgK,AV.le,AV.leL,AObj.le,inH,idsT,idsH,AV.ids,AV.idsL,AV.idsR,AObj.ids,lk,hget,go_sem,aeq,aeq.aeqF,simprocAttr]<;>simp) (by rw [hI]<;>rfl) (by intro x hx;obtain ⟨q,_,rfl⟩:=List.mem_map.1 hx;rfl) (by intro t ht;simp at ht;first|(rcases ht with rfl|rfl<;>simp [cxOf,cxY]<;>done)|(subst ht;simp [cxOf,cxY])) ?_ ?_ ?_
 ·intro xs x hpre hgd l1 r1
  obtain ⟨ys,s,zs,rfl,rfl,hzl⟩:=zex hpre
  have hs64:=hB64 s (by rw [hzl];simp)
  have hyl:ys.length≤26:=by rw [hzl,List.length_append] at hBl;omega
  simp only [bItem]
  refine aw_le ⟨[(33,true,.d (.str s)),(6,true,.vp 2 0),(7,true,.vp 3 0)],[(3,.var [.d (.int .u32 (tsum (sumOf 0 H) ys))]),(2,.var [.osl 1 1 (ys.length+1) 0 (ys.length+1)]),(1,.arr 1 ([.str []]::ys.map strD)),(0,.var [.d (.int .u64 t.seq),.d (.sl 1 (t.plan.targets.map intD)),.d (.sl 1 (t.plan.texts.map strD))])],some []⟩ (by rw [hI];simp only [zmP,List.length_map];simp only [AS.le,leT,leH,zj,AsgK,AV.le,AV.leL,AObj.le,inH,idsT,idsH,AV.ids,AV.idsL,AV.idsR,AObj.ids,lk,hget,go_sem,aeq,aeq.aeqF,simprocAttr]) ?_
  have hsn:(ys.map bItem++ [[AV.d (.str s)]]).map unB=ys++ [s]:=by rw [List.map_append,zmP];rfl
  refine' walkR (zp hI hsn) (za zhH <| za zhV <| za zeE <| za zeF <| za zcV <| za zey <| za zbw <| za zfp <| zb _)
  ·rw [hG];trivial
  ·rw [zk0];rfl
  ·simp
  ·rw [List.map_append];rfl
 ·intro _
  rw [hI]
  simp only [zmP,List.length_map]
  have hbl:=zcg (tsum (sumOf 0 H) (tbody t.plan))
  refine' walkR (zA hp5 hw5 hl5) (za zhH <| za zhV <| za zeE <| za zeF <| za zcV <| za zey <| za zbw <| za zfp <| zb _)
  ·simp only [List.length_append,hHl,hl5,hbl];omega
  ·simp only [List.length_append,hHl,hl5,hbl];omega
  ·rw [hH]
   simp [zb9,ttop,thead,zul,strD]
 ·rw [hJ]
  rintro c h3 g3 h
  exact h.elim
@[go_sem] noncomputable def zb5:Ent Tryz.prog 238:= .m1 txA_T zmQ
open Go Go.Proofs
structure Jour where
 seq:Int
 pos:Int
 deriving DecidableEq
def jourA (j:Jour):AV:= .agg [.d (.int .u64 j.seq),.d (.int .i64 j.pos)]
attribute [go_sem] jourA
theorem zth (j:Jour):Jour.mk j.seq j.pos=j:=rfl
noncomputable def zjG:PT Jour:=aggT (consL (intT .u64) (consL (intT .i64) nilL)) (fun p=>⟨p.1,p.2.1⟩) (fun x=>(x.seq,x.pos,())) (fun _=>rfl)
attribute [go_sem] zjG
attribute [go_sem] zth
def jfit (j:Jour):Bool:=decide (1≤j.seq)&&decide (j.seq≤4611686018427387904)&&decide (0≤j.pos)&&decide (j.pos≤81)
def zcL (pos size:Int):Int:=if pos<0∨size<0∨81<size∨81 - size<pos then 0 else pos
def numF:Int→List Txt→List (Int×Txt)
 |_,[]=> []
 |a,s::r=>(a,s)::numF (a+1) r
theorem zmr:∀ (l:List Txt) (a:Int) (i:Nat) (s:Txt),l[i]?=some s→(numF a l)[i]?=some (a+i,s)
 | [],a,i,s,h=>by simp at h
 |x::l,a,0,s,h=>by
  have:x=s:=by simpa using h
  subst this
  simp [numF]
 |x::l,a,i+1,s,h=>by
  rw [numF,List.getElem?_cons_succ,zmr l (a+1) i s (by simpa using h)]
  congr 2
  omega
theorem zjH:∀ (l:List Txt) (a:Int),(numF a l).length=l.length
 | [],_=>rfl
 |x::l,a=>by rw [numF,List.length_cons,zjH l,List.length_cons]
def jtail (d:Disk) (j:Jour) (p:Plan) (L:List Txt) (A:Int):Disk×Jour×Int:=
 if (layL d (numF (6+A) L)).2≠0 then ((layL d (numF (6+A) L)).1,j,(layL d (numF (6+A) L)).2)
 else if (dflush (layL d (numF (6+A) L)).1).2≠0 then ((dflush (layL d (numF (6+A) L)).1).1,j,(dflush (layL d (numF (6+A) L)).1).2)
 else if (play (dflush (layL d (numF (6+A) L)).1).1 p).2≠0 then ((play (dflush (layL d (numF (6+A) L)).1).1 p).1,j,(play (dflush (layL d (numF (6+A) L)).1).1 p).2)
 else ((play (dflush (layL d (numF (6+A) L)).1).1 p).1,⟨j.seq+1,A+L.length⟩,0)
def jcommit (d:Disk) (j:Jour) (p:Plan):Disk×Jour×Int:=
 if p.targets.length=0 then (d,j,0) else if 4611686018427387904≤j.seq then (d,j,10)
 else if (dflush d).2≠0 then ((dflush d).1,j,(dflush d).2)
 else jtail (dflush d).1 j p (zb9 j.seq p) (zcL j.pos (zb9 j.seq p).length)
theorem zgk (pos size:Int):0≤zcL pos size∧zcL pos size≤81:=by
 unfold zcL
 split<;>omega
theorem zgl {p:Plan} (seq:Int) (hf:pfit p=true):(zb9 seq p).length≤27∧∀s∈zb9 seq p,s.length≤64:=by
 obtain ⟨hl,h24,h64⟩:=zay hf
 refine ⟨?_,?_⟩
 ·rw [zb9,tbody,List.length_cons,List.length_append]
  have:(trows p.targets).length≤2:=by unfold trows;split<;>simp
  omega
 ·intro s hs
  rcases List.mem_cons.1 hs with rfl|hs
  ·rw [ttop,zg5]
   ·exact Nat.le_refl _
   ·rw [List.length_append,List.length_append,List.length_append,thead,List.length_append,zI,zI,zI,zcg]
    decide
  ·rw [zhM hf s hs];exact Nat.le_refl _
theorem zti (j:Jour) (_:True):AC 95 [jourA j] (.d (.bool (jfit j))):=by
 refine bod Tryz.func95 Tryz.ntmps95 (fun base=>?_)
 refine' zc fx
 rfl
@[go_sem] noncomputable def zeT:Ent Tryz.prog 95:= .m1 zjG zti
theorem zo0 (pos size:Int) (hp:0≤size∧size≤1000):AC 199 [.d (.int .i64 pos),.d (.int .i64 size)] (.d (.int .i64 (zcL pos size))):=by
 obtain ⟨h0,h1⟩:=hp
 refine bod Tryz.func199 Tryz.ntmps199 (fun base=>?_)
 have hw:IntKind.i64.wrap (81 - size)=81 - size:=ze (by omega) (by omega)
 refine' zc hw
 ·simp only [Bool.or_eq_true,decide_eq_true_eq,or_assoc] at hc
  rw [zcL,if_pos hc]
 ·rw [zcL,if_neg]
  intro h
  have:(decide (pos<0)||decide (size<0)||decide (81<size)||decide (81 - size<pos))=true:=by
   simp only [Bool.or_eq_true,decide_eq_true_eq,or_assoc];exact h
  rw [hc] at this;cases this
@[go_sem] noncomputable def zbT:Ent Tryz.prog 199:= .m2 (intT .i64) (intT .i64) zo0
theorem zo1:ACall Tryz.prog 200 0 [] [] (fun r _=>r= .d (.int .i64 6)):=by
 refine bod Tryz.func200 Tryz.ntmps200 (fun base=>?_)
 refine' walkW fx (za zmi <| zb _)
@[go_sem] noncomputable def zbU:Ent Tryz.prog 200:= .ofL nilL (fun _=>True) (fun _=> .d (.int .i64 6)) (fun _ hp=>⟨rfl,zo1⟩)
theorem zms (d:Disk) (j:Jour) (p:Plan) (hp:DiskF d∧pfit p=true∧0≤j.seq∧j.seq<18446744073709551616):AC 135 [diskA d,jourA j,planA p] (.tup [diskA (jcommit d j p).1,jourA (jcommit d j p).2.1,.d (.int .i64 (jcommit d j p).2.2)]):=by
 obtain ⟨hd,hf,h0,h1⟩:=hp
 refine fbod Tryz.func135 Tryz.ntmps135 (fun base=>?_)
 obtain ⟨hl,h24,h64⟩:=zay hf
 have hpo:PlanOk p:=⟨by omega,by omega⟩
 have hdo:=hd.ok
 have hdp:=hd.puts
 by_cases hn:p.targets.length=0
 ·have hb:((p.targets.length:Int)==0)=true:=by rw [hn];rfl
  refine' walkW hb (za zbp <| za zbS <| za zbT <| za zbU <| za zB <| za zcf <| zb _)
  rw [jcommit,if_pos hn]
 have hb:((p.targets.length:Int)==0)=false:=by rw [beq_eq_false_iff_ne];omega
 by_cases hs:4611686018427387904≤j.seq
 ·have hb2:decide (4611686018427387904≤j.seq)=true:=decide_eq_true hs
  refine' walkW (zp hb hb2) (za zbp <| za zbS <| za zbT <| za zbU <| za zB <| za zcf <| zb _)
  rw [jcommit,if_neg hn,if_pos hs]
 have hb2:decide (4611686018427387904≤j.seq)=false:=decide_eq_false hs
 by_cases he1:(dflush d).2≠0
 ·have hb3:((dflush d).2 !=0)=true:=by simpa using he1
  refine' walkW (zA hb hb2 hb3) (za zbp <| za zbS <| za zbT <| za zbU <| za zB <| za zcf <| zb _)
  rw [jcommit,if_neg hn,if_neg hs,if_pos he1]
 have hb3:((dflush d).2 !=0)=false:=by simpa using he1
 obtain ⟨htl,ht64⟩:=zgl j.seq hf
 have hd1:=hd.flush
 have hj:=zgk j.pos (zb9 j.seq p).length
 have hjc:jcommit d j p=jtail (dflush d).1 j p (zb9 j.seq p) (zcL j.pos (zb9 j.seq p).length):=by rw [jcommit,if_neg hn,if_neg hs,if_neg he1]
 obtain ⟨L,hL⟩:∃L,L=zb9 j.seq p:=⟨_,rfl⟩
 rw [← hL] at htl ht64 hj hjc
 obtain ⟨A,hA⟩:∃A,A=zcL j.pos L.length:=⟨_,rfl⟩
 rw [← hA] at hj hjc
 obtain ⟨D1,hD1⟩:∃D1,D1=(dflush d).1:=⟨_,rfl⟩
 rw [← hD1] at hd1 hjc
 refine' walkW (zA hb hb2 hb3) (za zbp <| za zbS <| za zbT <| za zbU <| za zB <| za zcf <| zb _)
 ·rw [← hL];omega
 rw [← hL,← hA,← hD1]
 refine zk (fun q: { q:Nat×Disk // q.1≤L.length∧DiskF q.2∧layL D1 (numF (6+A) L)=layL q.2 ((numF (6+A) L).drop q.1) } =>⟨[(3,true,.vp 0 0),(4,true,.vp 1 0),(5,true,.vp 2 0),(6,true,.vp 3 0),(7,true,.vp 4 0),(10,true,.d (.sl 1 (L.map strD))),(11,true,.d (.int .i64 A)),(12,true,.d (.int .i64 q.1.1))],[(4,.var [.d (.int .u64 0),.d (.int .i64 0)]),(3,.var [.d (.str []),.nils 2,.d (.int .i64 0),.d (.bool false),.nils 1]),(2,.var [.d (.sl 1 (p.targets.map intD)),.d (.sl 1 (p.texts.map strD))]),(1,.var [.d (.int .u64 j.seq),.d (.int .i64 j.pos)]),(0,(.var [.d (.str q.1.2.data),.d (.sl 2 (q.1.2.cache.map putD)),.d (.int .i64 q.1.2.fuse),.d (.bool q.1.2.off),.d (.sl 1 (q.1.2.bad.map intD))]))],some []⟩) (fun q=>L.length - q.1.1) ⟨(0,D1),Nat.zero_le _,hd1,rfl⟩ le1 (fun q=>?_)
 obtain ⟨⟨i,x⟩,hi,hx,hfx⟩:=q
 simp only at hi hx hfx ⊢
 have hxo:=hx.ok
 have hxp:=hx.puts
 rcases zM strD L i hi with ⟨s,hq,hlt,hcmp,hrow,hdr,htk⟩|⟨hend,hcmp⟩
 ·simp only [strD] at hrow
  have hwi:=zn (i:=i) (by omega)
  have hw1:IntKind.i64.wrap (6+A)=6+A:=ze (by omega) (by omega)
  have hw2:IntKind.i64.wrap (6+A+(i:Int))=6+A+i:=ze (by omega) (by omega)
  rw [zcF (zmr L (6+A) i s hq),layL] at hfx
  have hxw:=hx.write (6+A+i) s
  refine' walkW (zbQ hcmp hrow hw1 hw2 natC) (za zbp <| za zbS <| za zbT <| za zbU <| za zB <| za zcf <| zb _)
  ·have hc:(zT x (6+A+i) s).2≠0:=by simpa using hc
   rw [if_pos hc] at hfx
   rw [hjc,jtail,hfx,if_pos hc]
  ·have hc:¬(zT x (6+A+i) s).2≠0:=by simpa using hc
   rw [if_neg hc] at hfx
   exact ⟨⟨(i+1,(zT x (6+A+i) s).1),by omega,hxw,hfx⟩,lew,by simp;omega⟩
 ·subst hend
  have hlay:layL D1 (numF (6+A) L)=(x,0):=by
   rw [hfx,List.drop_of_length_le (by rw [zjH];omega)];rfl
  have hxf:=hx.flush
  have hxfo:=hxf.ok
  have hws:j.seq<4611686018427387904→IntKind.u64.wrap (j.seq+1)=j.seq+1:=fun h=>zaf (by omega) (by omega)
  have hws:=hws (by omega)
  have hwl:IntKind.i64.wrap (A+(L.length:Int))=A+L.length:=ze (by omega) (by omega)
  rw [jtail,hlay] at hjc
  simp only [if_neg (show ¬(0:Int)≠0 by decide)] at hjc
  refine' walkW (zA hcmp hws hwl) (za zbp <| za zbS <| za zbT <| za zbU <| za zB <| za zcf <| zb _)
  ·have hc:(dflush x).2≠0:=by simpa using hc
   rw [hjc,if_pos hc]
  ·rename_i hc0
   have hc0:¬(dflush x).2≠0:=by simpa using hc0
   have hc:(play (dflush x).1 p).2≠0:=by simpa using hc
   rw [hjc,if_neg hc0,if_pos hc]
  ·rename_i hc0
   have hc0:¬(dflush x).2≠0:=by simpa using hc0
   have hc:¬(play (dflush x).1 p).2≠0:=by simpa using hc
   rw [hjc,if_neg hc0,if_neg hc]
@[go_sem] noncomputable def zjI:Ent Tryz.prog 135:= .m3 zq zjG zw zms
open Go Go.Proofs
theorem ztx:ACall Tryz.prog 278 0 [] [] (fun r _=>r= .tup [.d (.int .i64 6),.d (.int .i64 81)]):=by
 refine bod Tryz.func278 Tryz.ntmps278 (fun base=>?_)
 refine' zc fx
@[go_sem] noncomputable def zpk:Ent Tryz.prog 278:= .ofL nilL (fun _=>True) (fun _=> .tup [.d (.int .i64 6),.d (.int .i64 81)]) (fun _ hp=>⟨rfl,ztx⟩)
theorem zty:ACall Tryz.prog 239 0 [] [] (fun r _=>r= .tup [.d (.int .i64 6),.d (.int .i64 81)]):=by
 refine bod Tryz.func239 Tryz.ntmps239 (fun base=>?_)
 refine' walkW fx (za zpk <| zb _)
@[go_sem] noncomputable def zcY:Ent Tryz.prog 239:= .ofL nilL (fun _=>True) (fun _=> .tup [.d (.int .i64 6),.d (.int .i64 81)]) (fun _ hp=>⟨rfl,zty⟩)
theorem zpl (pos size:Int) (hp:0≤size∧size≤1000):AC 240 [.d (.int .i64 pos),.d (.int .i64 size)] (.d (.int .i64 (zcL pos size))):=by
 obtain ⟨h0,h1⟩:=hp
 refine bod Tryz.func240 Tryz.ntmps240 (fun base=>?_)
 have hw:IntKind.i64.wrap (81 - size)=81 - size:=ze (by omega) (by omega)
 refine' walkW hw (za zcY <| zb _)
 ·simp only [Bool.or_eq_true,decide_eq_true_eq,or_assoc] at hc
  rw [zcL,if_pos hc]
 ·rw [zcL,if_neg]
  intro h
  have:(decide (pos<0)||decide (size<0)||decide (81<size)||decide (81 - size<pos))=true:=by
   simp only [Bool.or_eq_true,decide_eq_true_eq,or_assoc];exact h
  rw [hc] at this;cases this
@[go_sem] noncomputable def zcy:Ent Tryz.prog 240:= .m2 (intT .i64) (intT .i64) zpl
theorem ztz (a:Int) (L:List Txt) (_:True):AC 243 [.d (.int .i64 a),.d (.sl 1 (L.map strD))] (.fn (.func 281) [] [.dp [.d (.sl 1 (L.map strD))],.dp [.d (.int .i64 a)]]):=by
 refine fbod Tryz.func243 Tryz.ntmps243 (fun base=>?_)
 refine' zc fx
@[go_sem] noncomputable def zdN:Ent Tryz.prog 243:= .m2 (intT .i64) (slT 1 strD zfD) ztz
theorem ztA (p:Plan) (_:True):AC 244 [planA p] (.fn (.func 282) [] [.dp (planC p)]):=by
 refine fbod Tryz.func244 Tryz.ntmps244 (fun base=>?_)
 refine' zc fx
@[go_sem] noncomputable def zdO:Ent Tryz.prog 244:= .m1 zw ztA
theorem zrr (d:Disk) (p:Plan) (hp:DiskOk d∧PlanOk p∧p.targets.length=p.texts.length):AC 282 [diskA d,.dp (planC p)] (.tup [diskA (play d p).1,.d (.int .i64 (play d p).2)]):=by
 obtain ⟨hd,hp,hl⟩:=hp
 refine fbod Tryz.func282 Tryz.ntmps282 (fun base=>?_)
 refine' walkW fx (za zfJ <| za zbt <| zb _)
@[go_sem] noncomputable def zci:Ent Tryz.prog 282:= .m2 zq zqJ zrr
theorem zrs (d:Disk) (L:List Txt) (a:Int) (hd:DiskF d) (hn:L.length≤100) (h0:0≤a) (h1:a≤100):ACall Tryz.prog 281 0 [diskA d,.dp [.d (.sl 1 (L.map strD))],.dp [.d (.int .i64 a)]] [] (fun r _=>r= .tup [diskA (layL d (numF a L)).1,.d (.int .i64 (layL d (numF a L)).2)]):=by
 refine fbod Tryz.func281 Tryz.ntmps281 (fun base=>?_)
 refine' walkW fx (za zfJ <| za zbt <| zb _)
 refine zk (fun q: { q:Nat×Disk // q.1≤L.length∧DiskF q.2∧layL d (numF a L)=layL q.2 ((numF a L).drop q.1) } =>⟨[(2,true,.dp [.d (.int .i64 a)]),(3,true,.vp 0 0),(4,true,.vp 1 0),(6,true,.d (.int .i64 0)),(9,true,.d (.sl 1 (L.map strD))),(10,true,.d (.int .i64 L.length)),(11,true,.d (.int .i64 q.1.1))],[(1,.var [.d (.str []),.nils 2,.d (.int .i64 0),.d (.bool false),.nils 1]),(0,(.var [.d (.str q.1.2.data),.d (.sl 2 (q.1.2.cache.map putD)),.d (.int .i64 q.1.2.fuse),.d (.bool q.1.2.off),.d (.sl 1 (q.1.2.bad.map intD))]))],some []⟩) (fun q=>L.length - q.1.1) ⟨(0,d),Nat.zero_le _,hd,rfl⟩ le1 (fun q=>?_)
 obtain ⟨⟨i,x⟩,hi,hx,hfx⟩:=q
 simp only at hi hx hfx ⊢
 have hxo:=hx.ok
 rcases zM strD L i hi with ⟨s,hq,hlt,hcmp,hrow,hdr,htk⟩|⟨hend,hcmp⟩
 ·simp only [strD] at hrow
  have hwi:=zn (i:=i) (by omega)
  have hw1:IntKind.i64.wrap (a+(i:Int))=a+i:=ze (by omega) (by omega)
  rw [zcF (zmr L a i s hq),layL] at hfx
  have hxw:=hx.write (a+i) s
  refine' walkW (zA hcmp hrow hw1) (za zfJ <| za zbt <| zb _)
  ·have hc:(zT x (a+i) s).2≠0:=by simpa using hc
   rw [if_pos hc] at hfx
   rw [hfx]
  ·have hc:¬(zT x (a+i) s).2≠0:=by simpa using hc
   have hc':(zT x (a+i) s).2=0:=by simpa using hc
   rw [if_neg hc] at hfx
   exact ⟨⟨(i+1,(zT x (a+i) s).1),by omega,hxw,hfx⟩,by simp only [AS.le,leT,leH,zj,AsgK,AV.le,AV.leL,AObj.le,inH,idsT,idsH,AV.ids,AV.idsL,AV.idsR,AObj.ids,lk,hget,go_sem,aeq,aeq.aeqF,simprocAttr,hwi,hc'],by simp;omega⟩
 ·subst hend
  have hlay:layL d (numF a L)=(x,0):=by
   rw [hfx,List.drop_of_length_le (by rw [zjH];omega)];rfl
  refine' walkW hcmp (za zfJ <| za zbt <| zb _)
  rw [hlay]
@[go_sem] noncomputable def zcj:Ent Tryz.prog 281:= .ofL (consL zq (consL (dpT (consL (slT 1 strD zfD) nilL) (fun p=>p) (fun p=>p) (fun _=>rfl)) (consL (dpT (consL (intT .i64) nilL) (fun p=>p) (fun p=>p) (fun _=>rfl)) nilL))) (fun (d,(L,_),(a,_),_)=>(DiskF d)∧(L.length≤100)∧(0≤a)∧(a≤100)) (fun (d,(L,_),(a,_),_)=> .tup [diskA (layL d (numF a L)).1,.d (.int .i64 (layL d (numF a L)).2)]) (fun (d,(L,_),(a,_),_) hp=>⟨rfl,zrs d L a hp.1 hp.2.1 hp.2.2.1 hp.2.2.2⟩)
open Go Go.Proofs
def runD:List (Disk→Disk×Int)→Disk→Disk×Int
 | [],d=>(d,0)
 |f::r,d=>if (f d).2≠0 then f d else runD r (f d).1
def zb6 (A:Int) (L:List Txt) (p:Plan):List (Disk→Disk×Int):= [dflush,fun d=>layL d (numF A L),dflush,fun d=>play d p]
def zoa (A:Int) (L:List Txt) (p:Plan):List (List AV):= [[.fn (.func 242) [] []],[.fn (.func 281) [] [.dp [.d (.sl 1 (L.map strD))],.dp [.d (.int .i64 A)]]],[.fn (.func 242) [] []],[.fn (.func 282) [] [.dp [.d (.sl 1 (p.targets.map intD)),.d (.sl 1 (p.texts.map strD))]]]]
def wkD (d:Disk) (e:Int):List AV:= [.d (.str d.data),.d (.sl 2 (d.cache.map putD)),.d (.int .i64 d.fuse),.d (.bool d.off),.d (.sl 1 (d.bad.map intD)),.d (.int .i64 e)]
attribute [go_sem] wkD zoa
theorem DiskF.play {d:Disk} (h:DiskF d) (p:Plan):DiskF (play d p).1:=DiskF.layL _ h
theorem zwc (d:Disk) (A:Int) (L:List Txt) (p:Plan) (hd:DiskF d) (hp:PlanOk p) (hl:p.targets.length=p.texts.length) (hn:L.length≤100) (h0:0≤A) (h1:A≤100):
  ACall Tryz.prog 241 6 [.vp 5 0,.asl 1 (zoa A L p)] [(5,.var (wkD d 0))] (fun r h'=>∃ob',h'= [(5,ob')]∧r= .tup []∧ob'= .var (wkD (runD (zb6 A L p) d).1 (runD (zb6 A L p) d).2)):=by
 refine bod Tryz.func241 Tryz.ntmps241 (fun base=>?_)
 refine' walkW fx (za zbu <| za zcj <| za zci <| zb _)
 refine zk (fun q: { q:Nat×Disk // q.1≤4∧DiskF q.2∧runD (zb6 A L p) d=runD ((zb6 A L p).drop q.1) q.2 } =>⟨[(0,true,.vp 5 0),(6,true,.asl 1 (zoa A L p)),(7,true,.d (.int .i64 4)),(8,true,.d (.int .i64 q.1.1))],[(5,.var (wkD q.1.2 0))],some []⟩) (fun q=>4 - q.1.1) ⟨(0,d),Nat.zero_le _,hd,rfl⟩ le1 (fun q=>?_)
 obtain ⟨⟨k,x⟩,hk,hx,hr⟩:=q
 simp only at hk hx hr ⊢
 have hxo:=hx.ok
 have hxp:=hx.puts
 have h4:k=0∨k=1∨k=2∨k=3∨k=4:=by omega
 have hc0:((0:Nat):Int)=0:=rfl
 have hc1:((1:Nat):Int)=1:=rfl
 have hc2:((2:Nat):Int)=2:=rfl
 have hc3:((3:Nat):Int)=3:=rfl
 have hc4:((4:Nat):Int)=4:=rfl
 have ht1:Int.toNat 1=1:=rfl
 have ht2:Int.toNat 2=2:=rfl
 have ht3:Int.toNat 3=3:=rfl
 have hw1:IntKind.i64.wrap 1=1:=by decide
 have hw2:IntKind.i64.wrap 2=2:=by decide
 have hw3:IntKind.i64.wrap 3=3:=by decide
 have hw4:IntKind.i64.wrap 4=4:=by decide
 rcases h4 with rfl|rfl|rfl|rfl|rfl
 ·have hr':runD (zb6 A L p) d=if (dflush x).2≠0 then dflush x else runD ((zb6 A L p).drop 1) (dflush x).1:=hr
  have hxn:DiskF (dflush x).1:=hx.flush
  refine' walkW (zp hc0 hw1) (za zbu <| za zcj <| za zci <| zb _)
  ·have hc:(dflush x).2≠0:=by simpa using hc
   rw [if_pos hc] at hr'
   exact ⟨_,rfl,by rw [hr']⟩
  ·have hc:(dflush x).2=0:=by simpa using hc
   rw [if_neg (by rw [hc];decide)] at hr'
   exact ⟨⟨(1,(dflush x).1),by show (_:Nat)≤4;omega,hxn,hr'⟩,by simp only [AS.le,leT,leH,zj,AsgK,AV.le,AV.leL,AObj.le,inH,idsT,idsH,AV.ids,AV.idsL,AV.idsR,AObj.ids,lk,hget,go_sem,aeq,aeq.aeqF,simprocAttr,hw1,hc]<;>and_intros<;>rfl,by simp⟩
 ·have hr':runD (zb6 A L p) d=if (layL x (numF A L)).2≠0 then layL x (numF A L) else runD ((zb6 A L p).drop 2) (layL x (numF A L)).1:=hr
  have hxn:DiskF (layL x (numF A L)).1:=DiskF.layL _ hx
  refine' walkW (zA hc1 hw2 ht1) (za zbu <| za zcj <| za zci <| zb _)
  ·have hc:(layL x (numF A L)).2≠0:=by simpa using hc
   rw [if_pos hc] at hr'
   exact ⟨_,rfl,by rw [hr']⟩
  ·have hc:(layL x (numF A L)).2=0:=by simpa using hc
   rw [if_neg (by rw [hc];decide)] at hr'
   exact ⟨⟨(2,(layL x (numF A L)).1),by show (_:Nat)≤4;omega,hxn,hr'⟩,by simp only [AS.le,leT,leH,zj,AsgK,AV.le,AV.leL,AObj.le,inH,idsT,idsH,AV.ids,AV.idsL,AV.idsR,AObj.ids,lk,hget,go_sem,aeq,aeq.aeqF,simprocAttr,hw2,hc]<;>and_intros<;>rfl,by simp⟩
 ·have hr':runD (zb6 A L p) d=if (dflush x).2≠0 then dflush x else runD ((zb6 A L p).drop 3) (dflush x).1:=hr
  have hxn:DiskF (dflush x).1:=hx.flush
  refine' walkW (zA hc2 hw3 ht2) (za zbu <| za zcj <| za zci <| zb _)
  ·have hc:(dflush x).2≠0:=by simpa using hc
   rw [if_pos hc] at hr'
   exact ⟨_,rfl,by rw [hr']⟩
  ·have hc:(dflush x).2=0:=by simpa using hc
   rw [if_neg (by rw [hc];decide)] at hr'
   exact ⟨⟨(3,(dflush x).1),by show (_:Nat)≤4;omega,hxn,hr'⟩,by simp only [AS.le,leT,leH,zj,AsgK,AV.le,AV.leL,AObj.le,inH,idsT,idsH,AV.ids,AV.idsL,AV.idsR,AObj.ids,lk,hget,go_sem,aeq,aeq.aeqF,simprocAttr,hw3,hc]<;>and_intros<;>rfl,by simp⟩
 ·have hr':runD (zb6 A L p) d=if (play x p).2≠0 then play x p else runD ((zb6 A L p).drop 4) (play x p).1:=hr
  have hxn:DiskF (play x p).1:=hx.play p
  refine' walkW (zA hc3 hw4 ht3) (za zbu <| za zcj <| za zci <| zb _)
  ·have hc:(play x p).2≠0:=by simpa using hc
   rw [if_pos hc] at hr'
   exact ⟨_,rfl,by rw [hr']⟩
  ·have hc:(play x p).2=0:=by simpa using hc
   rw [if_neg (by rw [hc];decide)] at hr'
   exact ⟨⟨(4,(play x p).1),by show (_:Nat)≤4;omega,hxn,hr'⟩,by simp only [AS.le,leT,leH,zj,AsgK,AV.le,AV.leL,AObj.le,inH,idsT,idsH,AV.ids,AV.idsL,AV.idsR,AObj.ids,lk,hget,go_sem,aeq,aeq.aeqF,simprocAttr,hw4,hc]<;>and_intros<;>rfl,by simp⟩
 ·refine' walkW hc4 (za zbu <| za zcj <| za zci <| zb _)
  have hr':runD (zb6 A L p) d=(x,0):=hr
  exact ⟨_,rfl,by rw [hr']⟩
theorem zrt (d:Disk) (A:Int) (L:List Txt) (p:Plan) (j:Jour):(if (dflush d).2≠0 then ((dflush d).1,j,(dflush d).2) else jtail (dflush d).1 j p L A)=(if (runD (zb6 (6+A) L p) d).2≠0 then ((runD (zb6 (6+A) L p) d).1,j,(runD (zb6 (6+A) L p) d).2) else ((runD (zb6 (6+A) L p) d).1,⟨j.seq+1,A+L.length⟩,0)):=by
 simp only [zb6,runD,jtail]
 repeat' split
 all_goals simp_all
theorem zmR (d:Disk) (j:Jour) (p:Plan) (hp:DiskF d∧pfit p=true∧0≤j.seq∧j.seq<18446744073709551616):AC 196 [diskA d,jourA j,planA p] (.tup [diskA (jcommit d j p).1,jourA (jcommit d j p).2.1,.d (.int .i64 (jcommit d j p).2.2)]):=by
 obtain ⟨hd,hf,h0,h1⟩:=hp
 refine fbod Tryz.func196 Tryz.ntmps196 (fun base=>?_)
 obtain ⟨hl,h24,h64⟩:=zay hf
 have hpo:PlanOk p:=⟨by omega,by omega⟩
 have hdo:=hd.ok
 have hdp:=hd.puts
 by_cases hn:p.targets.length=0
 ·have hb:((p.targets.length:Int)==0)=true:=by rw [hn];rfl
  refine' walkW hb (za zb5 <| za zcY <| za zcy <| za zdN <| za zdO <| zb _)
  rw [jcommit,if_pos hn]
 have hb:((p.targets.length:Int)==0)=false:=by rw [beq_eq_false_iff_ne];omega
 by_cases hs:4611686018427387904≤j.seq
 ·have hb2:decide (4611686018427387904≤j.seq)=true:=decide_eq_true hs
  refine' walkW (zp hb hb2) (za zb5 <| za zcY <| za zcy <| za zdN <| za zdO <| zb _)
  rw [jcommit,if_neg hn,if_pos hs]
 have hb2:decide (4611686018427387904≤j.seq)=false:=decide_eq_false hs
 obtain ⟨htl,ht64⟩:=zgl j.seq hf
 have hjr:=zgk j.pos (zb9 j.seq p).length
 have hjc:jcommit d j p=if (dflush d).2≠0 then ((dflush d).1,j,(dflush d).2) else jtail (dflush d).1 j p (zb9 j.seq p) (zcL j.pos (zb9 j.seq p).length):=by rw [jcommit,if_neg hn,if_neg hs]
 rw [zrt] at hjc
 obtain ⟨L,hL⟩:∃L,L=zb9 j.seq p:=⟨_,rfl⟩
 rw [← hL] at htl ht64 hjr hjc
 obtain ⟨A,hA⟩:∃A,A=zcL j.pos L.length:=⟨_,rfl⟩
 rw [← hA] at hjr hjc
 have hw6:IntKind.i64.wrap (6+A)=6+A:=ze (by omega) (by omega)
 refine' zgH (zaN 9) (z8 hb hb2 hL.symm hA.symm) (za zb5 <| za zcY <| za zcy <| za zdN <| za zdO <| zb _)
 obtain ⟨X,hX⟩:∃X,X=runD (zb6 (6+A) L p) d:=⟨_,rfl⟩
 have hdo2:=zwc d (6+A) L p hd hpo hl (by omega) (by omega) (by omega)
 rw [← hX] at hdo2 hjc
 refine' zqp (ownsL [0]) hw6 (za zb5 <| za zcY <| za zcy <| za zdN <| za zdO <| zb _)
 refine (hdo2.one (fl':=0) rfl rfl (zat rfl) rfl (by simp [AObj.ids,AV.idsL,AV.ids,wkD]) (by simp [AV.idsL,AV.ids,AV.idsR,zoa]) (by omega)).mono ?_
 rintro r h' ⟨ob',⟨rfl,rfl⟩,rfl⟩
 have hws:IntKind.u64.wrap (j.seq+1)=j.seq+1:=zaf (by omega) (by omega)
 have hwl:IntKind.i64.wrap (A+(L.length:Int))=A+L.length:=ze (by omega) (by omega)
 simp only [go_sem,aeq,aeq.aeqF,simprocAttr,wkD]
 refine hK _ ?_
 clear hK K
 refine' walkW (zp hws hwl) (za zb5 <| za zcY <| za zcy <| za zdN <| za zdO <| zb _)
 ·have hc:X.2≠0:=by simpa using hc
  rw [hjc,if_pos hc]
 ·have hc:¬X.2≠0:=by simpa using hc
  rw [hjc,if_neg hc]
@[go_sem] noncomputable def zjT:Ent Tryz.prog 196:= .m3 zq zjG zw zmR
end Go.Aw
