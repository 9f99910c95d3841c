/-
  Parts of the proof: TxnD, TxnE, JourA, JourB, JourC (short names; the readable texts lie in the repo, under wip).
-/
import Derived.Test.YtbmlikkofegdeaaGreatDoorPiece24
import Derived.Test.YtbmlikkofegdeaaGreatDoorPiece17
import Derived.Test.YtbmlikkofegdeaaGreatDoorPiece20
set_option maxRecDepth 100000
set_option maxHeartbeats 2000000
set_option linter.unusedSimpArgs false
set_option linter.unusedVariables false
namespace Go.Aw
open Go Go.Proofs
def bItem (s:Txt):List AV:= [.d (.str s)]
def unC (x:List AV):List AV:=
 match x with
 | [.d (.sl _ rows)]=>bItem (padR (encT (rows.map λr=>match r with| [.int _ n]=>n|_=>0)))
 |_=> []
theorem zpz (c:List Int):unC (zaZ c)=bItem (padR (encT c)):=by simp only [unC,zaZ,List.map_map];have:((λr:List D=>match r with| [.int _ n]=>n|_=>(0:Int)) ∘ intD)=id:=rfl;rw [this,List.map_id]
theorem zoi (l:List (List Int)):(l.map zaZ).map unC=l.map (λc=>bItem (padR (encT c))):=by rw [List.map_map];exact List.map_congr_left (λc _=>zpz c)
theorem zoj {l:List Int} (h:l≠ []):trows l=(zcW l).map (λc=>padR (encT c)):=by unfold trows zcW;rw [if_neg h];split<;>rfl
theorem zi3 {p:Plan} (h:p.targets≠ []):(tbody p).map bItem=(zcW p.targets).map (λc=>bItem (padR (encT c)))++p.texts.map bItem:=by rw [tbody,zoj h,List.map_append,List.map_map];rfl
theorem zok {l c:List Int} (h:c∈zcW l) (hl:l.length<=24):c.length<=16/\∀t∈c,t∈l:=by
 unfold zcW at h;split at h
 ·cases h
 split at h
 ·rename_i h1 h2;obtain rfl:c=l:=by simpa using h
  exact ⟨h2,λt ht=>ht⟩
 ·rcases List.mem_cons.1 h with rfl|h
  ·exact ⟨by simp;omega,λt ht=>List.mem_of_mem_take ht⟩
  ·obtain rfl:c=l.drop 16:=by simpa using h
   exact ⟨by simp;omega,λt ht=>List.mem_of_mem_drop ht⟩
theorem zxi:liesAt Tryz.prog Tryz.prog.depth 223 (2 / Tryz.prog.cellsOf 223) 0 223 1=true:=by kernel_rfl
theorem zls (p:Plan) (hp:PlanOk p) (h24:p.targets.length<=24) (hne:p.targets≠ []) (hr:∀t∈p.targets,0<=t/\t<1024):AIter Tryz.prog 301 100 [] [.dp [.d (.sl 1 (p.targets.map intD)),.d (.sl 1 (p.texts.map strD))]] [] ((tbody p).map bItem) (λg h'=>(∀xs,g=some xs->xs=(tbody p).map bItem)/\h'= []):=by
 refine itr Tryz.func301 Tryz.ntmps301 (λbase y=>?_);refine zfq ?_;refine' walkX fx (za zqV <| zb _);obtain ⟨I,hI⟩:∃I:List (List AV)->AHeap×Option (List (List AV)),I=λxs=>([(100,.var [.fn (.yield y.yl) [] []])],some (xs.map unC)):=⟨_,rfl⟩
 obtain ⟨G,hG⟩:∃G:List (List AV)->Prop,G=λ_=>True:=⟨_,rfl⟩
 obtain ⟨J,hJ⟩:∃J:Code->AHeap->Option (List (List AV))->Prop,J=λc h g=>c= .ret/\h= [(100,.var [.fn (.yield y.yl) [] []])]/\g=none:=⟨_,rfl⟩
 refine zbk 200 G I J (zmO p.targets h24 200) (by simp only [go_sem,aeq,aeq.aeqF,simprocAttr]) rfl (zJ rfl) (by simp [cxOf,cxY]) rfl (by rw [hG];first|trivial|rfl|simp) (by rw [hI];simp only [AS.le,leT,leH,zf,AsgK,AV.le,AV.leL,AObj.le,inH,idsT,idsH,AV.ids,AV.idsL,AV.idsR,AObj.ids,lk,hget,go_sem,aeq,aeq.aeqF,simprocAttr]<;>simp [AV.leL,AV.le]) (by rw [hI];simp only [AS.le,leT,leH,zf,AsgK,AV.le,AV.leL,AObj.le,inH,idsT,idsH,AV.ids,AV.idsL,AV.idsR,AObj.ids,lk,hget,go_sem,aeq,aeq.aeqF,simprocAttr]<;>simp) (by rw [hI]<;>rfl) (by intro x hx;obtain ⟨q,_,rfl⟩:=List.mem_map.1 hx;rfl) (by intro t ht;simp at ht;first|(rcases ht with rfl|rfl<;>simp [cxOf,cxY]<;>done)|(subst ht;simp [cxOf,cxY])) ?_ ?_ ?_
 ·intro xs x hpre hgd l1 r1;obtain ⟨ys,c,zs,rfl,rfl,hzl⟩:=zcS hpre;have hcm:c∈zcW p.targets:=by rw [hzl];simp
  obtain ⟨hc16,hcr⟩:=zok hcm h24
  have hit:(ys.map (λc=>bItem (padR (encT c)))++ [bItem (padR (encT c))])<+:(tbody p).map bItem:=by rw [zi3 hne,hzl,List.map_append,List.map_cons];exact ⟨zs.map (λc=>bItem (padR (encT c)))++p.texts.map bItem,by simp⟩
  simp only [zaZ];refine aw_le ⟨[(12,true,.d (.sl 1 (c.map intD))),(2,true,.vp 100 0)],[(100,.var [.fn (.yield y.yl) [] []])],some (ys.map (λc=>bItem (padR (encT c))))⟩ (by rw [hI];simp only [zoi];simp only [AS.le,leT,leH,zf,AsgK,AV.le,AV.leL,AObj.le,inH,idsT,idsH,AV.ids,AV.idsL,AV.idsR,AObj.ids,lk,hget,go_sem,aeq,aeq.aeqF,simprocAttr]) ?_;refine' z7 hI;refine zs4 200 1 rfl rfl ?_;simp only [go_sem,aeq,aeq.aeqF,simprocAttr];refine zq (λq: { i:Nat // i<=c.length } =>⟨[(2,true,.vp 100 0),(4,true,.tp 200 0),(13,true,.d (.sl 1 (c.map intD))),(14,true,.d (.int .i64 c.length)),(15,true,.d (.int .i64 q.1))],[(201,.buf 5 (encT (c.take q.1))),(200,.tvar 223 [if q.1=0 then .d .nilp else .tp 200 0,.bsl 201 (encT (c.take q.1)).length]),(100,.var [.fn (.yield y.yl) [] []])],some (ys.map (λc=>bItem (padR (encT c))))⟩) (λq=>c.length - q.1) ⟨0,Nat.zero_le _⟩ (by simp only [AS.le,leT,leH,zf,AsgK,AV.le,AV.leL,AObj.le,inH,idsT,idsH,AV.ids,AV.idsL,AV.idsR,AObj.ids,lk,hget,go_sem,aeq,aeq.aeqF,simprocAttr,if_true,List.take_zero]<;>and_intros<;>rfl) (λq=>?_);obtain ⟨i,hi⟩:=q;simp only at hi ⊢;rcases zP intD c i hi with ⟨t,hq,hlt,hcmp,hrow,hdr,htk⟩|⟨hend,hcmp⟩
  ·simp only [intD] at hrow;have hwi:=zr (i:=i) (by omega);obtain ⟨ht0,ht1⟩:=hr t (hcr t (List.mem_of_getElem? hq));have hel:(encT (c.take i)).length<=64:=by rw [zeX,List.length_take];omega
   have hpl:putS8 t 4=putN t.toNat 4:=rfl;have hpn:(putN t.toNat 4).length=4:=zK _ _;have hsn:encT (c.take (i+1))=encT (c.take i)++putN t.toNat 4:=by rw [htk,ziS]
   refine' walkX (zB hcmp hrow hpl) (za zfx <| za zfy <| zb _);refine (zvl (i:=200) (j:=201) (o:=0) (T:=223) (cs:= [if i=0 then .d .nilp else .tp 200 0,.bsl 201 (encT (c.take i)).length]) (xs:=encT (c.take i)) rfl (by by_cases h0:i=0<;>simp [h0]) rfl rfl rfl zxi (by omega)).mono ?_;rintro r h' ⟨rfl,rfl⟩;refine' z7 fx;have hif:(if i+1=0 then AV.d .nilp else AV.tp 200 0)= .tp 200 0:=if_neg (by omega);exact ⟨⟨i+1,by omega⟩,by simp only [AS.le,leT,leH,zf,AsgK,AV.le,AV.leL,AObj.le,inH,idsT,idsH,AV.ids,AV.idsL,AV.idsR,AObj.ids,lk,hget,go_sem,aeq,aeq.aeqF,simprocAttr,hwi,hsn,hif,List.length_append],by simp;omega⟩
  ·have htk:c.take i=c:=by rw [hend,List.take_length]
   rw [htk];have hel:(encT c).length<=64:=by rw [zeX];omega
   obtain ⟨x0,hx0⟩:∃x0,x0=(if i=0 then AV.d .nilp else AV.tp 200 0):=⟨_,rfl⟩
   rw [<-hx0];refine' zsa (zav 9) hcmp
   have hh:HotOk Tryz.prog 200 (hotOf noHot 168 [.tp 200 0] [(201,.buf 5 (encT c)),(200,.tvar 223 [x0,.bsl 201 (encT c).length]),(100,.var [.fn (.yield y.yl) [] []])] (.d (.str (encT c))) [(201,.buf 5 gone),(200,.tvar 223 [x0,.bsl 201 (encT c).length]),(100,.var [.fn (.yield y.yl) [] []])]):=
    zuy (zux _ _) (λK hK=>(zs3 (i:=200) (j:=201) (o:=0) (T:=223) (cs:= [x0,.bsl 201 (encT c).length]) (xs:=encT c) rfl rfl rfl rfl (by omega)).mono (by rintro r h' ⟨rfl,rfl⟩;exact hK))
   refine zaM (λK2 hK2=>zk1 _ _ (za zfx <| za zfy <| zb Tryz.prog) hh (by kernel_rfl) ?_);clear hh
   have hKT:∀s',s'.le ⟨[(27,true,.d (.bool false))],[(100,.var [.fn (.yield y.yl) [] []])],some (ys.map (λc=>bItem (padR (encT c)))++ [[.d (.str (padR (encT c)))]])⟩->K2 s':=λs' hle=>hK2 _ (aw_le _ hle (by
    refine' z7 hI
    ·rw [hG];trivial
    ·rw [List.map_append,zoi,List.map_singleton,show unC [AV.d (.sl 1 (c.map intD))]= [.d (.str (padR (encT c)))] from zpz c]))
   have hKF:∀s',s'.le ⟨[(27,true,.d (.bool true))],[(100,.var [.fn (.yield y.yl) [] []])],none⟩->K2 s':=λs' hle=>hK2 _ (aw_le _ hle (by
    refine' z7 hI
    ·rw [hJ];exact ⟨rfl,rfl,rfl⟩))
   have hit':(ys.map (λc=>bItem (padR (encT c)))++ [[.d (.str (padR (encT c)))]])<+:(tbody p).map bItem:=hit;clear hK2 hit;simp only [go_sem,aeq,aeq.aeqF,simprocAttr];repeat' (with_reducible refine And.intro ?_ ?_)
   all_goals first|omega|exact hit'|(refine hKT _ ?_;(simp only [AS.le,leT,leH,zf,AsgK,AV.le,AV.leL,AObj.le,inH,idsT,idsH,AV.ids,AV.idsL,AV.idsR,AObj.ids,lk,hget,go_sem,aeq,aeq.aeqF,simprocAttr]);done)|(refine hKF _ ?_;(simp only [AS.le,leT,leH,zf,AsgK,AV.le,AV.leL,AObj.le,inH,idsT,idsH,AV.ids,AV.idsL,AV.idsR,AObj.ids,lk,hget,go_sem,aeq,aeq.aeqF,simprocAttr]);done)
 ·intro _;rw [hI];simp only [zoi];obtain ⟨B,hB⟩:∃B,B=(zcW p.targets).map (λc=>bItem (padR (encT c))):=⟨_,rfl⟩
  have hall:(tbody p).map bItem=B++p.texts.map bItem:=by rw [hB];exact zi3 hne
  rw [<-hB];refine' z7 fx;have htx:=hp.texts;refine zq (λq: { i:Nat // i<=p.texts.length } =>⟨[(2,true,.vp 100 0),(29,true,.d (.sl 1 (p.texts.map strD))),(30,true,.d (.int .i64 p.texts.length)),(31,true,.d (.int .i64 q.1))],[(100,.var [.fn (.yield y.yl) [] []])],some (B++(p.texts.take q.1).map bItem)⟩) (λq=>p.texts.length - q.1) ⟨0,Nat.zero_le _⟩ (by simp only [AS.le,leT,leH,zf,AsgK,AV.le,AV.leL,AObj.le,inH,idsT,idsH,AV.ids,AV.idsL,AV.idsR,AObj.ids,lk,hget,go_sem,aeq,aeq.aeqF,simprocAttr]<;>simp) (λq=>?_);obtain ⟨i,hi⟩:=q;simp only at hi ⊢;rcases zP strD p.texts i hi with ⟨s,hq,hlt,hcmp,hrow,hdr,htk⟩|⟨hend,hcmp⟩
  ·simp only [strD] at hrow;have hwi:=zr (i:=i) (by omega)
   have hpr:((B++(p.texts.take i).map bItem)++ [[.d (.str s)]])<+:(tbody p).map bItem:=by
    rw [hall];refine ⟨(p.texts.drop (i+1)).map bItem,?_⟩;have h1:=List.take_append_drop i p.texts;rw [hdr] at h1;conv=>rhs;rw [<-h1]
    simp [bItem]
   refine' z7 (zn hcmp hrow);exact ⟨⟨i+1,by omega⟩,by simp only [AS.le,leT,leH,zf,AsgK,AV.le,AV.leL,AObj.le,inH,idsT,idsH,AV.ids,AV.idsL,AV.idsR,AObj.ids,lk,hget,go_sem,aeq,aeq.aeqF,simprocAttr,hwi,htk,List.map_append,List.append_assoc,bItem,List.map_singleton],by simp;omega⟩
  ·refine' z7 hcmp;rintro zs rfl;rw [hall,hend,List.take_length]
 ·rw [hJ];rintro c h3 g3 ⟨rfl,rfl,rfl⟩;refine' z7 fx
open Go Go.Proofs
theorem zs5 (p:Plan) (_:True):AC 276 [planA p] (.fn (.func 301) [] [.dp [.d (.sl 1 (p.targets.map intD)),.d (.sl 1 (p.texts.map strD))]]):=by refine fbod Tryz.func276 Tryz.ntmps276 (λbase=>?_);refine' zc fx
@[go_sem] noncomputable def zgp:Ent Tryz.prog 276:= .m1 zw zs5
@[simp] theorem tsum_nil (c:Int):tsum c []=c:=rfl
def unB (x:List AV):Txt:=match x with| [.d (.str s)]=>s|_=> []
theorem zol (l:List Txt):(l.map bItem).map unB=l:=by
 rw [List.map_map];conv=>rhs;rw [<-List.map_id l]
 exact List.map_congr_left (λc _=>rfl)
theorem zom (t:Tx) (hp:PlanOk t.plan/\pfit t.plan=true/\t.plan.targets.length≠0/\0<=t.seq/\t.seq<18446744073709551616):AC 238 [txA t] (.tup [.d (.sl 1 ((zb4 t.seq t.plan).map strD)),.d (.int .i64 0)]):=by
 obtain ⟨hp,hf,hn,h0,h1⟩:=hp;refine fbod Tryz.func238 Tryz.ntmps238 (λbase=>?_);obtain ⟨hl,h24,h64⟩:=zay hf;have hrng:=zpu hf;have hn0:((t.plan.targets.length:Int)==0)=false:=by rw [beq_eq_false_iff_ne];omega
 have hne:t.plan.targets≠ []:=by intro e;rw [e] at hn;exact hn rfl
 have hp8:putS8 t.seq 8=putN t.seq.toNat 8:=by rw [putS8,if_neg (by omega)];rfl
 have hp2:putS8 (t.plan.targets.length:Int) 2=putN t.plan.targets.length 2:=by rw [putS8,if_neg (by omega)];rfl
 have hw5:IntKind.i64.wrap (65535 - (t.plan.targets.length:Int))=((65535 - t.plan.targets.length:Nat):Int):=by rw [zg (by omega) (by omega)];omega
 have hp5:putS8 ((65535 - t.plan.targets.length:Nat):Int) 2=putN (65535 - t.plan.targets.length) 2:=by rw [putS8,if_neg (by omega)];rfl
 have hl8:=zK t.seq.toNat 8;have hl2:=zK t.plan.targets.length 2;have hl5:=zK (65535 - t.plan.targets.length) 2;refine' walkR (zL hf hn0 hp8 hp2 hl8 (zn hl2 @List.length_append.{0})) (za ziN <| za zi2 <| za zfx <| za zfy <| za zdF <| za zfr <| za zbV <| za zgp <| zb _);obtain ⟨H,hH⟩:∃H,H=putN t.seq.toNat 8++putN t.plan.targets.length 2:=⟨_,rfl⟩
 have hHl:H.length=10:=by rw [hH,List.length_append,hl8,hl2]
 rw [<-hH];have hc0:0<=sumOf 0 H/\sumOf 0 H<=4294967295:=zgn 0 H (by omega) (by omega);obtain ⟨I,hI⟩:∃I:List (List AV)->AHeap×Option (List (List AV)),I=λxs=>([(3,.var [.d (.int .u32 (tsum (sumOf 0 H) (xs.map unB)))]),(2,.var [.osl 1 1 (xs.length+1) 0 (xs.length+1)]),(1,.arr 1 ([.str []]::(xs.map unB).map strD)),(0,.var [.d (.int .u64 t.seq),.d (.sl 1 (t.plan.targets.map intD)),.d (.sl 1 (t.plan.texts.map strD))])],some []):=⟨_,rfl⟩
 obtain ⟨G,hG⟩:∃G:List (List AV)->Prop,G=λ_=>True:=⟨_,rfl⟩
 obtain ⟨J,hJ⟩:∃J:Code->AHeap->Option (List (List AV))->Prop,J=λc h g=>False:=⟨_,rfl⟩
 have hB64:∀s∈tbody t.plan,s.length=64:=ziT hf
 have hBl:(tbody t.plan).length<=26:=by
  have:(trows t.plan.targets).length<=2:=by unfold trows;split<;>simp
  rw [tbody,List.length_append];omega
 refine zbk 100 G I J (zls t.plan hp h24 hne hrng) (by simp only [go_sem,aeq,aeq.aeqF,simprocAttr]) rfl (zJ rfl) (by simp [cxOf,cxY]) rfl (by rw [hG];first|trivial|rfl|simp) (by rw [hI];simp only [AS.le,leT,leH,zf,AsgK,AV.le,AV.leL,AObj.le,inH,idsT,idsH,AV.ids,AV.idsL,AV.idsR,AObj.ids,lk,hget,go_sem,aeq,aeq.aeqF,simprocAttr]<;>simp [AV.leL,AV.le]) (by rw [hI];simp only [AS.le,leT,leH,zf,AsgK,AV.le,AV.leL,AObj.le,inH,idsT,idsH,AV.ids,AV.idsL,AV.idsR,AObj.ids,lk,hget,go_sem,aeq,aeq.aeqF,simprocAttr]<;>simp) (by rw [hI]<;>rfl) (by intro x hx;obtain ⟨q,_,rfl⟩:=List.mem_map.1 hx;rfl) (by intro t ht;simp at ht;first|(rcases ht with rfl|rfl<;>simp [cxOf,cxY]<;>done)|(subst ht;simp [cxOf,cxY])) ?_ ?_ ?_
 ·intro xs x hpre hgd l1 r1;obtain ⟨ys,s,zs,rfl,rfl,hzl⟩:=zcS hpre;have hs64:=hB64 s (by rw [hzl];simp);have hyl:ys.length<=26:=by rw [hzl,List.length_append] at hBl;omega
  simp only [bItem];refine aw_le ⟨[(33,true,.d (.str s)),(6,true,.vp 2 0),(7,true,.vp 3 0)],[(3,.var [.d (.int .u32 (tsum (sumOf 0 H) ys))]),(2,.var [.osl 1 1 (ys.length+1) 0 (ys.length+1)]),(1,.arr 1 ([.str []]::ys.map strD)),(0,.var [.d (.int .u64 t.seq),.d (.sl 1 (t.plan.targets.map intD)),.d (.sl 1 (t.plan.texts.map strD))])],some []⟩ (by rw [hI];simp only [zol,List.length_map];simp only [AS.le,leT,leH,zf,AsgK,AV.le,AV.leL,AObj.le,inH,idsT,idsH,AV.ids,AV.idsL,AV.idsR,AObj.ids,lk,hget,go_sem,aeq,aeq.aeqF,simprocAttr]) ?_;have hsn:(ys.map bItem++ [[AV.d (.str s)]]).map unB=ys++ [s]:=by rw [List.map_append,zol];rfl
  refine' walkR (zn hI hsn) (za ziN <| za zi2 <| za zfx <| za zfy <| za zdF <| za zfr <| za zbV <| za zgp <| zb _)
  ·rw [hG];trivial
  ·rw [zmJ];rfl
  ·simp
  ·rw [List.map_append];rfl
 ·intro _;rw [hI];simp only [zol,List.length_map];have hbl:=zcU (tsum (sumOf 0 H) (tbody t.plan));refine' walkR (zB hp5 hw5 hl5) (za ziN <| za zi2 <| za zfx <| za zfy <| za zdF <| za zfr <| za zbV <| za zgp <| zb _)
  ·simp only [List.length_append,hHl,hl5,hbl];omega
  ·simp only [List.length_append,hHl,hl5,hbl];omega
  ·rw [hH];simp [zb4,ttop,thead,zwp,strD]
 ·rw [hJ];rintro c h3 g3 h;exact h.elim
@[go_sem] noncomputable def zcG:Ent Tryz.prog 238:= .m1 txA_T zom
open Go Go.Proofs
structure Jour where
 seq:Int
 pos:Int
 deriving DecidableEq
def jourA (j:Jour):AV:= .agg [.d (.int .u64 j.seq),.d (.int .i64 j.pos)]
attribute [go_sem] jourA
theorem zvb (j:Jour):Jour.mk j.seq j.pos=j:=rfl
noncomputable def zli:PT Jour:=aggT (consL (intT .u64) (consL (intT .i64) nilL)) (λp=>⟨p.1,p.2.1⟩) (λx=>(x.seq,x.pos,())) (λ_=>rfl)
attribute [go_sem] zli
attribute [go_sem] zvb
def jfit (j:Jour):Bool:=decide (1<=j.seq)&&decide (j.seq<=4611686018427387904)&&decide (0<=j.pos)&&decide (j.pos<=81)
def zcE (pos size:Int):Int:=if pos<0\/size<0\/81<size\/81 - size<pos then 0 else pos
def numF:Int->List Txt->List (Int×Txt)
 |_,[]=> []
 |a,s::r=>(a,s)::numF (a+1) r
theorem zn1:∀ (l:List Txt) (a:Int) (i:Nat) (s:Txt),l[i]?=some s->(numF a l)[i]?=some (a+i,s)
 | [],a,i,s,h=>by simp at h
 |x::l,a,0,s,h=>by
  have:x=s:=by simpa using h
  subst this;simp [numF]
 |x::l,a,i+1,s,h=>by rw [numF,List.getElem?_cons_succ,zn1 l (a+1) i s (by simpa using h)];congr 2;omega
theorem zlj:∀ (l:List Txt) (a:Int),(numF a l).length=l.length
 | [],_=>rfl
 |x::l,a=>by rw [numF,List.length_cons,zlj l,List.length_cons]
def jtail (d:Disk) (j:Jour) (p:Plan) (L:List Txt) (A:Int):Disk×Jour×Int:=
 if (layL d (numF (6+A) L)).2≠0 then ((layL d (numF (6+A) L)).1,j,(layL d (numF (6+A) L)).2)
 else if (dflush (layL d (numF (6+A) L)).1).2≠0 then ((dflush (layL d (numF (6+A) L)).1).1,j,(dflush (layL d (numF (6+A) L)).1).2)
 else if (play (dflush (layL d (numF (6+A) L)).1).1 p).2≠0 then ((play (dflush (layL d (numF (6+A) L)).1).1 p).1,j,(play (dflush (layL d (numF (6+A) L)).1).1 p).2)
 else ((play (dflush (layL d (numF (6+A) L)).1).1 p).1,⟨j.seq+1,A+L.length⟩,0)
def jcommit (d:Disk) (j:Jour) (p:Plan):Disk×Jour×Int:=
 if p.targets.length=0 then (d,j,0) else if 4611686018427387904<=j.seq then (d,j,10)
 else if (dflush d).2≠0 then ((dflush d).1,j,(dflush d).2)
 else jtail (dflush d).1 j p (zb4 j.seq p) (zcE j.pos (zb4 j.seq p).length)
theorem zfO (pos size:Int):0<=zcE pos size/\zcE pos size<=81:=by unfold zcE;split<;>omega
theorem zfP {p:Plan} (seq:Int) (hf:pfit p=true):(zb4 seq p).length<=27/\∀s∈zb4 seq p,s.length<=64:=by
 obtain ⟨hl,h24,h64⟩:=zay hf;refine ⟨?_,?_⟩
 ·rw [zb4,tbody,List.length_cons,List.length_append];have:(trows p.targets).length<=2:=by unfold trows;split<;>simp
  omega
 ·intro s hs;rcases List.mem_cons.1 hs with rfl|hs
  ·rw [ttop,zh7]
   ·exact Nat.le_refl _
   ·rw [List.length_append,List.length_append,List.length_append,thead,List.length_append,zK,zK,zK,zcU];decide
  ·rw [ziT hf s hs];exact Nat.le_refl _
theorem zvc (j:Jour) (_:True):AC 95 [jourA j] (.d (.bool (jfit j))):=by refine bod Tryz.func95 Tryz.ntmps95 (λbase=>?_);refine' zc fx;rfl
@[go_sem] noncomputable def zfQ:Ent Tryz.prog 95:= .m1 zli zvc
theorem zqE (pos size:Int) (hp:0<=size/\size<=1000):AC 199 [.d (.int .i64 pos),.d (.int .i64 size)] (.d (.int .i64 (zcE pos size))):=by
 obtain ⟨h0,h1⟩:=hp;refine bod Tryz.func199 Tryz.ntmps199 (λbase=>?_);have hw:IntKind.i64.wrap (81 - size)=81 - size:=zg (by omega) (by omega);refine' zc hw
 ·simp only [Bool.or_eq_true,decide_eq_true_eq,or_assoc] at hc;rw [zcE,if_pos hc]
 ·rw [zcE,if_neg];intro h
  have:(decide (pos<0)||decide (size<0)||decide (81<size)||decide (81 - size<pos))=true:=by simp only [Bool.or_eq_true,decide_eq_true_eq,or_assoc];exact h
  rw [hc] at this;cases this
@[go_sem] noncomputable def zcs:Ent Tryz.prog 199:= .m2 (intT .i64) (intT .i64) zqE
theorem zqF:ACall Tryz.prog 200 0 [] [] (λr _=>r= .d (.int .i64 6)):=by refine bod Tryz.func200 Tryz.ntmps200 (λbase=>?_);refine' walkW fx (za znT <| zb _)
@[go_sem] noncomputable def zct:Ent Tryz.prog 200:= .ofL nilL (λ_=>True) (λ_=> .d (.int .i64 6)) (λ_ hp=>⟨rfl,zqF⟩)
theorem zn2 (d:Disk) (j:Jour) (p:Plan) (hp:DiskF d/\pfit p=true/\0<=j.seq/\j.seq<18446744073709551616):AC 135 [diskA d,jourA j,planA p] (.tup [diskA (jcommit d j p).1,jourA (jcommit d j p).2.1,.d (.int .i64 (jcommit d j p).2.2)]):=by
 obtain ⟨hd,hf,h0,h1⟩:=hp;refine fbod Tryz.func135 Tryz.ntmps135 (λbase=>?_);obtain ⟨hl,h24,h64⟩:=zay hf;have hpo:PlanOk p:=⟨by omega,by omega⟩
 have hdo:=hd.ok;have hdp:=hd.puts;by_cases hn:p.targets.length=0
 ·have hb:((p.targets.length:Int)==0)=true:=by rw [hn];rfl
  refine' walkW hb (za zbM <| za zcr <| za zcs <| za zct <| za zbL <| za zcT <| zb _);rw [jcommit,if_pos hn]
 have hb:((p.targets.length:Int)==0)=false:=by rw [beq_eq_false_iff_ne];omega
 by_cases hs:4611686018427387904<=j.seq
 ·have hb2:decide (4611686018427387904<=j.seq)=true:=decide_eq_true hs;refine' walkW (zn hb hb2) (za zbM <| za zcr <| za zcs <| za zct <| za zbL <| za zcT <| zb _);rw [jcommit,if_neg hn,if_pos hs]
 have hb2:decide (4611686018427387904<=j.seq)=false:=decide_eq_false hs;by_cases he1:(dflush d).2≠0
 ·have hb3:((dflush d).2 !=0)=true:=by simpa using he1
  refine' walkW (zB hb hb2 hb3) (za zbM <| za zcr <| za zcs <| za zct <| za zbL <| za zcT <| zb _);rw [jcommit,if_neg hn,if_neg hs,if_pos he1]
 have hb3:((dflush d).2 !=0)=false:=by simpa using he1
 obtain ⟨htl,ht64⟩:=zfP j.seq hf;have hd1:=hd.flush;have hj:=zfO j.pos (zb4 j.seq p).length;have hjc:jcommit d j p=jtail (dflush d).1 j p (zb4 j.seq p) (zcE j.pos (zb4 j.seq p).length):=by rw [jcommit,if_neg hn,if_neg hs,if_neg he1]
 obtain ⟨L,hL⟩:∃L,L=zb4 j.seq p:=⟨_,rfl⟩
 rw [<-hL] at htl ht64 hj hjc;obtain ⟨A,hA⟩:∃A,A=zcE j.pos L.length:=⟨_,rfl⟩
 rw [<-hA] at hj hjc;obtain ⟨D1,hD1⟩:∃D1,D1=(dflush d).1:=⟨_,rfl⟩
 rw [<-hD1] at hd1 hjc;refine' walkW (zB hb hb2 hb3) (za zbM <| za zcr <| za zcs <| za zct <| za zbL <| za zcT <| zb _)
 ·rw [<-hL];omega
 rw [<-hL,<-hA,<-hD1];refine zq (λq: { q:Nat×Disk // q.1<=L.length/\DiskF q.2/\layL D1 (numF (6+A) L)=layL q.2 ((numF (6+A) L).drop q.1) } =>⟨[(3,true,.vp 0 0),(4,true,.vp 1 0),(5,true,.vp 2 0),(6,true,.vp 3 0),(7,true,.vp 4 0),(10,true,.d (.sl 1 (L.map strD))),(11,true,.d (.int .i64 A)),(12,true,.d (.int .i64 q.1.1))],[(4,.var [.d (.int .u64 0),.d (.int .i64 0)]),(3,.var [.d (.str []),.nils 2,.d (.int .i64 0),.d (.bool false),.nils 1]),(2,.var [.d (.sl 1 (p.targets.map intD)),.d (.sl 1 (p.texts.map strD))]),(1,.var [.d (.int .u64 j.seq),.d (.int .i64 j.pos)]),(0,(.var [.d (.str q.1.2.data),.d (.sl 2 (q.1.2.cache.map putD)),.d (.int .i64 q.1.2.fuse),.d (.bool q.1.2.off),.d (.sl 1 (q.1.2.bad.map intD))]))],some []⟩) (λq=>L.length - q.1.1) ⟨(0,D1),Nat.zero_le _,hd1,rfl⟩ le1 (λq=>?_);obtain ⟨⟨i,x⟩,hi,hx,hfx⟩:=q;simp only at hi hx hfx ⊢;have hxo:=hx.ok;have hxp:=hx.puts;rcases zP strD L i hi with ⟨s,hq,hlt,hcmp,hrow,hdr,htk⟩|⟨hend,hcmp⟩
 ·simp only [strD] at hrow;have hwi:=zr (i:=i) (by omega);have hw1:IntKind.i64.wrap (6+A)=6+A:=zg (by omega) (by omega);have hw2:IntKind.i64.wrap (6+A+(i:Int))=6+A+i:=zg (by omega) (by omega);rw [zcQ (zn1 L (6+A) i s hq),layL] at hfx;have hxw:=hx.write (6+A+i) s;refine' walkW (zbj hcmp hrow hw1 hw2 natC) (za zbM <| za zcr <| za zcs <| za zct <| za zbL <| za zcT <| zb _)
  ·have hc:(zM x (6+A+i) s).2≠0:=by simpa using hc
   rw [if_pos hc] at hfx;rw [hjc,jtail,hfx,if_pos hc]
  ·have hc:¬(zM x (6+A+i) s).2≠0:=by simpa using hc
   rw [if_neg hc] at hfx;exact ⟨⟨(i+1,(zM x (6+A+i) s).1),by omega,hxw,hfx⟩,lew,by simp;omega⟩
 ·subst hend
  have hlay:layL D1 (numF (6+A) L)=(x,0):=by rw [hfx,List.drop_of_length_le (by rw [zlj];omega)];rfl
  have hxf:=hx.flush;have hxfo:=hxf.ok;have hws:j.seq<4611686018427387904->IntKind.u64.wrap (j.seq+1)=j.seq+1:=λh=>zad (by omega) (by omega);have hws:=hws (by omega);have hwl:IntKind.i64.wrap (A+(L.length:Int))=A+L.length:=zg (by omega) (by omega);rw [jtail,hlay] at hjc;simp only [if_neg (show ¬(0:Int)≠0 by decide)] at hjc;refine' walkW (zB hcmp hws hwl) (za zbM <| za zcr <| za zcs <| za zct <| za zbL <| za zcT <| zb _)
  ·have hc:(dflush x).2≠0:=by simpa using hc
   rw [hjc,if_pos hc]
  ·rename_i hc0;have hc0:¬(dflush x).2≠0:=by simpa using hc0
   have hc:(play (dflush x).1 p).2≠0:=by simpa using hc
   rw [hjc,if_neg hc0,if_pos hc]
  ·rename_i hc0;have hc0:¬(dflush x).2≠0:=by simpa using hc0
   have hc:¬(play (dflush x).1 p).2≠0:=by simpa using hc
   rw [hjc,if_neg hc0,if_neg hc]
@[go_sem] noncomputable def zlk:Ent Tryz.prog 135:= .m3 zu zli zw zn2
open Go Go.Proofs
theorem zvn:ACall Tryz.prog 278 0 [] [] (λr _=>r= .tup [.d (.int .i64 6),.d (.int .i64 81)]):=by refine bod Tryz.func278 Tryz.ntmps278 (λbase=>?_);refine' zc fx
@[go_sem] noncomputable def zqW:Ent Tryz.prog 278:= .ofL nilL (λ_=>True) (λ_=> .tup [.d (.int .i64 6),.d (.int .i64 81)]) (λ_ hp=>⟨rfl,zvn⟩)
theorem zvo:ACall Tryz.prog 239 0 [] [] (λr _=>r= .tup [.d (.int .i64 6),.d (.int .i64 81)]):=by refine bod Tryz.func239 Tryz.ntmps239 (λbase=>?_);refine' walkW fx (za zqW <| zb _)
@[go_sem] noncomputable def zdI:Ent Tryz.prog 239:= .ofL nilL (λ_=>True) (λ_=> .tup [.d (.int .i64 6),.d (.int .i64 81)]) (λ_ hp=>⟨rfl,zvo⟩)
theorem zqX (pos size:Int) (hp:0<=size/\size<=1000):AC 240 [.d (.int .i64 pos),.d (.int .i64 size)] (.d (.int .i64 (zcE pos size))):=by
 obtain ⟨h0,h1⟩:=hp;refine bod Tryz.func240 Tryz.ntmps240 (λbase=>?_);have hw:IntKind.i64.wrap (81 - size)=81 - size:=zg (by omega) (by omega);refine' walkW hw (za zdI <| zb _)
 ·simp only [Bool.or_eq_true,decide_eq_true_eq,or_assoc] at hc;rw [zcE,if_pos hc]
 ·rw [zcE,if_neg];intro h
  have:(decide (pos<0)||decide (size<0)||decide (81<size)||decide (81 - size<pos))=true:=by simp only [Bool.or_eq_true,decide_eq_true_eq,or_assoc];exact h
  rw [hc] at this;cases this
@[go_sem] noncomputable def zdd:Ent Tryz.prog 240:= .m2 (intT .i64) (intT .i64) zqX
theorem zvp (a:Int) (L:List Txt) (_:True):AC 243 [.d (.int .i64 a),.d (.sl 1 (L.map strD))] (.fn (.func 281) [] [.dp [.d (.sl 1 (L.map strD))],.dp [.d (.int .i64 a)]]):=by refine fbod Tryz.func243 Tryz.ntmps243 (λbase=>?_);refine' zc fx
@[go_sem] noncomputable def zeE:Ent Tryz.prog 243:= .m2 (intT .i64) (slT 1 strD zgD) zvp
theorem zvq (p:Plan) (_:True):AC 244 [planA p] (.fn (.func 282) [] [.dp (planC p)]):=by refine fbod Tryz.func244 Tryz.ntmps244 (λbase=>?_);refine' zc fx
@[go_sem] noncomputable def zeF:Ent Tryz.prog 244:= .m1 zw zvq
theorem zs6 (d:Disk) (p:Plan) (hp:DiskOk d/\PlanOk p/\p.targets.length=p.texts.length):AC 282 [diskA d,.dp (planC p)] (.tup [diskA (play d p).1,.d (.int .i64 (play d p).2)]):=by obtain ⟨hd,hp,hl⟩:=hp;refine fbod Tryz.func282 Tryz.ntmps282 (λbase=>?_);refine' walkW fx (za zgK <| za zt <| zb _)
@[go_sem] noncomputable def zcX:Ent Tryz.prog 282:= .m2 zu zsq zs6
theorem zs7 (d:Disk) (L:List Txt) (a:Int) (hd:DiskF d) (hn:L.length<=100) (h0:0<=a) (h1:a<=100):ACall Tryz.prog 281 0 [diskA d,.dp [.d (.sl 1 (L.map strD))],.dp [.d (.int .i64 a)]] [] (λr _=>r= .tup [diskA (layL d (numF a L)).1,.d (.int .i64 (layL d (numF a L)).2)]):=by
 refine fbod Tryz.func281 Tryz.ntmps281 (λbase=>?_);refine' walkW fx (za zgK <| za zt <| zb _);refine zq (λq: { q:Nat×Disk // q.1<=L.length/\DiskF q.2/\layL d (numF a L)=layL q.2 ((numF a L).drop q.1) } =>⟨[(2,true,.dp [.d (.int .i64 a)]),(3,true,.vp 0 0),(4,true,.vp 1 0),(6,true,.d (.int .i64 0)),(9,true,.d (.sl 1 (L.map strD))),(10,true,.d (.int .i64 L.length)),(11,true,.d (.int .i64 q.1.1))],[(1,.var [.d (.str []),.nils 2,.d (.int .i64 0),.d (.bool false),.nils 1]),(0,(.var [.d (.str q.1.2.data),.d (.sl 2 (q.1.2.cache.map putD)),.d (.int .i64 q.1.2.fuse),.d (.bool q.1.2.off),.d (.sl 1 (q.1.2.bad.map intD))]))],some []⟩) (λq=>L.length - q.1.1) ⟨(0,d),Nat.zero_le _,hd,rfl⟩ le1 (λq=>?_);obtain ⟨⟨i,x⟩,hi,hx,hfx⟩:=q;simp only at hi hx hfx ⊢;have hxo:=hx.ok;rcases zP strD L i hi with ⟨s,hq,hlt,hcmp,hrow,hdr,htk⟩|⟨hend,hcmp⟩
 ·simp only [strD] at hrow;have hwi:=zr (i:=i) (by omega);have hw1:IntKind.i64.wrap (a+(i:Int))=a+i:=zg (by omega) (by omega);rw [zcQ (zn1 L a i s hq),layL] at hfx;have hxw:=hx.write (a+i) s;refine' walkW (zB hcmp hrow hw1) (za zgK <| za zt <| zb _)
  ·have hc:(zM x (a+i) s).2≠0:=by simpa using hc
   rw [if_pos hc] at hfx;rw [hfx]
  ·have hc:¬(zM x (a+i) s).2≠0:=by simpa using hc
   have hc':(zM x (a+i) s).2=0:=by simpa using hc
   rw [if_neg hc] at hfx;exact ⟨⟨(i+1,(zM x (a+i) s).1),by omega,hxw,hfx⟩,by simp only [AS.le,leT,leH,zf,AsgK,AV.le,AV.leL,AObj.le,inH,idsT,idsH,AV.ids,AV.idsL,AV.idsR,AObj.ids,lk,hget,go_sem,aeq,aeq.aeqF,simprocAttr,hwi,hc'],by simp;omega⟩
 ·subst hend
  have hlay:layL d (numF a L)=(x,0):=by rw [hfx,List.drop_of_length_le (by rw [zlj];omega)];rfl
  refine' walkW hcmp (za zgK <| za zt <| zb _);rw [hlay]
@[go_sem] noncomputable def zcY:Ent Tryz.prog 281:= .ofL (consL zu (consL (dpT (consL (slT 1 strD zgD) nilL) (λp=>p) (λp=>p) (λ_=>rfl)) (consL (dpT (consL (intT .i64) nilL) (λp=>p) (λp=>p) (λ_=>rfl)) nilL))) (λ(d,(L,_),(a,_),_)=>(DiskF d)/\(L.length<=100)/\(0<=a)/\(a<=100)) (λ(d,(L,_),(a,_),_)=> .tup [diskA (layL d (numF a L)).1,.d (.int .i64 (layL d (numF a L)).2)]) (λ(d,(L,_),(a,_),_) hp=>⟨rfl,zs7 d L a hp.1 hp.2.1 hp.2.2.1 hp.2.2.2⟩)
open Go Go.Proofs
def runD:List (Disk->Disk×Int)->Disk->Disk×Int
 | [],d=>(d,0)
 |f::r,d=>if (f d).2≠0 then f d else runD r (f d).1
def zcH (A:Int) (L:List Txt) (p:Plan):List (Disk->Disk×Int):= [dflush,λd=>layL d (numF A L),dflush,λd=>play d p]
def zpA (A:Int) (L:List Txt) (p:Plan):List (List AV):= [[.fn (.func 242) [] []],[.fn (.func 281) [] [.dp [.d (.sl 1 (L.map strD))],.dp [.d (.int .i64 A)]]],[.fn (.func 242) [] []],[.fn (.func 282) [] [.dp [.d (.sl 1 (p.targets.map intD)),.d (.sl 1 (p.texts.map strD))]]]]
def wkD (d:Disk) (e:Int):List AV:= [.d (.str d.data),.d (.sl 2 (d.cache.map putD)),.d (.int .i64 d.fuse),.d (.bool d.off),.d (.sl 1 (d.bad.map intD)),.d (.int .i64 e)]
attribute [go_sem] wkD zpA
theorem DiskF.play {d:Disk} (h:DiskF d) (p:Plan):DiskF (play d p).1:=DiskF.layL _ h
theorem zys (d:Disk) (A:Int) (L:List Txt) (p:Plan) (hd:DiskF d) (hp:PlanOk p) (hl:p.targets.length=p.texts.length) (hn:L.length<=100) (h0:0<=A) (h1:A<=100):
  ACall Tryz.prog 241 6 [.vp 5 0,.asl 1 (zpA A L p)] [(5,.var (wkD d 0))] (λr h'=>∃ob',h'= [(5,ob')]/\r= .tup []/\ob'= .var (wkD (runD (zcH A L p) d).1 (runD (zcH A L p) d).2)):=by
 refine bod Tryz.func241 Tryz.ntmps241 (λbase=>?_);refine' walkW fx (za zbS <| za zcY <| za zcX <| zb _);refine zq (λq: { q:Nat×Disk // q.1<=4/\DiskF q.2/\runD (zcH A L p) d=runD ((zcH A L p).drop q.1) q.2 } =>⟨[(0,true,.vp 5 0),(6,true,.asl 1 (zpA A L p)),(7,true,.d (.int .i64 4)),(8,true,.d (.int .i64 q.1.1))],[(5,.var (wkD q.1.2 0))],some []⟩) (λq=>4 - q.1.1) ⟨(0,d),Nat.zero_le _,hd,rfl⟩ le1 (λq=>?_);obtain ⟨⟨k,x⟩,hk,hx,hr⟩:=q;simp only at hk hx hr ⊢;have hxo:=hx.ok;have hxp:=hx.puts;have h4:k=0\/k=1\/k=2\/k=3\/k=4:=by omega
 have hc0:((0:Nat):Int)=0:=rfl;have hc1:((1:Nat):Int)=1:=rfl;have hc2:((2:Nat):Int)=2:=rfl;have hc3:((3:Nat):Int)=3:=rfl;have hc4:((4:Nat):Int)=4:=rfl;have ht1:Int.toNat 1=1:=rfl;have ht2:Int.toNat 2=2:=rfl;have ht3:Int.toNat 3=3:=rfl;have hw1:IntKind.i64.wrap 1=1:=by decide
 have hw2:IntKind.i64.wrap 2=2:=by decide
 have hw3:IntKind.i64.wrap 3=3:=by decide
 have hw4:IntKind.i64.wrap 4=4:=by decide
 rcases h4 with rfl|rfl|rfl|rfl|rfl
 ·have hr':runD (zcH A L p) d=if (dflush x).2≠0 then dflush x else runD ((zcH A L p).drop 1) (dflush x).1:=hr
  have hxn:DiskF (dflush x).1:=hx.flush;refine' walkW (zn hc0 hw1) (za zbS <| za zcY <| za zcX <| zb _)
  ·have hc:(dflush x).2≠0:=by simpa using hc
   rw [if_pos hc] at hr';exact ⟨_,rfl,by rw [hr']⟩
  ·have hc:(dflush x).2=0:=by simpa using hc
   rw [if_neg (by rw [hc];decide)] at hr';exact ⟨⟨(1,(dflush x).1),by show (_:Nat)<=4;omega,hxn,hr'⟩,by simp only [AS.le,leT,leH,zf,AsgK,AV.le,AV.leL,AObj.le,inH,idsT,idsH,AV.ids,AV.idsL,AV.idsR,AObj.ids,lk,hget,go_sem,aeq,aeq.aeqF,simprocAttr,hw1,hc]<;>and_intros<;>rfl,by simp⟩
 ·have hr':runD (zcH A L p) d=if (layL x (numF A L)).2≠0 then layL x (numF A L) else runD ((zcH A L p).drop 2) (layL x (numF A L)).1:=hr
  have hxn:DiskF (layL x (numF A L)).1:=DiskF.layL _ hx;refine' walkW (zB hc1 hw2 ht1) (za zbS <| za zcY <| za zcX <| zb _)
  ·have hc:(layL x (numF A L)).2≠0:=by simpa using hc
   rw [if_pos hc] at hr';exact ⟨_,rfl,by rw [hr']⟩
  ·have hc:(layL x (numF A L)).2=0:=by simpa using hc
   rw [if_neg (by rw [hc];decide)] at hr';exact ⟨⟨(2,(layL x (numF A L)).1),by show (_:Nat)<=4;omega,hxn,hr'⟩,by simp only [AS.le,leT,leH,zf,AsgK,AV.le,AV.leL,AObj.le,inH,idsT,idsH,AV.ids,AV.idsL,AV.idsR,AObj.ids,lk,hget,go_sem,aeq,aeq.aeqF,simprocAttr,hw2,hc]<;>and_intros<;>rfl,by simp⟩
 ·have hr':runD (zcH A L p) d=if (dflush x).2≠0 then dflush x else runD ((zcH A L p).drop 3) (dflush x).1:=hr
  have hxn:DiskF (dflush x).1:=hx.flush;refine' walkW (zB hc2 hw3 ht2) (za zbS <| za zcY <| za zcX <| zb _)
  ·have hc:(dflush x).2≠0:=by simpa using hc
   rw [if_pos hc] at hr';exact ⟨_,rfl,by rw [hr']⟩
  ·have hc:(dflush x).2=0:=by simpa using hc
   rw [if_neg (by rw [hc];decide)] at hr';exact ⟨⟨(3,(dflush x).1),by show (_:Nat)<=4;omega,hxn,hr'⟩,by simp only [AS.le,leT,leH,zf,AsgK,AV.le,AV.leL,AObj.le,inH,idsT,idsH,AV.ids,AV.idsL,AV.idsR,AObj.ids,lk,hget,go_sem,aeq,aeq.aeqF,simprocAttr,hw3,hc]<;>and_intros<;>rfl,by simp⟩
 ·have hr':runD (zcH A L p) d=if (play x p).2≠0 then play x p else runD ((zcH A L p).drop 4) (play x p).1:=hr
  have hxn:DiskF (play x p).1:=hx.play p;refine' walkW (zB hc3 hw4 ht3) (za zbS <| za zcY <| za zcX <| zb _)
  ·have hc:(play x p).2≠0:=by simpa using hc
   rw [if_pos hc] at hr';exact ⟨_,rfl,by rw [hr']⟩
  ·have hc:(play x p).2=0:=by simpa using hc
   rw [if_neg (by rw [hc];decide)] at hr';exact ⟨⟨(4,(play x p).1),by show (_:Nat)<=4;omega,hxn,hr'⟩,by simp only [AS.le,leT,leH,zf,AsgK,AV.le,AV.leL,AObj.le,inH,idsT,idsH,AV.ids,AV.idsL,AV.idsR,AObj.ids,lk,hget,go_sem,aeq,aeq.aeqF,simprocAttr,hw4,hc]<;>and_intros<;>rfl,by simp⟩
 ·refine' walkW hc4 (za zbS <| za zcY <| za zcX <| zb _);have hr':runD (zcH A L p) d=(x,0):=hr;exact ⟨_,rfl,by rw [hr']⟩
theorem zs8 (d:Disk) (A:Int) (L:List Txt) (p:Plan) (j:Jour):(if (dflush d).2≠0 then ((dflush d).1,j,(dflush d).2) else jtail (dflush d).1 j p L A)=(if (runD (zcH (6+A) L p) d).2≠0 then ((runD (zcH (6+A) L p) d).1,j,(runD (zcH (6+A) L p) d).2) else ((runD (zcH (6+A) L p) d).1,⟨j.seq+1,A+L.length⟩,0)):=by
 simp only [zcH,runD,jtail];repeat' split
 all_goals simp_all
theorem zon (d:Disk) (j:Jour) (p:Plan) (hp:DiskF d/\pfit p=true/\0<=j.seq/\j.seq<18446744073709551616):AC 196 [diskA d,jourA j,planA p] (.tup [diskA (jcommit d j p).1,jourA (jcommit d j p).2.1,.d (.int .i64 (jcommit d j p).2.2)]):=by
 obtain ⟨hd,hf,h0,h1⟩:=hp;refine fbod Tryz.func196 Tryz.ntmps196 (λbase=>?_);obtain ⟨hl,h24,h64⟩:=zay hf;have hpo:PlanOk p:=⟨by omega,by omega⟩
 have hdo:=hd.ok;have hdp:=hd.puts;by_cases hn:p.targets.length=0
 ·have hb:((p.targets.length:Int)==0)=true:=by rw [hn];rfl
  refine' walkW hb (za zcG <| za zdI <| za zdd <| za zeE <| za zeF <| zb _);rw [jcommit,if_pos hn]
 have hb:((p.targets.length:Int)==0)=false:=by rw [beq_eq_false_iff_ne];omega
 by_cases hs:4611686018427387904<=j.seq
 ·have hb2:decide (4611686018427387904<=j.seq)=true:=decide_eq_true hs;refine' walkW (zn hb hb2) (za zcG <| za zdI <| za zdd <| za zeE <| za zeF <| zb _);rw [jcommit,if_neg hn,if_pos hs]
 have hb2:decide (4611686018427387904<=j.seq)=false:=decide_eq_false hs;obtain ⟨htl,ht64⟩:=zfP j.seq hf;have hjr:=zfO j.pos (zb4 j.seq p).length;have hjc:jcommit d j p=if (dflush d).2≠0 then ((dflush d).1,j,(dflush d).2) else jtail (dflush d).1 j p (zb4 j.seq p) (zcE j.pos (zb4 j.seq p).length):=by rw [jcommit,if_neg hn,if_neg hs]
 rw [zs8] at hjc;obtain ⟨L,hL⟩:∃L,L=zb4 j.seq p:=⟨_,rfl⟩
 rw [<-hL] at htl ht64 hjr hjc;obtain ⟨A,hA⟩:∃A,A=zcE j.pos L.length:=⟨_,rfl⟩
 rw [<-hA] at hjr hjc;have hw6:IntKind.i64.wrap (6+A)=6+A:=zg (by omega) (by omega);refine' zgF (zav 9) (zah hb hb2 hL.symm hA.symm) (za zcG <| za zdI <| za zdd <| za zeE <| za zeF <| zb _);obtain ⟨X,hX⟩:∃X,X=runD (zcH (6+A) L p) d:=⟨_,rfl⟩
 have hdo2:=zys d (6+A) L p hd hpo hl (by omega) (by omega) (by omega);rw [<-hX] at hdo2 hjc;refine' zr9 (ownsL [0]) hw6 (za zcG <| za zdI <| za zdd <| za zeE <| za zeF <| zb _);refine (hdo2.one (fl':=0) rfl rfl (zJ rfl) rfl (by simp [AObj.ids,AV.idsL,AV.ids,wkD]) (by simp [AV.idsL,AV.ids,AV.idsR,zpA]) (by omega)).mono ?_;rintro r h' ⟨ob',⟨rfl,rfl⟩,rfl⟩;have hws:IntKind.u64.wrap (j.seq+1)=j.seq+1:=zad (by omega) (by omega);have hwl:IntKind.i64.wrap (A+(L.length:Int))=A+L.length:=zg (by omega) (by omega);simp only [go_sem,aeq,aeq.aeqF,simprocAttr,wkD];refine hK _ ?_;clear hK K;refine' walkW (zn hws hwl) (za zcG <| za zdI <| za zdd <| za zeE <| za zeF <| zb _)
 ·have hc:X.2≠0:=by simpa using hc
  rw [hjc,if_pos hc]
 ·have hc:¬X.2≠0:=by simpa using hc
  rw [hjc,if_neg hc]
@[go_sem] noncomputable def zlt:Ent Tryz.prog 196:= .m3 zu zli zw zon
end Go.Aw
