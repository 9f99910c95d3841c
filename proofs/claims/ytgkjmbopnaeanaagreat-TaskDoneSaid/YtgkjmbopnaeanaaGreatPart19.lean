/-
  Parts of the proof: TxnC, TxnD (short names; the readable texts lie in the repo, under wip).
-/
import Derived.Test.YtgkjmbopnaeanaaGreatPart18
set_option maxRecDepth 100000
set_option maxHeartbeats 2000000
set_option linter.unusedSimpArgs false
set_option linter.unusedVariables false
namespace Go.Aw
open Go Go.Proofs
theorem zwB (n size:Int) (hp:0≤n∧n<18446744073709551616):AC 264 [.d (.int .u64 n),.d (.int .i64 size)] (.d (.str (putS8 n size))):=by
 obtain ⟨h0,h1⟩:=hp
 refine bod Tryz.func264 Tryz.ntmps264 (fun base=>?_)
 refine' walkW fx (za zbH <| za zhD <| zb _)
@[go_sem] noncomputable def zis:Ent Tryz.prog 264:= .m2 (intT .u64) (intT .i64) zwB
theorem zwC (n size:Int) (hp:0≤n∧n<9223372036854775808):AC 265 [.d (.int .i64 n),.d (.int .i64 size)] (.d (.str (putS8 n size))):=by
 obtain ⟨h0,h1⟩:=hp
 refine bod Tryz.func265 Tryz.ntmps265 (fun base=>?_)
 have hw:IntKind.u64.wrap n=n:=zT (by omega) (by omega)
 refine' walkW hw (za zbH <| za zhD <| zb _)
@[go_sem] noncomputable def zfj:Ent Tryz.prog 265:= .m2 (intT .i64) (intT .i64) zwC
theorem zwD (s:Txt) (hs:s.length≤9223372036854775807):AC 267 [.d (.str s)] (.d (.str (padR s))):=by
 refine bod Tryz.func267 Tryz.ntmps267 (fun base=>?_)
 refine' walkW fx (za zbH <| za zhD <| zb _)
 rfl
@[go_sem] noncomputable def zfk:Ent Tryz.prog 267:= .m1 strT zwD
def zcT (l:List Int):List (List Int):=if l= [] then [] else if l.length≤16 then [l] else [l.take 16,l.drop 16]
def zaT (l:List Int):List AV:= [.d (.sl 1 (l.map intD))]
theorem zuE (l:List Int):ACall Tryz.prog 281 0 [.d (.sl 1 (l.map intD)),.d (.int .i64 16)] [] (fun r _=>r= .fn (.func 291) [] [.dp [.d (.sl 1 (l.map intD))],.dp [.d (.int .i64 16)]]):=by
 refine fbod Tryz.func281 Tryz.ntmps281 (fun base=>?_)
 refine' zc fx
@[go_sem] noncomputable def zqr:Ent Tryz.prog 281:= .ofL (consL (slT 1 intD zc2) (consL (zjt (.d (.int .i64 16))) nilL)) (fun (l,_,_)=>True) (fun (l,_,_)=> .fn (.func 291) [] [.dp [.d (.sl 1 (l.map intD))],.dp [.d (.int .i64 16)]]) (fun (l,_,_) hp=>⟨rfl,zuE l⟩)
abbrev Cst (l:List Int):= { q:Nat×List (List AV) // (q.1=0∧q.2= [])∨(q.1=16∧0<l.length∧q.2= [zaT (l.take 16)])∨(q.1=32∧16<l.length∧q.2= [zaT (l.take 16),zaT (l.drop 16)]) }
theorem zlZ (l:List Int) (hl:l.length≤24) (fl:Nat):AIter Tryz.prog 291 fl [] [.dp [.d (.sl 1 (l.map intD))],.dp [.d (.int .i64 16)]] [] ((zcT l).map zaT) (fun g h'=>(∀xs,g=some xs→xs=(zcT l).map zaT)∧h'= []):=by
 refine itr Tryz.func291 Tryz.ntmps291 (fun base y=>?_)
 refine' zaz fx
 refine zo (fun q:Cst l=>⟨[(0,true,.fn (.yield y.yl) [] []),(1,true,.dp [.d (.sl 1 (l.map intD))]),(2,true,.dp [.d (.int .i64 16)]),(4,true,.d (.int .i64 q.1.1))],[],some q.1.2⟩) (fun q=>40 - q.1.1) ⟨(0,[]),.inl ⟨rfl,rfl⟩⟩ le1 (fun q=>?_)
 obtain ⟨⟨i,xs⟩,hi⟩:=q
 simp only at hi ⊢
 rcases hi with ⟨rfl,rfl⟩|⟨rfl,h0,rfl⟩|⟨rfl,h16,rfl⟩
 ·by_cases h:l= []
  ·subst h
   refine' zaz fx
   rintro zs rfl
   rfl
  ·have hpos:0<l.length:=List.length_pos_iff.2 h
   have hcmp:decide ((0:Int)<(l.length:Int))=true:=decide_eq_true (by omega)
   obtain ⟨n,hn⟩:∃n,n=min 16 l.length:=⟨_,rfl⟩
   have hm:imin 16 (l.length:Int)=(n:Int):=by unfold imin;split<;>omega
   have hw:IntKind.i64.wrap (0+(n:Int))=n:=by rw [Int.zero_add];exact ze (by omega) (by omega)
   have ht:(l.map intD).take n=(l.take 16).map intD:=by
    rw [← List.map_take]
    rcases Nat.le_total l.length 16 with h2|h2
    ·rw [hn,Nat.min_eq_right h2,List.take_length,List.take_of_length_le h2]
    ·rw [hn,Nat.min_eq_left h2]
   have hc0:((0:Nat):Int)=0:=rfl
   have hz:(Int.toNat 0)=0:=rfl
   refine' zaz (zq hc0 hcmp hm hw hz (zr natC @List.drop_zero.{0} ht))
   ·unfold zcT
    rw [if_neg h]
    split
    ·rename_i h2
     rw [List.take_of_length_le h2]
     exact ⟨[],rfl⟩
    ·exact ⟨[zaT (l.drop 16)],rfl⟩
   ·have hw16:IntKind.i64.wrap 16=16:=by decide
    exact ⟨⟨(16,[zaT (l.take 16)]),.inr (.inl ⟨rfl,hpos,rfl⟩)⟩,by simp only [AS.le,leT,leH,zf,AsgK,AV.le,AV.leL,AObj.le,inH,idsT,idsH,AV.ids,AV.idsL,AV.idsR,AObj.ids,lk,hget,go_sem,aeq,aeq.aeqF,simprocAttr,hw16,zaT]<;>and_intros<;>rfl,by simp⟩
 ·rcases Nat.lt_or_ge 16 l.length with h16|h16
  ·have hcmp:decide ((16:Int)<(l.length:Int))=true:=decide_eq_true (by omega)
   obtain ⟨n,hn⟩:∃n,n=l.length - 16:=⟨_,rfl⟩
   have hdl:((l.drop 16).length:Int)=(n:Int):=by simp [hn]
   have hm:imin 16 (n:Int)=(n:Int):=by unfold imin;split<;>omega
   have hw:IntKind.i64.wrap (16+(n:Int))=((16+n:Nat):Int):=by rw [ze (by omega) (by omega)];omega
   have ht:(l.map intD).take (16+n)=l.map intD:=List.take_of_length_le (by simp;omega)
   have hmd:(l.map intD).drop 16=(l.drop 16).map intD:=by rw [← List.map_drop]
   have hc0:((16:Nat):Int)=16:=rfl
   have hz:(Int.toNat 16)=16:=rfl
   refine' zaz (zq hc0 hcmp hm hw hz (zS hdl natC ht hmd))
   ·unfold zcT
    rw [if_neg (by intro e;rw [e] at h16;simp at h16),if_neg (by omega)]
    exact ⟨[],rfl⟩
   ·have hw32:IntKind.i64.wrap 32=32:=by decide
    exact ⟨⟨(32,[zaT (l.take 16),zaT (l.drop 16)]),.inr (.inr ⟨rfl,h16,rfl⟩)⟩,by simp only [AS.le,leT,leH,zf,AsgK,AV.le,AV.leL,AObj.le,inH,idsT,idsH,AV.ids,AV.idsL,AV.idsR,AObj.ids,lk,hget,go_sem,aeq,aeq.aeqF,simprocAttr,hw32,zaT]<;>and_intros<;>rfl,by simp⟩
  ·have hcmp:decide ((16:Int)<(l.length:Int))=false:=decide_eq_false (by omega)
   have hc0:((16:Nat):Int)=16:=rfl
   refine' zaz (zk hc0 hcmp)
   rintro zs rfl
   unfold zcT
   rw [if_neg (by intro e;rw [e] at h0;simp at h0),if_pos h16,List.take_of_length_le h16]
   rfl
 ·have hcmp:decide ((32:Int)<(l.length:Int))=false:=decide_eq_false (by omega)
  have hc0:((32:Nat):Int)=32:=rfl
  refine' zaz (zk hc0 hcmp)
  rintro zs rfl
  unfold zcT
  rw [if_neg (by intro e;rw [e] at h16;simp at h16),if_neg (by omega)]
  rfl
open Go Go.Proofs
def bItem (s:Txt):List AV:= [.d (.str s)]
def unC (x:List AV):List AV:=
 match x with
 | [.d (.sl _ rows)]=>bItem (padR (encT (rows.map fun r=>match r with| [.int _ n]=>n|_=>0)))
 |_=> []
theorem zpe (c:List Int):unC (zaT c)=bItem (padR (encT c)):=by
 simp only [unC,zaT,List.map_map]
 have:((fun r:List D=>match r with| [.int _ n]=>n|_=>(0:Int)) ∘ intD)=id:=rfl
 rw [this,List.map_id]
theorem znH (l:List (List Int)):(l.map zaT).map unC=l.map (fun c=>bItem (padR (encT c))):=by
 rw [List.map_map]
 exact List.map_congr_left (fun c _=>zpe c)
theorem znI {l:List Int} (h:l≠ []):trows l=(zcT l).map (fun c=>padR (encT c)):=by
 unfold trows zcT
 rw [if_neg h]
 split<;>rfl
theorem zit {p:Plan} (h:p.targets≠ []):(tbody p).map bItem=(zcT p.targets).map (fun c=>bItem (padR (encT c)))++p.texts.map bItem:=by
 rw [tbody,znI h,List.map_append,List.map_map]
 rfl
theorem znJ {l c:List Int} (h:c∈zcT l) (hl:l.length≤24):c.length≤16∧∀t∈c,t∈l:=by
 unfold zcT at h
 split at h
 ·cases h
 split at h
 ·rename_i h1 h2
  obtain rfl:c=l:=by simpa using h
  exact ⟨h2,fun t ht=>ht⟩
 ·rcases List.mem_cons.1 h with rfl|h
  ·exact ⟨by simp;omega,fun t ht=>List.mem_of_mem_take ht⟩
  ·obtain rfl:c=l.drop 16:=by simpa using h
   exact ⟨by simp;omega,fun t ht=>List.mem_of_mem_drop ht⟩
theorem zf4:liesAt Tryz.prog Tryz.prog.depth 85 (2 / Tryz.prog.cellsOf 85) 0 85 1=true:=by kernel_rfl
theorem zkB (p:Plan) (hp:PlanOk p) (h24:p.targets.length≤24) (hne:p.targets≠ []) (hr:∀t∈p.targets,0≤t∧t<1024):AIter Tryz.prog 280 100 [] [.dp [.d (.sl 1 (p.targets.map intD)),.d (.sl 1 (p.texts.map strD))]] [] ((tbody p).map bItem) (fun g h'=>(∀xs,g=some xs→xs=(tbody p).map bItem)∧h'= []):=by
 refine itr Tryz.func280 Tryz.ntmps280 (fun base y=>?_)
 refine ze9 ?_
 refine' walkX fx (za zqr <| zb _)
 obtain ⟨I,hI⟩:∃I:List (List AV)→AHeap×Option (List (List AV)),I=fun xs=>([(100,.var [.fn (.yield y.yl) [] []])],some (xs.map unC)):=⟨_,rfl⟩
 obtain ⟨G,hG⟩:∃G:List (List AV)→Prop,G=fun _=>True:=⟨_,rfl⟩
 obtain ⟨J,hJ⟩:∃J:Code→AHeap→Option (List (List AV))→Prop,J=fun c h g=>c= .ret∧h= [(100,.var [.fn (.yield y.yl) [] []])]∧g=none:=⟨_,rfl⟩
 refine zbz 200 G I J (zlZ p.targets h24 200) (by simp only [go_sem,aeq,aeq.aeqF,simprocAttr]) rfl (z2 rfl) (by simp [cxOf,cxY]) rfl (by rw [hG];first|trivial|rfl|simp) (by rw [hI];simp only [AS.le,leT,leH,zf,AsgK,AV.le,AV.leL,AObj.le,inH,idsT,idsH,AV.ids,AV.idsL,AV.idsR,AObj.ids,lk,hget,go_sem,aeq,aeq.aeqF,simprocAttr]<;>simp [AV.leL,AV.le]) (by rw [hI];simp only [AS.le,leT,leH,zf,AsgK,AV.le,AV.leL,AObj.le,inH,idsT,idsH,AV.ids,AV.idsL,AV.idsR,AObj.ids,lk,hget,go_sem,aeq,aeq.aeqF,simprocAttr]<;>simp) (by rw [hI]<;>rfl) (by intro x hx;obtain ⟨q,_,rfl⟩:=List.mem_map.1 hx;rfl) (by intro t ht;simp at ht;first|(rcases ht with rfl|rfl<;>simp [cxOf,cxY]<;>done)|(subst ht;simp [cxOf,cxY])) ?_ ?_ ?_
 ·intro xs x hpre hgd l1 r1
  obtain ⟨ys,c,zs,rfl,rfl,hzl⟩:=zdT hpre
  have hcm:c∈zcT p.targets:=by rw [hzl];simp
  obtain ⟨hc16,hcr⟩:=znJ hcm h24
  have hit:(ys.map (fun c=>bItem (padR (encT c)))++ [bItem (padR (encT c))])<+:(tbody p).map bItem:=by
   rw [zit hne,hzl,List.map_append,List.map_cons]
   exact ⟨zs.map (fun c=>bItem (padR (encT c)))++p.texts.map bItem,by simp⟩
  simp only [zaT]
  refine aw_le ⟨[(12,true,.d (.sl 1 (c.map intD))),(2,true,.vp 100 0)],[(100,.var [.fn (.yield y.yl) [] []])],some (ys.map (fun c=>bItem (padR (encT c))))⟩ (by rw [hI];simp only [znH];simp only [AS.le,leT,leH,zf,AsgK,AV.le,AV.leL,AObj.le,inH,idsT,idsH,AV.ids,AV.idsL,AV.idsR,AObj.ids,lk,hget,go_sem,aeq,aeq.aeqF,simprocAttr]) ?_
  refine' zaz hI
  refine zgs 200 1 rfl rfl ?_
  simp only [go_sem,aeq,aeq.aeqF,simprocAttr]
  refine zo (fun q: { i:Nat // i≤c.length } =>⟨[(2,true,.vp 100 0),(4,true,.tp 200 0),(13,true,.d (.sl 1 (c.map intD))),(14,true,.d (.int .i64 c.length)),(15,true,.d (.int .i64 q.1))],[(201,.buf 5 (encT (c.take q.1))),(200,.tvar 85 [if q.1=0 then .d .nilp else .tp 200 0,.bsl 201 (encT (c.take q.1)).length]),(100,.var [.fn (.yield y.yl) [] []])],some (ys.map (fun c=>bItem (padR (encT c))))⟩) (fun q=>c.length - q.1) ⟨0,Nat.zero_le _⟩ (by simp only [AS.le,leT,leH,zf,AsgK,AV.le,AV.leL,AObj.le,inH,idsT,idsH,AV.ids,AV.idsL,AV.idsR,AObj.ids,lk,hget,go_sem,aeq,aeq.aeqF,simprocAttr,if_true,List.take_zero]<;>and_intros<;>rfl) (fun q=>?_)
  obtain ⟨i,hi⟩:=q
  simp only at hi ⊢
  rcases zD intD c i hi with ⟨t,hq,hlt,hcmp,hrow,hdr,htk⟩|⟨hend,hcmp⟩
  ·simp only [intD] at hrow
   have hwi:=zn (i:=i) (by omega)
   obtain ⟨ht0,ht1⟩:=hr t (hcr t (List.mem_of_getElem? hq))
   have hel:(encT (c.take i)).length≤64:=by rw [zeF,List.length_take];omega
   have hpl:putS8 t 4=putN t.toNat 4:=rfl
   have hpn:(putN t.toNat 4).length=4:=zu _ _
   have hsn:encT (c.take (i+1))=encT (c.take i)++putN t.toNat 4:=by rw [htk,zij]
   refine' walkX (zr hcmp hrow hpl) (za zfj <| za zfk <| zb _)
   refine (zeK (i:=200) (j:=201) (o:=0) (T:=85) (cs:= [if i=0 then .d .nilp else .tp 200 0,.bsl 201 (encT (c.take i)).length]) (xs:=encT (c.take i)) rfl (by by_cases h0:i=0<;>simp [h0]) rfl rfl rfl zf4 (by omega)).mono ?_
   rintro r h' ⟨rfl,rfl⟩
   refine' zaz fx
   have hif:(if i+1=0 then AV.d .nilp else AV.tp 200 0)= .tp 200 0:=if_neg (by omega)
   exact ⟨⟨i+1,by omega⟩,by simp only [AS.le,leT,leH,zf,AsgK,AV.le,AV.leL,AObj.le,inH,idsT,idsH,AV.ids,AV.idsL,AV.idsR,AObj.ids,lk,hget,go_sem,aeq,aeq.aeqF,simprocAttr,hwi,hsn,hif,List.length_append],by simp;omega⟩
  ·have htk:c.take i=c:=by rw [hend,List.take_length]
   rw [htk]
   have hel:(encT c).length≤64:=by rw [zeF];omega
   obtain ⟨x0,hx0⟩:∃x0,x0=(if i=0 then AV.d .nilp else AV.tp 200 0):=⟨_,rfl⟩
   rw [← hx0]
   refine' zrH (zbh 9) hcmp
   have hh:HotOk Tryz.prog 200 (hotOf noHot 36 [.tp 200 0] [(201,.buf 5 (encT c)),(200,.tvar 85 [x0,.bsl 201 (encT c).length]),(100,.var [.fn (.yield y.yl) [] []])] (.d (.str (encT c))) [(201,.buf 5 gone),(200,.tvar 85 [x0,.bsl 201 (encT c).length]),(100,.var [.fn (.yield y.yl) [] []])]):=
    ztR (ztQ _ _) (fun K hK=>(zgr (i:=200) (j:=201) (o:=0) (T:=85) (cs:= [x0,.bsl 201 (encT c).length]) (xs:=encT c) rfl rfl rfl rfl (by omega)).mono (by rintro r h' ⟨rfl,rfl⟩;exact hK))
   refine zae (fun K2 hK2=>zkf _ _ (za zfj <| za zfk <| zb Tryz.prog) hh (by kernel_rfl) ?_)
   clear hh
   have hKT:∀s',s'.le ⟨[(27,true,.d (.bool false))],[(100,.var [.fn (.yield y.yl) [] []])],some (ys.map (fun c=>bItem (padR (encT c)))++ [[.d (.str (padR (encT c)))]])⟩→K2 s':=fun s' hle=>hK2 _ (aw_le _ hle (by
    refine' zaz hI
    ·rw [hG];trivial
    ·rw [List.map_append,znH,List.map_singleton,show unC [AV.d (.sl 1 (c.map intD))]= [.d (.str (padR (encT c)))] from zpe c]))
   have hKF:∀s',s'.le ⟨[(27,true,.d (.bool true))],[(100,.var [.fn (.yield y.yl) [] []])],none⟩→K2 s':=fun s' hle=>hK2 _ (aw_le _ hle (by
    refine' zaz hI
    ·rw [hJ];exact ⟨rfl,rfl,rfl⟩))
   have hit':(ys.map (fun c=>bItem (padR (encT c)))++ [[.d (.str (padR (encT c)))]])<+:(tbody p).map bItem:=hit
   clear hK2 hit
   simp only [go_sem,aeq,aeq.aeqF,simprocAttr]
   repeat' (with_reducible refine And.intro ?_ ?_)
   all_goals first|omega|exact hit'|(refine hKT _ ?_;(simp only [AS.le,leT,leH,zf,AsgK,AV.le,AV.leL,AObj.le,inH,idsT,idsH,AV.ids,AV.idsL,AV.idsR,AObj.ids,lk,hget,go_sem,aeq,aeq.aeqF,simprocAttr]);done)|(refine hKF _ ?_;(simp only [AS.le,leT,leH,zf,AsgK,AV.le,AV.leL,AObj.le,inH,idsT,idsH,AV.ids,AV.idsL,AV.idsR,AObj.ids,lk,hget,go_sem,aeq,aeq.aeqF,simprocAttr]);done)
 ·intro _
  rw [hI]
  simp only [znH]
  obtain ⟨B,hB⟩:∃B,B=(zcT p.targets).map (fun c=>bItem (padR (encT c))):=⟨_,rfl⟩
  have hall:(tbody p).map bItem=B++p.texts.map bItem:=by rw [hB];exact zit hne
  rw [← hB]
  refine' zaz fx
  have htx:=hp.texts
  refine zo (fun q: { i:Nat // i≤p.texts.length } =>⟨[(2,true,.vp 100 0),(29,true,.d (.sl 1 (p.texts.map strD))),(30,true,.d (.int .i64 p.texts.length)),(31,true,.d (.int .i64 q.1))],[(100,.var [.fn (.yield y.yl) [] []])],some (B++(p.texts.take q.1).map bItem)⟩) (fun q=>p.texts.length - q.1) ⟨0,Nat.zero_le _⟩ (by simp only [AS.le,leT,leH,zf,AsgK,AV.le,AV.leL,AObj.le,inH,idsT,idsH,AV.ids,AV.idsL,AV.idsR,AObj.ids,lk,hget,go_sem,aeq,aeq.aeqF,simprocAttr]<;>simp) (fun q=>?_)
  obtain ⟨i,hi⟩:=q
  simp only at hi ⊢
  rcases zD strD p.texts i hi with ⟨s,hq,hlt,hcmp,hrow,hdr,htk⟩|⟨hend,hcmp⟩
  ·simp only [strD] at hrow
   have hwi:=zn (i:=i) (by omega)
   have hpr:((B++(p.texts.take i).map bItem)++ [[.d (.str s)]])<+:(tbody p).map bItem:=by
    rw [hall]
    refine ⟨(p.texts.drop (i+1)).map bItem,?_⟩
    have h1:=List.take_append_drop i p.texts
    rw [hdr] at h1
    conv=>rhs;rw [← h1]
    simp [bItem]
   refine' zaz (zk hcmp hrow)
   exact ⟨⟨i+1,by omega⟩,by simp only [AS.le,leT,leH,zf,AsgK,AV.le,AV.leL,AObj.le,inH,idsT,idsH,AV.ids,AV.idsL,AV.idsR,AObj.ids,lk,hget,go_sem,aeq,aeq.aeqF,simprocAttr,hwi,htk,List.map_append,List.append_assoc,bItem,List.map_singleton],by simp;omega⟩
  ·refine' zaz hcmp
   rintro zs rfl
   rw [hall,hend,List.take_length]
 ·rw [hJ]
  rintro c h3 g3 ⟨rfl,rfl,rfl⟩
  refine' zaz fx
end Go.Aw
