/-
  Parts of the proof: TxnB, TxnC, TxnD, TxnE, JourA, JourB, JourC (short names; the readable texts lie in the repo, under wip).
-/
import Derived.Test.YtbmlikkofegdeaaGreatPart23
import Derived.Test.YtbmlikkofegdeaaGreatPart17
import Derived.Test.YtbmlikkofegdeaaGreatPart20
import Derived.Test.YtbmlikkofegdeaaGreatPart21
import Derived.Test.YtbmlikkofegdeaaGreatPart19
set_option maxRecDepth 100000
set_option maxHeartbeats 2000000
set_option linter.unusedSimpArgs false
set_option linter.unusedVariables false
namespace Go.Aw
open Go Go.Proofs
structure Tx where
 seq:Int
 plan:Plan
 deriving DecidableEq
def txA (t:Tx):AV:= .agg [.d (.int .u64 t.seq),.d (.sl 1 (t.plan.targets.map intD)),.d (.sl 1 (t.plan.texts.map strD))]
attribute [go_sem] txA
theorem zsO (t:Tx):Tx.mk t.seq t.plan=t:=rfl
noncomputable def txA_T:PT Tx:=aggT (consL (intT .u64) (consL (slT 1 intD zbP) (consL (slT 1 strD zeD) nilL))) (fun p=>⟨p.1,⟨p.2.1,p.2.2.1⟩⟩) (fun x=>(x.seq,x.plan.targets,x.plan.texts,())) (fun _=>rfl)
attribute [go_sem] txA_T
attribute [go_sem] zsO
theorem zoi (l:List Int) (t:Int):encT (l++ [t])=encT l++putN t.toNat 4:=by simp [encT]
theorem zeJ (l:List Int):(encT l).length=4*l.length:=by
 induction l with
 |nil=>rfl
 |cons a l ih=>simp only [encT,List.flatMap_cons,List.length_append,zZ,List.length_cons] at ih ⊢;omega
theorem zoj (l:List Txt) (c:Int) (s:Txt):tsum c (l++ [s])=sumOf (tsum c l) s:=by simp [tsum]
theorem zfX {s:Txt} (h:s.length≤64):(padR s).length=64:=by
 rw [padR,padS,if_neg (by omega)]
 simp;omega
theorem zok (l:List Int) (h:l.length≤24):∀s∈trows l,s.length=64:=by
 intro s hs
 unfold trows at hs
 split at hs
 ·simp only [List.mem_singleton] at hs
  subst hs
  exact zfX (by rw [zeJ];omega)
 ·simp only [List.mem_cons,List.not_mem_nil,or_false] at hs
  rcases hs with rfl|rfl
  ·exact zfX (by rw [zeJ,List.length_take];omega)
  ·exact zfX (by rw [zeJ,List.length_drop];omega)
theorem zjy {p:Plan} (hf:pfit p=true):∀s∈tbody p,s.length=64:=by
 obtain ⟨hl,h24,h64⟩:=zau hf
 intro s hs
 rcases List.mem_append.1 hs with h|h
 ·exact zok _ h24 s h
 ·exact h64 s h
theorem zd8 (c:Int):(zeI c).length=4:=rfl
open Go Go.Proofs
theorem zrR (n size:Int) (hp:0≤n∧n<18446744073709551616):AC 144 [.d (.int .u64 n),.d (.int .i64 size)] (.d (.str (putS8 n size))):=by
 obtain ⟨h0,h1⟩:=hp
 refine bod Tryz.func144 Tryz.ntmps144 (fun base=>?_)
 refine' walkW fx (za zcG <| za zfT <| zb _)
@[go_sem] noncomputable def zgI:Ent Tryz.prog 144:= .m2 (intT .u64) (intT .i64) zrR
theorem zrS (n size:Int) (hp:0≤n∧n<9223372036854775808):AC 145 [.d (.int .i64 n),.d (.int .i64 size)] (.d (.str (putS8 n size))):=by
 obtain ⟨h0,h1⟩:=hp
 refine bod Tryz.func145 Tryz.ntmps145 (fun base=>?_)
 have hw:IntKind.u64.wrap n=n:=zat (by omega) (by omega)
 refine' walkW hw (za zcG <| za zfT <| zb _)
@[go_sem] noncomputable def zdV:Ent Tryz.prog 145:= .m2 (intT .i64) (intT .i64) zrS
theorem zrT (s:Txt) (hs:s.length≤9223372036854775807):AC 148 [.d (.str s)] (.d (.str (padR s))):=by
 refine bod Tryz.func148 Tryz.ntmps148 (fun base=>?_)
 refine' walkW fx (za zcG <| za zfT <| zb _)
 rfl
@[go_sem] noncomputable def zdW:Ent Tryz.prog 148:= .m1 strT zrT
def zbG (l:List Int):List (List Int):=if l= [] then [] else if l.length≤16 then [l] else [l.take 16,l.drop 16]
def zai (l:List Int):List AV:= [.d (.sl 1 (l.map intD))]
theorem zqk (l:List Int):ACall Tryz.prog 186 0 [.d (.sl 1 (l.map intD)),.d (.int .i64 16)] [] (fun r _=>r= .fn (.func 199) [] [.dp [.d (.sl 1 (l.map intD))],.dp [.d (.int .i64 16)]]):=by
 refine fbod Tryz.func186 Tryz.ntmps186 (fun base=>?_)
 refine' zf fx
@[go_sem] noncomputable def zmN:Ent Tryz.prog 186:= .ofL (consL (slT 1 intD zbP) (consL (zlo (.d (.int .i64 16))) nilL)) (fun (l,_,_)=>True) (fun (l,_,_)=> .fn (.func 199) [] [.dp [.d (.sl 1 (l.map intD))],.dp [.d (.int .i64 16)]]) (fun (l,_,_) hp=>⟨rfl,zqk l⟩)
abbrev Cst (l:List Int):= { q:Nat×List (List AV) // (q.1=0∧q.2= [])∨(q.1=16∧0<l.length∧q.2= [zai (l.take 16)])∨(q.1=32∧16<l.length∧q.2= [zai (l.take 16),zai (l.drop 16)]) }
theorem zjD (l:List Int) (hl:l.length≤24) (fl:Nat):AIter Tryz.prog 199 fl [] [.dp [.d (.sl 1 (l.map intD))],.dp [.d (.int .i64 16)]] [] ((zbG l).map zai) (fun g h'=>(∀xs,g=some xs→xs=(zbG l).map zai)∧h'= []):=by
 refine itr Tryz.func199 Tryz.ntmps199 (fun base y=>?_)
 refine' zay fx
 refine zC (fun q:Cst l=>⟨[(0,true,.fn (.yield y.yl) [] []),(1,true,.dp [.d (.sl 1 (l.map intD))]),(2,true,.dp [.d (.int .i64 16)]),(4,true,.d (.int .i64 q.1.1))],[],some q.1.2⟩) (fun q=>40 - q.1.1) ⟨(0,[]),.inl ⟨rfl,rfl⟩⟩ le1 (fun q=>?_)
 obtain ⟨⟨i,xs⟩,hi⟩:=q
 simp only at hi ⊢
 rcases hi with ⟨rfl,rfl⟩|⟨rfl,h0,rfl⟩|⟨rfl,h16,rfl⟩
 ·by_cases h:l= []
  ·subst h
   refine' zay fx
   rintro zs rfl
   rfl
  ·have hpos:0<l.length:=List.length_pos_iff.2 h
   have hcmp:decide ((0:Int)<(l.length:Int))=true:=decide_eq_true (by omega)
   obtain ⟨n,hn⟩:∃n,n=min 16 l.length:=⟨_,rfl⟩
   have hm:imin 16 (l.length:Int)=(n:Int):=by unfold imin;split<;>omega
   have hw:IntKind.i64.wrap (0+(n:Int))=n:=by rw [Int.zero_add];exact zi (by omega) (by omega)
   have ht:(l.map intD).take n=(l.take 16).map intD:=by
    rw [← List.map_take]
    rcases Nat.le_total l.length 16 with h2|h2
    ·rw [hn,Nat.min_eq_right h2,List.take_length,List.take_of_length_le h2]
    ·rw [hn,Nat.min_eq_left h2]
   have hc0:((0:Nat):Int)=0:=rfl
   have hz:(Int.toNat 0)=0:=rfl
   refine' zay (zY hc0 hcmp hm hw hz (zN natC @List.drop_zero.{0} ht))
   ·unfold zbG
    rw [if_neg h]
    split
    ·rename_i h2
     rw [List.take_of_length_le h2]
     exact ⟨[],rfl⟩
    ·exact ⟨[zai (l.drop 16)],rfl⟩
   ·have hw16:IntKind.i64.wrap 16=16:=by decide
    exact ⟨⟨(16,[zai (l.take 16)]),.inr (.inl ⟨rfl,hpos,rfl⟩)⟩,by simp only [AS.le,leT,leH,zh,AsgK,AV.le,AV.leL,AObj.le,inH,idsT,idsH,AV.ids,AV.idsL,AV.idsR,AObj.ids,lk,hget,go_sem,aeq,aeq.aeqF,simprocAttr,hw16,zai]<;>and_intros<;>rfl,by simp⟩
 ·rcases Nat.lt_or_ge 16 l.length with h16|h16
  ·have hcmp:decide ((16:Int)<(l.length:Int))=true:=decide_eq_true (by omega)
   obtain ⟨n,hn⟩:∃n,n=l.length - 16:=⟨_,rfl⟩
   have hdl:((l.drop 16).length:Int)=(n:Int):=by simp [hn]
   have hm:imin 16 (n:Int)=(n:Int):=by unfold imin;split<;>omega
   have hw:IntKind.i64.wrap (16+(n:Int))=((16+n:Nat):Int):=by rw [zi (by omega) (by omega)];omega
   have ht:(l.map intD).take (16+n)=l.map intD:=List.take_of_length_le (by simp;omega)
   have hmd:(l.map intD).drop 16=(l.drop 16).map intD:=by rw [← List.map_drop]
   have hc0:((16:Nat):Int)=16:=rfl
   have hz:(Int.toNat 16)=16:=rfl
   refine' zay (zY hc0 hcmp hm hw hz (za4 hdl natC ht hmd))
   ·unfold zbG
    rw [if_neg (by intro e;rw [e] at h16;simp at h16),if_neg (by omega)]
    exact ⟨[],rfl⟩
   ·have hw32:IntKind.i64.wrap 32=32:=by decide
    exact ⟨⟨(32,[zai (l.take 16),zai (l.drop 16)]),.inr (.inr ⟨rfl,h16,rfl⟩)⟩,by simp only [AS.le,leT,leH,zh,AsgK,AV.le,AV.leL,AObj.le,inH,idsT,idsH,AV.ids,AV.idsL,AV.idsR,AObj.ids,lk,hget,go_sem,aeq,aeq.aeqF,simprocAttr,hw32,zai]<;>and_intros<;>rfl,by simp⟩
  ·have hcmp:decide ((16:Int)<(l.length:Int))=false:=decide_eq_false (by omega)
   have hc0:((16:Nat):Int)=16:=rfl
   refine' zay (zE hc0 hcmp)
   rintro zs rfl
   unfold zbG
   rw [if_neg (by intro e;rw [e] at h0;simp at h0),if_pos h16,List.take_of_length_le h16]
   rfl
 ·have hcmp:decide ((32:Int)<(l.length:Int))=false:=decide_eq_false (by omega)
  have hc0:((32:Nat):Int)=32:=rfl
  refine' zay (zE hc0 hcmp)
  rintro zs rfl
  unfold zbG
  rw [if_neg (by intro e;rw [e] at h16;simp at h16),if_neg (by omega)]
  rfl
open Go Go.Proofs
def bItem (s:Txt):List AV:= [.d (.str s)]
def unC (x:List AV):List AV:=
 match x with
 | [.d (.sl _ rows)]=>bItem (padR (encT (rows.map fun r=>match r with| [.int _ n]=>n|_=>0)))
 |_=> []
theorem zlN (c:List Int):unC (zai c)=bItem (padR (encT c)):=by
 simp only [unC,zai,List.map_map]
 have:((fun r:List D=>match r with| [.int _ n]=>n|_=>(0:Int)) ∘ intD)=id:=rfl
 rw [this,List.map_id]
theorem zkJ (l:List (List Int)):(l.map zai).map unC=l.map (fun c=>bItem (padR (encT c))):=by
 rw [List.map_map]
 exact List.map_congr_left (fun c _=>zlN c)
theorem zkK {l:List Int} (h:l≠ []):trows l=(zbG l).map (fun c=>padR (encT c)):=by
 unfold trows zbG
 rw [if_neg h]
 split<;>rfl
theorem zgJ {p:Plan} (h:p.targets≠ []):(tbody p).map bItem=(zbG p.targets).map (fun c=>bItem (padR (encT c)))++p.texts.map bItem:=by
 rw [tbody,zkK h,List.map_append,List.map_map]
 rfl
theorem zkL {l c:List Int} (h:c∈zbG l) (hl:l.length≤24):c.length≤16∧∀t∈c,t∈l:=by
 unfold zbG at h
 split at h
 ·cases h
 split at h
 ·rename_i h1 h2
  obtain rfl:c=l:=by simpa using h
  exact ⟨h2,fun t ht=>ht⟩
 ·rcases List.mem_cons.1 h with rfl|h
  ·exact ⟨by simp;omega,fun t ht=>List.mem_of_mem_take ht⟩
  ·obtain rfl:c=l.drop 16:=by simpa using h
   exact ⟨by simp;omega,fun t ht=>List.mem_of_mem_drop ht⟩
theorem zrU:liesAt Tryz.prog Tryz.prog.depth 131 (2 / Tryz.prog.cellsOf 131) 0 131 1=true:=by kernel_rfl
theorem ziE (p:Plan) (hp:PlanOk p) (h24:p.targets.length≤24) (hne:p.targets≠ []) (hr:∀t∈p.targets,0≤t∧t<1024):AIter Tryz.prog 185 100 [] [.dp [.d (.sl 1 (p.targets.map intD)),.d (.sl 1 (p.texts.map strD))]] [] ((tbody p).map bItem) (fun g h'=>(∀xs,g=some xs→xs=(tbody p).map bItem)∧h'= []):=by
 refine itr Tryz.func185 Tryz.ntmps185 (fun base y=>?_)
 refine zgq ?_
 refine' walkX fx (za zmN <| zb _)
 obtain ⟨I,hI⟩:∃I:List (List AV)→AHeap×Option (List (List AV)),I=fun xs=>([(100,.var [.fn (.yield y.yl) [] []])],some (xs.map unC)):=⟨_,rfl⟩
 obtain ⟨G,hG⟩:∃G:List (List AV)→Prop,G=fun _=>True:=⟨_,rfl⟩
 obtain ⟨J,hJ⟩:∃J:Code→AHeap→Option (List (List AV))→Prop,J=fun c h g=>c= .ret∧h= [(100,.var [.fn (.yield y.yl) [] []])]∧g=none:=⟨_,rfl⟩
 refine za9 200 G I J (zjD p.targets h24 200) (by simp only [go_sem,aeq,aeq.aeqF,simprocAttr]) rfl (zM rfl) (by simp [cxOf,cxY]) rfl (by rw [hG];first|trivial|rfl|simp) (by rw [hI];simp only [AS.le,leT,leH,zh,AsgK,AV.le,AV.leL,AObj.le,inH,idsT,idsH,AV.ids,AV.idsL,AV.idsR,AObj.ids,lk,hget,go_sem,aeq,aeq.aeqF,simprocAttr]<;>simp [AV.leL,AV.le]) (by rw [hI];simp only [AS.le,leT,leH,zh,AsgK,AV.le,AV.leL,AObj.le,inH,idsT,idsH,AV.ids,AV.idsL,AV.idsR,AObj.ids,lk,hget,go_sem,aeq,aeq.aeqF,simprocAttr]<;>simp) (by rw [hI]<;>rfl) (by intro x hx;obtain ⟨q,_,rfl⟩:=List.mem_map.1 hx;rfl) (by intro t ht;simp at ht;first|(rcases ht with rfl|rfl<;>simp [cxOf,cxY]<;>done)|(subst ht;simp [cxOf,cxY])) ?_ ?_ ?_
 ·intro xs x hpre hgd l1 r1
  obtain ⟨ys,c,zs,rfl,rfl,hzl⟩:=zdi hpre
  have hcm:c∈zbG p.targets:=by rw [hzl];simp
  obtain ⟨hc16,hcr⟩:=zkL hcm h24
  have hit:(ys.map (fun c=>bItem (padR (encT c)))++ [bItem (padR (encT c))])<+:(tbody p).map bItem:=by
   rw [zgJ hne,hzl,List.map_append,List.map_cons]
   exact ⟨zs.map (fun c=>bItem (padR (encT c)))++p.texts.map bItem,by simp⟩
  simp only [zai]
  refine aw_le ⟨[(12,true,.d (.sl 1 (c.map intD))),(2,true,.vp 100 0)],[(100,.var [.fn (.yield y.yl) [] []])],some (ys.map (fun c=>bItem (padR (encT c))))⟩ (by rw [hI];simp only [zkJ];simp only [AS.le,leT,leH,zh,AsgK,AV.le,AV.leL,AObj.le,inH,idsT,idsH,AV.ids,AV.idsL,AV.idsR,AObj.ids,lk,hget,go_sem,aeq,aeq.aeqF,simprocAttr]) ?_
  refine' zay hI
  refine zoy 200 1 rfl rfl ?_
  simp only [go_sem,aeq,aeq.aeqF,simprocAttr]
  refine zC (fun q: { i:Nat // i≤c.length } =>⟨[(2,true,.vp 100 0),(4,true,.tp 200 0),(13,true,.d (.sl 1 (c.map intD))),(14,true,.d (.int .i64 c.length)),(15,true,.d (.int .i64 q.1))],[(201,.buf 5 (encT (c.take q.1))),(200,.tvar 131 [if q.1=0 then .d .nilp else .tp 200 0,.bsl 201 (encT (c.take q.1)).length]),(100,.var [.fn (.yield y.yl) [] []])],some (ys.map (fun c=>bItem (padR (encT c))))⟩) (fun q=>c.length - q.1) ⟨0,Nat.zero_le _⟩ (by simp only [AS.le,leT,leH,zh,AsgK,AV.le,AV.leL,AObj.le,inH,idsT,idsH,AV.ids,AV.idsL,AV.idsR,AObj.ids,lk,hget,go_sem,aeq,aeq.aeqF,simprocAttr,if_true,List.take_zero]<;>and_intros<;>rfl) (fun q=>?_)
  obtain ⟨i,hi⟩:=q
  simp only at hi ⊢
  rcases zas intD c i hi with ⟨t,hq,hlt,hcmp,hrow,hdr,htk⟩|⟨hend,hcmp⟩
  ·simp only [intD] at hrow
   have hwi:=zG (i:=i) (by omega)
   obtain ⟨ht0,ht1⟩:=hr t (hcr t (List.mem_of_getElem? hq))
   have hel:(encT (c.take i)).length≤64:=by rw [zeJ,List.length_take];omega
   have hpl:putS8 t 4=putN t.toNat 4:=rfl
   have hpn:(putN t.toNat 4).length=4:=zZ _ _
   have hsn:encT (c.take (i+1))=encT (c.take i)++putN t.toNat 4:=by rw [htk,zoi]
   refine' walkX (zN hcmp hrow hpl) (za zdV <| za zdW <| zb _)
   refine (zqj (i:=200) (j:=201) (o:=0) (T:=131) (cs:= [if i=0 then .d .nilp else .tp 200 0,.bsl 201 (encT (c.take i)).length]) (xs:=encT (c.take i)) rfl (by by_cases h0:i=0<;>simp [h0]) rfl rfl rfl zrU (by omega)).mono ?_
   rintro r h' ⟨rfl,rfl⟩
   refine' zay fx
   have hif:(if i+1=0 then AV.d .nilp else AV.tp 200 0)= .tp 200 0:=if_neg (by omega)
   exact ⟨⟨i+1,by omega⟩,by simp only [AS.le,leT,leH,zh,AsgK,AV.le,AV.leL,AObj.le,inH,idsT,idsH,AV.ids,AV.idsL,AV.idsR,AObj.ids,lk,hget,go_sem,aeq,aeq.aeqF,simprocAttr,hwi,hsn,hif,List.length_append],by simp;omega⟩
  ·have htk:c.take i=c:=by rw [hend,List.take_length]
   rw [htk]
   have hel:(encT c).length≤64:=by rw [zeJ];omega
   obtain ⟨x0,hx0⟩:∃x0,x0=(if i=0 then AV.d .nilp else AV.tp 200 0):=⟨_,rfl⟩
   rw [← hx0]
   refine' znL (zbS 9) hcmp
   have hh:HotOk Tryz.prog 200 (hotOf noHot 74 [.tp 200 0] [(201,.buf 5 (encT c)),(200,.tvar 131 [x0,.bsl 201 (encT c).length]),(100,.var [.fn (.yield y.yl) [] []])] (.d (.str (encT c))) [(201,.buf 5 gone),(200,.tvar 131 [x0,.bsl 201 (encT c).length]),(100,.var [.fn (.yield y.yl) [] []])]):=
    zpx (zpw _ _) (fun K hK=>(zox (i:=200) (j:=201) (o:=0) (T:=131) (cs:= [x0,.bsl 201 (encT c).length]) (xs:=encT c) rfl rfl rfl rfl (by omega)).mono (by rintro r h' ⟨rfl,rfl⟩;exact hK))
   refine zaq (fun K2 hK2=>zik _ _ (za zdV <| za zdW <| zb Tryz.prog) hh (by kernel_rfl) ?_)
   clear hh
   have hKT:∀s',s'.le ⟨[(27,true,.d (.bool false))],[(100,.var [.fn (.yield y.yl) [] []])],some (ys.map (fun c=>bItem (padR (encT c)))++ [[.d (.str (padR (encT c)))]])⟩→K2 s':=fun s' hle=>hK2 _ (aw_le _ hle (by
    refine' zay hI
    ·rw [hG];trivial
    ·rw [List.map_append,zkJ,List.map_singleton,show unC [AV.d (.sl 1 (c.map intD))]= [.d (.str (padR (encT c)))] from zlN c]))
   have hKF:∀s',s'.le ⟨[(27,true,.d (.bool true))],[(100,.var [.fn (.yield y.yl) [] []])],none⟩→K2 s':=fun s' hle=>hK2 _ (aw_le _ hle (by
    refine' zay hI
    ·rw [hJ];exact ⟨rfl,rfl,rfl⟩))
   have hit':(ys.map (fun c=>bItem (padR (encT c)))++ [[.d (.str (padR (encT c)))]])<+:(tbody p).map bItem:=hit
   clear hK2 hit
   simp only [go_sem,aeq,aeq.aeqF,simprocAttr]
   repeat' (with_reducible refine And.intro ?_ ?_)
   all_goals first|omega|exact hit'|(refine hKT _ ?_;(simp only [AS.le,leT,leH,zh,AsgK,AV.le,AV.leL,AObj.le,inH,idsT,idsH,AV.ids,AV.idsL,AV.idsR,AObj.ids,lk,hget,go_sem,aeq,aeq.aeqF,simprocAttr]);done)|(refine hKF _ ?_;(simp only [AS.le,leT,leH,zh,AsgK,AV.le,AV.leL,AObj.le,inH,idsT,idsH,AV.ids,AV.idsL,AV.idsR,AObj.ids,lk,hget,go_sem,aeq,aeq.aeqF,simprocAttr]);done)
 ·intro _
  rw [hI]
  simp only [zkJ]
  obtain ⟨B,hB⟩:∃B,B=(zbG p.targets).map (fun c=>bItem (padR (encT c))):=⟨_,rfl⟩
  have hall:(tbody p).map bItem=B++p.texts.map bItem:=by rw [hB];exact zgJ hne
  rw [← hB]
  refine' zay fx
  have htx:=hp.texts
  refine zC (fun q: { i:Nat // i≤p.texts.length } =>⟨[(2,true,.vp 100 0),(29,true,.d (.sl 1 (p.texts.map strD))),(30,true,.d (.int .i64 p.texts.length)),(31,true,.d (.int .i64 q.1))],[(100,.var [.fn (.yield y.yl) [] []])],some (B++(p.texts.take q.1).map bItem)⟩) (fun q=>p.texts.length - q.1) ⟨0,Nat.zero_le _⟩ (by simp only [AS.le,leT,leH,zh,AsgK,AV.le,AV.leL,AObj.le,inH,idsT,idsH,AV.ids,AV.idsL,AV.idsR,AObj.ids,lk,hget,go_sem,aeq,aeq.aeqF,simprocAttr]<;>simp) (fun q=>?_)
  obtain ⟨i,hi⟩:=q
  simp only at hi ⊢
  rcases zas strD p.texts i hi with ⟨s,hq,hlt,hcmp,hrow,hdr,htk⟩|⟨hend,hcmp⟩
  ·simp only [strD] at hrow
   have hwi:=zG (i:=i) (by omega)
   have hpr:((B++(p.texts.take i).map bItem)++ [[.d (.str s)]])<+:(tbody p).map bItem:=by
    rw [hall]
    refine ⟨(p.texts.drop (i+1)).map bItem,?_⟩
    have h1:=List.take_append_drop i p.texts
    rw [hdr] at h1
    conv=>rhs;rw [← h1]
    simp [bItem]
   refine' zay (zE hcmp hrow)
   exact ⟨⟨i+1,by omega⟩,by simp only [AS.le,leT,leH,zh,AsgK,AV.le,AV.leL,AObj.le,inH,idsT,idsH,AV.ids,AV.idsL,AV.idsR,AObj.ids,lk,hget,go_sem,aeq,aeq.aeqF,simprocAttr,hwi,htk,List.map_append,List.append_assoc,bItem,List.map_singleton],by simp;omega⟩
  ·refine' zay hcmp
   rintro zs rfl
   rw [hall,hend,List.take_length]
 ·rw [hJ]
  rintro c h3 g3 ⟨rfl,rfl,rfl⟩
  refine' zay fx
open Go Go.Proofs
theorem zoz (p:Plan) (_:True):AC 146 [planA p] (.fn (.func 185) [] [.dp [.d (.sl 1 (p.targets.map intD)),.d (.sl 1 (p.texts.map strD))]]):=by
 refine fbod Tryz.func146 Tryz.ntmps146 (fun base=>?_)
 refine' zf fx
@[go_sem] noncomputable def zet:Ent Tryz.prog 146:= .m1 zH zoz
@[simp] theorem tsum_nil (c:Int):tsum c []=c:=rfl
def unB (x:List AV):Txt:=match x with| [.d (.str s)]=>s|_=> []
theorem zkM (l:List Txt):(l.map bItem).map unB=l:=by
 rw [List.map_map]
 conv=>rhs;rw [← List.map_id l]
 exact List.map_congr_left (fun c _=>rfl)
theorem zkN (t:Tx) (hp:PlanOk t.plan∧pfit t.plan=true∧t.plan.targets.length≠0∧0≤t.seq∧t.seq<18446744073709551616):AC 95 [txA t] (.tup [.d (.sl 1 ((zb3 t.seq t.plan).map strD)),.d (.int .i64 0)]):=by
 obtain ⟨hp,hf,hn,h0,h1⟩:=hp
 refine fbod Tryz.func95 Tryz.ntmps95 (fun base=>?_)
 obtain ⟨hl,h24,h64⟩:=zau hf
 have hrng:=zp0 hf
 have hn0:((t.plan.targets.length:Int)==0)=false:=by rw [beq_eq_false_iff_ne];omega
 have hne:t.plan.targets≠ []:=by intro e;rw [e] at hn;exact hn rfl
 have hp8:putS8 t.seq 8=putN t.seq.toNat 8:=by rw [putS8,if_neg (by omega)];rfl
 have hp2:putS8 (t.plan.targets.length:Int) 2=putN t.plan.targets.length 2:=by rw [putS8,if_neg (by omega)];rfl
 have hw5:IntKind.i64.wrap (65535 - (t.plan.targets.length:Int))=((65535 - t.plan.targets.length:Nat):Int):=by rw [zi (by omega) (by omega)];omega
 have hp5:putS8 ((65535 - t.plan.targets.length:Nat):Int) 2=putN (65535 - t.plan.targets.length) 2:=by rw [putS8,if_neg (by omega)];rfl
 have hl8:=zZ t.seq.toNat 8
 have hl2:=zZ t.plan.targets.length 2
 have hl5:=zZ (65535 - t.plan.targets.length) 2
 refine' walkR (zY hf hn0 hp8 hp2 hl8 (zE hl2 @List.length_append.{0})) (za zgy <| za zgI <| za zdV <| za zdW <| za zcd <| za zdN <| za za2 <| za zet <| zb _)
 obtain ⟨H,hH⟩:∃H,H=putN t.seq.toNat 8++putN t.plan.targets.length 2:=⟨_,rfl⟩
 have hHl:H.length=10:=by rw [hH,List.length_append,hl8,hl2]
 rw [← hH]
 have hc0:0≤sumOf 0 H∧sumOf 0 H≤4294967295:=zkx 0 H (by omega) (by omega)
 obtain ⟨I,hI⟩:∃I:List (List AV)→AHeap×Option (List (List AV)),I=fun xs=>([(3,.var [.d (.int .u32 (tsum (sumOf 0 H) (xs.map unB)))]),(2,.var [.osl 1 1 (xs.length+1) 0 (xs.length+1)]),(1,.arr 1 ([.str []]::(xs.map unB).map strD)),(0,.var [.d (.int .u64 t.seq),.d (.sl 1 (t.plan.targets.map intD)),.d (.sl 1 (t.plan.texts.map strD))])],some []):=⟨_,rfl⟩
 obtain ⟨G,hG⟩:∃G:List (List AV)→Prop,G=fun _=>True:=⟨_,rfl⟩
 obtain ⟨J,hJ⟩:∃J:Code→AHeap→Option (List (List AV))→Prop,J=fun c h g=>False:=⟨_,rfl⟩
 have hB64:∀s∈tbody t.plan,s.length=64:=zjy hf
 have hBl:(tbody t.plan).length≤26:=by
  have:(trows t.plan.targets).length≤2:=by unfold trows;split<;>simp
  rw [tbody,List.length_append]
  omega
 refine za9 100 G I J (ziE t.plan hp h24 hne hrng) (by simp only [go_sem,aeq,aeq.aeqF,simprocAttr]) rfl (zM rfl) (by simp [cxOf,cxY]) rfl (by rw [hG];first|trivial|rfl|simp) (by rw [hI];simp only [AS.le,leT,leH,zh,AsgK,AV.le,AV.leL,AObj.le,inH,idsT,idsH,AV.ids,AV.idsL,AV.idsR,AObj.ids,lk,hget,go_sem,aeq,aeq.aeqF,simprocAttr]<;>simp [AV.leL,AV.le]) (by rw [hI];simp only [AS.le,leT,leH,zh,AsgK,AV.le,AV.leL,AObj.le,inH,idsT,idsH,AV.ids,AV.idsL,AV.idsR,AObj.ids,lk,hget,go_sem,aeq,aeq.aeqF,simprocAttr]<;>simp) (by rw [hI]<;>rfl) (by intro x hx;obtain ⟨q,_,rfl⟩:=List.mem_map.1 hx;rfl) (by intro t ht;simp at ht;first|(rcases ht with rfl|rfl<;>simp [cxOf,cxY]<;>done)|(subst ht;simp [cxOf,cxY])) ?_ ?_ ?_
 ·intro xs x hpre hgd l1 r1
  obtain ⟨ys,s,zs,rfl,rfl,hzl⟩:=zdi hpre
  have hs64:=hB64 s (by rw [hzl];simp)
  have hyl:ys.length≤26:=by rw [hzl,List.length_append] at hBl;omega
  simp only [bItem]
  refine aw_le ⟨[(33,true,.d (.str s)),(6,true,.vp 2 0),(7,true,.vp 3 0)],[(3,.var [.d (.int .u32 (tsum (sumOf 0 H) ys))]),(2,.var [.osl 1 1 (ys.length+1) 0 (ys.length+1)]),(1,.arr 1 ([.str []]::ys.map strD)),(0,.var [.d (.int .u64 t.seq),.d (.sl 1 (t.plan.targets.map intD)),.d (.sl 1 (t.plan.texts.map strD))])],some []⟩ (by rw [hI];simp only [zkM,List.length_map];simp only [AS.le,leT,leH,zh,AsgK,AV.le,AV.leL,AObj.le,inH,idsT,idsH,AV.ids,AV.idsL,AV.idsR,AObj.ids,lk,hget,go_sem,aeq,aeq.aeqF,simprocAttr]) ?_
  have hsn:(ys.map bItem++ [[AV.d (.str s)]]).map unB=ys++ [s]:=by rw [List.map_append,zkM];rfl
  refine' walkR (zE hI hsn) (za zgy <| za zgI <| za zdV <| za zdW <| za zcd <| za zdN <| za za2 <| za zet <| zb _)
  ·rw [hG];trivial
  ·rw [zoj];rfl
  ·simp
  ·rw [List.map_append];rfl
 ·intro _
  rw [hI]
  simp only [zkM,List.length_map]
  have hbl:=zd8 (tsum (sumOf 0 H) (tbody t.plan))
  refine' walkR (zN hp5 hw5 hl5) (za zgy <| za zgI <| za zdV <| za zdW <| za zcd <| za zdN <| za za2 <| za zet <| zb _)
  ·simp only [List.length_append,hHl,hl5,hbl];omega
  ·simp only [List.length_append,hHl,hl5,hbl];omega
  ·rw [hH]
   simp [zb3,ttop,thead,zq8,strD]
 ·rw [hJ]
  rintro c h3 g3 h
  exact h.elim
@[go_sem] noncomputable def zby:Ent Tryz.prog 95:= .m1 txA_T zkN
open Go Go.Proofs
structure Jour where
 seq:Int
 pos:Int
 deriving DecidableEq
def jourA (j:Jour):AV:= .agg [.d (.int .u64 j.seq),.d (.int .i64 j.pos)]
attribute [go_sem] jourA
theorem zp8 (j:Jour):Jour.mk j.seq j.pos=j:=rfl
noncomputable def zky:PT Jour:=aggT (consL (intT .u64) (consL (intT .i64) nilL)) (fun p=>⟨p.1,p.2.1⟩) (fun x=>(x.seq,x.pos,())) (fun _=>rfl)
attribute [go_sem] zky
attribute [go_sem] zp8
def jfit (j:Jour):Bool:=decide (1≤j.seq)&&decide (j.seq≤4611686018427387904)&&decide (0≤j.pos)&&decide (j.pos≤81)
def zcI (pos size:Int):Int:=if pos<0∨size<0∨81<size∨81 - size<pos then 0 else pos
def numF:Int→List Txt→List (Int×Txt)
 |_,[]=> []
 |a,s::r=>(a,s)::numF (a+1) r
theorem zol:∀ (l:List Txt) (a:Int) (i:Nat) (s:Txt),l[i]?=some s→(numF a l)[i]?=some (a+i,s)
 | [],a,i,s,h=>by simp at h
 |x::l,a,0,s,h=>by
  have:x=s:=by simpa using h
  subst this
  simp [numF]
 |x::l,a,i+1,s,h=>by
  rw [numF,List.getElem?_cons_succ,zol l (a+1) i s (by simpa using h)]
  congr 2
  omega
theorem zlH:∀ (l:List Txt) (a:Int),(numF a l).length=l.length
 | [],_=>rfl
 |x::l,a=>by rw [numF,List.length_cons,zlH l,List.length_cons]
def jtail (d:Disk) (j:Jour) (p:Plan) (L:List Txt) (A:Int):Disk×Jour×Int:=
 if (layL d (numF (6+A) L)).2≠0 then ((layL d (numF (6+A) L)).1,j,(layL d (numF (6+A) L)).2)
 else if (dflush (layL d (numF (6+A) L)).1).2≠0 then ((dflush (layL d (numF (6+A) L)).1).1,j,(dflush (layL d (numF (6+A) L)).1).2)
 else if (play (dflush (layL d (numF (6+A) L)).1).1 p).2≠0 then ((play (dflush (layL d (numF (6+A) L)).1).1 p).1,j,(play (dflush (layL d (numF (6+A) L)).1).1 p).2)
 else ((play (dflush (layL d (numF (6+A) L)).1).1 p).1,⟨j.seq+1,A+L.length⟩,0)
def jcommit (d:Disk) (j:Jour) (p:Plan):Disk×Jour×Int:=
 if p.targets.length=0 then (d,j,0) else if 4611686018427387904≤j.seq then (d,j,10)
 else if (dflush d).2≠0 then ((dflush d).1,j,(dflush d).2)
 else jtail (dflush d).1 j p (zb3 j.seq p) (zcI j.pos (zb3 j.seq p).length)
theorem ze8 (pos size:Int):0≤zcI pos size∧zcI pos size≤81:=by
 unfold zcI
 split<;>omega
theorem ze9 {p:Plan} (seq:Int) (hf:pfit p=true):(zb3 seq p).length≤27∧∀s∈zb3 seq p,s.length≤64:=by
 obtain ⟨hl,h24,h64⟩:=zau hf
 refine ⟨?_,?_⟩
 ·rw [zb3,tbody,List.length_cons,List.length_append]
  have:(trows p.targets).length≤2:=by unfold trows;split<;>simp
  omega
 ·intro s hs
  rcases List.mem_cons.1 hs with rfl|hs
  ·rw [ttop,zfX]
   ·exact Nat.le_refl _
   ·rw [List.length_append,List.length_append,List.length_append,thead,List.length_append,zZ,zZ,zZ,zd8]
    decide
  ·rw [zjy hf s hs];exact Nat.le_refl _
theorem zp9 (j:Jour) (_:True):AC 62 [jourA j] (.d (.bool (jfit j))):=by
 refine bod Tryz.func62 Tryz.ntmps62 (fun base=>?_)
 refine' zf fx
 rfl
@[go_sem] noncomputable def zd9:Ent Tryz.prog 62:= .m1 zky zp9
open Go Go.Proofs
theorem zql:ACall Tryz.prog 149 0 [] [] (fun r _=>r= .tup [.d (.int .i64 6),.d (.int .i64 81)]):=by
 refine bod Tryz.func149 Tryz.ntmps149 (fun base=>?_)
 refine' zf fx
@[go_sem] noncomputable def zmO:Ent Tryz.prog 149:= .ofL nilL (fun _=>True) (fun _=> .tup [.d (.int .i64 6),.d (.int .i64 81)]) (fun _ hp=>⟨rfl,zql⟩)
theorem zqm:ACall Tryz.prog 96 0 [] [] (fun r _=>r= .tup [.d (.int .i64 6),.d (.int .i64 81)]):=by
 refine bod Tryz.func96 Tryz.ntmps96 (fun base=>?_)
 refine' walkW fx (za zmO <| zb _)
@[go_sem] noncomputable def zcf:Ent Tryz.prog 96:= .ofL nilL (fun _=>True) (fun _=> .tup [.d (.int .i64 6),.d (.int .i64 81)]) (fun _ hp=>⟨rfl,zqm⟩)
theorem zmP (pos size:Int) (hp:0≤size∧size≤1000):AC 97 [.d (.int .i64 pos),.d (.int .i64 size)] (.d (.int .i64 (zcI pos size))):=by
 obtain ⟨h0,h1⟩:=hp
 refine bod Tryz.func97 Tryz.ntmps97 (fun base=>?_)
 have hw:IntKind.i64.wrap (81 - size)=81 - size:=zi (by omega) (by omega)
 refine' walkW hw (za zcf <| zb _)
 ·simp only [Bool.or_eq_true,decide_eq_true_eq,or_assoc] at hc
  rw [zcI,if_pos hc]
 ·rw [zcI,if_neg]
  intro h
  have:(decide (pos<0)||decide (size<0)||decide (81<size)||decide (81 - size<pos))=true:=by
   simp only [Bool.or_eq_true,decide_eq_true_eq,or_assoc];exact h
  rw [hc] at this;cases this
@[go_sem] noncomputable def zbW:Ent Tryz.prog 97:= .m2 (intT .i64) (intT .i64) zmP
theorem zqn (a:Int) (L:List Txt) (_:True):AC 100 [.d (.int .i64 a),.d (.sl 1 (L.map strD))] (.fn (.func 153) [] [.dp [.d (.sl 1 (L.map strD))],.dp [.d (.int .i64 a)]]):=by
 refine fbod Tryz.func100 Tryz.ntmps100 (fun base=>?_)
 refine' zf fx
@[go_sem] noncomputable def zc2:Ent Tryz.prog 100:= .m2 (intT .i64) (slT 1 strD zeD) zqn
theorem zqo (p:Plan) (_:True):AC 101 [planA p] (.fn (.func 154) [] [.dp (planC p)]):=by
 refine fbod Tryz.func101 Tryz.ntmps101 (fun base=>?_)
 refine' zf fx
@[go_sem] noncomputable def zc6:Ent Tryz.prog 101:= .m1 zH zqo
theorem zoA (d:Disk) (p:Plan) (hp:DiskOk d∧PlanOk p∧p.targets.length=p.texts.length):AC 154 [diskA d,.dp (planC p)] (.tup [diskA (play d p).1,.d (.int .i64 (play d p).2)]):=by
 obtain ⟨hd,hp,hl⟩:=hp
 refine fbod Tryz.func154 Tryz.ntmps154 (fun base=>?_)
 refine' walkW fx (za zeH <| za zn <| zb _)
@[go_sem] noncomputable def zbH:Ent Tryz.prog 154:= .m2 zv znX zoA
theorem zoB (d:Disk) (L:List Txt) (a:Int) (hd:DiskF d) (hn:L.length≤100) (h0:0≤a) (h1:a≤100):ACall Tryz.prog 153 0 [diskA d,.dp [.d (.sl 1 (L.map strD))],.dp [.d (.int .i64 a)]] [] (fun r _=>r= .tup [diskA (layL d (numF a L)).1,.d (.int .i64 (layL d (numF a L)).2)]):=by
 refine fbod Tryz.func153 Tryz.ntmps153 (fun base=>?_)
 refine' walkW fx (za zeH <| za zn <| zb _)
 refine zC (fun q: { q:Nat×Disk // q.1≤L.length∧DiskF q.2∧layL d (numF a L)=layL q.2 ((numF a L).drop q.1) } =>⟨[(2,true,.dp [.d (.int .i64 a)]),(3,true,.vp 0 0),(4,true,.vp 1 0),(6,true,.d (.int .i64 0)),(9,true,.d (.sl 1 (L.map strD))),(10,true,.d (.int .i64 L.length)),(11,true,.d (.int .i64 q.1.1))],[(1,.var [.d (.str []),.nils 2,.d (.int .i64 0),.d (.bool false),.nils 1]),(0,(.var [.d (.str q.1.2.data),.d (.sl 2 (q.1.2.cache.map putD)),.d (.int .i64 q.1.2.fuse),.d (.bool q.1.2.off),.d (.sl 1 (q.1.2.bad.map intD))]))],some []⟩) (fun q=>L.length - q.1.1) ⟨(0,d),Nat.zero_le _,hd,rfl⟩ le1 (fun q=>?_)
 obtain ⟨⟨i,x⟩,hi,hx,hfx⟩:=q
 simp only at hi hx hfx ⊢
 have hxo:=hx.ok
 rcases zas strD L i hi with ⟨s,hq,hlt,hcmp,hrow,hdr,htk⟩|⟨hend,hcmp⟩
 ·simp only [strD] at hrow
  have hwi:=zG (i:=i) (by omega)
  have hw1:IntKind.i64.wrap (a+(i:Int))=a+i:=zi (by omega) (by omega)
  rw [zeZ (zol L a i s hq),layL] at hfx
  have hxw:=hx.write (a+i) s
  refine' walkW (zN hcmp hrow hw1) (za zeH <| za zn <| zb _)
  ·have hc:(zD x (a+i) s).2≠0:=by simpa using hc
   rw [if_pos hc] at hfx
   rw [hfx]
  ·have hc:¬(zD x (a+i) s).2≠0:=by simpa using hc
   have hc':(zD x (a+i) s).2=0:=by simpa using hc
   rw [if_neg hc] at hfx
   exact ⟨⟨(i+1,(zD x (a+i) s).1),by omega,hxw,hfx⟩,by simp only [AS.le,leT,leH,zh,AsgK,AV.le,AV.leL,AObj.le,inH,idsT,idsH,AV.ids,AV.idsL,AV.idsR,AObj.ids,lk,hget,go_sem,aeq,aeq.aeqF,simprocAttr,hwi,hc'],by simp;omega⟩
 ·subst hend
  have hlay:layL d (numF a L)=(x,0):=by
   rw [hfx,List.drop_of_length_le (by rw [zlH];omega)];rfl
  refine' walkW hcmp (za zeH <| za zn <| zb _)
  rw [hlay]
@[go_sem] noncomputable def zbI:Ent Tryz.prog 153:= .ofL (consL zv (consL (dpT (consL (slT 1 strD zeD) nilL) (fun p=>p) (fun p=>p) (fun _=>rfl)) (consL (dpT (consL (intT .i64) nilL) (fun p=>p) (fun p=>p) (fun _=>rfl)) nilL))) (fun (d,(L,_),(a,_),_)=>(DiskF d)∧(L.length≤100)∧(0≤a)∧(a≤100)) (fun (d,(L,_),(a,_),_)=> .tup [diskA (layL d (numF a L)).1,.d (.int .i64 (layL d (numF a L)).2)]) (fun (d,(L,_),(a,_),_) hp=>⟨rfl,zoB d L a hp.1 hp.2.1 hp.2.2.1 hp.2.2.2⟩)
open Go Go.Proofs
def runD:List (Disk→Disk×Int)→Disk→Disk×Int
 | [],d=>(d,0)
 |f::r,d=>if (f d).2≠0 then f d else runD r (f d).1
def zbz (A:Int) (L:List Txt) (p:Plan):List (Disk→Disk×Int):= [dflush,fun d=>layL d (numF A L),dflush,fun d=>play d p]
def zlO (A:Int) (L:List Txt) (p:Plan):List (List AV):= [[.fn (.func 99) [] []],[.fn (.func 153) [] [.dp [.d (.sl 1 (L.map strD))],.dp [.d (.int .i64 A)]]],[.fn (.func 99) [] []],[.fn (.func 154) [] [.dp [.d (.sl 1 (p.targets.map intD)),.d (.sl 1 (p.texts.map strD))]]]]
def wkD (d:Disk) (e:Int):List AV:= [.d (.str d.data),.d (.sl 2 (d.cache.map putD)),.d (.int .i64 d.fuse),.d (.bool d.off),.d (.sl 1 (d.bad.map intD)),.d (.int .i64 e)]
attribute [go_sem] wkD zlO
theorem DiskF.play {d:Disk} (h:DiskF d) (p:Plan):DiskF (play d p).1:=DiskF.layL _ h
theorem zsQ (d:Disk) (A:Int) (L:List Txt) (p:Plan) (hd:DiskF d) (hp:PlanOk p) (hl:p.targets.length=p.texts.length) (hn:L.length≤100) (h0:0≤A) (h1:A≤100):
  ACall Tryz.prog 98 6 [.vp 5 0,.asl 1 (zlO A L p)] [(5,.var (wkD d 0))] (fun r h'=>∃ob',h'= [(5,ob')]∧r= .tup []∧ob'= .var (wkD (runD (zbz A L p) d).1 (runD (zbz A L p) d).2)):=by
 refine bod Tryz.func98 Tryz.ntmps98 (fun base=>?_)
 refine' walkW fx (za za0 <| za zbI <| za zbH <| zb _)
 refine zC (fun q: { q:Nat×Disk // q.1≤4∧DiskF q.2∧runD (zbz A L p) d=runD ((zbz A L p).drop q.1) q.2 } =>⟨[(0,true,.vp 5 0),(6,true,.asl 1 (zlO A L p)),(7,true,.d (.int .i64 4)),(8,true,.d (.int .i64 q.1.1))],[(5,.var (wkD q.1.2 0))],some []⟩) (fun q=>4 - q.1.1) ⟨(0,d),Nat.zero_le _,hd,rfl⟩ le1 (fun q=>?_)
 obtain ⟨⟨k,x⟩,hk,hx,hr⟩:=q
 simp only at hk hx hr ⊢
 have hxo:=hx.ok
 have hxp:=hx.puts
 have h4:k=0∨k=1∨k=2∨k=3∨k=4:=by omega
 have hc0:((0:Nat):Int)=0:=rfl
 have hc1:((1:Nat):Int)=1:=rfl
 have hc2:((2:Nat):Int)=2:=rfl
 have hc3:((3:Nat):Int)=3:=rfl
 have hc4:((4:Nat):Int)=4:=rfl
 have ht1:Int.toNat 1=1:=rfl
 have ht2:Int.toNat 2=2:=rfl
 have ht3:Int.toNat 3=3:=rfl
 have hw1:IntKind.i64.wrap 1=1:=by decide
 have hw2:IntKind.i64.wrap 2=2:=by decide
 have hw3:IntKind.i64.wrap 3=3:=by decide
 have hw4:IntKind.i64.wrap 4=4:=by decide
 rcases h4 with rfl|rfl|rfl|rfl|rfl
 ·have hr':runD (zbz A L p) d=if (dflush x).2≠0 then dflush x else runD ((zbz A L p).drop 1) (dflush x).1:=hr
  have hxn:DiskF (dflush x).1:=hx.flush
  refine' walkW (zE hc0 hw1) (za za0 <| za zbI <| za zbH <| zb _)
  ·have hc:(dflush x).2≠0:=by simpa using hc
   rw [if_pos hc] at hr'
   exact ⟨_,rfl,by rw [hr']⟩
  ·have hc:(dflush x).2=0:=by simpa using hc
   rw [if_neg (by rw [hc];decide)] at hr'
   exact ⟨⟨(1,(dflush x).1),by show (_:Nat)≤4;omega,hxn,hr'⟩,by simp only [AS.le,leT,leH,zh,AsgK,AV.le,AV.leL,AObj.le,inH,idsT,idsH,AV.ids,AV.idsL,AV.idsR,AObj.ids,lk,hget,go_sem,aeq,aeq.aeqF,simprocAttr,hw1,hc]<;>and_intros<;>rfl,by simp⟩
 ·have hr':runD (zbz A L p) d=if (layL x (numF A L)).2≠0 then layL x (numF A L) else runD ((zbz A L p).drop 2) (layL x (numF A L)).1:=hr
  have hxn:DiskF (layL x (numF A L)).1:=DiskF.layL _ hx
  refine' walkW (zN hc1 hw2 ht1) (za za0 <| za zbI <| za zbH <| zb _)
  ·have hc:(layL x (numF A L)).2≠0:=by simpa using hc
   rw [if_pos hc] at hr'
   exact ⟨_,rfl,by rw [hr']⟩
  ·have hc:(layL x (numF A L)).2=0:=by simpa using hc
   rw [if_neg (by rw [hc];decide)] at hr'
   exact ⟨⟨(2,(layL x (numF A L)).1),by show (_:Nat)≤4;omega,hxn,hr'⟩,by simp only [AS.le,leT,leH,zh,AsgK,AV.le,AV.leL,AObj.le,inH,idsT,idsH,AV.ids,AV.idsL,AV.idsR,AObj.ids,lk,hget,go_sem,aeq,aeq.aeqF,simprocAttr,hw2,hc]<;>and_intros<;>rfl,by simp⟩
 ·have hr':runD (zbz A L p) d=if (dflush x).2≠0 then dflush x else runD ((zbz A L p).drop 3) (dflush x).1:=hr
  have hxn:DiskF (dflush x).1:=hx.flush
  refine' walkW (zN hc2 hw3 ht2) (za za0 <| za zbI <| za zbH <| zb _)
  ·have hc:(dflush x).2≠0:=by simpa using hc
   rw [if_pos hc] at hr'
   exact ⟨_,rfl,by rw [hr']⟩
  ·have hc:(dflush x).2=0:=by simpa using hc
   rw [if_neg (by rw [hc];decide)] at hr'
   exact ⟨⟨(3,(dflush x).1),by show (_:Nat)≤4;omega,hxn,hr'⟩,by simp only [AS.le,leT,leH,zh,AsgK,AV.le,AV.leL,AObj.le,inH,idsT,idsH,AV.ids,AV.idsL,AV.idsR,AObj.ids,lk,hget,go_sem,aeq,aeq.aeqF,simprocAttr,hw3,hc]<;>and_intros<;>rfl,by simp⟩
 ·have hr':runD (zbz A L p) d=if (play x p).2≠0 then play x p else runD ((zbz A L p).drop 4) (play x p).1:=hr
  have hxn:DiskF (play x p).1:=hx.play p
  refine' walkW (zN hc3 hw4 ht3) (za za0 <| za zbI <| za zbH <| zb _)
  ·have hc:(play x p).2≠0:=by simpa using hc
   rw [if_pos hc] at hr'
   exact ⟨_,rfl,by rw [hr']⟩
  ·have hc:(play x p).2=0:=by simpa using hc
   rw [if_neg (by rw [hc];decide)] at hr'
   exact ⟨⟨(4,(play x p).1),by show (_:Nat)≤4;omega,hxn,hr'⟩,by simp only [AS.le,leT,leH,zh,AsgK,AV.le,AV.leL,AObj.le,inH,idsT,idsH,AV.ids,AV.idsL,AV.idsR,AObj.ids,lk,hget,go_sem,aeq,aeq.aeqF,simprocAttr,hw4,hc]<;>and_intros<;>rfl,by simp⟩
 ·refine' walkW hc4 (za za0 <| za zbI <| za zbH <| zb _)
  have hr':runD (zbz A L p) d=(x,0):=hr
  exact ⟨_,rfl,by rw [hr']⟩
theorem zoC (d:Disk) (A:Int) (L:List Txt) (p:Plan) (j:Jour):(if (dflush d).2≠0 then ((dflush d).1,j,(dflush d).2) else jtail (dflush d).1 j p L A)=(if (runD (zbz (6+A) L p) d).2≠0 then ((runD (zbz (6+A) L p) d).1,j,(runD (zbz (6+A) L p) d).2) else ((runD (zbz (6+A) L p) d).1,⟨j.seq+1,A+L.length⟩,0)):=by
 simp only [zbz,runD,jtail]
 repeat' split
 all_goals simp_all
theorem zkO (d:Disk) (j:Jour) (p:Plan) (hp:DiskF d∧pfit p=true∧0≤j.seq∧j.seq<18446744073709551616):AC 45 [diskA d,jourA j,planA p] (.tup [diskA (jcommit d j p).1,jourA (jcommit d j p).2.1,.d (.int .i64 (jcommit d j p).2.2)]):=by
 obtain ⟨hd,hf,h0,h1⟩:=hp
 refine fbod Tryz.func45 Tryz.ntmps45 (fun base=>?_)
 obtain ⟨hl,h24,h64⟩:=zau hf
 have hpo:PlanOk p:=⟨by omega,by omega⟩
 have hdo:=hd.ok
 have hdp:=hd.puts
 by_cases hn:p.targets.length=0
 ·have hb:((p.targets.length:Int)==0)=true:=by rw [hn];rfl
  refine' walkW hb (za zby <| za zcf <| za zbW <| za zc2 <| za zc6 <| zb _)
  rw [jcommit,if_pos hn]
 have hb:((p.targets.length:Int)==0)=false:=by rw [beq_eq_false_iff_ne];omega
 by_cases hs:4611686018427387904≤j.seq
 ·have hb2:decide (4611686018427387904≤j.seq)=true:=decide_eq_true hs
  refine' walkW (zE hb hb2) (za zby <| za zcf <| za zbW <| za zc2 <| za zc6 <| zb _)
  rw [jcommit,if_neg hn,if_pos hs]
 have hb2:decide (4611686018427387904≤j.seq)=false:=decide_eq_false hs
 obtain ⟨htl,ht64⟩:=ze9 j.seq hf
 have hjr:=ze8 j.pos (zb3 j.seq p).length
 have hjc:jcommit d j p=if (dflush d).2≠0 then ((dflush d).1,j,(dflush d).2) else jtail (dflush d).1 j p (zb3 j.seq p) (zcI j.pos (zb3 j.seq p).length):=by rw [jcommit,if_neg hn,if_neg hs]
 rw [zoC] at hjc
 obtain ⟨L,hL⟩:∃L,L=zb3 j.seq p:=⟨_,rfl⟩
 rw [← hL] at htl ht64 hjr hjc
 obtain ⟨A,hA⟩:∃A,A=zcI j.pos L.length:=⟨_,rfl⟩
 rw [← hA] at hjr hjc
 have hw6:IntKind.i64.wrap (6+A)=6+A:=zi (by omega) (by omega)
 refine' zhE (zbS 9) (za4 hb hb2 hL.symm hA.symm) (za zby <| za zcf <| za zbW <| za zc2 <| za zc6 <| zb _)
 obtain ⟨X,hX⟩:∃X,X=runD (zbz (6+A) L p) d:=⟨_,rfl⟩
 have hdo2:=zsQ d (6+A) L p hd hpo hl (by omega) (by omega) (by omega)
 rw [← hX] at hdo2 hjc
 refine' znK (ownsL [0]) hw6 (za zby <| za zcf <| za zbW <| za zc2 <| za zc6 <| zb _)
 refine (hdo2.one (fl':=0) rfl rfl (zM rfl) rfl (by simp [AObj.ids,AV.idsL,AV.ids,wkD]) (by simp [AV.idsL,AV.ids,AV.idsR,zlO]) (by omega)).mono ?_
 rintro r h' ⟨ob',⟨rfl,rfl⟩,rfl⟩
 have hws:IntKind.u64.wrap (j.seq+1)=j.seq+1:=zat (by omega) (by omega)
 have hwl:IntKind.i64.wrap (A+(L.length:Int))=A+L.length:=zi (by omega) (by omega)
 simp only [go_sem,aeq,aeq.aeqF,simprocAttr,wkD]
 refine hK _ ?_
 clear hK K
 refine' walkW (zE hws hwl) (za zby <| za zcf <| za zbW <| za zc2 <| za zc6 <| zb _)
 ·have hc:X.2≠0:=by simpa using hc
  rw [hjc,if_pos hc]
 ·have hc:¬X.2≠0:=by simpa using hc
  rw [hjc,if_neg hc]
@[go_sem] noncomputable def ziF:Ent Tryz.prog 45:= .m3 zv zky zH zkO
end Go.Aw
