/-
 What ranges are, the program's.
-/
import Derived.Test.YtgkjmbopnaeanaaGreatPart36
set_option maxRecDepth 100000
set_option maxHeartbeats 2000000
set_option linter.unusedSimpArgs false
set_option linter.unusedVariables false
namespace Go.Aw
open Go Go.Proofs
def zcm (e:Ext):List AV:= [.agg [.d (.int .i64 e.len),.d (.int .i64 e.flags)]]
def extU (x:List AV):List D:=match x with
 | [.agg [.d a,.d b]]=> [a,b]
 |_=> []
theorem zvi (l:List Ext):(l.map zcm).map extU=l.map extD:=by rw [List.map_map];rfl
theorem zti (l:List Ext) (_:True):AC 273 [.d (.sl 2 (l.map extD))] (.fn (.func 283) [] [.dp [.d (.sl 2 (l.map extD))]]):=by
 refine fbod Tryz.func273 Tryz.ntmps273 (fun base=>?_)
 refine' zc fx
@[go_sem] noncomputable def zoh:Ent Tryz.prog 273:= .m1 (slT 2 extD zb1) zti
theorem zkO (l Z:List Ext) (hZ:Z=ejoin l) (hl:l.length≤65536) (h:∀x∈l,1≤x.len∧x.len≤128):AIter Tryz.prog 283 100 [] [.dp [.d (.sl 2 (l.map extD))]] [] (Z.map zcm) (fun g h'=>(∀xs,g=some xs→xs=Z.map zcm)∧h'= []):=by
 refine itr Tryz.func283 Tryz.ntmps283 (fun base y=>?_)
 refine ze9 ?_
 have hj:=zqH l (fun x hx=>(h x hx).1)
 rw [← hZ] at hj
 refine' zaz fx
 refine zo (fun q: { q:Nat×Ext×List (List AV) // q.1≤l.length∧0≤q.2.1.len∧q.2.1.len≤128*q.1∧q.2.2++(jrest q.2.1 (l.drop q.1)).map zcm=Z.map zcm } =>⟨[(0,true,.fn (.yield y.yl) [] []),(3,true,.vp 100 0),(7,true,.d (.sl 2 (l.map extD))),(8,true,.d (.int .i64 l.length)),(9,true,.d (.int .i64 q.1.1))],[(100,.var [.d (.int .i64 q.1.2.1.len),.d (.int .i64 q.1.2.1.flags)])],some q.1.2.2⟩) (fun q=>l.length - q.1.1) ⟨(0,⟨0,0⟩,[]),Nat.zero_le _,Int.le_refl _,by simp,by simp [hj]⟩ le1 (fun q=>?_)
 obtain ⟨⟨i,⟨rl,rf⟩,xs⟩,hi,hr0,hr1,hf⟩:=q
 simp only at hi hr0 hr1 hf ⊢
 rcases zD extD l i hi with ⟨⟨xl,xf⟩,hq,hlt,hcmp,hrow,hdr,htk⟩|⟨hend,hcmp⟩
 ·simp only [extD] at hrow
  have hwi:=zn (i:=i) (by omega)
  obtain ⟨hx0,hx1⟩:=h _ (List.mem_of_getElem? hq)
  simp only at hx0 hx1
  have hn1:decide (xl<1)=false:=decide_eq_false (by omega)
  have hm1:imin xl 1099511627776=xl:=by unfold imin;split<;>omega
  rw [hdr,jrest] at hf
  simp only at hf
  rcases Int.lt_or_le 0 rl with hp|hp
  ·have hg:decide (0<rl)=true:=decide_eq_true hp
   cases he:(rf==xf) with
   |true=>
    have he2:rf=xf:=by simpa using he
    rw [if_pos ⟨hp,he2⟩] at hf
    have hw3:IntKind.i64.wrap (rl+xl)=rl+xl:=ze (by omega) (by omega)
    have hm3:imin (rl+xl) 1099511627776=rl+xl:=by unfold imin;split<;>omega
    refine' zaz (zq hcmp hrow hn1 hm1 hg (zr he hw3 hm3))
    exact ⟨⟨(i+1,⟨rl+xl,rf⟩,xs),by omega,by simp only;omega,by simp only;omega,hf⟩,lew,by simp;omega⟩
   |false=>
    have he2:¬rf=xf:=by simpa using he
    rw [if_neg (fun hh=>he2 hh.2),if_pos hp,List.map_cons] at hf
    have hpre:(xs++ [zcm ⟨rl,rf⟩])<+:Z.map zcm:=by rw [← hf];simp
    simp only [zcm] at hpre
    refine' zaz (zq hcmp hrow hn1 hm1 hg he)
    exact ⟨⟨(i+1,⟨xl,xf⟩,xs++ [zcm ⟨rl,rf⟩]),by omega,by simp only;omega,by simp only;omega,by rw [← hf];simp⟩,by simp only [AS.le,leT,leH,zf,AsgK,AV.le,AV.leL,AObj.le,inH,idsT,idsH,AV.ids,AV.idsL,AV.idsR,AObj.ids,lk,hget,go_sem,aeq,aeq.aeqF,simprocAttr,hwi,zcm],by simp;omega⟩
  ·have hg:decide (0<rl)=false:=decide_eq_false (by omega)
   rw [if_neg (fun hh=>by omega),if_neg (by omega)] at hf
   refine' zaz (zaH hcmp hrow hn1 hm1 hg)
   exact ⟨⟨(i+1,⟨xl,xf⟩,xs),by omega,by simp only;omega,by simp only;omega,hf⟩,lew,by simp;omega⟩
 ·rw [hend,List.drop_length,jrest] at hf
  simp only at hf
  rcases Int.lt_or_le 0 rl with hp|hp
  ·have hg:decide (0<rl)=true:=decide_eq_true hp
   rw [if_pos hp] at hf
   have hpre:(xs++ [zcm ⟨rl,rf⟩])<+:Z.map zcm:=by rw [← hf];simp
   simp only [zcm] at hpre
   refine' zaz (zk hcmp hg)
   all_goals (rintro zs rfl;rw [← hf];simp [zcm])
  ·have hg:decide (0<rl)=false:=decide_eq_false (by omega)
   rw [if_neg (by omega)] at hf
   refine' zaz (zk hcmp hg)
   rintro zs rfl
   rw [← hf]
   simp
theorem zkP (l:List Ext) (hl:l.length≤65536) (h:∀x∈l,1≤x.len∧x.len≤128):ACall Tryz.prog 282 0 [.nils 2,.fn (.func 283) [] [.dp [.d (.sl 2 (l.map extD))]]] [] (fun r h'=>r= .osl 1 2 (ejoin l).length 0 (ejoin l).length∧h'= [(1,.arr 2 ((ejoin l).map extD)),(0,.var [.osl 1 2 (ejoin l).length 0 (ejoin l).length])]):=by
 refine bod Tryz.func282 Tryz.ntmps282 (fun base=>?_)
 have hjl:=zma l
 obtain ⟨Z,hZ⟩:∃Z,Z=ejoin l:=⟨_,rfl⟩
 have hit:=zkO l Z hZ hl h
 rw [← hZ] at hjl ⊢
 refine' zb9 fx
 refine zge 0 0 2 (cs:= [.nils 2]) rfl rfl ?_
 simp only [go_sem,aeq,aeq.aeqF,simprocAttr]
 obtain ⟨I,hI⟩:∃I:List (List AV)→AHeap×Option (List (List AV)),I=fun xs=>([(1,.arr 2 (xs.map extU)),(0,.var [.osl 1 2 xs.length 0 xs.length])],some []):=⟨_,rfl⟩
 obtain ⟨G,hG⟩:∃G:List (List AV)→Prop,G=fun _=>True:=⟨_,rfl⟩
 obtain ⟨J,hJ⟩:∃J:Code→AHeap→Option (List (List AV))→Prop,J=fun c h g=>False:=⟨_,rfl⟩
 refine zbz 100 G I J (hit) (by simp only [go_sem,aeq,aeq.aeqF,simprocAttr]) rfl (z2 rfl) (by simp [cxOf,cxY]) rfl (by rw [hG];first|trivial|rfl|simp) (by rw [hI];simp only [AS.le,leT,leH,zf,AsgK,AV.le,AV.leL,AObj.le,inH,idsT,idsH,AV.ids,AV.idsL,AV.idsR,AObj.ids,lk,hget,go_sem,aeq,aeq.aeqF,simprocAttr]<;>simp [AV.leL,AV.le]) (by rw [hI];simp only [AS.le,leT,leH,zf,AsgK,AV.le,AV.leL,AObj.le,inH,idsT,idsH,AV.ids,AV.idsL,AV.idsR,AObj.ids,lk,hget,go_sem,aeq,aeq.aeqF,simprocAttr]<;>simp) (by rw [hI]<;>rfl) (by intro x hx;obtain ⟨q,_,rfl⟩:=List.mem_map.1 hx;rfl) (by intro t ht;simp at ht;first|(rcases ht with rfl|rfl<;>simp [cxOf,cxY]<;>done)|(subst ht;simp [cxOf,cxY])) ?_ ?_ ?_
 ·intro xs x1 hpre hgd l1' r1
  obtain ⟨ys,⟨el,ef⟩,zs,hys,rfl,hzl⟩:=zdT hpre
  have hxl:=hpre.length_le
  simp only [List.length_append,List.length_map,List.length_cons,List.length_nil] at hxl
  simp only [zcm]
  refine aw_le ⟨[(7,true,.agg [.d (.int .i64 el),.d (.int .i64 ef)]),(2,true,.vp 0 0)],[(1,.arr 2 (xs.map extU)),(0,.var [.osl 1 2 xs.length 0 xs.length])],some []⟩ (by rw [hI];simp only [AS.le,leT,leH,zf,AsgK,AV.le,AV.leL,AObj.le,inH,idsT,idsH,AV.ids,AV.idsL,AV.idsR,AObj.ids,lk,hget,go_sem,aeq,aeq.aeqF,simprocAttr]) ?_
  refine' zb9 hI
  all_goals first|omega|(simp;done)|(rw [hG];trivial)|skip
  all_goals (rw [List.map_append];rfl)
 ·intro _
  rw [hI]
  simp only [zvi,List.length_map]
  refine' zb9 fx
 ·rw [hJ]
  rintro c h3 g3 h
  exact h.elim
theorem zoi (l:List Ext) (hl:l.length≤65536) (h:∀x∈l,1≤x.len∧x.len≤128):ACall Tryz.prog 272 0 [.fn (.func 283) [] [.dp [.d (.sl 2 (l.map extD))]]] [] (fun r _=>r= .d (.sl 2 ((ejoin l).map extD))):=by
 refine fbod Tryz.func272 Tryz.ntmps272 (fun base=>?_)
 refine' zc fx
 refine (ACall.own (fl':=0) (zkP l hl h) rfl rfl (Nat.le_refl _) (by rintro r h' ⟨rfl,rfl⟩;rfl)).mono ?_
 rintro r h' ⟨h1',⟨rfl,rfl⟩,rfl⟩
 simp only [go_sem,aeq,aeq.aeqF,simprocAttr]
 refine' zc fx
@[go_sem] noncomputable def zkQ:Ent Tryz.prog 272:= .ofL (consL (fnT 283 (consL (dpT (consL (slT 2 extD zb1) nilL) (fun p=>p) (fun p=>p) (fun _=>rfl)) nilL)) nilL) (fun (((l,_),_),_)=>(l.length≤65536)∧(∀x∈l,1≤x.len∧x.len≤128)) (fun (((l,_),_),_)=> .d (.sl 2 ((ejoin l).map extD))) (fun (((l,_),_),_) hp=>⟨rfl,zoi l hp.1 hp.2⟩)
theorem zw2 (l:List Ext) (hp:l.length≤65536∧(∀x∈l,1≤x.len∧x.len≤128)):AC 243 [.d (.sl 2 (l.map extD))] (.d (.sl 2 ((ejoin l).map extD))):=by
 obtain ⟨hl,h⟩:=hp
 refine fbod Tryz.func243 Tryz.ntmps243 (fun base=>?_)
 refine' walkW fx (za zoh <| za zkQ <| zb _)
 all_goals first|omega|exact h|skip
@[go_sem] noncomputable def zdh:Ent Tryz.prog 243:= .m1 (slT 2 extD zb1) zw2
theorem zoj (g:Geom) (a n:Int) (hp:0≤g.guest∧g.guest≤1000000):AC 202 [geomA g,.d (.int .i64 a),.d (.int .i64 n)] (.d (.bool (decide (n<1)|| !inB g.guest a n))):=by
 obtain ⟨h0,h1⟩:=hp
 refine fbod Tryz.func202 Tryz.ntmps202 (fun base=>?_)
 have hw:IntKind.i64.wrap (g.guest*128)=128*g.guest:=by rw [ze (by omega) (by omega)];omega
 have hx:(decide (a<0)||decide (n<1)||decide (128*g.guest<n)||decide (IntKind.i64.wrap (128*g.guest - n)<a))=(decide (n<1)|| !inB g.guest a n):=by
  by_cases hn:n<1
  ·rw [decide_eq_true hn];simp
  ·rw [← zpv h0 h1,decide_eq_false hn,decide_eq_false (by omega:¬n<0)]
   simp
 refine' zc (zk hw hx)
@[go_sem] noncomputable def zcL:Ent Tryz.prog 202:= .m3 zdl (intT .i64) (intT .i64) zoj
structure Tbt where
 d:Disk
 l1:Int
def tbtA (t:Tbt):AV:= .agg [.d (.str t.d.data),.d (.sl 2 (t.d.cache.map putD)),.d (.int .i64 t.d.fuse),.d (.bool t.d.off),.d (.sl 1 (t.d.bad.map intD)),.d (.int .i64 t.l1)]
attribute [go_sem] tbtA
noncomputable def zvR:PT Tbt:=aggT (consL strT (consL (slT 2 putD zhB) (consL (intT .i64) (consL boolT (consL (slT 1 intD zc2) (consL (intT .i64) nilL)))))) (fun p=>⟨⟨p.1,p.2.1,p.2.2.1,p.2.2.2.1,p.2.2.2.2.1⟩,p.2.2.2.2.2.1⟩) (fun x=>(x.d.data,x.d.cache,x.d.fuse,x.d.off,x.d.bad,x.l1,())) (fun _=>rfl)
attribute [go_sem] zvR
theorem ztj (t:Tbt) (g:Int) (h:DiskF t.d):AC 328 [tbtA t,.d (.int .i64 g)] (.tup [.d (.int .i64 (elkF t.d t.l1 g).1),.d (.int .i64 (elkF t.d t.l1 g).2)]):=by
 refine fbod Tryz.func328 Tryz.ntmps328 (fun base=>?_)
 have hdp:DP t.d p0:=⟨h,zcc⟩
 have hk:=zqG (d:=t.d) (p:=p0) (l:=t.l1) (g:=g)
 obtain ⟨Y,hY⟩:∃Y,Y=elook t.d p0 t.l1 g:=⟨_,rfl⟩
 unfold elkF zhq
 rw [← hY] at hk ⊢
 rcases hk with hk|hk|hk
 ·refine' walkW (zk hY.symm hk) (za zB <| zb _)
 ·refine' walkW (zk hY.symm hk) (za zB <| zb _)
 ·refine' walkW (zk hY.symm hk) (za zB <| zb _)
@[go_sem] noncomputable def zeQ:Ent Tryz.prog 328:= .m2 zvR (intT .i64) ztj
@[go_sem] theorem meth_tab:zlf Tryz.prog 282 "cofferdam/span.flags" =some 328:=by kernel_rfl
@[go_sem] theorem zxH:zlf Tryz.prog 286 "cofferdam/span.flags" =some 329:=by kernel_rfl
theorem zqV (t:Tbt) (a:Int) (n:Int) (h:DiskF t.d):ACall Tryz.prog 203 0 [.d (.int .i64 a),.d (.int .i64 n),.iface 282 (tbtA t)] [] (fun r _=>r= .tup [.d (.sl 2 ((spL (elkF t.d t.l1) (cutsL a n) []).1.map extD)),.d (.int .i64 (spL (elkF t.d t.l1) (cutsL a n) []).2)]):=by
 refine fbod Tryz.func203 Tryz.ntmps203 (fun base=>?_)
 obtain ⟨Z,hZ⟩:∃Z,Z=spL (elkF t.d t.l1) (cutsL a n) []:=⟨_,rfl⟩
 rw [← hZ]
 obtain ⟨l,hl⟩:∃l,l=cutsL a n:=⟨_,rfl⟩
 have hll:l.length≤65536:=by rw [hl];exact zce a n
 have hrg:∀q∈l,1≤q.2.2∧q.2.2≤128:=by rw [hl];exact fun q hq=>⟨(zdf q hq).2.2.2,zfH a n q hq⟩
 rw [← hl] at hZ
 refine' walkW hl.symm (za zbA <| za zeQ <| za zdh <| zb _)
 refine zcg 8 2 rfl ?_
 simp only [fresh,top,hget, ↓reduceIte]
 refine zo (fun q: { q:Nat×List Ext // q.1≤l.length∧q.2.length=q.1∧(∀y∈q.2,1≤y.len∧y.len≤128)∧Z=spL (elkF t.d t.l1) (l.drop q.1) q.2 } =>⟨[(2,true,.iface 282 (tbtA t)),(8,true,.osl 0 2 q.1.2.length 0 q.1.2.length),(15,true,.d (.sl 3 (l.map cutD))),(16,true,.d (.int .i64 l.length)),(17,true,.d (.int .i64 q.1.1))],[(0,.arr 2 (q.1.2.map extD))],some []⟩) (fun q=>l.length - q.1.1) ⟨(0,[]),Nat.zero_le _,rfl,by simp,hZ⟩ le1 (fun q=>?_)
 obtain ⟨⟨i,o⟩,hi,hol,ho,hf⟩:=q
 simp only at hi hol ho hf ⊢
 rcases zD cutD l i hi with ⟨⟨c0,c1,c2⟩,hq,hlt,hcmp,hrow,hdr,htk⟩|⟨hend,hcmp⟩
 ·simp only [cutD] at hrow
  have hwi:=zn (i:=i) (by omega)
  have hcr:=hrg _ (List.mem_of_getElem? hq)
  rw [hdr] at hf
  have hf:=zpr hf
  simp only at hf hcr
  obtain ⟨C,hC⟩:∃C,C=elkF t.d t.l1 c0:=⟨_,rfl⟩
  rw [← hC] at hf
  cases he:(C.2 !=0) with
  |true=>
   rw [if_pos (by simpa using he)] at hf
   refine' walkW (zS hcmp hrow hC.symm he) (za zbA <| za zeQ <| za zdh <| zb _)
   rw [hf]
   rfl
  | false=>
   rw [if_neg (by simpa using he)] at hf
   refine' walkW (zS hcmp hrow hC.symm he) (za zbA <| za zeQ <| za zdh <| zb _)
   all_goals first|omega|skip
   exact ⟨⟨(i+1,o++ [⟨c2,C.1⟩]),by omega,by simp [hol],fun y hy=>by
    rcases List.mem_append.1 hy with hy|hy
    ·exact ho y hy
    ·rw [List.mem_singleton] at hy
     subst hy
     simp only
     omega,hf⟩,by simp only [List.map_append,List.length_append,List.length_singleton];simp only [AS.le,leT,leH,zf,AsgK,AV.le,AV.leL,AObj.le,inH,idsT,idsH,AV.ids,AV.idsL,AV.idsR,AObj.ids,lk,hget,go_sem,aeq,aeq.aeqF,simprocAttr,hwi]<;>and_intros<;>rfl,by simp;omega⟩
 ·rw [hend,List.drop_length,spL] at hf
  have hol2:o.length≤65536:=by omega
  refine zc8 0 rfl ?_;simp only [go_sem,aeq,aeq.aeqF,simprocAttr]
  refine' walkW hcmp (za zbA <| za zeQ <| za zdh <| zb _)
  all_goals first|omega|exact ho|skip
  rw [hf]
theorem ztk (x:Img) (l1 a n:Int) (hp:ImgF x∧0≤x.geom.guest):AC 165 [imgA x,.d (.int .i64 l1),.d (.int .i64 a),.d (.int .i64 n)] (.tup [.d (.sl 2 ((zbO x l1 a n).1.map extD)),.d (.int .i64 (zbO x l1 a n).2)]):=by
 obtain ⟨h,h0⟩:=hp
 refine fbod Tryz.func165 Tryz.ntmps165 (fun base=>?_)
 have hgu:=h.guest
 obtain ⟨Z,hZ⟩:∃Z,Z=zbO x l1 a n:=⟨_,rfl⟩
 rw [← hZ]
 rw [zbO] at hZ
 by_cases hr:n<1∨inB x.geom.guest a n=false
 ·rw [if_pos hr] at hZ
  have hdec:(decide (n<1)|| !inB x.geom.guest a n)=true:=by simpa using hr
  refine' walkW hdec (za zcL <| zb _)
  rw [hZ]
  rfl
 ·rw [if_neg hr] at hZ
  have hdec:(decide (n<1)|| !inB x.geom.guest a n)=false:=by simpa using hr
  refine' walkW hdec (za zcL <| zb _)
  refine (zbJ (zqV ⟨x.disk,l1⟩ a n h.disk)).mono ?_
  rintro r h' ⟨rfl,rfl⟩
  simp only [go_sem,aeq,aeq.aeqF,simprocAttr]
  refine' zc fx
  rw [hZ]
@[go_sem] noncomputable def zcY:Ent Tryz.prog 165:= .m4 zaO (intT .i64) (intT .i64) (intT .i64) ztk
end Go.Aw
