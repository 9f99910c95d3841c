/-
  Parts of the proof: PointG, WipeB, TaskA, TaskJ, TaskC (short names; the readable texts lie in the repo, under wip).
-/
import Derived.Test.YtgkjmbopnaeanaaGreatPart29
import Derived.Test.YtgkjmbopnaeanaaGreatPart30
import Derived.Test.YtgkjmbopnaeanaaGreatPart10
set_option maxRecDepth 100000
set_option maxHeartbeats 2000000
set_option linter.unusedSimpArgs false
set_option linter.unusedVariables false
namespace Go.Aw
open Go Go.Proofs
theorem DP.wget {d:Disk} {s:Wk} (h:DP d s.q) (t i:Int):DP d (wget d s t i).2.q:=by
 unfold Aw.wget;split<;>exact h
def zpl (d:Disk) (s:Wk) (y:Ent2):Wk:=if y.kind=1 then wcount d s y.loc (-1) else s
def zjH (d:Disk) (s:Wk) (k i:Int) (x:Ent2):Wk:=wset d (zpl d (wget d s k i).2 (wget d s k i).1) k i x
theorem zsL {d:Disk} {p q:Plan} {k i:Int} {x:Ent2} :(if (zjH d ⟨q,0⟩ k i x).e≠0 then (p,(zjH d ⟨q,0⟩ k i x).e) else ((zjH d ⟨q,0⟩ k i x).q,0))=zgW d p q k i x:=by
 by_cases h1:(eget d q k i).2=0<;>by_cases h2:(eget d q k i).1.kind=1
 all_goals simp only [zjH,zpl,wget,zgW,wcount,wset,h1,h2,ne_eq,not_true_eq_false,not_false_eq_true,if_true,if_false,ite_true,ite_false,implies_true,true_implies,and_self]
 all_goals (repeat' split)<;>simp_all
theorem zuT (d:Disk) (p:Plan) (g:Geom) (k:Int) (x:Ent2) (hp:DP d p∧g.host≤1000000∧g.guest≤1000000):AC 163 [diskA d,planA p,geomA g,.d (.int .i64 k),entA x] (.tup [planA (ppoint d p g k x).1,.d (.int .i64 (ppoint d p g k x).2)]):=by
 obtain ⟨h,hg,hgg⟩:=hp
 refine bod Tryz.func163 Tryz.ntmps163 (fun base=>?_)
 refine' zc fx
 refine ((zxD g d p k h hg hgg).one (fl':=0) rfl rfl (z2 rfl) rfl (by simp [AObj.ids,AV.idsL,AV.ids,wkP]) (by simp [AV.idsL,AV.ids,entA]) (by omega)).mono ?_
 rintro r h' ⟨ob',⟨t,s,rfl,rfl,he,hs,hd⟩,rfl⟩
 have hpp:ppoint d p g k x=if s.e≠0 then (p,s.e) else zgW d p (pown d p g k).1 (pown d p g k).2.1 (k % 16) x:=by rw [ppoint,← he]
 simp only [go_sem,aeq,aeq.aeqF,simprocAttr]
 by_cases he0:s.e=0
 ·obtain ⟨hq,rfl⟩:=hs he0
  have hk0:0≤k∧k<g.guest:=by
   rw [he0] at he
   unfold pown at he
   by_cases hk:k<0∨g.guest≤k
   ·rw [if_pos hk] at he;cases he
   ·omega
  have hw2:k.tmod 16=k % 16:=Int.tmod_eq_emod_of_nonneg (by omega)
  rw [if_neg (by omega),← hq] at hpp
  obtain ⟨t,ht⟩:∃t,t=(pown d p g k).2.1:=⟨_,rfl⟩
  rw [← ht] at hpp ⊢
  simp only [he0]
  refine' zc hw2
  refine ((zvL g d ⟨s.q,0⟩ t (k % 16) hd).one (fl':=0) rfl rfl (z2 rfl) rfl (by simp [AObj.ids,AV.idsL,AV.ids,wkP]) (by simp [AV.idsL,AV.ids,entA]) (by omega)).mono ?_
  rintro r h' ⟨ob',⟨rfl,rfl⟩,rfl⟩
  simp only [go_sem,aeq,aeq.aeqF,simprocAttr]
  obtain ⟨G,hG⟩:∃G,G=wget d ⟨s.q,0⟩ t (k % 16):=⟨_,rfl⟩
  have hdG:DP d G.2.q:=by rw [hG];exact DP.wget (s:=⟨s.q,0⟩) hd _ _
  rw [← hG]
  have hfin:∀S,S=zjH d ⟨s.q,0⟩ t (k % 16) x→ppoint d p g k x=if S.e≠0 then (p,S.e) else (S.q,0):=fun S hS=>by rw [hpp,hS,zsL]
  rw [zjH,← hG] at hfin
  by_cases hk1:G.1.kind=1
  ·rw [zpl,if_pos hk1] at hfin
   refine' zc (zk hw2 hk1)
   refine ((zph g d G.2 G.1.loc (-1) hdG).one (fl':=0) rfl rfl (z2 rfl) rfl (by simp [AObj.ids,AV.idsL,AV.ids,wkP]) (by simp [AV.idsL,AV.ids,entA]) (by omega)).mono ?_
   rintro r h' ⟨ob',⟨rfl,rfl⟩,rfl⟩
   simp only [go_sem,aeq,aeq.aeqF,simprocAttr]
   refine' zc hw2
   refine ((zpi g d (wcount d G.2 G.1.loc (-1)) t (k % 16) x (hdG.wcount _ _)).one (fl':=0) rfl rfl (z2 rfl) rfl (by simp [AObj.ids,AV.idsL,AV.ids,wkP]) (by simp [AV.idsL,AV.ids,entA]) (by omega)).mono ?_
   rintro r h' ⟨ob',⟨rfl,rfl⟩,rfl⟩
   simp only [go_sem,aeq,aeq.aeqF,simprocAttr]
   obtain ⟨S,hS⟩:∃S,S=wset d (wcount d G.2 G.1.loc (-1)) t (k % 16) x:=⟨_,rfl⟩
   have hfin:=hfin S hS
   rw [← hS]
   by_cases hS0:S.e=0
   ·have hb:(S.e !=0)=false:=by simpa using hS0
    refine' zc hb
    all_goals rw [hfin,if_neg (by omega)]
   ·have hb:(S.e !=0)=true:=by simpa using hS0
    refine' zc hb
    all_goals rw [hfin,if_pos hS0]
  ·rw [zpl,if_neg hk1] at hfin
   have hk2:(G.1.kind==1)=false:=by simpa using hk1
   refine' zc (zk hw2 hk2)
   refine ((zpi g d G.2 t (k % 16) x hdG).one (fl':=0) rfl rfl (z2 rfl) rfl (by simp [AObj.ids,AV.idsL,AV.ids,wkP]) (by simp [AV.idsL,AV.ids,entA]) (by omega)).mono ?_
   rintro r h' ⟨ob',⟨rfl,rfl⟩,rfl⟩
   simp only [go_sem,aeq,aeq.aeqF,simprocAttr]
   obtain ⟨S,hS⟩:∃S,S=wset d G.2 t (k % 16) x:=⟨_,rfl⟩
   have hfin:=hfin S hS
   rw [← hS]
   by_cases hS0:S.e=0
   ·have hb:(S.e !=0)=false:=by simpa using hS0
    refine' zc hb
    all_goals rw [hfin,if_neg (by omega)]
   ·have hb:(S.e !=0)=true:=by simpa using hS0
    refine' zc hb
    all_goals rw [hfin,if_pos hS0]
 ·have hb:(s.e !=0)=true:=by simpa using he0
  rw [if_pos he0] at hpp
  refine' zc hb
  rw [hpp]
@[go_sem] noncomputable def zW:Ent Tryz.prog 163:= .m5 zA zN zdl (intT .i64) zfU zuT
open Go Go.Proofs
theorem zu6 (x:Img) (guest:Int) (isH:Bool) (hp:ImgF x∧x.maps.length≤5000):AC 122 [imgA x,.d (.int .i64 guest),.d (.bool isH)] (.tup [imgA (wipe x guest isH).1,.d (.int .i64 (wipe x guest isH).2)]):=by
 obtain ⟨h,hm⟩:=hp
 refine fbod Tryz.func122 Tryz.ntmps122 (fun base=>?_)
 obtain ⟨Z,hZ⟩:∃Z,Z=wipe x guest isH:=⟨_,rfl⟩
 have hZ2:=hZ
 rw [wipe] at hZ2
 have hio:=h.ok
 have hX:=h.mark guest
 obtain ⟨X,hXe⟩:∃X,X=cmark x guest:=⟨_,rfl⟩
 rw [← hXe] at hX hZ2
 have hdp:DP X.disk p0:=⟨hX.disk,zcc⟩
 have hho:=hX.host
 have hgu:=hX.guest
 have hxo:=hX.ok
 have hxd:=hX.disk
 have hq0:=hX.seq0
 have hq1:=hX.seq1
 obtain ⟨k,hk⟩:∃k:Int,k=if isH then 0 else 2:=⟨_,rfl⟩
 rw [← hk] at hZ2
 obtain ⟨R,hR⟩:∃R,R=zC X.disk p0:=⟨_,rfl⟩
 obtain ⟨Y,hY⟩:∃Y,Y=elook X.disk p0 R.1.l1 guest:=⟨_,rfl⟩
 obtain ⟨P,hP⟩:∃P,P=ppoint X.disk p0 X.geom guest ⟨k,0⟩:=⟨_,rfl⟩
 have hpf:pfit P.1=true:=by rw [hP];exact (hdp.ppoint _ _ _).p
 obtain ⟨D,hD⟩:∃D,D=cdone X P.1:=⟨_,rfl⟩
 rw [wipe2,← hR,← hY,← hP,← hD] at hZ2
 by_cases hr:guest<0∨x.geom.guest≤guest
 ·have hdec:(decide (guest<0)||decide (x.geom.guest≤guest))=true:=by simpa using hr
  rw [if_pos hr] at hZ2
  refine' walkW (zk hdec hZ.symm) (za zbn <| za zj <| za zB <| za zW <| za zE <| zb _)
  ·rw [hZ2,if_pos hc]
  ·rw [hZ2,if_neg (by rw [hc];decide)]
 have hdec:(decide (guest<0)||decide (x.geom.guest≤guest))=false:=by simpa using hr
 rw [if_neg hr] at hZ2
 refine' zh6 (zbh 5) (zk hdec hZ.symm) (za zbn <| za zj <| za zB <| za zW <| za zE <| zb _)
 ·rw [hZ2,if_pos hc]
 rw [if_neg (by rw [hc];decide)] at hZ2
 clear hc
 cases isH with
 |true=>
  have hk0:k=0:=hk
  subst hk0
  refine' walkW (zq hXe.symm hR.symm hY.symm hP.symm hD.symm hZ.symm) (za zbn <| za zj <| za zB <| za zW <| za zE <| zb _)
  all_goals first|omega|skip
  all_goals rw [hZ2]
  all_goals (refine (show (_:AV)=_ from ?_));(repeat (first|(rewrite [if_pos];rotate_left;(first|exact bneP (by assumption)|exact beqP (by assumption)|exact of_decide_eq_true (by assumption)|assumption))|(rewrite [if_neg];rotate_left;(first|exact bneN (by assumption)|exact beqN (by assumption)|exact of_decide_eq_false (by assumption)|assumption))))
  all_goals rfl
 |false=>
  have hk0:k=2:=hk
  subst hk0
  refine' walkW (zq hXe.symm hR.symm hY.symm hP.symm hD.symm hZ.symm) (za zbn <| za zj <| za zB <| za zW <| za zE <| zb _)
  all_goals first|omega|skip
  all_goals rw [hZ2]
  all_goals (refine (show (_:AV)=_ from ?_));(repeat (first|(rewrite [if_pos];rotate_left;(first|exact bneP (by assumption)|exact beqP (by assumption)|exact of_decide_eq_true (by assumption)|assumption))|(rewrite [if_neg];rotate_left;(first|exact bneN (by assumption)|exact beqN (by assumption)|exact of_decide_eq_false (by assumption)|assumption))))
  all_goals rfl
@[go_sem] noncomputable def zb0:Ent Tryz.prog 122:= .m3 zaO (intT .i64) boolT zu6
theorem zwR (n:Nat):∀a,∀q∈cuts a n,q.2.2≤128:=by
 induction n using Nat.strongRecOn with
 | _ n ih=>
  intro a q hq
  rcases Nat.eq_zero_or_pos n with rfl|h
  ·simp [zfm] at hq
  ·rw [zeL a n h,List.mem_cons] at hq
   rcases hq with rfl|hq
   ·simp only;omega
   ·exact ih _ (by omega) _ q hq
theorem zfH (a n:Int):∀q∈cutsL a n,q.2.2≤128:=by
 unfold cutsL
 split
 ·intro q hq;cases hq
 ·exact zwR _ _
theorem zce (a n:Int):(cutsL a n).length≤65536:=by
 unfold cutsL
 split
 ·exact Nat.zero_le _
 ·have:=zkE n.toNat a.toNat
  omega
def zbE (hole:Bool) (q:Nat×Nat×Nat) (x:Img):Img×Int:=if q.2.2=128 then wipe x q.1 hole else zbk x q.1 q.2.1 (List.replicate q.2.2 0)
theorem IF.clear1 {x:Img} (h:ImgF x) (hole:Bool) (q:Nat×Nat×Nat):IF x (zbE hole q x).1:=by
 unfold zbE
 split
 ·exact IF.wipe h _ _
 ·exact IF.write h _ _ _
theorem ImgF.wipe {x:Img} (h:ImgF x) (g:Int) (hole:Bool):ImgF (wipe x g hole).1:=by
 have hm:=h.mark g
 unfold Aw.wipe
 split
 ·exact h
 split
 ·exact h
 obtain ⟨kd,hkd⟩:∃kd:Int,kd=if hole then 0 else 2:=⟨_,rfl⟩
 rw [← hkd]
 unfold wipe2
 repeat (split;exact hm)
 exact hm.done _
theorem ImgF.clear1 {x:Img} (h:ImgF x) (hole:Bool) (q:Nat×Nat×Nat):ImgF (zbE hole q x).1:=by
 unfold zbE
 split
 ·exact h.wipe _ _
 ·exact h.write _ _ _
open Go Go.Proofs
theorem zkH:∀a b,cutD a=cutD b→a=b:=by
 rintro ⟨a,b,c⟩ ⟨a',b',c'⟩ h
 simp only [cutD,List.cons.injEq,D.int.injEq,true_and,and_true] at h
 obtain ⟨h1,h2,h3⟩:=h
 obtain rfl:a=a':=by omega
 obtain rfl:b=b':=by omega
 obtain rfl:c=c':=by omega
 rfl
def u32D (n:Int):List D:= [.int .u32 n]
theorem zfI:∀a b,u32D a=u32D b→a=b:=by
 intro a b h
 simpa only [u32D,List.cons.injEq,D.int.injEq,true_and,and_true] using h
structure Ext where
 len:Int
 flags:Int
 deriving DecidableEq
def extD (e:Ext):List D:= [.int .i64 e.len,.int .i64 e.flags]
theorem zb1:∀a b,extD a=extD b→a=b:=by
 rintro ⟨a,b⟩ ⟨a',b'⟩ h
 simp only [extD,List.cons.injEq,D.int.injEq,true_and,and_true] at h
 rw [h.1,h.2]
structure Spn where
 ctx:Int
 list:List Ext
 deriving DecidableEq
def spnD (s:Spn):List D:= [.int .u32 s.ctx,.sl 2 (s.list.map extD)]
theorem zkI:∀a b,spnD a=spnD b→a=b:=by
 rintro ⟨a,b⟩ ⟨a',b'⟩ h
 simp only [spnD,List.cons.injEq,D.int.injEq,D.sl.injEq,true_and,and_true] at h
 rw [h.1,(zrB zb1).mp h.2]
structure Rq where
 flags:Int
 kind:Int
 cookie:Int
 frm:Int
 len:Int
 data:Txt
 deriving DecidableEq
def rqA (q:Rq):AV:= .agg [.d (.int .i64 q.flags),.d (.int .i64 q.kind),.d (.int .u64 q.cookie),.d (.int .u64 q.frm),.d (.int .u32 q.len),.d (.str q.data)]
attribute [go_sem] rqA
theorem zxF (q:Rq):Rq.mk q.flags q.kind q.cookie q.frm q.len q.data=q:=rfl
noncomputable def rqA_T:PT Rq:=aggT (consL (intT .i64) (consL (intT .i64) (consL (intT .u64) (consL (intT .u64) (consL (intT .u32) (consL strT nilL)))))) (fun p=>⟨p.1,p.2.1,p.2.2.1,p.2.2.2.1,p.2.2.2.2.1,p.2.2.2.2.2.1⟩) (fun x=>(x.flags,x.kind,x.cookie,x.frm,x.len,x.data,())) (fun _=>rfl)
attribute [go_sem] rqA_T
attribute [go_sem] zxF
structure Tsk where
 q:Rq
 cuts:List (Nat×Nat×Nat)
 loc:Int
 err:Int
 data:Txt
 spans:List Spn
 done:Bool
 deriving DecidableEq
def tskA (t:Tsk):AV:= .agg [.d (.int .i64 t.q.flags),.d (.int .i64 t.q.kind),.d (.int .u64 t.q.cookie),.d (.int .u64 t.q.frm),.d (.int .u32 t.q.len),.d (.str t.q.data),.d (.sl 3 (t.cuts.map cutD)),.d (.int .i64 t.loc),.d (.int .u32 t.err),.d (.str t.data),.d (.sl 2 (t.spans.map spnD)),.d (.bool t.done)]
attribute [go_sem] tskA
theorem zwS (t:Tsk):Tsk.mk t.q t.cuts t.loc t.err t.data t.spans t.done=t:=rfl
noncomputable def zfn:PT Tsk:=aggT (consL (intT .i64) (consL (intT .i64) (consL (intT .u64) (consL (intT .u64) (consL (intT .u32) (consL strT (consL (slT 3 cutD zkH) (consL (intT .i64) (consL (intT .u32) (consL strT (consL (slT 2 spnD zkI) (consL boolT nilL)))))))))))) (fun p=>⟨⟨p.1,p.2.1,p.2.2.1,p.2.2.2.1,p.2.2.2.2.1,p.2.2.2.2.2.1⟩,p.2.2.2.2.2.2.1,p.2.2.2.2.2.2.2.1,p.2.2.2.2.2.2.2.2.1,p.2.2.2.2.2.2.2.2.2.1,p.2.2.2.2.2.2.2.2.2.2.1,p.2.2.2.2.2.2.2.2.2.2.2.1⟩) (fun x=>(x.q.flags,x.q.kind,x.q.cookie,x.q.frm,x.q.len,x.q.data,x.cuts,x.loc,x.err,x.data,x.spans,x.done,())) (fun _=>rfl)
attribute [go_sem] zfn
attribute [go_sem] zwS
def inB (g a n:Int):Bool:=decide (0≤a)&&decide (0≤n)&&decide (n≤128*g)&&decide (a≤128*g - n)
theorem inB_iff {g a n:Int} :inB g a n=true↔0≤a∧0≤n∧n≤128*g∧a≤128*g - n:=by
 unfold inB
 simp only [Bool.and_eq_true,decide_eq_true_eq,and_assoc]
def zeY (d:Disk) (l1:Int):List (Nat×Nat×Nat)→Txt→Txt×Int
 | [],s=>(s,0)
 |q::r,s=>if (cread d l1 q.1).2≠0 then ([],(cread d l1 q.1).2) else zeY d l1 r (s++((cread d l1 q.1).1.take (q.2.1+q.2.2)).drop q.2.1)
def iread (x:Img) (a n:Int):Txt×Int:=
 if inB x.geom.guest a n=false then ([],10) else if (zC x.disk p0).2≠0 then ([],(zC x.disk p0).2) else zeY x.disk (zC x.disk p0).1.l1 (cutsL a n) []
def zdp (x:Img):Img×Int:=
 if x.broken then (x,24) else ({ x with disk:=(dflush x.disk).1,broken:=(dflush x.disk).2 !=0 },(dflush x.disk).2)
def jst (o:List Ext) (x:Ext):List Ext:=match o.getLast? with
 |some y=>if y.flags=x.flags then o.dropLast++ [⟨y.len+x.len,x.flags⟩] else o++ [x]
 |none=> [x]
def ejoin (l:List Ext):List Ext:=l.foldl jst []
def zhq (y:Ent2):Int:=if y.kind=1 then 0 else if y.kind=2 then 2 else 3
def spL (f:Int→Int×Int):List (Nat×Nat×Nat)→List Ext→List Ext×Int
 | [],l=>(ejoin l,0)
 |q::r,l=>if (f q.1).2≠0 then ([],(f q.1).2) else spL f r (l++ [⟨q.2.2,(f q.1).1⟩])
def elkF (d:Disk) (l1:Int) (g:Int):Int×Int:=(zhq (elook d p0 l1 g).1,(elook d p0 l1 g).2)
def bitF (m:Dmap) (g:Int):Int×Int:=(if m.bits.getD g.toNat false then 1 else 0,0)
def zbO (x:Img) (l1 a n:Int):List Ext×Int:=
 if n<1∨inB x.geom.guest a n=false then ([],10) else spL (elkF x.disk l1) (cutsL a n) []
def zcG (x:Img) (name:Txt) (a n:Int):List Ext×Int:=
 if n<1∨inB x.geom.guest a n=false then ([],10) else match x.maps.find? fun m=>m.name==name with
  |none=>([],21)
  |some m=>spL (bitF m) (cutsL a n) []
def hasF (f k:Int):Bool:=ibits .and .i64 f k !=0
def isPc (k:Int):Bool:=k==0||k==1||k==4||k==6
def tnew (q:Rq):Tsk:=⟨q,if isPc q.kind∧q.frm<1073741824 then cutsL q.frm q.len else [],0,0,[],[],false⟩
def tfail (t:Tsk) (e:Int):Tsk:= { t with done:=true,data:= [],spans:= [],err:=if e=17 then 28 else 5 }
def tpc (x:Img) (q:Rq) (c:Nat×Nat×Nat):Img×Txt×Int:=
 if q.kind=0 then (x,iread x (c.1*128+c.2.1) c.2.2)
 else if q.kind=1 then ((zbk x c.1 c.2.1 ((q.data.take (c.1*128+c.2.1 - q.frm+c.2.2).toNat).drop (c.1*128+c.2.1 - q.frm).toNat)).1,[],(zbk x c.1 c.2.1 ((q.data.take (c.1*128+c.2.1 - q.frm+c.2.2).toNat).drop (c.1*128+c.2.1 - q.frm).toNat)).2)
 else ((zbE (q.kind==4|| !hasF q.flags 2) c x).1,[],(zbE (q.kind==4|| !hasF q.flags 2) c x).2)
def tctx0 (x:Img) (q:Rq) (k:Int):List Ext×Int:=
 if k=1 then (if (zC x.disk p0).2≠0 then ([],(zC x.disk p0).2) else zbO x (zC x.disk p0).1.l1 q.frm q.len)
 else match (if k<2 then none else x.maps[(k - 2).toNat]?) with
  |none=>([],21)
  |some m=>zcG x m.name q.frm q.len
def tcut1 (q:Rq) (s:List Ext×Int):List Ext×Int:=if s.2=0∧hasF q.flags 8 then (s.1.take 1,0) else s
def tctx (x:Img) (q:Rq) (k:Int):List Ext×Int:=tcut1 q (tctx0 x q k)
def tctxL (x:Img) (q:Rq):List Int→List Spn→List Spn×Int
 | [],l=>(l,0)
 |k::r,l=>if (tctx x q k).2≠0 then ([],(tctx x q k).2) else tctxL x q r (l++ [⟨k,(tctx x q k).1⟩])
def tlast (x:Img) (q:Rq) (ms:List Int):Img×List Spn×Int:=
 if q.kind=7 then (x,tctxL x q ms []) else if q.kind=3∨hasF q.flags 1 then ((zdp x).1,[],(zdp x).2) else (x,[],0)
def tstep (x:Img) (t:Tsk) (ms:List Int):Img×Tsk:=
 if t.done then (x,t)
 else match t.cuts[t.loc.toNat]? with
  |some c=>((tpc x t.q c).1,if (tpc x t.q c).2.2≠0 then tfail { t with loc:=t.loc+1 } (tpc x t.q c).2.2 else { t with loc:=t.loc+1,data:=t.data++(tpc x t.q c).2.1,done:=(t.loc+1==(t.cuts.length:Int))&& !hasF t.q.flags 1 })
  |none=>((tlast x t.q ms).1,if (tlast x t.q ms).2.2≠0 then tfail t (tlast x t.q ms).2.2 else { t with spans:=(tlast x t.q ms).2.1,done:=true })
def trunN (ms:List Int):Nat→Img→Tsk→Img×Tsk
 |0,x,t=>(x,t)
 |n+1,x,t=>trunN ms n (tstep x t ms).1 (tstep x t ms).2
def trun (x:Img) (q:Rq) (ms:List Int):Img×Tsk:=trunN ms ((tnew q).cuts.length+1) x (tnew q)
def zsU:Txt:= [103,68,102,152]
def zeM:Txt:= [102,142,51,239]
def zcH (err cookie:Int) (data:Txt):Txt×Int:=if 4096<(data.length:Int)∨err≠0∧data≠ [] then ([],11) else (zsU++putN err.toNat 4++putN cookie.toNat 8++data,0)
def zaV (done:Bool) (kind cookie:Int) (data:Txt):Txt×Int:=
 if kind<0∨65535<kind then ([],25) else if 4128<(data.length:Int) then ([],11) else (zeM++putN (if done then 1 else 0) 2++putN kind.toNat 2++putN cookie.toNat 8++putN data.length 4++data,0)
def rdata (frm:Int) (s:Txt):Txt:=putN frm.toNat 8++s
def rfail (e:Int):Txt:=putN e.toNat 4++ [0,0]
def extOk (e:Ext):Bool:=decide (1≤e.len)&&decide (e.len≤4294967295)&&decide (0≤e.flags)&&decide (e.flags≤4294967295)
def rrows:List Ext→Txt→Txt×Int
 | [],s=>(s,0)
 |e::r,s=>if extOk e then rrows r (s++putN e.len.toNat 4++putN e.flags.toNat 4) else ([],25)
def zcI (ctx:Int) (l:List Ext):Txt×Int:=if l.length=0∨500<l.length then ([],16) else rrows l (putN ctx.toNat 4)
def zdm (q:Rq) (e:Int) (chunks:Bool):Txt:=
 if e=0 then [] else if chunks then (zaV true 32769 q.cookie (rfail e)).1 else (zcH e q.cookie []).1
def zfo (q:Rq):List Spn→Txt→Txt
 | [],s=>s
 |p::r,s=>zfo q r (s++(zaV r.isEmpty 5 q.cookie (zcI p.ctx p.list).1).1)
def zcJ (t:Tsk) (chunks:Bool):Txt:=
 if t.done=false then [] else if t.err≠0 then zdm t.q t.err chunks
 else if chunks=false then (zcH 0 t.q.cookie t.data).1
 else if t.q.kind=0 then (zaV true 1 t.q.cookie (rdata t.q.frm t.data)).1
 else if t.q.kind=7 then zfo t.q t.spans []
 else (zaV true 0 t.q.cookie []).1
open Go Go.Proofs
def jrest:Ext→List Ext→List Ext
 |r,[]=>if 0<r.len then [r] else []
 |r,x::l=>if 0<r.len∧r.flags=x.flags then jrest ⟨r.len+x.len,r.flags⟩ l else if 0<r.len then r::jrest x l else jrest x l
theorem zpp (o:List Ext) (r x:Ext):jst (o++ [r]) x=if r.flags=x.flags then o++ [⟨r.len+x.len,x.flags⟩] else o++ [r]++ [x]:=by
 simp only [jst,List.getLast?_append,List.getLast?_singleton,Option.or_some,Option.some_or,List.dropLast_concat]
theorem zg0:∀ (l:List Ext) (o:List Ext) (r:Ext),0<r.len→(∀x∈l,1≤x.len)→l.foldl jst (o++ [r])=o++jrest r l
 | [],o,r,h,_=>by rw [jrest,if_pos h];rfl
 | x::l,o,r,h,hl=>by
  have hx:=hl x List.mem_cons_self
  have hl':∀y∈l,1≤y.len:=fun y hy=>hl y (List.mem_cons_of_mem _ hy)
  rw [List.foldl_cons,zpp,jrest]
  by_cases he:r.flags=x.flags
  ·rw [if_pos he,if_pos ⟨h,he⟩,← he]
   exact zg0 l o ⟨r.len+x.len,r.flags⟩ (by simp only;omega) hl'
  ·rw [if_neg he,if_neg (fun hh=>he hh.2),if_pos h,zg0 l (o++ [r]) x (by omega) hl',List.append_assoc]
   rfl
theorem zqH (l:List Ext) (hl:∀x∈l,1≤x.len):jrest ⟨0,0⟩ l=ejoin l:=by
 cases l with
 |nil=>rfl
 |cons x l=>
  have hx:=hl x List.mem_cons_self
  rw [jrest,if_neg (by simp),if_neg (by simp),ejoin,List.foldl_cons]
  have:=zg0 l [] x (by omega) (fun y hy=>hl y (List.mem_cons_of_mem _ hy))
  simp only [List.nil_append] at this
  rw [← this]
  rfl
theorem zs0 (o:List Ext) (x:Ext):(jst o x).length≤o.length+1∧jst o x≠ []:=by
 unfold jst
 split
 ·rename_i y hy
  have hne:o≠ []:=by rintro rfl;cases hy
  split
  ·refine ⟨?_,by simp⟩
   simp only [List.length_append,List.length_dropLast,List.length_singleton]
   omega
  ·exact ⟨by simp,by simp⟩
 ·exact ⟨by simp,by simp⟩
theorem ziC:∀ (l o:List Ext),(l.foldl jst o).length≤o.length+l.length∧(o≠ []∨l≠ []→l.foldl jst o≠ [])
 | [],o=>⟨Nat.le_refl _,fun h=>by rcases h with h|h;exact h;exact absurd rfl h⟩
 |x::l,o=>by
  rw [List.foldl_cons]
  obtain ⟨h1,h2⟩:=zs0 o x
  obtain ⟨h3,h4⟩:=ziC l (jst o x)
  exact ⟨by simp only [List.length_cons];omega,fun _=>h4 (.inl h2)⟩
theorem zma (l:List Ext):(ejoin l).length≤l.length:=by
 have:=(ziC l []).1
 simpa [ejoin] using this
theorem zva {l:List Ext} (h:l≠ []):ejoin l≠ []:=(ziC l []).2 (.inr h)
theorem zs1 {f:Int→Int×Int} :∀ (c:List (Nat×Nat×Nat)) (l:List Ext),(c≠ []∨l≠ [])→(spL f c l).2=0→(spL f c l).1≠ []
 | [],l,h,_=>by
  rw [spL]
  exact zva (by rcases h with h|h;exact absurd rfl h;exact h)
 | q::r,l,_,he=>by
  rw [spL] at he ⊢
  split at he
  ·rename_i h;exact absurd he h
  ·rename_i h
   rw [if_neg h]
   exact zs1 r _ (.inr (by simp)) he
theorem zn0 {f:Int→Int×Int} :∀ (c:List (Nat×Nat×Nat)) (l:List Ext),(spL f c l).1.length≤l.length+c.length
 | [],l=>zma l
 | q::r,l=>by
  rw [spL]
  split
  ·exact Nat.zero_le _
  ·have:=zn0 (f:=f) r (l++ [⟨q.2.2,(f q.1).1⟩])
   simp only [List.length_append,List.length_cons,List.length_nil] at this ⊢
   omega
theorem zpq {a n:Int} (h0:0≤a) (h1:1≤n) (h2:a≤1073741824) (h3:n≤65536):cutsL a n≠ []:=by
 rw [cutsL,if_neg (by omega),zeL _ _ (by omega)]
 simp
theorem zjM {x:Img} {l1 a n:Int} (hg:x.geom.guest≤64) (h:(zbO x l1 a n).2=0):(zbO x l1 a n).1≠ []:=by
 unfold zbO at h ⊢
 split at h
 ·cases h
 ·rename_i h1
  rw [if_neg h1]
  simp only [not_or,Bool.not_eq_false] at h1
  have h2:=inB_iff.1 h1.2
  exact zs1 _ _ (.inl (zpq h2.1 (by omega) (by omega) (by omega))) h
theorem zmb {x:Img} {m:Txt} {a n:Int} (hg:x.geom.guest≤64) (h:(zcG x m a n).2=0):(zcG x m a n).1≠ []:=by
 unfold zcG at h ⊢
 split at h
 ·cases h
 ·rename_i h1
  rw [if_neg h1]
  simp only [not_or,Bool.not_eq_false] at h1
  have h2:=inB_iff.1 h1.2
  split at h
  ·cases h
  ·rename_i hm
   exact zs1 _ _ (.inl (zpq h2.1 (by omega) (by omega) (by omega))) h
open Go Go.Proofs
theorem zwT (g a n:Int):(decide (a<0)||decide (n<0)||decide (128*g<n)||decide (128*g - n<a))= !inB g a n:=by
 rw [Bool.eq_iff_iff,Bool.not_eq_true',← Bool.not_eq_true,inB_iff]
 simp only [Bool.or_eq_true,decide_eq_true_eq]
 omega
theorem zmc (g:Geom) (a n:Int) (hp:0≤g.guest∧g.guest≤1000000):AC 74 [geomA g,.d (.int .i64 a),.d (.int .i64 n)] (.d (.bool (inB g.guest a n))):=by
 obtain ⟨h0,h1⟩:=hp
 refine fbod Tryz.func74 Tryz.ntmps74 (fun base=>?_)
 have hw:IntKind.i64.wrap (g.guest*128)=128*g.guest:=by rw [ze (by omega) (by omega)];omega
 have hx:(decide (0≤a)&&decide (0≤n)&&decide (n≤128*g.guest)&&decide (a≤IntKind.i64.wrap (128*g.guest - n)))=inB g.guest a n:=by
  unfold inB
  by_cases h:0≤n∧n≤128*g.guest
  ·rw [ze (by omega) (by omega)]
  ·rcases Int.lt_or_le n 0 with h2|h2
   ·rw [decide_eq_false (p:=0≤n) (by omega)];simp
   ·rw [decide_eq_false (p:=n≤128*g.guest) (by omega)];simp
 refine' zc (zk hw hx)
@[go_sem] noncomputable def zH:Ent Tryz.prog 74:= .m3 zdl (intT .i64) (intT .i64) zmc
abbrev Cust (x y:Nat):= { q:List (Nat×Nat×Nat)×Nat×Nat // q.1++cuts q.2.1 q.2.2=cuts x y∧q.2.1+q.2.2≤x+y∧q.1.length+q.2.2≤y }
theorem zs2 (a n:Int) (_:True):AC 50 [.d (.int .i64 a),.d (.int .i64 n)] (.d (.sl 3 ((cutsL a n).map cutD))):=by
 refine fbod Tryz.func50 Tryz.ntmps50 (fun base=>?_)
 cases hb:(decide (a<0)||decide (n<0)||decide (1073741824<a)||decide (65536<n)) with
 |true=>
  refine' zc hb
  rw [cutsL,if_pos (by simpa [or_assoc] using hb)]
  rfl
 | false=>
  have hb':¬(a<0∨n<0∨1073741824<a∨65536<n):=by simp at hb;omega
  obtain ⟨x,rfl⟩:∃x:Nat,a=x:=⟨a.toNat,by omega⟩
  obtain ⟨y,rfl⟩:∃y:Nat,n=y:=⟨n.toNat,by omega⟩
  have hZ:cutsL (x:Int) (y:Int)=cuts x y:=by rw [cutsL,if_neg hb'];rfl
  rw [hZ]
  refine' zc hb
  refine zcg 5 3 rfl ?_
  simp only [fresh,top,hget, ↓reduceIte]
  refine zo (fun q:Cust x y=>⟨[(0,true,.d (.int .i64 q.1.2.1)),(1,true,.d (.int .i64 q.1.2.2)),(5,true,.osl 0 3 q.1.1.length 0 q.1.1.length)],[(0,.arr 3 (q.1.1.map cutD))],some []⟩) (fun q=>q.1.2.2) ⟨([],x,y),rfl,Nat.le_refl _,by simp⟩ le1 (fun q=>?_)
  obtain ⟨⟨l,a',n'⟩,he,hbq,hl⟩:=q
  simp only at he hbq hl ⊢
  rcases Nat.eq_zero_or_pos n' with hn0|hn0
  ·have hg:decide ((0:Int)<(n':Int))=false:=decide_eq_false (by omega)
   refine' zc hg
   rw [hn0,zfm,List.append_nil] at he
   rw [he]
  ·have hg:decide ((0:Int)<(n':Int))=true:=decide_eq_true (by omega)
   obtain ⟨m,hm⟩:∃m,m=min n' (128 - a' % 128):=⟨_,rfl⟩
   have hq:IntKind.i64.wrap ((a':Int).tdiv 128)=((a' / 128:Nat):Int):=by
    rw [Int.tdiv_eq_ediv_of_nonneg (by omega),IntKind.wrap_i64];omega
   have hr:(a':Int).tmod 128=((a' % 128:Nat):Int):=by
    rw [Int.tmod_eq_emod_of_nonneg (by omega)];omega
   have hs:IntKind.i64.wrap (128 - ((a' % 128:Nat):Int))=((128 - a' % 128:Nat):Int):=by rw [IntKind.wrap_i64];omega
   have hmin:imin (n':Int) ((128 - a' % 128:Nat):Int)=(m:Int):=by
    unfold imin
    split<;>omega
   have hadd:IntKind.i64.wrap ((a':Int)+(m:Int))=((a'+m:Nat):Int):=by rw [IntKind.wrap_i64];omega
   have hsub:IntKind.i64.wrap ((n':Int) - (m:Int))=((n' - m:Nat):Int):=by rw [IntKind.wrap_i64];omega
   rw [zeL a' n' hn0,← hm] at he
   refine' zc (zq hg hq hr hs hmin (zk hadd hsub))
   exact ⟨⟨(l++ [(a' / 128,a' % 128,m)],a'+m,n' - m),by simpa using he,by simp only;omega,by simp only [List.length_append,List.length_singleton];omega⟩,by simp only [List.map_append,List.length_append,List.length_singleton];simp only [AS.le,leT,leH,zf,AsgK,AV.le,AV.leL,AObj.le,inH,idsT,idsH,AV.ids,AV.idsL,AV.idsR,AObj.ids,lk,hget,go_sem,aeq,aeq.aeqF,simprocAttr]<;>and_intros<;>rfl,by simp only;omega⟩
@[go_sem] noncomputable def z7:Ent Tryz.prog 50:= .m2 (intT .i64) (intT .i64) zs2
theorem zn1 (y:Ent2) (_:True):AC 132 [entA y] (.d (.int .i64 (zhq y))):=by
 refine fbod Tryz.func132 Tryz.ntmps132 (fun base=>?_)
 refine' zc fx
 ·rw [zhq,if_pos (beqP hc)]
 ·rename_i h1
  rw [zhq,if_neg (beqN h1),if_pos (beqP hc)]
 ·rename_i h1
  rw [zhq,if_neg (beqN h1),if_neg (beqN hc)]
@[go_sem] noncomputable def zcK:Ent Tryz.prog 132:= .m1 zfU zn1
theorem zwU {o:List Ext} {x:Ext} {k:Int} (h:∀y∈o,1≤y.len∧y.len≤k) (hx0:1≤x.len) (hx:x.len≤128) (hk:0≤k):∀y∈jst o x,1≤y.len∧y.len≤k+128:=by
 intro y hy
 unfold jst at hy
 split at hy
 ·rename_i z hz
  have hzm:=h z (List.mem_of_getLast? hz)
  split at hy
  ·rcases List.mem_append.1 hy with hy|hy
   ·have:=h y (List.dropLast_subset _ hy)
    omega
   ·rw [List.mem_singleton] at hy
    subst hy
    simp only
    omega
  ·rcases List.mem_append.1 hy with hy|hy
   ·have:=h y hy
    omega
   ·rw [List.mem_singleton] at hy
    subst hy
    omega
 ·rw [List.mem_singleton] at hy
  subst hy
  omega
theorem zqI (l:List Ext) (hp:l.length≤65536∧(∀x∈l,1≤x.len∧x.len≤128)):AC 133 [.d (.sl 2 (l.map extD))] (.d (.sl 2 ((ejoin l).map extD))):=by
 obtain ⟨hl,h⟩:=hp
 refine fbod Tryz.func133 Tryz.ntmps133 (fun base=>?_)
 obtain ⟨Z,hZ⟩:∃Z,Z=ejoin l:=⟨_,rfl⟩
 rw [← hZ]
 rw [ejoin] at hZ
 refine' zc fx
 refine zcg 3 2 rfl ?_
 simp only [fresh,top,hget, ↓reduceIte]
 refine zo (fun q: { q:Nat×List Ext // q.1≤l.length∧Z=(l.drop q.1).foldl jst q.2∧q.2.length≤q.1∧∀y∈q.2,1≤y.len∧y.len≤128*(q.1:Int) } =>⟨[(0,true,.d (.sl 2 (l.map extD))),(3,true,.osl 0 2 q.1.2.length 0 q.1.2.length),(4,true,.d (.int .i64 q.1.1))],[(0,.arr 2 (q.1.2.map extD))],some []⟩) (fun q=>l.length - q.1.1) ⟨(0,[]),Nat.zero_le _,hZ,Nat.le_refl _,by simp⟩ le1 (fun q=>?_)
 obtain ⟨⟨i,o⟩,hi,hf,hol,ho⟩:=q
 simp only at hi hf hol ho ⊢
 rcases zD extD l i hi with ⟨x,hq,hlt,hcmp,hrow,hdr,htk⟩|⟨hend,hcmp⟩
 ·simp only [extD] at hrow
  have hwi:=zn (i:=i) (by omega)
  obtain ⟨hx0,hx1⟩:=h x (List.mem_of_getElem? hq)
  rw [hdr,List.foldl_cons] at hf
  have hjl:=(zs0 o x).1
  have hjr:=zwU ho hx0 hx1 (by omega)
  have hn1:decide (x.len<1)=false:=decide_eq_false (by omega)
  have hm1:imin x.len 1099511627776=x.len:=by unfold imin;split<;>omega
  have hst:∀o',o'=jst o x→(∃q': { q:Nat×List Ext // q.1≤l.length∧Z=(l.drop q.1).foldl jst q.2∧q.2.length≤q.1∧∀y∈q.2,1≤y.len∧y.len≤128*(q.1:Int) },q'.1=(i+1,o')):=by
   rintro o' rfl
   exact ⟨⟨(i+1,jst o x),by omega,hf,by simp only;omega,fun y hy=>by have:=hjr y hy;simp only;omega⟩,rfl⟩
  rcases List.eq_nil_or_concat o with rfl|⟨p,r,rfl⟩
  ·refine' zc (zS hcmp hrow hn1 hm1)
   obtain ⟨q',hq'⟩:=hst [x] rfl
   exact ⟨q',by rw [hq'];simp only [AS.le,leT,leH,zf,AsgK,AV.le,AV.leL,AObj.le,inH,idsT,idsH,AV.ids,AV.idsL,AV.idsR,AObj.ids,lk,hget,go_sem,aeq,aeq.aeqF,simprocAttr,hwi,extD]<;>and_intros<;>rfl,by rw [hq'];simp;omega⟩
  ·rw [List.concat_eq_append] at hf hol ho hjl hjr hst ⊢
   have hr:=ho r (by simp)
   have hln:(p++ [r]).length=p.length+1:=by simp
   have hgt:decide ((0:Int)<((p.length+1:Nat):Int))=true:=decide_eq_true (by omega)
   have hw:IntKind.i64.wrap (((p.length+1:Nat):Int) - 1)=(p.length:Int):=by rw [ze (by omega) (by omega)];omega
   have hrr:((p++ [r]).map extD).getD p.length []=extD r:=by simp [List.getD_eq_getElem?_getD]
   simp only [extD] at hrr
   rw [zpp] at hst
   cases he:(r.flags==x.flags) with
   |true=>
    rw [if_pos (by simpa using he)] at hst
    have hm2:imin r.len 1099511627776=r.len:=by unfold imin;split<;>omega
    have hm3:imin (r.len+x.len) 1099511627776=r.len+x.len:=by unfold imin;split<;>omega
    have hw3:IntKind.i64.wrap (r.len+x.len)=r.len+x.len:=ze (by omega) (by omega)
    obtain ⟨M,hM⟩:∃M:List (List D),M=(p++ [(⟨r.len+x.len,r.flags⟩:Ext)]).map extD:=⟨_,rfl⟩
    have hs1:((p++ [r]).map extD).set p.length [D.int .i64 (r.len+x.len),D.int .i64 r.flags]=M:=by rw [hM];simp [extD]
    have hs2:M.set p.length [D.int .i64 (r.len+x.len),D.int .i64 r.flags]=M:=by rw [hM];simp [extD]
    have hMl:M.length=p.length+1:=by rw [hM];simp
    have hMr:M.getD p.length []= [D.int .i64 (r.len+x.len),D.int .i64 r.flags]:=by rw [hM];simp [extD,List.getD_eq_getElem?_getD]
    refine' zc (zq hcmp hrow hn1 hm1 hln (zq hgt hw hrr he hm2 (zq hm3 hw3 hs1 hs2 hMl (zk hMr natC))))
    all_goals first|omega|skip
    obtain ⟨q',hq'⟩:=hst _ rfl
    have hfx:x.flags=r.flags:=(by simpa using he:r.flags=x.flags).symm
    exact ⟨q',by rw [hq',hfx,hM];simp only [List.length_append,List.length_singleton];simp only [AS.le,leT,leH,zf,AsgK,AV.le,AV.leL,AObj.le,inH,idsT,idsH,AV.ids,AV.idsL,AV.idsR,AObj.ids,lk,hget,go_sem,aeq,aeq.aeqF,simprocAttr,hwi]<;>and_intros<;>rfl,by rw [hq'];simp;omega⟩
   |false=>
    rw [if_neg (by simpa using he)] at hst
    refine' zc (zq hcmp hrow hn1 hm1 hln (zaH hgt hw hrr he natC))
    all_goals first|omega|skip
    obtain ⟨q',hq'⟩:=hst _ rfl
    exact ⟨q',by rw [hq'];simp only [List.length_append,List.length_singleton,List.map_append,List.map_cons,List.map_nil];simp only [AS.le,leT,leH,zf,AsgK,AV.le,AV.leL,AObj.le,inH,idsT,idsH,AV.ids,AV.idsL,AV.idsR,AObj.ids,lk,hget,go_sem,aeq,aeq.aeqF,simprocAttr,hwi,extD]<;>and_intros<;>rfl,by rw [hq'];simp;omega⟩
 ·refine' zc hcmp
  rw [hf,hend,List.drop_length]
  rfl
@[go_sem] noncomputable def zas:Ent Tryz.prog 133:= .m1 (slT 2 extD zb1) zqI
end Go.Aw
