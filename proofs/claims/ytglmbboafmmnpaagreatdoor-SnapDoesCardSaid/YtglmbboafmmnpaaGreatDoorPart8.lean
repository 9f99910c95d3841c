/-
  Parts of the proof: CowD, CowE, RefcC, CowF, CowG, CowH, CowL, CowM, CowQ, ViewA, ViewB, AuditA, SnapA, ShareA, SnapB, SnapC, SnapD, ReachA, ReachB, SnapE, SnapF, SnapG (short names; the readable texts lie in the repo, under wip).
-/
import Derived.Test.YtglmbboafmmnpaaGreatDoorPart7
import Derived.Test.YtglmbboafmmnpaaGreatDoorPart4
import Derived.Test.YtglmbboafmmnpaaGreatDoorPart6
import Derived.Test.YtglmbboafmmnpaaGreatDoorPart5
import Derived.Test.YtglmbboafmmnpaaGreatDoorPart2
set_option maxRecDepth 100000
set_option maxHeartbeats 2000000
set_option linter.unusedSimpArgs false
set_option linter.unusedVariables false
namespace Go.Aw
open Go Go.Proofs
def imgV (x:Img):List AV:= [.d (.str x.disk.data),.d (.sl 2 (x.disk.cache.map putD)),.d (.int .i64 x.disk.fuse),.d (.bool x.disk.off),.d (.sl 1 (x.disk.bad.map intD)),.d (.int .i64 x.geom.guest),.d (.int .i64 x.geom.host),.d (.int .u64 x.jour.seq),.d (.int .i64 x.jour.pos),.d (.sl 66 (x.maps.map dmapD)),.d (.bool x.broken)]
attribute [go_sem] imgV
def img0:List AV:= [.d (.str []),.nils 2,.d (.int .i64 0),.d (.bool false),.nils 1,.d (.int .i64 0),.d (.int .i64 0),.d (.int .u64 0),.d (.int .i64 0),.nils 66,.d (.bool false)]
attribute [go_sem] img0
def wdisk (x:Img) (d:Disk):Img:= { x with disk:=d }
def cputT (b:Txt) (off:Int) (s:Txt) (i:Int):Txt:=(overS b (max off (i*64) - i*64) ((s.take (min (off+s.length) ((i+1)*64) - off).toNat).drop (max off (i*64) - off).toNat)).1
def cput1 (d:Disk) (k off:Int) (s:Txt) (i:Int):Disk×Int:=
 if min (off+s.length) ((i+1)*64)≤max off (i*64) then (d,0)
 else if (dread d (96+2*k+i)).2≠0 then (d,(dread d (96+2*k+i)).2)
 else zZ d (96+2*k+i) (cputT (dread d (96+2*k+i)).1 off s i)
def zf4 (k off:Int) (s:Txt):Nat→Int→Disk→Disk×Int
 |0,_,d=>(d,0)
 |m+1,i,d=>if (cput1 d k off s i).2≠0 then cput1 d k off s i else zf4 k off s m (i+1) (cput1 d k off s i).1
def zgv (d:Disk) (k off:Int) (s:Txt):Disk×Int:=zf4 k off s 2 0 d
theorem DiskF.cput1 {d:Disk} (h:DiskF d) (k off:Int) (s:Txt) (i:Int):DiskF (cput1 d k off s i).1:=by
 unfold Aw.cput1
 split
 ·exact h
 split
 ·exact h
 ·exact h.write _ _
theorem zl8 (x:Img) (k off:Int) (s:Txt) (hp:ImgOk x∧DiskF x.disk∧zM k=true∧0≤off∧off+s.length≤128):AC 141 [imgA x,.d (.int .i64 k),.d (.int .i64 off),.d (.str s)] (.tup [imgA (wdisk x (zgv x.disk k off s).1),.d (.int .i64 (zgv x.disk k off s).2)]):=by
 obtain ⟨h,hd,hk,h0,h1⟩:=hp
 refine fbod Tryz.func141 Tryz.ntmps141 (fun base=>?_)
 have hk2:=hostOk_iff.1 hk
 (have tk:=za zQ <| za zbB <| za zC <| za zY <| zb Tryz.prog;repeat' (first|(refine hK _ ?_;clear hK K)|refine wa fun K hK=>?_|refine wb ?_|refine wc ?_ ?_|refine wl ?_|exact we|refine fun (hc:_=(_:Bool))=>?_|clear hK K))
 refine zo (fun q: { q:Nat×Disk // q.1≤2∧DiskF q.2∧zgv x.disk k off s=zf4 k off s (2 - q.1) q.1 q.2 } =>⟨[(1,true,.d (.int .i64 k)),(2,true,.d (.int .i64 off)),(3,true,.d (.str s)),(4,true,.vp 0 0),(8,true,.vp 1 0),(10,true,.d (.int .i64 q.1.1))],[(1,.var img0),(0,.var (imgV (wdisk x q.1.2)))],some []⟩) (fun q=>2 - q.1.1) ⟨(0,x.disk),by omega,hd,rfl⟩ (by simp only [AS.le,leT,leH,zc,AsgK,AV.le,AV.leL,AObj.le,inH,idsT,idsH,AV.ids,AV.idsL,AV.idsR,AObj.ids,lk,hget,go_sem,aeq,aeq.aeqF,simprocAttr,wdisk]<;>and_intros<;>rfl) (fun q=>?_)
 obtain ⟨⟨i,d⟩,hi,hF,hr⟩:=q
 simp only at hi hF hr ⊢
 have hd1:=hF.ok
 have hd2:=hF.puts
 rcases Nat.lt_or_ge i 2 with hlt|hge
 ·have hcmp:decide ((i:Int)<2)=true:=decide_eq_true (by omega)
  have hwi:=zp (i:=i) (by omega)
  have hw1:IntKind.i64.wrap ((i:Int)*64)=i*64:=zg (by omega) (by omega)
  have hw2:IntKind.i64.wrap (((i+1:Nat):Int)*64)=(i+1)*64:=zg (by omega) (by omega)
  have hw3:IntKind.i64.wrap (off+(s.length:Int))=off+s.length:=zg (by omega) (by omega)
  have hw4:IntKind.i64.wrap (96+2*k+(i:Int))=96+2*k+i:=zg (by omega) (by omega)
  rw [show 2 - i=(2 - (i+1))+1 by omega,zf4] at hr
  obtain ⟨A,hA⟩:∃A,A=max off ((i:Int)*64):=⟨_,rfl⟩
  obtain ⟨B,hB⟩:∃B,B=min (off+(s.length:Int)) (((i:Int)+1)*64):=⟨_,rfl⟩
  have hA1:imax off ((i:Int)*64)=A:=by rw [hA];unfold imax;split<;>omega
  have hB1:imin (off+(s.length:Int)) (((i:Int)+1)*64)=B:=by rw [hB];unfold imin;split<;>omega
  have hc1:cput1 d k off s i=if B≤A then (d,0) else if (dread d (96+2*k+i)).2≠0 then (d,(dread d (96+2*k+i)).2) else zZ d (96+2*k+i) (overS (dread d (96+2*k+i)).1 (A - i*64) ((s.take (B - off).toNat).drop (A - off).toNat)).1:=by rw [cput1,cputT,← hA,← hB]
  have hl:=zdv (at_:=96+2*k+i) hd2
  have hFn:=hF.cput1 k off s i
  by_cases hab:B≤A
  ·have hb:decide (B≤A)=true:=decide_eq_true hab
   rw [if_pos hab] at hc1
   (have tk:=za zQ <| za zbB <| za zC <| za zY <| zb Tryz.prog);repeat' (first|((first|(refine sa ?_;intro K hK)|refine sb ?_);simp only [go_sem,aeq,aeq.aeqF,simprocAttr,hcmp,hwi,hw1,hw2,hw3,hA1,hB1,hb,wdisk,Tryz.results141])|refine zj (fun K hK=>?_)|refine sc ?_|refine zi rfl (fun hc=>?_) (fun hc=>?_)|(refine hK _ ?_;clear hK K)|((first|refine (show AS.le _ _ from ?_)|refine (show leH _ _ from ?_)|refine (show inH _ _ from ?_));simp only [AS.le,leT,leH,zc,AsgK,AV.le,AV.leL,AObj.le,inH,idsT,idsH,AV.ids,AV.idsL,AV.idsR,AObj.ids,lk,hget,go_sem,aeq,aeq.aeqF,simprocAttr,hcmp,hwi,hw1,hw2,hw3,hA1,hB1,hb,wdisk])|with_reducible refine And.intro ?_ ?_|(refine (show zV _ _=true from ?_);kernel_rfl)|omega|assumption|clear hK K)
   rw [hc1] at hr
   exact ⟨⟨(i+1,d),by show i+1≤2;omega,hF,hr⟩,by simp only [AS.le,leT,leH,zc,AsgK,AV.le,AV.leL,AObj.le,inH,idsT,idsH,AV.ids,AV.idsL,AV.idsR,AObj.ids,lk,hget,go_sem,aeq,aeq.aeqF,simprocAttr,wdisk],by simp;omega⟩
  ·have hb:decide (B≤A)=false:=decide_eq_false hab
   rw [if_neg hab] at hc1
   have hw5:IntKind.i64.wrap (A - off)=A - off:=zg (by omega) (by omega)
   have hw6:IntKind.i64.wrap (B - off)=B - off:=zg (by omega) (by omega)
   have hw7:IntKind.i64.wrap (A - (i:Int)*64)=A - i*64:=zg (by omega) (by omega)
   have hsl:((s.take (B - off).toNat).drop (A - off).toNat).length≤9223372036854775807:=by simp;omega
   obtain ⟨b,hbb⟩:∃b,b=(overS (dread d (96+2*k+i)).1 (A - i*64) ((s.take (B - off).toNat).drop (A - off).toNat)).1:=⟨_,rfl⟩
   rw [← hbb] at hc1
   (have tk:=za zQ <| za zbB <| za zC <| za zY <| zb Tryz.prog);repeat' (first|((first|(refine sa ?_;intro K hK)|refine sb ?_);simp only [go_sem,aeq,aeq.aeqF,simprocAttr,hcmp,hwi,hw1,hw2,hw3,hw4,hw5,hw6,hw7,hA1,hB1,hb,← hbb,wdisk,Tryz.results141])|refine zj (fun K hK=>?_)|refine sc ?_|refine zi rfl (fun hc=>?_) (fun hc=>?_)|(refine hK _ ?_;clear hK K)|((first|refine (show AS.le _ _ from ?_)|refine (show leH _ _ from ?_)|refine (show inH _ _ from ?_));simp only [AS.le,leT,leH,zc,AsgK,AV.le,AV.leL,AObj.le,inH,idsT,idsH,AV.ids,AV.idsL,AV.idsR,AObj.ids,lk,hget,go_sem,aeq,aeq.aeqF,simprocAttr,hcmp,hwi,hw1,hw2,hw3,hw4,hw5,hw6,hw7,hA1,hB1,hb,← hbb,wdisk])|with_reducible refine And.intro ?_ ?_|(refine (show zV _ _=true from ?_);kernel_rfl)|omega|assumption|clear hK K)
   ·rw [if_pos (bneP hc)] at hc1
    rw [hr,hc1,if_pos (bneP hc)]
   ·rename_i hc0
    rw [if_neg (bneN hc0)] at hc1
    rw [hr,hc1,if_pos (bneP hc)]
   ·rename_i hc0
    rw [if_neg (bneN hc0)] at hc1
    rw [hc1,if_neg (bneN hc)] at hr
    rw [hc1] at hFn
    exact ⟨⟨(i+1,(zZ d (96+2*k+i) b).1),by show i+1≤2;omega,hFn,hr⟩,by simp only [AS.le,leT,leH,zc,AsgK,AV.le,AV.leL,AObj.le,inH,idsT,idsH,AV.ids,AV.idsL,AV.idsR,AObj.ids,lk,hget,go_sem,aeq,aeq.aeqF,simprocAttr,wdisk],by simp;omega⟩
 ·have hcmp:decide ((i:Int)<2)=false:=decide_eq_false (by omega)
  (have tk:=za zQ <| za zbB <| za zC <| za zY <| zb Tryz.prog);repeat' (first|((first|(refine sa ?_;intro K hK)|refine sb ?_);simp only [go_sem,aeq,aeq.aeqF,simprocAttr,hcmp,wdisk,Tryz.results141])|refine zj (fun K hK=>?_)|refine sc ?_|refine zi rfl (fun hc=>?_) (fun hc=>?_)|(refine hK _ ?_;clear hK K)|((first|refine (show AS.le _ _ from ?_)|refine (show leH _ _ from ?_)|refine (show inH _ _ from ?_));simp only [AS.le,leT,leH,zc,AsgK,AV.le,AV.leL,AObj.le,inH,idsT,idsH,AV.ids,AV.idsL,AV.idsR,AObj.ids,lk,hget,go_sem,aeq,aeq.aeqF,simprocAttr,hcmp,wdisk])|with_reducible refine And.intro ?_ ?_|(refine (show zV _ _=true from ?_);kernel_rfl)|omega|assumption|clear hK K)
  rw [hr,show 2 - i=0 by omega]
  rfl
@[go_sem] noncomputable def zaf:Ent Tryz.prog 141:= .m4 zbp (intT .i64) (intT .i64) strT zl8
structure ImgF (x:Img):Prop where
 ok:ImgOk x
 disk:DiskF x.disk
 guest:x.geom.guest≤64
 host:x.geom.host≤256
 seq0:0≤x.jour.seq
 seq1:x.jour.seq≤4611686018427387904
 maps:x.maps.length≤1000000
theorem ImgF.wd {x:Img} (h:ImgF x) {d:Disk} (hd:DiskF d):ImgF (wdisk x d):=⟨⟨hd.ok,h.ok.maps,h.ok.names,h.ok.bits⟩,hd,h.guest,h.host,h.seq0,h.seq1,h.maps⟩
theorem ImgF.mark {x:Img} (h:ImgF x) (g:Int):ImgF (cmark x g):=by
 refine ⟨zsl h.ok g,?_,?_,?_,?_,?_,?_⟩
 all_goals unfold cmark
 all_goals split
 all_goals first|exact h.disk|exact h.guest|exact h.host|exact h.seq0|exact h.seq1|exact h.maps|skip
 simp only [List.length_map]
 exact h.maps
theorem zkG {d:Disk} {k:Int} (h:d.cache.all (putOk d)=true) (he:(zbx d k).2=0):(zbx d k).1.length=128:=by
 unfold zbx at he ⊢
 split at he
 ·exact absurd he (by assumption)
 split at he
 ·exact absurd he (by assumption)
 rename_i h1 h2
 rw [if_neg h1,if_neg h2]
 rw [List.length_append,zjn h (by omega),zjn h (by omega)]
theorem zkH {d:Disk} {l1 g:Int} (h:d.cache.all (putOk d)=true) (he:(cread d l1 g).2=0):(cread d l1 g).1.length=128:=by
 unfold cread at he ⊢
 split at he
 ·exact absurd he (by assumption)
 split at he
 ·rename_i h1 h2
  rw [if_neg h1,if_pos h2]
  exact zkG h he
 ·rename_i h1 h2
  rw [if_neg h1,if_neg h2]
  simp
theorem zsm {d:Disk} {l1 g:Int} (h:d.cache.all (putOk d)=true):(cread d l1 g).1.length≤128:=by
 by_cases he:(cread d l1 g).2=0
 ·rw [zkH h he];exact Nat.le_refl _
 ·unfold cread at he ⊢
  split
  ·simp
  rename_i h1
  rw [if_neg h1] at he
  split
  ·rename_i h2
   rw [if_pos h2] at he
   unfold zbx at he ⊢
   split
   ·simp
   rename_i h3
   rw [if_neg h3] at he
   split
   ·simp
   rename_i h4
   rw [if_neg h4] at he
   exact absurd rfl he
  ·simp
theorem zou {d:Disk} {p:Plan} {g:Geom} (h:(rtake d p g).2.2=0):zM (rtake d p g).2.1=true:=by
 unfold rtake at h ⊢
 split at h
 ·rename_i h1;exact absurd h h1
 split at h
 ·rename_i h1;exact absurd h h1
 rename_i h1 h2
 rw [if_neg h1,if_neg h2]
 exact hostOk_iff.2 (ziB d p _ _ (by unfold rfind at h1;omega))
theorem zsn {s t:Txt} {a:Int} (h0:0≤a) (h:a+t.length≤s.length):overS s a t=(s.take a.toNat++t++s.drop (a+t.length).toNat,0):=by
 rw [overS,if_neg (by omega)]
theorem zqs {s t:Txt} {a:Int} (h0:0≤a) (h:a+t.length≤s.length):(overS s a t).1.length=s.length:=by
 rw [zsn h0 h]
 simp
 omega
def zbU (k:Int) (b:Txt):List (Int×Txt):= [(96+2*k,b.take 64),(96+2*k+1,(b.take 128).drop 64)]
def zdW (x:Img) (l1 guest off:Int) (s:Txt):Img×Int:=
 if (rtake x.disk p0 x.geom).2.2≠0 then (x,(rtake x.disk p0 x.geom).2.2)
 else if (cread x.disk l1 guest).2≠0 then (x,(cread x.disk l1 guest).2)
 else if (layL x.disk (zbU (rtake x.disk p0 x.geom).2.1 (overS (cread x.disk l1 guest).1 off s).1)).2≠0 then
  (wdisk x (layL x.disk (zbU (rtake x.disk p0 x.geom).2.1 (overS (cread x.disk l1 guest).1 off s).1)).1,(layL x.disk (zbU (rtake x.disk p0 x.geom).2.1 (overS (cread x.disk l1 guest).1 off s).1)).2)
 else if (ppoint (layL x.disk (zbU (rtake x.disk p0 x.geom).2.1 (overS (cread x.disk l1 guest).1 off s).1)).1 (rtake x.disk p0 x.geom).1 x.geom guest ⟨1,(rtake x.disk p0 x.geom).2.1⟩).2≠0 then
  (wdisk x (layL x.disk (zbU (rtake x.disk p0 x.geom).2.1 (overS (cread x.disk l1 guest).1 off s).1)).1,(ppoint (layL x.disk (zbU (rtake x.disk p0 x.geom).2.1 (overS (cread x.disk l1 guest).1 off s).1)).1 (rtake x.disk p0 x.geom).1 x.geom guest ⟨1,(rtake x.disk p0 x.geom).2.1⟩).2)
 else cdone (wdisk x (layL x.disk (zbU (rtake x.disk p0 x.geom).2.1 (overS (cread x.disk l1 guest).1 off s).1)).1) (ppoint (layL x.disk (zbU (rtake x.disk p0 x.geom).2.1 (overS (cread x.disk l1 guest).1 off s).1)).1 (rtake x.disk p0 x.geom).1 x.geom guest ⟨1,(rtake x.disk p0 x.geom).2.1⟩).1
def zhC (x:Img) (l1:Int) (y:Ent2) (guest off:Int) (s:Txt):Img×Int:=
  if y.kind=1 then
    (if (rget x.disk p0 y.loc).2≠0 then (x,(rget x.disk p0 y.loc).2)
     else if (rget x.disk p0 y.loc).1≤1 then (wdisk x (zgv x.disk y.loc off s).1,(zgv x.disk y.loc off s).2)
     else zdW x l1 guest off s)
  else zdW x l1 guest off s
def zf5 (x:Img) (guest off:Int) (s:Txt):Img×Int:=
 if (zA x.disk p0).2≠0 then (x,(zA x.disk p0).2)
 else if (elook x.disk p0 (zA x.disk p0).1.l1 guest).2≠0 then (x,(elook x.disk p0 (zA x.disk p0).1.l1 guest).2)
 else zhC x (zA x.disk p0).1.l1 (elook x.disk p0 (zA x.disk p0).1.l1 guest).1 guest off s
def zdA (x:Img) (guest off:Int) (s:Txt):Img×Int:=
 if x.broken then (x,24) else if guest<0∨x.geom.guest≤guest∨off<0∨128 - (s.length:Int)<off then (x,10)
 else if s= [] then (x,0) else zf5 (cmark x guest) guest off s
set_option maxHeartbeats 1600000 in
theorem zl9 (x:Img) (guest off:Int) (s:Txt) (hp:ImgF x∧s.length≤9223372036854775807):AC 67 [imgA x,.d (.int .i64 guest),.d (.int .i64 off),.d (.str s)] (.tup [imgA (zdA x guest off s).1,.d (.int .i64 (zdA x guest off s).2)]):=by
 obtain ⟨h,hs⟩:=hp
 refine fbod Tryz.func67 Tryz.ntmps67 (fun base=>?_)
 have hi:=h.ok
 have hm:=h.maps
 (have tk:=za zu <| za zag <| za zah <| za zX <| za zaf <| za zO <| za zr <| za zY <| za zQ <| za zC <| za zae <| za zn <| zb Tryz.prog;repeat' ((fail_if_success refine hds 3 (by rfl) ?_);first|(refine hK _ ?_;clear hK K)|refine wa fun K hK=>?_|refine wb ?_|refine wc ?_ ?_|refine wl ?_|exact we|refine fun (hc:_=(_:Bool))=>?_|clear hK K))
 ·rw [zdA,if_pos hc]
 have hbr2:=hc
 have hbr:¬x.broken=true:=by rw [hbr2];exact fun h=>by cases h
 by_cases hrg:guest<0∨x.geom.guest≤guest∨off<0∨128 - (s.length:Int)<off
 ·have hw0:IntKind.i64.wrap (128 - (s.length:Int))=128 - s.length:=zg (by omega) (by omega)
  have hdec:(decide (guest<0)||decide (x.geom.guest≤guest)||decide (off<0)||decide (128<(s.length:Int))||decide (128 - (s.length:Int)<off))=true:=by
   simp only [Bool.or_eq_true,decide_eq_true_eq];omega
  (have tk:=za zu <| za zag <| za zah <| za zX <| za zaf <| za zO <| za zr <| za zY <| za zQ <| za zC <| za zae <| za zn <| zb Tryz.prog;have fx:=(⟨hw0,hdec⟩:_∧_);repeat' (first|(refine hK _ ?_;clear hK K)|refine wa fun K hK=>?_|refine wb ?_|refine wc ?_ ?_|refine wl ?_|exact we|refine fun (hc:_=(_:Bool))=>?_|clear hK K))
  rw [zdA,if_neg hbr,if_pos hrg]
 have hw0:IntKind.i64.wrap (128 - (s.length:Int))=128 - s.length:=zg (by omega) (by omega)
 have hdec:(decide (guest<0)||decide (x.geom.guest≤guest)||decide (off<0)||decide (128<(s.length:Int))||decide (128 - (s.length:Int)<off))=false:=by
  simp only [Bool.or_eq_false_iff,decide_eq_false_iff_not];omega
 by_cases hs0:s= []
 ·have hse:(s== [])=true:=by rw [hs0];rfl
  (have tk:=za zu <| za zag <| za zah <| za zX <| za zaf <| za zO <| za zr <| za zY <| za zQ <| za zC <| za zae <| za zn <| zb Tryz.prog;have fx:=(⟨hw0,hdec,hse⟩:_∧_∧_);repeat' (first|(refine hK _ ?_;clear hK K)|refine wa fun K hK=>?_|refine wb ?_|refine wc ?_ ?_|refine wl ?_|exact we|refine fun (hc:_=(_:Bool))=>?_|clear hK K))
  rw [zdA,if_neg hbr,if_neg hrg,if_pos hs0]
 have hse:(s== [])=false:=by simpa using hs0
 have heq:zdA x guest off s=zf5 (cmark x guest) guest off s:=by rw [zdA,if_neg hbr,if_neg hrg,if_neg hs0]
 (have tk:=za zu <| za zag <| za zah <| za zX <| za zaf <| za zO <| za zr <| za zY <| za zQ <| za zC <| za zae <| za zn <| zb Tryz.prog;have fx:=(⟨hw0,hdec,hse⟩:_∧_∧_);repeat' ((fail_if_success refine hds 8 (by rfl) ?_);first|(refine hK _ ?_;clear hK K)|refine wa fun K hK=>?_|refine wb ?_|refine wc ?_ ?_|refine wl ?_|exact we|refine fun (hc:_=(_:Bool))=>?_|clear hK K))
 rw [heq]
 have hX:=h.mark guest
 revert hX
 generalize cmark x guest=X
 intro hX
 have hXd:=hX.disk
 have hXo:=hX.ok
 have hXg:=hX.guest
 have hXh:=hX.host
 have hX0:=hX.seq0
 have hX1:=hX.seq1
 have hdp:DP X.disk p0:=⟨hXd,zdc⟩
 refine aw_le ⟨[(1,true,.d (.int .i64 guest)),(2,true,.d (.int .i64 off)),(3,true,.d (.str s)),(4,true,.vp 0 0),(8,true,.vp 1 0)],[(1,.var img0),(0,.var (imgV X))],some []⟩ le0 ?_
 have hk1:(elook X.disk p0 (zA X.disk p0).1.l1 guest).1.kind=1→zM (elook X.disk p0 (zA X.disk p0).1.l1 guest).1.loc=true:=zf3
 obtain ⟨r,hr⟩:∃r,r=zA X.disk p0:=⟨_,rfl⟩
 rw [← hr] at hk1
 obtain ⟨y,hy⟩:∃y,y=elook X.disk p0 r.1.l1 guest:=⟨_,rfl⟩
 rw [← hy] at hk1
 obtain ⟨n,hn⟩:∃n,n=rget X.disk p0 y.1.loc:=⟨_,rfl⟩
 have hc2:zf5 X guest off s=if r.2≠0 then (X,r.2) else if y.2≠0 then (X,y.2) else zhC X r.1.l1 y.1 guest off s:=by rw [zf5,← hr,← hy]
 have hc3:zhC X r.1.l1 y.1 guest off s=if y.1.kind=1 then (if n.2≠0 then (X,n.2) else if n.1≤1 then (wdisk X (zgv X.disk y.1.loc off s).1,(zgv X.disk y.1.loc off s).2) else zdW X r.1.l1 guest off s) else zdW X r.1.l1 guest off s:=by rw [zhC,← hn]
 rw [hc3] at hc2
 by_cases hin:y.1.kind=1∧(n.2≠0∨n.1≤1)
 ·rw [hc2]
  have hkb:(y.1.kind==1)=true:=beq_iff_eq.2 hin.1
  have hho:=hk1 hin.1
  (have tk:=za zu <| za zag <| za zah <| za zX <| za zaf <| za zO <| za zr <| za zY <| za zQ <| za zC <| za zae <| za zn <| zb Tryz.prog;have fx:=(⟨hr.symm,hy.symm,hn.symm,hkb⟩:_∧_∧_∧_);repeat' ((fail_if_success refine hds 20 (by rfl) ?_);first|(refine hK _ ?_;clear hK K)|refine wa fun K hK=>?_|refine wb ?_|refine wc ?_ ?_|refine wl ?_|exact we|refine fun (hc:_=(_:Bool))=>?_|clear hK K))
  all_goals try ((refine (show (_:AV)=_ from ?_));(repeat (first|(rewrite [if_pos];rotate_left;(first|exact bneP (by assumption)|exact beqP (by assumption)|exact of_decide_eq_true (by assumption)|assumption))|(rewrite [if_neg];rotate_left;(first|exact bneN (by assumption)|exact beqN (by assumption)|exact of_decide_eq_false (by assumption)|assumption))));done)
  all_goals try (rw [if_pos hin.1];(refine (show (_:AV)=_ from ?_));(repeat (first|(rewrite [if_pos];rotate_left;(first|exact bneP (by assumption)|exact beqP (by assumption)|exact of_decide_eq_true (by assumption)|assumption))|(rewrite [if_neg];rotate_left;(first|exact bneN (by assumption)|exact beqN (by assumption)|exact of_decide_eq_false (by assumption)|assumption))));rfl)
  rename_i h1
  exact absurd hin.2 (by rintro (h|h);exact bneN h1 h;exact of_decide_eq_false hc h)
 ·have hc4:zf5 X guest off s=if r.2≠0 then (X,r.2) else if y.2≠0 then (X,y.2) else zdW X r.1.l1 guest off s:=by
   rw [hc2]
   by_cases hk:y.1.kind=1
   ·rw [if_pos hk,if_neg (fun h=>hin ⟨hk,.inl h⟩),if_neg (fun h=>hin ⟨hk,.inr h⟩)]
   ·rw [if_neg hk]
  rw [hc4]
  clear hc2 hc3 hc4
  (have tk:=za zu <| za zag <| za zah <| za zX <| za zaf <| za zO <| za zr <| za zY <| za zQ <| za zC <| za zae <| za zn <| zb Tryz.prog;have fx:=(⟨hr.symm,hy.symm⟩:_∧_);repeat' ((fail_if_success refine hds 14 (by rfl) ?_);first|(refine hK _ ?_;clear hK K)|refine wa fun K hK=>?_|refine wb ?_|refine wc ?_ ?_|refine wl ?_|exact we|refine fun (hc:_=(_:Bool))=>?_|clear hK K))
  all_goals try ((refine (show (_:AV)=_ from ?_));(repeat (first|(rewrite [if_pos];rotate_left;(first|exact bneP (by assumption)|exact beqP (by assumption)|exact of_decide_eq_true (by assumption)|assumption))|(rewrite [if_neg];rotate_left;(first|exact bneN (by assumption)|exact beqN (by assumption)|exact of_decide_eq_false (by assumption)|assumption))));done)
  all_goals try ((refine (show (_:AV)=_ from ?_));(repeat (first|(rewrite [if_pos];rotate_left;(first|exact bneP (by assumption)|exact beqP (by assumption)|exact of_decide_eq_true (by assumption)|assumption))|(rewrite [if_neg];rotate_left;(first|exact bneN (by assumption)|exact beqN (by assumption)|exact of_decide_eq_false (by assumption)|assumption))));rfl)
  have e1:=bneN hc
  rename_i hc0
  have e0:=bneN hc0
  rw [if_neg e0,if_neg e1]
  clear hc hc0
  refine zly ⟨[(1,true,.d (.int .i64 guest)),(2,true,.d (.int .i64 off)),(3,true,.d (.str s)),(4,true,.vp 0 0),(8,true,.vp 1 0),(10,true,.vp 2 0)],[(2,.var [.d (.int .i64 r.1.l1),.d (.int .u32 r.1.next)]),(1,.var img0),(0,.var (imgV X))],some []⟩ ?_ ?_
  ·(have tk:=za zu <| za zag <| za zah <| za zX <| za zaf <| za zO <| za zr <| za zY <| za zQ <| za zC <| za zae <| za zn <| zb Tryz.prog;have fx:=(⟨hr.symm,hy.symm,hn.symm⟩:_∧_∧_);repeat' (first|(refine hK _ ?_;clear hK K)|refine wa fun K hK=>?_|refine wb ?_|refine wc ?_ ?_|refine wl ?_|exact we|refine fun (hc:_=(_:Bool))=>?_|clear hK K))
   all_goals try exact hk1 (beqP (by assumption))
   ·rename_i hk
    exact absurd ⟨beqP hk,.inl (bneP hc)⟩ hin
   ·rename_i hk _
    exact absurd ⟨beqP hk,.inr (of_decide_eq_true hc)⟩ hin
  ·obtain ⟨t,ht⟩:∃t,t=rtake X.disk p0 X.geom:=⟨_,rfl⟩
   obtain ⟨c,hcc⟩:∃c,c=cread X.disk r.1.l1 guest:=⟨_,rfl⟩
   obtain ⟨b,hb⟩:∃b,b=(overS c.1 off s).1:=⟨_,rfl⟩
   have hth:t.2.2=0→zM t.2.1=true:=by rw [ht];exact zou
   have hbl:c.2=0→b.length=128:=fun h=>by
    have:=zkH (l1:=r.1.l1) (g:=guest) hXd.puts (by rw [← hcc];exact h)
    rw [← hcc] at this
    rw [hb,zqs (by omega) (by omega),this]
   have hcl:c.1.length≤128:=by rw [hcc];exact zsm hXd.puts
   have hpt:DP X.disk t.1:=by rw [ht];exact hdp.rtake _
   have hpt2:pfit t.1=true:=hpt.p
   have hw4:zdW X r.1.l1 guest off s=if t.2.2≠0 then (X,t.2.2) else if c.2≠0 then (X,c.2) else if (layL X.disk (zbU t.2.1 b)).2≠0 then (wdisk X (layL X.disk (zbU t.2.1 b)).1,(layL X.disk (zbU t.2.1 b)).2)
     else if (ppoint (layL X.disk (zbU t.2.1 b)).1 t.1 X.geom guest ⟨1,t.2.1⟩).2≠0 then (wdisk X (layL X.disk (zbU t.2.1 b)).1,(ppoint (layL X.disk (zbU t.2.1 b)).1 t.1 X.geom guest ⟨1,t.2.1⟩).2)
     else cdone (wdisk X (layL X.disk (zbU t.2.1 b)).1) (ppoint (layL X.disk (zbU t.2.1 b)).1 t.1 X.geom guest ⟨1,t.2.1⟩).1:=by rw [zdW,← ht,← hcc,← hb]
   rw [hw4]
   clear hw4
   (have tk:=za zu <| za zag <| za zah <| za zX <| za zaf <| za zO <| za zr <| za zY <| za zQ <| za zC <| za zae <| za zn <| zb Tryz.prog;have fx:=(⟨ht.symm,hcc.symm,hb.symm⟩:_∧_∧_);repeat' ((fail_if_success refine hds 27 (by rfl) ?_);first|(refine hK _ ?_;clear hK K)|refine wa fun K hK=>?_|refine wb ?_|refine wc ?_ ?_|refine wl ?_|exact we|refine fun (hc:_=(_:Bool))=>?_|clear hK K))
   all_goals try ((refine (show (_:AV)=_ from ?_));(repeat (first|(rewrite [if_pos];rotate_left;(first|exact bneP (by assumption)|exact beqP (by assumption)|exact of_decide_eq_true (by assumption)|assumption))|(rewrite [if_neg];rotate_left;(first|exact bneN (by assumption)|exact beqN (by assumption)|exact of_decide_eq_false (by assumption)|assumption))));rfl)
   rename_i h0
   have e2:=bneN h0
   have e3:=bneN hc
   have hb128:=hbl (by omega)
   have hth2:=hostOk_iff.1 (hth (by omega))
   obtain ⟨L,hL⟩:∃L,L=layL X.disk (zbU t.2.1 b):=⟨_,rfl⟩
   have hLF:DiskF L.1:=by rw [hL];exact DiskF.layL _ hXd
   rw [if_neg e2,if_neg e3,← hL]
   clear h0 hc
   generalize hZ:(if L.2≠0 then (wdisk X L.1,L.2) else if (ppoint L.1 t.1 X.geom guest ⟨1,t.2.1⟩).2≠0 then (wdisk X L.1,(ppoint L.1 t.1 X.geom guest ⟨1,t.2.1⟩).2) else cdone (wdisk X L.1) (ppoint L.1 t.1 X.geom guest ⟨1,t.2.1⟩).1:Img×Int)=Z
   refine aw_le ⟨[(1,true,.d (.int .i64 guest)),(2,true,.d (.int .i64 off)),(3,true,.d (.str s)),(4,true,.vp 0 0),(8,true,.vp 1 0),(15,true,.vp 3 0),(16,true,.d (.int .i64 t.2.1)),(17,true,.d (.str b))],[(3,.var (planC t.1)),(1,.var img0),(0,.var (imgV X))],some []⟩ (by simp only [AS.le,leT,leH,zc,AsgK,AV.le,AV.leL,AObj.le,inH,idsT,idsH,AV.ids,AV.idsL,AV.idsR,AObj.ids,lk,hget,go_sem,aeq,aeq.aeqF,simprocAttr,planC]) ?_
   (have tk:=za zu <| za zag <| za zah <| za zX <| za zaf <| za zO <| za zr <| za zY <| za zQ <| za zC <| za zae <| za zn <| zb Tryz.prog;have fx:=Go.Aw.fx;repeat' (first|(refine hK _ ?_;clear hK K)|refine wa fun K hK=>?_|refine wb ?_|refine wc ?_ ?_|refine wl ?_|exact we|refine fun (hc:_=(_:Bool))=>?_|clear hK K))
   refine zo (fun q: { q:Nat×Disk // q.1≤2∧DiskF q.2∧L=layL q.2 ((zbU t.2.1 b).drop q.1) } =>⟨[(1,true,.d (.int .i64 guest)),(2,true,.d (.int .i64 off)),(3,true,.d (.str s)),(4,true,.vp 0 0),(8,true,.vp 1 0),(15,true,.vp 3 0),(16,true,.d (.int .i64 t.2.1)),(17,true,.d (.str b)),(18,true,.d (.int .i64 q.1.1))],[(3,.var (planC t.1)),(1,.var img0),(0,.var (imgV (wdisk X q.1.2)))],some []⟩) (fun q=>2 - q.1.1) ⟨(0,X.disk),Nat.zero_le _,hXd,hL⟩ (by simp only [AS.le,leT,leH,zc,AsgK,AV.le,AV.leL,AObj.le,inH,idsT,idsH,AV.ids,AV.idsL,AV.idsR,AObj.ids,lk,hget,go_sem,aeq,aeq.aeqF,simprocAttr,wdisk]<;>and_intros<;>rfl) (fun q=>?_)
   obtain ⟨⟨i,d⟩,hi2,hF,hf⟩:=q
   simp only at hi2 hF hf ⊢
   have hF1:=hF.ok
   have hc0:((0:Nat):Int)=0:=rfl
   have hc1:((1:Nat):Int)=1:=rfl
   have hc2:((2:Nat):Int)=2:=rfl
   have h64:Int.toNat 64=64:=rfl
   have h128:Int.toNat 128=128:=rfl
   have hz0:Int.toNat 0=0:=rfl
   have hw1:IntKind.i64.wrap 1=1:=by decide
   have hw2:IntKind.i64.wrap 2=2:=by decide
   have hw64:IntKind.i64.wrap 64=64:=by decide
   have hw128:IntKind.i64.wrap 128=128:=by decide
   have hwz:IntKind.i64.wrap 0=0:=by decide
   have hwk:IntKind.i64.wrap (96+2*t.2.1+0)=96+2*t.2.1:=by rw [Int.add_zero];exact zg (by omega) (by omega)
   have hwk1:IntKind.i64.wrap (96+2*t.2.1+1)=96+2*t.2.1+1:=zg (by omega) (by omega)
   have h3:i=0∨i=1∨i=2:=by omega
   rcases h3 with rfl|rfl|rfl
   ·have hf':L=if (zZ d (96+2*t.2.1) (b.take 64)).2≠0 then zZ d (96+2*t.2.1) (b.take 64) else layL (zZ d (96+2*t.2.1) (b.take 64)).1 ((zbU t.2.1 b).drop 1):=hf
    have hFn:=hF.write (96+2*t.2.1) (b.take 64)
    (have tk:=za zu <| za zag <| za zah <| za zX <| za zaf <| za zO <| za zr <| za zY <| za zQ <| za zC <| za zae <| za zn <| zb Tryz.prog);repeat' (first|((first|(refine ga ?_;intro K hK)|refine gb ?_);simp only [go_sem,aeq,aeq.aeqF,simprocAttr,hc0,hw1,hw64,hwz,hz0,h64,hwk,hb128,wdisk,Tryz.results67])|refine zj (fun K hK=>?_)|refine sc ?_|refine zi rfl (fun hc=>?_) (fun hc=>?_)|(refine hK _ ?_;clear hK K)|((first|refine (show AS.le _ _ from ?_)|refine (show leH _ _ from ?_)|refine (show inH _ _ from ?_));simp only [AS.le,leT,leH,zc,AsgK,AV.le,AV.leL,AObj.le,inH,idsT,idsH,AV.ids,AV.idsL,AV.idsR,AObj.ids,lk,hget,go_sem,aeq,aeq.aeqF,simprocAttr,hc0,hw1,hw64,hwz,hz0,h64,hwk,hb128,wdisk])|with_reducible refine And.intro ?_ ?_|(refine (show zaq _ _=true from ?_);kernel_rfl)|omega|assumption|refine fun (hg:(_:Bool)=(_:Bool))=>?_|clear hK K)
    ·rw [if_pos (bneP hc)] at hf'
     rw [← hZ,hf',if_pos (bneP hc)]
     rfl
    ·rw [if_neg (bneN hc)] at hf'
     exact ⟨⟨(1,_),by show (1:Nat)≤2;omega,hFn,hf'⟩,by simp only [AS.le,leT,leH,zc,AsgK,AV.le,AV.leL,AObj.le,inH,idsT,idsH,AV.ids,AV.idsL,AV.idsR,AObj.ids,lk,hget,go_sem,aeq,aeq.aeqF,simprocAttr,wdisk]<;>and_intros<;>rfl,by simp⟩
   ·have hf':L=if (zZ d (96+2*t.2.1+1) ((b.take 128).drop 64)).2≠0 then zZ d (96+2*t.2.1+1) ((b.take 128).drop 64) else ((zZ d (96+2*t.2.1+1) ((b.take 128).drop 64)).1,0):=hf
    have hFn:=hF.write (96+2*t.2.1+1) ((b.take 128).drop 64)
    (have tk:=za zu <| za zag <| za zah <| za zX <| za zaf <| za zO <| za zr <| za zY <| za zQ <| za zC <| za zae <| za zn <| zb Tryz.prog);repeat' (first|((first|(refine ga ?_;intro K hK)|refine gb ?_);simp only [go_sem,aeq,aeq.aeqF,simprocAttr,hc1,hw2,hw64,hw128,h128,h64,hwk1,hb128,wdisk,Tryz.results67])|refine zj (fun K hK=>?_)|refine sc ?_|refine zi rfl (fun hc=>?_) (fun hc=>?_)|(refine hK _ ?_;clear hK K)|((first|refine (show AS.le _ _ from ?_)|refine (show leH _ _ from ?_)|refine (show inH _ _ from ?_));simp only [AS.le,leT,leH,zc,AsgK,AV.le,AV.leL,AObj.le,inH,idsT,idsH,AV.ids,AV.idsL,AV.idsR,AObj.ids,lk,hget,go_sem,aeq,aeq.aeqF,simprocAttr,hc1,hw2,hw64,hw128,h128,h64,hwk1,hb128,wdisk])|with_reducible refine And.intro ?_ ?_|(refine (show zaq _ _=true from ?_);kernel_rfl)|omega|assumption|refine fun (hg:(_:Bool)=(_:Bool))=>?_|clear hK K)
    ·rw [if_pos (bneP hc)] at hf'
     rw [← hZ,hf',if_pos (bneP hc)]
     rfl
    ·rw [if_neg (bneN hc)] at hf'
     exact ⟨⟨(2,_),by show (2:Nat)≤2;omega,hFn,hf'⟩,by simp only [AS.le,leT,leH,zc,AsgK,AV.le,AV.leL,AObj.le,inH,idsT,idsH,AV.ids,AV.idsL,AV.idsR,AObj.ids,lk,hget,go_sem,aeq,aeq.aeqF,simprocAttr,wdisk]<;>and_intros<;>rfl,by simp⟩
   ·have hLd:L=(d,0):=hf
    have hdq:DP d t.1:=⟨hF,hpt2⟩
    have hQp:pfit (ppoint d t.1 X.geom guest ⟨1,t.2.1⟩).1=true:=(hdq.ppoint _ _ _).p
    have hXw:ImgOk ⟨d,X.geom,X.jour,X.maps,X.broken⟩:=(hX.wd hF).ok
    rw [hLd] at hZ
    (have tk:=za zu <| za zag <| za zah <| za zX <| za zaf <| za zO <| za zr <| za zY <| za zQ <| za zC <| za zae <| za zn <| zb Tryz.prog);repeat' (first|((first|(refine sa ?_;intro K hK)|refine sb ?_);simp only [go_sem,aeq,aeq.aeqF,simprocAttr,hc2,wdisk,Tryz.results67])|refine zj (fun K hK=>?_)|refine sc ?_|refine zi rfl (fun hc=>?_) (fun hc=>?_)|(refine hK _ ?_;clear hK K)|((first|refine (show AS.le _ _ from ?_)|refine (show leH _ _ from ?_)|refine (show inH _ _ from ?_));simp only [AS.le,leT,leH,zc,AsgK,AV.le,AV.leL,AObj.le,inH,idsT,idsH,AV.ids,AV.idsL,AV.idsR,AObj.ids,lk,hget,go_sem,aeq,aeq.aeqF,simprocAttr,hc2,wdisk])|with_reducible refine And.intro ?_ ?_|(refine (show zV _ _=true from ?_);kernel_rfl)|omega|assumption|refine fun (hg:(_:Bool)=(_:Bool))=>?_|clear hK K)
    ·rw [← hZ,if_neg (by simp),if_pos (bneP hc)]
     rfl
    ·rw [← hZ,if_neg (by simp),if_neg (bneN hc)]
     rfl
@[go_sem] noncomputable def zju:Ent Tryz.prog 67:= .m4 zbp (intT .i64) (intT .i64) strT zl9
open Go Go.Proofs
theorem zmm {d:Disk} {j:Jour} {p:Plan} (h:(jcommit d j p).2.2≠0):(jcommit d j p).2.1=j:=by
 unfold jcommit jtail at h ⊢
 repeat' split at h
 all_goals simp_all
 all_goals rw [if_neg (by omega)]
theorem zoD (x:Img) (p:Plan) (hp:ImgOk x∧DiskF x.disk∧pfit p=true∧0≤x.jour.seq∧x.jour.seq<18446744073709551616):AC 54 [imgA x,planA p] (.tup [imgA (cdone x p).1,.d (.int .i64 (cdone x p).2)]):=by
 obtain ⟨h,hd,hf,h0,h1⟩:=hp
 refine fbod Tryz.func54 Tryz.ntmps54 (fun base=>?_)
 (have tk:=za zjx <| zb Tryz.prog;repeat' (first|(refine hK _ ?_;clear hK K)|refine wa fun K hK=>?_|refine wb ?_|refine wc ?_ ?_|exact we|refine fun (hc:_=(_:Bool))=>?_|clear hK K))
 by_cases he:(jcommit x.disk x.jour p).2.2=0
 ·have hb:((jcommit x.disk x.jour p).2.2 !=0)=false:=by rw [he];rfl
  rw [cdone,if_neg (by omega),hb,he,Bool.or_false]
 ·have hb:((jcommit x.disk x.jour p).2.2 !=0)=true:=by simpa using he
  rw [cdone,if_pos he,hb,Bool.or_true,zmm he]
@[go_sem] noncomputable def zcm:Ent Tryz.prog 54:= .m2 zbp zw zoD
theorem zhI (l:List Dmap) (fl:Nat) (hl:l.length≤5000):ACall Tryz.prog 166 fl [.d (.sl 66 (l.map dmapD))] [] (fun r h'=>r= .osl fl 66 l.length 0 l.length∧h'= [(fl,.arr 66 (l.map dmapD))]):=by
 refine bod Tryz.func166 Tryz.ntmps166 (fun base=>?_)
 (repeat' ((fail_if_success refine hds 2 (by rfl) ?_);first|(refine hK _ ?_;clear hK K)|refine wa fun K hK=>?_|refine wb ?_|refine wc ?_ ?_|refine fun (nb:Bool) (hnb:nb=true→_)=>?_|exact we|refine fun (hc:_=(_:Bool))=>?_|clear hK K))
 ·refine zf noTab (zb _) (fun K hK=>?_);simp only [go_sem,aeq,aeq.aeqF,simprocAttr]
  (first|(refine hK _ ?_;clear hK K)|(clear hK K;refine hK _ ?_;clear hK K)|(clear hK K;clear hK K;refine hK _ ?_;clear hK K)|(clear hK K;clear hK K;clear hK K;refine hK _ ?_;clear hK K)|(clear hK K;clear hK K;clear hK K;clear hK K;refine hK _ ?_;clear hK K))
  refine zcd 2 66 rfl ?_
  have h0:l= []:=List.map_eq_nil_iff.1 (hnb hc)
  subst h0
  (repeat' (first|(refine hK _ ?_;clear hK K)|refine wa fun K hK=>?_|refine wb ?_|refine wc ?_ ?_|refine fun (nb:Bool) (hnb:nb=true→_)=>?_|exact we|refine fun (hc:_=(_:Bool))=>?_|clear hK K))
  all_goals rfl
theorem zoE (x:Img) (guest:Int) (hp:ImgOk x∧x.maps.length≤5000):AC 92 [imgA x,.d (.int .i64 guest)] (imgA (cmark x guest)):=by
 obtain ⟨h,h2⟩:=hp
 refine fbod Tryz.func92 Tryz.ntmps92 (fun base=>?_)
 by_cases hg:guest<0∨64≤guest
 ·have hdec:(decide (0≤guest)&&decide (guest<64))=false:=by
   rw [Bool.and_eq_false_iff,decide_eq_false_iff_not,decide_eq_false_iff_not];omega
  (have fx:=hdec;repeat' (first|(refine hK _ ?_;clear hK K)|refine wa fun K hK=>?_|refine wb ?_|refine wc ?_ ?_|exact we|refine fun (hc:_=(_:Bool))=>?_|clear hK K))
  rw [cmark,if_pos hg]
 ·have hdec:(decide (0≤guest)&&decide (guest<64))=true:=by
   rw [Bool.and_eq_true,decide_eq_true_eq,decide_eq_true_eq];omega
  obtain ⟨g,rfl⟩:∃g:Nat,guest=g:=⟨guest.toNat,by omega⟩
  have hg2:g<64:=by omega
  (have fx:=hdec;repeat' (first|(refine hK _ ?_;clear hK K)|refine wa fun K hK=>?_|refine wb ?_|refine wc ?_ ?_|exact we|refine fun (hc:_=(_:Bool))=>?_|clear hK K))
  refine ((zhI x.maps 2 h2).own rfl rfl (Nat.zero_le _) (by rintro r h' ⟨_,rfl⟩;rfl)).mono ?_
  rintro r h' ⟨h1,⟨rfl,rfl⟩,rfl⟩
  simp only [go_sem,aeq,aeq.aeqF,simprocAttr]
  (have fx:=Go.Aw.fx;repeat' (first|(refine hK _ ?_;clear hK K)|refine wa fun K hK=>?_|refine wb ?_|refine wc ?_ ?_|exact we|refine fun (hc:_=(_:Bool))=>?_|clear hK K))
  refine zo (fun q: { i:Nat // i≤x.maps.length } =>⟨[(1,true,.d (.int .i64 g)),(2,true,.vp 0 0),(4,true,.vp 1 0),(18,true,.d (.int .i64 x.maps.length)),(19,true,.d (.int .i64 q.1))],[(2,.arr 66 (((x.maps.take q.1).map (mset g)++x.maps.drop q.1).map dmapD)),(1,.var img0),(0,.var [.d (.str x.disk.data),.d (.sl 2 (x.disk.cache.map putD)),.d (.int .i64 x.disk.fuse),.d (.bool x.disk.off),.d (.sl 1 (x.disk.bad.map intD)),.d (.int .i64 x.geom.guest),.d (.int .i64 x.geom.host),.d (.int .u64 x.jour.seq),.d (.int .i64 x.jour.pos),.osl 2 66 x.maps.length 0 x.maps.length,.d (.bool x.broken)])],some []⟩) (fun q=>x.maps.length - q.1) ⟨0,Nat.zero_le _⟩ le1 (fun q=>?_)
  obtain ⟨i,hi⟩:=q
  simp only
  have hL:((x.maps.take i).map (mset g)++x.maps.drop i).length=x.maps.length:=by simp;omega
  rcases Nat.lt_or_ge i x.maps.length with hlt|hge
  ·obtain ⟨m,hq⟩:=zaj hlt
   have hcmp:decide ((i:Int)<(x.maps.length:Int))=true:=decide_eq_true (by omega)
   have hwi:=zp (i:=i) (by omega)
   have hL1:((x.maps.take i).map (mset g)).length=i:=by simp;omega
   have hat:((x.maps.take i).map (mset g)++x.maps.drop i)[i]?=some m:=by rw [List.getElem?_append_right (by omega),hL1,Nat.sub_self,List.getElem?_drop,Nat.add_zero,hq]
   have hrow:=za8 (g:=dmapD) hat
   have hset:((x.maps.take i).map (mset g)++x.maps.drop i).set i (mset g m)=(x.maps.take (i+1)).map (mset g)++x.maps.drop (i+1):=by
    rw [List.set_append,if_neg (by omega),hL1,Nat.sub_self,zcq hq,zaZ hq,List.map_append,List.append_assoc]
    rfl
   (have fx:=(⟨hcmp,hL,hrow⟩:_∧_∧_);repeat' (first|(refine hK _ ?_;clear hK K)|refine wa fun K hK=>?_|refine wb ?_|refine wc ?_ ?_|exact we|refine fun (hc:_=(_:Bool))=>?_|clear hK K))
   have hnew:(((x.maps.take i).map (mset g)++x.maps.drop i).map dmapD).set i ((dmapD m).set (2+g*1) (.bool true))=((x.maps.take (i+1)).map (mset g)++x.maps.drop (i+1)).map dmapD:=by
    rw [Nat.mul_one,znq,← List.map_set,hset]
   exact ⟨⟨i+1,by omega⟩,by simp only [AS.le,leT,leH,zc,AsgK,AV.le,AV.leL,AObj.le,inH,idsT,idsH,AV.ids,AV.idsL,AV.idsR,AObj.ids,lk,hget,go_sem,aeq,aeq.aeqF,simprocAttr,hwi,hnew],by simp;omega⟩
  ·have hcmp:decide ((i:Int)<(x.maps.length:Int))=false:=decide_eq_false (by omega)
   (have fx:=(⟨hcmp,hL⟩:_∧_);repeat' (first|(refine hK _ ?_;clear hK K)|refine wa fun K hK=>?_|refine wb ?_|refine wc ?_ ?_|exact we|refine fun (hc:_=(_:Bool))=>?_|clear hK K))
   rw [cmark,if_neg hg,show i=x.maps.length by omega,List.take_length,List.drop_length,List.append_nil,List.take_of_length_le (by simp)]
   rfl
@[go_sem] noncomputable def zdh:Ent Tryz.prog 92:= .m2 zbp (intT .i64) zoE
def sectI (k:Int):List (Int×Int):= [(96+2*k,0),(96+2*k+1,64)]
def zaM (q:Int×Int):List AV:= [.d (.int .i64 q.1),.d (.int .i64 q.2)]
abbrev Scst (k:Int):= { q:Nat×List (List AV) // q.1≤2∧q.2++((sectI k).drop q.1).map zaM=(sectI k).map zaM }
theorem zmn (fl:Nat) (k:Int) (h0:0≤k) (h1:k≤1000):AIter Tryz.prog 230 fl [] [.dp [.d (.int .i64 k)]] [] ((sectI k).map zaM) (fun g h'=>(∀xs,g=some xs→xs=(sectI k).map zaM)∧h'= []):=by
 refine itr Tryz.func230 Tryz.ntmps230 (fun base y=>?_)
 (have tk:=zb Tryz.prog);repeat' (first|(refine zy (fun i=>decide (i<fl)) (by simp only [inH,idsH,hsel,AV.ids,AV.idsL,AV.idsR,AObj.ids,hget,go_sem,aeq,aeq.aeqF,simprocAttr]) ?_;simp only [go_sem,aeq,aeq.aeqF,simprocAttr,hsel,keepT];refine zH ?_;simp only [go_sem,aeq,aeq.aeqF,simprocAttr])|((first|(refine ya ?_;intro K hK)|refine yb ?_);simp only [go_sem,aeq,aeq.aeqF,simprocAttr])|refine zj (fun K hK=>?_)|refine sc ?_|refine zi rfl (fun hc=>?_) (fun hc=>?_)|(refine hK _ ?_;clear hK K)|((first|refine (show AS.le _ _ from ?_)|refine (show leH _ _ from ?_)|refine (show inH _ _ from ?_));simp only [AS.le,leT,leH,zc,AsgK,AV.le,AV.leL,AObj.le,inH,idsT,idsH,AV.ids,AV.idsL,AV.idsR,AObj.ids,lk,hget,go_sem,aeq,aeq.aeqF,simprocAttr])|refine fun (r2:Rnd _)=>?_|with_reducible refine And.intro ?_ ?_|exact ‹_<+:_› |omega|assumption|clear hK K)
 refine zo (fun q:Scst k=>⟨[(0,true,.fn (.yield y.yl) [] []),(1,true,.dp [.d (.int .i64 k)]),(4,true,.d (.int .i64 q.1.1))],[],some q.1.2⟩) (fun q=>2 - q.1.1) ⟨(0,[]),Nat.zero_le _,rfl⟩ le1 (fun q=>?_)
 obtain ⟨⟨i,xs⟩,hi,hf⟩:=q
 simp only at hi hf ⊢
 have hc0:((0:Nat):Int)=0:=rfl
 have hc1:((1:Nat):Int)=1:=rfl
 have hc2:((2:Nat):Int)=2:=rfl
 have hw1:IntKind.i64.wrap 1=1:=by decide
 have hw2:IntKind.i64.wrap 2=2:=by decide
 have hw64:IntKind.i64.wrap 64=64:=by decide
 have hwz:IntKind.i64.wrap 0=0:=by decide
 have hwk:IntKind.i64.wrap (96+2*k+0)=96+2*k:=by rw [Int.add_zero];exact zg (by omega) (by omega)
 have hwk1:IntKind.i64.wrap (96+2*k+1)=96+2*k+1:=zg (by omega) (by omega)
 have h3:i=0∨i=1∨i=2:=by omega
 rcases h3 with rfl|rfl|rfl
 ·have hpre:(xs++ [zaM (96+2*k,0)])<+:(sectI k).map zaM:=by rw [← hf];exact ⟨[zaM (96+2*k+1,64)],by simp [sectI]⟩
  simp only [zaM] at hpre
  (have tk:=za zbC <| zb Tryz.prog);repeat' (first|(refine zy (fun i=>decide (i<fl)) (by simp only [inH,idsH,hsel,AV.ids,AV.idsL,AV.idsR,AObj.ids,hget,go_sem,aeq,aeq.aeqF,simprocAttr]) ?_;simp only [go_sem,aeq,aeq.aeqF,simprocAttr,hc0,hw1,hwz,hwk,hsel,keepT];refine zH ?_;simp only [go_sem,aeq,aeq.aeqF,simprocAttr,hc0,hw1,hwz,hwk])|((first|(refine ya ?_;intro K hK)|refine yb ?_);simp only [go_sem,aeq,aeq.aeqF,simprocAttr,hc0,hw1,hwz,hwk])|refine zj (fun K hK=>?_)|refine sc ?_|refine zi rfl (fun hc=>?_) (fun hc=>?_)|(refine hK _ ?_;clear hK K)|((first|refine (show AS.le _ _ from ?_)|refine (show leH _ _ from ?_)|refine (show inH _ _ from ?_));simp only [AS.le,leT,leH,zc,AsgK,AV.le,AV.leL,AObj.le,inH,idsT,idsH,AV.ids,AV.idsL,AV.idsR,AObj.ids,lk,hget,go_sem,aeq,aeq.aeqF,simprocAttr,hc0,hw1,hwz,hwk])|refine fun (r2:Rnd _)=>?_|with_reducible refine And.intro ?_ ?_|exact ‹_<+:_› |omega|assumption|clear hK K)
  exact ⟨⟨(1,xs++ [zaM (96+2*k,0)]),by show (1:Nat)≤2;omega,by rw [← hf];simp [sectI]⟩,by simp only [AS.le,leT,leH,zc,AsgK,AV.le,AV.leL,AObj.le,inH,idsT,idsH,AV.ids,AV.idsL,AV.idsR,AObj.ids,lk,hget,go_sem,aeq,aeq.aeqF,simprocAttr,zaM]<;>and_intros<;>rfl,by simp⟩
 ·have hpre:(xs++ [zaM (96+2*k+1,64)])<+:(sectI k).map zaM:=by rw [← hf];exact ⟨[],by simp [sectI]⟩
  simp only [zaM] at hpre
  (have tk:=za zbC <| zb Tryz.prog);repeat' (first|(refine zy (fun i=>decide (i<fl)) (by simp only [inH,idsH,hsel,AV.ids,AV.idsL,AV.idsR,AObj.ids,hget,go_sem,aeq,aeq.aeqF,simprocAttr]) ?_;simp only [go_sem,aeq,aeq.aeqF,simprocAttr,hc1,hw2,hw64,hwk1,hsel,keepT];refine zH ?_;simp only [go_sem,aeq,aeq.aeqF,simprocAttr,hc1,hw2,hw64,hwk1])|((first|(refine ya ?_;intro K hK)|refine yb ?_);simp only [go_sem,aeq,aeq.aeqF,simprocAttr,hc1,hw2,hw64,hwk1])|refine zj (fun K hK=>?_)|refine sc ?_|refine zi rfl (fun hc=>?_) (fun hc=>?_)|(refine hK _ ?_;clear hK K)|((first|refine (show AS.le _ _ from ?_)|refine (show leH _ _ from ?_)|refine (show inH _ _ from ?_));simp only [AS.le,leT,leH,zc,AsgK,AV.le,AV.leL,AObj.le,inH,idsT,idsH,AV.ids,AV.idsL,AV.idsR,AObj.ids,lk,hget,go_sem,aeq,aeq.aeqF,simprocAttr,hc1,hw2,hw64,hwk1])|refine fun (r2:Rnd _)=>?_|with_reducible refine And.intro ?_ ?_|exact ‹_<+:_› |omega|assumption|clear hK K)
  exact ⟨⟨(2,xs++ [zaM (96+2*k+1,64)]),by show (2:Nat)≤2;omega,by rw [← hf];simp [sectI]⟩,by simp only [AS.le,leT,leH,zc,AsgK,AV.le,AV.leL,AObj.le,inH,idsT,idsH,AV.ids,AV.idsL,AV.idsR,AObj.ids,lk,hget,go_sem,aeq,aeq.aeqF,simprocAttr,zaM]<;>and_intros<;>rfl,by simp⟩
 ·(have tk:=za zbC <| zb Tryz.prog);repeat' (first|(refine zy (fun i=>decide (i<fl)) (by simp only [inH,idsH,hsel,AV.ids,AV.idsL,AV.idsR,AObj.ids,hget,go_sem,aeq,aeq.aeqF,simprocAttr]) ?_;simp only [go_sem,aeq,aeq.aeqF,simprocAttr,hc2,hsel,keepT];refine zH ?_;simp only [go_sem,aeq,aeq.aeqF,simprocAttr,hc2])|((first|(refine ya ?_;intro K hK)|refine yb ?_);simp only [go_sem,aeq,aeq.aeqF,simprocAttr,hc2])|refine zj (fun K hK=>?_)|refine sc ?_|refine zi rfl (fun hc=>?_) (fun hc=>?_)|(refine hK _ ?_;clear hK K)|((first|refine (show AS.le _ _ from ?_)|refine (show leH _ _ from ?_)|refine (show inH _ _ from ?_));simp only [AS.le,leT,leH,zc,AsgK,AV.le,AV.leL,AObj.le,inH,idsT,idsH,AV.ids,AV.idsL,AV.idsR,AObj.ids,lk,hget,go_sem,aeq,aeq.aeqF,simprocAttr,hc2])|refine fun (r2:Rnd _)=>?_|with_reducible refine And.intro ?_ ?_|exact ‹_<+:_› |omega|assumption|clear hK K)
  rintro zs rfl
  simpa [sectI] using hf
theorem zoF (k:Int) (_:True):AC 168 [.d (.int .i64 k)] (.fn (.func 230) [] [.dp [.d (.int .i64 k)]]):=by
 refine fbod Tryz.func168 Tryz.ntmps168 (fun base=>?_)
 (repeat' (first|(refine hK _ ?_;clear hK K)|refine wa fun K hK=>?_|refine wb ?_|refine wc ?_ ?_|refine fun (nb:Bool) (hnb:nb=true→_)=>?_|exact we|clear hK K))
@[go_sem] noncomputable def zcn:Ent Tryz.prog 168:= .m1 (intT .i64) zoF
def rdA (d:Disk) (k:Int):Nat→Txt
 |0=> []
 |1=>(dread d (96+2*k)).1
 |_=>(dread d (96+2*k)).1++(dread d (96+2*k+1)).1
@[go_sem] theorem rdA_0 (d:Disk) (k:Int):rdA d k 0= []:=rfl
def rdG (d:Disk) (k:Int):Nat→Prop
 |0=>True
 |1=>(dread d (96+2*k)).2=0
 |_=>(dread d (96+2*k)).2=0∧(dread d (96+2*k+1)).2=0
theorem zoG {k:Int} {ys zs:List (Int×Int)} {q:Int×Int} (h:sectI k=ys++q::zs):(ys= []∧q=(96+2*k,0))∨(ys= [(96+2*k,0)]∧q=(96+2*k+1,64)):=by
 match ys,h with
 | [],h=>simp only [sectI,List.nil_append,List.cons.injEq] at h;exact .inl ⟨rfl,h.1.symm⟩
 | [a],h=>simp only [sectI,List.cons_append,List.nil_append,List.cons.injEq] at h;exact .inr ⟨by rw [h.1],h.2.1.symm⟩
 |a::b::r,h=>
  exfalso
  have:=congrArg List.length h
  simp [sectI] at this
theorem zoH (d:Disk) (l1 guest:Int) (h:DiskF d):AC 95 [diskA d,.d (.int .i64 l1),.d (.int .i64 guest)] (.tup [.d (.str (cread d l1 guest).1),.d (.int .i64 (cread d l1 guest).2)]):=by
 refine fbod Tryz.func95 Tryz.ntmps95 (fun base=>?_)
 have hdp:DP d p0:=⟨h,zdc⟩
 have hk1:(elook d p0 l1 guest).1.kind=1→zM (elook d p0 l1 guest).1.loc=true:=zf3
 (have tk:=za zdD <| za za2 <| za zcn <| za zbe <| zb Tryz.prog;repeat' (first|(refine hK _ ?_;clear hK K)|refine wa fun K hK=>?_|refine wb ?_|refine wc ?_ ?_|refine wl ?_|refine fun (r2:Rnd _)=>?_|exact ‹_<+:_› |exact we|refine fun (hc:_=(_:Bool))=>?_|clear hK K))
 ·rw [cread,if_pos (bneP hc)]
 ·rename_i hc0
  rw [cread,if_neg (bneN hc0),if_neg (bneP hc)]
  rfl
 rename_i hc0
 have hkk:(elook d p0 l1 guest).1.kind=1:=Classical.byContradiction (fun h=>bneN hc h)
 have hrd:cread d l1 guest=zbx d (elook d p0 l1 guest).1.loc:=by rw [cread,if_neg (bneN hc0),if_pos hkk]
 have hho:=hostOk_iff.1 (hk1 hkk)
 have hcl:zbx d (elook d p0 l1 guest).1.loc=if (dread d (96+2*(elook d p0 l1 guest).1.loc)).2≠0 then ([],(dread d (96+2*(elook d p0 l1 guest).1.loc)).2) else if (dread d (96+2*(elook d p0 l1 guest).1.loc+1)).2≠0 then ([],(dread d (96+2*(elook d p0 l1 guest).1.loc+1)).2)
   else ((dread d (96+2*(elook d p0 l1 guest).1.loc)).1++(dread d (96+2*(elook d p0 l1 guest).1.loc+1)).1,0):=rfl
 rw [hcl] at hrd
 clear hcl hc0 hc
 revert hkk hho hrd
 generalize (elook d p0 l1 guest).1.loc=k
 intro hkk hcl hho
 have hdo:=h.ok
 have hl1:=zdv (at_:=96+2*k) h.puts
 have hl2:=zdv (at_:=96+2*k+1) h.puts
 obtain ⟨I,hI⟩:∃I:List (List AV)→AHeap×Option (List (List AV)),I=fun xs=>([(4,.var [.d (.str (rdA d k xs.length))]),(2,.var [.d (.int .i64 0)]),(1,.var [.d (.str [])]),(0,(.var [.d (.str d.data),.d (.sl 2 (d.cache.map putD)),.d (.int .i64 d.fuse),.d (.bool d.off),.d (.sl 1 (d.bad.map intD))]))],some []):=⟨_,rfl⟩
 obtain ⟨G,hG⟩:∃G:List (List AV)→Prop,G=fun xs=>rdG d k xs.length:=⟨_,rfl⟩
 obtain ⟨J,hJ⟩:∃J:Code→AHeap→Option (List (List AV))→Prop,J=fun c h g=>c= .ret∧g=some []∧∃t e,cread d l1 guest=([],e)∧h= [(4,.var [.d (.str t)]),(2,.var [.d (.int .i64 e)]),(1,.var [.d (.str [])]),(0,(.var [.d (.str d.data),.d (.sl 2 (d.cache.map putD)),.d (.int .i64 d.fuse),.d (.bool d.off),.d (.sl 1 (d.bad.map intD))]))]:=⟨_,rfl⟩
 refine aw_le ⟨[(3,true,.vp 0 0),(6,true,.vp 1 0),(7,true,.vp 2 0),(10,true,.vp 4 0),(33,true,.fn (.func 230) [] [.dp [.d (.int .i64 k)]])],[(4,.var [.d (.str [])]),(2,.var [.d (.int .i64 0)]),(1,.var [.d (.str [])]),(0,(.var [.d (.str d.data),.d (.sl 2 (d.cache.map putD)),.d (.int .i64 d.fuse),.d (.bool d.off),.d (.sl 1 (d.bad.map intD))]))],some []⟩ le0 ?_
 refine zch 100 G I J (zmn 100 k (by omega) (by omega)) (by simp only [go_sem,aeq,aeq.aeqF,simprocAttr]) rfl (zap rfl) (by simp [cxOf,cxY]) rfl (by rw [hG];first|trivial|rfl|simp) (by rw [hI];simp only [AS.le,leT,leH,zc,AsgK,AV.le,AV.leL,AObj.le,inH,idsT,idsH,AV.ids,AV.idsL,AV.idsR,AObj.ids,lk,hget,go_sem,aeq,aeq.aeqF,simprocAttr]<;>simp [AV.leL,AV.le]) (by rw [hI];simp only [AS.le,leT,leH,zc,AsgK,AV.le,AV.leL,AObj.le,inH,idsT,idsH,AV.ids,AV.idsL,AV.idsR,AObj.ids,lk,hget,go_sem,aeq,aeq.aeqF,simprocAttr]<;>simp) (by rw [hI]<;>rfl) (by intro x hx;obtain ⟨q,_,rfl⟩:=List.mem_map.1 hx;rfl) (by intro t ht;simp at ht;first|(rcases ht with rfl|rfl<;>simp [cxOf,cxY]<;>done)|(subst ht;simp [cxOf,cxY])) ?_ ?_ ?_
 ·intro xs x hpre hgd l1 r1
  obtain ⟨ys,q,zs,hys,rfl,hzl⟩:=zeg hpre
  have hln:xs.length=ys.length:=by rw [hys];simp
  rw [hG] at hgd
  rcases zoG hzl with ⟨rfl,rfl⟩|⟨rfl,rfl⟩
  ·have hx0:xs= []:=by simpa using hys
   subst hx0
   simp only [zaM]
   refine aw_le ⟨[(34,true,.d (.int .i64 (96+2*k))),(3,true,.vp 0 0),(6,true,.vp 1 0),(7,true,.vp 2 0),(10,true,.vp 4 0)],[(4,.var [.d (.str [])]),(2,.var [.d (.int .i64 0)]),(1,.var [.d (.str [])]),(0,(.var [.d (.str d.data),.d (.sl 2 (d.cache.map putD)),.d (.int .i64 d.fuse),.d (.bool d.off),.d (.sl 1 (d.bad.map intD))]))],some []⟩ (by rw [hI];simp only [AS.le,leT,leH,zc,AsgK,AV.le,AV.leL,AObj.le,inH,idsT,idsH,AV.ids,AV.idsL,AV.idsR,AObj.ids,lk,hget,go_sem,aeq,aeq.aeqF,simprocAttr,rdA]) ?_
   (have tk:=za zdD <| za za2 <| za zcn <| za zbe <| zb Tryz.prog);repeat' (first|((first|(refine sa ?_;intro K hK)|refine sb ?_);simp only [go_sem,aeq,aeq.aeqF,simprocAttr,hI,rdA,Tryz.results95])|refine zj (fun K hK=>?_)|refine sc ?_|refine zi rfl (fun hc=>?_) (fun hc=>?_)|(refine hK _ ?_;clear hK K)|((first|refine (show AS.le _ _ from ?_)|refine (show leH _ _ from ?_)|refine (show inH _ _ from ?_));simp only [AS.le,leT,leH,zc,AsgK,AV.le,AV.leL,AObj.le,inH,idsT,idsH,AV.ids,AV.idsL,AV.idsR,AObj.ids,lk,hget,go_sem,aeq,aeq.aeqF,simprocAttr,hI,rdA])|refine fun (r2:Rnd _)=>?_|with_reducible refine And.intro ?_ ?_|exact ‹_<+:_› |omega|assumption|clear hK K)
   ·rw [hJ]
    exact ⟨rfl,rfl,_,_,by rw [hcl,if_pos (bneP hc)],rfl⟩
   ·rw [hG]
    exact Classical.byContradiction (bneN hc)
  ·have hx1:xs= [zaM (96+2*k,0)]:=by simpa using hys
   subst hx1
   simp only [zaM]
   refine aw_le ⟨[(34,true,.d (.int .i64 (96+2*k+1))),(3,true,.vp 0 0),(6,true,.vp 1 0),(7,true,.vp 2 0),(10,true,.vp 4 0)],[(4,.var [.d (.str (dread d (96+2*k)).1)]),(2,.var [.d (.int .i64 0)]),(1,.var [.d (.str [])]),(0,(.var [.d (.str d.data),.d (.sl 2 (d.cache.map putD)),.d (.int .i64 d.fuse),.d (.bool d.off),.d (.sl 1 (d.bad.map intD))]))],some []⟩ (by rw [hI];simp only [AS.le,leT,leH,zc,AsgK,AV.le,AV.leL,AObj.le,inH,idsT,idsH,AV.ids,AV.idsL,AV.idsR,AObj.ids,lk,hget,go_sem,aeq,aeq.aeqF,simprocAttr,rdA]) ?_
   have h0:(dread d (96+2*k)).2=0:=hgd
   (have tk:=za zdD <| za za2 <| za zcn <| za zbe <| zb Tryz.prog);repeat' (first|((first|(refine sa ?_;intro K hK)|refine sb ?_);simp only [go_sem,aeq,aeq.aeqF,simprocAttr,hI,rdA,Tryz.results95])|refine zj (fun K hK=>?_)|refine sc ?_|refine zi rfl (fun hc=>?_) (fun hc=>?_)|(refine hK _ ?_;clear hK K)|((first|refine (show AS.le _ _ from ?_)|refine (show leH _ _ from ?_)|refine (show inH _ _ from ?_));simp only [AS.le,leT,leH,zc,AsgK,AV.le,AV.leL,AObj.le,inH,idsT,idsH,AV.ids,AV.idsL,AV.idsR,AObj.ids,lk,hget,go_sem,aeq,aeq.aeqF,simprocAttr,hI,rdA])|refine fun (r2:Rnd _)=>?_|with_reducible refine And.intro ?_ ?_|exact ‹_<+:_› |omega|assumption|clear hK K)
   ·rw [hJ]
    exact ⟨rfl,rfl,_,_,by rw [hcl,if_neg (by omega),if_pos (bneP hc)],rfl⟩
   ·rw [hG]
    exact ⟨h0,Classical.byContradiction (bneN hc)⟩
 ·intro hgd
  rw [hG] at hgd
  have hgd:(dread d (96+2*k)).2=0∧(dread d (96+2*k+1)).2=0:=hgd
  rw [hI]
  (have tk:=za zdD <| za za2 <| za zcn <| za zbe <| zb Tryz.prog);repeat' (first|((first|(refine sa ?_;intro K hK)|refine sb ?_);simp only [go_sem,aeq,aeq.aeqF,simprocAttr,sectI,rdA,Tryz.results95])|refine zj (fun K hK=>?_)|refine sc ?_|refine zi rfl (fun hc=>?_) (fun hc=>?_)|(refine hK _ ?_;clear hK K)|((first|refine (show AS.le _ _ from ?_)|refine (show leH _ _ from ?_)|refine (show inH _ _ from ?_));simp only [AS.le,leT,leH,zc,AsgK,AV.le,AV.leL,AObj.le,inH,idsT,idsH,AV.ids,AV.idsL,AV.idsR,AObj.ids,lk,hget,go_sem,aeq,aeq.aeqF,simprocAttr,sectI,rdA])|refine fun (r2:Rnd _)=>?_|with_reducible refine And.intro ?_ ?_|exact ‹_<+:_› |omega|assumption|clear hK K)
  rw [hcl,if_neg (by omega),if_neg (by omega)]
 ·rw [hJ]
  rintro c h3 g3 ⟨rfl,rfl,t,e,he,rfl⟩
  (have tk:=za zdD <| za za2 <| za zcn <| za zbe <| zb Tryz.prog;repeat' (first|(refine hK _ ?_;clear hK K)|refine wa fun K hK=>?_|refine wb ?_|refine wc ?_ ?_|refine wl ?_|refine fun (r2:Rnd _)=>?_|exact ‹_<+:_› |exact we|refine fun (hc:_=(_:Bool))=>?_|clear hK K))
  rw [he]
@[go_sem] noncomputable def zdi:Ent Tryz.prog 95:= .m3 zq (intT .i64) (intT .i64) zoH
open Go Go.Proofs
open Go Go.Proofs
open Go Go.Proofs
@[simp, go_sem] theorem zuu (x:Img) (d:Disk):(wdisk x d).disk=d:=rfl
@[simp, go_sem] theorem zuv (x:Img) (d:Disk):(wdisk x d).geom=x.geom:=rfl
@[simp, go_sem] theorem zuw (x:Img) (d:Disk):(wdisk x d).jour=x.jour:=rfl
@[simp, go_sem] theorem zux (x:Img) (d:Disk):(wdisk x d).maps=x.maps:=rfl
@[simp, go_sem] theorem zte (x:Img) (d:Disk):(wdisk x d).broken=x.broken:=rfl
@[simp, go_sem] theorem zt5 (x:Img) (d e:Disk):wdisk (wdisk x d) e=wdisk x e:=rfl
@[simp, go_sem] theorem zuy (x:Img):wdisk x x.disk=x:=rfl
open Go Go.Proofs
open Go Go.Proofs
theorem DiskF.commit {d:Disk} (h:DiskF d) (j:Jour) (p:Plan):DiskF (jcommit d j p).1:=by
 have h1:=h.flush
 have h2:∀l,DiskF (Aw.layL (Aw.dflush d).1 l).1:=fun l=>DiskF.layL l h1
 have h3:∀l,DiskF (Aw.dflush (Aw.layL (Aw.dflush d).1 l).1).1:=fun l=>(h2 l).flush
 have h4:∀l,DiskF (Aw.play (Aw.dflush (Aw.layL (Aw.dflush d).1 l).1).1 p).1:=fun l=>(h3 l).play p
 unfold Aw.jcommit Aw.jtail
 repeat' split
 all_goals first|exact h|exact h1|exact h2 _|exact h3 _|exact h4 _
theorem zmp {d:Disk} {j:Jour} {p:Plan} (h0:0≤j.seq) (h1:j.seq≤4611686018427387904):0≤(jcommit d j p).2.1.seq∧(jcommit d j p).2.1.seq≤4611686018427387904:=by
 unfold jcommit jtail
 repeat' split
 all_goals first|exact ⟨h0,h1⟩|(constructor<;>simp only<;>omega)
theorem ImgF.done {x:Img} (h:ImgF x) (p:Plan):ImgF (cdone x p).1:=by
 have hd:=h.disk.commit x.jour p
 have hs:=zmp (d:=x.disk) (p:=p) h.seq0 h.seq1
 unfold cdone
 split
 ·exact ⟨⟨hd.ok,h.ok.maps,h.ok.names,h.ok.bits⟩,hd,h.guest,h.host,h.seq0,h.seq1,h.maps⟩
 ·exact ⟨⟨hd.ok,h.ok.maps,h.ok.names,h.ok.bits⟩,hd,h.guest,h.host,hs.1,hs.2,h.maps⟩
theorem DiskF.place {d:Disk} (h:DiskF d) (k off:Int) (s:Txt):DiskF (zgv d k off s).1:=by
 have:∀m i d,DiskF d→DiskF (zf4 k off s m i d).1:=by
  intro m
  induction m with
  |zero=>intro i d h;exact h
  |succ m ih=>
   intro i d h
   rw [zf4]
   split
   ·exact h.cput1 _ _ _ _
   ·exact ih _ _ (h.cput1 _ _ _ _)
 exact this _ _ _ h
theorem ImgF.write4 {x:Img} (h:ImgF x) (l1 g off:Int) (s:Txt):ImgF (zdW x l1 g off s).1:=by
 unfold zdW
 repeat' split
 ·exact h
 ·exact h
 ·exact h.wd (DiskF.layL _ h.disk)
 ·exact h.wd (DiskF.layL _ h.disk)
 ·exact (h.wd (DiskF.layL _ h.disk)).done _
theorem ImgF.write {x:Img} (h:ImgF x) (g off:Int) (s:Txt):ImgF (zdA x g off s).1:=by
 have hm:=h.mark g
 unfold zdA
 split
 ·exact h
 split
 ·exact h
 split
 ·exact h
 unfold zf5
 split
 ·exact hm
 split
 ·exact hm
 unfold zhC
 split
 ·split
  ·exact hm
  split
  ·exact hm.wd (hm.disk.place _ _ _)
  ·exact hm.write4 _ _ _ _
 ·exact hm.write4 _ _ _ _
open Go Go.Proofs
open Go Go.Proofs Go.RowKit Go.ChangeShapes Go.WideShapes
structure ImgW (x:Img):Prop where
 ok:ImgOk x
 seq0:0≤x.jour.seq
 seq1:x.jour.seq≤18446744073709551615
 guest0: -9223372036854775808≤x.geom.guest
 guest1:x.geom.guest≤9223372036854775807
 host0: -9223372036854775808≤x.geom.host
 host1:x.geom.host≤9223372036854775807
 pos0: -9223372036854775808≤x.jour.pos
 pos1:x.jour.pos≤9223372036854775807
def imgD (x:Img):List D:= [.str x.disk.data,.sl 2 (x.disk.cache.map putD),.int .i64 x.disk.fuse,.bool x.disk.off,.sl 1 (x.disk.bad.map intD),.int .i64 x.geom.guest,.int .i64 x.geom.host,.int .u64 x.jour.seq,.int .i64 x.jour.pos,.sl 66 (x.maps.map dmapD),.bool x.broken]
theorem ze8 {n:Nat} {x:List D} (h:DTy Tryz.prog (n+1) 3 x):∃a:Int,x= [.int .i64 a]∧ -9223372036854775808≤a∧a≤9223372036854775807:=by
 unfold DTy at h
 simp only [ty3] at h
 obtain ⟨a,rfl,h1,h2⟩:=h
 exact ⟨a,rfl,h1,h2⟩
theorem zjD {n:Nat} {x:List D} (h:DTy Tryz.prog (n+1) 9 x):∃s:Txt,x= [.str s]∧s.length≤9223372036854775807:=by
 unfold DTy at h
 simp only [ty9] at h
 exact h
theorem zgO {n:Nat} {x:List D} (h:DTy Tryz.prog (n+1) 4 x):∃b:Bool,x= [.bool b]:=by
 unfold DTy at h
 simp only [ty4] at h
 exact h
theorem zsP {n:Nat} {x:List D} (h:DTy Tryz.prog (n+2) 23 x):∃l:List Int,l.length≤9223372036854775807∧x= [.sl 1 (l.map intD)]:=by
 unfold DTy at h
 simp only [ty23] at h
 obtain ⟨rows,rfl,hl,hr⟩:=h
 obtain ⟨l,rfl⟩:=zgI (e:=intD) (fun r h'=>(ze8 (hr r h')).imp fun s h=>h.1)
 exact ⟨l,by simpa using hl,by rw [ty3]⟩
theorem zuh {n:Nat} {x:List D} (h:DTy Tryz.prog (n+2) 183 x):∃q:PutR,x=putD q:=by
 unfold DTy at h
 simp only [ty183,DTy.fields] at h
 obtain ⟨a1,b1,rfl,g1,a2,b2,rfl,g2,rfl⟩:=h
 obtain ⟨a,rfl,_⟩:=ze8 g1
 obtain ⟨s,rfl,_⟩:=zjD g2
 exact ⟨(a,s),rfl⟩
theorem zsQ {n:Nat} {x:List D} (h:DTy Tryz.prog (n+3) 22 x):∃l:List PutR,l.length≤9223372036854775807∧x= [.sl 2 (l.map putD)]:=by
 unfold DTy at h
 simp only [ty22] at h
 obtain ⟨rows,rfl,hl,hr⟩:=h
 obtain ⟨l,rfl⟩:=zgI (e:=putD) (fun r h'=>zuh (hr r h'))
 exact ⟨l,by simpa using hl,by rw [ty183]⟩
theorem zsR {n:Nat} {x:List D} (h:DTy Tryz.prog (n+4) 25 x):∃d:Disk,DiskOk d∧x= [.str d.data,.sl 2 (d.cache.map putD),.int .i64 d.fuse,.bool d.off,.sl 1 (d.bad.map intD)]:=by
 unfold DTy at h
 simp only [ty25,DTy.fields] at h
 obtain ⟨a1,b1,rfl,g1,a2,b2,rfl,g2,a3,b3,rfl,g3,a4,b4,rfl,g4,a5,b5,rfl,g5,rfl⟩:=h
 obtain ⟨s,rfl,q1⟩:=zjD g1
 obtain ⟨l,q2,rfl⟩:=zsQ g2
 obtain ⟨f,rfl,q3,q4⟩:=ze8 g3
 obtain ⟨o,rfl⟩:=zgO g4
 obtain ⟨m,q5,rfl⟩:=zsP g5
 exact ⟨⟨s,l,f,o,m⟩,⟨q1,q2,q5,q3,q4⟩,rfl⟩
theorem ziI:∀ {parts:List (List D)},(∀p∈parts,∃b:Bool,p= [.bool b])→∃l:List Bool,parts.flatten=l.map D.bool∧l.length=parts.length
 | [],_=>⟨[],rfl,rfl⟩
 |p::r,h=>by
  obtain ⟨b,rfl⟩:=h p (by simp)
  obtain ⟨l,h1,h2⟩:=ziI (parts:=r) (fun q hq=>h q (by simp [hq]))
  exact ⟨b::l,by simp [h1],by simp [h2]⟩
theorem znB {n:Nat} {x:List D} (h:DTy Tryz.prog (n+3) 166 x):∃m:Dmap,(m.name.length≤9223372036854775807∧m.bits.length=64)∧x=dmapD m:=by
 unfold DTy at h
 simp only [ty166,DTy.fields] at h
 obtain ⟨a1,b1,rfl,g1,a2,b2,rfl,g2,a3,b3,rfl,g3,rfl⟩:=h
 obtain ⟨s,rfl,q1⟩:=zjD g1
 obtain ⟨u,rfl⟩:=zgO g2
 unfold DTy at g3
 simp only [ty164] at g3
 obtain ⟨parts,rfl,hl,hp⟩:=g3
 obtain ⟨l,h1,h2⟩:=ziI (fun p h'=>zgO (hp p h'))
 exact ⟨⟨s,u,l⟩,⟨q1,by rw [h2,hl]⟩,by simp [dmapD,h1]⟩
theorem zrf {n:Nat} {x:List D} (h:DTy Tryz.prog (n+4) 31 x):∃l:List Dmap,l.length≤9223372036854775807∧(∀m∈l,m.name.length≤9223372036854775807∧m.bits.length=64)∧x= [.sl 66 (l.map dmapD)]:=by
 unfold DTy at h
 simp only [ty31] at h
 obtain ⟨rows,rfl,hl,hr⟩:=h
 obtain ⟨l,rfl⟩:=zgI (e:=dmapD) (fun r h'=>(znB (hr r h')).imp fun s h=>h.2)
 refine ⟨l,by simpa using hl,fun m hm=>?_,by rw [ty166]⟩
 obtain ⟨m',h1,h2⟩:=znB (hr (dmapD m) (List.mem_map_of_mem hm))
 rw [zfs _ _ h2]
 exact h1
theorem zui {n:Nat} {x:List D} (h:DTy Tryz.prog (n+5) 33 x):∃X:Img,ImgW X∧x=imgD X:=by
 unfold DTy at h
 simp only [ty33,DTy.fields] at h
 obtain ⟨a1,b1,rfl,g1,a2,b2,rfl,g2,a3,b3,rfl,g3,a4,b4,rfl,g4,a5,b5,rfl,g5,rfl⟩:=h
 obtain ⟨d,q1,rfl⟩:=zsR g1
 unfold DTy at g2 g3
 simp only [ty27,DTy.fields] at g2
 simp only [ty30,DTy.fields] at g3
 obtain ⟨c1,e1,rfl,k1,c2,e2,rfl,k2,rfl⟩:=g2
 obtain ⟨c3,e3,rfl,k3,c4,e4,rfl,k4,rfl⟩:=g3
 obtain ⟨gu,rfl,r1,r2⟩:=ze8 k1
 obtain ⟨ho,rfl,r3,r4⟩:=ze8 k2
 unfold DTy at k3
 simp only [ty28] at k3
 obtain ⟨sq,rfl,r5,r6⟩:=k3
 obtain ⟨po,rfl,r7,r8⟩:=ze8 k4
 obtain ⟨l,q2,q3,rfl⟩:=zrf g4
 obtain ⟨br,rfl⟩:=zgO g5
 exact ⟨⟨d,⟨gu,ho⟩,⟨sq,po⟩,l,br⟩,⟨⟨q1,q2,fun m hm=>(q3 m hm).1,fun m hm=>(q3 m hm).2⟩,r5,r6,r1,r2,r3,r4,r7,r8⟩,rfl⟩
theorem zuj (X:Img):argAV Tryz.prog 33 (imgD X)=imgA X:=by simp only [argAV,ty33];rfl
theorem zuk (n:Int):argAV Tryz.prog 3 [.int .i64 n]= .d (.int .i64 n):=by simp only [argAV,ty3]
theorem zul (s:Txt):argAV Tryz.prog 9 [.str s]= .d (.str s):=by simp only [argAV,ty9]
open Go Go.Proofs
open Go Go.Proofs
open Go Go.Proofs
theorem ziF {d:Disk} {p:Plan} {t:Int} :∀ (m:Nat) (k:Int) (l:List Int),(zdz d p t m k l).1.length≤l.length+m
 |0,k,l=>Nat.le_refl _
 | m+1,k,l=>by
  rw [zdz]
  split
  ·simp
  ·refine Nat.le_trans (ziF m (k+1) _) ?_
   split
   ·simp only [List.length_append,List.length_singleton];omega
   ·omega
theorem zf7 {d:Disk} {p:Plan} {t:Int} :∀ (m:Nat) (k:Int) (l:List Int),(zeQ d p t m k l).1.length≤l.length+17*m
 |0,k,l=>Nat.le_refl _
 | m+1,k,l=>by
  rw [zeQ]
  split
  ·simp
  split
  ·simp
  split
  ·refine Nat.le_trans (zf7 m (k+1) _) ?_;omega
  split
  ·simp
  ·refine Nat.le_trans (zf7 m (k+1) _) ?_
   have:=ziF (d:=d) (p:=p) (t:=(eget d p t k).1.loc) 16 0 (l++ [(eget d p t k).1.loc])
   simp only [List.length_append,List.length_singleton] at this
   omega
theorem zkO {d:Disk} {p:Plan} {t:Int} :(reach d p t).1.length≤68:=by
 exact zf7 (d:=d) (p:=p) (t:=t) 4 0 []
open Go Go.Proofs
def shareK (d:Disk) (by_:Int):List Int→Plan→Plan×Int
 | [],q=>(q,0)
 |k::r,q=>if (radd d q k by_).2≠0 then (q,(radd d q k by_).2) else shareK d by_ r (radd d q k by_).1
def share (d:Disk) (p:Plan) (l1 by_:Int):Plan×Int:=
 if (reach d p l1).2≠0 then (p,(reach d p l1).2) else if (shareK d by_ (reach d p l1).1 p).2≠0 then (p,(shareK d by_ (reach d p l1).1 p).2) else shareK d by_ (reach d p l1).1 p
theorem DP.shareK {d:Disk} (by_:Int):∀ (l:List Int) {p:Plan},DP d p→DP d (shareK d by_ l p).1
 | [],p,h=>h
 |k::r,p,h=>by
  rw [Aw.shareK]
  split
  ·exact h
  ·exact DP.shareK by_ r (h.radd _ _)
theorem DP.share {d:Disk} {p:Plan} (h:DP d p) (l1 by_:Int):DP d (share d p l1 by_).1:=by
 unfold Aw.share
 split
 ·exact h
 split
 ·exact h
 ·exact DP.shareK _ _ h
theorem DP.setsnap {d:Disk} {p:Plan} (h:DP d p) (i:Int) (s:Snp):DP d (setsnap d p i s).1:=by
 unfold Aw.setsnap
 split
 ·exact h
 split
 ·exact h
 ·exact ⟨h.d,zfX h.p⟩
def sfind (l:List Snp) (id:Int):Int:=idxP (fun s=>id !=0&&s.id==id) l 0
def slist (d:Disk):List Snp×Int:=
 if (zA d p0).2≠0 then ([],(zA d p0).2) else if (snaps d p0).2≠0 then ([],(snaps d p0).2) else ((snaps d p0).1.filter (fun s=>s.id !=0),0)
def zfv (x:Img) (id:Int) (q:Plan×Int):Img×Int×Int:=
 if q.2≠0 then (x,0,q.2) else if (cdone x q.1).2≠0 then ((cdone x q.1).1,0,(cdone x q.1).2) else ((cdone x q.1).1,id,0)
def zfw (x:Img) (r:Root) (q:Plan×Int):Img×Int×Int:=
 if q.2≠0 then (x,0,q.2) else zfv x r.next (za7 q.1 ⟨r.l1,r.next+1⟩)
def zfx (x:Img) (name:Txt) (r:Root) (at_ k:Int) (q:Plan×Int):Img×Int×Int:=
 if q.2≠0 then (x,0,q.2) else zfw x r (setsnap x.disk q.1 at_ ⟨r.next,k,name⟩)
def zfy (x:Img) (name:Txt) (r:Root) (at_ k:Int) (q:Plan×Int):Img×Int×Int:=
 if q.2≠0 then (x,0,q.2) else zfx x name r at_ k (share x.disk q.1 r.l1 1)
def zeH (x:Img) (name:Txt) (r:Root) (at_:Int) (t:Plan×Int×Int):Img×Int×Int:=
 if t.2.2≠0 then (x,0,t.2.2) else zfy x name r at_ t.2.1 (ecopy x.disk t.1 r.l1 t.2.1)
def zbW (x:Img) (name:Txt):Img×Int×Int:=
 if x.broken then (x,0,24) else if (zA x.disk p0).2≠0 then (x,0,(zA x.disk p0).2) else if (snaps x.disk p0).2≠0 then (x,0,(snaps x.disk p0).2)
 else if zax name=false then (x,0,19) else if (snaps x.disk p0).1.any (fun s=>s.id !=0&&s.name==name) then (x,0,20)
 else if idxP (fun s=>s.id==0) (snaps x.disk p0).1 0<0 then (x,0,17) else if (zA x.disk p0).1.next=0∨(zA x.disk p0).1.next=4294967295 then (x,0,10)
 else zeH x name (zA x.disk p0).1 (idxP (fun s=>s.id==0) (snaps x.disk p0).1 0) (rtake x.disk p0 x.geom)
open Go Go.Proofs
theorem zmr (d:Disk) (p:Plan) (l1 by_:Int) (h:DP d p):AC 86 [diskA d,planA p,.d (.int .i64 l1),.d (.int .i64 by_)] (.tup [planA (share d p l1 by_).1,.d (.int .i64 (share d p l1 by_).2)]):=by
 refine fbod Tryz.func86 Tryz.ntmps86 (fun base=>?_)
 have hrl:=zkO (d:=d) (p:=p) (t:=l1)
 obtain ⟨W,hW⟩:∃W,W=reach d p l1:=⟨_,rfl⟩
 rw [← hW] at hrl
 have hsh:share d p l1 by_=if W.2≠0 then (p,W.2) else if (shareK d by_ W.1 p).2≠0 then (p,(shareK d by_ W.1 p).2) else shareK d by_ W.1 p:=by rw [share,hW]
 (have tk:=za zdV <| za zK <| zb Tryz.prog;have fx:=hW.symm;repeat' (first|(refine hK _ ?_;clear hK K)|refine wa fun K hK=>?_|refine wb ?_|refine wc ?_ ?_|exact we|refine fun (hc:_=(_:Bool))=>?_|clear hK K))
 ·rw [hsh,if_pos (bneP hc)]
 rw [if_neg (bneN hc)] at hsh
 refine zo (fun q: { q:Nat×Plan // q.1≤W.1.length∧DP d q.2∧shareK d by_ W.1 p=shareK d by_ (W.1.drop q.1) q.2 } =>⟨[(3,true,.d (.int .i64 by_)),(4,true,.vp 0 0),(5,true,.vp 1 0),(8,true,.vp 2 0),(10,true,.d (.sl 1 (W.1.map intD))),(12,true,.vp 3 0),(13,true,.d (.int .i64 q.1.1))],[(3,(.var [.d (.sl 1 (q.1.2.targets.map intD)),.d (.sl 1 (q.1.2.texts.map strD))])),(2,.var [.nils 1,.nils 1]),(1,(.var [.d (.sl 1 (p.targets.map intD)),.d (.sl 1 (p.texts.map strD))])),(0,(.var [.d (.str d.data),.d (.sl 2 (d.cache.map putD)),.d (.int .i64 d.fuse),.d (.bool d.off),.d (.sl 1 (d.bad.map intD))]))],some []⟩) (fun q=>W.1.length - q.1.1) ⟨(0,p),Nat.zero_le _,h,rfl⟩ le1 (fun q=>?_)
 obtain ⟨⟨i,q⟩,hi,hp,ht⟩:=q
 simp only at hi hp ht ⊢
 rcases zT intD W.1 i hi with ⟨u,hq,hlt,hcmp,hrow,hdr,htk⟩|⟨hend,hcmp⟩
 ·simp only [intD] at hrow
  have hwi:=zp (i:=i) (by omega)
  rw [hdr,shareK] at ht
  have hpn:=hp.radd u by_
  obtain ⟨A,hA⟩:∃A,A=radd d q u by_:=⟨_,rfl⟩
  rw [← hA] at ht hpn
  (have tk:=za zdV <| za zK <| zb Tryz.prog;have fx:=(⟨hcmp,hrow,hA.symm⟩:_∧_∧_);repeat' (first|(refine hK _ ?_;clear hK K)|refine va fun K hK=>?_|refine vb ?_|refine wc ?_ ?_|exact we|refine fun (hc:_=(_:Bool))=>?_|clear hK K))
  ·rw [if_pos (bneP hc)] at ht
   rw [hsh,ht,if_pos (bneP hc)]
  ·rw [if_neg (bneN hc)] at ht
   exact ⟨⟨(i+1,A.1),by omega,hpn,ht⟩,lew,by simp;omega⟩
 ·rw [hend,List.drop_length] at ht
  rw [ht,if_neg (by simp [shareK])] at hsh
  (have tk:=za zdV <| za zK <| zb Tryz.prog;have fx:=hcmp;repeat' (first|(refine hK _ ?_;clear hK K)|refine wa fun K hK=>?_|refine wb ?_|refine wc ?_ ?_|exact we|refine fun (hc:_=(_:Bool))=>?_|clear hK K))
  rw [hsh]
  rfl
@[go_sem] noncomputable def zE:Ent Tryz.prog 86:= .m4 zq zw (intT .i64) (intT .i64) zmr
open Go Go.Proofs
def sbeg (d:Disk):Root×List Snp×Int:=((zA d p0).1,if (zA d p0).2≠0 then ([],(zA d p0).2) else snaps d p0)
theorem zms (x:Img) (h:ImgF x):AC 71 [imgA x] (.tup [rootA (sbeg x.disk).1,.d (.sl 3 ((sbeg x.disk).2.1.map snpD)),.d (.int .i64 (sbeg x.disk).2.2)]):=by
 refine fbod Tryz.func71 Tryz.ntmps71 (fun base=>?_)
 have hdp:DP x.disk p0:=⟨h.disk,zdc⟩
 obtain ⟨R,hR⟩:∃R,R=zA x.disk p0:=⟨_,rfl⟩
 obtain ⟨L,hL⟩:∃L,L=snaps x.disk p0:=⟨_,rfl⟩
 have hs:sbeg x.disk=(R.1,if R.2≠0 then ([],R.2) else L):=by rw [sbeg,hR,hL]
 (have tk:=za zag <| za zjy <| zb Tryz.prog;have fx:=(⟨hR.symm,hL.symm⟩:_∧_);repeat' (first|(refine hK _ ?_;clear hK K)|refine wa fun K hK=>?_|refine wb ?_|refine wc ?_ ?_|refine fun (nb:Bool) (hnb:nb=true→_)=>?_|exact we|refine fun (hc:_=(_:Bool))=>?_|clear hK K))
 ·rw [hs,if_pos (bneP hc)]
  rfl
 ·rw [hs,if_neg (bneN hc)]
@[go_sem] noncomputable def zF:Ent Tryz.prog 71:= .m1 zbp zms
theorem zoJ (l:List Snp) (id:Int) (hl:l.length≤9223372036854775807):AC 91 [.d (.sl 3 (l.map snpD)),.d (.int .u32 id)] (.d (.int .i64 (sfind l id))):=by
 refine fbod Tryz.func91 Tryz.ntmps91 (fun base=>?_)
 (repeat' (first|(refine hK _ ?_;clear hK K)|refine wa fun K hK=>?_|refine wb ?_|refine wc ?_ ?_|exact we|refine fun (hc:_=(_:Bool))=>?_|clear hK K))
 refine zo (fun q:Idst (fun s=>id !=0&&s.id==id) l=>⟨[(0,true,.d (.sl 3 (l.map snpD))),(1,true,.d (.int .u32 id)),(5,true,.d (.int .i64 q.1))],[],some []⟩) (fun q=>l.length - q.1) ⟨0,Nat.zero_le _,rfl⟩ le0 (fun q=>?_)
 obtain ⟨i,hi,hf⟩:=q
 simp only at hi hf ⊢
 have hsf:sfind l id=idxP (fun s=>id !=0&&s.id==id) (l.drop i) i:=hf
 rcases zT snpD l i hi with ⟨u,hq,hlt,hcmp,hrow,hdr,htk⟩|⟨hend,hcmp⟩
 ·simp only [snpD] at hrow
  have hwi:=zp (i:=i) (by omega)
  rw [hdr,idxP] at hsf
  cases hb:(id !=0&&u.id==id) with
  |true=>
   (have fx:=(⟨hcmp,hrow,hb⟩:_∧_∧_);repeat' (first|(refine hK _ ?_;clear hK K)|refine wa fun K hK=>?_|refine wb ?_|refine wc ?_ ?_|exact we|refine fun (hc:_=(_:Bool))=>?_|clear hK K))
   rw [hsf,hb]
   rfl
  |false=>
   (have fx:=(⟨hcmp,hrow,hb⟩:_∧_∧_);repeat' (first|(refine hK _ ?_;clear hK K)|refine wa fun K hK=>?_|refine wb ?_|refine wc ?_ ?_|exact we|refine fun (hc:_=(_:Bool))=>?_|clear hK K))
   exact ⟨⟨i+1,by omega,by rw [hf,hdr,idxP,hb];rfl⟩,lew,by simp;omega⟩
 ·(have fx:=hcmp;repeat' (first|(refine hK _ ?_;clear hK K)|refine wa fun K hK=>?_|refine wb ?_|refine wc ?_ ?_|exact we|refine fun (hc:_=(_:Bool))=>?_|clear hK K))
  rw [hsf,hend,List.drop_length]
  rfl
@[go_sem] noncomputable def z7:Ent Tryz.prog 91:= .m2 (slT 3 snpD zdf) (intT .u32) zoJ
theorem zoK {l:List Snp} {P:Snp→Bool} {i:Nat} {s:Snp} (hq:l[i]?=some s):idxP P (l.take (i+1)) 0=if idxP P (l.take i) 0<0 then (if P s then (i:Int) else -1) else idxP P (l.take i) 0:=by
 have hi:i<l.length:=(List.getElem?_eq_some_iff.1 hq).1
 have hg:∀ (m:List Snp) (n:Nat),idxP P (m++ [s]) n=if idxP P m n<0 then (if P s then ((n+m.length:Nat):Int) else -1) else idxP P m n:=by
  intro m
  induction m with
  |nil=>intro n;simp [idxP]
  | cons y m ih=>
   intro n
   rw [List.cons_append]
   by_cases hy:P y=true
   ·have e1:idxP P (y::(m++ [s])) n=n:=by simp [idxP,hy]
    have e2:idxP P (y::m) n=n:=by simp [idxP,hy]
    rw [e1,e2,if_neg (by omega)]
   ·have e1:idxP P (y::(m++ [s])) n=idxP P (m++ [s]) (n+1):=by simp [idxP,hy]
    have e2:idxP P (y::m) n=idxP P m (n+1):=by simp [idxP,hy]
    rw [e1,e2,ih (n+1),List.length_cons,show n+1+m.length=n+(m.length+1) by omega]
 rw [zaZ hq,hg,Nat.zero_add,List.length_take,Nat.min_eq_left (by omega)]
theorem ze5 (d:Disk) (p:Plan):0≤(zA d p).1.l1∧(zA d p).1.l1≤65535∧0≤(zA d p).1.next∧(zA d p).1.next≤4294967295:=by
 unfold zA
 split
 ·simp
 ·unfold rootT
  repeat' split
  all_goals first|decide|exact zfZ _
theorem ze6 {p:Plan} {r:Root} (hp:pfit p=true):pfit (za7 p r).1=true:=by
 unfold za7
 split
 ·exact hp
 ·exact zda hp
def zfz (x:Img) (name:Txt) (R:Root) (L:List Snp):Img×Int×Int:=
 if zax name=false then (x,0,19) else if L.any (fun s=>s.id !=0&&s.name==name) then (x,0,20)
 else if idxP (fun s=>s.id==0) L 0<0 then (x,0,17) else if R.next=0∨R.next=4294967295 then (x,0,10)
 else zeH x name R (idxP (fun s=>s.id==0) L 0) (rtake x.disk p0 x.geom)
theorem zhK (x:Img) (name:Txt):zbW x name=if x.broken then (x,0,24) else if (sbeg x.disk).2.2≠0 then (x,0,(sbeg x.disk).2.2) else zfz x name (sbeg x.disk).1 (sbeg x.disk).2.1:=by
 unfold zbW sbeg zfz
 by_cases h1:(zA x.disk p0).2=0
 ·simp only [h1,ne_eq,not_true_eq_false,if_false]
 ·simp only [h1,ne_eq,not_false_eq_true,if_true]
theorem zdX (d:Disk):(sbeg d).2.1.length≤8:=by
 unfold sbeg
 simp only
 split
 ·exact Nat.zero_le _
 ·exact zqk
theorem zkP (x:Img) (name:Txt) (hp:ImgF x∧name.length≤9223372036854775807):AC 29 [imgA x,.d (.str name)] (.tup [imgA (zbW x name).1,.d (.int .u32 (zbW x name).2.1),.d (.int .i64 (zbW x name).2.2)]):=by
 obtain ⟨h,hn⟩:=hp
 refine fbod Tryz.func29 Tryz.ntmps29 (fun base=>?_)
 have hdp:DP x.disk p0:=⟨h.disk,zdc⟩
 have hho:=h.host
 have hiok:=h.ok
 have hdok:=h.disk
 have hq0:=h.seq0
 have hq1:=h.seq1
 have hLl:=zdX x.disk
 have hRr:0≤(sbeg x.disk).1.next∧(sbeg x.disk).1.next≤4294967295:=(ze5 x.disk p0).2.2
 obtain ⟨R,hR⟩:∃R,R=(sbeg x.disk).1:=⟨_,rfl⟩
 obtain ⟨L,hL⟩:∃L,L=(sbeg x.disk).2.1:=⟨_,rfl⟩
 obtain ⟨E,hE⟩:∃E,E=(sbeg x.disk).2.2:=⟨_,rfl⟩
 obtain ⟨Z,hZ⟩:∃Z,Z=zbW x name:=⟨_,rfl⟩
 have hZ2:=hZ
 rw [zhK,← hR,← hL,← hE] at hZ2
 rw [← hL] at hLl
 rw [← hR] at hRr
 (have tk:=za zF <| za zN <| za zO <| za zG <| za zE <| za zt <| za zbD <| za zn <| zb Tryz.prog;have fx:=(⟨hR.symm,hL.symm,hE.symm,hZ.symm⟩:_∧_∧_∧_);repeat' (first|(refine hK _ ?_;clear hK K)|refine wa fun K hK=>?_|refine wb ?_|refine wc ?_ ?_|exact we|refine fun (hc:_=(_:Bool))=>?_|clear hK K))
 ·rw [hZ2,if_pos hc]
 ·rename_i h0
  rw [hZ2,if_neg (by rw [h0];decide),if_pos (bneP hc)]
 ·rename_i h0 h1
  rw [hZ2,if_neg (by rw [h0];decide),if_neg (bneN h1),zfz,if_pos (by simpa using hc)]
 rename_i h1 h2
 rw [if_neg (by rw [h1];decide),if_neg (bneN h2),zfz,if_neg (by rw [Bool.not_eq_false'] at hc;rw [hc];decide)] at hZ2
 obtain ⟨I,hI⟩:∃I:Int,I=idxP (fun s=>s.id==0) L 0:=⟨_,rfl⟩
 rw [← hI] at hZ2
 refine zo (fun q: { i:Nat // i≤L.length∧L.any (fun s=>s.id !=0&&s.name==name)=(L.drop i).any (fun s=>s.id !=0&&s.name==name) } =>⟨[(1,true,.d (.str name)),(2,true,.vp 0 0),(4,true,.vp 1 0),(7,true,.vp 2 0),(8,true,.d (.sl 3 (L.map snpD))),(10,true,.d (.int .i64 (idxP (fun s=>s.id==0) (L.take q.1) 0))),(11,true,.d (.int .i64 q.1))],[(2,.var [.d (.int .i64 R.l1),.d (.int .u32 R.next)]),(1,.var img0),(0,.var (imgV x))],some []⟩) (fun q=>L.length - q.1) ⟨0,Nat.zero_le _,rfl⟩ (by simp only [AS.le,leT,leH,zc,AsgK,AV.le,AV.leL,AObj.le,inH,idsT,idsH,AV.ids,AV.idsL,AV.idsR,AObj.ids,lk,hget,go_sem,aeq,aeq.aeqF,simprocAttr,idxP]<;>and_intros<;>rfl) (fun q=>?_)
 obtain ⟨i,hi,ht⟩:=q
 simp only at hi ht ⊢
 rcases zT snpD L i hi with ⟨u,hq,hlt,hcmp,hrow,hdr,htk⟩|⟨hend,hcmp⟩
 ·simp only [snpD] at hrow
  have hwi:=zp (i:=i) (by omega)
  have hsn:=zoK (P:=fun s=>s.id==0) hq
  rw [hdr,List.any_cons] at ht
  obtain ⟨k,hk⟩:∃k,k=idxP (fun s=>s.id==0) (L.take i) 0:=⟨_,rfl⟩
  rw [← hk] at hsn ⊢
  cases hb:(u.id !=0&&u.name==name) with
  |true=>
   rw [hb,Bool.true_or] at ht
   (have tk:=za zF <| za zN <| za zO <| za zG <| za zE <| za zt <| za zbD <| za zn <| zb Tryz.prog;have fx:=(⟨hcmp,hrow,hb,hZ.symm⟩:_∧_∧_∧_);repeat' (first|(refine hK _ ?_;clear hK K)|refine wa fun K hK=>?_|refine wb ?_|refine wc ?_ ?_|exact we|refine fun (hc:_=(_:Bool))=>?_|clear hK K))
   rw [hZ2,if_pos ht]
  | false=>
   rw [hb,Bool.false_or] at ht
   cases hb2:(u.id==0&&decide (k<0)) with
   | true=>
    have hk2:idxP (fun s=>s.id==0) (L.take (i+1)) 0=i:=by
     rw [Bool.and_eq_true,decide_eq_true_eq] at hb2
     rw [hsn,if_pos hb2.2,if_pos hb2.1]
    (have tk:=za zF <| za zN <| za zO <| za zG <| za zE <| za zt <| za zbD <| za zn <| zb Tryz.prog;have fx:=(⟨hcmp,hrow,hb,hb2⟩:_∧_∧_∧_);repeat' (first|(refine hK _ ?_;clear hK K)|refine wa fun K hK=>?_|refine wb ?_|refine wc ?_ ?_|exact we|refine fun (hc:_=(_:Bool))=>?_|clear hK K))
    exact ⟨⟨i+1,by omega,ht⟩,by simp only [hk2];simp only [AS.le,leT,leH,zc,AsgK,AV.le,AV.leL,AObj.le,inH,idsT,idsH,AV.ids,AV.idsL,AV.idsR,AObj.ids,lk,hget,go_sem,aeq,aeq.aeqF,simprocAttr,hwi],by simp;omega⟩
   | false=>
    have hk2:idxP (fun s=>s.id==0) (L.take (i+1)) 0=k:=by
     rw [hsn]
     by_cases hk0:k<0
     ·rw [if_pos hk0,if_neg (by rw [decide_eq_true hk0,Bool.and_true] at hb2;rw [hb2];decide)]
      rcases zdw (fun s:Snp=>s.id==0) (L.take i) 0 with hh|hh<;>omega
     ·rw [if_neg hk0]
    (have tk:=za zF <| za zN <| za zO <| za zG <| za zE <| za zt <| za zbD <| za zn <| zb Tryz.prog;have fx:=(⟨hcmp,hrow,hb,hb2⟩:_∧_∧_∧_);repeat' (first|(refine hK _ ?_;clear hK K)|refine wa fun K hK=>?_|refine wb ?_|refine wc ?_ ?_|exact we|refine fun (hc:_=(_:Bool))=>?_|clear hK K))
    exact ⟨⟨i+1,by omega,ht⟩,by simp only [hk2];simp only [AS.le,leT,leH,zc,AsgK,AV.le,AV.leL,AObj.le,inH,idsT,idsH,AV.ids,AV.idsL,AV.idsR,AObj.ids,lk,hget,go_sem,aeq,aeq.aeqF,simprocAttr,hwi],by simp;omega⟩
 rw [hend,List.drop_length] at ht
 rw [if_neg (by rw [ht];simp)] at hZ2
 rw [hend] at hcmp
 rw [hend,List.take_length,← hI]
 clear hI ht hi hend
 obtain ⟨T,hT⟩:∃T,T=rtake x.disk p0 x.geom:=⟨_,rfl⟩
 have hd1:DP x.disk T.1:=by rw [hT];exact hdp.rtake _
 rw [← hT,zeH] at hZ2
 obtain ⟨C,hC⟩:∃C,C=ecopy x.disk T.1 R.l1 T.2.1:=⟨_,rfl⟩
 have hd2:DP x.disk C.1:=by rw [hC];exact hd1.ecopy _ _
 rw [← hC,zfy] at hZ2
 obtain ⟨S,hS⟩:∃S,S=share x.disk C.1 R.l1 1:=⟨_,rfl⟩
 have hd3:DP x.disk S.1:=by rw [hS];exact hd2.share _ _
 rw [← hS,zfx] at hZ2
 obtain ⟨P,hP⟩:∃P,P=setsnap x.disk S.1 I ⟨R.next,T.2.1,name⟩:=⟨_,rfl⟩
 have hd4:DP x.disk P.1:=by rw [hP];exact hd3.setsnap _ _
 rw [← hP,zfw] at hZ2
 obtain ⟨Q,hQ⟩:∃Q,Q=za7 P.1 ⟨R.l1,R.next+1⟩:=⟨_,rfl⟩
 have hd5:pfit Q.1=true:=by rw [hQ];exact ze6 hd4.p
 have hd4p:=hd4.p
 rw [← hQ,zfv] at hZ2
 obtain ⟨D,hD⟩:∃D,D=cdone x Q.1:=⟨_,rfl⟩
 rw [← hD] at hZ2
 (have tk:=za zF <| za zN <| za zO <| za zG <| za zE <| za zt <| za zbD <| za zn <| zb Tryz.prog;have fx:=(⟨hcmp,hZ.symm⟩:_∧_);repeat' ((fail_if_success refine hds 20 (by rfl) ?_);first|(refine hK _ ?_;clear hK K)|refine wa fun K hK=>?_|refine wb ?_|refine wc ?_ ?_|exact we|refine fun (hc:_=(_:Bool))=>?_|clear hK K))
 ·rw [hZ2,if_pos (of_decide_eq_true hc)]
 ·rename_i h3
  rw [hZ2,if_neg (of_decide_eq_false h3),if_pos (by simpa using hc)]
 rename_i h3
 have hnx:R.next≠0∧R.next≠4294967295:=by simpa using hc
 have hwn:IntKind.u32.wrap (R.next+1)=R.next+1:=zeD (by omega) (by omega)
 rw [if_neg (of_decide_eq_false h3),if_neg (by omega)] at hZ2
 (have tk:=za zF <| za zN <| za zO <| za zG <| za zE <| za zt <| za zbD <| za zn <| zb Tryz.prog;have fx:=(⟨hT.symm,hC.symm,hS.symm,hP.symm,hQ.symm,hD.symm,hZ.symm,hwn⟩:_∧_∧_∧_∧_∧_∧_∧_);repeat' (first|(refine hK _ ?_;clear hK K)|refine wa fun K hK=>?_|refine wb ?_|refine wc ?_ ?_|exact we|refine fun (hc:_=(_:Bool))=>?_|clear hK K))
 all_goals first|omega|skip
 all_goals rw [hZ2]
 all_goals (refine (show (_:AV)=_ from ?_));(repeat (first|(rewrite [if_pos];rotate_left;(first|exact bneP (by assumption)|exact beqP (by assumption)|exact of_decide_eq_true (by assumption)|assumption))|(rewrite [if_neg];rotate_left;(first|exact bneN (by assumption)|exact beqN (by assumption)|exact of_decide_eq_false (by assumption)|assumption))))
 all_goals rfl
@[go_sem] noncomputable def zeR:Ent Tryz.prog 29:= .m2 zbp strT zkP
open Go Go.Proofs
theorem zsD (d:Disk):∀s∈(sbeg d).2.1,zno s:=by
 unfold sbeg
 simp only
 split
 ·intro s hs;cases hs
 ·exact zql
theorem zhL (d:Disk):slist d=if (sbeg d).2.2≠0 then ([],(sbeg d).2.2) else ((sbeg d).2.1.filter (fun s=>s.id !=0),0):=by
 unfold slist sbeg
 by_cases h1:(zA d p0).2=0
 ·simp only [h1,ne_eq,not_true_eq_false,if_false]
 ·simp only [h1,ne_eq,not_false_eq_true,if_true]
theorem zoL (x:Img) (h:ImgF x):AC 27 [imgA x] (.tup [.d (.sl 3 ((slist x.disk).1.map snpD)),.d (.int .i64 (slist x.disk).2)]):=by
 refine fbod Tryz.func27 Tryz.ntmps27 (fun base=>?_)
 have hLl:=zdX x.disk
 have hs:=zhL x.disk
 obtain ⟨L,hL⟩:∃L,L=(sbeg x.disk).2.1:=⟨_,rfl⟩
 obtain ⟨e,hE⟩:∃e,e=(sbeg x.disk).2.2:=⟨_,rfl⟩
 rw [← hL,← hE] at hs
 rw [← hL] at hLl
 (have tk:=za zF <| za z7 <| za zE <| za zK <| za zt <| za zn <| za zG <| za zu <| za zr <| zb Tryz.prog;have fx:=(⟨hL.symm,hE.symm⟩:_∧_);repeat' (first|(refine hK _ ?_;clear hK K)|refine wa fun K hK=>?_|refine wb ?_|refine wc ?_ ?_|refine fun (nb:Bool) (hnb:nb=true→_)=>?_|exact we|refine fun (hc:_=(_:Bool))=>?_|clear hK K))
 refine zcd 7 3 rfl ?_
 simp only [fresh,top,hget, ↓reduceIte]
 refine zo (fun q: { q:Nat×List Snp // q.1≤L.length∧(e≠0→q.1=0)∧q.2=(L.take q.1).filter (fun s=>s.id !=0) } =>⟨[(5,true,.d (.sl 3 (L.map snpD))),(6,true,.d (.int .i64 e)),(7,true,.osl 2 3 q.1.2.length 0 q.1.2.length),(8,true,.d (.int .i64 q.1.1))],[(2,.arr 3 (q.1.2.map snpD))],some []⟩) (fun q=>L.length - q.1.1) ⟨(0,[]),Nat.zero_le _,fun _=>rfl,rfl⟩ le1 (fun q=>?_)
 obtain ⟨⟨i,l⟩,hi,h0,hl⟩:=q
 simp only at hi h0 hl ⊢
 have hlm:l.length=(l.map snpD).length:=by rw [List.length_map]
 have htk:List.take l.length (l.map snpD)=l.map snpD:=List.take_of_length_le (by simp)
 by_cases he:e=0
 ·have hb:(e==0)=true:=by simpa using he
  rcases zT snpD L i hi with ⟨u,hq,hlt,hcmp,hrow,hdr,ht⟩|⟨hend,hcmp⟩
  ·simp only [snpD] at hrow
   have hwi:=zp (i:=i) (by omega)
   cases hz:(u.id !=0) with
   |true=>
    have hll:l.length≤i:=by rw [hl];exact Nat.le_trans (List.length_filter_le ..) (by rw [List.length_take];omega)
    (have tk:=za zF <| za z7 <| za zE <| za zK <| za zt <| za zn <| za zG <| za zu <| za zr <| zb Tryz.prog);repeat' (first|((first|(refine sa ?_;intro K hK)|refine sb ?_);simp only [go_sem,aeq,aeq.aeqF,simprocAttr,hcmp,hb,hrow,hz,hlm.symm,htk,Tryz.results27])|refine zj (fun K hK=>?_)|refine sc ?_|refine zi rfl (fun hc=>?_) (fun hc=>?_)|(refine hK _ ?_;clear hK K)|refine fun (nb:Bool) (hnb:nb=true→_)=>?_|with_reducible refine And.intro ?_ ?_|omega|assumption|refine fun (hg:(_:Bool)=(_:Bool))=>?_|clear hK K)
    all_goals first|omega|skip
    exact ⟨⟨(i+1,l++ [u]),by omega,fun h=>absurd he h,by rw [ht,List.filter_append,← hl];simp [List.filter,hz]⟩,by simp only [List.map_append];simp only [AS.le,leT,leH,zc,AsgK,AV.le,AV.leL,AObj.le,inH,idsT,idsH,AV.ids,AV.idsL,AV.idsR,AObj.ids,lk,hget,go_sem,aeq,aeq.aeqF,simprocAttr,hwi,List.length_append,List.length_cons,List.length_nil]<;>and_intros<;>rfl,by simp;omega⟩
   |false=>
    (have tk:=za zF <| za z7 <| za zE <| za zK <| za zt <| za zn <| za zG <| za zu <| za zr <| zb Tryz.prog;have fx:=(⟨hcmp,hb,hrow,hz⟩:_∧_∧_∧_);repeat' (first|(refine hK _ ?_;clear hK K)|refine wa fun K hK=>?_|refine wb ?_|refine wc ?_ ?_|refine fun (nb:Bool) (hnb:nb=true→_)=>?_|exact we|refine fun (hc:_=(_:Bool))=>?_|clear hK K))
    exact ⟨⟨(i+1,l),by omega,fun h=>absurd he h,by rw [ht,List.filter_append,← hl];simp [List.filter,hz]⟩,lev,by simp;omega⟩
  ·(have tk:=za zF <| za z7 <| za zE <| za zK <| za zt <| za zn <| za zG <| za zu <| za zr <| zb Tryz.prog);repeat' (first|((first|(refine sa ?_;intro K hK)|refine sb ?_);simp only [go_sem,aeq,aeq.aeqF,simprocAttr,hcmp,hlm.symm,htk,Tryz.results27])|refine zj (fun K hK=>?_)|refine sc ?_|refine zi rfl (fun hc=>?_) (fun hc=>?_)|(refine hK _ ?_;clear hK K)|refine fun (nb:Bool) (hnb:nb=true→_)=>?_|with_reducible refine And.intro ?_ ?_|omega|assumption|refine fun (hg:(_:Bool)=(_:Bool))=>?_|clear hK K)
   rw [hs,if_neg (by omega),hl,hend,List.take_length,he]
 ·have hb:(e==0)=false:=by simpa using he
  have hi0:=h0 he
  subst hi0
  have hl0:l= []:=by rw [hl];rfl
  subst hl0
  (have tk:=za zF <| za z7 <| za zE <| za zK <| za zt <| za zn <| za zG <| za zu <| za zr <| zb Tryz.prog;have fx:=hb;repeat' (first|(refine hK _ ?_;clear hK K)|refine wa fun K hK=>?_|refine wb ?_|refine wc ?_ ?_|refine fun (nb:Bool) (hnb:nb=true→_)=>?_|exact we|refine fun (hc:_=(_:Bool))=>?_|clear hK K))
  all_goals rw [hs,if_pos he]
  all_goals rfl
@[go_sem] noncomputable def zgw:Ent Tryz.prog 27:= .m1 zbp zoL
def snpAt (l:List Snp) (i:Int):Snp:=l.getD i.toNat snp0
theorem zgN {l:List Snp} {id:Int} (h:0≤sfind l id):∃u,l[(sfind l id).toNat]?=some u∧snpAt l (sfind l id)=u∧(sfind l id).toNat<l.length∧sfind l id=((sfind l id).toNat:Nat):=by
 rcases zdw (fun s:Snp=>id !=0&&s.id==id) l 0 with hh|hh
 ·unfold sfind at h;omega
 ·have hlt:(sfind l id).toNat<l.length:=by unfold sfind;omega
  obtain ⟨u,hu⟩:=zaj hlt
  exact ⟨u,hu,by rw [snpAt,List.getD_eq_getElem?_getD,hu];rfl,hlt,by omega⟩
def sdelC (x:Img) (q:Plan×Int):Img×Int:=if q.2≠0 then (x,q.2) else cdone x q.1
def sdelB (x:Img) (i:Int) (q:Plan×Int):Img×Int:=if q.2≠0 then (x,q.2) else sdelC x (setsnap x.disk q.1 i snp0)
def sdelA (x:Img) (i k:Int) (q:Plan×Int):Img×Int:=if q.2≠0 then (x,q.2) else sdelB x i (radd x.disk q.1 k (-1))
def zdl (x:Img) (id:Int):Img×Int:=
 if x.broken then (x,24) else if (sbeg x.disk).2.2≠0 then (x,(sbeg x.disk).2.2) else if sfind (sbeg x.disk).2.1 id<0 then (x,21)
 else sdelA x (sfind (sbeg x.disk).2.1 id) (snpAt (sbeg x.disk).2.1 (sfind (sbeg x.disk).2.1 id)).l1 (share x.disk p0 (snpAt (sbeg x.disk).2.1 (sfind (sbeg x.disk).2.1 id)).l1 (-1))
theorem zkQ (x:Img) (id:Int) (h:ImgF x):AC 31 [imgA x,.d (.int .u32 id)] (.tup [imgA (zdl x id).1,.d (.int .i64 (zdl x id).2)]):=by
 refine fbod Tryz.func31 Tryz.ntmps31 (fun base=>?_)
 have hdp:DP x.disk p0:=⟨h.disk,zdc⟩
 have hiok:=h.ok
 have hdok:=h.disk
 have hq0:=h.seq0
 have hq1:=h.seq1
 have hLl:=zdX x.disk
 obtain ⟨L,hL⟩:∃L,L=(sbeg x.disk).2.1:=⟨_,rfl⟩
 obtain ⟨e,hE⟩:∃e,e=(sbeg x.disk).2.2:=⟨_,rfl⟩
 obtain ⟨Z,hZ⟩:∃Z,Z=zdl x id:=⟨_,rfl⟩
 have hZ2:=hZ
 rw [zdl,← hL,← hE] at hZ2
 rw [← hL] at hLl
 obtain ⟨J,hJ⟩:∃J,J=sfind L id:=⟨_,rfl⟩
 have hat:=zgN (l:=L) (id:=id)
 rw [← hJ] at hZ2 hat
 (have tk:=za zF <| za z7 <| za zE <| za zK <| za zt <| za zn <| za zG <| za zu <| za zr <| zb Tryz.prog;have fx:=(⟨hL.symm,hE.symm,hZ.symm,hJ.symm⟩:_∧_∧_∧_);repeat' ((fail_if_success refine hds 9 (by rfl) ?_);first|(refine hK _ ?_;clear hK K)|refine wa fun K hK=>?_|refine wb ?_|refine wc ?_ ?_|exact we|refine fun (hc:_=(_:Bool))=>?_|clear hK K))
 ·rw [hZ2,if_pos hc]
 ·rename_i h0
  rw [hZ2,if_neg (by rw [h0];decide),if_pos (bneP hc)]
 ·rename_i h0 h1
  rw [hZ2,if_neg (by rw [h0];decide),if_neg (bneN h1),if_pos (of_decide_eq_true hc)]
 rename_i h1 h2
 have hJ0:0≤J:=by simpa using hc
 rw [if_neg (by rw [h1];decide),if_neg (bneN h2),if_neg (by omega)] at hZ2
 obtain ⟨u,hq,hu,hlt,hJn⟩:=hat hJ0
 rw [hu] at hZ2
 obtain ⟨n,hn⟩:∃n:Nat,n=J.toNat:=⟨_,rfl⟩
 rw [← hn] at hq hlt hJn
 subst hJn
 have hrow:=za8 (g:=snpD) hq
 simp only [snpD] at hrow
 obtain ⟨S,hS⟩:∃S,S=share x.disk p0 u.l1 (-1):=⟨_,rfl⟩
 have hd1:DP x.disk S.1:=by rw [hS];exact hdp.share _ _
 rw [← hS,sdelA] at hZ2
 obtain ⟨A,hA⟩:∃A,A=radd x.disk S.1 u.l1 (-1):=⟨_,rfl⟩
 have hd2:DP x.disk A.1:=by rw [hA];exact hd1.radd _ _
 rw [← hA,sdelB] at hZ2
 obtain ⟨B,hB⟩:∃B,B=setsnap x.disk A.1 n snp0:=⟨_,rfl⟩
 have hd3:DP x.disk B.1:=by rw [hB];exact hd2.setsnap _ _
 have hd3p:=hd3.p
 rw [← hB,sdelC] at hZ2
 obtain ⟨D,hD⟩:∃D,D=cdone x B.1:=⟨_,rfl⟩
 rw [← hD] at hZ2
 rw [snp0] at hB
 (have tk:=za zF <| za z7 <| za zE <| za zK <| za zt <| za zn <| za zG <| za zu <| za zr <| zb Tryz.prog;have fx:=(⟨hrow,@Int.toNat_natCast,hS.symm,hA.symm,hB.symm,hD.symm,hZ.symm⟩:_∧_∧_∧_∧_∧_∧_);repeat' (first|(refine hK _ ?_;clear hK K)|refine va fun K hK=>?_|refine vb ?_|refine wc ?_ ?_|exact we|refine fun (hc:_=(_:Bool))=>?_|clear hK K))
 all_goals first|omega|skip
 all_goals rw [hZ2]
 all_goals (refine (show (_:AV)=_ from ?_));(repeat (first|(rewrite [if_pos];rotate_left;(first|exact bneP (by assumption)|exact beqP (by assumption)|exact of_decide_eq_true (by assumption)|assumption))|(rewrite [if_neg];rotate_left;(first|exact bneN (by assumption)|exact beqN (by assumption)|exact of_decide_eq_false (by assumption)|assumption))))
 all_goals rfl
@[go_sem] noncomputable def zeS:Ent Tryz.prog 31:= .m2 zbp (intT .u32) zkQ
def zdE (x:Img):Nat→Img
 |0=>x
 |n+1=>cmark (zdE x n) n
def srevC (x:Img) (q:Img×Int):Img×Int:=if q.2≠0 then (q.1,q.2) else (zdE q.1 64,0)
def srevB (x:Img) (q:Plan×Int):Img×Int:=if q.2≠0 then (x,q.2) else srevC x (cdone x q.1)
def srevA (x:Img) (k r:Int) (q:Plan×Int):Img×Int:=if q.2≠0 then (x,q.2) else srevB x (ecopy x.disk q.1 k r)
def srev0 (x:Img) (k r:Int) (q:Plan×Int):Img×Int:=if q.2≠0 then (x,q.2) else srevA x k r (share x.disk q.1 r (-1))
def zct (x:Img) (id:Int):Img×Int:=
 if x.broken then (x,24) else if (sbeg x.disk).2.2≠0 then (x,(sbeg x.disk).2.2) else if sfind (sbeg x.disk).2.1 id<0 then (x,21)
 else srev0 x (snpAt (sbeg x.disk).2.1 (sfind (sbeg x.disk).2.1 id)).l1 (sbeg x.disk).1.l1 (share x.disk p0 (snpAt (sbeg x.disk).2.1 (sfind (sbeg x.disk).2.1 id)).l1 1)
theorem ImgF.marks {x:Img} (h:ImgF x):∀n,ImgF (zdE x n)
 |0=>h
 |n+1=>(ImgF.marks h n).mark n
theorem zkR (x:Img) (id:Int) (h:ImgF x):AC 33 [imgA x,.d (.int .u32 id)] (.tup [imgA (zct x id).1,.d (.int .i64 (zct x id).2)]):=by
 refine fbod Tryz.func33 Tryz.ntmps33 (fun base=>?_)
 have hdp:DP x.disk p0:=⟨h.disk,zdc⟩
 have hiok:=h.ok
 have hdok:=h.disk
 have hq0:=h.seq0
 have hq1:=h.seq1
 have hLl:=zdX x.disk
 obtain ⟨R,hR⟩:∃R,R=(sbeg x.disk).1:=⟨_,rfl⟩
 obtain ⟨L,hL⟩:∃L,L=(sbeg x.disk).2.1:=⟨_,rfl⟩
 obtain ⟨e,hE⟩:∃e,e=(sbeg x.disk).2.2:=⟨_,rfl⟩
 obtain ⟨Z,hZ⟩:∃Z,Z=zct x id:=⟨_,rfl⟩
 have hZ2:=hZ
 rw [zct,← hL,← hE,← hR] at hZ2
 rw [← hL] at hLl
 obtain ⟨J,hJ⟩:∃J,J=sfind L id:=⟨_,rfl⟩
 have hat:=zgN (l:=L) (id:=id)
 rw [← hJ] at hZ2 hat
 (have tk:=za zF <| za z7 <| za zE <| za zK <| za zt <| za zn <| za zG <| za zu <| za zr <| zb Tryz.prog;have fx:=(⟨hR.symm,hL.symm,hE.symm,hZ.symm,hJ.symm⟩:_∧_∧_∧_∧_);repeat' ((fail_if_success refine hds 9 (by rfl) ?_);first|(refine hK _ ?_;clear hK K)|refine wa fun K hK=>?_|refine wb ?_|refine wc ?_ ?_|exact we|refine fun (hc:_=(_:Bool))=>?_|clear hK K))
 ·rw [hZ2,if_pos hc]
 ·rename_i h0
  rw [hZ2,if_neg (by rw [h0];decide),if_pos (bneP hc)]
 ·rename_i h0 h1
  rw [hZ2,if_neg (by rw [h0];decide),if_neg (bneN h1),if_pos (of_decide_eq_true hc)]
 rename_i h1 h2
 have hJ0:0≤J:=by simpa using hc
 rw [if_neg (by rw [h1];decide),if_neg (bneN h2),if_neg (by omega)] at hZ2
 obtain ⟨u,hq,hu,hlt,hJn⟩:=hat hJ0
 rw [hu] at hZ2
 obtain ⟨n,hn⟩:∃n:Nat,n=J.toNat:=⟨_,rfl⟩
 rw [← hn] at hq hlt hJn
 subst hJn
 have hrow:=za8 (g:=snpD) hq
 simp only [snpD] at hrow
 obtain ⟨S,hS⟩:∃S,S=share x.disk p0 u.l1 1:=⟨_,rfl⟩
 have hd1:DP x.disk S.1:=by rw [hS];exact hdp.share _ _
 rw [← hS,srev0] at hZ2
 obtain ⟨A,hA⟩:∃A,A=share x.disk S.1 R.l1 (-1):=⟨_,rfl⟩
 have hd2:DP x.disk A.1:=by rw [hA];exact hd1.share _ _
 rw [← hA,srevA] at hZ2
 obtain ⟨B,hB⟩:∃B,B=ecopy x.disk A.1 u.l1 R.l1:=⟨_,rfl⟩
 have hd3:DP x.disk B.1:=by rw [hB];exact hd2.ecopy _ _
 have hd3p:=hd3.p
 rw [← hB,srevB] at hZ2
 obtain ⟨D,hD⟩:∃D,D=cdone x B.1:=⟨_,rfl⟩
 have hDF:ImgF D.1:=by rw [hD];exact h.done _
 rw [← hD,srevC] at hZ2
 (have tk:=za zF <| za z7 <| za zE <| za zK <| za zt <| za zn <| za zG <| za zu <| za zr <| zb Tryz.prog;have fx:=(⟨hrow,@Int.toNat_natCast,hS.symm,hA.symm,hB.symm,hD.symm,hZ.symm⟩:_∧_∧_∧_∧_∧_∧_);repeat' (first|(refine hK _ ?_;clear hK K)|refine va fun K hK=>?_|refine vb ?_|refine wc ?_ ?_|exact we|refine fun (hc:_=(_:Bool))=>?_|clear hK K))
 all_goals first|omega|skip
 all_goals first|(rw [hZ2];(refine (show (_:AV)=_ from ?_));(repeat (first|(rewrite [if_pos];rotate_left;(first|exact bneP (by assumption)|exact beqP (by assumption)|exact of_decide_eq_true (by assumption)|assumption))|(rewrite [if_neg];rotate_left;(first|exact bneN (by assumption)|exact beqN (by assumption)|exact of_decide_eq_false (by assumption)|assumption))));rfl;done)|skip
 rename_i h5 h6 h7
 rw [if_neg (bneN h5),if_neg (bneN h6),if_neg (bneN h7),if_neg (bneN hc)] at hZ2
 refine zo (fun q: { i:Nat // i≤64 } =>⟨[(2,true,.vp 0 0),(4,true,.vp 1 0),(11,true,.d (.int .i64 q.1))],[(1,.var img0),(0,.var (imgV (zdE D.1 q.1)))],some []⟩) (fun q=>64 - q.1) ⟨0,Nat.zero_le _⟩ le1 (fun q=>?_)
 obtain ⟨i,hi⟩:=q
 simp only at hi ⊢
 have hmi:=hDF.marks i
 have hmo:=hmi.ok
 have hml:=hmi.maps
 rcases Nat.lt_or_ge i 64 with hlt64|hge
 ·have hcmp:decide ((i:Int)<64)=true:=decide_eq_true (by omega)
  have hwi:=zp (i:=i) (by omega)
  have hms:zdE D.1 (i+1)=cmark (zdE D.1 i) i:=rfl
  (have tk:=za zF <| za z7 <| za zE <| za zK <| za zt <| za zn <| za zG <| za zu <| za zr <| zb Tryz.prog;have fx:=hcmp;repeat' (first|(refine hK _ ?_;clear hK K)|refine wa fun K hK=>?_|refine wb ?_|refine wc ?_ ?_|exact we|refine fun (hc:_=(_:Bool))=>?_|clear hK K))
  all_goals first|omega|skip
  exact ⟨⟨i+1,by omega⟩,by simp only [hms];simp only [AS.le,leT,leH,zc,AsgK,AV.le,AV.leL,AObj.le,inH,idsT,idsH,AV.ids,AV.idsL,AV.idsR,AObj.ids,lk,hget,go_sem,aeq,aeq.aeqF,simprocAttr,hwi]<;>and_intros<;>rfl,by simp;omega⟩
 ·have hcmp:decide ((i:Int)<64)=false:=decide_eq_false (by omega)
  have h64:i=64:=by omega
  subst h64
  (have tk:=za zF <| za z7 <| za zE <| za zK <| za zt <| za zn <| za zG <| za zu <| za zr <| zb Tryz.prog;have fx:=(⟨hcmp,hZ.symm⟩:_∧_);repeat' (first|(refine hK _ ?_;clear hK K)|refine wa fun K hK=>?_|refine wb ?_|refine wc ?_ ?_|exact we|refine fun (hc:_=(_:Bool))=>?_|clear hK K))
  rw [hZ2]
@[go_sem] noncomputable def zeT:Ent Tryz.prog 33:= .m2 zbp (intT .u32) zkR
def sread (x:Img) (id guest:Int):Txt×Int:=
 if (sbeg x.disk).2.2≠0 then ([],(sbeg x.disk).2.2) else if sfind (sbeg x.disk).2.1 id<0 then ([],21) else if guest<0∨x.geom.guest≤guest then ([],10)
 else cread x.disk (snpAt (sbeg x.disk).2.1 (sfind (sbeg x.disk).2.1 id)).l1 guest
theorem zoM (x:Img) (id guest:Int) (h:ImgF x):AC 35 [imgA x,.d (.int .u32 id),.d (.int .i64 guest)] (.tup [.d (.str (sread x id guest).1),.d (.int .i64 (sread x id guest).2)]):=by
 refine fbod Tryz.func35 Tryz.ntmps35 (fun base=>?_)
 have hdok:=h.disk
 have hLl:=zdX x.disk
 obtain ⟨L,hL⟩:∃L,L=(sbeg x.disk).2.1:=⟨_,rfl⟩
 obtain ⟨e,hE⟩:∃e,e=(sbeg x.disk).2.2:=⟨_,rfl⟩
 have hZ:sread x id guest=_:=rfl
 unfold sread at hZ
 obtain ⟨Z,hZe⟩:∃Z,Z=sread x id guest:=⟨_,rfl⟩
 rw [sread,← hL,← hE] at hZe
 have hZ3:Z=sread x id guest:=by rw [hZe,sread,hL,hE]
 rw [← hL] at hLl
 obtain ⟨J,hJ⟩:∃J,J=sfind L id:=⟨_,rfl⟩
 have hat:=zgN (l:=L) (id:=id)
 rw [← hJ] at hZe hat
 clear hZ
 (have tk:=za zF <| za z7 <| za zE <| za zK <| za zt <| za zn <| za zG <| za zu <| za zr <| zb Tryz.prog;have fx:=(⟨hL.symm,hE.symm,hZ3.symm,hJ.symm⟩:_∧_∧_∧_);repeat' ((fail_if_success refine hds 7 (by rfl) ?_);first|(refine hK _ ?_;clear hK K)|refine wa fun K hK=>?_|refine wb ?_|refine wc ?_ ?_|exact we|refine fun (hc:_=(_:Bool))=>?_|clear hK K))
 ·rw [hZe,if_pos (bneP hc)]
 ·rename_i h1
  rw [hZe,if_neg (bneN h1),if_pos (of_decide_eq_true hc)]
 rename_i h2
 have hJ0:0≤J:=by simpa using hc
 rw [if_neg (bneN h2),if_neg (by omega)] at hZe
 obtain ⟨u,hq,hu,hlt,hJn⟩:=hat hJ0
 rw [hu] at hZe
 obtain ⟨n,hn⟩:∃n:Nat,n=J.toNat:=⟨_,rfl⟩
 rw [← hn] at hq hlt hJn
 subst hJn
 have hrow:=za8 (g:=snpD) hq
 simp only [snpD] at hrow
 cases hb:(decide (guest<0)||decide (x.geom.guest≤guest)) with
 |true=>
  (have tk:=za zF <| za z7 <| za zE <| za zK <| za zt <| za zn <| za zG <| za zu <| za zr <| zb Tryz.prog;have fx:=(⟨hb,hZ3.symm⟩:_∧_);repeat' (first|(refine hK _ ?_;clear hK K)|refine wa fun K hK=>?_|refine wb ?_|refine wc ?_ ?_|exact we|refine fun (hc:_=(_:Bool))=>?_|clear hK K))
  rw [hZe,if_pos (by simpa using hb)]
 |false=>
  (have tk:=za zF <| za z7 <| za zE <| za zK <| za zt <| za zn <| za zG <| za zu <| za zr <| zb Tryz.prog;have fx:=(⟨hb,hrow,@Int.toNat_natCast,hZ3.symm⟩:_∧_∧_∧_);repeat' (first|(refine hK _ ?_;clear hK K)|refine wa fun K hK=>?_|refine wb ?_|refine wc ?_ ?_|exact we|refine fun (hc:_=(_:Bool))=>?_|clear hK K))
  all_goals first|omega|skip
  rw [hZe,if_neg (by simpa using hb)]
@[go_sem] noncomputable def zgx:Ent Tryz.prog 35:= .m3 zbp (intT .u32) (intT .i64) zoM
open Go Go.Proofs
structure Ws where
 x:Img
 R:Root
 L:List Snp
 q:Plan
 e:Int
def wkV (s:Ws) (v:AV):List AV:= [.d (.str s.x.disk.data),.d (.sl 2 (s.x.disk.cache.map putD)),.d (.int .i64 s.x.disk.fuse),.d (.bool s.x.disk.off),.d (.sl 1 (s.x.disk.bad.map intD)),.d (.int .i64 s.x.geom.guest),.d (.int .i64 s.x.geom.host),.d (.int .u64 s.x.jour.seq),.d (.int .i64 s.x.jour.pos),.d (.sl 66 (s.x.maps.map dmapD)),.d (.bool s.x.broken),.d (.int .i64 s.R.l1),.d (.int .u32 s.R.next),v,.d (.sl 1 (s.q.targets.map intD)),.d (.sl 1 (s.q.texts.map strD)),.d (.int .i64 s.e)]
attribute [go_sem] wkV
@[go_sem] abbrev wkS (s:Ws):List AV:=wkV s (.d (.sl 3 (s.L.map snpD)))
structure Stp where
 f:FuncId
 fs:List AV
 cs:List AV
def stR (s:Stp):List AV:= [.fn (.func s.f) s.fs s.cs]
structure SOk (fl:Nat) (l:List Stp) (h:AHeap):Prop where
 le:leH h h:=by simp only [leH,AV.le,AV.leL,AObj.le,hget,go_sem,simprocAttr]<;>and_intros<;>rfl
 ih:inH h (idsH h):=by simp only [inH,idsH,AV.ids,AV.idsL,AV.idsR,AObj.ids,hget,go_sem,simprocAttr]
 is:inH h (21::AV.idsR (l.map stR)):=by simp only [inH,AV.ids,AV.idsL,AV.idsR,List.map_cons,List.map_nil,stR,hget,go_sem,simprocAttr]
def Runs (fl:Nat) (all:List Stp) (K:AHeap→Prop):List Stp→AHeap→Prop
 | [],h=>SOk fl all h∧K h
 |s::r,h=>SOk fl all h∧∃ (a:Ws) (u:AV),hget h 21=some (.var (wkV a u))∧(a.e≠0→Runs fl all K r h)∧(a.e=0→ACallAt Tryz.prog fl s.f (s.fs++s.cs) h (fun v h'=>∃ (b:Ws) (u:AV) (e:Int),v= .d (.int .i64 e)∧hget h' 21=some (.var (wkV b u))∧Runs fl all K r (hset h' 21 (.var (wkV { b with e:=e } u)))))
theorem Runs.ok {fl:Nat} {all:List Stp} {K:AHeap→Prop} :∀ {r:List Stp} {h:AHeap},Runs fl all K r h→SOk fl all h
 | [],_,h=>h.1
 |_::_,_,h=>h.1
theorem Runs.skip {fl:Nat} {all:List Stp} {K:AHeap→Prop} {h:AHeap} {a:Ws} (ho:SOk fl all h) (hg:hget h 21=some (.var (wkS a))) (he:a.e≠0) (hK:K h):∀r,Runs fl all K r h
 | []=>⟨ho,hK⟩
 |_::r=>⟨ho,a,_,hg,fun _=>Runs.skip ho hg he hK r,fun h0=>absurd h0 he⟩
theorem zfA {fl fl':Nat} {h:AHeap} {K:AHeap→Prop} (l:List Stp) (hl:l.length≤100) (hle:fl'≤fl) (hR:Runs fl l K l h) (hk:∀h',K h'→∀i,(hget h i).isSome→(hget h' i).isSome) (hf:∀i,(hget h i).isSome→i<fl:=by exact zap rfl):ACallAt Tryz.prog fl' 72 [.vp 21 0,.asl 1 (l.map stR)] h (fun r h'=>r= .tup []∧K h'):=by
 have h0:=hR.ok
 refine ACall.whole (fl:=fl) ?_ hf hle (fun r h' hr=>hk h' hr.2)
 refine bod Tryz.func72 Tryz.ntmps72 (fun base=>?_)
 have hlm:(l.map stR).length=l.length:=List.length_map _
 (have fx:=hlm;repeat' (first|(refine hK _ ?_;clear hK K)|refine wa fun K hK=>?_|refine wb ?_|refine wc ?_ ?_|refine fun (nb:Bool) (hnb:nb=true→_)=>?_|exact we|refine fun (hc:_=(_:Bool))=>?_|clear hK K))
 have hle1:∀ (g:AHeap) (k:Nat) (t:List (Nat×(Bool×AV))),SOk fl l g→leT t [(0,true,.vp 21 0),(6,true,.asl 1 (l.map stR)),(7,true,.d (.int .i64 l.length)),(8,true,.d (.int .i64 k))]→AS.le ⟨t,g,some []⟩ ⟨[(0,true,.vp 21 0),(6,true,.asl 1 (l.map stR)),(7,true,.d (.int .i64 l.length)),(8,true,.d (.int .i64 k))],g,some []⟩:=fun g k t hg ht=>⟨ht,hg.le,by simpa only [idsT,AV.ids,List.singleton_append,List.nil_append,List.append_nil] using hg.is,hg.ih,rfl⟩
 refine zo (fun q: { q:Nat×AHeap // q.1≤l.length∧Runs fl l K (l.drop q.1) q.2 } =>⟨[(0,true,.vp 21 0),(6,true,.asl 1 (l.map stR)),(7,true,.d (.int .i64 l.length)),(8,true,.d (.int .i64 q.1.1))],q.1.2,some []⟩) (fun q=>l.length - q.1.1) ⟨(0,h),Nat.zero_le _,hR⟩ (hle1 _ _ _ h0 le1) (fun q=>?_)
 obtain ⟨⟨k,g⟩,hk1,hr⟩:=q
 simp only at hk1 hr ⊢
 rcases Nat.lt_or_ge k l.length with hlt|hge
 ·obtain ⟨s,hs⟩:=zaj hlt
  have hrow:=za8 (g:=stR) hs
  simp only [stR] at hrow
  have hcmp:decide ((k:Int)<(l.length:Int))=true:=decide_eq_true (by omega)
  have hwi:=zp (i:=k) (by omega)
  rw [zcq hs,Runs] at hr
  obtain ⟨hS,a,u,hw,h1,h2⟩:=hr
  by_cases he:a.e=0
  ·have hb:(a.e==0)=true:=by simpa using he
   simp only [wkV] at hw
   (have fx:=(⟨hcmp,hrow,hw,hb,@Int.toNat_natCast,hlm⟩:_∧_∧_∧_∧_∧_);repeat' (first|(refine hK _ ?_;clear hK K)|refine wa fun K hK=>?_|refine wb ?_|refine wc ?_ ?_|refine fun (nb:Bool) (hnb:nb=true→_)=>?_|exact we|refine fun (hc:_=(_:Bool))=>?_|clear hK K))
   all_goals first|omega|skip
   refine (h2 he).mono ?_
   rintro v h' ⟨b,u',e,rfl,hw',hR'⟩
   have hS':=hR'.ok
   simp only [wkV] at hw' hR' hS'
   simp only [go_sem,aeq,aeq.aeqF,simprocAttr,hw']
   (have fx:=hw';repeat' (first|(refine hK _ ?_;clear hK K)|refine wa fun K hK=>?_|refine wb ?_|refine wc ?_ ?_|refine fun (nb:Bool) (hnb:nb=true→_)=>?_|exact we|refine fun (hc:_=(_:Bool))=>?_|clear hK K))
   exact ⟨⟨(k+1,_),by omega,hR'⟩,hle1 _ _ _ hS' (lev),by simp;omega⟩
  ·have hb:(a.e==0)=false:=by simpa using he
   simp only [wkV] at hw
   (have fx:=(⟨hcmp,hrow,hw,hb,@Int.toNat_natCast,hlm⟩:_∧_∧_∧_∧_∧_);repeat' (first|(refine hK _ ?_;clear hK K)|refine wa fun K hK=>?_|refine wb ?_|refine wc ?_ ?_|refine fun (nb:Bool) (hnb:nb=true→_)=>?_|exact we|refine fun (hc:_=(_:Bool))=>?_|clear hK K))
   all_goals first|omega|skip
   exact ⟨⟨(k+1,g),by omega,h1 he⟩,hle1 _ _ _ hS (lev),by simp;omega⟩
 ·have hcmp:decide ((k:Int)<(l.length:Int))=false:=decide_eq_false (by omega)
  (have fx:=hcmp;repeat' (first|(refine hK _ ?_;clear hK K)|refine wa fun K hK=>?_|refine wb ?_|refine wc ?_ ?_|refine fun (nb:Bool) (hnb:nb=true→_)=>?_|exact we|refine fun (hc:_=(_:Bool))=>?_|clear hK K))
  rw [List.drop_of_length_le (by omega),Runs] at hr
  exact hr.2
theorem zcu:∀ {H H':AHeap},H.map (·.1)=H'.map (·.1)→∀i,(hget H i).isSome→(hget H' i).isSome
  | [],_,_,i,h=>by simp [hget] at h
  |(k,o)::H,[],e,i,h=>by simp at e
  | (k,o)::H,(k',o')::H',e,i,h=>by
    simp only [List.map_cons,List.cons.injEq] at e
    obtain ⟨rfl,e⟩:=e
    simp only [hget] at h ⊢
    split
    · rfl
    · rename_i hn
      rw [if_neg hn] at h
      exact zcu e i h
theorem zdY {f:FuncId} {args:List AV} {fl:Nat} {H H':AHeap} {v:AV} (hc:ACall Tryz.prog f 60 args H (fun r h'=>r=v∧hsel (fun i=>decide (i<60)) h'=H'∧(H'.all (fun q=>q.2.ids.all fun i=>decide (i<60))=true∧v.ids.all (fun i=>decide (i<60))=true))) (hk:H.map (·.1)=H'.map (·.1):=by rfl) (hfl:∀i,(hget H i).isSome→i<60:=by exact zap rfl) (hle:fl≤60:=by omega):ACallAt Tryz.prog fl f args H (fun r h'=>r=v∧h'=H'):=by
 refine ACall.whole (fl:=60) ?_ hfl hle (fun r h' hr=>by rw [hr.2];exact zcu hk)
 refine zR (fun i=>decide (i<60)) (hc.mono ?_)
 rintro r h' ⟨rfl,rfl,h1,h2⟩
 exact ⟨h1,h2,rfl,rfl⟩
def sbw (x:Img) (ch:Bool):Ws:=if (ch&&x.broken)=true then ⟨x,⟨0,0⟩,[],p0,24⟩ else ⟨x,(sbeg x.disk).1,(sbeg x.disk).2.1,p0,(sbeg x.disk).2.2⟩
theorem zeq (x:Img) (ch:Bool) (h:ImgF x):ACall Tryz.prog 68 20 [imgA x,.d (.bool ch)] [] (fun r h'=>r= .vp 21 0∧h'= [(21,.var (wkS (sbw x ch)))]):=by
 have hdp:DP x.disk p0:=⟨h.disk,zdc⟩
 have hdo:=h.disk.ok
 refine zR (fun i=>decide (i=21)) ?_
 refine bod Tryz.func68 Tryz.ntmps68 (fun base=>?_)
 obtain ⟨B,hB⟩:∃B:Ws→AHeap,B=fun a=> [(22,.var [.vp 21 0]),(21,.var (wkS a)),(20,.var (imgV x))]:=⟨_,rfl⟩
 obtain ⟨l,hl⟩:∃l:List Stp,l= [⟨144,[],[.vp 20 0,.vp 22 0]⟩,⟨145,[],[.vp 20 0,.vp 22 0]⟩]:=⟨_,rfl⟩
 have hok:∀a,SOk 40 l (B a):=by intro a;rw [hB,hl];exact {}
 have hse:∀a e,hset (B a) 21 (.var (wkS { a with e:=e }))=B { a with e:=e } :=by intro a e;rw [hB];rfl
 have hge:∀a,hget (B a) 21=some (.var (wkS a)):=by intro a;rw [hB];rfl
 have fin:∀e0,e0=(if (ch&&x.broken)=true then 24 else 0)→Runs 40 l (fun h'=>h'=B (sbw x ch)) l (B ⟨x,⟨0,0⟩,[],p0,e0⟩):=by
  intro e0 h0
  cases hb:(ch&&x.broken) with
  |true=>
   rw [hb,if_pos rfl] at h0
   exact Runs.skip (hok _) (hge _) (by rw [h0];show (24:Int)≠0;decide) (by rw [sbw,hb,if_pos rfl,h0]) _
  | false=>
   rw [hb,if_neg (by decide)] at h0
   subst h0
   have hs:sbw x ch=⟨x,(sbeg x.disk).1,(sbeg x.disk).2.1,p0,(sbeg x.disk).2.2⟩:=by rw [sbw,hb,if_neg (by decide)]
   rw [sbeg] at hs
   conv=>arg 4;rw [hl]
   refine ⟨hok _,_,_,hge _,fun h=>absurd rfl h,fun _=>(zdY (v:= .d (.int .i64 (zA x.disk p0).2)) (H':=B ⟨x,(zA x.disk p0).1,[],p0,0⟩) ?_ (by rw [hB];rfl) (by rw [hB];exact zap rfl)).mono ?_⟩
   ·rw [hB]
    refine bod Tryz.func144 Tryz.ntmps144 (fun base=>?_)
    (have tk:=za zcj <| za zf8 <| zb Tryz.prog;repeat' (first|(refine hK _ ?_;clear hK K)|refine va fun K hK=>?_|refine vb ?_|refine wc ?_ ?_|refine fun (nb:Bool) (hnb:nb=true→_)=>?_|exact we|clear hK K))
   rintro v h' ⟨rfl,rfl⟩
   refine ⟨_,_,_,rfl,hge _,?_⟩
   rw [hse]
   by_cases he:(zA x.disk p0).2=0
   ·rw [if_neg (by simpa using he)] at hs
    refine ⟨hok _,_,_,hge _,fun h=>absurd he h,fun _=>(zdY (v:= .d (.int .i64 (snaps x.disk p0).2)) (H':=B ⟨x,(zA x.disk p0).1,(snaps x.disk p0).1,p0,(zA x.disk p0).2⟩) ?_ (by rw [hB];rfl) (by rw [hB];exact zap rfl)).mono ?_⟩
    ·rw [hB]
     refine bod Tryz.func145 Tryz.ntmps145 (fun base=>?_)
     (have tk:=za zcj <| za zf8 <| zb Tryz.prog;repeat' (first|(refine hK _ ?_;clear hK K)|refine va fun K hK=>?_|refine vb ?_|refine wc ?_ ?_|refine fun (nb:Bool) (hnb:nb=true→_)=>?_|exact we|clear hK K))
    rintro v h' ⟨rfl,rfl⟩
    refine ⟨_,_,_,rfl,hge _,?_⟩
    rw [hse]
    exact ⟨hok _,by rw [hs]⟩
   ·rw [if_pos he] at hs
    exact Runs.skip (hok _) (hge _) he (by rw [hs]) _
 rw [hl,hB] at fin
 cases hb:(ch&&x.broken) with
 |true=>
  (have tk:=zb Tryz.prog;have fx:=hb;repeat' ((fail_if_success refine hds 4 (by rfl) ?_);first|(refine hK _ ?_;clear hK K)|refine wa fun K hK=>?_|refine wb ?_|refine wc ?_ ?_|refine fun (nb:Bool) (hnb:nb=true→_)=>?_|exact we|refine fun (hc:_=(_:Bool))=>?_|clear hK K))
  refine aw_le ⟨[(2,true,.vp 20 0),(5,true,.vp 22 0)],[(22,.var [.vp 21 0]),(21,.var (wkS ⟨x,⟨0,0⟩,[],p0,24⟩)),(20,.var (imgV x))],some []⟩ le1 ?_
  (have tk:=zb Tryz.prog;have fx:=Go.Aw.fx;repeat' (first|(refine hK _ ?_;clear hK K)|refine wa fun K hK=>?_|refine wb ?_|refine wc ?_ ?_|refine fun (nb:Bool) (hnb:nb=true→_)=>?_|exact we|refine fun (hc:_=(_:Bool))=>?_|clear hK K))
  refine (zfA (fl:=40) _ (by decide) (by omega) (fin 24 (by rw [hb];rfl)) (by rintro h' rfl;exact zcu rfl)).mono ?_
  rintro r h' ⟨rfl,rfl⟩
  (have tk:=zb Tryz.prog;have fx:=Go.Aw.fx;repeat' (first|(refine hK _ ?_;clear hK K)|refine wa fun K hK=>?_|refine wb ?_|refine wc ?_ ?_|refine fun (nb:Bool) (hnb:nb=true→_)=>?_|exact we|refine fun (hc:_=(_:Bool))=>?_|clear hK K))
 |false=>
  (have tk:=zb Tryz.prog;have fx:=hb;repeat' ((fail_if_success refine hds 4 (by rfl) ?_);first|(refine hK _ ?_;clear hK K)|refine wa fun K hK=>?_|refine wb ?_|refine wc ?_ ?_|refine fun (nb:Bool) (hnb:nb=true→_)=>?_|exact we|refine fun (hc:_=(_:Bool))=>?_|clear hK K))
  refine aw_le ⟨[(2,true,.vp 20 0),(5,true,.vp 22 0)],[(22,.var [.vp 21 0]),(21,.var (wkS ⟨x,⟨0,0⟩,[],p0,0⟩)),(20,.var (imgV x))],some []⟩ le1 ?_
  (have tk:=zb Tryz.prog;have fx:=Go.Aw.fx;repeat' (first|(refine hK _ ?_;clear hK K)|refine wa fun K hK=>?_|refine wb ?_|refine wc ?_ ?_|refine fun (nb:Bool) (hnb:nb=true→_)=>?_|exact we|refine fun (hc:_=(_:Bool))=>?_|clear hK K))
  refine (zfA (fl:=40) _ (by decide) (by omega) (fin 0 (by rw [hb];rfl)) (by rintro h' rfl;exact zcu rfl)).mono ?_
  rintro r h' ⟨rfl,rfl⟩
  (have tk:=zb Tryz.prog;have fx:=Go.Aw.fx;repeat' (first|(refine hK _ ?_;clear hK K)|refine wa fun K hK=>?_|refine wb ?_|refine wc ?_ ?_|refine fun (nb:Bool) (hnb:nb=true→_)=>?_|exact we|refine fun (hc:_=(_:Bool))=>?_|clear hK K))
open Go Go.Proofs
theorem ACall.low {P:Program} {f:FuncId} {args:List AV} {fl fl':Nat} {h:AHeap} {K:AV→AHeap→Prop} (hc:ACall P f fl args h K) (hle:fl'≤fl):ACall P f fl' args h K:=by
 refine ⟨hc.1,fun E w vs hs hr=>(hc.2 E w vs hs hr).mono ?_⟩
 rintro e w' ⟨v,E',r,h',h1,h2,h3,h4,h5⟩
 exact ⟨v,E',r,h',h1,h2,h3,h4,⟨h5.os,h5.tape,h5.output,h5.size,h5.keep,h5.own,h5.m,h5.n,fun i hi=>h5.go i (by omega)⟩⟩
def rlJ (d:Disk) (p:Plan) (t:Int):Nat→Nat→List Int×Int
 |0,_=>([],0)
 |m+1,k=>if (eget d p t k).2≠0 then ([],(eget d p t k).2) else if (eget d p t k).1.kind=1 then ((eget d p t k).1.loc::(rlJ d p t m (k+1)).1,(rlJ d p t m (k+1)).2) else rlJ d p t m (k+1)
def rlI (d:Disk) (p:Plan) (l1:Int):Nat→Nat→List Int×Int
 |0,_=>([],0)
 |m+1,i=>if (eget d p l1 i).2≠0 then ([],(eget d p l1 i).2) else if (eget d p l1 i).1.kind=2 then ([],14) else if (eget d p l1 i).1.kind=0 then rlI d p l1 m (i+1)
  else if (rlJ d p (eget d p l1 i).1.loc 16 0).2≠0 then ((eget d p l1 i).1.loc::(rlJ d p (eget d p l1 i).1.loc 16 0).1,(rlJ d p (eget d p l1 i).1.loc 16 0).2)
  else ((eget d p l1 i).1.loc::((rlJ d p (eget d p l1 i).1.loc 16 0).1++(rlI d p l1 m (i+1)).1),(rlI d p l1 m (i+1)).2)
theorem zkW {d:Disk} {p:Plan} {t:Int} :∀ (m k:Nat) (l:List Int),zdz d p t m k l=if (rlJ d p t m k).2≠0 then ([],(rlJ d p t m k).2) else (l++(rlJ d p t m k).1,0)
 |0,k,l=>by simp [zdz,rlJ]
 | m+1,k,l=>by
  rw [zdz,rlJ,show ((k:Int)+1)=((k+1:Nat):Int) by omega,zkW m (k+1)]
  by_cases h1:(eget d p t k).2=0<;>by_cases h2:(eget d p t k).1.kind=1<;>
   simp only [h1,h2,ne_eq,not_true_eq_false,not_false_eq_true,if_true,if_false,List.append_assoc,List.singleton_append]
theorem zkX {d:Disk} {p:Plan} {l1:Int} :∀ (m i:Nat) (l:List Int),zeQ d p l1 m i l=if (rlI d p l1 m i).2≠0 then ([],(rlI d p l1 m i).2) else (l++(rlI d p l1 m i).1,0)
 |0,i,l=>by simp [zeQ,rlI]
 | m+1,i,l=>by
  rw [zeQ,rlI,show ((i:Int)+1)=((i+1:Nat):Int) by omega]
  have hJ:=zkW (d:=d) (p:=p) (t:=(eget d p l1 i).1.loc) 16 0 (l++ [(eget d p l1 i).1.loc])
  rw [show ((0:Nat):Int)=0 from rfl] at hJ
  by_cases h1:(eget d p l1 i).2=0<;>by_cases h2:(eget d p l1 i).1.kind=2<;>by_cases h3:(eget d p l1 i).1.kind=0<;>by_cases h4:(rlJ d p (eget d p l1 i).1.loc 16 0).2=0<;>
   simp only [h1,h2,h3,h4,hJ,zkX m (i+1),ne_eq,not_true_eq_false,not_false_eq_true,if_true,if_false,List.append_assoc,List.singleton_append,List.cons_append,List.nil_append,show ¬(0:Int)=2 by decide,show ¬(14:Int)=0 by decide,show ¬(2:Int)=0 by decide]
theorem znw {d:Disk} {p:Plan} {l1:Int} :reach d p l1=if (rlI d p l1 4 0).2≠0 then ([],(rlI d p l1 4 0).2) else ((rlI d p l1 4 0).1,0):=by
 have:=zkX (d:=d) (p:=p) (l1:=l1) 4 0 []
 rw [show ((0:Nat):Int)=0 from rfl,List.nil_append] at this
 exact this
theorem zqS {d:Disk} {p:Plan} {t:Int} :∀ (m k:Nat),(rlJ d p t m k).1.length≤m
 |0,k=>Nat.le_refl _
 |m+1,k=>by
  have:=zqS (d:=d) (p:=p) (t:=t) m (k+1)
  rw [rlJ]
  repeat' split
  all_goals first|exact Nat.zero_le _|(simp only [List.length_cons];omega)|omega
theorem zqT {d:Disk} {p:Plan} {l1:Int} :∀ (m i:Nat),(rlI d p l1 m i).1.length≤17*m
 |0,k=>Nat.le_refl _
 |m+1,k=>by
  have h1:=zqT (d:=d) (p:=p) (l1:=l1) m (k+1)
  have h2:=zqS (d:=d) (p:=p) (t:=(eget d p l1 k).1.loc) 16 0
  rw [rlI]
  repeat' split
  all_goals first|exact Nat.zero_le _|(simp only [List.length_cons,List.length_append];omega)|omega
def intI (k:Int):List AV:= [.d (.int .i64 k)]
@[go_sem] abbrev hRea (d:Disk) (p:Plan) (l1 e:Int):AHeap:= [(5,.var (wkP p ⟨0,0⟩ d e)),(11,.var [.d (.int .i64 l1)]),(10,.var [.vp 5 0])]
theorem zkY (d:Disk) (p:Plan) (l1:Int) (h:DP d p):AIter Tryz.prog 195 20 [] [.vp 10 0,.vp 11 0] (hRea d p l1 0) ((rlI d p l1 4 0).1.map intI) (fun gg h'=>(∀xs,gg=some xs→xs=(rlI d p l1 4 0).1.map intI)∧∃e,h'=hRea d p l1 e∧(gg≠none→e=(rlI d p l1 4 0).2)):=by
 obtain ⟨L,hL⟩:∃L,L=rlI d p l1 4 0:=⟨_,rfl⟩
 rw [← hL]
 refine itr Tryz.func195 Tryz.ntmps195 (fun base y=>?_)
 (have tk:=zb Tryz.prog);repeat' (first|(refine zy (fun i=>decide (i<20)) (by simp only [inH,idsH,hsel,AV.ids,AV.idsL,AV.idsR,AObj.ids,hget,go_sem,aeq,aeq.aeqF,simprocAttr]) ?_;simp only [go_sem,aeq,aeq.aeqF,simprocAttr,hRea,hsel,keepT];refine zH ?_;simp only [go_sem,aeq,aeq.aeqF,simprocAttr,hRea])|((first|(refine ya ?_;intro K hK)|refine yb ?_);simp only [go_sem,aeq,aeq.aeqF,simprocAttr,hRea])|refine zj (fun K hK=>?_)|refine sc ?_|refine zi rfl (fun hc=>?_) (fun hc=>?_)|(refine hK _ ?_;clear hK K)|((first|refine (show AS.le _ _ from ?_)|refine (show leH _ _ from ?_)|refine (show inH _ _ from ?_));simp only [AS.le,leT,leH,zc,AsgK,AV.le,AV.leL,AObj.le,inH,idsT,idsH,AV.ids,AV.idsL,AV.idsR,AObj.ids,lk,hget,go_sem,aeq,aeq.aeqF,simprocAttr,hRea])|refine fun (r2:Rnd _)=>?_|refine fun (nb:Bool) (hnb:nb=true→_)=>?_|with_reducible refine And.intro ?_ ?_|exact ‹_<+:_› |omega|assumption|refine fun (hg:(_:Bool)=(_:Bool))=>?_|clear hK K)
 refine zo (fun q: { q:Nat×List (List AV) // q.1≤4∧q.2++(rlI d p l1 (4 - q.1) q.1).1.map intI=L.1.map intI∧(rlI d p l1 (4 - q.1) q.1).2=L.2 } =>⟨[(0,true,.fn (.yield y.yl) [] []),(1,true,.vp 10 0),(2,true,.vp 11 0),(8,true,.d (.int .i64 q.1.1))],hRea d p l1 0,some q.1.2⟩) (fun q=>4 - q.1.1) ⟨(0,[]),by show (0:Nat)≤4;omega,by rw [hL];rfl,by rw [hL];rfl⟩ (by simp only [AS.le,leT,leH,zc,AsgK,AV.le,AV.leL,AObj.le,inH,idsT,idsH,AV.ids,AV.idsL,AV.idsR,AObj.ids,lk,hget,go_sem,aeq,aeq.aeqF,simprocAttr,hRea]<;>and_intros<;>rfl) (fun q=>?_)
 obtain ⟨⟨i,xs⟩,hi,hf,hfe⟩:=q
 simp only at hi hf hfe ⊢
 rcases Nat.lt_or_ge i 4 with hlt|hge
 ·have hcmp:decide ((i:Int)<4)=true:=decide_eq_true (by omega)
  have hwi:=zp (i:=i) (by omega)
  rw [ze3 hlt,rlI] at hf hfe
  obtain ⟨X,hX⟩:∃X,X=eget d p l1 i:=⟨_,rfl⟩
  have hwg:wget d ⟨p,0⟩ l1 i=(X.1,⟨p,X.2⟩):=by rw [wget,if_neg (by simp),hX]
  rw [← hX] at hf hfe
  (have tk:=zb Tryz.prog);repeat' (first|(refine zy (fun i=>decide (i<20)) (by simp only [inH,idsH,hsel,AV.ids,AV.idsL,AV.idsR,AObj.ids,hget,go_sem,aeq,aeq.aeqF,simprocAttr]) ?_;simp only [go_sem,aeq,aeq.aeqF,simprocAttr,hRea,hcmp,hsel,keepT];refine zH ?_;simp only [go_sem,aeq,aeq.aeqF,simprocAttr,hRea,hcmp])|((first|(refine ya ?_;intro K hK)|refine yb ?_);simp only [go_sem,aeq,aeq.aeqF,simprocAttr,hRea,hcmp])|refine zj (fun K hK=>?_)|refine sc ?_|refine zi rfl (fun hc=>?_) (fun hc=>?_)|(refine hK _ ?_;clear hK K)|((first|refine (show AS.le _ _ from ?_)|refine (show leH _ _ from ?_)|refine (show inH _ _ from ?_));simp only [AS.le,leT,leH,zc,AsgK,AV.le,AV.leL,AObj.le,inH,idsT,idsH,AV.ids,AV.idsL,AV.idsR,AObj.ids,lk,hget,go_sem,aeq,aeq.aeqF,simprocAttr,hRea,hcmp])|refine fun (r2:Rnd _)=>?_|refine fun (nb:Bool) (hnb:nb=true→_)=>?_|with_reducible refine And.intro ?_ ?_|exact ‹_<+:_› |omega|assumption|refine fun (hg:(_:Bool)=(_:Bool))=>?_|clear hK K)
  refine ((ztd ⟨0,0⟩ d ⟨p,0⟩ l1 i h).one (fl':=20) rfl rfl (zap rfl) rfl (by simp [AObj.ids,AV.idsL,AV.ids,wkP]) (by simp [AV.idsL,AV.ids]) (by omega)).mono ?_
  rintro r h' ⟨ob',⟨rfl,rfl⟩,rfl⟩
  simp only [hwg]
  simp only [go_sem,aeq,aeq.aeqF,simprocAttr]
  refine hK _ ?_
  clear hK K
  by_cases he:X.2=0
  ·have hb:(X.2==0)=true:=by simpa using he
   have hb2:(X.2 !=0)=false:=by simpa using he
   rw [if_neg (by simpa using he)] at hf hfe
   have hk3:=(zfp (zqm (by rw [← hX];exact he)).1).1
   rw [← hX] at hk3
   by_cases h2:X.1.kind=2
   ·have hk2:(X.1.kind==2)=true:=by simpa using h2
    rw [if_pos h2] at hf hfe
    (have tk:=zb Tryz.prog);repeat' (first|(refine zy (fun i=>decide (i<20)) (by simp only [inH,idsH,hsel,AV.ids,AV.idsL,AV.idsR,AObj.ids,hget,go_sem,aeq,aeq.aeqF,simprocAttr]) ?_;simp only [go_sem,aeq,aeq.aeqF,simprocAttr,hb,hb2,hk2,hsel,keepT];refine zH ?_;simp only [go_sem,aeq,aeq.aeqF,simprocAttr,hb,hb2,hk2])|((first|(refine ya ?_;intro K hK)|refine yb ?_);simp only [go_sem,aeq,aeq.aeqF,simprocAttr,hb,hb2,hk2])|refine zj (fun K hK=>?_)|refine sc ?_|refine zi rfl (fun hc=>?_) (fun hc=>?_)|(refine hK _ ?_;clear hK K)|((first|refine (show AS.le _ _ from ?_)|refine (show leH _ _ from ?_)|refine (show inH _ _ from ?_));simp only [AS.le,leT,leH,zc,AsgK,AV.le,AV.leL,AObj.le,inH,idsT,idsH,AV.ids,AV.idsL,AV.idsR,AObj.ids,lk,hget,go_sem,aeq,aeq.aeqF,simprocAttr,hb,hb2,hk2])|refine fun (r2:Rnd _)=>?_|refine fun (nb:Bool) (hnb:nb=true→_)=>?_|with_reducible refine And.intro ?_ ?_|exact ‹_<+:_› |omega|assumption|refine fun (hg:(_:Bool)=(_:Bool))=>?_|clear hK K)
    ·rintro zs rfl
     rw [← hf]
     simp
    ·exact ⟨14,rfl,hfe⟩
   have hk2:(X.1.kind==2)=false:=by simpa using h2
   rw [if_neg h2] at hf hfe
   by_cases h0:X.1.kind=0
   ·have hk0:(X.1.kind==1)=false:=by simp;omega
    rw [if_pos h0] at hf hfe
    (have tk:=zb Tryz.prog);repeat' (first|(refine zy (fun i=>decide (i<20)) (by simp only [inH,idsH,hsel,AV.ids,AV.idsL,AV.idsR,AObj.ids,hget,go_sem,aeq,aeq.aeqF,simprocAttr]) ?_;simp only [go_sem,aeq,aeq.aeqF,simprocAttr,hb,hb2,hk2,hk0,hsel,keepT];refine zH ?_;simp only [go_sem,aeq,aeq.aeqF,simprocAttr,hb,hb2,hk2,hk0])|((first|(refine ya ?_;intro K hK)|refine yb ?_);simp only [go_sem,aeq,aeq.aeqF,simprocAttr,hb,hb2,hk2,hk0])|refine zj (fun K hK=>?_)|refine sc ?_|refine zi rfl (fun hc=>?_) (fun hc=>?_)|(refine hK _ ?_;clear hK K)|((first|refine (show AS.le _ _ from ?_)|refine (show leH _ _ from ?_)|refine (show inH _ _ from ?_));simp only [AS.le,leT,leH,zc,AsgK,AV.le,AV.leL,AObj.le,inH,idsT,idsH,AV.ids,AV.idsL,AV.idsR,AObj.ids,lk,hget,go_sem,aeq,aeq.aeqF,simprocAttr,hb,hb2,hk2,hk0])|refine fun (r2:Rnd _)=>?_|refine fun (nb:Bool) (hnb:nb=true→_)=>?_|with_reducible refine And.intro ?_ ?_|exact ‹_<+:_› |omega|assumption|refine fun (hg:(_:Bool)=(_:Bool))=>?_|clear hK K)
    refine zo (fun _:Unit=>⟨[(0,true,.fn (.yield y.yl) [] []),(1,true,.vp 10 0),(2,true,.vp 11 0),(5,true,.vp 20 0),(6,true,.d (.int .i64 0)),(8,true,.d (.int .i64 i))],(20,.var [.d (.int .i64 X.1.kind),.d (.int .i64 X.1.loc)])::hRea d p l1 0,some xs⟩) (fun _=>0) () (by simp only [AS.le,leT,leH,zc,AsgK,AV.le,AV.leL,AObj.le,inH,idsT,idsH,AV.ids,AV.idsL,AV.idsR,AObj.ids,lk,hget,go_sem,aeq,aeq.aeqF,simprocAttr,hRea,he]<;>and_intros<;>rfl) (fun _=>?_)
    (have tk:=zb Tryz.prog);repeat' (first|(refine zy (fun i=>decide (i<20)) (by simp only [inH,idsH,hsel,AV.ids,AV.idsL,AV.idsR,AObj.ids,hget,go_sem,aeq,aeq.aeqF,simprocAttr]) ?_;simp only [go_sem,aeq,aeq.aeqF,simprocAttr,hk0,hRea,hsel,keepT];refine zH ?_;simp only [go_sem,aeq,aeq.aeqF,simprocAttr,hk0,hRea])|((first|(refine ya ?_;intro K hK)|refine yb ?_);simp only [go_sem,aeq,aeq.aeqF,simprocAttr,hk0,hRea])|refine zj (fun K hK=>?_)|refine sc ?_|refine zi rfl (fun hc=>?_) (fun hc=>?_)|(refine hK _ ?_;clear hK K)|((first|refine (show AS.le _ _ from ?_)|refine (show leH _ _ from ?_)|refine (show inH _ _ from ?_));simp only [AS.le,leT,leH,zc,AsgK,AV.le,AV.leL,AObj.le,inH,idsT,idsH,AV.ids,AV.idsL,AV.idsR,AObj.ids,lk,hget,go_sem,aeq,aeq.aeqF,simprocAttr,hk0,hRea])|refine fun (r2:Rnd _)=>?_|refine fun (nb:Bool) (hnb:nb=true→_)=>?_|with_reducible refine And.intro ?_ ?_|exact ‹_<+:_› |omega|assumption|refine fun (hg:(_:Bool)=(_:Bool))=>?_|clear hK K)
    exact ⟨⟨(i+1,xs),by show i+1≤4;omega,hf,hfe⟩,by simp only [AS.le,leT,leH,zc,AsgK,AV.le,AV.leL,AObj.le,inH,idsT,idsH,AV.ids,AV.idsL,AV.idsR,AObj.ids,lk,hget,go_sem,aeq,aeq.aeqF,simprocAttr,hwi,hRea],by simp;omega⟩
   have h1:X.1.kind=1:=by omega
   have hk1:(X.1.kind==1)=true:=by simpa using h1
   rw [if_neg h0] at hf hfe
   obtain ⟨loc,hloc⟩:∃loc,loc=X.1.loc:=⟨_,rfl⟩
   rw [← hloc] at hf hfe
   obtain ⟨J0,hJ0⟩:∃J0,J0=rlJ d p loc 16 0:=⟨_,rfl⟩
   obtain ⟨R,hR⟩:∃R,R=rlI d p l1 (4 - (i+1)) (i+1):=⟨_,rfl⟩
   rw [← hJ0,← hR] at hf hfe
   obtain ⟨S,hS⟩:∃S:List Int,S=if J0.2≠0 then [] else R.1:=⟨_,rfl⟩
   have hf1:xs++intI loc::((J0.1.map intI)++S.map intI)=L.1.map intI:=by
    rw [← hf,hS]
    by_cases h4:J0.2=0
    ·rw [if_neg (by simpa using h4),if_neg (by simpa using h4)];simp
    ·rw [if_pos h4,if_pos h4];simp
   have hf2:J0.2≠0→J0.2=L.2∧S= []:=fun h4=>by rw [if_pos h4] at hfe hS;exact ⟨hfe,hS⟩
   have hf3:J0.2=0→R.2=L.2∧S=R.1:=fun h4=>by rw [if_neg (by simpa using h4)] at hfe hS;exact ⟨hfe,hS⟩
   have hpr:(xs++ [[.d (.int .i64 loc)]])<+:L.1.map intI:=⟨(J0.1.map intI)++S.map intI,by rw [← hf1];simp [intI]⟩
   clear hf hfe
   (have tk:=zb Tryz.prog);repeat' (first|(refine zy (fun i=>decide (i<20)) (by simp only [inH,idsH,hsel,AV.ids,AV.idsL,AV.idsR,AObj.ids,hget,go_sem,aeq,aeq.aeqF,simprocAttr]) ?_;simp only [go_sem,aeq,aeq.aeqF,simprocAttr,hb,hb2,hk2,hk1,← hloc,he,hsel,keepT];refine zH ?_;simp only [go_sem,aeq,aeq.aeqF,simprocAttr,hb,hb2,hk2,hk1,← hloc,he])|((first|(refine ya ?_;intro K hK)|refine yb ?_);simp only [go_sem,aeq,aeq.aeqF,simprocAttr,hb,hb2,hk2,hk1,← hloc,he])|refine zj (fun K hK=>?_)|refine sc ?_|refine zi rfl (fun hc=>?_) (fun hc=>?_)|(refine hK _ ?_;clear hK K)|((first|refine (show AS.le _ _ from ?_)|refine (show leH _ _ from ?_)|refine (show inH _ _ from ?_));simp only [AS.le,leT,leH,zc,AsgK,AV.le,AV.leL,AObj.le,inH,idsT,idsH,AV.ids,AV.idsL,AV.idsR,AObj.ids,lk,hget,go_sem,aeq,aeq.aeqF,simprocAttr,hb,hb2,hk2,hk1,← hloc,he])|refine fun (r2:Rnd _)=>?_|refine fun (nb:Bool) (hnb:nb=true→_)=>?_|with_reducible refine And.intro ?_ ?_|exact ‹_<+:_› |omega|assumption|refine fun (hg:(_:Bool)=(_:Bool))=>?_|clear hK K)
   ·refine zo (fun q: { q:Nat×List (List AV) // q.1≤16∧q.2++((rlJ d p loc (16 - q.1) q.1).1.map intI++S.map intI)=L.1.map intI∧(rlJ d p loc (16 - q.1) q.1).2=J0.2 } =>⟨[(0,true,.fn (.yield y.yl) [] []),(1,true,.vp 10 0),(2,true,.vp 11 0),(5,true,.vp 20 0),(6,true,.d (.int .i64 q.1.1)),(8,true,.d (.int .i64 i))],(20,.var [.d (.int .i64 X.1.kind),.d (.int .i64 loc)])::hRea d p l1 0,some q.1.2⟩) (fun q=>16 - q.1.1) ⟨(0,xs++ [[.d (.int .i64 loc)]]),by show (0:Nat)≤16;omega,by rw [← hf1];simp [intI,hJ0],by rw [hJ0];rfl⟩ (by simp only [AS.le,leT,leH,zc,AsgK,AV.le,AV.leL,AObj.le,inH,idsT,idsH,AV.ids,AV.idsL,AV.idsR,AObj.ids,lk,hget,go_sem,aeq,aeq.aeqF,simprocAttr,hRea,he]<;>and_intros<;>rfl) (fun q=>?_)
    obtain ⟨⟨j,ys⟩,hj,hg,hge2⟩:=q
    simp only at hj hg hge2 ⊢
    rcases Nat.lt_or_ge j 16 with hjl|hjg
    ·have hcj:decide ((j:Int)<16)=true:=decide_eq_true (by omega)
     have hwj:=zp (i:=j) (by omega)
     rw [ze3 hjl,rlJ] at hg hge2
     obtain ⟨Y,hY⟩:∃Y,Y=eget d p loc j:=⟨_,rfl⟩
     have hwg2:wget d ⟨p,0⟩ loc j=(Y.1,⟨p,Y.2⟩):=by rw [wget,if_neg (by simp),hY]
     rw [← hY] at hg hge2
     (have tk:=zb Tryz.prog);repeat' (first|(refine zy (fun i=>decide (i<20)) (by simp only [inH,idsH,hsel,AV.ids,AV.idsL,AV.idsR,AObj.ids,hget,go_sem,aeq,aeq.aeqF,simprocAttr]) ?_;simp only [go_sem,aeq,aeq.aeqF,simprocAttr,hcj,hk1,hRea,hsel,keepT];refine zH ?_;simp only [go_sem,aeq,aeq.aeqF,simprocAttr,hcj,hk1,hRea])|((first|(refine ya ?_;intro K hK)|refine yb ?_);simp only [go_sem,aeq,aeq.aeqF,simprocAttr,hcj,hk1,hRea])|refine zj (fun K hK=>?_)|refine sc ?_|refine zi rfl (fun hc=>?_) (fun hc=>?_)|(refine hK _ ?_;clear hK K)|((first|refine (show AS.le _ _ from ?_)|refine (show leH _ _ from ?_)|refine (show inH _ _ from ?_));simp only [AS.le,leT,leH,zc,AsgK,AV.le,AV.leL,AObj.le,inH,idsT,idsH,AV.ids,AV.idsL,AV.idsR,AObj.ids,lk,hget,go_sem,aeq,aeq.aeqF,simprocAttr,hcj,hk1,hRea])|refine fun (r2:Rnd _)=>?_|refine fun (nb:Bool) (hnb:nb=true→_)=>?_|with_reducible refine And.intro ?_ ?_|exact ‹_<+:_› |omega|assumption|refine fun (hg:(_:Bool)=(_:Bool))=>?_|clear hK K)
     refine ((ztd ⟨0,0⟩ d ⟨p,0⟩ loc j h).one (fl':=20) rfl rfl (zap rfl) rfl (by simp [AObj.ids,AV.idsL,AV.ids,wkP]) (by simp [AV.idsL,AV.ids]) (by omega)).mono ?_
     rintro r h' ⟨ob',⟨rfl,rfl⟩,rfl⟩
     simp only [hwg2]
     simp only [go_sem,aeq,aeq.aeqF,simprocAttr]
     refine hK _ ?_
     clear hK K
     by_cases hye:Y.2=0
     ·have hyb:(Y.2 !=0)=false:=by simpa using hye
      rw [if_neg (by simpa using hye)] at hg hge2
      by_cases hy1:Y.1.kind=1
      ·have hyk:(Y.1.kind==1)=true:=by simpa using hy1
       rw [if_pos hy1] at hg hge2
       have hpr2:(ys++ [[.d (.int .i64 Y.1.loc)]])<+:L.1.map intI:=⟨((rlJ d p loc (16 - (j+1)) (j+1)).1.map intI)++S.map intI,by rw [← hg];simp [intI]⟩
       (have tk:=zb Tryz.prog);repeat' (first|(refine zy (fun i=>decide (i<20)) (by simp only [inH,idsH,hsel,AV.ids,AV.idsL,AV.idsR,AObj.ids,hget,go_sem,aeq,aeq.aeqF,simprocAttr]) ?_;simp only [go_sem,aeq,aeq.aeqF,simprocAttr,hyb,hyk,hye,hsel,keepT];refine zH ?_;simp only [go_sem,aeq,aeq.aeqF,simprocAttr,hyb,hyk,hye])|((first|(refine ya ?_;intro K hK)|refine yb ?_);simp only [go_sem,aeq,aeq.aeqF,simprocAttr,hyb,hyk,hye])|refine zj (fun K hK=>?_)|refine sc ?_|refine zi rfl (fun hc=>?_) (fun hc=>?_)|(refine hK _ ?_;clear hK K)|((first|refine (show AS.le _ _ from ?_)|refine (show leH _ _ from ?_)|refine (show inH _ _ from ?_));simp only [AS.le,leT,leH,zc,AsgK,AV.le,AV.leL,AObj.le,inH,idsT,idsH,AV.ids,AV.idsL,AV.idsR,AObj.ids,lk,hget,go_sem,aeq,aeq.aeqF,simprocAttr,hyb,hyk,hye])|refine fun (r2:Rnd _)=>?_|refine fun (nb:Bool) (hnb:nb=true→_)=>?_|with_reducible refine And.intro ?_ ?_|exact ‹_<+:_› |omega|assumption|refine fun (hg:(_:Bool)=(_:Bool))=>?_|clear hK K)
       ·exact ⟨⟨(j+1,ys++ [[.d (.int .i64 Y.1.loc)]]),by show j+1≤16;omega,by rw [← hg];simp [intI],hge2⟩,by simp only [AS.le,leT,leH,zc,AsgK,AV.le,AV.leL,AObj.le,inH,idsT,idsH,AV.ids,AV.idsL,AV.idsR,AObj.ids,lk,hget,go_sem,aeq,aeq.aeqF,simprocAttr,hwj,hRea],by simp;omega⟩
       exact ⟨0,rfl⟩
      ·have hyk:(Y.1.kind==1)=false:=by simpa using hy1
       rw [if_neg hy1] at hg hge2
       (have tk:=zb Tryz.prog);repeat' (first|(refine zy (fun i=>decide (i<20)) (by simp only [inH,idsH,hsel,AV.ids,AV.idsL,AV.idsR,AObj.ids,hget,go_sem,aeq,aeq.aeqF,simprocAttr]) ?_;simp only [go_sem,aeq,aeq.aeqF,simprocAttr,hyb,hyk,hye,hsel,keepT];refine zH ?_;simp only [go_sem,aeq,aeq.aeqF,simprocAttr,hyb,hyk,hye])|((first|(refine ya ?_;intro K hK)|refine yb ?_);simp only [go_sem,aeq,aeq.aeqF,simprocAttr,hyb,hyk,hye])|refine zj (fun K hK=>?_)|refine sc ?_|refine zi rfl (fun hc=>?_) (fun hc=>?_)|(refine hK _ ?_;clear hK K)|((first|refine (show AS.le _ _ from ?_)|refine (show leH _ _ from ?_)|refine (show inH _ _ from ?_));simp only [AS.le,leT,leH,zc,AsgK,AV.le,AV.leL,AObj.le,inH,idsT,idsH,AV.ids,AV.idsL,AV.idsR,AObj.ids,lk,hget,go_sem,aeq,aeq.aeqF,simprocAttr,hyb,hyk,hye])|refine fun (r2:Rnd _)=>?_|refine fun (nb:Bool) (hnb:nb=true→_)=>?_|with_reducible refine And.intro ?_ ?_|exact ‹_<+:_› |omega|assumption|refine fun (hg:(_:Bool)=(_:Bool))=>?_|clear hK K)
       exact ⟨⟨(j+1,ys),by show j+1≤16;omega,hg,hge2⟩,by simp only [AS.le,leT,leH,zc,AsgK,AV.le,AV.leL,AObj.le,inH,idsT,idsH,AV.ids,AV.idsL,AV.idsR,AObj.ids,lk,hget,go_sem,aeq,aeq.aeqF,simprocAttr,hwj,hRea],by simp;omega⟩
     ·have hyb:(Y.2 !=0)=true:=by simpa using hye
      rw [if_pos (by simpa using hye)] at hg hge2
      have hJne:J0.2≠0:=by rw [← hge2];exact hye
      (have tk:=zb Tryz.prog);repeat' (first|(refine zy (fun i=>decide (i<20)) (by simp only [inH,idsH,hsel,AV.ids,AV.idsL,AV.idsR,AObj.ids,hget,go_sem,aeq,aeq.aeqF,simprocAttr]) ?_;simp only [go_sem,aeq,aeq.aeqF,simprocAttr,hyb,hsel,keepT];refine zH ?_;simp only [go_sem,aeq,aeq.aeqF,simprocAttr,hyb])|((first|(refine ya ?_;intro K hK)|refine yb ?_);simp only [go_sem,aeq,aeq.aeqF,simprocAttr,hyb])|refine zj (fun K hK=>?_)|refine sc ?_|refine zi rfl (fun hc=>?_) (fun hc=>?_)|(refine hK _ ?_;clear hK K)|((first|refine (show AS.le _ _ from ?_)|refine (show leH _ _ from ?_)|refine (show inH _ _ from ?_));simp only [AS.le,leT,leH,zc,AsgK,AV.le,AV.leL,AObj.le,inH,idsT,idsH,AV.ids,AV.idsL,AV.idsR,AObj.ids,lk,hget,go_sem,aeq,aeq.aeqF,simprocAttr,hyb])|refine fun (r2:Rnd _)=>?_|refine fun (nb:Bool) (hnb:nb=true→_)=>?_|with_reducible refine And.intro ?_ ?_|exact ‹_<+:_› |omega|assumption|refine fun (hg:(_:Bool)=(_:Bool))=>?_|clear hK K)
      ·rintro zs rfl
       rw [← hg,(hf2 hJne).2]
       simp
      ·exact ⟨Y.2,rfl,by rw [← (hf2 hJne).1];exact hge2⟩
    ·have hcj:decide ((j:Int)<16)=false:=decide_eq_false (by omega)
     have hj16:j=16:=by omega
     subst hj16
     rw [show 16 - 16=0 from rfl,rlJ] at hg hge2
     have hJ3:=hf3 hge2.symm
     (have tk:=zb Tryz.prog);repeat' (first|(refine zy (fun i=>decide (i<20)) (by simp only [inH,idsH,hsel,AV.ids,AV.idsL,AV.idsR,AObj.ids,hget,go_sem,aeq,aeq.aeqF,simprocAttr]) ?_;simp only [go_sem,aeq,aeq.aeqF,simprocAttr,hcj,hRea,hsel,keepT];refine zH ?_;simp only [go_sem,aeq,aeq.aeqF,simprocAttr,hcj,hRea])|((first|(refine ya ?_;intro K hK)|refine yb ?_);simp only [go_sem,aeq,aeq.aeqF,simprocAttr,hcj,hRea])|refine zj (fun K hK=>?_)|refine sc ?_|refine zi rfl (fun hc=>?_) (fun hc=>?_)|(refine hK _ ?_;clear hK K)|((first|refine (show AS.le _ _ from ?_)|refine (show leH _ _ from ?_)|refine (show inH _ _ from ?_));simp only [AS.le,leT,leH,zc,AsgK,AV.le,AV.leL,AObj.le,inH,idsT,idsH,AV.ids,AV.idsL,AV.idsR,AObj.ids,lk,hget,go_sem,aeq,aeq.aeqF,simprocAttr,hcj,hRea])|refine fun (r2:Rnd _)=>?_|refine fun (nb:Bool) (hnb:nb=true→_)=>?_|with_reducible refine And.intro ?_ ?_|exact ‹_<+:_› |omega|assumption|refine fun (hg:(_:Bool)=(_:Bool))=>?_|clear hK K)
     exact ⟨⟨(i+1,ys),by show i+1≤4;omega,by rw [← hR,← hJ3.2,← hg];simp,by rw [← hR];exact hJ3.1⟩,by simp only [AS.le,leT,leH,zc,AsgK,AV.le,AV.leL,AObj.le,inH,idsT,idsH,AV.ids,AV.idsL,AV.idsR,AObj.ids,lk,hget,go_sem,aeq,aeq.aeqF,simprocAttr,hwi,hRea],by simp;omega⟩
   exact ⟨0,rfl⟩
  ·have hb:(X.2==0)=false:=by simpa using he
   have hb2:(X.2 !=0)=true:=by simpa using he
   rw [if_pos (by simpa using he)] at hf hfe
   (have tk:=zb Tryz.prog);repeat' (first|(refine zy (fun i=>decide (i<20)) (by simp only [inH,idsH,hsel,AV.ids,AV.idsL,AV.idsR,AObj.ids,hget,go_sem,aeq,aeq.aeqF,simprocAttr]) ?_;simp only [go_sem,aeq,aeq.aeqF,simprocAttr,hb,hb2,hsel,keepT];refine zH ?_;simp only [go_sem,aeq,aeq.aeqF,simprocAttr,hb,hb2])|((first|(refine ya ?_;intro K hK)|refine yb ?_);simp only [go_sem,aeq,aeq.aeqF,simprocAttr,hb,hb2])|refine zj (fun K hK=>?_)|refine sc ?_|refine zi rfl (fun hc=>?_) (fun hc=>?_)|(refine hK _ ?_;clear hK K)|((first|refine (show AS.le _ _ from ?_)|refine (show leH _ _ from ?_)|refine (show inH _ _ from ?_));simp only [AS.le,leT,leH,zc,AsgK,AV.le,AV.leL,AObj.le,inH,idsT,idsH,AV.ids,AV.idsL,AV.idsR,AObj.ids,lk,hget,go_sem,aeq,aeq.aeqF,simprocAttr,hb,hb2])|refine fun (r2:Rnd _)=>?_|refine fun (nb:Bool) (hnb:nb=true→_)=>?_|with_reducible refine And.intro ?_ ?_|exact ‹_<+:_› |omega|assumption|refine fun (hg:(_:Bool)=(_:Bool))=>?_|clear hK K)
   ·rintro zs rfl
    rw [← hf]
    simp
   ·exact ⟨X.2,rfl,hfe⟩
 ·have hcmp:decide ((i:Int)<4)=false:=decide_eq_false (by omega)
  have h4:i=4:=by omega
  subst h4
  rw [show 4 - 4=0 from rfl,rlI] at hf hfe
  (have tk:=zb Tryz.prog);repeat' (first|(refine zy (fun i=>decide (i<20)) (by simp only [inH,idsH,hsel,AV.ids,AV.idsL,AV.idsR,AObj.ids,hget,go_sem,aeq,aeq.aeqF,simprocAttr]) ?_;simp only [go_sem,aeq,aeq.aeqF,simprocAttr,hRea,hcmp,hsel,keepT];refine zH ?_;simp only [go_sem,aeq,aeq.aeqF,simprocAttr,hRea,hcmp])|((first|(refine ya ?_;intro K hK)|refine yb ?_);simp only [go_sem,aeq,aeq.aeqF,simprocAttr,hRea,hcmp])|refine zj (fun K hK=>?_)|refine sc ?_|refine zi rfl (fun hc=>?_) (fun hc=>?_)|(refine hK _ ?_;clear hK K)|((first|refine (show AS.le _ _ from ?_)|refine (show leH _ _ from ?_)|refine (show inH _ _ from ?_));simp only [AS.le,leT,leH,zc,AsgK,AV.le,AV.leL,AObj.le,inH,idsT,idsH,AV.ids,AV.idsL,AV.idsR,AObj.ids,lk,hget,go_sem,aeq,aeq.aeqF,simprocAttr,hRea,hcmp])|refine fun (r2:Rnd _)=>?_|refine fun (nb:Bool) (hnb:nb=true→_)=>?_|with_reducible refine And.intro ?_ ?_|exact ‹_<+:_› |omega|assumption|refine fun (hg:(_:Bool)=(_:Bool))=>?_|clear hK K)
  ·rintro zs rfl
   rw [← hf]
   simp
  ·exact ⟨0,rfl,hfe⟩
open Go Go.Proofs
@[go_sem] abbrev hRe0 (d:Disk) (p:Plan):AHeap:= [(6,.var [.nils 1]),(5,.var (wkP p ⟨0,0⟩ d 0)),(4,(.var [.d (.sl 1 (p.targets.map intD)),.d (.sl 1 (p.texts.map strD))])),(3,(.var [.d (.str d.data),.d (.sl 2 (d.cache.map putD)),.d (.int .i64 d.fuse),.d (.bool d.off),.d (.sl 1 (d.bad.map intD))]))]
theorem zoQ (d:Disk) (p:Plan) (l1:Int):ACall Tryz.prog 126 10 [.vp 5 0,.d (.int .i64 l1)] (hRe0 d p) (fun r h'=>r= .fn (.func 195) [] [.vp 10 0,.vp 11 0]∧h'=(11,.var [.d (.int .i64 l1)])::(10,.var [.vp 5 0])::hRe0 d p):=by
 refine bod Tryz.func126 Tryz.ntmps126 (fun base=>?_)
 (repeat' (first|(refine hK _ ?_;clear hK K)|refine wa fun K hK=>?_|refine wb ?_|refine wc ?_ ?_|refine fun (nb:Bool) (hnb:nb=true→_)=>?_|exact we|clear hK K))
theorem zqU {p:Nat→Bool} {h:AHeap} (hin:inH (hsel p h) (idsH (hsel p h))):zgj p h:=fun i o ho hp j hj=>by
 have h1:hget (hsel p h) i=some o:=by rw [zk,if_pos hp];exact ho
 have:=zeV hin j (zes h1 j hj)
 rw [zk] at this
 cases hb:p j with
 |true=>rfl
 |false=>rw [hb] at this;simp at this
theorem zmv (d:Disk) (p:Plan) (l1:Int) (h:DP d p):ACall Tryz.prog 47 3 [diskA d,planA p,.d (.int .i64 l1)] [] (fun r h'=>((reach d p l1).2≠0∧r= .tup [.nils 1,.d (.int .i64 (reach d p l1).2)]∧∃a,h'= [(12,.arr 1 a)])∨((reach d p l1).2=0∧r= .tup [.osl 12 1 (reach d p l1).1.length 0 (reach d p l1).1.length,.d (.int .i64 0)]∧h'= [(12,.arr 1 ((reach d p l1).1.map intD))])):=by
 refine zR (fun i=>decide (i=12)) ?_
 refine bod Tryz.func47 Tryz.ntmps47 (fun base=>?_)
 have hr:=znw (d:=d) (p:=p) (l1:=l1)
 have hll:=zqT (d:=d) (p:=p) (l1:=l1) 4 0
 have hit:=zkY d p l1 h
 obtain ⟨L,hL⟩:∃L,L=rlI d p l1 4 0:=⟨_,rfl⟩
 rw [← hL] at hr hll hit
 (repeat' (first|(refine hK _ ?_;clear hK K)|refine wa fun K hK=>?_|refine wb ?_|refine wc ?_ ?_|refine wl ?_|refine fun (r2:Rnd _)=>?_|refine fun (nb:Bool) (hnb:nb=true→_)=>?_|exact ‹_<+:_› |exact we|refine fun (hc:_=(_:Bool))=>?_|clear hK K))
 refine ((zoQ d p l1).whole (zap rfl) (by omega) ?_).mono ?_
 ·rintro r h' ⟨rfl,rfl⟩ i hi
  revert hi
  simp only [hget]
  repeat' split
  all_goals simp
 rintro r h' ⟨rfl,rfl⟩
 (repeat' (first|(refine hK _ ?_;clear hK K)|refine wa fun K hK=>?_|refine wb ?_|refine wc ?_ ?_|refine wl ?_|refine fun (r2:Rnd _)=>?_|refine fun (nb:Bool) (hnb:nb=true→_)=>?_|exact ‹_<+:_› |exact we|refine fun (hc:_=(_:Bool))=>?_|clear hK K))
 refine zpi 6 0 1 (cs:= [.nils 1]) rfl rfl ?_
 obtain ⟨I,hI⟩:∃I:List (List AV)→AHeap×Option (List (List AV)),I=fun xs=>([(12,.arr 1 ((L.1.take xs.length).map intD)),(6,.var [.osl 12 1 xs.length 0 xs.length]),(4,(.var [.d (.sl 1 (p.targets.map intD)),.d (.sl 1 (p.texts.map strD))])),(3,(.var [.d (.str d.data),.d (.sl 2 (d.cache.map putD)),.d (.int .i64 d.fuse),.d (.bool d.off),.d (.sl 1 (d.bad.map intD))]))],some []):=⟨_,rfl⟩
 refine aw_le ⟨[(8,true,.vp 5 0),(9,true,.vp 6 0),(17,true,.fn (.func 195) [] [.vp 10 0,.vp 11 0])],(12,.arr 1 [])::(6,.var [.osl 12 1 0 0 0])::(4,(.var [.d (.sl 1 (p.targets.map intD)),.d (.sl 1 (p.texts.map strD))]))::(3,(.var [.d (.str d.data),.d (.sl 2 (d.cache.map putD)),.d (.int .i64 d.fuse),.d (.bool d.off),.d (.sl 1 (d.bad.map intD))]))::hRea d p l1 0,some []⟩ (by simp only [AS.le,leT,leH,zc,AsgK,AV.le,AV.leL,AObj.le,inH,idsT,idsH,AV.ids,AV.idsL,AV.idsR,AObj.ids,lk,hget,go_sem,aeq,aeq.aeqF,simprocAttr,fresh,top,hset,hRea]) ?_
 refine zgl (Kit:=fun gg h'=>(∀xs,gg=some xs→xs=L.1.map intI)∧∃e,h'=hRea d p l1 e∧(gg≠none→e=L.2)) (items:=L.1.map intI) (fl:=20) (fun i=>i==5||i==10||i==11) I (fun _ _ _=>False) rfl rfl hit (zap rfl) (by simp [cxOf]) (zqU ?_) (by simp [AV.idsL,AV.ids]) ?_ ?_ (by rw [hI]) ?_ (fun _ _ _ h=>h.elim) ?_ (by intro x hx;obtain ⟨q,_,rfl⟩:=List.mem_map.1 hx;rfl) (by simp [cxOf]) ?_ ?_ (fun _ _ _ _ _ h=>h.elim)
 ·simp [hsel,inH,idsH,AObj.ids,AV.idsL,AV.ids,hget,wkP]
 ·rw [hI]
  simp [hsel,leH,hget,AObj.le,AV.leL,AV.le]
 ·rw [hI]
  simp [inH,idsH,AObj.ids,AV.idsL,AV.ids,hget]
 ·intro xs _ i hi
  rw [hI] at hi
  simp only [hget] at hi
  repeat' split at hi
  all_goals first|(simp;omega)|simp at hi
 ·rintro gg h' ⟨h1,e,rfl,h2⟩
  refine ⟨fun i hi=>?_,h1⟩
  simp only [hget] at hi
  repeat' split at hi
  all_goals first|(simp;omega)|simp at hi
 ·intro xs x hpre l2 r1
  obtain ⟨ys,q,zs,hys,rfl,hzl⟩:=zeg hpre
  have hln:xs.length=ys.length:=by rw [hys];simp
  have hqL:L.1[xs.length]?=some q:=by rw [hzl,hln];simp
  have htk:=zaZ hqL
  have hxl:=(List.getElem?_eq_some_iff.1 hqL).1
  obtain ⟨A,hA⟩:∃A:List (List D),A=(L.1.take xs.length).map intD:=⟨_,rfl⟩
  have hAl:A.length=xs.length:=by rw [hA,List.length_map,List.length_take];omega
  simp only [intI]
  refine aw_le ⟨[(18,true,.d (.int .i64 q)),(9,true,.vp 6 0)],[(12,.arr 1 A),(6,.var [.osl 12 1 xs.length 0 xs.length]),(4,(.var [.d (.sl 1 (p.targets.map intD)),.d (.sl 1 (p.texts.map strD))])),(3,(.var [.d (.str d.data),.d (.sl 2 (d.cache.map putD)),.d (.int .i64 d.fuse),.d (.bool d.off),.d (.sl 1 (d.bad.map intD))]))],some []⟩ (by rw [hI,hA];simp only [AS.le,leT,leH,zc,AsgK,AV.le,AV.leL,AObj.le,inH,idsT,idsH,AV.ids,AV.idsL,AV.idsR,AObj.ids,lk,hget,go_sem,aeq,aeq.aeqF,simprocAttr]) ?_
  (have tk:=zb Tryz.prog);repeat' (first|((first|(refine sa ?_;intro K hK)|refine sb ?_);simp only [go_sem,aeq,aeq.aeqF,simprocAttr,hAl,hI,List.length_append,htk,List.map_append,← hA,Tryz.results47])|refine zj (fun K hK=>?_)|refine sc ?_|refine zi rfl (fun hc=>?_) (fun hc=>?_)|(refine hK _ ?_;clear hK K)|((first|refine (show AS.le _ _ from ?_)|refine (show leH _ _ from ?_)|refine (show inH _ _ from ?_));simp only [AS.le,leT,leH,zc,AsgK,AV.le,AV.leL,AObj.le,inH,idsT,idsH,AV.ids,AV.idsL,AV.idsR,AObj.ids,lk,hget,go_sem,aeq,aeq.aeqF,simprocAttr,hAl,hI,List.length_append,htk,List.map_append,← hA])|refine fun (r2:Rnd _)=>?_|refine fun (nb:Bool) (hnb:nb=true→_)=>?_|with_reducible refine And.intro ?_ ?_|exact ‹_<+:_› |(refine (show zV _ _=true from ?_);kernel_rfl)|omega|assumption|clear hK K)
  rfl
 ·rintro h1 ⟨_,e,rfl,he⟩
  obtain rfl:=he (by simp)
  rw [hI]
  by_cases hz:L.2=0
  ·have hb:(L.2 !=0)=false:=by simpa using hz
   rw [if_neg (by simpa using hz)] at hr
   (have tk:=zb Tryz.prog);repeat' (first|((first|(refine sa ?_;intro K hK)|refine sb ?_);simp only [go_sem,aeq,aeq.aeqF,simprocAttr,hb,hRea,List.length_map,List.take_length,Tryz.results47])|refine zj (fun K hK=>?_)|refine sc ?_|refine zi rfl (fun hc=>?_) (fun hc=>?_)|(refine hK _ ?_;clear hK K)|((first|refine (show AS.le _ _ from ?_)|refine (show leH _ _ from ?_)|refine (show inH _ _ from ?_));simp only [AS.le,leT,leH,zc,AsgK,AV.le,AV.leL,AObj.le,inH,idsT,idsH,AV.ids,AV.idsL,AV.idsR,AObj.ids,lk,hget,go_sem,aeq,aeq.aeqF,simprocAttr,hb,hRea,List.length_map,List.take_length])|refine fun (r2:Rnd _)=>?_|refine fun (nb:Bool) (hnb:nb=true→_)=>?_|with_reducible refine And.intro ?_ ?_|exact ‹_<+:_› |(refine (show zV _ _=true from ?_);kernel_rfl)|omega|assumption|clear hK K)
   all_goals first|rfl|skip
   rw [hr]
   exact .inr ⟨rfl,rfl,rfl⟩
  ·have hb:(L.2 !=0)=true:=by simpa using hz
   rw [if_pos hz] at hr
   (have fx:=hb;repeat' (first|(refine hK _ ?_;clear hK K)|refine wa fun K hK=>?_|refine wb ?_|refine wc ?_ ?_|refine wl ?_|refine fun (r2:Rnd _)=>?_|refine fun (nb:Bool) (hnb:nb=true→_)=>?_|exact ‹_<+:_› |exact we|refine fun (hc:_=(_:Bool))=>?_|clear hK K))
   all_goals first|rfl|skip
   rw [hr]
   exact .inl ⟨hz,rfl,_,rfl⟩
theorem zqV (d:Disk) (p:Plan) (l1:Int) (h:DP d p):AC 47 [diskA d,planA p,.d (.int .i64 l1)] (.tup [.d (.sl 1 ((reach d p l1).1.map intD)),.d (.int .i64 (reach d p l1).2)]):=by
 refine zg6 (((zmv d p l1 h).low (Nat.zero_le _)).mono ?_)
 have hr:=znw (d:=d) (p:=p) (l1:=l1)
 rintro r h' (⟨hz,rfl,a,rfl⟩|⟨hz,rfl,rfl⟩)
 ·have he:(reach d p l1).1= []:=by
   rw [hr] at hz ⊢
   split
   ·rfl
   ·rename_i h1;rw [if_neg h1] at hz;exact absurd rfl hz
  simp only [go_sem,aeq,aeq.aeqF,simprocAttr,he]
 ·simp only [go_sem,aeq,aeq.aeqF,simprocAttr,hz,List.length_map,List.take_length,List.take_of_length_le (Nat.le_refl _)]
@[go_sem] noncomputable def zmw:Ent Tryz.prog 47:= .m3 zq zw (intT .i64) zqV
theorem zmx {d:Disk} {by_:Int} :∀ (l:List Int) (s:Wk),s.e≠0→l.foldl (fun s k=>wcount d s k by_) s=s
 | [],s,h=>rfl
 |k::l,s,h=>by
  have:wcount d s k by_=s:=by rw [wcount,if_pos h]
  rw [List.foldl_cons,this]
  exact zmx l s h
theorem zqW {d:Disk} {by_:Int} :∀ (l:List Int) (q:Plan),(l.foldl (fun s k=>wcount d s k by_) (Wk.mk q 0)).e=(shareK d by_ l q).2∧((shareK d by_ l q).2=0→(l.foldl (fun s k=>wcount d s k by_) (Wk.mk q 0)).q=(shareK d by_ l q).1)
 | [],q=>⟨rfl,fun _=>rfl⟩
 | k::l,q=>by
  have hw:wcount d ⟨q,0⟩ k by_=⟨(radd d q k by_).1,(radd d q k by_).2⟩:=by rw [wcount,if_neg (by simp)]
  rw [List.foldl_cons,hw,shareK]
  by_cases h:(radd d q k by_).2=0
  ·rw [if_neg (by simpa using h),h]
   exact zqW l _
  ·rw [if_pos h,zmx l _ h]
   exact ⟨rfl,fun h2=>absurd h2 h⟩
theorem ziG {d:Disk} {by_:Int} :∀ (l:List Int) {s:Wk},DP d s.q→DP d (l.foldl (fun s k=>wcount d s k by_) s).q
 | [],s,h=>h
 |k::l,s,h=>ziG l (h.wcount k by_)
theorem zqX (d:Disk) (p:Plan) (l1 by_:Int) (h:DP d p):AC 155 [diskA d,planA p,.d (.int .i64 l1),.d (.int .i64 by_)] (.tup [planA (share d p l1 by_).1,.d (.int .i64 (share d p l1 by_).2)]):=by
 refine zg6 (ACall.low (fl:=2) ?_ (Nat.zero_le _))
 refine bod Tryz.func155 Tryz.ntmps155 (fun base=>?_)
 have hrl:=zkO (d:=d) (p:=p) (t:=l1)
 obtain ⟨W,hW⟩:∃W,W=reach d p l1:=⟨_,rfl⟩
 rw [← hW] at hrl
 have hsh:share d p l1 by_=if W.2≠0 then (p,W.2) else if (shareK d by_ W.1 p).2≠0 then (p,(shareK d by_ W.1 p).2) else shareK d by_ W.1 p:=by rw [share,hW]
 (have tk:=za zmw <| zb Tryz.prog;have fx:=hW.symm;repeat' (first|(refine hK _ ?_;clear hK K)|refine wa fun K hK=>?_|refine wb ?_|refine wc ?_ ?_|refine fun (nb:Bool) (hnb:nb=true→_)=>?_|exact we|refine fun (hc:_=(_:Bool))=>?_|clear hK K))
 obtain ⟨F,hF⟩:∃F:Nat→Wk,F=fun i=>(W.1.take i).foldl (fun s k=>wcount d s k by_) ⟨p,W.2⟩:=⟨_,rfl⟩
 have hF0:F 0=⟨p,W.2⟩:=by rw [hF];rfl
 have hFd:∀i,DP d (F i).q:=fun i=>by rw [hF];exact ziG _ h
 refine zo (fun q: { i:Nat // i≤W.1.length } =>⟨[(3,true,.d (.int .i64 by_)),(4,true,.vp 2 0),(5,true,.vp 3 0),(8,true,.vp 4 0),(12,true,.vp 5 0),(27,true,.d (.sl 1 (W.1.map intD))),(28,true,.d (.int .i64 W.1.length)),(29,true,.d (.int .i64 q.1))],[(5,.var (wkP (F q.1).q ⟨0,0⟩ d (F q.1).e)),(4,.var [.nils 1,.nils 1]),(3,(.var [.d (.sl 1 (p.targets.map intD)),.d (.sl 1 (p.texts.map strD))])),(2,(.var [.d (.str d.data),.d (.sl 2 (d.cache.map putD)),.d (.int .i64 d.fuse),.d (.bool d.off),.d (.sl 1 (d.bad.map intD))]))],some []⟩) (fun q=>W.1.length - q.1) ⟨0,Nat.zero_le _⟩ (by simp only [hF0];simp only [AS.le,leT,leH,zc,AsgK,AV.le,AV.leL,AObj.le,inH,idsT,idsH,AV.ids,AV.idsL,AV.idsR,AObj.ids,lk,hget,go_sem,aeq,aeq.aeqF,simprocAttr]<;>and_intros<;>rfl) (fun q=>?_)
 obtain ⟨i,hi⟩:=q
 simp only
 rcases zT intD W.1 i hi with ⟨u,hq,hlt,hcmp,hrow,hdr,htk⟩|⟨hend,hcmp⟩
 ·simp only [intD] at hrow
  have hwi:=zp (i:=i) (by omega)
  have hFs:F (i+1)=wcount d (F i) u by_:=by rw [hF];simp only [htk,List.foldl_append,List.foldl_cons,List.foldl_nil]
  (have tk:=zb Tryz.prog;have fx:=(⟨hcmp,hrow⟩:_∧_);repeat' (first|(refine hK _ ?_;clear hK K)|refine wa fun K hK=>?_|refine wb ?_|refine wc ?_ ?_|refine fun (nb:Bool) (hnb:nb=true→_)=>?_|exact we|refine fun (hc:_=(_:Bool))=>?_|clear hK K))
  refine ((zsC ⟨0,0⟩ d (F i) u by_ (hFd i)).one (fl':=2) rfl rfl (zap rfl) rfl (by simp [AObj.ids,AV.idsL,AV.ids,wkP]) (by simp [AV.idsL,AV.ids]) (by omega)).mono ?_
  rintro r h' ⟨ob',⟨rfl,rfl⟩,rfl⟩
  rw [← hFs]
  simp only [go_sem,aeq,aeq.aeqF,simprocAttr]
  refine hK _ ?_
  clear hK K
  (have tk:=zb Tryz.prog;have fx:=Go.Aw.fx;repeat' (first|(refine hK _ ?_;clear hK K)|refine wa fun K hK=>?_|refine wb ?_|refine wc ?_ ?_|refine fun (nb:Bool) (hnb:nb=true→_)=>?_|exact we|refine fun (hc:_=(_:Bool))=>?_|clear hK K))
  exact ⟨⟨i+1,by omega⟩,lev,by simp;omega⟩
 ·have hFe:F i=W.1.foldl (fun s k=>wcount d s k by_) ⟨p,W.2⟩:=by rw [hF,hend];simp only [List.take_length]
  obtain ⟨G,hG⟩:∃G,G=F i:=⟨_,rfl⟩
  rw [← hG] at hFe ⊢
  have hfin:share d p l1 by_=if G.e≠0 then (p,G.e) else (G.q,0):=by
   rw [hsh]
   by_cases hz:W.2=0
   ·rw [hz] at hFe
    obtain ⟨s1,s2⟩:=zqW (d:=d) (by_:=by_) W.1 p
    rw [← hFe] at s1 s2
    rw [if_neg (by simpa using hz),← s1]
    by_cases h5:G.e=0
    ·rw [if_neg (by simpa using h5),if_neg (by simpa using h5),s2 (by rw [← s1];exact h5),← h5,s1]
    ·rw [if_pos h5,if_pos h5]
   ·rw [zmx _ _ hz] at hFe
    rw [if_pos hz,hFe,if_pos hz]
  by_cases h5:G.e=0
  ·have hb:(G.e !=0)=false:=by simpa using h5
   rw [if_neg (by simpa using h5)] at hfin
   (have tk:=zb Tryz.prog;have fx:=(⟨hcmp,hb⟩:_∧_);repeat' (first|(refine hK _ ?_;clear hK K)|refine wa fun K hK=>?_|refine wb ?_|refine wc ?_ ?_|refine fun (nb:Bool) (hnb:nb=true→_)=>?_|exact we|refine fun (hc:_=(_:Bool))=>?_|clear hK K))
   rw [hfin]
  ·have hb:(G.e !=0)=true:=by simpa using h5
   rw [if_pos h5] at hfin
   (have tk:=zb Tryz.prog;have fx:=(⟨hcmp,hb⟩:_∧_);repeat' (first|(refine hK _ ?_;clear hK K)|refine wa fun K hK=>?_|refine wb ?_|refine wc ?_ ?_|refine fun (nb:Bool) (hnb:nb=true→_)=>?_|exact we|refine fun (hc:_=(_:Bool))=>?_|clear hK K))
   rw [hfin]
@[go_sem] noncomputable def zcX:Ent Tryz.prog 155:= .m4 zq zw (intT .i64) (intT .i64) zqX
open Go Go.Proofs
theorem zt8 (s:Snp) (id:Int) (h0:0≤id):ACall Tryz.prog 228 0 [snpA s,.dp [.d (.int .u32 id)]] [] (fun r _=>r= .d (.bool (id !=0&&s.id==id))):=by
 have hb:decide (0<id)=(id !=0):=by
  rw [Bool.eq_iff_iff,decide_eq_true_eq,bne_iff_ne]
  omega
 refine fbod Tryz.func228 Tryz.ntmps228 (fun base=>?_)
 cases hz:(id !=0) with
 |true=>
  rw [hz] at hb
  (have fx:=hb;repeat' (first|(refine hK _ ?_;clear hK K)|refine wa fun K hK=>?_|refine wb ?_|refine wc ?_ ?_|exact we|refine fun (hc:_=(_:Bool))=>?_|clear hK K))
 |false=>
  rw [hz] at hb
  (have fx:=hb;repeat' (first|(refine hK _ ?_;clear hK K)|refine wa fun K hK=>?_|refine wb ?_|refine wc ?_ ?_|exact we|refine fun (hc:_=(_:Bool))=>?_|clear hK K))
@[go_sem] noncomputable def zqY:Ent Tryz.prog 228:= .ofL (consL zfo (consL (dpT (consL (intT .u32) nilL) (fun p=>p) (fun p=>p) (fun _=>rfl)) nilL)) (fun (s,(id,_),_)=>0≤id) (fun (s,(id,_),_)=> .d (.bool (id !=0&&s.id==id))) (fun (s,(id,_),_) hp=>⟨rfl,zt8 s id hp⟩)
theorem zqZ (l:List Snp) (id:Int) (h0:0≤id) (hl:l.length≤9223372036854775807):ACall Tryz.prog 146 0 [.d (.sl 3 (l.map snpD)),.fn (.func 228) [] [.dp [.d (.int .u32 id)]]] [] (fun r _=>r= .d (.int .i64 (idxP (fun s=>id !=0&&s.id==id) l 0))):=by
 refine bod Tryz.func146 Tryz.ntmps146 (fun base=>?_)
 (repeat' (first|(refine hK _ ?_;clear hK K)|refine wa fun K hK=>?_|refine wb ?_|refine wc ?_ ?_|exact we|refine fun (hc:_=(_:Bool))=>?_|clear hK K))
 refine zo (fun q:Idst (fun s=>id !=0&&s.id==id) l=>⟨[(0,true,.d (.sl 3 (l.map snpD))),(1,true,.fn (.func 228) [] [.dp [.d (.int .u32 id)]]),(7,true,.d (.int .i64 l.length)),(8,true,.d (.int .i64 q.1))],[],some []⟩) (fun q=>l.length - q.1) ⟨0,Nat.zero_le _,rfl⟩ le1 (fun q=>?_)
 obtain ⟨i,hi,hf⟩:=q
 simp only at hi hf ⊢
 rcases zT snpD l i hi with ⟨⟨m,s,u⟩,hq,hlt,hcmp,hrow,hdr,htk⟩|⟨hend,hcmp⟩
 ·simp only [snpD] at hrow
  have hwi:=zp (i:=i) (by omega)
  (have tk:=za zqY <| zb Tryz.prog;have fx:=(⟨hcmp,hrow⟩:_∧_);repeat' (first|(refine hK _ ?_;clear hK K)|refine wa fun K hK=>?_|refine wb ?_|refine wc ?_ ?_|exact we|refine fun (hc:_=(_:Bool))=>?_|clear hK K))
  ·rw [hf,hdr,idxP,if_pos (by simpa using hc)]
  ·exact ⟨⟨i+1,by omega,by rw [hf,hdr,idxP,if_neg (by simpa using hc)]⟩,lew,by simp;omega⟩
 ·(have tk:=zb Tryz.prog;have fx:=hcmp;repeat' (first|(refine hK _ ?_;clear hK K)|refine wa fun K hK=>?_|refine wb ?_|refine wc ?_ ?_|exact we|refine fun (hc:_=(_:Bool))=>?_|clear hK K))
  rw [hf,hend,List.drop_length]
  rfl
@[go_sem] noncomputable def zmy:Ent Tryz.prog 146:= .ofL (consL (slT 3 snpD zdf) (consL (fnT 228 (consL (dpT (consL (intT .u32) nilL) (fun p=>p) (fun p=>p) (fun _=>rfl)) nilL)) nilL)) (fun (l,((id,_),_),_)=>(0≤id)∧(l.length≤9223372036854775807)) (fun (l,((id,_),_),_)=> .d (.int .i64 (idxP (fun s=>id !=0&&s.id==id) l 0))) (fun (l,((id,_),_),_) hp=>⟨rfl,zqZ l id hp.1 hp.2⟩)
theorem zkZ (a:Ws) (id:Int) (hl:a.L.length≤9223372036854775807) (h0:0≤id):ACall Tryz.prog 165 60 [.vp 21 0,.d (.int .u32 id)] [(21,.var (wkS a))] (fun r h'=>r= .d (.int .i64 (sfind a.L id))∧h'= [(21,.var (wkS a))]):=by
 refine zR (fun i=>decide (i=21)) ?_
 refine bod Tryz.func165 Tryz.ntmps165 (fun base=>?_)
 (have tk:=za zmy <| zb Tryz.prog;repeat' (first|(refine hK _ ?_;clear hK K)|refine wa fun K hK=>?_|refine wb ?_|refine wc ?_ ?_|refine fun (nb:Bool) (hnb:nb=true→_)=>?_|exact we|clear hK K))
 all_goals first|omega|skip
 all_goals rfl
def ssn (a:Ws) (id:Int):Snp×Int×Ws:=if a.e≠0 then (snp0,0,a) else if sfind a.L id<0 then (snp0,sfind a.L id, { a with e:=21 }) else (snpAt a.L (sfind a.L id),sfind a.L id,a)
theorem zjA (a:Ws) (id:Int) (hl:a.L.length≤8) (h0:0≤id):ACall Tryz.prog 89 40 [.vp 21 0,.d (.int .u32 id)] [(21,.var (wkS a))] (fun r h'=>r= .tup [snpA (ssn a id).1,.d (.int .i64 (ssn a id).2.1)]∧h'= [(21,.var (wkS (ssn a id).2.2))]):=by
 refine zR (fun i=>decide (i=21)) ?_
 refine bod Tryz.func89 Tryz.ntmps89 (fun base=>?_)
 obtain ⟨B,hB⟩:∃B:Snp→Int→Ws→AHeap,B=fun s k a=> [(43,.var [.d (.int .i64 k)]),(42,.var [.d (.int .u32 s.id),.d (.int .i64 s.l1),.d (.str s.name)]),(41,.var [.d (.int .u32 id)]),(40,.var [.vp 21 0]),(21,.var (wkS a))]:=⟨_,rfl⟩
 obtain ⟨l,hll⟩:∃l:List Stp,l= [⟨164,[],[.vp 40 0,.vp 41 0,.vp 43 0,.vp 42 0]⟩]:=⟨_,rfl⟩
 have hok:∀s k a,SOk 50 l (B s k a):=by intro s k a;rw [hB,hll];exact {}
 have hse:∀s k a e,hset (B s k a) 21 (.var (wkS { a with e:=e }))=B s k { a with e:=e } :=by intro s k a e;rw [hB];rfl
 have hge:∀s k a,hget (B s k a) 21=some (.var (wkS a)):=by intro s k a;rw [hB];rfl
 have fin:Runs 50 l (fun h'=>h'=B (ssn a id).1 (ssn a id).2.1 (ssn a id).2.2) l (B snp0 0 a):=by
  conv=>arg 4;rw [hll]
  by_cases he:a.e=0
  ·have hat:=zgN (l:=a.L) (id:=id)
   obtain ⟨J,hJ⟩:∃J,J=sfind a.L id:=⟨_,rfl⟩
   by_cases hJ0:J<0
   ·have hs:ssn a id=(snp0,J, { a with e:=21 }):=by rw [ssn,if_neg (by simpa using he),if_pos (by rw [← hJ];exact hJ0),hJ]
    refine ⟨hok _ _ _,_,_,hge _ _ _,fun h=>absurd he h,fun _=>(zdY (v:= .d (.int .i64 21)) (H':=B snp0 J a) ?_ (by rw [hB];rfl) (by rw [hB];exact zap rfl)).mono ?_⟩
    ·rw [hB]
     have hb:decide (J<0)=true:=decide_eq_true hJ0
     refine bod Tryz.func164 Tryz.ntmps164 (fun base=>?_)
     (repeat' (first|(refine hK _ ?_;clear hK K)|refine wa fun K hK=>?_|refine wb ?_|refine wc ?_ ?_|refine fun (nb:Bool) (hnb:nb=true→_)=>?_|exact we|refine fun (hc:_=(_:Bool))=>?_|clear hK K))
     refine (zfj (zkZ a id (by omega) h0) (by decide) rfl (by simp [AObj.ids,AV.idsL,AV.ids,wkV]) (by simp [AV.idsL,AV.ids])).mono ?_
     rintro r h' ⟨rfl,rfl⟩
     rw [← hJ]
     simp only [go_sem,aeq,aeq.aeqF,simprocAttr,hset]
     (have fx:=hb;repeat' (first|(refine hK _ ?_;clear hK K)|refine wa fun K hK=>?_|refine wb ?_|refine wc ?_ ?_|refine fun (nb:Bool) (hnb:nb=true→_)=>?_|exact we|refine fun (hc:_=(_:Bool))=>?_|clear hK K))
    rintro v h' ⟨rfl,rfl⟩
    exact ⟨_,_,_,rfl,hge _ _ _,by rw [hse];exact ⟨hok _ _ _,by rw [hs]⟩⟩
   ·rw [← hJ] at hat
    obtain ⟨u,hq,hu,hlt,hJn⟩:=hat (by omega)
    have hs:ssn a id=(u,J,a):=by rw [ssn,if_neg (by simpa using he),if_neg (by rw [← hJ];exact hJ0),← hJ,hu]
    refine ⟨hok _ _ _,_,_,hge _ _ _,fun h=>absurd he h,fun _=>(zdY (v:= .d (.int .i64 0)) (H':=B u J a) ?_ (by rw [hB];rfl) (by rw [hB];exact zap rfl)).mono ?_⟩
    ·rw [hB]
     have hb:decide (J<0)=false:=decide_eq_false hJ0
     have hrow:=za8 (g:=snpD) hq
     simp only [snpD] at hrow
     have hlt2:J<(a.L.length:Int):=by omega
     refine bod Tryz.func164 Tryz.ntmps164 (fun base=>?_)
     (have fx:=Go.Aw.fx;repeat' (first|(refine hK _ ?_;clear hK K)|refine wa fun K hK=>?_|refine wb ?_|refine wc ?_ ?_|refine fun (nb:Bool) (hnb:nb=true→_)=>?_|exact we|refine fun (hc:_=(_:Bool))=>?_|clear hK K))
     refine (zfj (zkZ a id (by omega) h0) (by decide) rfl (by simp [AObj.ids,AV.idsL,AV.ids,wkV]) (by simp [AV.idsL,AV.ids])).mono ?_
     rintro r h' ⟨rfl,rfl⟩
     rw [← hJ]
     simp only [go_sem,aeq,aeq.aeqF,simprocAttr,hset]
     (have fx:=(⟨hb,hrow⟩:_∧_);repeat' (first|(refine hK _ ?_;clear hK K)|refine va fun K hK=>?_|refine vb ?_|refine wc ?_ ?_|refine fun (nb:Bool) (hnb:nb=true→_)=>?_|exact we|refine fun (hc:_=(_:Bool))=>?_|clear hK K))
     all_goals first|omega|skip
    rintro v h' ⟨rfl,rfl⟩
    refine ⟨_,_,_,rfl,hge _ _ _,?_⟩
    have:({ a with e:=0 } :Ws)=a:=by rw [← he]
    rw [hse,this]
    exact ⟨hok _ _ _,by rw [hs]⟩
  ·exact Runs.skip (hok _ _ _) (hge _ _ _) he (by rw [ssn,if_pos he]) _
 rw [hll,hB] at fin
 (have fx:=Go.Aw.fx;repeat' (first|(refine hK _ ?_;clear hK K)|refine wa fun K hK=>?_|refine wb ?_|refine wc ?_ ?_|exact we|clear hK K))
 refine (zfA (fl:=50) _ (by decide) (by omega) fin (by rintro h' rfl;exact zcu rfl)).mono ?_
 rintro r h' ⟨rfl,rfl⟩
 (have fx:=Go.Aw.fx;repeat' (first|(refine hK _ ?_;clear hK K)|refine va fun K hK=>?_|refine vb ?_|refine wc ?_ ?_|exact we|clear hK K))
theorem zfB (a:Ws) (l1 by_:Int):ACall Tryz.prog 78 40 [.vp 21 0,.d (.int .i64 l1),.d (.int .i64 by_)] [(21,.var (wkS a))] (fun r h'=>r= .fn (.func 154) [] [.dp [.vp 21 0],.dp [.d (.int .i64 l1)],.dp [.d (.int .i64 by_)]]∧h'= [(21,.var (wkS a))]):=by
 refine bod Tryz.func78 Tryz.ntmps78 (fun base=>?_)
 (repeat' ((fail_if_success refine hds 1 (by rfl) ?_);first|(refine hK _ ?_;clear hK K)|refine wa fun K hK=>?_|refine wb ?_|refine wc ?_ ?_|refine fun (nb:Bool) (hnb:nb=true→_)=>?_|exact we|clear hK K))
 refine zaQ 40 rfl ?_;simp only [go_sem,aeq,aeq.aeqF,simprocAttr]
 refine zaQ 41 rfl ?_;simp only [go_sem,aeq,aeq.aeqF,simprocAttr]
 refine zaQ 42 rfl ?_;simp only [go_sem,aeq,aeq.aeqF,simprocAttr]
 (repeat' (first|(refine hK _ ?_;clear hK K)|refine wa fun K hK=>?_|refine wb ?_|refine wc ?_ ?_|refine fun (nb:Bool) (hnb:nb=true→_)=>?_|exact we|clear hK K))
theorem znx (a:Ws) (l1 by_:Int):ACall Tryz.prog 77 40 [.vp 21 0,.d (.int .i64 l1),.d (.int .i64 by_)] [(21,.var (wkS a))] (fun r h'=>r= .fn (.func 152) [] [.dp [.vp 21 0],.dp [.d (.int .i64 l1)],.dp [.d (.int .i64 by_)]]∧h'= [(21,.var (wkS a))]):=by
 refine bod Tryz.func77 Tryz.ntmps77 (fun base=>?_)
 (repeat' ((fail_if_success refine hds 1 (by rfl) ?_);first|(refine hK _ ?_;clear hK K)|refine wa fun K hK=>?_|refine wb ?_|refine wc ?_ ?_|refine fun (nb:Bool) (hnb:nb=true→_)=>?_|exact we|clear hK K))
 refine zaQ 40 rfl ?_;simp only [go_sem,aeq,aeq.aeqF,simprocAttr]
 refine zaQ 41 rfl ?_;simp only [go_sem,aeq,aeq.aeqF,simprocAttr]
 refine zaQ 42 rfl ?_;simp only [go_sem,aeq,aeq.aeqF,simprocAttr]
 (repeat' (first|(refine hK _ ?_;clear hK K)|refine wa fun K hK=>?_|refine wb ?_|refine wc ?_ ?_|refine fun (nb:Bool) (hnb:nb=true→_)=>?_|exact we|clear hK K))
theorem zq0 (a:Ws) (i:Int) (s:Snp):ACall Tryz.prog 79 40 [.vp 21 0,.d (.int .i64 i),snpA s] [(21,.var (wkS a))] (fun r h'=>r= .fn (.func 156) [] [.dp [.vp 21 0],.dp [.d (.int .i64 i)],.dp [.d (.int .u32 s.id),.d (.int .i64 s.l1),.d (.str s.name)]]∧h'= [(21,.var (wkS a))]):=by
 refine bod Tryz.func79 Tryz.ntmps79 (fun base=>?_)
 (repeat' ((fail_if_success refine hds 1 (by rfl) ?_);first|(refine hK _ ?_;clear hK K)|refine wa fun K hK=>?_|refine wb ?_|refine wc ?_ ?_|refine fun (nb:Bool) (hnb:nb=true→_)=>?_|exact we|clear hK K))
 refine zaQ 40 rfl ?_;simp only [go_sem,aeq,aeq.aeqF,simprocAttr]
 refine zaQ 41 rfl ?_;simp only [go_sem,aeq,aeq.aeqF,simprocAttr]
 refine zaQ 42 rfl ?_;simp only [go_sem,aeq,aeq.aeqF,simprocAttr]
 (repeat' (first|(refine hK _ ?_;clear hK K)|refine wa fun K hK=>?_|refine wb ?_|refine wc ?_ ?_|refine fun (nb:Bool) (hnb:nb=true→_)=>?_|exact we|clear hK K))
def StepW (s:Stp) (a c:Ws):Prop:=∃ (b:Ws) (e:Int),c= { b with e:=e } ∧ACall Tryz.prog s.f 60 (s.fs++s.cs) [(21,.var (wkS a))] (fun r h'=>r= .d (.int .i64 e)∧h'= [(21,.var (wkS b))])∧∀j∈AV.idsL (s.fs++s.cs),j=21
def WI (a:Ws):Prop:=ImgF a.x∧pfit a.q=true
theorem WI.dp {a:Ws} (h:WI a):DP a.x.disk a.q:=⟨h.1.disk,h.2⟩
def wstep (F:Ws→Ws) (a:Ws):Ws:=if a.e≠0 then a else F a
def wrun:List (Stp×(Ws→Ws))→Ws→Ws
 | [],a=>a
 |p::r,a=>wrun r (wstep p.2 a)
def Good (p:Stp×(Ws→Ws)):Prop:=∀a,WI a→a.e=0→WI (p.2 a)∧StepW p.1 a (p.2 a)
theorem Runs.chain {fl:Nat} {all:List Stp} {K:AHeap→Prop} (B:Ws→AHeap) (hok:∀a,SOk fl all (B a)) (hse:∀a b,hset (B a) 21 (.var (wkS b))=B b) (hge:∀a,hget (B a) 21=some (.var (wkS a))):∀ (l:List (Stp×(Ws→Ws))) (a:Ws),WI a→(∀p∈l,Good p)→K (B (wrun l a))→Runs fl all K (l.map (·.1)) (B a)
 | [],a,_,_,hK=>⟨hok a,hK⟩
 | p::r,a,hw,hg,hK=>by
  refine ⟨hok a,a,_,hge a,fun he=>?_,fun he=>?_⟩
  ·rw [wrun,wstep,if_pos he] at hK
   exact Runs.chain B hok hse hge r a hw (fun q hq=>hg q (List.mem_cons_of_mem _ hq)) hK
  ·rw [wrun,wstep,if_neg (by simpa using he)] at hK
   obtain ⟨h1,b,e,hc,h2,h3⟩:=hg p List.mem_cons_self a hw he
   refine (zfj h2 (by decide) (hge a) (by simp [AObj.ids,AV.idsL,AV.ids,wkV]) h3).mono ?_
   rintro v h' ⟨rfl,rfl⟩
   rw [hse]
   refine ⟨b,_,e,rfl,hge b,?_⟩
   rw [hse,← hc]
   exact Runs.chain B hok hse hge r _ h1 (fun q hq=>hg q (List.mem_cons_of_mem _ hq)) hK
def zd5 (l1 by_:Int) (a:Ws):Ws:= { a with q:=(share a.x.disk a.q l1 by_).1,e:=(share a.x.disk a.q l1 by_).2 }
def fCopy (l1 k:Int) (a:Ws):Ws:= { a with q:=(ecopy a.x.disk a.q l1 k).1,e:=(ecopy a.x.disk a.q l1 k).2 }
def fPut (i:Int) (s:Snp) (a:Ws):Ws:= { a with q:=(setsnap a.x.disk a.q i s).1,e:=(setsnap a.x.disk a.q i s).2 }
def fAdd (k:Int) (a:Ws):Ws:= { a with q:=(radd a.x.disk a.q k (-1)).1,e:=(radd a.x.disk a.q k (-1)).2 }
def fDone (a:Ws):Ws:= { a with x:=(cdone a.x a.q).1,e:=(cdone a.x a.q).2 }
def zer (l1 by_:Int):Stp:=⟨154,[],[.dp [.vp 21 0],.dp [.d (.int .i64 l1)],.dp [.d (.int .i64 by_)]]⟩
def cCopy (l1 k:Int):Stp:=⟨152,[],[.dp [.vp 21 0],.dp [.d (.int .i64 l1)],.dp [.d (.int .i64 k)]]⟩
def cPut (i:Int) (s:Snp):Stp:=⟨156,[],[.dp [.vp 21 0],.dp [.d (.int .i64 i)],.dp [.d (.int .u32 s.id),.d (.int .i64 s.l1),.d (.str s.name)]]⟩
def cAdd (s:Snp):Stp:=⟨90,[],[.dp [.vp 21 0],.dp [.d (.int .u32 s.id),.d (.int .i64 s.l1),.d (.str s.name)]]⟩
def cDone:Stp:=⟨82,[.vp 21 0],[]⟩
attribute [go_sem] zer cCopy cPut cAdd cDone
theorem zeK (l1 by_:Int):Good (zer l1 by_,zd5 l1 by_):=by
 intro a hw he
 have hdp:=hw.dp
 refine ⟨⟨hw.1,(hdp.share _ _).p⟩, { a with q:=(share a.x.disk a.q l1 by_).1 },_,rfl,?_,by simp [zer,AV.idsL,AV.ids]⟩
 simp only [zer,List.nil_append]
 refine zR (fun i=>decide (i<60)) ?_
 refine bod Tryz.func154 Tryz.ntmps154 (fun base=>?_)
 (have tk:=za zcX <| za zca <| za zco <| za zbg <| za zcm <| zb Tryz.prog;repeat' (first|(refine hK _ ?_;clear hK K)|refine va fun K hK=>?_|refine vb ?_|refine wc ?_ ?_|refine fun (nb:Bool) (hnb:nb=true→_)=>?_|exact we|clear hK K))
theorem zk0 (l1 k:Int):Good (cCopy l1 k,fCopy l1 k):=by
 intro a hw he
 have hdp:=hw.dp
 refine ⟨⟨hw.1,(hdp.ecopy _ _).p⟩, { a with q:=(ecopy a.x.disk a.q l1 k).1 },_,rfl,?_,by simp [cCopy,AV.idsL,AV.ids]⟩
 simp only [cCopy,List.nil_append]
 refine zR (fun i=>decide (i<60)) ?_
 refine bod Tryz.func152 Tryz.ntmps152 (fun base=>?_)
 (have tk:=za zcX <| za zca <| za zco <| za zbg <| za zcm <| zb Tryz.prog;repeat' (first|(refine hK _ ?_;clear hK K)|refine va fun K hK=>?_|refine vb ?_|refine wc ?_ ?_|refine fun (nb:Bool) (hnb:nb=true→_)=>?_|exact we|clear hK K))
theorem zny (i:Int) (s:Snp) (h0:0≤s.id) (h1:s.id≤4294967295) (hn:s.name.length≤9223372036854775807):Good (cPut i s,fPut i s):=by
 intro a hw he
 have hdp:=hw.dp
 refine ⟨⟨hw.1,(hdp.setsnap _ _).p⟩, { a with q:=(setsnap a.x.disk a.q i s).1 },_,rfl,?_,by simp [cPut,AV.idsL,AV.ids]⟩
 simp only [cPut,List.nil_append]
 refine zR (fun i=>decide (i<60)) ?_
 refine bod Tryz.func156 Tryz.ntmps156 (fun base=>?_)
 (have tk:=za zcX <| za zca <| za zco <| za zbg <| za zcm <| zb Tryz.prog;repeat' (first|(refine hK _ ?_;clear hK K)|refine va fun K hK=>?_|refine vb ?_|refine wc ?_ ?_|refine fun (nb:Bool) (hnb:nb=true→_)=>?_|exact we|clear hK K))
theorem zsH (s:Snp):Good (cAdd s,fAdd s.l1):=by
 intro a hw he
 have hdp:=hw.dp
 refine ⟨⟨hw.1,(hdp.radd _ _).p⟩, { a with q:=(radd a.x.disk a.q s.l1 (-1)).1 },_,rfl,?_,by simp [cAdd,AV.idsL,AV.ids]⟩
 simp only [cAdd,List.nil_append]
 refine zR (fun i=>decide (i<60)) ?_
 refine bod Tryz.func90 Tryz.ntmps90 (fun base=>?_)
 (have tk:=za zcX <| za zca <| za zco <| za zbg <| za zcm <| zb Tryz.prog;repeat' (first|(refine hK _ ?_;clear hK K)|refine va fun K hK=>?_|refine vb ?_|refine wc ?_ ?_|refine fun (nb:Bool) (hnb:nb=true→_)=>?_|exact we|clear hK K))
theorem zhN:Good (cDone,fDone):=by
 intro a hw he
 have hiok:=hw.1.ok
 have hdok:=hw.1.disk
 have hq0:=hw.1.seq0
 have hq1:=hw.1.seq1
 have hq2:=hw.2
 refine ⟨⟨hw.1.done _,hw.2⟩, { a with x:=(cdone a.x a.q).1 },_,rfl,?_,by simp [cDone,AV.idsL,AV.ids]⟩
 simp only [cDone,List.append_nil]
 refine zR (fun i=>decide (i<60)) ?_
 refine bod Tryz.func82 Tryz.ntmps82 (fun base=>?_)
 (have tk:=za zcX <| za zca <| za zco <| za zbg <| za zcm <| zb Tryz.prog;repeat' (first|(refine hK _ ?_;clear hK K)|refine va fun K hK=>?_|refine vb ?_|refine wc ?_ ?_|refine fun (nb:Bool) (hnb:nb=true→_)=>?_|exact we|clear hK K))
open Go Go.Proofs
theorem sbw_L (x:Img) (ch:Bool):(sbw x ch).L.length≤8:=by
 unfold sbw
 split
 ·exact Nat.zero_le _
 ·exact zdX _
theorem ztf {x:Img} (h:ImgF x) (ch:Bool):WI (sbw x ch):=by
 unfold sbw
 split
 ·exact ⟨h,zdc⟩
 ·exact ⟨h,zdc⟩
theorem ztg {x:Img} (h:ImgF x) (ch:Bool) (id:Int):WI (ssn (sbw x ch) id).2.2:=by
 have:=ztf h ch
 unfold ssn
 split
 ·exact this
 split
 ·exact this
 ·exact this
theorem zt9 {x:Img} {id:Int} :zdl x id=((wrun [(zer (ssn (sbw x true) id).1.l1 (-1),zd5 (ssn (sbw x true) id).1.l1 (-1)),(cAdd (ssn (sbw x true) id).1,fAdd (ssn (sbw x true) id).1.l1),(cPut (ssn (sbw x true) id).2.1 snp0,fPut (ssn (sbw x true) id).2.1 snp0),(cDone,fDone)] (ssn (sbw x true) id).2.2).x,(wrun [(zer (ssn (sbw x true) id).1.l1 (-1),zd5 (ssn (sbw x true) id).1.l1 (-1)),(cAdd (ssn (sbw x true) id).1,fAdd (ssn (sbw x true) id).1.l1),(cPut (ssn (sbw x true) id).2.1 snp0,fPut (ssn (sbw x true) id).2.1 snp0),(cDone,fDone)] (ssn (sbw x true) id).2.2).e):=by
 have hsk:∀ (l:List (Stp×(Ws→Ws))) (a:Ws),a.e≠0→wrun l a=a:=by
  intro l
  induction l with
  |nil=>intro a _;rfl
  |cons p r ih=>intro a he;rw [wrun,wstep,if_pos he];exact ih a he
 unfold zdl
 cases hb:x.broken with
 |true=>
  have h1:sbw x true=⟨x,⟨0,0⟩,[],p0,24⟩:=by rw [sbw,hb];rfl
  have h2:(ssn (sbw x true) id)=(snp0,0,⟨x,⟨0,0⟩,[],p0,24⟩):=by rw [h1,ssn,if_pos (by show (24:Int)≠0;decide)]
  rw [h2,if_pos rfl,hsk _ _ (by show (24:Int)≠0;decide)]
 | false=>
  have h1:sbw x true=⟨x,(sbeg x.disk).1,(sbeg x.disk).2.1,p0,(sbeg x.disk).2.2⟩:=by rw [sbw,hb];rfl
  rw [h1,if_neg (by decide)]
  by_cases he:(sbeg x.disk).2.2=0
  ·rw [if_neg (by simpa using he)]
   by_cases hj:sfind (sbeg x.disk).2.1 id<0
   ·rw [if_pos hj,ssn,if_neg (by simpa using he),if_pos hj,hsk _ _ (by show (21:Int)≠0;decide)]
   ·rw [if_neg hj,ssn,if_neg (by simpa using he),if_neg hj]
    simp only [wrun,wstep,zd5,fAdd,fPut,fDone,sdelA,sdelB,sdelC,he,ne_eq,not_true_eq_false,if_false]
    repeat' split
    all_goals simp_all
  ·rw [if_pos he,ssn,if_pos he,hsk _ _ he]
theorem zua (x:Img) (id:Int) (hp:ImgF x∧0≤id∧id≤4294967295):AC 30 [imgA x,.d (.int .u32 id)] (.tup [imgA (zdl x id).1,.d (.int .i64 (zdl x id).2)]):=by
 obtain ⟨h,h0,h1⟩:=hp
 refine fbod Tryz.func30 Tryz.ntmps30 (fun base=>?_)
 (repeat' (first|(refine hK _ ?_;clear hK K)|refine wa fun K hK=>?_|refine wb ?_|refine wc ?_ ?_|refine fun (nb:Bool) (hnb:nb=true→_)=>?_|exact we|clear hK K))
 refine (ACall.own (fl':=0) (zeq x true h) rfl rfl (by omega) (by rintro r h' ⟨rfl,rfl⟩;rfl)).mono ?_
 rintro r h' ⟨h1',⟨rfl,rfl⟩,rfl⟩
 have hLl:=sbw_L x true
 obtain ⟨a,ha⟩:∃a,a=sbw x true:=⟨_,rfl⟩
 rw [← ha] at hLl ⊢
 simp only [go_sem,aeq,aeq.aeqF,simprocAttr,List.singleton_append]
 (repeat' (first|(refine hK _ ?_;clear hK K)|refine wa fun K hK=>?_|refine wb ?_|refine wc ?_ ?_|refine fun (nb:Bool) (hnb:nb=true→_)=>?_|exact we|clear hK K))
 refine (zfj (zjA a id hLl h0) (by decide) rfl (by simp [AObj.ids,AV.idsL,AV.ids,wkV]) (by simp [AV.idsL,AV.ids])).mono ?_
 rintro r h' ⟨rfl,rfl⟩
 obtain ⟨s,hs⟩:∃s,s=ssn a id:=⟨_,rfl⟩
 rw [← hs]
 simp only [go_sem,aeq,aeq.aeqF,simprocAttr,hset]
 (repeat' ((fail_if_success refine hds 3 (by rfl) ?_);first|(refine hK _ ?_;clear hK K)|refine wa fun K hK=>?_|refine wb ?_|refine wc ?_ ?_|refine fun (nb:Bool) (hnb:nb=true→_)=>?_|exact we|clear hK K))
 refine zaQ 22 rfl ?_;simp only [go_sem,aeq,aeq.aeqF,simprocAttr]
 refine zaQ 23 rfl ?_;simp only [go_sem,aeq,aeq.aeqF,simprocAttr]
 (have tk:=zb Tryz.prog);repeat' (first|((first|refine zv noTab [0,2000078,2000079] (zb _) mx (fun K hK=>?_)|(refine ga ?_;intro K hK)|refine zJ noTab [0,2000078,2000079] (zb _) mx ?_|refine gb ?_);simp only [go_sem,aeq,aeq.aeqF,simprocAttr,Tryz.results30])|refine zj (fun K hK=>?_)|(refine hK _ ?_;clear hK K)|refine fun (nb:Bool) (hnb:nb=true→_)=>?_|with_reducible refine And.intro ?_ ?_|(refine (show zaq _ _=true from ?_);kernel_rfl)|(refine (show zgm _ _=true from ?_);kernel_rfl)|omega|assumption|clear hK K)
 refine ⟨21,40,.var (wkS s.2.2),_,rfl,by decide,by simp [AObj.ids,AV.idsL,AV.ids,wkV],by simp [AV.idsL,AV.ids],zfB s.2.2 s.1.l1 (-1),?_⟩
 refine ⟨21,40,.var (wkS s.2.2),_,rfl,by decide,by simp [AObj.ids,AV.idsL,AV.ids,wkV],by simp [AV.idsL,AV.ids],zq0 s.2.2 s.2.1 snp0,?_⟩
 simp only [go_sem,aeq,aeq.aeqF,simprocAttr]
 (have tk:=zb Tryz.prog);repeat' (first|((first|refine zv noTab [0,2000078,2000079] (zb _) mx (fun K hK=>?_)|(refine ga ?_;intro K hK)|refine zJ noTab [0,2000078,2000079] (zb _) mx ?_|refine gb ?_);simp only [go_sem,aeq,aeq.aeqF,simprocAttr,Tryz.results30])|refine zj (fun K hK=>?_)|(refine hK _ ?_;clear hK K)|refine fun (nb:Bool) (hnb:nb=true→_)=>?_|with_reducible refine And.intro ?_ ?_|(refine (show zaq _ _=true from ?_);kernel_rfl)|(refine (show zgm _ _=true from ?_);kernel_rfl)|omega|assumption|clear hK K)
 have hWI:WI s.2.2:=by rw [hs,ha];exact ztg h _ _
 have heq:=zt9 (x:=x) (id:=id)
 rw [← ha,← hs] at heq
 obtain ⟨W,hW⟩:∃W,W=wrun [(zer s.1.l1 (-1),zd5 s.1.l1 (-1)),(cAdd s.1,fAdd s.1.l1),(cPut s.2.1 snp0,fPut s.2.1 snp0),(cDone,fDone)] s.2.2:=⟨_,rfl⟩
 rw [← hW] at heq
 refine (zfA (fl:=50) (K:=fun h'=>h'= [(21,.var (wkS W)),(1,.var img0),(0,.var (imgV x))]) ([(zer s.1.l1 (-1),zd5 s.1.l1 (-1)),(cAdd s.1,fAdd s.1.l1),(cPut s.2.1 snp0,fPut s.2.1 snp0),(cDone,fDone)].map (·.1)) (by simp) (Nat.zero_le _) (Runs.chain (fun a=> [(21,.var (wkS a)),(1,.var img0),(0,.var (imgV x))]) (fun a=> {}) (fun _ _=>rfl) (fun _=>rfl) _ _ hWI ?_ (by rw [hW])) (by rintro h' rfl;exact zcu rfl)).mono ?_
 ·intro p hp
  simp only [List.mem_cons,List.not_mem_nil,or_false] at hp
  rcases hp with rfl|rfl|rfl|rfl
  ·exact zeK _ _
  ·exact zsH _
  ·exact zny _ _ (by decide) (by decide) (by decide)
  ·exact zhN
 rintro r h' ⟨rfl,rfl⟩
 simp only [go_sem,aeq,aeq.aeqF,simprocAttr]
 (repeat' (first|(refine hK _ ?_;clear hK K)|refine va fun K hK=>?_|refine vb ?_|refine wc ?_ ?_|refine fun (nb:Bool) (hnb:nb=true→_)=>?_|exact we|clear hK K))
 rw [heq]
@[go_sem] noncomputable def zk1:Ent Tryz.prog 30:= .m2 zbp (intT .u32) zua
open Go Go.Proofs
theorem zth {x:Img} {R:Root} {L:List Snp} {q:Plan} {e id:Int} (he:e=0):ssn ⟨x,R,L,q,e⟩ id=if sfind L id<0 then (snp0,sfind L id,⟨x,R,L,q,21⟩) else (snpAt L (sfind L id),sfind L id,⟨x,R,L,q,e⟩):=by rw [ssn,if_neg (by simpa using he)]
theorem zq1 {a:Ws} {id:Int} (he:a.e≠0):ssn a id=(snp0,0,a):=by rw [ssn,if_pos he]
def srd (x:Img) (guest:Int) (s:Snp×Int×Ws):Txt×Int:=if s.2.2.e≠0 then ([],s.2.2.e) else if guest<0∨x.geom.guest≤guest then ([],10) else cread x.disk s.1.l1 guest
theorem zu2 {x:Img} {id guest:Int} :sread x id guest=srd x guest (ssn (sbw x false) id):=by
 have h1:sbw x false=⟨x,(sbeg x.disk).1,(sbeg x.disk).2.1,p0,(sbeg x.disk).2.2⟩:=by rw [sbw];rfl
 rw [h1]
 by_cases he:(sbeg x.disk).2.2=0
 ·rw [zth he,sread,if_neg (by simpa using he)]
  by_cases hj:sfind (sbeg x.disk).2.1 id<0
  ·rw [if_pos hj,if_pos hj,srd,if_pos (by show (21:Int)≠0;decide)]
  ·rw [if_neg hj,if_neg hj]
   simp only [srd,he,ne_eq,not_true_eq_false,if_false]
 ·rw [zq1 he,sread,if_pos he,srd,if_pos he]
theorem zq2 (x:Img) (id guest:Int) (hp:ImgF x∧0≤id∧id≤4294967295):AC 34 [imgA x,.d (.int .u32 id),.d (.int .i64 guest)] (.tup [.d (.str (sread x id guest).1),.d (.int .i64 (sread x id guest).2)]):=by
 obtain ⟨h,h0,h1⟩:=hp
 have hdf:=h.disk
 refine fbod Tryz.func34 Tryz.ntmps34 (fun base=>?_)
 (repeat' (first|(refine hK _ ?_;clear hK K)|refine wa fun K hK=>?_|refine wb ?_|refine wc ?_ ?_|refine fun (nb:Bool) (hnb:nb=true→_)=>?_|exact we|clear hK K))
 refine (ACall.own (fl':=0) (zeq x false h) rfl rfl (by omega) (by rintro r h' ⟨rfl,rfl⟩;rfl)).mono ?_
 rintro r h' ⟨h1',⟨rfl,rfl⟩,rfl⟩
 have hLl:=sbw_L x false
 obtain ⟨a,ha⟩:∃a,a=sbw x false:=⟨_,rfl⟩
 rw [← ha] at hLl ⊢
 simp only [go_sem,aeq,aeq.aeqF,simprocAttr,List.singleton_append]
 (repeat' (first|(refine hK _ ?_;clear hK K)|refine wa fun K hK=>?_|refine wb ?_|refine wc ?_ ?_|refine fun (nb:Bool) (hnb:nb=true→_)=>?_|exact we|clear hK K))
 refine (zfj (zjA a id hLl h0) (by decide) rfl (by simp [AObj.ids,AV.idsL,AV.ids,wkV]) (by simp [AV.idsL,AV.ids])).mono ?_
 rintro r h' ⟨rfl,rfl⟩
 obtain ⟨s,hs⟩:∃s,s=ssn a id:=⟨_,rfl⟩
 rw [← hs]
 simp only [go_sem,aeq,aeq.aeqF,simprocAttr,hset]
 (repeat' (first|(refine hK _ ?_;clear hK K)|refine wa fun K hK=>?_|refine wb ?_|refine wc ?_ ?_|refine fun (nb:Bool) (hnb:nb=true→_)=>?_|exact we|clear hK K))
 have heq:=zu2 (x:=x) (id:=id) (guest:=guest)
 rw [← ha,← hs] at heq
 obtain ⟨B,hB⟩:∃B:Txt→Int→Ws→AHeap,B=fun t k a=> [(22,.var [.d (.int .u32 s.1.id),.d (.int .i64 s.1.l1),.d (.str s.1.name)]),(21,.var (wkS a)),(3,.var [.d (.int .i64 k)]),(2,.var [.d (.str t)]),(1,.var [.d (.int .i64 guest)]),(0,.var (imgV x))]:=⟨_,rfl⟩
 obtain ⟨l,hll⟩:∃l:List Stp,l= [⟨94,[],[.vp 1 0,.vp 0 0,.vp 22 0,.vp 2 0,.vp 3 0]⟩]:=⟨_,rfl⟩
 have hok:∀t k a,SOk 50 l (B t k a):=by intro t k a;rw [hB,hll];exact {}
 have hse:∀t k a e,hset (B t k a) 21 (.var (wkS { a with e:=e }))=B t k { a with e:=e } :=by intro t k a e;rw [hB];rfl
 have hge:∀t k a,hget (B t k a) 21=some (.var (wkS a)):=by intro t k a;rw [hB];rfl
 obtain ⟨Z,hZ⟩:∃Z,Z=srd x guest s:=⟨_,rfl⟩
 rw [← hZ] at heq
 have fin:Runs 50 l (fun h'=>∃k,h'=B Z.1 k { s.2.2 with e:=Z.2 }) l (B [] 0 s.2.2):=by
  conv=>arg 4;rw [hll]
  by_cases he:s.2.2.e=0
  ·rw [srd,if_neg (by simpa using he)] at hZ
   cases hb:(decide (guest<0)||decide (x.geom.guest≤guest)) with
   | true=>
    rw [if_pos (by simpa using hb)] at hZ
    refine ⟨hok _ _ _,_,_,hge _ _ _,fun h=>absurd he h,fun _=>(zdY (v:= .d (.int .i64 10)) (H':=B [] 0 s.2.2) ?_ rfl (by rw [hB];exact zap rfl)).mono ?_⟩
    ·rw [hB]
     refine bod Tryz.func94 Tryz.ntmps94 (fun base=>?_)
     (have fx:=hb;repeat' (first|(refine hK _ ?_;clear hK K)|refine wa fun K hK=>?_|refine wb ?_|refine wc ?_ ?_|exact we|refine fun (hc:_=(_:Bool))=>?_|clear hK K))
    rintro v h' ⟨rfl,rfl⟩
    refine ⟨_,_,_,rfl,hge _ _ _,?_⟩
    rw [hse]
    exact ⟨hok _ _ _,0,by rw [hZ]⟩
   | false=>
    rw [if_neg (by simpa using hb)] at hZ
    refine ⟨hok _ _ _,_,_,hge _ _ _,fun h=>absurd he h,fun _=>(zdY (v:= .d (.int .i64 Z.2)) (H':=B Z.1 Z.2 s.2.2) ?_ (by rw [hB];rfl) (by rw [hB];exact zap rfl)).mono ?_⟩
    ·rw [hB]
     refine bod Tryz.func94 Tryz.ntmps94 (fun base=>?_)
     (have tk:=za zdi <| za zdh <| zb Tryz.prog;have fx:=(⟨hb,hZ.symm⟩:_∧_);repeat' (first|(refine hK _ ?_;clear hK K)|refine wa fun K hK=>?_|refine wb ?_|refine wc ?_ ?_|exact we|refine fun (hc:_=(_:Bool))=>?_|clear hK K))
    rintro v h' ⟨rfl,rfl⟩
    refine ⟨_,_,_,rfl,hge _ _ _,?_⟩
    rw [hse]
    exact ⟨hok _ _ _,Z.2,rfl⟩
  ·rw [srd,if_pos he] at hZ
   exact Runs.skip (hok _ _ _) (hge _ _ _) he ⟨0,by rw [hZ]⟩ _
 rw [hll,hB] at fin
 refine (zfA (fl:=50) _ (by decide) (Nat.zero_le _) fin (by rintro h' ⟨k,rfl⟩;exact zcu rfl)).mono ?_
 rintro r h' ⟨rfl,k,rfl⟩
 simp only [go_sem,aeq,aeq.aeqF,simprocAttr]
 (have tk:=zb Tryz.prog;have fx:=Go.Aw.fx;repeat' (first|(refine hK _ ?_;clear hK K)|refine va fun K hK=>?_|refine vb ?_|refine wc ?_ ?_|refine fun (nb:Bool) (hnb:nb=true→_)=>?_|exact we|clear hK K))
 rw [heq]
@[go_sem] noncomputable def ze7:Ent Tryz.prog 34:= .m3 zbp (intT .u32) (intT .i64) zq2
theorem zq3:∀ (l:List (Stp×(Ws→Ws))) (a:Ws),WI a→(∀p∈l,Good p)→WI (wrun l a)
 | [],_,h,_=>h
 | p::r,a,h,hg=>by
  rw [wrun]
  refine zq3 r _ ?_ (fun q hq=>hg q (List.mem_cons_of_mem _ hq))
  rw [wstep]
  split
  ·exact h
  ·rename_i he
   exact (hg p List.mem_cons_self a h (by simpa using he)).1
theorem zcY:∀ (l:List (Stp×(Ws→Ws))) (a:Ws),a.e≠0→wrun l a=a
 | [],_,_=>rfl
 |p::r,a,he=>by rw [wrun,wstep,if_pos he];exact zcY r a he
def srevL (s:Snp×Int×Ws):List (Stp×(Ws→Ws)):= [(zer s.1.l1 1,zd5 s.1.l1 1),(zer s.2.2.R.l1 (-1),zd5 s.2.2.R.l1 (-1)),(cCopy s.1.l1 s.2.2.R.l1,fCopy s.1.l1 s.2.2.R.l1),(cDone,fDone)]
theorem zub {x:Img} {id:Int} :zct x id=if (wrun (srevL (ssn (sbw x true) id)) (ssn (sbw x true) id).2.2).e≠0 then ((wrun (srevL (ssn (sbw x true) id)) (ssn (sbw x true) id).2.2).x,(wrun (srevL (ssn (sbw x true) id)) (ssn (sbw x true) id).2.2).e) else (zdE (wrun (srevL (ssn (sbw x true) id)) (ssn (sbw x true) id).2.2).x 64,0):=by
 unfold zct
 cases hb:x.broken with
 |true=>
  have h1:sbw x true=⟨x,⟨0,0⟩,[],p0,24⟩:=by rw [sbw,hb];rfl
  rw [h1,zq1 (by show (24:Int)≠0;decide),if_pos rfl,zcY _ _ (by show (24:Int)≠0;decide),if_pos (by show (24:Int)≠0;decide)]
 | false=>
  have h1:sbw x true=⟨x,(sbeg x.disk).1,(sbeg x.disk).2.1,p0,(sbeg x.disk).2.2⟩:=by rw [sbw,hb];rfl
  rw [h1,if_neg (by decide)]
  by_cases he:(sbeg x.disk).2.2=0
  ·rw [if_neg (by simpa using he),zth he]
   by_cases hj:sfind (sbeg x.disk).2.1 id<0
   ·rw [if_pos hj,if_pos hj,zcY _ _ (by show (21:Int)≠0;decide),if_pos (by show (21:Int)≠0;decide)]
   ·rw [if_neg hj,if_neg hj]
    simp only [srevL,wrun,wstep,zd5,fCopy,fDone,srev0,srevA,srevB,srevC,he,ne_eq,not_true_eq_false,if_false]
    repeat' split
    all_goals simp_all
  ·rw [if_pos he,zq1 he,zcY _ _ he,if_pos he]
theorem zoR {x:Img} {p:Plan} :(cdone x p).1.maps=x.maps:=by
 unfold cdone
 split<;>rfl
theorem zq4 {s:Snp×Int×Ws} :∀a,(wrun (srevL s) a).x.maps=a.x.maps:=by
 intro a
 simp only [srevL,wrun,wstep,zd5,fCopy,fDone]
 repeat' split
 all_goals first|rfl|exact zoR
theorem ssn_x {x:Img} {ch:Bool} {id:Int} :(ssn (sbw x ch) id).2.2.x=x:=by
 unfold ssn sbw
 repeat' split
 all_goals rfl
theorem zf9 (x:Img):∀n,(zdE x n).maps.length=x.maps.length
 |0=>rfl
 |n+1=>by
  rw [zdE,cmark]
  split
  ·exact zf9 x n
  ·simpa using zf9 x n
theorem zsI (x:Img) (id:Int) (hp:ImgF x∧0≤id∧id≤4294967295∧x.maps.length≤5000):AC 32 [imgA x,.d (.int .u32 id)] (.tup [imgA (zct x id).1,.d (.int .i64 (zct x id).2)]):=by
 obtain ⟨h,h0,h1,hm⟩:=hp
 refine fbod Tryz.func32 Tryz.ntmps32 (fun base=>?_)
 (repeat' (first|(refine hK _ ?_;clear hK K)|refine wa fun K hK=>?_|refine wb ?_|refine wc ?_ ?_|refine fun (nb:Bool) (hnb:nb=true→_)=>?_|exact we|refine fun (hc:_=(_:Bool))=>?_|clear hK K))
 refine (ACall.own (fl':=0) (zeq x true h) rfl rfl (by omega) (by rintro r h' ⟨rfl,rfl⟩;rfl)).mono ?_
 rintro r h' ⟨h1',⟨rfl,rfl⟩,rfl⟩
 have hLl:=sbw_L x true
 obtain ⟨a,ha⟩:∃a,a=sbw x true:=⟨_,rfl⟩
 rw [← ha] at hLl ⊢
 simp only [go_sem,aeq,aeq.aeqF,simprocAttr,List.singleton_append]
 (repeat' (first|(refine hK _ ?_;clear hK K)|refine wa fun K hK=>?_|refine wb ?_|refine wc ?_ ?_|refine fun (nb:Bool) (hnb:nb=true→_)=>?_|exact we|refine fun (hc:_=(_:Bool))=>?_|clear hK K))
 refine (zfj (zjA a id hLl h0) (by decide) rfl (by simp [AObj.ids,AV.idsL,AV.ids,wkV]) (by simp [AV.idsL,AV.ids])).mono ?_
 rintro r h' ⟨rfl,rfl⟩
 obtain ⟨s,hs⟩:∃s,s=ssn a id:=⟨_,rfl⟩
 rw [← hs]
 simp only [go_sem,aeq,aeq.aeqF,simprocAttr,hset]
 (repeat' ((fail_if_success refine hds 3 (by rfl) ?_);first|(refine hK _ ?_;clear hK K)|refine wa fun K hK=>?_|refine wb ?_|refine wc ?_ ?_|refine fun (nb:Bool) (hnb:nb=true→_)=>?_|exact we|refine fun (hc:_=(_:Bool))=>?_|clear hK K))
 (have tk:=zb Tryz.prog);repeat' (first|((first|refine zv noTab [0,2000078,2000077] (zb _) mx (fun K hK=>?_)|(refine ga ?_;intro K hK)|refine zJ noTab [0,2000078,2000077] (zb _) mx ?_|refine gb ?_);simp only [go_sem,aeq,aeq.aeqF,simprocAttr,Tryz.results32])|refine zj (fun K hK=>?_)|refine sc ?_|refine zi rfl (fun hc=>?_) (fun hc=>?_)|(refine hK _ ?_;clear hK K)|refine fun (nb:Bool) (hnb:nb=true→_)=>?_|with_reducible refine And.intro ?_ ?_|(refine (show zaq _ _=true from ?_);kernel_rfl)|(refine (show zgm _ _=true from ?_);kernel_rfl)|omega|assumption|refine fun (hg:(_:Bool)=(_:Bool))=>?_|clear hK K)
 refine ⟨21,40,.var (wkS s.2.2),_,rfl,by decide,by simp [AObj.ids,AV.idsL,AV.ids,wkV],by simp [AV.idsL,AV.ids],zfB s.2.2 s.1.l1 1,?_⟩
 refine ⟨21,40,.var (wkS s.2.2),_,rfl,by decide,by simp [AObj.ids,AV.idsL,AV.ids,wkV],by simp [AV.idsL,AV.ids],zfB s.2.2 s.2.2.R.l1 (-1),?_⟩
 refine ⟨21,40,.var (wkS s.2.2),_,rfl,by decide,by simp [AObj.ids,AV.idsL,AV.ids,wkV],by simp [AV.idsL,AV.ids],znx s.2.2 s.1.l1 s.2.2.R.l1,?_⟩
 simp only [go_sem,aeq,aeq.aeqF,simprocAttr]
 (have tk:=zb Tryz.prog);repeat' (first|((first|refine zv noTab [0,2000078,2000077] (zb _) mx (fun K hK=>?_)|(refine ga ?_;intro K hK)|refine zJ noTab [0,2000078,2000077] (zb _) mx ?_|refine gb ?_);simp only [go_sem,aeq,aeq.aeqF,simprocAttr,Tryz.results32])|refine zj (fun K hK=>?_)|refine sc ?_|refine zi rfl (fun hc=>?_) (fun hc=>?_)|(refine hK _ ?_;clear hK K)|refine fun (nb:Bool) (hnb:nb=true→_)=>?_|with_reducible refine And.intro ?_ ?_|(refine (show zaq _ _=true from ?_);kernel_rfl)|(refine (show zgm _ _=true from ?_);kernel_rfl)|omega|assumption|refine fun (hg:(_:Bool)=(_:Bool))=>?_|clear hK K)
 have hWI:WI s.2.2:=by rw [hs,ha];exact ztg h _ _
 have heq:=zub (x:=x) (id:=id)
 rw [← ha,← hs] at heq
 have hgood:∀p∈srevL s,Good p:=by
  intro p hp
  simp only [srevL,List.mem_cons,List.not_mem_nil,or_false] at hp
  rcases hp with rfl|rfl|rfl|rfl
  ·exact zeK _ _
  ·exact zeK _ _
  ·exact zk0 _ _
  ·exact zhN
 have hWW:=zq3 _ _ hWI hgood
 obtain ⟨W,hW⟩:∃W,W=wrun (srevL s) s.2.2:=⟨_,rfl⟩
 have hml0:=zq4 (s:=s) s.2.2
 rw [← hW] at heq hWW hml0
 rw [hs,ha,ssn_x] at hml0
 refine (zfA (fl:=50) (K:=fun h'=>h'= [(22,.var [.d (.int .u32 s.1.id),.d (.int .i64 s.1.l1),.d (.str s.1.name)]),(21,.var (wkS W)),(1,.var img0),(0,.var (imgV x))]) ((srevL s).map (·.1)) (by simp [srevL]) (Nat.zero_le _) (Runs.chain (fun a=> [(22,.var [.d (.int .u32 s.1.id),.d (.int .i64 s.1.l1),.d (.str s.1.name)]),(21,.var (wkS a)),(1,.var img0),(0,.var (imgV x))]) (fun a=> { is:=by simp only [srevL,inH,AV.ids,AV.idsL,AV.idsR,List.map_cons,List.map_nil,stR,hget,go_sem,simprocAttr] }) (fun _ _=>rfl) (fun _=>rfl) _ _ hWI hgood (by rw [hW])) (by rintro h' rfl;exact zcu rfl)).mono ?_
 rintro r h' ⟨rfl,rfl⟩
 simp only [go_sem,aeq,aeq.aeqF,simprocAttr]
 (repeat' (first|(refine hK _ ?_;clear hK K)|refine wa fun K hK=>?_|refine wb ?_|refine wc ?_ ?_|refine fun (nb:Bool) (hnb:nb=true→_)=>?_|exact we|refine fun (hc:_=(_:Bool))=>?_|clear hK K))
 refine zo (fun q: { k:Nat // k≤64∧(W.e≠0→k=0) } =>⟨[(4,true,.vp 1 0),(6,true,.vp 21 0),(9,true,.d (.int .i64 q.1))],[(21,.var (wkS { W with x:=zdE W.x q.1 })),(1,.var img0)],some []⟩) (fun q=>64 - q.1) ⟨0,Nat.zero_le _,fun _=>rfl⟩ le1 (fun q=>?_)
 obtain ⟨k,hk,hk0⟩:=q
 simp only at hk hk0 ⊢
 have hmi:=hWW.1.marks k
 have hmo:=hmi.ok
 have hml:(zdE W.x k).maps.length≤5000:=by rw [zf9,hml0];exact hm
 by_cases he:W.e=0
 ·have hb:(W.e==0)=true:=by simpa using he
  rw [if_neg (by simpa using he)] at heq
  rcases Nat.lt_or_ge k 64 with hlt|hge
  ·have hcmp:decide ((k:Int)<64)=true:=decide_eq_true (by omega)
   have hwi:=zp (i:=k) (by omega)
   have hms:zdE W.x (k+1)=cmark (zdE W.x k) k:=rfl
   (have tk:=za zdi <| za zdh <| zb Tryz.prog;have fx:=(⟨hcmp,hb⟩:_∧_);repeat' (first|(refine hK _ ?_;clear hK K)|refine wa fun K hK=>?_|refine wb ?_|refine wc ?_ ?_|refine fun (nb:Bool) (hnb:nb=true→_)=>?_|exact we|refine fun (hc:_=(_:Bool))=>?_|clear hK K))
   exact ⟨⟨k+1,by omega,fun h=>absurd he h⟩,by simp only [hms];simp only [AS.le,leT,leH,zc,AsgK,AV.le,AV.leL,AObj.le,inH,idsT,idsH,AV.ids,AV.idsL,AV.idsR,AObj.ids,lk,hget,go_sem,aeq,aeq.aeqF,simprocAttr,hwi]<;>and_intros<;>rfl,by simp;omega⟩
  ·have hcmp:decide ((k:Int)<64)=false:=decide_eq_false (by omega)
   obtain rfl:k=64:=by omega
   (have tk:=za zdi <| za zdh <| zb Tryz.prog;have fx:=hcmp;repeat' (first|(refine hK _ ?_;clear hK K)|refine va fun K hK=>?_|refine vb ?_|refine wc ?_ ?_|refine fun (nb:Bool) (hnb:nb=true→_)=>?_|exact we|refine fun (hc:_=(_:Bool))=>?_|clear hK K))
   rw [heq,he]
 ·have hb:(W.e==0)=false:=by simpa using he
  obtain rfl:=hk0 he
  rw [if_pos he] at heq
  (have tk:=za zdi <| za zdh <| zb Tryz.prog;have fx:=hb;repeat' (first|(refine hK _ ?_;clear hK K)|refine va fun K hK=>?_|refine vb ?_|refine wc ?_ ?_|refine fun (nb:Bool) (hnb:nb=true→_)=>?_|exact we|refine fun (hc:_=(_:Bool))=>?_|clear hK K))
  rw [heq]
  rfl
@[go_sem] noncomputable def zga:Ent Tryz.prog 32:= .m2 zbp (intT .u32) zsI
end Go.Aw
