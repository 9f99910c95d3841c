/-
  Parts of the proof: CowD, CowL, CowM, SnapA, WipeA, StayF, SmallA (short names; the readable texts lie in the repo, under wip).
-/
import Derived.Test.YtgkjmbopnaeanaaGreatPart26
import Derived.Test.YtgkjmbopnaeanaaGreatPart24
import Derived.Test.YtgkjmbopnaeanaaGreatPart23
set_option maxRecDepth 100000
set_option maxHeartbeats 2000000
set_option linter.unusedSimpArgs false
set_option linter.unusedVariables false
namespace Go.Aw
open Go Go.Proofs
def imgV (x:Img):List AV:= [.d (.str x.disk.data),.d (.sl 2 (x.disk.cache.map putD)),.d (.int .i64 x.disk.fuse),.d (.bool x.disk.off),.d (.sl 1 (x.disk.bad.map intD)),.d (.int .i64 x.geom.guest),.d (.int .i64 x.geom.host),.d (.int .u64 x.jour.seq),.d (.int .i64 x.jour.pos),.d (.sl 66 (x.maps.map dmapD)),.d (.bool x.broken)]
attribute [go_sem] imgV
def img0:List AV:= [.d (.str []),.nils 2,.d (.int .i64 0),.d (.bool false),.nils 1,.d (.int .i64 0),.d (.int .i64 0),.d (.int .u64 0),.d (.int .i64 0),.nils 66,.d (.bool false)]
attribute [go_sem] img0
def wdisk (x:Img) (d:Disk):Img:= { x with disk:=d }
def cputT (b:Txt) (off:Int) (s:Txt) (i:Int):Txt:=(overS b (max off (i*64) - i*64) ((s.take (min (off+s.length) ((i+1)*64) - off).toNat).drop (max off (i*64) - off).toNat)).1
def cput1 (d:Disk) (k off:Int) (s:Txt) (i:Int):Disk×Int:=
 if min (off+s.length) ((i+1)*64)≤max off (i*64) then (d,0)
 else if (dread d (96+2*k+i)).2≠0 then (d,(dread d (96+2*k+i)).2)
 else zU d (96+2*k+i) (cputT (dread d (96+2*k+i)).1 off s i)
def zef (k off:Int) (s:Txt):Nat→Int→Disk→Disk×Int
 |0,_,d=>(d,0)
 |m+1,i,d=>if (cput1 d k off s i).2≠0 then cput1 d k off s i else zef k off s m (i+1) (cput1 d k off s i).1
def zeX (d:Disk) (k off:Int) (s:Txt):Disk×Int:=zef k off s 2 0 d
theorem DiskF.cput1 {d:Disk} (h:DiskF d) (k off:Int) (s:Txt) (i:Int):DiskF (cput1 d k off s i).1:=by
 unfold Aw.cput1
 split
 ·exact h
 split
 ·exact h
 ·exact h.write _ _
theorem znA (x:Img) (k off:Int) (s:Txt) (hp:ImgOk x∧DiskF x.disk∧zV k=true∧0≤off∧off+s.length≤128):AC 126 [imgA x,.d (.int .i64 k),.d (.int .i64 off),.d (.str s)] (.tup [imgA (wdisk x (zeX x.disk k off s).1),.d (.int .i64 (zeX x.disk k off s).2)]):=by
 obtain ⟨h,hd,hk,h0,h1⟩:=hp
 refine fbod Tryz.func126 Tryz.ntmps126 (fun base=>?_)
 have hk2:=hostOk_iff.1 hk
 refine' walkR fx (za z8 <| za zcj <| za zG <| za zag <| zb _)
 refine zo (fun q: { q:Nat×Disk // q.1≤2∧DiskF q.2∧zeX x.disk k off s=zef k off s (2 - q.1) q.1 q.2 } =>⟨[(1,true,.d (.int .i64 k)),(2,true,.d (.int .i64 off)),(3,true,.d (.str s)),(4,true,.vp 0 0),(8,true,.vp 1 0),(10,true,.d (.int .i64 q.1.1))],[(1,.var img0),(0,.var (imgV (wdisk x q.1.2)))],some []⟩) (fun q=>2 - q.1.1) ⟨(0,x.disk),by omega,hd,rfl⟩ (by simp only [AS.le,leT,leH,zf,AsgK,AV.le,AV.leL,AObj.le,inH,idsT,idsH,AV.ids,AV.idsL,AV.idsR,AObj.ids,lk,hget,go_sem,aeq,aeq.aeqF,simprocAttr,wdisk]<;>and_intros<;>rfl) (fun q=>?_)
 obtain ⟨⟨i,d⟩,hi,hF,hr⟩:=q
 simp only at hi hF hr ⊢
 have hd1:=hF.ok
 have hd2:=hF.puts
 rcases Nat.lt_or_ge i 2 with hlt|hge
 ·have hcmp:decide ((i:Int)<2)=true:=decide_eq_true (by omega)
  have hwi:=zn (i:=i) (by omega)
  have hw1:IntKind.i64.wrap ((i:Int)*64)=i*64:=ze (by omega) (by omega)
  have hw2:IntKind.i64.wrap (((i+1:Nat):Int)*64)=(i+1)*64:=ze (by omega) (by omega)
  have hw3:IntKind.i64.wrap (off+(s.length:Int))=off+s.length:=ze (by omega) (by omega)
  have hw4:IntKind.i64.wrap (96+2*k+(i:Int))=96+2*k+i:=ze (by omega) (by omega)
  rw [show 2 - i=(2 - (i+1))+1 by omega,zef] at hr
  obtain ⟨A,hA⟩:∃A,A=max off ((i:Int)*64):=⟨_,rfl⟩
  obtain ⟨B,hB⟩:∃B,B=min (off+(s.length:Int)) (((i:Int)+1)*64):=⟨_,rfl⟩
  have hA1:imax off ((i:Int)*64)=A:=by rw [hA];unfold imax;split<;>omega
  have hB1:imin (off+(s.length:Int)) (((i:Int)+1)*64)=B:=by rw [hB];unfold imin;split<;>omega
  have hc1:cput1 d k off s i=if B≤A then (d,0) else if (dread d (96+2*k+i)).2≠0 then (d,(dread d (96+2*k+i)).2) else zU d (96+2*k+i) (overS (dread d (96+2*k+i)).1 (A - i*64) ((s.take (B - off).toNat).drop (A - off).toNat)).1:=by rw [cput1,cputT,← hA,← hB]
  have hl:=zdV (at_:=96+2*k+i) hd2
  have hFn:=hF.cput1 k off s i
  by_cases hab:B≤A
  ·have hb:decide (B≤A)=true:=decide_eq_true hab
   rw [if_pos hab] at hc1
   refine' walkR (zq hcmp hwi hw1 hw2 hw3 (zS hA1 hB1 hb @wdisk.eq_1)) (za z8 <| za zcj <| za zG <| za zag <| zb _)
   rw [hc1] at hr
   exact ⟨⟨(i+1,d),by show i+1≤2;omega,hF,hr⟩,by simp only [AS.le,leT,leH,zf,AsgK,AV.le,AV.leL,AObj.le,inH,idsT,idsH,AV.ids,AV.idsL,AV.idsR,AObj.ids,lk,hget,go_sem,aeq,aeq.aeqF,simprocAttr,wdisk],by simp;omega⟩
  ·have hb:decide (B≤A)=false:=decide_eq_false hab
   rw [if_neg hab] at hc1
   have hw5:IntKind.i64.wrap (A - off)=A - off:=ze (by omega) (by omega)
   have hw6:IntKind.i64.wrap (B - off)=B - off:=ze (by omega) (by omega)
   have hw7:IntKind.i64.wrap (A - (i:Int)*64)=A - i*64:=ze (by omega) (by omega)
   have hsl:((s.take (B - off).toNat).drop (A - off).toNat).length≤9223372036854775807:=by simp;omega
   obtain ⟨b,hbb⟩:∃b,b=(overS (dread d (96+2*k+i)).1 (A - i*64) ((s.take (B - off).toNat).drop (A - off).toNat)).1:=⟨_,rfl⟩
   rw [← hbb] at hc1
   refine' walkR (zq hcmp hwi hw1 hw2 hw3 (zq hw4 hw5 hw6 hw7 hA1 (zS hB1 hb hbb.symm @wdisk.eq_1))) (za z8 <| za zcj <| za zG <| za zag <| zb _)
   ·rw [if_pos (bneP hc)] at hc1
    rw [hr,hc1,if_pos (bneP hc)]
   ·rename_i hc0
    rw [if_neg (bneN hc0)] at hc1
    rw [hr,hc1,if_pos (bneP hc)]
   ·rename_i hc0
    rw [if_neg (bneN hc0)] at hc1
    rw [hc1,if_neg (bneN hc)] at hr
    rw [hc1] at hFn
    exact ⟨⟨(i+1,(zU d (96+2*k+i) b).1),by show i+1≤2;omega,hFn,hr⟩,by simp only [AS.le,leT,leH,zf,AsgK,AV.le,AV.leL,AObj.le,inH,idsT,idsH,AV.ids,AV.idsL,AV.idsR,AObj.ids,lk,hget,go_sem,aeq,aeq.aeqF,simprocAttr,wdisk],by simp;omega⟩
 ·have hcmp:decide ((i:Int)<2)=false:=decide_eq_false (by omega)
  refine' walkR (zk hcmp @wdisk.eq_1) (za z8 <| za zcj <| za zG <| za zag <| zb _)
  rw [hr,show 2 - i=0 by omega]
  rfl
@[go_sem] noncomputable def zaq:Ent Tryz.prog 126:= .m4 zaO (intT .i64) (intT .i64) strT znA
structure ImgF (x:Img):Prop where
 ok:ImgOk x
 disk:DiskF x.disk
 guest:x.geom.guest≤64
 host:x.geom.host≤256
 seq0:0≤x.jour.seq
 seq1:x.jour.seq≤4611686018427387904
 maps:x.maps.length≤1000000
theorem ImgF.wd {x:Img} (h:ImgF x) {d:Disk} (hd:DiskF d):ImgF (wdisk x d):=⟨⟨hd.ok,h.ok.maps,h.ok.names,h.ok.bits⟩,hd,h.guest,h.host,h.seq0,h.seq1,h.maps⟩
theorem ImgF.mark {x:Img} (h:ImgF x) (g:Int):ImgF (cmark x g):=by
 refine ⟨zuC h.ok g,?_,?_,?_,?_,?_,?_⟩
 all_goals unfold cmark
 all_goals split
 all_goals first|exact h.disk|exact h.guest|exact h.host|exact h.seq0|exact h.seq1|exact h.maps|skip
 simp only [List.length_map]
 exact h.maps
theorem zlV {d:Disk} {k:Int} (h:d.cache.all (putOk d)=true) (he:(zch d k).2=0):(zch d k).1.length=128:=by
 unfold zch at he ⊢
 split at he
 ·exact absurd he (by assumption)
 split at he
 ·exact absurd he (by assumption)
 rename_i h1 h2
 rw [if_neg h1,if_neg h2]
 rw [List.length_append,zks h (by omega),zks h (by omega)]
theorem zff {d:Disk} {l1 g:Int} (h:d.cache.all (putOk d)=true) (he:(cread d l1 g).2=0):(cread d l1 g).1.length=128:=by
 unfold cread at he ⊢
 split at he
 ·exact absurd he (by assumption)
 split at he
 ·rename_i h1 h2
  rw [if_neg h1,if_pos h2]
  exact zlV h he
 ·rename_i h1 h2
  rw [if_neg h1,if_neg h2]
  simp
theorem zpc {d:Disk} {l1 g:Int} (h:d.cache.all (putOk d)=true):(cread d l1 g).1.length≤128:=by
 by_cases he:(cread d l1 g).2=0
 ·rw [zff h he];exact Nat.le_refl _
 ·unfold cread at he ⊢
  split
  ·simp
  rename_i h1
  rw [if_neg h1] at he
  split
  ·rename_i h2
   rw [if_pos h2] at he
   unfold zch at he ⊢
   split
   ·simp
   rename_i h3
   rw [if_neg h3] at he
   split
   ·simp
   rename_i h4
   rw [if_neg h4] at he
   exact absurd rfl he
  ·simp
theorem zjG {d:Disk} {p:Plan} {g:Geom} (h:(rtake d p g).2.2=0):zV (rtake d p g).2.1=true:=by
 unfold rtake at h ⊢
 split at h
 ·rename_i h1;exact absurd h h1
 split at h
 ·rename_i h1;exact absurd h h1
 rename_i h1 h2
 rw [if_neg h1,if_neg h2]
 exact hostOk_iff.2 (zjD d p _ _ (by unfold rfind at h1;omega))
theorem zuD {s t:Txt} {a:Int} (h0:0≤a) (h:a+t.length≤s.length):overS s a t=(s.take a.toNat++t++s.drop (a+t.length).toNat,0):=by
 rw [overS,if_neg (by omega)]
theorem zlW {s t:Txt} {a:Int} (h0:0≤a) (h:a+t.length≤s.length):(overS s a t).1.length=s.length:=by
 rw [zuD h0 h]
 simp
 omega
def zaU (k:Int) (b:Txt):List (Int×Txt):= [(96+2*k,b.take 64),(96+2*k+1,(b.take 128).drop 64)]
def zcD (x:Img) (l1 guest off:Int) (s:Txt):Img×Int:=
 if (rtake x.disk p0 x.geom).2.2≠0 then (x,(rtake x.disk p0 x.geom).2.2)
 else if (cread x.disk l1 guest).2≠0 then (x,(cread x.disk l1 guest).2)
 else if (layL x.disk (zaU (rtake x.disk p0 x.geom).2.1 (overS (cread x.disk l1 guest).1 off s).1)).2≠0 then
  (wdisk x (layL x.disk (zaU (rtake x.disk p0 x.geom).2.1 (overS (cread x.disk l1 guest).1 off s).1)).1,(layL x.disk (zaU (rtake x.disk p0 x.geom).2.1 (overS (cread x.disk l1 guest).1 off s).1)).2)
 else if (ppoint (layL x.disk (zaU (rtake x.disk p0 x.geom).2.1 (overS (cread x.disk l1 guest).1 off s).1)).1 (rtake x.disk p0 x.geom).1 x.geom guest ⟨1,(rtake x.disk p0 x.geom).2.1⟩).2≠0 then
  (wdisk x (layL x.disk (zaU (rtake x.disk p0 x.geom).2.1 (overS (cread x.disk l1 guest).1 off s).1)).1,(ppoint (layL x.disk (zaU (rtake x.disk p0 x.geom).2.1 (overS (cread x.disk l1 guest).1 off s).1)).1 (rtake x.disk p0 x.geom).1 x.geom guest ⟨1,(rtake x.disk p0 x.geom).2.1⟩).2)
 else cdone (wdisk x (layL x.disk (zaU (rtake x.disk p0 x.geom).2.1 (overS (cread x.disk l1 guest).1 off s).1)).1) (ppoint (layL x.disk (zaU (rtake x.disk p0 x.geom).2.1 (overS (cread x.disk l1 guest).1 off s).1)).1 (rtake x.disk p0 x.geom).1 x.geom guest ⟨1,(rtake x.disk p0 x.geom).2.1⟩).1
def zfg (x:Img) (l1:Int) (y:Ent2) (guest off:Int) (s:Txt):Img×Int:=
  if y.kind=1 then
    (if (rget x.disk p0 y.loc).2≠0 then (x,(rget x.disk p0 y.loc).2)
     else if (rget x.disk p0 y.loc).1≤1 then (wdisk x (zeX x.disk y.loc off s).1,(zeX x.disk y.loc off s).2)
     else zcD x l1 guest off s)
  else zcD x l1 guest off s
def zeJ (x:Img) (guest off:Int) (s:Txt):Img×Int:=
 if (zC x.disk p0).2≠0 then (x,(zC x.disk p0).2)
 else if (elook x.disk p0 (zC x.disk p0).1.l1 guest).2≠0 then (x,(elook x.disk p0 (zC x.disk p0).1.l1 guest).2)
 else zfg x (zC x.disk p0).1.l1 (elook x.disk p0 (zC x.disk p0).1.l1 guest).1 guest off s
def zbk (x:Img) (guest off:Int) (s:Txt):Img×Int:=
 if x.broken then (x,24) else if guest<0∨x.geom.guest≤guest∨off<0∨128 - (s.length:Int)<off then (x,10)
 else if s= [] then (x,0) else zeJ (cmark x guest) guest off s
set_option maxHeartbeats 1600000 in
theorem znB (x:Img) (guest off:Int) (s:Txt) (hp:ImgF x∧s.length≤9223372036854775807):AC 90 [imgA x,.d (.int .i64 guest),.d (.int .i64 off),.d (.str s)] (.tup [imgA (zbk x guest off s).1,.d (.int .i64 (zbk x guest off s).2)]):=by
 obtain ⟨h,hs⟩:=hp
 refine fbod Tryz.func90 Tryz.ntmps90 (fun base=>?_)
 have hi:=h.ok
 have hm:=h.maps
 refine' zhd (zbh 3) fx (za zab <| za zw <| za zI <| za zaf <| za zaq <| za zau <| za zaa <| za zag <| za z8 <| za zG <| za zY <| za zac <| zb _)
 ·rw [zbk,if_pos hc]
 have hbr2:=hc
 have hbr:¬x.broken=true:=by rw [hbr2];exact fun h=>by cases h
 by_cases hrg:guest<0∨x.geom.guest≤guest∨off<0∨128 - (s.length:Int)<off
 ·have hw0:IntKind.i64.wrap (128 - (s.length:Int))=128 - s.length:=ze (by omega) (by omega)
  have hdec:(decide (guest<0)||decide (x.geom.guest≤guest)||decide (off<0)||decide (128<(s.length:Int))||decide (128 - (s.length:Int)<off))=true:=by
   simp only [Bool.or_eq_true,decide_eq_true_eq];omega
  refine' walkR (zk hw0 hdec) (za zab <| za zw <| za zI <| za zaf <| za zaq <| za zau <| za zaa <| za zag <| za z8 <| za zG <| za zY <| za zac <| zb _)
  rw [zbk,if_neg hbr,if_pos hrg]
 have hw0:IntKind.i64.wrap (128 - (s.length:Int))=128 - s.length:=ze (by omega) (by omega)
 have hdec:(decide (guest<0)||decide (x.geom.guest≤guest)||decide (off<0)||decide (128<(s.length:Int))||decide (128 - (s.length:Int)<off))=false:=by
  simp only [Bool.or_eq_false_iff,decide_eq_false_iff_not];omega
 by_cases hs0:s= []
 ·have hse:(s== [])=true:=by rw [hs0];rfl
  refine' walkR (zr hw0 hdec hse) (za zab <| za zw <| za zI <| za zaf <| za zaq <| za zau <| za zaa <| za zag <| za z8 <| za zG <| za zY <| za zac <| zb _)
  rw [zbk,if_neg hbr,if_neg hrg,if_pos hs0]
 have hse:(s== [])=false:=by simpa using hs0
 have heq:zbk x guest off s=zeJ (cmark x guest) guest off s:=by rw [zbk,if_neg hbr,if_neg hrg,if_neg hs0]
 refine' zhd (zbh 8) (zr hw0 hdec hse) (za zab <| za zw <| za zI <| za zaf <| za zaq <| za zau <| za zaa <| za zag <| za z8 <| za zG <| za zY <| za zac <| zb _)
 rw [heq]
 have hX:=h.mark guest
 revert hX
 generalize cmark x guest=X
 intro hX
 have hXd:=hX.disk
 have hXo:=hX.ok
 have hXg:=hX.guest
 have hXh:=hX.host
 have hX0:=hX.seq0
 have hX1:=hX.seq1
 have hdp:DP X.disk p0:=⟨hXd,zcc⟩
 refine aw_le ⟨[(1,true,.d (.int .i64 guest)),(2,true,.d (.int .i64 off)),(3,true,.d (.str s)),(4,true,.vp 0 0),(8,true,.vp 1 0)],[(1,.var img0),(0,.var (imgV X))],some []⟩ le0 ?_
 have hk1:(elook X.disk p0 (zC X.disk p0).1.l1 guest).1.kind=1→zV (elook X.disk p0 (zC X.disk p0).1.l1 guest).1.loc=true:=zfF
 obtain ⟨r,hr⟩:∃r,r=zC X.disk p0:=⟨_,rfl⟩
 rw [← hr] at hk1
 obtain ⟨y,hy⟩:∃y,y=elook X.disk p0 r.1.l1 guest:=⟨_,rfl⟩
 rw [← hy] at hk1
 obtain ⟨n,hn⟩:∃n,n=rget X.disk p0 y.1.loc:=⟨_,rfl⟩
 have hc2:zeJ X guest off s=if r.2≠0 then (X,r.2) else if y.2≠0 then (X,y.2) else zfg X r.1.l1 y.1 guest off s:=by rw [zeJ,← hr,← hy]
 have hc3:zfg X r.1.l1 y.1 guest off s=if y.1.kind=1 then (if n.2≠0 then (X,n.2) else if n.1≤1 then (wdisk X (zeX X.disk y.1.loc off s).1,(zeX X.disk y.1.loc off s).2) else zcD X r.1.l1 guest off s) else zcD X r.1.l1 guest off s:=by rw [zfg,← hn]
 rw [hc3] at hc2
 by_cases hin:y.1.kind=1∧(n.2≠0∨n.1≤1)
 ·rw [hc2]
  have hkb:(y.1.kind==1)=true:=beq_iff_eq.2 hin.1
  have hho:=hk1 hin.1
  refine' zhd (zbh 20) (zS hr.symm hy.symm hn.symm hkb) (za zab <| za zw <| za zI <| za zaf <| za zaq <| za zau <| za zaa <| za zag <| za z8 <| za zG <| za zY <| za zac <| zb _)
  all_goals try ((refine (show (_:AV)=_ from ?_));(repeat (first|(rewrite [if_pos];rotate_left;(first|exact bneP (by assumption)|exact beqP (by assumption)|exact of_decide_eq_true (by assumption)|assumption))|(rewrite [if_neg];rotate_left;(first|exact bneN (by assumption)|exact beqN (by assumption)|exact of_decide_eq_false (by assumption)|assumption))));done)
  all_goals try (rw [if_pos hin.1];(refine (show (_:AV)=_ from ?_));(repeat (first|(rewrite [if_pos];rotate_left;(first|exact bneP (by assumption)|exact beqP (by assumption)|exact of_decide_eq_true (by assumption)|assumption))|(rewrite [if_neg];rotate_left;(first|exact bneN (by assumption)|exact beqN (by assumption)|exact of_decide_eq_false (by assumption)|assumption))));rfl)
  rename_i h1
  exact absurd hin.2 (by rintro (h|h);exact bneN h1 h;exact of_decide_eq_false hc h)
 ·have hc4:zeJ X guest off s=if r.2≠0 then (X,r.2) else if y.2≠0 then (X,y.2) else zcD X r.1.l1 guest off s:=by
   rw [hc2]
   by_cases hk:y.1.kind=1
   ·rw [if_pos hk,if_neg (fun h=>hin ⟨hk,.inl h⟩),if_neg (fun h=>hin ⟨hk,.inr h⟩)]
   ·rw [if_neg hk]
  rw [hc4]
  clear hc2 hc3 hc4
  refine' zhd (zbh 14) (zk hr.symm hy.symm) (za zab <| za zw <| za zI <| za zaf <| za zaq <| za zau <| za zaa <| za zag <| za z8 <| za zG <| za zY <| za zac <| zb _)
  all_goals try ((refine (show (_:AV)=_ from ?_));(repeat (first|(rewrite [if_pos];rotate_left;(first|exact bneP (by assumption)|exact beqP (by assumption)|exact of_decide_eq_true (by assumption)|assumption))|(rewrite [if_neg];rotate_left;(first|exact bneN (by assumption)|exact beqN (by assumption)|exact of_decide_eq_false (by assumption)|assumption))));done)
  all_goals try ((refine (show (_:AV)=_ from ?_));(repeat (first|(rewrite [if_pos];rotate_left;(first|exact bneP (by assumption)|exact beqP (by assumption)|exact of_decide_eq_true (by assumption)|assumption))|(rewrite [if_neg];rotate_left;(first|exact bneN (by assumption)|exact beqN (by assumption)|exact of_decide_eq_false (by assumption)|assumption))));rfl)
  have e1:=bneN hc
  rename_i hc0
  have e0:=bneN hc0
  rw [if_neg e0,if_neg e1]
  clear hc hc0
  refine zv7 ⟨[(1,true,.d (.int .i64 guest)),(2,true,.d (.int .i64 off)),(3,true,.d (.str s)),(4,true,.vp 0 0),(8,true,.vp 1 0),(10,true,.vp 2 0)],[(2,.var [.d (.int .i64 r.1.l1),.d (.int .u32 r.1.next)]),(1,.var img0),(0,.var (imgV X))],some []⟩ ?_ ?_
  ·refine' walkR (zr hr.symm hy.symm hn.symm) (za zab <| za zw <| za zI <| za zaf <| za zaq <| za zau <| za zaa <| za zag <| za z8 <| za zG <| za zY <| za zac <| zb _)
   all_goals try exact hk1 (beqP (by assumption))
   ·rename_i hk
    exact absurd ⟨beqP hk,.inl (bneP hc)⟩ hin
   ·rename_i hk _
    exact absurd ⟨beqP hk,.inr (of_decide_eq_true hc)⟩ hin
  ·obtain ⟨t,ht⟩:∃t,t=rtake X.disk p0 X.geom:=⟨_,rfl⟩
   obtain ⟨c,hcc⟩:∃c,c=cread X.disk r.1.l1 guest:=⟨_,rfl⟩
   obtain ⟨b,hb⟩:∃b,b=(overS c.1 off s).1:=⟨_,rfl⟩
   have hth:t.2.2=0→zV t.2.1=true:=by rw [ht];exact zjG
   have hbl:c.2=0→b.length=128:=fun h=>by
    have:=zff (l1:=r.1.l1) (g:=guest) hXd.puts (by rw [← hcc];exact h)
    rw [← hcc] at this
    rw [hb,zlW (by omega) (by omega),this]
   have hcl:c.1.length≤128:=by rw [hcc];exact zpc hXd.puts
   have hpt:DP X.disk t.1:=by rw [ht];exact hdp.rtake _
   have hpt2:pfit t.1=true:=hpt.p
   have hw4:zcD X r.1.l1 guest off s=if t.2.2≠0 then (X,t.2.2) else if c.2≠0 then (X,c.2) else if (layL X.disk (zaU t.2.1 b)).2≠0 then (wdisk X (layL X.disk (zaU t.2.1 b)).1,(layL X.disk (zaU t.2.1 b)).2)
     else if (ppoint (layL X.disk (zaU t.2.1 b)).1 t.1 X.geom guest ⟨1,t.2.1⟩).2≠0 then (wdisk X (layL X.disk (zaU t.2.1 b)).1,(ppoint (layL X.disk (zaU t.2.1 b)).1 t.1 X.geom guest ⟨1,t.2.1⟩).2)
     else cdone (wdisk X (layL X.disk (zaU t.2.1 b)).1) (ppoint (layL X.disk (zaU t.2.1 b)).1 t.1 X.geom guest ⟨1,t.2.1⟩).1:=by rw [zcD,← ht,← hcc,← hb]
   rw [hw4]
   clear hw4
   refine' zhd (zbh 27) (zr ht.symm hcc.symm hb.symm) (za zab <| za zw <| za zI <| za zaf <| za zaq <| za zau <| za zaa <| za zag <| za z8 <| za zG <| za zY <| za zac <| zb _)
   all_goals try ((refine (show (_:AV)=_ from ?_));(repeat (first|(rewrite [if_pos];rotate_left;(first|exact bneP (by assumption)|exact beqP (by assumption)|exact of_decide_eq_true (by assumption)|assumption))|(rewrite [if_neg];rotate_left;(first|exact bneN (by assumption)|exact beqN (by assumption)|exact of_decide_eq_false (by assumption)|assumption))));rfl)
   rename_i h0
   have e2:=bneN h0
   have e3:=bneN hc
   have hb128:=hbl (by omega)
   have hth2:=hostOk_iff.1 (hth (by omega))
   obtain ⟨L,hL⟩:∃L,L=layL X.disk (zaU t.2.1 b):=⟨_,rfl⟩
   have hLF:DiskF L.1:=by rw [hL];exact DiskF.layL _ hXd
   rw [if_neg e2,if_neg e3,← hL]
   clear h0 hc
   generalize hZ:(if L.2≠0 then (wdisk X L.1,L.2) else if (ppoint L.1 t.1 X.geom guest ⟨1,t.2.1⟩).2≠0 then (wdisk X L.1,(ppoint L.1 t.1 X.geom guest ⟨1,t.2.1⟩).2) else cdone (wdisk X L.1) (ppoint L.1 t.1 X.geom guest ⟨1,t.2.1⟩).1:Img×Int)=Z
   refine aw_le ⟨[(1,true,.d (.int .i64 guest)),(2,true,.d (.int .i64 off)),(3,true,.d (.str s)),(4,true,.vp 0 0),(8,true,.vp 1 0),(15,true,.vp 3 0),(16,true,.d (.int .i64 t.2.1)),(17,true,.d (.str b))],[(3,.var (planC t.1)),(1,.var img0),(0,.var (imgV X))],some []⟩ (by simp only [AS.le,leT,leH,zf,AsgK,AV.le,AV.leL,AObj.le,inH,idsT,idsH,AV.ids,AV.idsL,AV.idsR,AObj.ids,lk,hget,go_sem,aeq,aeq.aeqF,simprocAttr,planC]) ?_
   refine' walkR fx (za zab <| za zw <| za zI <| za zaf <| za zaq <| za zau <| za zaa <| za zag <| za z8 <| za zG <| za zY <| za zac <| zb _)
   refine zo (fun q: { q:Nat×Disk // q.1≤2∧DiskF q.2∧L=layL q.2 ((zaU t.2.1 b).drop q.1) } =>⟨[(1,true,.d (.int .i64 guest)),(2,true,.d (.int .i64 off)),(3,true,.d (.str s)),(4,true,.vp 0 0),(8,true,.vp 1 0),(15,true,.vp 3 0),(16,true,.d (.int .i64 t.2.1)),(17,true,.d (.str b)),(18,true,.d (.int .i64 q.1.1))],[(3,.var (planC t.1)),(1,.var img0),(0,.var (imgV (wdisk X q.1.2)))],some []⟩) (fun q=>2 - q.1.1) ⟨(0,X.disk),Nat.zero_le _,hXd,hL⟩ (by simp only [AS.le,leT,leH,zf,AsgK,AV.le,AV.leL,AObj.le,inH,idsT,idsH,AV.ids,AV.idsL,AV.idsR,AObj.ids,lk,hget,go_sem,aeq,aeq.aeqF,simprocAttr,wdisk]<;>and_intros<;>rfl) (fun q=>?_)
   obtain ⟨⟨i,d⟩,hi2,hF,hf⟩:=q
   simp only at hi2 hF hf ⊢
   have hF1:=hF.ok
   have hc0:((0:Nat):Int)=0:=rfl
   have hc1:((1:Nat):Int)=1:=rfl
   have hc2:((2:Nat):Int)=2:=rfl
   have h64:Int.toNat 64=64:=rfl
   have h128:Int.toNat 128=128:=rfl
   have hz0:Int.toNat 0=0:=rfl
   have hw1:IntKind.i64.wrap 1=1:=by decide
   have hw2:IntKind.i64.wrap 2=2:=by decide
   have hw64:IntKind.i64.wrap 64=64:=by decide
   have hw128:IntKind.i64.wrap 128=128:=by decide
   have hwz:IntKind.i64.wrap 0=0:=by decide
   have hwk:IntKind.i64.wrap (96+2*t.2.1+0)=96+2*t.2.1:=by rw [Int.add_zero];exact ze (by omega) (by omega)
   have hwk1:IntKind.i64.wrap (96+2*t.2.1+1)=96+2*t.2.1+1:=ze (by omega) (by omega)
   have h3:i=0∨i=1∨i=2:=by omega
   rcases h3 with rfl|rfl|rfl
   ·have hf':L=if (zU d (96+2*t.2.1) (b.take 64)).2≠0 then zU d (96+2*t.2.1) (b.take 64) else layL (zU d (96+2*t.2.1) (b.take 64)).1 ((zaU t.2.1 b).drop 1):=hf
    have hFn:=hF.write (96+2*t.2.1) (b.take 64)
    refine' walkR (zq hc0 hw1 hw64 hwz hz0 (zS h64 hwk hb128 @wdisk.eq_1)) (za zab <| za zw <| za zI <| za zaf <| za zaq <| za zau <| za zaa <| za zag <| za z8 <| za zG <| za zY <| za zac <| zb _)
    ·rw [if_pos (bneP hc)] at hf'
     rw [← hZ,hf',if_pos (bneP hc)]
     rfl
    ·rw [if_neg (bneN hc)] at hf'
     exact ⟨⟨(1,_),by show (1:Nat)≤2;omega,hFn,hf'⟩,by simp only [AS.le,leT,leH,zf,AsgK,AV.le,AV.leL,AObj.le,inH,idsT,idsH,AV.ids,AV.idsL,AV.idsR,AObj.ids,lk,hget,go_sem,aeq,aeq.aeqF,simprocAttr,wdisk]<;>and_intros<;>rfl,by simp⟩
   ·have hf':L=if (zU d (96+2*t.2.1+1) ((b.take 128).drop 64)).2≠0 then zU d (96+2*t.2.1+1) ((b.take 128).drop 64) else ((zU d (96+2*t.2.1+1) ((b.take 128).drop 64)).1,0):=hf
    have hFn:=hF.write (96+2*t.2.1+1) ((b.take 128).drop 64)
    refine' walkR (zq hc1 hw2 hw64 hw128 h128 (zS h64 hwk1 hb128 @wdisk.eq_1)) (za zab <| za zw <| za zI <| za zaf <| za zaq <| za zau <| za zaa <| za zag <| za z8 <| za zG <| za zY <| za zac <| zb _)
    ·rw [if_pos (bneP hc)] at hf'
     rw [← hZ,hf',if_pos (bneP hc)]
     rfl
    ·rw [if_neg (bneN hc)] at hf'
     exact ⟨⟨(2,_),by show (2:Nat)≤2;omega,hFn,hf'⟩,by simp only [AS.le,leT,leH,zf,AsgK,AV.le,AV.leL,AObj.le,inH,idsT,idsH,AV.ids,AV.idsL,AV.idsR,AObj.ids,lk,hget,go_sem,aeq,aeq.aeqF,simprocAttr,wdisk]<;>and_intros<;>rfl,by simp⟩
   ·have hLd:L=(d,0):=hf
    have hdq:DP d t.1:=⟨hF,hpt2⟩
    have hQp:pfit (ppoint d t.1 X.geom guest ⟨1,t.2.1⟩).1=true:=(hdq.ppoint _ _ _).p
    have hXw:ImgOk ⟨d,X.geom,X.jour,X.maps,X.broken⟩:=(hX.wd hF).ok
    rw [hLd] at hZ
    refine' walkR (zk hc2 @wdisk.eq_1) (za zab <| za zw <| za zI <| za zaf <| za zaq <| za zau <| za zaa <| za zag <| za z8 <| za zG <| za zY <| za zac <| zb _)
    ·rw [← hZ,if_neg (by simp),if_pos (bneP hc)]
     rfl
    ·rw [← hZ,if_neg (by simp),if_neg (bneN hc)]
     rfl
@[go_sem] noncomputable def za6:Ent Tryz.prog 90:= .m4 zaO (intT .i64) (intT .i64) strT znB
open Go Go.Proofs
theorem DiskF.commit {d:Disk} (h:DiskF d) (j:Jour) (p:Plan):DiskF (jcommit d j p).1:=by
 have h1:=h.flush
 have h2:∀l,DiskF (Aw.layL (Aw.dflush d).1 l).1:=fun l=>DiskF.layL l h1
 have h3:∀l,DiskF (Aw.dflush (Aw.layL (Aw.dflush d).1 l).1).1:=fun l=>(h2 l).flush
 have h4:∀l,DiskF (Aw.play (Aw.dflush (Aw.layL (Aw.dflush d).1 l).1).1 p).1:=fun l=>(h3 l).play p
 unfold Aw.jcommit Aw.jtail
 repeat' split
 all_goals first|exact h|exact h1|exact h2 _|exact h3 _|exact h4 _
theorem znT {d:Disk} {j:Jour} {p:Plan} (h0:0≤j.seq) (h1:j.seq≤4611686018427387904):0≤(jcommit d j p).2.1.seq∧(jcommit d j p).2.1.seq≤4611686018427387904:=by
 unfold jcommit jtail
 repeat' split
 all_goals first|exact ⟨h0,h1⟩|(constructor<;>simp only<;>omega)
theorem ImgF.done {x:Img} (h:ImgF x) (p:Plan):ImgF (cdone x p).1:=by
 have hd:=h.disk.commit x.jour p
 have hs:=znT (d:=x.disk) (p:=p) h.seq0 h.seq1
 unfold cdone
 split
 ·exact ⟨⟨hd.ok,h.ok.maps,h.ok.names,h.ok.bits⟩,hd,h.guest,h.host,h.seq0,h.seq1,h.maps⟩
 ·exact ⟨⟨hd.ok,h.ok.maps,h.ok.names,h.ok.bits⟩,hd,h.guest,h.host,hs.1,hs.2,h.maps⟩
theorem DiskF.place {d:Disk} (h:DiskF d) (k off:Int) (s:Txt):DiskF (zeX d k off s).1:=by
 have:∀m i d,DiskF d→DiskF (zef k off s m i d).1:=by
  intro m
  induction m with
  |zero=>intro i d h;exact h
  |succ m ih=>
   intro i d h
   rw [zef]
   split
   ·exact h.cput1 _ _ _ _
   ·exact ih _ _ (h.cput1 _ _ _ _)
 exact this _ _ _ h
theorem ImgF.write4 {x:Img} (h:ImgF x) (l1 g off:Int) (s:Txt):ImgF (zcD x l1 g off s).1:=by
 unfold zcD
 repeat' split
 ·exact h
 ·exact h
 ·exact h.wd (DiskF.layL _ h.disk)
 ·exact h.wd (DiskF.layL _ h.disk)
 ·exact (h.wd (DiskF.layL _ h.disk)).done _
theorem ImgF.write {x:Img} (h:ImgF x) (g off:Int) (s:Txt):ImgF (zbk x g off s).1:=by
 have hm:=h.mark g
 unfold zbk
 split
 ·exact h
 split
 ·exact h
 split
 ·exact h
 unfold zeJ
 split
 ·exact hm
 split
 ·exact hm
 unfold zfg
 split
 ·split
  ·exact hm
  split
  ·exact hm.wd (hm.disk.place _ _ _)
  ·exact hm.write4 _ _ _ _
 ·exact hm.write4 _ _ _ _
open Go Go.Proofs
def cgood (x:Img):Bool:=decide ((x.disk.cache.length:Int)≤300)&&decide ((x.maps.length:Int)≤2)&&ifit x
theorem zwO {x:Img} (h:ImgOk x) (hg:cgood x=true):ImgF x:=by
 unfold cgood ifit at hg
 simp only [Bool.and_eq_true,decide_eq_true_eq] at hg
 obtain ⟨⟨g1,g2⟩,⟨⟨⟨⟨g3,g4⟩,g5⟩,g6⟩,g7⟩,g8⟩:=hg
 rw [geo_iff] at g3
 unfold dfit at g4
 simp only [Bool.and_eq_true] at g4
 unfold jfit at g6
 simp only [Bool.and_eq_true,decide_eq_true_eq] at g6
 exact ⟨h,⟨h.disk,g4.1.2⟩,by omega,by omega,by omega,by omega,by omega⟩
open Go Go.Proofs
def zpn (d:Disk) (by_:Int):List Int→Plan→Plan×Int
 | [],q=>(q,0)
 |k::r,q=>if (radd d q k by_).2≠0 then (q,(radd d q k by_).2) else zpn d by_ r (radd d q k by_).1
def share (d:Disk) (p:Plan) (l1 by_:Int):Plan×Int:=
 if (reach d p l1).2≠0 then (p,(reach d p l1).2) else if (zpn d by_ (reach d p l1).1 p).2≠0 then (p,(zpn d by_ (reach d p l1).1 p).2) else zpn d by_ (reach d p l1).1 p
def wipe2 (x:Img) (guest kind:Int):Img×Int:=
 if (zC x.disk p0).2≠0 then (x,(zC x.disk p0).2) else if (elook x.disk p0 (zC x.disk p0).1.l1 guest).2≠0 then (x,(elook x.disk p0 (zC x.disk p0).1.l1 guest).2)
 else if (elook x.disk p0 (zC x.disk p0).1.l1 guest).1.kind=kind then (x,0)
 else if (ppoint x.disk p0 x.geom guest ⟨kind,0⟩).2≠0 then (x,(ppoint x.disk p0 x.geom guest ⟨kind,0⟩).2) else cdone x (ppoint x.disk p0 x.geom guest ⟨kind,0⟩).1
def wipe (x:Img) (guest:Int) (hole:Bool):Img×Int:=
 if x.broken then (x,24) else if guest<0∨x.geom.guest≤guest then (x,10) else wipe2 (cmark x guest) guest (if hole then 0 else 2)
open Go Go.Proofs
theorem zu5 {d:Disk} {p:Plan} {t i:Int} (hk:(eget d p t i).1.kind≠1):(eget d p t i).1.loc=0:=by
 by_cases he:(eget d p t i).2=0
 ·have:=(zkw he).1
  unfold entOk at this
  rw [if_neg hk] at this
  simp only [Bool.and_eq_true,beq_iff_eq] at this
  exact this.2
 ·unfold eget at he ⊢
  split
  ·rfl
  rename_i h1
  rw [if_neg h1] at he
  split
  ·rfl
  rename_i h2
  rw [if_neg h2] at he
  unfold entT at he ⊢
  split
  ·rfl
  ·rename_i h3
   rw [if_neg h3] at he
   exact absurd rfl he
theorem zsT {d:Disk} {p:Plan} {l1 g:Int} (hk:(elook d p l1 g).1.kind≠1):(elook d p l1 g).1.loc=0:=by
 unfold elook at hk ⊢
 repeat' split
 all_goals first|rfl|skip
 rename_i h1 h2 h3 h4
 rw [if_neg h1,if_neg h2,if_neg h3,if_neg h4] at hk
 exact zu5 hk
theorem zqF (x:Img) (guest:Int) (isH:Bool) (h:ImgF x):AC 91 [imgA x,.d (.int .i64 guest),.d (.bool isH)] (.tup [imgA (wipe x guest isH).1,.d (.int .i64 (wipe x guest isH).2)]):=by
 refine fbod Tryz.func91 Tryz.ntmps91 (fun base=>?_)
 obtain ⟨Z,hZ⟩:∃Z,Z=wipe x guest isH:=⟨_,rfl⟩
 have hZ2:=hZ
 rw [wipe] at hZ2
 have hio:=h.ok
 have him:=h.maps
 have hX:=h.mark guest
 obtain ⟨X,hXe⟩:∃X,X=cmark x guest:=⟨_,rfl⟩
 rw [← hXe] at hX hZ2
 have hdp:DP X.disk p0:=⟨hX.disk,zcc⟩
 have hho:=hX.host
 have hgu:=hX.guest
 have hxo:=hX.ok
 have hxd:=hX.disk
 have hq0:=hX.seq0
 have hq1:=hX.seq1
 obtain ⟨R,hR⟩:∃R,R=zC X.disk p0:=⟨_,rfl⟩
 obtain ⟨Y,hY⟩:∃Y,Y=elook X.disk p0 R.1.l1 guest:=⟨_,rfl⟩
 obtain ⟨P,hP⟩:∃P,P=ppoint X.disk p0 X.geom guest ⟨if isH then 0 else 2,0⟩:=⟨_,rfl⟩
 have hpf:pfit P.1=true:=by rw [hP];exact (hdp.ppoint _ _ _).p
 obtain ⟨D,hD⟩:∃D,D=cdone X P.1:=⟨_,rfl⟩
 rw [wipe2,← hR,← hY,← hP,← hD] at hZ2
 by_cases hr:guest<0∨x.geom.guest≤guest
 ·have hdec:(decide (guest<0)||decide (x.geom.guest≤guest))=true:=by simpa using hr
  rw [if_pos hr] at hZ2
  refine' walkW (zk hdec hZ.symm) (za zab <| za zw <| za zI <| za zY <| za zac <| zb _)
  ·rw [hZ2,if_pos hc]
  ·rw [hZ2,if_neg (by rw [hc];decide)]
 have hdec:(decide (guest<0)||decide (x.geom.guest≤guest))=false:=by simpa using hr
 rw [if_neg hr] at hZ2
 refine' zh6 (zbh 5) (zk hdec hZ.symm) (za zab <| za zw <| za zI <| za zY <| za zac <| zb _)
 ·rw [hZ2,if_pos hc]
 rw [if_neg (by rw [hc];decide)] at hZ2
 clear hc
 have hYl:∀k,k≠1→(Y.1.kind==k&&Y.1.loc==0)=(Y.1.kind==k):=by
  intro k hk
  cases hb:Y.1.kind==k with
  |false=>rfl
  |true=>
   have hb2:Y.1.kind=k:=by simpa using hb
   have:Y.1.loc=0:=by rw [hY];exact zsT (by rw [← hY,hb2];exact hk)
   rw [this];rfl
 cases isH with
 |true=>
  simp only [if_true] at hP hZ2
  have hY0:=hYl 0 (by decide)
  refine' walkW (zq hXe.symm hR.symm hY.symm hP.symm hD.symm (zk hZ.symm hY0)) (za zab <| za zw <| za zI <| za zY <| za zac <| zb _)
  all_goals rw [hZ2]
  all_goals (refine (show (_:AV)=_ from ?_));(repeat (first|(rewrite [if_pos];rotate_left;(first|exact bneP (by assumption)|exact beqP (by assumption)|exact of_decide_eq_true (by assumption)|assumption))|(rewrite [if_neg];rotate_left;(first|exact bneN (by assumption)|exact beqN (by assumption)|exact of_decide_eq_false (by assumption)|assumption))))
  all_goals rfl
 |false=>
  simp only [Bool.false_eq_true,if_false] at hP hZ2
  have hY0:=hYl 2 (by decide)
  refine' walkW (zq hXe.symm hR.symm hY.symm hP.symm hD.symm (zk hZ.symm hY0)) (za zab <| za zw <| za zI <| za zY <| za zac <| zb _)
  all_goals rw [hZ2]
  all_goals (refine (show (_:AV)=_ from ?_));(repeat (first|(rewrite [if_pos];rotate_left;(first|exact bneP (by assumption)|exact beqP (by assumption)|exact of_decide_eq_true (by assumption)|assumption))|(rewrite [if_neg];rotate_left;(first|exact bneN (by assumption)|exact beqN (by assumption)|exact of_decide_eq_false (by assumption)|assumption))))
  all_goals rfl
@[go_sem] noncomputable def zbo:Ent Tryz.prog 91:= .m3 zaO (intT .i64) boolT zqF
open Go Go.Proofs
structure DF (d d':Disk):Prop where
 data:d'.data.length=d.data.length
 bad:d'.bad=d.bad
 cache:d.cache.length≤4096→d'.cache.length≤4096
theorem DF.refl (d:Disk):DF d d:=⟨rfl,rfl,id⟩
theorem DF.trans {a b c:Disk} (h:DF a b) (g:DF b c):DF a c:=⟨g.data.trans h.data,g.bad.trans h.bad,fun k=>g.cache (h.cache k)⟩
theorem zl3 {d d':Disk} (h:d'.data.length=d.data.length):∀ (l:List Int) (p:Option Int),zc6 d' l p=zc6 d l p
 | [],p=>rfl
 |a::l,p=>by simp only [zc6];rw [zqD h,zl3 h l]
theorem DF.fit {d d':Disk} (h:DF d d') (hF:DiskF d') (hf:dfit d=true):dfit d'=true:=by
 unfold dfit at hf ⊢
 simp only [Bool.and_eq_true,decide_eq_true_eq,beq_iff_eq] at hf ⊢
 obtain ⟨⟨⟨⟨⟨h1,h2⟩,h3⟩,h4⟩,h5⟩,h6⟩:=hf
 have hd:dsize d'=dsize d:=by unfold dsize;rw [h.data]
 exact ⟨⟨⟨⟨⟨by rw [hd];exact h1,by rw [hd];exact h2⟩,by rw [h.data];exact h3⟩,h.cache h4⟩,hF.puts⟩,by rw [h.bad,zl3 h.data];exact h6⟩
theorem DF.write (d:Disk) (a:Int) (s:Txt):DF d (zU d a s).1:=by
 refine ⟨by rw [zii],?_,?_⟩
 ·unfold zU
  repeat' split
  all_goals first|rfl|(rw [zl2])
 ·intro h
  unfold zU
  split
  ·exact h
  split
  ·exact h
  split
  ·exact h
  split
  ·exact h
  split
  ·exact h
  split
  ·exact h
  ·rename_i h1 h2 h3 h4 h5 h6
   rw [zeE]
   simp only [List.length_append,List.length_cons,List.length_nil]
   omega
theorem DF.flush {d:Disk} (h:DiskF d):DF d (dflush d).1:=by
 refine ⟨zjA h.puts,?_,?_⟩
 ·unfold dflush
  repeat' split
  all_goals first|rfl|(rw [zl2])
 ·intro hc
  unfold dflush
  split
  ·exact hc
  split
  ·exact hc
  ·rw [zeE]
   exact Nat.zero_le _
theorem DF.layL:∀ (l:List (Int×Txt)) (d:Disk),DF d (layL d l).1
 | [],d=>DF.refl d
 |q::l,d=>by
  rw [Aw.layL]
  split
  ·exact DF.write d q.1 q.2
  ·exact (DF.write d q.1 q.2).trans (DF.layL l _)
theorem DF.commit {d:Disk} (h:DiskF d) (j:Jour) (p:Plan):DF d (jcommit d j p).1:=by
 have h1:=DF.flush h
 have h2:∀l,DF d (Aw.layL (dflush d).1 l).1:=fun l=>h1.trans (DF.layL l _)
 have h3:∀l,DF d (dflush (Aw.layL (dflush d).1 l).1).1:=fun l=>(h2 l).trans (DF.flush (DiskF.layL l h.flush))
 have h4:∀l,DF d (play (dflush (Aw.layL (dflush d).1 l).1).1 p).1:=fun l=>(h3 l).trans (DF.layL _ _)
 unfold jcommit jtail
 repeat' split
 all_goals first|exact DF.refl d|exact h1|exact h2 _|exact h3 _|exact h4 _
theorem DF.place (d:Disk) (k off:Int) (s:Txt):DF d (zeX d k off s).1:=by
 have h1:∀i d,DF d (cput1 d k off s i).1:=by
  intro i d
  unfold cput1
  split
  ·exact DF.refl d
  split
  ·exact DF.refl d
  ·exact DF.write _ _ _
 have:∀m i d,DF d (zef k off s m i d).1:=by
  intro m
  induction m with
  |zero=>intro i d;exact DF.refl d
  |succ m ih=>
   intro i d
   rw [zef]
   split
   ·exact h1 i d
   ·exact (h1 i d).trans (ih _ _)
 exact this _ _ _
theorem znZ {d:Disk} {j:Jour} {p:Plan} (hp:pfit p=true) (h:jfit j=true):jfit (jcommit d j p).2.1=true:=by
 have hl:=(zgU j.seq hp).1
 have hA:=zgT j.pos (zcb j.seq p).length
 have hAL:0≤zdb j.pos (zcb j.seq p).length∧zdb j.pos (zcb j.seq p).length+(zcb j.seq p).length≤81:=by
  refine ⟨by omega,?_⟩
  unfold zdb
  split<;>omega
 unfold jcommit
 split
 ·exact h
 split
 ·exact h
 rename_i h2
 split
 ·exact h
 unfold jtail
 split
 ·exact h
 split
 ·exact h
 split
 ·exact h
 ·unfold jfit at h ⊢
  simp only [Bool.and_eq_true,decide_eq_true_eq] at h ⊢
  omega
structure IF (x y:Img):Prop where
 geom:y.geom=x.geom
 disk:DF x.disk y.disk
 jour:jfit x.jour=true→jfit y.jour=true
 len:y.maps.length=x.maps.length
 maps:∀n k,mfit n k y.maps=mfit n k x.maps
 head:y.maps.head?.map (·.name)=x.maps.head?.map (·.name)
theorem IF.refl (x:Img):IF x x:=⟨rfl,DF.refl _,id,rfl,fun _ _=>rfl,rfl⟩
theorem IF.trans {x y z:Img} (h:IF x y) (g:IF y z):IF x z:=⟨g.geom.trans h.geom,h.disk.trans g.disk,fun k=>g.jour (h.jour k),g.len.trans h.len,fun n k=>(g.maps n k).trans (h.maps n k),g.head.trans h.head⟩
theorem IF.fit {x y:Img} (h:IF x y) (hy:ImgF y) (hf:ifit x=true):ifit y=true:=by
 unfold ifit at hf ⊢
 simp only [Bool.and_eq_true,decide_eq_true_eq,beq_iff_eq] at hf ⊢
 obtain ⟨⟨⟨⟨⟨h1,h2⟩,h3⟩,h4⟩,h5⟩,h6⟩:=hf
 have hd:dsize y.disk=dsize x.disk:=by unfold dsize;rw [h.disk.data]
 exact ⟨⟨⟨⟨⟨by rw [h.geom];exact h1,h.disk.fit hy.disk h2⟩,by rw [hd,h.geom];exact h3⟩,h.jour h4⟩,by rw [h.len];exact h5⟩,by rw [h.head,h.maps];exact h6⟩
theorem IF.mark (x:Img) (g:Int):IF x (cmark x g):=by
 unfold cmark
 split
 ·exact IF.refl x
 ·refine ⟨rfl,DF.refl _,id,by simp,?_,?_⟩
  ·simp only
   intro n k
   have hg:∀ (l:List Dmap) k,mfit n k (l.map (mset g.toNat))=mfit n k l:=by
    intro l
    induction l with
    |nil=>intro k;rfl
    |cons m l ih=>intro k;rw [List.map_cons,mfit,mfit,ih];rfl
   exact hg _ k
  ·cases hm:x.maps with
   |nil=>simp [hm]
   |cons m l=>simp [hm,mset]
theorem IF.wd (x:Img) {d:Disk} (h:DF x.disk d):IF x (wdisk x d):=⟨rfl,h,id,rfl,fun _ _=>rfl,rfl⟩
theorem IF.done {x:Img} {p:Plan} (hx:DiskF x.disk) (hp:pfit p=true):IF x (cdone x p).1:=by
 have h1:=DF.commit hx x.jour p
 have h2:=znZ (d:=x.disk) (j:=x.jour) hp
 unfold cdone
 split
 ·exact ⟨rfl,h1,id,rfl,fun _ _=>rfl,rfl⟩
 ·exact ⟨rfl,h1,h2,rfl,fun _ _=>rfl,rfl⟩
theorem IF.write4 {x:Img} (hx:ImgF x) (l1 g off:Int) (s:Txt):IF x (zcD x l1 g off s).1:=by
 have hd0:DP x.disk p0:=⟨hx.disk,zcc⟩
 unfold zcD
 split
 ·exact IF.refl x
 split
 ·exact IF.refl x
 split
 ·exact IF.wd x (DF.layL _ _)
 split
 ·exact IF.wd x (DF.layL _ _)
 ·refine (IF.wd x (DF.layL _ _)).trans (IF.done (DiskF.layL _ hx.disk) ?_)
  have hq:DP (layL x.disk (zaU (rtake x.disk p0 x.geom).2.1 (overS (cread x.disk l1 g).1 off s).1)).1 (rtake x.disk p0 x.geom).1:=⟨DiskF.layL _ hx.disk,(hd0.rtake _).p⟩
  exact (hq.ppoint _ _ _).p
theorem IF.write {x:Img} (hx:ImgF x) (g off:Int) (s:Txt):IF x (zbk x g off s).1:=by
 have hm:=hx.mark g
 unfold zbk
 split
 ·exact IF.refl x
 split
 ·exact IF.refl x
 split
 ·exact IF.refl x
 refine (IF.mark x g).trans ?_
 unfold zeJ
 split
 ·exact IF.refl _
 split
 ·exact IF.refl _
 unfold zfg
 split
 ·split
  ·exact IF.refl _
  split
  ·exact IF.wd _ (DF.place _ _ _ _)
  ·exact IF.write4 hm _ _ _ _
 ·exact IF.write4 hm _ _ _ _
theorem IF.wipe {x:Img} (hx:ImgF x) (g:Int) (hole:Bool):IF x (wipe x g hole).1:=by
 have hm:=hx.mark g
 have hd0:DP (cmark x g).disk p0:=⟨hm.disk,zcc⟩
 unfold Aw.wipe
 split
 ·exact IF.refl x
 split
 ·exact IF.refl x
 refine (IF.mark x g).trans ?_
 obtain ⟨kd,hkd⟩:∃kd:Int,kd=if hole then 0 else 2:=⟨_,rfl⟩
 rw [← hkd]
 unfold wipe2
 split
 ·exact IF.refl _
 split
 ·exact IF.refl _
 split
 ·exact IF.refl _
 split
 ·exact IF.refl _
 ·exact IF.done hm.disk (hd0.ppoint _ _ _).p
open Go Go.Proofs
def zd1 (g m:Int):Txt:= [67,79,70,49]++putN g.toNat 2++putN m.toNat 2
def zgx (g m:Int):Txt:=padR (zd1 g m++zfT (sumOf 0 (zd1 g m)))
theorem zkR (g m:Int):(zd1 g m).length=8:=by
 rw [zd1,List.length_append,List.length_append,zu,zu];rfl
theorem zq2 (g:Int) (m:Int) (h:zel g m=true):ACall Tryz.prog 68 0 [.agg [.d (.int .i64 g),.d (.int .i64 m)]] [] (fun r _=>r= .tup [.d (.str (zgx g m)),.d (.int .i64 0)]):=by
 refine fbod Tryz.func68 Tryz.ntmps68 (fun base=>?_)
 have hg:=geo_iff.1 h
 have hw1:IntKind.u64.wrap g=g:=zT (by omega) (by omega)
 have hw2:IntKind.u64.wrap m=m:=zT (by omega) (by omega)
 have hl1:=zu g.toNat 2
 have hl2:=zu m.toNat 2
 have hhd:(67:UInt8)::79::70::49::putN g.toNat 2++putN m.toNat 2=zd1 g m:=rfl
 have hhl:=zkR g m
 have hs:=zf3 0 (zd1 g m) (by omega) (by omega)
 have hbl:=zdD (sumOf 0 (zd1 g m))
 refine' walkW (zq h hw1 hw2 @zhj @zfd (zq @List.length_cons.{0} @List.length_nil.{0} hl1 hl2 hhd (zr hhl hbl @List.length_append.{0}))) (za zdz <| za zR <| za zbB <| za zaB <| za zgQ <| zb _)
 rfl
@[go_sem] noncomputable def zmu:Ent Tryz.prog 68:= .ofL (consL (aggT (consL (intT .i64) (consL (intT .i64) nilL)) (fun p=>p) (fun p=>p) (fun _=>rfl)) nilL) (fun ((g,m,_),_)=>zel g m=true) (fun ((g,m,_),_)=> .tup [.d (.str (zgx g m)),.d (.int .i64 0)]) (fun ((g,m,_),_) hp=>⟨rfl,zq2 g m hp⟩)
def csmall:Img:=⟨(dflush (play (dnew 112).1 (radd (dnew 112).1 (zeH (pset p0 0 (zgx 20 8)).1 ⟨0,1⟩).1 0 1).1).1).1,⟨20,8⟩,⟨1,0⟩,[],false⟩
theorem ztr:ImgF csmall:=by
 have h:DiskF (dnew 112).1:=⟨by constructor<;>simp [dnew],rfl⟩
 have hp:=(h.play (radd (dnew 112).1 (zeH (pset p0 0 (zgx 20 8)).1 ⟨0,1⟩).1 0 1).1).flush
 exact ⟨⟨hp.ok,by decide,(fun m hm=>by cases hm),(fun m hm=>by cases hm)⟩,hp,by decide,by decide,by decide,by decide,by decide⟩
theorem zon:ACall Tryz.prog 26 0 [] [] (fun r _=>r=imgA csmall):=by
 have hd:DiskF (dnew 112).1:=⟨by constructor<;>simp [dnew],rfl⟩
 obtain ⟨c,hc⟩:∃c,c=csmall:=⟨_,rfl⟩
 rw [← hc]
 unfold csmall at hc
 obtain ⟨N,hN⟩:∃N,N=dnew 112:=⟨_,rfl⟩
 obtain ⟨S,hS⟩:∃S,S=pset p0 0 (zgx 20 8):=⟨_,rfl⟩
 have hp0:pfit S.1=true:=by rw [hS];exact zd8 zcc
 obtain ⟨Q,hQ⟩:∃Q,Q=zeH S.1 ⟨0,1⟩:=⟨_,rfl⟩
 have hp1:pfit Q.1=true:=by rw [hQ];exact znY hp0
 rw [← hN] at hd
 rw [← hN,← hS,← hQ] at hc
 have hdp:DP N.1 Q.1:=⟨hd,hp1⟩
 obtain ⟨A,hA⟩:∃A,A=radd N.1 Q.1 0 1:=⟨_,rfl⟩
 have hp2:pfit A.1=true:=by rw [hA];exact zo7 hp1
 have hpo:=PlanOk.of hp2
 have hpl:=(zaJ hp2).1
 have hdo:=hd.ok
 obtain ⟨L,hL⟩:∃L,L=play N.1 A.1:=⟨_,rfl⟩
 have hLf:DiskF L.1:=by rw [hL];exact hd.play A.1
 have hLo:=hLf.ok
 have hLp:=hLf.puts
 obtain ⟨F,hF⟩:∃F,F=dflush L.1:=⟨_,rfl⟩
 rw [← hA,← hL,← hF] at hc
 have hgeo:zel 20 8=true:=by decide
 have hpo0:=PlanOk.of zcc
 refine fbod Tryz.func26 Tryz.ntmps26 (fun base=>?_)
 refine' walkW (zq hN.symm hS.symm hQ.symm hA.symm hL.symm (zk hF.symm hc.symm)) (za zpO <| za zmu <| za zaY <| za znt <| za zbW <| za zcR <| za za3 <| zb _)
 ·rfl
 ·decide
 ·rw [hc]
  rfl
@[go_sem] noncomputable def zkS:Ent Tryz.prog 26:= .ofL nilL (fun _=>True) (fun _=>imgA csmall) (fun _ hp=>⟨rfl,zon⟩)
end Go.Aw
