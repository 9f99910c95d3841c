/-
 Parts of the proof: lemmas.
-/
import Derived.Test.YtgldbfelccddbaaGreatPart15
set_option maxRecDepth 100000
set_option maxHeartbeats 2000000
set_option linter.unusedSimpArgs false
set_option linter.unusedVariables false
namespace Go.Aw
open Go Go.Proofs
def imgV (x:Img):List AV:= [.d (.str x.disk.data),.d (.sl 2 (x.disk.cache.map putD)),.d (.int .i64 x.disk.fuse),.d (.bool x.disk.off),.d (.sl 1 (x.disk.bad.map intD)),.d (.int .i64 x.geom.guest),.d (.int .i64 x.geom.host),.d (.int .u64 x.jour.seq),.d (.int .i64 x.jour.pos),.d (.sl 66 (x.maps.map dmapD)),.d (.bool x.broken)]
attribute [go_sem] imgV
def img0:List AV:= [.d (.str []),.nils 2,.d (.int .i64 0),.d (.bool false),.nils 1,.d (.int .i64 0),.d (.int .i64 0),.d (.int .u64 0),.d (.int .i64 0),.nils 66,.d (.bool false)]
attribute [go_sem] img0
def wdisk (x:Img) (d:Disk):Img:= { x with disk:=d }
def cputT (b:Txt) (off:Int) (s:Txt) (i:Int):Txt:=(overS b (max off (i*64) - i*64) ((s.take (min (off+s.length) ((i+1)*64) - off).toNat).drop (max off (i*64) - off).toNat)).1
def cput1 (d:Disk) (k off:Int) (s:Txt) (i:Int):Disk×Int:=
 if min (off+s.length) ((i+1)*64)≤max off (i*64) then (d,0)
 else if (dread d (96+2*k+i)).2≠0 then (d,(dread d (96+2*k+i)).2)
 else zaT d (96+2*k+i) (cputT (dread d (96+2*k+i)).1 off s i)
def zeU (k off:Int) (s:Txt):Nat→Int→Disk→Disk×Int
 |0,_,d=>(d,0)
 |m+1,i,d=>if (cput1 d k off s i).2≠0 then cput1 d k off s i else zeU k off s m (i+1) (cput1 d k off s i).1
def zgn (d:Disk) (k off:Int) (s:Txt):Disk×Int:=zeU k off s 2 0 d
theorem DiskF.cput1 {d:Disk} (h:DiskF d) (k off:Int) (s:Txt) (i:Int):DiskF (cput1 d k off s i).1:=by
 unfold Aw.cput1
 split
 ·exact h
 split
 ·exact h
 ·exact h.write _ _
theorem zof (x:Img) (k off:Int) (s:Txt) (hp:ImgOk x∧DiskF x.disk∧zaA k=true∧0≤off∧off+s.length≤128):AC 269 [imgA x,.d (.int .i64 k),.d (.int .i64 off),.d (.str s)] (.tup [imgA (wdisk x (zgn x.disk k off s).1),.d (.int .i64 (zgn x.disk k off s).2)]):=by
 obtain ⟨h,hd,hk,h0,h1⟩:=hp
 refine fbod Tryz.func269 Tryz.ntmps269 (fun base=>?_)
 have hk2:=hostOk_iff.1 hk
 refine' walkR fx (za zX <| za zbe <| za zC <| za zag <| zb _)
 refine zk (fun q: { q:Nat×Disk // q.1≤2∧DiskF q.2∧zgn x.disk k off s=zeU k off s (2 - q.1) q.1 q.2 } =>⟨[(1,true,.d (.int .i64 k)),(2,true,.d (.int .i64 off)),(3,true,.d (.str s)),(4,true,.vp 0 0),(8,true,.vp 1 0),(10,true,.d (.int .i64 q.1.1))],[(1,.var img0),(0,.var (imgV (wdisk x q.1.2)))],some []⟩) (fun q=>2 - q.1.1) ⟨(0,x.disk),U,hd,rfl⟩ cn (fun q=>?_)
 obtain ⟨⟨i,d⟩,hi,hF,hr⟩:=q
 simp only at hi hF hr ⊢
 have hd1:=hF.ok
 have hd2:=hF.puts
 rcases Nat.lt_or_ge i 2 with hlt|hge
 ·have hcmp:decide ((i:Int)<2)=true:=decide_eq_true U
  have hwi:=zn (i:=i) U
  have hw1:IntKind.i64.wrap ((i:Int)*64)=i*64:=zi U U
  have hw2:IntKind.i64.wrap (((i+1:Nat):Int)*64)=(i+1)*64:=zi U U
  have hw3:IntKind.i64.wrap (off+(s.length:Int))=off+s.length:=zi U U
  have hw4:IntKind.i64.wrap (96+2*k+(i:Int))=96+2*k+i:=zi U U
  rw [show 2 - i=(2 - (i+1))+1 by omega,zeU] at hr
  obtain ⟨A,hA⟩:∃A,A=max off ((i:Int)*64):=⟨_,rfl⟩
  obtain ⟨B,hB⟩:∃B,B=min (off+(s.length:Int)) (((i:Int)+1)*64):=⟨_,rfl⟩
  have hA1:imax off ((i:Int)*64)=A:=by rw [hA];unfold imax;split<;>omega
  have hB1:imin (off+(s.length:Int)) (((i:Int)+1)*64)=B:=by rw [hB];unfold imin;split<;>omega
  have hc1:cput1 d k off s i=if B≤A then (d,0) else if (dread d (96+2*k+i)).2≠0 then (d,(dread d (96+2*k+i)).2) else zaT d (96+2*k+i) (overS (dread d (96+2*k+i)).1 (A - i*64) ((s.take (B - off).toNat).drop (A - off).toNat)).1:=by rw [cput1,cputT,← hA,← hB]
  have hl:=zgf (at_:=96+2*k+i) hd2
  have hFn:=hF.cput1 k off s i
  by_cases hab:B≤A
  ·have hb:decide (B≤A)=true:=decide_eq_true hab
   rw [if_pos hab] at hc1
   refine' walkR (zo hcmp hwi hw1 hw2 hw3 (zE hA1 hB1 hb @wdisk.eq_1)) (za zX <| za zbe <| za zC <| za zag <| zb _)
   rw [hc1] at hr
   exact ⟨⟨(i+1,d),by show i+1≤2;omega,hF,hr⟩,dQ,af⟩
  ·have hb:decide (B≤A)=false:=decide_eq_false hab
   rw [if_neg hab] at hc1
   have hw5:IntKind.i64.wrap (A - off)=A - off:=zi U U
   have hw6:IntKind.i64.wrap (B - off)=B - off:=zi U U
   have hw7:IntKind.i64.wrap (A - (i:Int)*64)=A - i*64:=zi U U
   have hsl:((s.take (B - off).toNat).drop (A - off).toNat).length≤9223372036854775807:=af
   obtain ⟨b,hbb⟩:∃b,b=(overS (dread d (96+2*k+i)).1 (A - i*64) ((s.take (B - off).toNat).drop (A - off).toNat)).1:=⟨_,rfl⟩
   rw [← hbb] at hc1
   refine' walkR (zo hcmp hwi hw1 hw2 hw3 (zo hw4 hw5 hw6 hw7 hA1 (zE hB1 hb hbb.symm @wdisk.eq_1))) (za zX <| za zbe <| za zC <| za zag <| zb _)
   ·rw [if_pos (bneP hc)] at hc1
    rw [hr,hc1,if_pos (bneP hc)]
   ·rename_i hc0
    rw [if_neg (bneN hc0)] at hc1
    rw [hr,hc1,if_pos (bneP hc)]
   ·rename_i hc0
    rw [if_neg (bneN hc0)] at hc1
    rw [hc1,if_neg (bneN hc)] at hr
    rw [hc1] at hFn
    exact ⟨⟨(i+1,(zaT d (96+2*k+i) b).1),by show i+1≤2;omega,hFn,hr⟩,dQ,af⟩
 ·have hcmp:decide ((i:Int)<2)=false:=decide_eq_false U
  refine' walkR (zj hcmp @wdisk.eq_1) (za zX <| za zbe <| za zC <| za zag <| zb _)
  rw [hr,show 2 - i=0 by omega]
  rfl
@[go_sem] noncomputable def zar:Ent Tryz.prog 269:= .m4 zbk (intT .i64) (intT .i64) strT zof
structure ImgF (x:Img):Prop where
 ok:ImgOk x
 disk:DiskF x.disk
 guest:x.geom.guest≤64
 host:x.geom.host≤256
 seq0:0≤x.jour.seq
 seq1:x.jour.seq≤4611686018427387904
 maps:x.maps.length≤1000000
theorem ImgF.wd {x:Img} (h:ImgF x) {d:Disk} (hd:DiskF d):ImgF (wdisk x d):=⟨⟨hd.ok,h.ok.maps,h.ok.names,h.ok.bits⟩,hd,h.guest,h.host,h.seq0,h.seq1,h.maps⟩
theorem ImgF.mark {x:Img} (h:ImgF x) (g:Int):ImgF (cmark x g):=by
 refine ⟨zv2 h.ok g,?_,?_,?_,?_,?_,?_⟩
 all_goals unfold cmark
 all_goals split
 all_goals first|exact h.disk|exact h.guest|exact h.host|exact h.seq0|exact h.seq1|exact h.maps|skip
 simp only [List.length_map]
 exact h.maps
theorem zmw {d:Disk} {k:Int} (h:d.cache.all (putOk d)=true) (he:(zcP d k).2=0):(zcP d k).1.length=128:=by
 unfold zcP at he ⊢
 split at he
 ·exact absurd he ah
 split at he
 ·exact absurd he ah
 rename_i h1 h2
 rw [if_neg h1,if_neg h2]
 rw [List.length_append,zkR h U,zkR h U]
theorem zit {d:Disk} {l1 g:Int} (h:d.cache.all (putOk d)=true) (he:(cread d l1 g).2=0):(cread d l1 g).1.length=128:=by
 unfold cread at he ⊢
 split at he
 ·exact absurd he ah
 split at he
 ·rename_i h1 h2
  rw [if_neg h1,if_pos h2]
  exact zmw h he
 ·rename_i h1 h2
  rw [if_neg h1,if_neg h2]
  simp
theorem zv3 {d:Disk} {l1 g:Int} (h:d.cache.all (putOk d)=true):(cread d l1 g).1.length≤128:=by
 by_cases he:(cread d l1 g).2=0
 ·rw [zit h he];exact Nat.le_refl _
 ·unfold cread at he ⊢
  split
  ·simp
  rename_i h1
  rw [if_neg h1] at he
  split
  ·rename_i h2
   rw [if_pos h2] at he
   unfold zcP at he ⊢
   split
   ·simp
   rename_i h3
   rw [if_neg h3] at he
   split
   ·simp
   rename_i h4
   rw [if_neg h4] at he
   exact absurd rfl he
  ·simp
theorem zqZ {d:Disk} {p:Plan} {g:Geom} (h:(rtake d p g).2.2=0):zaA (rtake d p g).2.1=true:=by
 unfold rtake at h ⊢
 split at h
 ·rename_i h1;exact absurd h h1
 split at h
 ·rename_i h1;exact absurd h h1
 rename_i h1 h2
 rw [if_neg h1,if_neg h2]
 exact hostOk_iff.2 (zjI d p _ _ (by unfold rfind at h1;omega))
theorem zv4 {s t:Txt} {a:Int} (h0:0≤a) (h:a+t.length≤s.length):overS s a t=(s.take a.toNat++t++s.drop (a+t.length).toNat,0):=by
 rw [overS,if_neg U]
theorem ztz {s t:Txt} {a:Int} (h0:0≤a) (h:a+t.length≤s.length):(overS s a t).1.length=s.length:=by
 rw [zv4 h0 h]
 simp
 omega
def zcj (k:Int) (b:Txt):List (Int×Txt):= [(96+2*k,b.take 64),(96+2*k+1,(b.take 128).drop 64)]
def zdx (x:Img) (l1 guest off:Int) (s:Txt):Img×Int:=
 if (rtake x.disk p0 x.geom).2.2≠0 then (x,(rtake x.disk p0 x.geom).2.2)
 else if (cread x.disk l1 guest).2≠0 then (x,(cread x.disk l1 guest).2)
 else if (layL x.disk (zcj (rtake x.disk p0 x.geom).2.1 (overS (cread x.disk l1 guest).1 off s).1)).2≠0 then
  (wdisk x (layL x.disk (zcj (rtake x.disk p0 x.geom).2.1 (overS (cread x.disk l1 guest).1 off s).1)).1,(layL x.disk (zcj (rtake x.disk p0 x.geom).2.1 (overS (cread x.disk l1 guest).1 off s).1)).2)
 else if (ppoint (layL x.disk (zcj (rtake x.disk p0 x.geom).2.1 (overS (cread x.disk l1 guest).1 off s).1)).1 (rtake x.disk p0 x.geom).1 x.geom guest ⟨1,(rtake x.disk p0 x.geom).2.1⟩).2≠0 then
  (wdisk x (layL x.disk (zcj (rtake x.disk p0 x.geom).2.1 (overS (cread x.disk l1 guest).1 off s).1)).1,(ppoint (layL x.disk (zcj (rtake x.disk p0 x.geom).2.1 (overS (cread x.disk l1 guest).1 off s).1)).1 (rtake x.disk p0 x.geom).1 x.geom guest ⟨1,(rtake x.disk p0 x.geom).2.1⟩).2)
 else cdone (wdisk x (layL x.disk (zcj (rtake x.disk p0 x.geom).2.1 (overS (cread x.disk l1 guest).1 off s).1)).1) (ppoint (layL x.disk (zcj (rtake x.disk p0 x.geom).2.1 (overS (cread x.disk l1 guest).1 off s).1)).1 (rtake x.disk p0 x.geom).1 x.geom guest ⟨1,(rtake x.disk p0 x.geom).2.1⟩).1
def zg3 (x:Img) (l1:Int) (y:Ent2) (guest off:Int) (s:Txt):Img×Int:=
  if y.kind=1 then
    (if (rget x.disk p0 y.loc).2≠0 then (x,(rget x.disk p0 y.loc).2)
     else if (rget x.disk p0 y.loc).1≤1 then (wdisk x (zgn x.disk y.loc off s).1,(zgn x.disk y.loc off s).2)
     else zdx x l1 guest off s)
  else zdx x l1 guest off s
def zfV (x:Img) (guest off:Int) (s:Txt):Img×Int:=
 if (zR x.disk p0).2≠0 then (x,(zR x.disk p0).2)
 else if (elook x.disk p0 (zR x.disk p0).1.l1 guest).2≠0 then (x,(elook x.disk p0 (zR x.disk p0).1.l1 guest).2)
 else zg3 x (zR x.disk p0).1.l1 (elook x.disk p0 (zR x.disk p0).1.l1 guest).1 guest off s
def zdy (x:Img) (guest off:Int) (s:Txt):Img×Int:=
 if x.broken then (x,24) else if guest<0∨x.geom.guest≤guest∨off<0∨128 - (s.length:Int)<off then (x,10)
 else if s= [] then (x,0) else zfV (cmark x guest) guest off s
set_option maxHeartbeats 1600000 in
theorem zog (x:Img) (guest off:Int) (s:Txt) (hp:ImgF x∧s.length≤9223372036854775807):AC 197 [imgA x,.d (.int .i64 guest),.d (.int .i64 off),.d (.str s)] (.tup [imgA (zdy x guest off s).1,.d (.int .i64 (zdy x guest off s).2)]):=by
 obtain ⟨h,hs⟩:=hp
 refine fbod Tryz.func197 Tryz.ntmps197 (fun base=>?_)
 have hi:=h.ok
 have hm:=h.maps
 refine' zgb (zN 3) fx (za zab <| za zw <| za zF <| za zae <| za zar <| za zay <| za zY <| za zag <| za zX <| za zC <| za zU <| za zac <| zb _)
 ·rw [zdy,if_pos hc]
 have hbr2:=hc
 have hbr:¬x.broken=true:=by rw [hbr2];exact fun h=>aB
 by_cases hrg:guest<0∨x.geom.guest≤guest∨off<0∨128 - (s.length:Int)<off
 ·have hw0:IntKind.i64.wrap (128 - (s.length:Int))=128 - s.length:=zi U U
  have hdec:(decide (guest<0)||decide (x.geom.guest≤guest)||decide (off<0)||decide (128<(s.length:Int))||decide (128 - (s.length:Int)<off))=true:=by
   simp only [Bool.or_eq_true,decide_eq_true_eq];omega
  refine' walkR (zj hw0 hdec) (za zab <| za zw <| za zF <| za zae <| za zar <| za zay <| za zY <| za zag <| za zX <| za zC <| za zU <| za zac <| zb _)
  rw [zdy,if_neg hbr,if_pos hrg]
 have hw0:IntKind.i64.wrap (128 - (s.length:Int))=128 - s.length:=zi U U
 have hdec:(decide (guest<0)||decide (x.geom.guest≤guest)||decide (off<0)||decide (128<(s.length:Int))||decide (128 - (s.length:Int)<off))=false:=by
  simp only [Bool.or_eq_false_iff,decide_eq_false_iff_not];omega
 by_cases hs0:s= []
 ·have hse:(s== [])=true:=by rw [hs0];rfl
  refine' walkR (zq hw0 hdec hse) (za zab <| za zw <| za zF <| za zae <| za zar <| za zay <| za zY <| za zag <| za zX <| za zC <| za zU <| za zac <| zb _)
  rw [zdy,if_neg hbr,if_neg hrg,if_pos hs0]
 have hse:(s== [])=false:=by simpa using hs0
 have heq:zdy x guest off s=zfV (cmark x guest) guest off s:=by rw [zdy,if_neg hbr,if_neg hrg,if_neg hs0]
 refine' zgb (zN 8) (zq hw0 hdec hse) (za zab <| za zw <| za zF <| za zae <| za zar <| za zay <| za zY <| za zag <| za zX <| za zC <| za zU <| za zac <| zb _)
 rw [heq]
 have hX:=h.mark guest
 revert hX
 generalize cmark x guest=X
 intro hX
 have hXd:=hX.disk
 have hXo:=hX.ok
 have hXg:=hX.guest
 have hXh:=hX.host
 have hX0:=hX.seq0
 have hX1:=hX.seq1
 have hdp:DP X.disk p0:=⟨hXd,zdw⟩
 refine aw_le ⟨[(1,true,.d (.int .i64 guest)),(2,true,.d (.int .i64 off)),(3,true,.d (.str s)),(4,true,.vp 0 0),(8,true,.vp 1 0)],[(1,.var img0),(0,.var (imgV X))],some []⟩ le0 ?_
 have hk1:(elook X.disk p0 (zR X.disk p0).1.l1 guest).1.kind=1→zaA (elook X.disk p0 (zR X.disk p0).1.l1 guest).1.loc=true:=zjM
 obtain ⟨r,hr⟩:∃r,r=zR X.disk p0:=⟨_,rfl⟩
 rw [← hr] at hk1
 obtain ⟨y,hy⟩:∃y,y=elook X.disk p0 r.1.l1 guest:=⟨_,rfl⟩
 rw [← hy] at hk1
 obtain ⟨n,hn⟩:∃n,n=rget X.disk p0 y.1.loc:=⟨_,rfl⟩
 have hc2:zfV X guest off s=if r.2≠0 then (X,r.2) else if y.2≠0 then (X,y.2) else zg3 X r.1.l1 y.1 guest off s:=by rw [zfV,← hr,← hy]
 have hc3:zg3 X r.1.l1 y.1 guest off s=if y.1.kind=1 then (if n.2≠0 then (X,n.2) else if n.1≤1 then (wdisk X (zgn X.disk y.1.loc off s).1,(zgn X.disk y.1.loc off s).2) else zdx X r.1.l1 guest off s) else zdx X r.1.l1 guest off s:=by rw [zg3,← hn]
 rw [hc3] at hc2
 by_cases hin:y.1.kind=1∧(n.2≠0∨n.1≤1)
 ·rw [hc2]
  have hkb:(y.1.kind==1)=true:=beq_iff_eq.2 hin.1
  have hho:=hk1 hin.1
  refine' zgb (zN 20) (zE hr.symm hy.symm hn.symm hkb) (za zab <| za zw <| za zF <| za zae <| za zar <| za zay <| za zY <| za zag <| za zX <| za zC <| za zU <| za zac <| zb _)
  all_goals try ((refine (show (_:AV)=_ from ?_));(repeat (first|(rewrite [if_pos];rotate_left;(first|exact bneP ah|exact beqP ah|exact of_decide_eq_true ah|assumption))|(rewrite [if_neg];rotate_left;(first|exact bneN ah|exact beqN ah|exact of_decide_eq_false ah|assumption))));done)
  all_goals try (rw [if_pos hin.1];(refine (show (_:AV)=_ from ?_));(repeat (first|(rewrite [if_pos];rotate_left;(first|exact bneP ah|exact beqP ah|exact of_decide_eq_true ah|assumption))|(rewrite [if_neg];rotate_left;(first|exact bneN ah|exact beqN ah|exact of_decide_eq_false ah|assumption))));rfl)
  rename_i h1
  exact absurd hin.2 (by rintro (h|h);exact bneN h1 h;exact of_decide_eq_false hc h)
 ·have hc4:zfV X guest off s=if r.2≠0 then (X,r.2) else if y.2≠0 then (X,y.2) else zdx X r.1.l1 guest off s:=by
   rw [hc2]
   by_cases hk:y.1.kind=1
   ·rw [if_pos hk,if_neg (fun h=>hin ⟨hk,.inl h⟩),if_neg (fun h=>hin ⟨hk,.inr h⟩)]
   ·rw [if_neg hk]
  rw [hc4]
  clear hc2 hc3 hc4
  refine' zgb (zN 14) (zj hr.symm hy.symm) (za zab <| za zw <| za zF <| za zae <| za zar <| za zay <| za zY <| za zag <| za zX <| za zC <| za zU <| za zac <| zb _)
  all_goals try ((refine (show (_:AV)=_ from ?_));(repeat (first|(rewrite [if_pos];rotate_left;(first|exact bneP ah|exact beqP ah|exact of_decide_eq_true ah|assumption))|(rewrite [if_neg];rotate_left;(first|exact bneN ah|exact beqN ah|exact of_decide_eq_false ah|assumption))));done)
  all_goals try ((refine (show (_:AV)=_ from ?_));(repeat (first|(rewrite [if_pos];rotate_left;(first|exact bneP ah|exact beqP ah|exact of_decide_eq_true ah|assumption))|(rewrite [if_neg];rotate_left;(first|exact bneN ah|exact beqN ah|exact of_decide_eq_false ah|assumption))));rfl)
  have e1:=bneN hc
  rename_i hc0
  have e0:=bneN hc0
  rw [if_neg e0,if_neg e1]
  clear hc hc0
  refine znN ⟨[(1,true,.d (.int .i64 guest)),(2,true,.d (.int .i64 off)),(3,true,.d (.str s)),(4,true,.vp 0 0),(8,true,.vp 1 0),(10,true,.vp 2 0)],[(2,.var [.d (.int .i64 r.1.l1),.d (.int .u32 r.1.next)]),(1,.var img0),(0,.var (imgV X))],some []⟩ ?_ ?_
  ·refine' walkR (zq hr.symm hy.symm hn.symm) (za zab <| za zw <| za zF <| za zae <| za zar <| za zay <| za zY <| za zag <| za zX <| za zC <| za zU <| za zac <| zb _)
   all_goals try exact hk1 (beqP ah)
   ·rename_i hk
    exact absurd ⟨beqP hk,.inl (bneP hc)⟩ hin
   ·rename_i hk _
    exact absurd ⟨beqP hk,.inr (of_decide_eq_true hc)⟩ hin
  ·obtain ⟨t,ht⟩:∃t,t=rtake X.disk p0 X.geom:=⟨_,rfl⟩
   obtain ⟨c,hcc⟩:∃c,c=cread X.disk r.1.l1 guest:=⟨_,rfl⟩
   obtain ⟨b,hb⟩:∃b,b=(overS c.1 off s).1:=⟨_,rfl⟩
   have hth:t.2.2=0→zaA t.2.1=true:=by rw [ht];exact zqZ
   have hbl:c.2=0→b.length=128:=fun h=>by
    have:=zit (l1:=r.1.l1) (g:=guest) hXd.puts (by rw [← hcc];exact h)
    rw [← hcc] at this
    rw [hb,ztz U U,this]
   have hcl:c.1.length≤128:=by rw [hcc];exact zv3 hXd.puts
   have hpt:DP X.disk t.1:=by rw [ht];exact hdp.rtake _
   have hpt2:pfit t.1=true:=hpt.p
   have hw4:zdx X r.1.l1 guest off s=if t.2.2≠0 then (X,t.2.2) else if c.2≠0 then (X,c.2) else if (layL X.disk (zcj t.2.1 b)).2≠0 then (wdisk X (layL X.disk (zcj t.2.1 b)).1,(layL X.disk (zcj t.2.1 b)).2)
     else if (ppoint (layL X.disk (zcj t.2.1 b)).1 t.1 X.geom guest ⟨1,t.2.1⟩).2≠0 then (wdisk X (layL X.disk (zcj t.2.1 b)).1,(ppoint (layL X.disk (zcj t.2.1 b)).1 t.1 X.geom guest ⟨1,t.2.1⟩).2)
     else cdone (wdisk X (layL X.disk (zcj t.2.1 b)).1) (ppoint (layL X.disk (zcj t.2.1 b)).1 t.1 X.geom guest ⟨1,t.2.1⟩).1:=by rw [zdx,← ht,← hcc,← hb]
   rw [hw4]
   clear hw4
   refine' zgb (zN 27) (zq ht.symm hcc.symm hb.symm) (za zab <| za zw <| za zF <| za zae <| za zar <| za zay <| za zY <| za zag <| za zX <| za zC <| za zU <| za zac <| zb _)
   all_goals try ((refine (show (_:AV)=_ from ?_));(repeat (first|(rewrite [if_pos];rotate_left;(first|exact bneP ah|exact beqP ah|exact of_decide_eq_true ah|assumption))|(rewrite [if_neg];rotate_left;(first|exact bneN ah|exact beqN ah|exact of_decide_eq_false ah|assumption))));rfl)
   rename_i h0
   have e2:=bneN h0
   have e3:=bneN hc
   have hb128:=hbl U
   have hth2:=hostOk_iff.1 (hth U)
   obtain ⟨L,hL⟩:∃L,L=layL X.disk (zcj t.2.1 b):=⟨_,rfl⟩
   have hLF:DiskF L.1:=by rw [hL];exact DiskF.layL _ hXd
   rw [if_neg e2,if_neg e3,← hL]
   clear h0 hc
   generalize hZ:(if L.2≠0 then (wdisk X L.1,L.2) else if (ppoint L.1 t.1 X.geom guest ⟨1,t.2.1⟩).2≠0 then (wdisk X L.1,(ppoint L.1 t.1 X.geom guest ⟨1,t.2.1⟩).2) else cdone (wdisk X L.1) (ppoint L.1 t.1 X.geom guest ⟨1,t.2.1⟩).1:Img×Int)=Z
   refine aw_le ⟨[(1,true,.d (.int .i64 guest)),(2,true,.d (.int .i64 off)),(3,true,.d (.str s)),(4,true,.vp 0 0),(8,true,.vp 1 0),(15,true,.vp 3 0),(16,true,.d (.int .i64 t.2.1)),(17,true,.d (.str b))],[(3,.var (planC t.1)),(1,.var img0),(0,.var (imgV X))],some []⟩ (by simp only [AS.le,leT,leH,zf,AsgK,AV.le,AV.leL,AObj.le,inH,idsT,idsH,AV.ids,AV.idsL,AV.idsR,AObj.ids,lk,hget,go_sem,aeq,aeq.aeqF,simprocAttr,planC]) ?_
   refine' walkR fx (za zab <| za zw <| za zF <| za zae <| za zar <| za zay <| za zY <| za zag <| za zX <| za zC <| za zU <| za zac <| zb _)
   refine zk (fun q: { q:Nat×Disk // q.1≤2∧DiskF q.2∧L=layL q.2 ((zcj t.2.1 b).drop q.1) } =>⟨[(1,true,.d (.int .i64 guest)),(2,true,.d (.int .i64 off)),(3,true,.d (.str s)),(4,true,.vp 0 0),(8,true,.vp 1 0),(15,true,.vp 3 0),(16,true,.d (.int .i64 t.2.1)),(17,true,.d (.str b)),(18,true,.d (.int .i64 q.1.1))],[(3,.var (planC t.1)),(1,.var img0),(0,.var (imgV (wdisk X q.1.2)))],some []⟩) (fun q=>2 - q.1.1) ⟨(0,X.disk),Nat.zero_le _,hXd,hL⟩ cn (fun q=>?_)
   obtain ⟨⟨i,d⟩,hi2,hF,hf⟩:=q
   simp only at hi2 hF hf ⊢
   have hF1:=hF.ok
   have hc0:((0:Nat):Int)=0:=rfl
   have hc1:((1:Nat):Int)=1:=rfl
   have hc2:((2:Nat):Int)=2:=rfl
   have h64:Int.toNat 64=64:=rfl
   have h128:Int.toNat 128=128:=rfl
   have hz0:Int.toNat 0=0:=rfl
   have hw1:IntKind.i64.wrap 1=1:=ae
   have hw2:IntKind.i64.wrap 2=2:=ae
   have hw64:IntKind.i64.wrap 64=64:=ae
   have hw128:IntKind.i64.wrap 128=128:=ae
   have hwz:IntKind.i64.wrap 0=0:=ae
   have hwk:IntKind.i64.wrap (96+2*t.2.1+0)=96+2*t.2.1:=by rw [Int.add_zero];exact zi U U
   have hwk1:IntKind.i64.wrap (96+2*t.2.1+1)=96+2*t.2.1+1:=zi U U
   have h3:i=0∨i=1∨i=2:=U
   rcases h3 with rfl|rfl|rfl
   ·have hf':L=if (zaT d (96+2*t.2.1) (b.take 64)).2≠0 then zaT d (96+2*t.2.1) (b.take 64) else layL (zaT d (96+2*t.2.1) (b.take 64)).1 ((zcj t.2.1 b).drop 1):=hf
    have hFn:=hF.write (96+2*t.2.1) (b.take 64)
    refine' walkR (zo hc0 hw1 hw64 hwz hz0 (zE h64 hwk hb128 @wdisk.eq_1)) (za zab <| za zw <| za zF <| za zae <| za zar <| za zay <| za zY <| za zag <| za zX <| za zC <| za zU <| za zac <| zb _)
    ·rw [if_pos (bneP hc)] at hf'
     rw [← hZ,hf',if_pos (bneP hc)]
     rfl
    ·rw [if_neg (bneN hc)] at hf'
     exact ⟨⟨(1,_),by show (1:Nat)≤2;omega,hFn,hf'⟩,cn,aa⟩
   ·have hf':L=if (zaT d (96+2*t.2.1+1) ((b.take 128).drop 64)).2≠0 then zaT d (96+2*t.2.1+1) ((b.take 128).drop 64) else ((zaT d (96+2*t.2.1+1) ((b.take 128).drop 64)).1,0):=hf
    have hFn:=hF.write (96+2*t.2.1+1) ((b.take 128).drop 64)
    refine' walkR (zo hc1 hw2 hw64 hw128 h128 (zE h64 hwk1 hb128 @wdisk.eq_1)) (za zab <| za zw <| za zF <| za zae <| za zar <| za zay <| za zY <| za zag <| za zX <| za zC <| za zU <| za zac <| zb _)
    ·rw [if_pos (bneP hc)] at hf'
     rw [← hZ,hf',if_pos (bneP hc)]
     rfl
    ·rw [if_neg (bneN hc)] at hf'
     exact ⟨⟨(2,_),by show (2:Nat)≤2;omega,hFn,hf'⟩,cn,aa⟩
   ·have hLd:L=(d,0):=hf
    have hdq:DP d t.1:=⟨hF,hpt2⟩
    have hQp:pfit (ppoint d t.1 X.geom guest ⟨1,t.2.1⟩).1=true:=(hdq.ppoint _ _ _).p
    have hXw:ImgOk ⟨d,X.geom,X.jour,X.maps,X.broken⟩:=(hX.wd hF).ok
    rw [hLd] at hZ
    refine' walkR (zj hc2 @wdisk.eq_1) (za zab <| za zw <| za zF <| za zae <| za zar <| za zay <| za zY <| za zag <| za zX <| za zC <| za zU <| za zac <| zb _)
    ·rw [← hZ,if_neg aa,if_pos (bneP hc)]
     rfl
    ·rw [← hZ,if_neg aa,if_neg (bneN hc)]
     rfl
@[go_sem] noncomputable def zba:Ent Tryz.prog 197:= .m4 zbk (intT .i64) (intT .i64) strT zog
open Go Go.Proofs
@[simp, go_sem] theorem zyn (x:Img) (d:Disk):(wdisk x d).disk=d:=rfl
@[simp, go_sem] theorem zyo (x:Img) (d:Disk):(wdisk x d).geom=x.geom:=rfl
@[simp, go_sem] theorem zyp (x:Img) (d:Disk):(wdisk x d).jour=x.jour:=rfl
@[simp, go_sem] theorem zyq (x:Img) (d:Disk):(wdisk x d).maps=x.maps:=rfl
@[simp, go_sem] theorem zw6 (x:Img) (d:Disk):(wdisk x d).broken=x.broken:=rfl
@[simp, go_sem] theorem zxQ (x:Img) (d e:Disk):wdisk (wdisk x d) e=wdisk x e:=rfl
@[simp, go_sem] theorem zyr (x:Img):wdisk x x.disk=x:=rfl
theorem fix1 {P:Program} {f:FuncId} {args:List AV} {fl i:Nat} {h:AHeap} {r0:AV} {X:AObj} (hc:ACall P f fl args h (fun r h'=>∃ob',h'= [(i,ob')]∧r=r0∧ob'=X)):ACall P f fl args h (fun r h'=>r=r0∧h'= [(i,X)]):=
 hc.mono (by rintro r h' ⟨ob',rfl,rfl,rfl⟩;exact ⟨rfl,rfl⟩)
open Go Go.Proofs
def cgood (x:Img):Bool:=decide ((x.disk.cache.length:Int)≤300)&&decide ((x.maps.length:Int)≤2)&&ifit x
theorem zxR {x:Img} (h:ImgOk x) (hg:cgood x=true):ImgF x:=by
 unfold cgood ifit at hg
 simp only [Bool.and_eq_true,decide_eq_true_eq] at hg
 obtain ⟨⟨g1,g2⟩,⟨⟨⟨⟨g3,g4⟩,g5⟩,g6⟩,g7⟩,g8⟩:=hg
 rw [geo_iff] at g3
 unfold dfit at g4
 simp only [Bool.and_eq_true] at g4
 unfold jfit at g6
 simp only [Bool.and_eq_true,decide_eq_true_eq] at g6
 exact ⟨h,⟨h.disk,g4.1.2⟩,U,U,U,U,U⟩
open Go Go.Proofs
theorem zv9 {d:Disk} {p:Plan} {t i:Int} (hk:(eget d p t i).1.kind≠1):(eget d p t i).1.loc=0:=by
 by_cases he:(eget d p t i).2=0
 ·have:=(ztr he).1
  unfold entOk at this
  rw [if_neg hk] at this
  simp only [Bool.and_eq_true,beq_iff_eq] at this
  exact this.2
 ·unfold eget at he ⊢
  split
  ·rfl
  rename_i h1
  rw [if_neg h1] at he
  split
  ·rfl
  rename_i h2
  rw [if_neg h2] at he
  unfold entT at he ⊢
  split
  ·rfl
  ·rename_i h3
   rw [if_neg h3] at he
   exact absurd rfl he
theorem ztG {d:Disk} {p:Plan} {l1 g:Int} (hk:(elook d p l1 g).1.kind≠1):(elook d p l1 g).1.loc=0:=by
 unfold elook at hk ⊢
 repeat' split
 all_goals first|rfl|skip
 rename_i h1 h2 h3 h4
 rw [if_neg h1,if_neg h2,if_neg h3,if_neg h4] at hk
 exact zv9 hk
theorem zq5 (x:Img) (guest:Int) (isH:Bool) (h:ImgF x):AC 198 [imgA x,.d (.int .i64 guest),.d (.bool isH)] (.tup [imgA (wipe x guest isH).1,.d (.int .i64 (wipe x guest isH).2)]):=by
 refine fbod Tryz.func198 Tryz.ntmps198 (fun base=>?_)
 obtain ⟨Z,hZ⟩:∃Z,Z=wipe x guest isH:=⟨_,rfl⟩
 have hZ2:=hZ
 rw [wipe] at hZ2
 have hio:=h.ok
 have him:=h.maps
 have hX:=h.mark guest
 obtain ⟨X,hXe⟩:∃X,X=cmark x guest:=⟨_,rfl⟩
 rw [← hXe] at hX hZ2
 have hdp:DP X.disk p0:=⟨hX.disk,zdw⟩
 have hho:=hX.host
 have hgu:=hX.guest
 have hxo:=hX.ok
 have hxd:=hX.disk
 have hq0:=hX.seq0
 have hq1:=hX.seq1
 obtain ⟨R,hR⟩:∃R,R=zR X.disk p0:=⟨_,rfl⟩
 obtain ⟨Y,hY⟩:∃Y,Y=elook X.disk p0 R.1.l1 guest:=⟨_,rfl⟩
 obtain ⟨P,hP⟩:∃P,P=ppoint X.disk p0 X.geom guest ⟨if isH then 0 else 2,0⟩:=⟨_,rfl⟩
 have hpf:pfit P.1=true:=by rw [hP];exact (hdp.ppoint _ _ _).p
 obtain ⟨D,hD⟩:∃D,D=cdone X P.1:=⟨_,rfl⟩
 rw [wipe2,← hR,← hY,← hP,← hD] at hZ2
 by_cases hr:guest<0∨x.geom.guest≤guest
 ·have hdec:(decide (guest<0)||decide (x.geom.guest≤guest))=true:=by simpa using hr
  rw [if_pos hr] at hZ2
  refine' walkW (zj hdec hZ.symm) (za zab <| za zw <| za zF <| za zU <| za zac <| zb _)
  ·rw [hZ2,if_pos hc]
  ·rw [hZ2,if_neg (by rw [hc];decide)]
 have hdec:(decide (guest<0)||decide (x.geom.guest≤guest))=false:=aA
 rw [if_neg hr] at hZ2
 refine' zga (zN 5) (zj hdec hZ.symm) (za zab <| za zw <| za zF <| za zU <| za zac <| zb _)
 ·rw [hZ2,if_pos hc]
 rw [if_neg (by rw [hc];decide)] at hZ2
 clear hc
 have hYl:∀k,k≠1→(Y.1.kind==k&&Y.1.loc==0)=(Y.1.kind==k):=by
  intro k hk
  cases hb:Y.1.kind==k with
  |false=>rfl
  |true=>
   have hb2:Y.1.kind=k:=by simpa using hb
   have:Y.1.loc=0:=by rw [hY];exact ztG (by rw [← hY,hb2];exact hk)
   rw [this];rfl
 cases isH with
 |true=>
  simp only [if_true] at hP hZ2
  have hY0:=hYl 0 ae
  refine' walkW (zo hXe.symm hR.symm hY.symm hP.symm hD.symm (zj hZ.symm hY0)) (za zab <| za zw <| za zF <| za zU <| za zac <| zb _)
  all_goals rw [hZ2]
  all_goals (refine (show (_:AV)=_ from ?_));(repeat (first|(rewrite [if_pos];rotate_left;(first|exact bneP ah|exact beqP ah|exact of_decide_eq_true ah|assumption))|(rewrite [if_neg];rotate_left;(first|exact bneN ah|exact beqN ah|exact of_decide_eq_false ah|assumption))))
  all_goals rfl
 |false=>
  simp only [Bool.false_eq_true,if_false] at hP hZ2
  have hY0:=hYl 2 ae
  refine' walkW (zo hXe.symm hR.symm hY.symm hP.symm hD.symm (zj hZ.symm hY0)) (za zab <| za zw <| za zF <| za zU <| za zac <| zb _)
  all_goals rw [hZ2]
  all_goals (refine (show (_:AV)=_ from ?_));(repeat (first|(rewrite [if_pos];rotate_left;(first|exact bneP ah|exact beqP ah|exact of_decide_eq_true ah|assumption))|(rewrite [if_neg];rotate_left;(first|exact bneN ah|exact beqN ah|exact of_decide_eq_false ah|assumption))))
  all_goals rfl
@[go_sem] noncomputable def zbp:Ent Tryz.prog 198:= .m3 zbk (intT .i64) boolT zq5
open Go Go.Proofs
def zdC (g m:Int):Txt:= [67,79,70,49]++putN g.toNat 2++putN m.toNat 2
def zeu (g m:Int):Txt:=padR (zdC g m++zgh (sumOf 0 (zdC g m)))
theorem zlu (g m:Int):(zdC g m).length=8:=by
 rw [zdC,List.length_append,List.length_append,zu,zu];rfl
theorem zrQ (g:Int) (m:Int) (h:zdM g m=true):ACall Tryz.prog 86 0 [.agg [.d (.int .i64 g),.d (.int .i64 m)]] [] (fun r _=>r= .tup [.d (.str (zeu g m)),.d (.int .i64 0)]):=by
 refine fbod Tryz.func86 Tryz.ntmps86 (fun base=>?_)
 have hg:=geo_iff.1 h
 have hw1:IntKind.u64.wrap g=g:=zA U U
 have hw2:IntKind.u64.wrap m=m:=zA U U
 have hl1:=zu g.toNat 2
 have hl2:=zu m.toNat 2
 have hhd:(67:UInt8)::79::70::49::putN g.toNat 2++putN m.toNat 2=zdC g m:=rfl
 have hhl:=zlu g m
 have hs:=zfT 0 (zdC g m) U U
 have hbl:=zfo (sumOf 0 (zdC g m))
 refine' walkW (zo h hw1 hw2 @zjH @zeR (zo @List.length_cons.{0} @List.length_nil.{0} hl1 hl2 hhd (zq hhl hbl @List.length_append.{0}))) (za zcC <| za zt <| za zbi <| za zax <| za zgZ <| zb _)
 rfl
@[go_sem] noncomputable def zhC:Ent Tryz.prog 86:= .ofL (consL (aggT (consL (intT .i64) (consL (intT .i64) nilL)) (fun p=>p) (fun p=>p) (fun _=>rfl)) nilL) (fun ((g,m,_),_)=>zdM g m=true) (fun ((g,m,_),_)=> .tup [.d (.str (zeu g m)),.d (.int .i64 0)]) (fun ((g,m,_),_) hp=>⟨rfl,zrQ g m hp⟩)
def csmall:Img:=⟨(dflush (play (dnew 112).1 (radd (dnew 112).1 (zeo (pset p0 0 (zeu 20 8)).1 ⟨0,1⟩).1 0 1).1).1).1,⟨20,8⟩,⟨1,0⟩,[],false⟩
theorem csmall_ok:ImgF csmall:=by
 have h:DiskF (dnew 112).1:=⟨by constructor<;>simp [dnew],rfl⟩
 have hp:=(h.play (radd (dnew 112).1 (zeo (pset p0 0 (zeu 20 8)).1 ⟨0,1⟩).1 0 1).1).flush
 exact ⟨⟨hp.ok,ae,(fun m hm=>by cases hm),(fun m hm=>by cases hm)⟩,hp,ae,ae,ae,ae,ae⟩
theorem zo3:ACall Tryz.prog 39 0 [] [] (fun r _=>r=imgA csmall):=by
 have hd:DiskF (dnew 112).1:=⟨by constructor<;>simp [dnew],rfl⟩
 obtain ⟨c,hc⟩:∃c,c=csmall:=⟨_,rfl⟩
 rw [← hc]
 unfold csmall at hc
 obtain ⟨N,hN⟩:∃N,N=dnew 112:=⟨_,rfl⟩
 obtain ⟨S,hS⟩:∃S,S=pset p0 0 (zeu 20 8):=⟨_,rfl⟩
 have hp0:pfit S.1=true:=by rw [hS];exact zfn zdw
 obtain ⟨Q,hQ⟩:∃Q,Q=zeo S.1 ⟨0,1⟩:=⟨_,rfl⟩
 have hp1:pfit Q.1=true:=by rw [hQ];exact zoq hp0
 rw [← hN] at hd
 rw [← hN,← hS,← hQ] at hc
 have hdp:DP N.1 Q.1:=⟨hd,hp1⟩
 obtain ⟨A,hA⟩:∃A,A=radd N.1 Q.1 0 1:=⟨_,rfl⟩
 have hp2:pfit A.1=true:=by rw [hA];exact zpK hp1
 have hpo:=PlanOk.of hp2
 have hpl:=(zbH hp2).1
 have hdo:=hd.ok
 obtain ⟨L,hL⟩:∃L,L=play N.1 A.1:=⟨_,rfl⟩
 have hLf:DiskF L.1:=by rw [hL];exact hd.play A.1
 have hLo:=hLf.ok
 have hLp:=hLf.puts
 obtain ⟨F,hF⟩:∃F,F=dflush L.1:=⟨_,rfl⟩
 rw [← hA,← hL,← hF] at hc
 have hgeo:zdM 20 8=true:=ae
 have hpo0:=PlanOk.of zdw
 refine fbod Tryz.func39 Tryz.ntmps39 (fun base=>?_)
 refine' walkW (zo hN.symm hS.symm hQ.symm hA.symm hL.symm (zj hF.symm hc.symm)) (za zqz <| za zhC <| za za7 <| za zn7 <| za zbS <| za zcD <| za zaU <| zb _)
 ·rfl
 ·decide
 ·rw [hc]
  rfl
@[go_sem] noncomputable def zgB:Ent Tryz.prog 39:= .ofL nilL (fun _=>True) (fun _=>imgA csmall) (fun _ hp=>⟨rfl,zo3⟩)
open Go Go.Proofs
theorem zr1 (d:Disk) (hd:DiskOk d) (h:d.cache= []):ACall Tryz.prog 165 0 [diskA d,.d (.bool false),.d (.sl 1 [])] [] (fun r _=>r= .d (.str d.data)):=by
 obtain ⟨b,c,f,o,bad⟩:=d
 simp only at h
 subst h
 have hdl:=hd.data
 simp only at hdl
 refine fbod Tryz.func165 Tryz.ntmps165 (fun base=>?_)
 refine' zc fx
 refine zk (fun _:Unit=>⟨[(3,true,.vp 0 0),(7,true,.osl 1 1 b.length 0 b.length),(8,true,.d (.int .i64 0))],[(1,.arr 1 (ze b)),(0,.var [.d (.str b),.d (.sl 2 []),.d (.int .i64 f),.d (.bool o),.d (.sl 1 (bad.map intD))])],some []⟩) (fun _=>0) () le1 (fun _=>?_)
 have hb1:(b.length=(ze b).length)=True:=eq_true (by rw [ze,List.length_map])
 have hb2:List.take b.length (ze b)=ze b:=List.take_of_length_le (by rw [ze,List.length_map];omega)
 refine' zc (zaB hb1 hb2 @if_true.{1} @z8 @zaD)
@[go_sem] noncomputable def znn:Ent Tryz.prog 165:= .ofL (consL zV (consL (zbG (.d (.bool false))) (consL (zbG (.d (.sl 1 []))) nilL))) (fun (d,_,_,_)=>(DiskOk d)∧(d.cache= [])) (fun (d,_,_,_)=> .d (.str d.data)) (fun (d,_,_,_) hp=>⟨rfl,zr1 d hp.1 hp.2⟩)
theorem zo9 (d:Disk) (hd:DiskOk d) (h:d.cache= []):ACall Tryz.prog 93 0 [diskA d,.d (.sl 1 [])] [] (fun r _=>r=diskA ⟨d.data,[], -1,false,d.bad⟩):=by
 refine fbod Tryz.func93 Tryz.ntmps93 (fun base=>?_)
 refine' walkW fx (za znn <| zb _)
@[go_sem] noncomputable def zlC:Ent Tryz.prog 93:= .ofL (consL zV (consL (zbG (.d (.sl 1 []))) nilL)) (fun (d,_,_)=>(DiskOk d)∧(d.cache= [])) (fun (d,_,_)=>diskA ⟨d.data,[], -1,false,d.bad⟩) (fun (d,_,_) hp=>⟨rfl,zo9 d hp.1 hp.2⟩)
def supS:Txt:=zeu 20 8
theorem zuY:ACall Tryz.prog 168 0 [.d (.str supS)] [] (fun r _=>r= .tup [.agg [.d (.int .i64 20),.d (.int .i64 8)],.d (.int .i64 0)]):=by
 have h1:supS.length=64:=ad
 have h2:supS.take 4= [67,79,70,49]:=ad
 have h3:zgh (sumOf 0 (supS.take 8))=(supS.drop 8).take 4:=ad
 have h4:takeS (supS.drop 4) 2=(20,supS.drop 6,0):=ad
 have h5:takeS (supS.drop 6) 2=(8,supS.drop 8,0):=ad
 have h6:zeu 20 8=supS:=rfl
 have h7:supS.take 64=supS:=List.take_of_length_le U
 have h8:(supS.take 8).length≤9223372036854775807:=ax
 have h9:(supS.drop 4).length≤9223372036854775807:=ar
 have h10:(supS.drop 6).length≤9223372036854775807:=ar
 have hs:=zfT 0 (supS.take 8) U U
 have hg:zdM 20 8=true:=ae
 refine fbod Tryz.func168 Tryz.ntmps168 (fun base=>?_)
 refine' walkW (zo h1 h2 h3 h7 h4 (zq h5 h6 hg)) (za zbi <| za zax <| za zp <| za zcC <| za zhC <| zb _)
 rfl
@[go_sem] noncomputable def zpa:Ent Tryz.prog 168:= .ofL (consL (zbG (.d (.str supS))) nilL) (fun (_,_)=>True) (fun (_,_)=> .tup [.agg [.d (.int .i64 20),.d (.int .i64 8)],.d (.int .i64 0)]) (fun (_,_) hp=>⟨rfl,zuY⟩)
def blank:Txt:=List.replicate 64 0
theorem zpb:ACall Tryz.prog 285 0 [.d (.str blank)] [] (fun r _=>r= .d (.int .i64 0)):=by
 refine fbod Tryz.func285 Tryz.ntmps285 (fun base=>?_)
 (have tk:=za zp <| zb Tryz.prog);repeat' (first|((first|(refine sa ?_;intro K hK)|refine sb ?_);simp only [go_sem,aeq,aeq.aeqF,simprocAttr,blank,Tryz.results285])|refine zbm (fun K hK=>?_)|refine sc ?_|refine zb3 rfl (fun hc=>?_) (fun hc=>?_)|(refine hK _ ?_;clear hK K)|with_reducible refine And.intro ?_ ?_|omega|assumption|refine fun (hg:(_:Bool)=(_:Bool))=>?_|clear hK K)
@[go_sem] noncomputable def zgE:Ent Tryz.prog 285:= .ofL (consL (zbG (.d (.str blank))) nilL) (fun (_,_)=>True) (fun (_,_)=> .d (.int .i64 0)) (fun (_,_) hp=>⟨rfl,zpb⟩)
def zqn (d:Disk):Prop:=∀i:Nat,i<81→dread d (6+i)=(blank,0)
def blks (i:Nat):List (List D):=List.replicate i [.str blank]
theorem zr2 (d:Disk) (hp:DiskOk d∧zqn d):AC 226 [diskA d] (.tup [.d (.sl 4 []),.d (.int .i64 0)]):=by
 obtain ⟨hd,h⟩:=hp
 refine fbod Tryz.func226 Tryz.ntmps226 (fun base=>?_)
 refine' zad (zN 2) fx
 refine zaI 4 1 rfl ?_
 simp only [go_sem,aeq,aeq.aeqF,simprocAttr]
 refine' zc fx
 have hrl:∀i,(blks i).length=i:=fun i=>List.length_replicate ..
 refine zk (fun q: { i:Nat // i≤81 } =>⟨[(1,true,.vp 0 0),(4,true,.osl 1 1 q.1 0 q.1),(5,true,.d (.int .i64 q.1))],[(1,.arr 1 (blks q.1)),(0,.var [.d (.str d.data),.d (.sl 2 (d.cache.map putD)),.d (.int .i64 d.fuse),.d (.bool d.off),.d (.sl 1 (d.bad.map intD))])],some []⟩) (fun q=>81 - q.1) ⟨0,Nat.zero_le _⟩ le1 (fun q=>?_)
 obtain ⟨i,hi⟩:=q
 simp only at hi ⊢
 have hwi:=zn (i:=i) U
 rcases Nat.lt_or_ge i 81 with hlt|hge
 ·have hcmp:decide ((i:Int)<81)=true:=decide_eq_true U
  have hw6:IntKind.i64.wrap (6+(i:Int))=6+i:=zi U U
  have hrd:=h i hlt
  have hsn:blks i++ [[.str blank]]=blks (i+1):=List.replicate_succ'.symm
  refine' walkW (zaB hcmp hw6 hrd hrl hsn) (za zbn <| za zbe <| za zgE <| zb _)
  all_goals first|omega|skip
  exact ⟨⟨i+1,U⟩,lev,af⟩
 ·obtain rfl:i=81:=by omega
  refine' zc fx
  refine zk (fun q: { i:Nat // i≤81 } =>⟨[(1,true,.vp 0 0),(4,true,.osl 1 1 81 0 81),(8,true,.nils 4),(9,true,.d (.int .i64 q.1))],[(1,.arr 1 (blks 81)),(0,.var [.d (.str d.data),.d (.sl 2 (d.cache.map putD)),.d (.int .i64 d.fuse),.d (.bool d.off),.d (.sl 1 (d.bad.map intD))])],some []⟩) (fun q=>81 - q.1) ⟨0,Nat.zero_le _⟩ le1 (fun q=>?_)
  obtain ⟨i,hi⟩:=q
  simp only at hi ⊢
  have hwi:=zn (i:=i) U
  rcases Nat.lt_or_ge i 81 with hlt|hge
  ·have hcmp:decide ((i:Int)<81)=true:=decide_eq_true U
   have hrow:(blks 81).getD i []= [.str blank]:=by rw [blks,List.getD_eq_getElem?_getD,List.getElem?_replicate,if_pos hlt];rfl
   refine' walkW (zq hcmp hrow hrl) (za zbn <| za zbe <| za zgE <| zb _)
   all_goals first|omega|skip
   exact ⟨⟨i+1,U⟩,lev,af⟩
  ·obtain rfl:i=81:=by omega
   refine' zc fx
@[go_sem] noncomputable def zno:Ent Tryz.prog 226:= .m1 zV zr2
end Go.Aw
