/- Lemmas. -/
import Derived.Test.YtgldbfelccddbaaGreatApa19
import Derived.Test.YtgldbfelccddbaaGreatApa20
set_option linter.all false
set_option maxRecDepth 100000
set_option maxHeartbeats 2000000
namespace Go.Aw
noncomputable section
open Go Go.Proofs Go.Proofs.Tryz
def imgV (x:Img):List AV:= [.d (.str x.disk.data),.d (.sl 2 (x.disk.cache.map putD)),.d (.int .i64 x.disk.fuse),.d (.bool x.disk.off),.d (.sl 1 (x.disk.bad.map intD)),.d (.int .i64 x.geom.guest),.d (.int .i64 x.geom.host),.d (.int .u64 x.jour.seq),.d (.int .i64 x.jour.pos),.d (.sl 66 (x.maps.map dmapD)),.d (.bool x.broken)]
attribute [go_sem] imgV
def img0:List AV:= [.d (.str []),.nils 2,.d (.int .i64 0),.d (.bool false),.nils 1,.d (.int .i64 0),.d (.int .i64 0),.d (.int .u64 0),.d (.int .i64 0),.nils 66,.d (.bool false)]
attribute [go_sem] img0
def wdisk (x:Img) (d:Disk):Img:= { x with disk:=d }
def cputT (b:Txt) (off:Int) (s:Txt) (i:Int):Txt:=(overS b (max off (i*64) - i*64) ((s.take (min (off+s.length) ((i+1)*64) - off).toNat).drop (max off (i*64) - off).toNat)).1
def cput1 (d:Disk) (k off:Int) (s:Txt) (i:Int):Disk×Int:=
 if min (off+s.length) ((i+1)*64)<=max off (i*64) then (d,0)
 else if (dread d (96+2*k+i)).2≠0 then (d,(dread d (96+2*k+i)).2)
 else zab d (96+2*k+i) (cputT (dread d (96+2*k+i)).1 off s i)
def zfw (k off:Int) (s:Txt):Nat->Int->Disk->Disk×Int
 |0,_,d=>(d,0)
 |m+1,i,d=>if (cput1 d k off s i).2≠0 then cput1 d k off s i else zfw k off s m (i+1) (cput1 d k off s i).1
def zgx (d:Disk) (k off:Int) (s:Txt):Disk×Int:=zfw k off s 2 0 d
def DiskF.cput1 {d:Disk} (h:DiskF d) (k off:Int) (s:Txt) (i:Int):DiskF (cput1 d k off s i).1:=by
 unfold Aw.cput1;split
 .exact h
 split
 .exact h
 .exact h.write _ _
def zq7 (x:Img) (k off:Int) (s:Txt) (hp:ImgOk x/\DiskF x.disk/\zac k=true/\0<=off/\off+s.length<=128):AC 269 [imgA x,.d (.int .i64 k),.d (.int .i64 off),.d (.str s)] (.tup [imgA (wdisk x (zgx x.disk k off s).1),.d (.int .i64 (zgx x.disk k off s).2)]):=by
 obtain ⟨h,hd,hk,h0,h1⟩:=hp;refine fbod func269 ntmps269 (λbase=>?_);have mY:=hostOk_iff.1 hk;refine' walkR fx (za zak <| za zbN <| za zT <| za zay <| zb _);refine zk (λq: { q:Nat×Disk // q.1<=2/\DiskF q.2/\zgx x.disk k off s=zfw k off s (2 - q.1) q.1 q.2 } =>⟨[(1,true,.d (.int .i64 k)),(2,true,.d (.int .i64 off)),(3,true,.d (.str s)),(4,true,.vp 0 0),(8,true,.vp 1 0),(10,true,.d (.int .i64 q.1.1))],[(1,.var img0),(0,.var (imgV (wdisk x q.1.2)))],some []⟩) (λq=>2 - q.1.1) ⟨(0,x.disk),fT,hd,rfl⟩ (lxb @wdisk.eq_1) (λq=>?_);obtain ⟨⟨i,d⟩,hi,hF,hr⟩:=q;simp only at hi hF hr |-;have jt:=hF.ok;have jk:=hF.puts;rcases aO i 2 with b3|gU
 .refine' GP;refine' CO;have ab:IntKind.i64.wrap ((i:Int)*64)=i*64:=zf fT fT;have a6:IntKind.i64.wrap (((i+1:Nat):Int)*64)=(i+1)*64:=zf fT fT;have gO:IntKind.i64.wrap (off+(s.length:Int))=off+s.length:=zf fT fT;have gX:IntKind.i64.wrap (96+2*k+(i:Int))=96+2*k+i:=zf fT fT;rw [show 2 - i=(2 - (i+1))+1 by omega,zfw] at hr;refine' DS;have bo:cput1 d k off s i=if B<=A then (d,0) else if (dread d (96+2*k+i)).2≠0 then (d,(dread d (96+2*k+i)).2) else zab d (96+2*k+i) (overS (dread d (96+2*k+i)).1 (A - i*64) ((s.take (B - off).toNat).drop (A - off).toNat)).1:=by rw [cput1,cputT,<-hA,<-hB]
  have hl:=zeZ (at_:=96+2*k+i) jk;have oD:=hF.cput1 k off s i;by_cases iP:B<=A
  .have hb:decide (B<=A)=true:=af iP;rw [aa iP] at bo;refine' walkR (zr J hwi ab a6 gO (zB pJ pL hb @wdisk.eq_1)) (za zak <| za zbN <| za zT <| za zay <| zb _);rw [bo] at hr;exact ⟨⟨(i+1,d),by show i+1<=2;omega,hF,hr⟩,lxb @wdisk.eq_1,gh⟩
  .refine' DQ;obtain ⟨b,mC⟩:∃b,b=(overS (dread d (96+2*k+i)).1 (A - i*64) ((s.take (B - off).toNat).drop (A - off).toNat)).1:=⟨_,rfl⟩
   rw [<-mC] at bo;refine' walkR (zr J hwi ab a6 gO (zr gX lC nW rL pJ (zB pL hb mC.symm @wdisk.eq_1))) (za zak <| za zbN <| za zT <| za zay <| zb _)
   .rw [aa (bneP hc)] at bo;rw [hr,bo,aa (bneP hc)]
   .rename_i ao;rw [U (bneN ao)] at bo;rw [hr,bo,aa (bneP hc)]
   .rename_i ao;rw [U (bneN ao)] at bo;rw [bo,U (bneN hc)] at hr;rw [bo] at oD;exact ⟨⟨(i+1,(zab d (96+2*k+i) b).1),by show i+1<=2;omega,oD,hr⟩,lxb @wdisk.eq_1,gh⟩
 .have J:decide ((i:Int)<2)=false:=ag fT;refine' walkR (zg J @wdisk.eq_1) (za zak <| za zbN <| za zT <| za zay <| zb _);rw [hr,show 2 - i=0 by omega];rfl
@[go_sem] def zaP:Ent Tryz.prog 269:= .m4 za9 (intT .i64) (intT .i64) strT zq7
structure ImgF (x:Img):Prop where
 ok:ImgOk x
 disk:DiskF x.disk
 guest:x.geom.guest<=64
 host:x.geom.host<=256
 seq0:0<=x.jour.seq
 seq1:x.jour.seq<=4611686018427387904
 maps:x.maps.length<=1000000
def ImgF.wd {x:Img} (h:ImgF x) {d:Disk} (J:DiskF d):ImgF (wdisk x d):=⟨⟨J.ok,h.ok.maps,h.ok.names,h.ok.bits⟩,J,h.guest,h.host,h.seq0,h.seq1,h.maps⟩
def ImgF.mark {x:Img} (h:ImgF x) (g:Int):ImgF (cmark x g):=by
 refine ⟨zAs h.ok g,?_,?_,?_,?_,?_,?_⟩;all_goals unfold cmark
 all_goals split
 all_goals first|exact h.disk|exact h.guest|exact h.host|exact h.seq0|exact h.seq1|exact h.maps|skip
 simp only [al];exact h.maps
def zo8 {d:Disk} {k:Int} (h:d.cache.all (putOk d)=true) (he:(zdb d k).2=0):(zdb d k).1.length=128:=by
 unfold zdb at he |-;split at he
 .exact absurd he gr
 split at he
 .exact absurd he gr
 rename_i h1 h2;rw [U h1,U h2];rw [ae,znb h fT,znb h fT]
def zgQ {d:Disk} {l1 g:Int} (h:d.cache.all (putOk d)=true) (he:(cread d l1 g).2=0):(cread d l1 g).1.length=128:=by
 unfold cread at he |-;split at he
 .exact absurd he gr
 split at he
 .rename_i h1 h2;rw [U h1,aa h2];exact zo8 h he
 .rename_i h1 h2;rw [U h1,U h2];simp
def zta {d:Disk} {l1 g:Int} (h:d.cache.all (putOk d)=true):(cread d l1 g).1.length<=128:=by
 by_cases he:(cread d l1 g).2=0
 .rw [zgQ h he];exact aj _
 .unfold cread at he |-;split
  .simp
  rename_i h1;rw [U h1] at he;split
  .rename_i h2;rw [aa h2] at he;unfold zdb at he |-;split
   .simp
   rename_i J;rw [U J] at he;split
   .simp
   rename_i h4;rw [U h4] at he;exact absurd rfl he
  .simp
def zl0 {d:Disk} {p:Plan} {g:Geom} (h:(rtake d p g).2.2=0):zac (rtake d p g).2.1=true:=by
 unfold rtake at h |-;split at h
 .rename_i h1;exact absurd h h1
 split at h
 .rename_i h1;exact absurd h h1
 rename_i h1 h2;rw [U h1,U h2];exact hostOk_iff.2 (zlV d p _ _ (by unfold rfind at h1;omega))
def zAt {s t:Txt} {a:Int} (h0:0<=a) (h:a+t.length<=s.length):overS s a t=(s.take a.toNat++t++s.drop (a+t.length).toNat,0):=by
 rw [overS,U fT]
def zo9 {s t:Txt} {a:Int} (h0:0<=a) (h:a+t.length<=s.length):(overS s a t).1.length=s.length:=by rw [zAt h0 h];simp;omega
def zbC (k:Int) (b:Txt):List (Int×Txt):= [(96+2*k,b.take 64),(96+2*k+1,(b.take 128).drop 64)]
def zdA (x:Img) (l1 guest off:Int) (s:Txt):Img×Int:=
 if (rtake x.disk p0 x.geom).2.2≠0 then (x,(rtake x.disk p0 x.geom).2.2)
 else if (cread x.disk l1 guest).2≠0 then (x,(cread x.disk l1 guest).2)
 else if (layL x.disk (zbC (rtake x.disk p0 x.geom).2.1 (overS (cread x.disk l1 guest).1 off s).1)).2≠0 then
  (wdisk x (layL x.disk (zbC (rtake x.disk p0 x.geom).2.1 (overS (cread x.disk l1 guest).1 off s).1)).1,(layL x.disk (zbC (rtake x.disk p0 x.geom).2.1 (overS (cread x.disk l1 guest).1 off s).1)).2)
 else if (ppoint (layL x.disk (zbC (rtake x.disk p0 x.geom).2.1 (overS (cread x.disk l1 guest).1 off s).1)).1 (rtake x.disk p0 x.geom).1 x.geom guest ⟨1,(rtake x.disk p0 x.geom).2.1⟩).2≠0 then
  (wdisk x (layL x.disk (zbC (rtake x.disk p0 x.geom).2.1 (overS (cread x.disk l1 guest).1 off s).1)).1,(ppoint (layL x.disk (zbC (rtake x.disk p0 x.geom).2.1 (overS (cread x.disk l1 guest).1 off s).1)).1 (rtake x.disk p0 x.geom).1 x.geom guest ⟨1,(rtake x.disk p0 x.geom).2.1⟩).2)
 else cdone (wdisk x (layL x.disk (zbC (rtake x.disk p0 x.geom).2.1 (overS (cread x.disk l1 guest).1 off s).1)).1) (ppoint (layL x.disk (zbC (rtake x.disk p0 x.geom).2.1 (overS (cread x.disk l1 guest).1 off s).1)).1 (rtake x.disk p0 x.geom).1 x.geom guest ⟨1,(rtake x.disk p0 x.geom).2.1⟩).1
def zgR (x:Img) (l1:Int) (y:Ent2) (guest off:Int) (s:Txt):Img×Int:=
  if y.kind=1 then
    (if (rget x.disk p0 y.loc).2≠0 then (x,(rget x.disk p0 y.loc).2)
     else if (rget x.disk p0 y.loc).1≤1 then (wdisk x (zgx x.disk y.loc off s).1,(zgx x.disk y.loc off s).2)
     else zdA x l1 guest off s)
  else zdA x l1 guest off s
def zgd (x:Img) (guest off:Int) (s:Txt):Img×Int:=
 if (zF x.disk p0).2≠0 then (x,(zF x.disk p0).2)
 else if (elook x.disk p0 (zF x.disk p0).1.l1 guest).2≠0 then (x,(elook x.disk p0 (zF x.disk p0).1.l1 guest).2)
 else zgR x (zF x.disk p0).1.l1 (elook x.disk p0 (zF x.disk p0).1.l1 guest).1 guest off s
def zbX (x:Img) (guest off:Int) (s:Txt):Img×Int:=
 if x.broken then (x,24) else if guest<0\/x.geom.guest<=guest\/off<0\/128 - (s.length:Int)<off then (x,10)
 else if s= [] then (x,0) else zgd (cmark x guest) guest off s
set_option maxHeartbeats 1600000 in
def zq8 (x:Img) (guest off:Int) (s:Txt) (hp:ImgF x/\s.length<=9223372036854775807):AC 197 [imgA x,.d (.int .i64 guest),.d (.int .i64 off),.d (.str s)] (.tup [imgA (zbX x guest off s).1,.d (.int .i64 (zbX x guest off s).2)]):=by
 obtain ⟨h,hs⟩:=hp;refine fbod func197 ntmps197 (λbase=>?_);have hi:=h.ok;have hm:=h.maps;refine' zfH (zL 3) fx (za zar <| za zJ <| za zW <| za zaw <| za zaP <| za zaW <| za zal <| za zay <| za zak <| za zT <| za zah <| za zas <| zb _)
 .rw [zbX,aa hc]
 refine' FU
 .refine' ED
  have J:(decide (guest<0)||decide (x.geom.guest<=guest)||decide (off<0)||decide (128<(s.length:Int))||decide (128 - (s.length:Int)<off))=true:=by simp only [aH,ax];omega
  refine' walkR (zg jS J) (za zar <| za zJ <| za zW <| za zaw <| za zaP <| za zaW <| za zal <| za zay <| za zak <| za zT <| za zah <| za zas <| zb _);rw [zbX,U nn,aa ir]
 refine' ED
 have J:(decide (guest<0)||decide (x.geom.guest<=guest)||decide (off<0)||decide (128<(s.length:Int))||decide (128 - (s.length:Int)<off))=false:=by simp only [bn,bG];omega
 by_cases an:s= []
 .have oE:(s== [])=true:=by rw [an];rfl
  refine' walkR (zp jS J oE) (za zar <| za zJ <| za zW <| za zaw <| za zaP <| za zaW <| za zal <| za zay <| za zak <| za zT <| za zah <| za zas <| zb _);rw [zbX,U nn,U ir,aa an]
 have oE:(s== [])=false:=by simpa using an
 have heq:zbX x guest off s=zgd (cmark x guest) guest off s:=by rw [zbX,U nn,U ir,U an]
 refine' zfH (zL 8) (zp jS J oE) (za zar <| za zJ <| za zW <| za zaw <| za zaP <| za zaW <| za zal <| za zay <| za zak <| za zT <| za zah <| za zas <| zb _);rw [heq];have hX:=h.mark guest;revert hX;generalize cmark x guest=X;intro hX;have qv:=hX.disk;have BS:=hX.ok;have BT:=hX.guest;have BU:=hX.host;have rM:=hX.seq0;have np:=hX.seq1;have iZ:DP X.disk p0:=⟨qv,zch⟩
 refine aw_le ⟨[(1,true,.d (.int .i64 guest)),(2,true,.d (.int .i64 off)),(3,true,.d (.str s)),(4,true,.vp 0 0),(8,true,.vp 1 0)],[(1,.var img0),(0,.var (imgV X))],some []⟩ le0 ?_;have gx:(elook X.disk p0 (zF X.disk p0).1.l1 guest).1.kind=1->zac (elook X.disk p0 (zF X.disk p0).1.l1 guest).1.loc=true:=zhm;obtain ⟨r,hr⟩:∃r,r=zF X.disk p0:=⟨_,rfl⟩
 rw [<-hr] at gx;obtain ⟨y,hy⟩:∃y,y=elook X.disk p0 r.1.l1 guest:=⟨_,rfl⟩
 rw [<-hy] at gx;obtain ⟨n,hn⟩:∃n,n=rget X.disk p0 y.1.loc:=⟨_,rfl⟩
 have fY:zgd X guest off s=if r.2≠0 then (X,r.2) else if y.2≠0 then (X,y.2) else zgR X r.1.l1 y.1 guest off s:=by rw [zgd,<-hr,<-hy]
 have nV:zgR X r.1.l1 y.1 guest off s=if y.1.kind=1 then (if n.2≠0 then (X,n.2) else if n.1<=1 then (wdisk X (zgx X.disk y.1.loc off s).1,(zgx X.disk y.1.loc off s).2) else zdA X r.1.l1 guest off s) else zdA X r.1.l1 guest off s:=by rw [zgR,<-hn]
 rw [nV] at fY;by_cases iq:y.1.kind=1/\(n.2≠0\/n.1<=1)
 .rw [fY];have oF:(y.1.kind==1)=true:=aF.2 iq.1;have oG:=gx iq.1;refine' zfH (zL 20) (zB hr.symm hy.symm hn.symm oF) (za zar <| za zJ <| za zW <| za zaw <| za zaP <| za zaW <| za zal <| za zay <| za zak <| za zT <| za zah <| za zas <| zb _);all_goals try ((refine (show (_:AV)=_ from ?_));(repeat (first|(rewrite [aa];rotate_left;(first|exact bneP gr|exact beqP gr|exact bd gr|assumption))|(rewrite [U];rotate_left;(first|exact bneN gr|exact beqN gr|exact aQ gr|assumption))));done)
  all_goals try (rw [aa iq.1];(refine (show (_:AV)=_ from ?_));(repeat (first|(rewrite [aa];rotate_left;(first|exact bneP gr|exact beqP gr|exact bd gr|assumption))|(rewrite [U];rotate_left;(first|exact bneN gr|exact beqN gr|exact aQ gr|assumption))));rfl)
  rename_i h1;exact absurd iq.2 (by rintro (h|h);exact bneN h1 h;exact aQ hc h)
 .have rC:zgd X guest off s=if r.2≠0 then (X,r.2) else if y.2≠0 then (X,y.2) else zdA X r.1.l1 guest off s:=by
   rw [fY];by_cases hk:y.1.kind=1
   .rw [aa hk,U (λh=>iq ⟨hk,.inl h⟩),U (λh=>iq ⟨hk,.inr h⟩)]
   .rw [U hk]
  rw [rC];clear fY nV rC;refine' zfH (zL 14) (zg hr.symm hy.symm) (za zar <| za zJ <| za zW <| za zaw <| za zaP <| za zaW <| za zal <| za zay <| za zak <| za zT <| za zah <| za zas <| zb _);all_goals try ((refine (show (_:AV)=_ from ?_));(repeat (first|(rewrite [aa];rotate_left;(first|exact bneP gr|exact beqP gr|exact bd gr|assumption))|(rewrite [U];rotate_left;(first|exact bneN gr|exact beqN gr|exact aQ gr|assumption))));done)
  all_goals try ((refine (show (_:AV)=_ from ?_));(repeat (first|(rewrite [aa];rotate_left;(first|exact bneP gr|exact beqP gr|exact bd gr|assumption))|(rewrite [U];rotate_left;(first|exact bneN gr|exact beqN gr|exact aQ gr|assumption))));rfl)
  have e1:=bneN hc;rename_i ao;have e0:=bneN ao;rw [U e0,U e1];clear hc ao;refine zmP ⟨[(1,true,.d (.int .i64 guest)),(2,true,.d (.int .i64 off)),(3,true,.d (.str s)),(4,true,.vp 0 0),(8,true,.vp 1 0),(10,true,.vp 2 0)],[(2,.var [.d (.int .i64 r.1.l1),.d (.int .u32 r.1.next)]),(1,.var img0),(0,.var (imgV X))],some []⟩ ?_ ?_
  .refine' walkR (zp hr.symm hy.symm hn.symm) (za zar <| za zJ <| za zW <| za zaw <| za zaP <| za zaW <| za zal <| za zay <| za zak <| za zT <| za zah <| za zas <| zb _);all_goals try exact gx (beqP gr)
   .rename_i hk;exact absurd ⟨beqP hk,.inl (bneP hc)⟩ iq
   .rename_i hk _;exact absurd ⟨beqP hk,.inr (bd hc)⟩ iq
  .obtain ⟨t,ht⟩:∃t,t=rtake X.disk p0 X.geom:=⟨_,rfl⟩
   obtain ⟨c,iB⟩:∃c,c=cread X.disk r.1.l1 guest:=⟨_,rfl⟩
   obtain ⟨b,hb⟩:∃b,b=(overS c.1 off s).1:=⟨_,rfl⟩
   have x0:t.2.2=0->zac t.2.1=true:=by rw [ht];exact zl0
   have c8:c.2=0->b.length=128:=λh=>by have:=zgQ (l1:=r.1.l1) (g:=guest) qv.puts (by rw [<-iB];exact h);rw [<-iB] at this;rw [hb,zo9 fT fT,this]
   have c6:c.1.length<=128:=by rw [iB];exact zta qv.puts
   have pB:DP X.disk t.1:=by rw [ht];exact iZ.rtake _
   have x1:pfit t.1=true:=pB.p
   have gX:zdA X r.1.l1 guest off s=if t.2.2≠0 then (X,t.2.2) else if c.2≠0 then (X,c.2) else if (layL X.disk (zbC t.2.1 b)).2≠0 then (wdisk X (layL X.disk (zbC t.2.1 b)).1,(layL X.disk (zbC t.2.1 b)).2)
     else if (ppoint (layL X.disk (zbC t.2.1 b)).1 t.1 X.geom guest ⟨1,t.2.1⟩).2≠0 then (wdisk X (layL X.disk (zbC t.2.1 b)).1,(ppoint (layL X.disk (zbC t.2.1 b)).1 t.1 X.geom guest ⟨1,t.2.1⟩).2)
     else cdone (wdisk X (layL X.disk (zbC t.2.1 b)).1) (ppoint (layL X.disk (zbC t.2.1 b)).1 t.1 X.geom guest ⟨1,t.2.1⟩).1:=by rw [zdA,<-ht,<-iB,<-hb]
   rw [gX];clear gX;refine' zfH (zL 27) (zp ht.symm iB.symm hb.symm) (za zar <| za zJ <| za zW <| za zaw <| za zaP <| za zaW <| za zal <| za zay <| za zak <| za zT <| za zah <| za zas <| zb _);all_goals try ((refine (show (_:AV)=_ from ?_));(repeat (first|(rewrite [aa];rotate_left;(first|exact bneP gr|exact beqP gr|exact bd gr|assumption))|(rewrite [U];rotate_left;(first|exact bneN gr|exact beqN gr|exact aQ gr|assumption))));rfl)
   rename_i h0;have e2:=bneN h0;have e3:=bneN hc;have vM:=c8 fT;have BV:=hostOk_iff.1 (x0 fT);obtain ⟨L,hL⟩:∃L,L=layL X.disk (zbC t.2.1 b):=⟨_,rfl⟩
   have BW:DiskF L.1:=by rw [hL];exact DiskF.layL _ qv
   rw [U e2,U e3,<-hL];clear h0 hc;generalize hZ:(if L.2≠0 then (wdisk X L.1,L.2) else if (ppoint L.1 t.1 X.geom guest ⟨1,t.2.1⟩).2≠0 then (wdisk X L.1,(ppoint L.1 t.1 X.geom guest ⟨1,t.2.1⟩).2) else cdone (wdisk X L.1) (ppoint L.1 t.1 X.geom guest ⟨1,t.2.1⟩).1:Img×Int)=Z;refine aw_le ⟨[(1,true,.d (.int .i64 guest)),(2,true,.d (.int .i64 off)),(3,true,.d (.str s)),(4,true,.vp 0 0),(8,true,.vp 1 0),(15,true,.vp 3 0),(16,true,.d (.int .i64 t.2.1)),(17,true,.d (.str b))],[(3,.var (planC t.1)),(1,.var img0),(0,.var (imgV X))],some []⟩ (lxb @planC.eq_1) ?_;refine' walkR fx (za zar <| za zJ <| za zW <| za zaw <| za zaP <| za zaW <| za zal <| za zay <| za zak <| za zT <| za zah <| za zas <| zb _);refine zk (λq: { q:Nat×Disk // q.1<=2/\DiskF q.2/\L=layL q.2 ((zbC t.2.1 b).drop q.1) } =>⟨[(1,true,.d (.int .i64 guest)),(2,true,.d (.int .i64 off)),(3,true,.d (.str s)),(4,true,.vp 0 0),(8,true,.vp 1 0),(15,true,.vp 3 0),(16,true,.d (.int .i64 t.2.1)),(17,true,.d (.str b)),(18,true,.d (.int .i64 q.1.1))],[(3,.var (planC t.1)),(1,.var img0),(0,.var (imgV (wdisk X q.1.2)))],some []⟩) (λq=>2 - q.1.1) ⟨(0,X.disk),ad _,qv,hL⟩ (lxb @wdisk.eq_1) (λq=>?_);obtain ⟨⟨i,d⟩,lr,hF,hf⟩:=q;simp only at lr hF hf |-;have BX:=hF.ok;have ao:((0:Nat):Int)=0:=rfl;refine' FD;have gV:Int.toNat 64=64:=rfl;have pM:Int.toNat 128=128:=rfl;have jA:Int.toNat 0=0:=rfl;refine' ES;have oH:IntKind.i64.wrap 64=64:=gb;have tj:IntKind.i64.wrap 128=128:=gb;have tn:IntKind.i64.wrap 0=0:=gb;have fW:IntKind.i64.wrap (96+2*t.2.1+0)=96+2*t.2.1:=yM;have tq:IntKind.i64.wrap (96+2*t.2.1+1)=96+2*t.2.1+1:=zf fT fT;have h3:i=0\/i=1\/i=2:=fT;rcases h3 with rfl|rfl|rfl
   .have l3:L=if (zab d (96+2*t.2.1) (b.take 64)).2≠0 then zab d (96+2*t.2.1) (b.take 64) else layL (zab d (96+2*t.2.1) (b.take 64)).1 ((zbC t.2.1 b).drop 1):=hf
    have oD:=hF.write (96+2*t.2.1) (b.take 64);refine' walkR (zr ao ab oH tn jA (zB gV fW vM @wdisk.eq_1)) (za zar <| za zJ <| za zW <| za zaw <| za zaP <| za zaW <| za zal <| za zay <| za zak <| za zT <| za zah <| za zas <| zb _)
    .rw [aa (bneP hc)] at l3;rw [<-hZ,l3,aa (bneP hc)];rfl
    .rw [U (bneN hc)] at l3;exact ⟨⟨(1,_),by show (1:Nat)<=2;omega,oD,l3⟩,lxb @wdisk.eq_1,fZ⟩
   .have l3:L=if (zab d (96+2*t.2.1+1) ((b.take 128).drop 64)).2≠0 then zab d (96+2*t.2.1+1) ((b.take 128).drop 64) else ((zab d (96+2*t.2.1+1) ((b.take 128).drop 64)).1,0):=hf
    have oD:=hF.write (96+2*t.2.1+1) ((b.take 128).drop 64);refine' walkR (zr bo a6 oH tj pM (zB gV tq vM @wdisk.eq_1)) (za zar <| za zJ <| za zW <| za zaw <| za zaP <| za zaW <| za zal <| za zay <| za zak <| za zT <| za zah <| za zas <| zb _)
    .rw [aa (bneP hc)] at l3;rw [<-hZ,l3,aa (bneP hc)];rfl
    .rw [U (bneN hc)] at l3;exact ⟨⟨(2,_),by show (2:Nat)<=2;omega,oD,l3⟩,lxb @wdisk.eq_1,fZ⟩
   .have x2:L=(d,0):=hf;have pF:DP d t.1:=⟨hF,x1⟩
    have BY:pfit (ppoint d t.1 X.geom guest ⟨1,t.2.1⟩).1=true:=(pF.ppoint _ _ _).p;have BZ:ImgOk ⟨d,X.geom,X.jour,X.maps,X.broken⟩:=(hX.wd hF).ok;rw [x2] at hZ;refine' walkR (zg fY @wdisk.eq_1) (za zar <| za zJ <| za zW <| za zaw <| za zaP <| za zaW <| za zal <| za zay <| za zak <| za zT <| za zah <| za zas <| zb _)
    .rw [<-hZ,U fZ,aa (bneP hc)];rfl
    .rw [<-hZ,U fZ,U (bneN hc)];rfl
@[go_sem] def zbJ:Ent Tryz.prog 197:= .m4 za9 (intT .i64) (intT .i64) strT zq8
def DiskF.commit {d:Disk} (h:DiskF d) (j:Jour) (p:Plan):DiskF (jcommit d j p).1:=by
 have h1:=h.flush;have h2:∀l,DiskF (Aw.layL (Aw.dflush d).1 l).1:=λl=>DiskF.layL l h1;have J:∀l,DiskF (Aw.dflush (Aw.layL (Aw.dflush d).1 l).1).1:=λl=>(h2 l).flush;have h4:∀l,DiskF (Aw.play (Aw.dflush (Aw.layL (Aw.dflush d).1 l).1).1 p).1:=λl=>(J l).play p;unfold Aw.jcommit Aw.jtail;repeat' split
 all_goals first|exact h|exact h1|exact h2 _|exact J _|exact h4 _
def zrj {d:Disk} {j:Jour} {p:Plan} (h0:0<=j.seq) (h1:j.seq<=4611686018427387904):0<=(jcommit d j p).2.1.seq/\(jcommit d j p).2.1.seq<=4611686018427387904:=by
 unfold jcommit jtail;repeat' split
 all_goals first|exact ⟨h0,h1⟩|(constructor<;>simp only<;>omega)
def ImgF.done {x:Img} (h:ImgF x) (p:Plan):ImgF (cdone x p).1:=by
 have J:=h.disk.commit x.jour p;have hs:=zrj (d:=x.disk) (p:=p) h.seq0 h.seq1;unfold cdone;split
 .exact ⟨⟨J.ok,h.ok.maps,h.ok.names,h.ok.bits⟩,J,h.guest,h.host,h.seq0,h.seq1,h.maps⟩
 .exact ⟨⟨J.ok,h.ok.maps,h.ok.names,h.ok.bits⟩,J,h.guest,h.host,hs.1,hs.2,h.maps⟩
def DiskF.place {d:Disk} (h:DiskF d) (k off:Int) (s:Txt):DiskF (zgx d k off s).1:=by
 have:∀m i d,DiskF d->DiskF (zfw k off s m i d).1:=by
  intro m;induction m with
  |zero=>intro i d h;exact h
  |succ m J=>
   intro i d h;rw [zfw];split
   .exact h.cput1 _ _ _ _
   .exact J _ _ (h.cput1 _ _ _ _)
 exact this _ _ _ h
def ImgF.write4 {x:Img} (h:ImgF x) (l1 g off:Int) (s:Txt):ImgF (zdA x l1 g off s).1:=by
 unfold zdA;repeat' split
 .exact h
 .exact h
 .exact h.wd (DiskF.layL _ h.disk)
 .exact h.wd (DiskF.layL _ h.disk)
 .exact (h.wd (DiskF.layL _ h.disk)).done _
def ImgF.write {x:Img} (h:ImgF x) (g off:Int) (s:Txt):ImgF (zbX x g off s).1:=by
 have hm:=h.mark g;unfold zbX;split
 .exact h
 split
 .exact h
 split
 .exact h
 unfold zgd;split
 .exact hm
 split
 .exact hm
 unfold zgR;split
 .split
  .exact hm
  split
  .exact hm.wd (hm.disk.place _ _ _)
  .exact hm.write4 _ _ _ _
 .exact hm.write4 _ _ _ _
def cgood (x:Img):Bool:=decide ((x.disk.cache.length:Int)<=300)&&decide ((x.maps.length:Int)<=2)&&ifit x
def zC3 {x:Img} (h:ImgOk x) (J:cgood x=true):ImgF x:=by unfold cgood ifit at J;simp only [aq,ax] at J;obtain ⟨⟨g1,g2⟩,⟨⟨⟨⟨g3,g4⟩,g5⟩,g6⟩,g7⟩,g8⟩:=J;rw [geo_iff] at g3;unfold dfit at g4;simp only [aq] at g4;unfold jfit at g6;simp only [aq,ax] at g6;exact ⟨h,⟨h.disk,g4.1.2⟩,fT,fT,fT,fT,fT⟩
def wipe2 (x:Img) (guest kind:Int):Img×Int:=
 if (zF x.disk p0).2≠0 then (x,(zF x.disk p0).2) else if (elook x.disk p0 (zF x.disk p0).1.l1 guest).2≠0 then (x,(elook x.disk p0 (zF x.disk p0).1.l1 guest).2)
 else if (elook x.disk p0 (zF x.disk p0).1.l1 guest).1.kind=kind then (x,0)
 else if (ppoint x.disk p0 x.geom guest ⟨kind,0⟩).2≠0 then (x,(ppoint x.disk p0 x.geom guest ⟨kind,0⟩).2) else cdone x (ppoint x.disk p0 x.geom guest ⟨kind,0⟩).1
def wipe (x:Img) (guest:Int) (hole:Bool):Img×Int:=
 if x.broken then (x,24) else if guest<0\/x.geom.guest<=guest then (x,10) else wipe2 (cmark x guest) guest (if hole then 0 else 2)
def zAH {d:Disk} {p:Plan} {t i:Int} (J:(eget d p t i).1.kind≠1):(eget d p t i).1.loc=0:=by
 by_cases he:(eget d p t i).2=0
 .have:=(znf he).1;unfold entOk at this;rw [U J] at this;simp only [aq,aF] at this;exact this.2
 .unfold eget at he |-;split
  .rfl
  rename_i h1;rw [U h1] at he;split
  .rfl
  rename_i h2;rw [U h2] at he;unfold entT at he |-;split
  .rfl
  .rename_i h3;rw [U h3] at he;exact absurd rfl he
def zxH {d:Disk} {p:Plan} {l1 g:Int} (J:(elook d p l1 g).1.kind≠1):(elook d p l1 g).1.loc=0:=by
 unfold elook at J |-;repeat' split
 all_goals first|rfl|skip
 rename_i h1 h2 h3 h4;rw [U h1,U h2,U h3,U h4] at J;exact zAH J
def zuS (x:Img) (guest:Int) (k4:Bool) (h:ImgF x):AC 198 [imgA x,.d (.int .i64 guest),.d (.bool k4)] (.tup [imgA (wipe x guest k4).1,.d (.int .i64 (wipe x guest k4).2)]):=by
 refine fbod func198 ntmps198 (λbase=>?_);refine' Il;have vN:=h.maps;refine' El;refine' GM;obtain ⟨P,hP⟩:∃P,P=ppoint X.disk p0 X.geom guest ⟨if k4 then 0 else 2,0⟩:=⟨_,rfl⟩
 refine' EC
 .refine' HT;refine' walkW (zg J hZ.symm) (za zar <| za zJ <| za zW <| za zah <| za zas <| zb _)
  .rw [iC,aa hc]
  .rw [iC,U kU]
 have J:(decide (guest<0)||decide (x.geom.guest<=guest))=false:=jX;rw [U hr] at iC;refine' zfh (zL 5) (zg J hZ.symm) (za zar <| za zJ <| za zW <| za zah <| za zas <| zb _)
 .rw [iC,aa hc]
 rw [U kU] at iC;clear hc
 have vO:∀k,k≠1->(Y.1.kind==k&&Y.1.loc==0)=(Y.1.kind==k):=by
  intro k hk;cases hb:Y.1.kind==k with
  |false=>rfl
  |true=>
   have b3:Y.1.kind=k:=by simpa using hb
   have:Y.1.loc=0:=by rw [hY];exact zxH (by rw [<-hY,b3];exact hk)
   rw [this];rfl
 cases k4 with
 |true=>
  simp only [av] at hP iC;have tu:=vO 0 gb;refine' F9;all_goals rw [iC]
  all_goals (refine (show (_:AV)=_ from ?_));(repeat (first|(rewrite [aa];rotate_left;(first|exact bneP gr|exact beqP gr|exact bd gr|assumption))|(rewrite [U];rotate_left;(first|exact bneN gr|exact beqN gr|exact aQ gr|assumption))))
  all_goals rfl
 |false=>
  simp only [bj,aK] at hP iC;have tu:=vO 2 gb;refine' F9;all_goals rw [iC]
  all_goals (refine (show (_:AV)=_ from ?_));(repeat (first|(rewrite [aa];rotate_left;(first|exact bneP gr|exact beqP gr|exact bd gr|assumption))|(rewrite [U];rotate_left;(first|exact bneN gr|exact beqN gr|exact aQ gr|assumption))))
  all_goals rfl
@[go_sem] def zb1:Ent Tryz.prog 198:= .m3 za9 (intT .i64) boolT zuS
structure DF (d d':Disk):Prop where
 data:d'.data.length=d.data.length
 bad:d'.bad=d.bad
 cache:d.cache.length<=4096->d'.cache.length<=4096
def DF.refl (d:Disk):DF d d:=⟨rfl,rfl,id⟩
def DF.trans {a b c:Disk} (h:DF a b) (g:DF b c):DF a c:=⟨g.data.trans h.data,g.bad.trans h.bad,λk=>g.cache (h.cache k)⟩
def zpc {d d':Disk} (h:d'.data.length=d.data.length):∀ (l:List Int) (p:Option Int),zd8 d' l p=zd8 d l p
 | [],p=>rfl
 |a::l,p=>by simp only [zd8];rw [zuQ h,zpc h l]
def DF.fit {d d':Disk} (h:DF d d') (hF:DiskF d') (J:dfit d=true):dfit d'=true:=by
 unfold dfit at J |-;refine' IL;have hd:dsize d'=dsize d:=by unfold dsize;rw [h.data]
 exact ⟨⟨⟨⟨⟨by rw [hd];exact h1,by rw [hd];exact h2⟩,by rw [h.data];exact h3⟩,h.cache h4⟩,hF.puts⟩,by rw [h.bad,zpc h.data];exact h6⟩
def DF.write (d:Disk) (a:Int) (s:Txt):DF d (zab d a s).1:=by
 refine ⟨by rw [zkx],?_,?_⟩
 .unfold zab;repeat' split
  all_goals first|rfl|(rw [zpb])
 .intro h;unfold zab;split
  .exact h
  split
  .exact h
  split
  .exact h
  split
  .exact h
  split
  .exact h
  split
  .exact h
  .rename_i h1 h2 J h4 h5 h6;rw [zf7];simp only [ae,aC,aM];omega
def DF.flush {d:Disk} (h:DiskF d):DF d (dflush d).1:=by
 refine ⟨zlT h.puts,?_,?_⟩
 .unfold dflush;repeat' split
  all_goals first|rfl|(rw [zpb])
 .intro hc;unfold dflush;split
  .exact hc
  split
  .exact hc
  .rw [zf7];exact ad _
def DF.layL:∀ (l:List (Int×Txt)) (d:Disk),DF d (layL d l).1
 | [],d=>DF.refl d
 |q::l,d=>by
  rw [Aw.layL];split
  .exact DF.write d q.1 q.2
  .exact (DF.write d q.1 q.2).trans (DF.layL l _)
def DF.commit {d:Disk} (h:DiskF d) (j:Jour) (p:Plan):DF d (jcommit d j p).1:=by
 have h1:=DF.flush h;have h2:∀l,DF d (Aw.layL (dflush d).1 l).1:=λl=>h1.trans (DF.layL l _);have J:∀l,DF d (dflush (Aw.layL (dflush d).1 l).1).1:=λl=>(h2 l).trans (DF.flush (DiskF.layL l h.flush));have h4:∀l,DF d (play (dflush (Aw.layL (dflush d).1 l).1).1 p).1:=λl=>(J l).trans (DF.layL _ _);unfold jcommit jtail;repeat' split
 all_goals first|exact DF.refl d|exact h1|exact h2 _|exact J _|exact h4 _
def DF.place (d:Disk) (k off:Int) (s:Txt):DF d (zgx d k off s).1:=by
 have h1:∀i d,DF d (cput1 d k off s i).1:=by
  intro i d;unfold cput1;split
  .exact DF.refl d
  split
  .exact DF.refl d
  .exact DF.write _ _ _
 have:∀m i d,DF d (zfw k off s m i d).1:=by
  intro m;induction m with
  |zero=>intro i d;exact DF.refl d
  |succ m J=>
   intro i d;rw [zfw];split
   .exact h1 i d
   .exact (h1 i d).trans (J _ _)
 exact this _ _ _
def zrn {d:Disk} {j:Jour} {p:Plan} (hp:pfit p=true) (h:jfit j=true):jfit (jcommit d j p).2.1=true:=by
 have J:=(ziR j.seq hp).1;have hA:=ziQ j.pos (zc0 j.seq p).length
 have B0:0<=zed j.pos (zc0 j.seq p).length/\zed j.pos (zc0 j.seq p).length+(zc0 j.seq p).length<=81:=by refine ⟨fT,?_⟩;unfold zed;split<;>omega
 unfold jcommit;split
 .exact h
 split
 .exact h
 rename_i h2;split
 .exact h
 unfold jtail;split
 .exact h
 split
 .exact h
 split
 .exact h
 .unfold jfit at h |-;simp only [aq,ax] at h |-;omega
structure IF (x y:Img):Prop where
 geom:y.geom=x.geom
 disk:DF x.disk y.disk
 jour:jfit x.jour=true->jfit y.jour=true
 len:y.maps.length=x.maps.length
 maps:∀n k,mfit n k y.maps=mfit n k x.maps
 head:y.maps.head?.map (·.name)=x.maps.head?.map (·.name)
def IF.refl (x:Img):IF x x:=⟨rfl,DF.refl _,id,rfl,λ_ _=>rfl,rfl⟩
def IF.trans {x y z:Img} (h:IF x y) (g:IF y z):IF x z:=⟨g.geom.trans h.geom,h.disk.trans g.disk,λk=>g.jour (h.jour k),g.len.trans h.len,λn k=>(g.maps n k).trans (h.maps n k),g.head.trans h.head⟩
def IF.fit {x y:Img} (h:IF x y) (hy:ImgF y) (J:ifit x=true):ifit y=true:=by
 unfold ifit at J |-;refine' IL;have hd:dsize y.disk=dsize x.disk:=by unfold dsize;rw [h.disk.data]
 exact ⟨⟨⟨⟨⟨by rw [h.geom];exact h1,h.disk.fit hy.disk h2⟩,by rw [hd,h.geom];exact h3⟩,h.jour h4⟩,by rw [h.len];exact h5⟩,by rw [h.head,h.maps];exact h6⟩
def IF.mark (x:Img) (g:Int):IF x (cmark x g):=by
 unfold cmark;split
 .exact IF.refl x
 .refine ⟨rfl,DF.refl _,id,fZ,?_,?_⟩
  .simp only;intro n k
   have J:∀ (l:List Dmap) k,mfit n k (l.map (mset g.toNat))=mfit n k l:=by
    intro l;induction l with
    |nil=>intro k;rfl
    |cons m l ih=>intro k;rw [au,mfit,mfit,ih];rfl
   exact J _ k
  .cases hm:x.maps with
   |nil=>simp [hm]
   |cons m l=>simp [hm,mset]
def IF.wd (x:Img) {d:Disk} (h:DF x.disk d):IF x (wdisk x d):=⟨rfl,h,id,rfl,λ_ _=>rfl,rfl⟩
def IF.done {x:Img} {p:Plan} (J:DiskF x.disk) (hp:pfit p=true):IF x (cdone x p).1:=by
 have h1:=DF.commit J x.jour p;have h2:=zrn (d:=x.disk) (j:=x.jour) hp;unfold cdone;split
 .exact ⟨rfl,h1,id,rfl,λ_ _=>rfl,rfl⟩
 .exact ⟨rfl,h1,h2,rfl,λ_ _=>rfl,rfl⟩
def IF.write4 {x:Img} (J:ImgF x) (l1 g off:Int) (s:Txt):IF x (zdA x l1 g off s).1:=by
 have tw:DP x.disk p0:=⟨J.disk,zch⟩
 unfold zdA;split
 .exact IF.refl x
 split
 .exact IF.refl x
 split
 .exact IF.wd x (DF.layL _ _)
 split
 .exact IF.wd x (DF.layL _ _)
 .refine (IF.wd x (DF.layL _ _)).trans (IF.done (DiskF.layL _ J.disk) ?_);have hq:DP (layL x.disk (zbC (rtake x.disk p0 x.geom).2.1 (overS (cread x.disk l1 g).1 off s).1)).1 (rtake x.disk p0 x.geom).1:=⟨DiskF.layL _ J.disk,(tw.rtake _).p⟩
  exact (hq.ppoint _ _ _).p
def IF.write {x:Img} (J:ImgF x) (g off:Int) (s:Txt):IF x (zbX x g off s).1:=by
 have hm:=J.mark g;unfold zbX;split
 .exact IF.refl x
 split
 .exact IF.refl x
 split
 .exact IF.refl x
 refine (IF.mark x g).trans ?_;unfold zgd;split
 .exact IF.refl _
 split
 .exact IF.refl _
 unfold zgR;split
 .split
  .exact IF.refl _
  split
  .exact IF.wd _ (DF.place _ _ _ _)
  .exact IF.write4 hm _ _ _ _
 .exact IF.write4 hm _ _ _ _
def IF.wipe {x:Img} (J:ImgF x) (g:Int) (hole:Bool):IF x (wipe x g hole).1:=by
 have hm:=J.mark g;have tw:DP (cmark x g).disk p0:=⟨hm.disk,zch⟩
 unfold Aw.wipe;split
 .exact IF.refl x
 split
 .exact IF.refl x
 refine (IF.mark x g).trans ?_;obtain ⟨kd,tx⟩:∃kd:Int,kd=if hole then 0 else 2:=⟨_,rfl⟩
 rw [<-tx];unfold wipe2;split
 .exact IF.refl _
 split
 .exact IF.refl _
 split
 .exact IF.refl _
 split
 .exact IF.refl _
 .exact IF.done hm.disk (tw.ppoint _ _ _).p
def ze9 (g m:Int):Txt:= [67,79,70,49]++putN g.toNat 2++putN m.toNat 2
def zgl (g m:Int):Txt:=padR (ze9 g m++zgM (sumOf 0 (ze9 g m)))
def znH (g m:Int):(ze9 g m).length=8:=by
 rw [ze9,ae,ae,zu,zu];rfl
def zvn (g:Int) (m:Int) (h:zfl g m=true):ACall Tryz.prog 86 0 [.agg [.d (.int .i64 g),.d (.int .i64 m)]] [] (λr _=>r= .tup [.d (.str (zgl g m)),.d (.int .i64 0)]):=by refine fbod func86 ntmps86 (λbase=>?_);have J:=geo_iff.1 h;have ab:IntKind.u64.wrap g=g:=zA fT fT;have a6:IntKind.u64.wrap m=m:=zA fT fT;have jv:=zu g.toNat 2;have js:=zu m.toNat 2;have qt:(67:UInt8)::79::70::49::putN g.toNat 2++putN m.toNat 2=ze9 g m:=rfl;have qu:=znH g m;have hs:=zgO 0 (ze9 g m) fT fT;have c8:=zeM (sumOf 0 (ze9 g m));refine' walkW (zr h ab a6 @zjo @zgv (zr @List.length_cons.{0} @List.length_nil.{0} jv js qt (zp qu c8 @List.length_append.{0}))) (za zdR <| za zH <| za zbV <| za zaV <| za ziN <| zb _);rfl
@[go_sem] def zjz:Ent Tryz.prog 86:= .ofL (consL (aggT (consL (intT .i64) (consL (intT .i64) nilL)) (λp=>p) (λp=>p) (λ_=>rfl)) nilL) (λ((g,m,_),_)=>zfl g m=true) (λ((g,m,_),_)=> .tup [.d (.str (zgl g m)),.d (.int .i64 0)]) (λ((g,m,_),_) hp=>⟨rfl,zvn g m hp⟩)
def csmall:Img:=⟨(dflush (play (dnew 112).1 (radd (dnew 112).1 (zgb (pset p0 0 (zgl 20 8)).1 ⟨0,1⟩).1 0 1).1).1).1,⟨20,8⟩,⟨1,0⟩,[],false⟩
def csmall_ok:ImgF csmall:=by
 have h:DiskF (dnew 112).1:=⟨by constructor<;>simp [dnew],rfl⟩
 have hp:=(h.play (radd (dnew 112).1 (zgb (pset p0 0 (zgl 20 8)).1 ⟨0,1⟩).1 0 1).1).flush;exact ⟨⟨hp.ok,gb,(λm hm=>kO),(λm hm=>kO)⟩,hp,gb,gb,gb,gb,gb⟩
def zrS:ACall Tryz.prog 39 0 [] [] (λr _=>r=imgA csmall):=by
 have J:DiskF (dnew 112).1:=⟨by constructor<;>simp [dnew],rfl⟩
 obtain ⟨c,hc⟩:∃c,c=csmall:=⟨_,rfl⟩
 rw [<-hc];unfold csmall at hc;obtain ⟨N,hN⟩:∃N,N=dnew 112:=⟨_,rfl⟩
 obtain ⟨S,hS⟩:∃S,S=pset p0 0 (zgl 20 8):=⟨_,rfl⟩
 have pN:pfit S.1=true:=by rw [hS];exact zfm zch
 obtain ⟨Q,hQ⟩:∃Q,Q=zgb S.1 ⟨0,1⟩:=⟨_,rfl⟩
 have nf:pfit Q.1=true:=by rw [hQ];exact zrm pN
 rw [<-hN] at J;rw [<-hN,<-hS,<-hQ] at hc;have iZ:DP N.1 Q.1:=⟨J,nf⟩
 obtain ⟨A,hA⟩:∃A,A=radd N.1 Q.1 0 1:=⟨_,rfl⟩
 have kY:pfit A.1=true:=by rw [hA];exact zsZ nf
 have pC:=PlanOk.of kY;have gB:=(zbk kY).1;have ni:=J.ok;obtain ⟨L,hL⟩:∃L,L=play N.1 A.1:=⟨_,rfl⟩
 have vP:DiskF L.1:=by rw [hL];exact J.play A.1
 have B1:=vP.ok;have B2:=vP.puts;obtain ⟨F,hF⟩:∃F,F=dflush L.1:=⟨_,rfl⟩
 rw [<-hA,<-hL,<-hF] at hc;have B3:zfl 20 8=true:=gb;have B4:=PlanOk.of zch;refine fbod func39 ntmps39 (λbase=>?_);refine' walkW (zr hN.symm hS.symm hQ.symm hA.symm hL.symm (zg hF.symm hc.symm)) (za zt5 <| za zjz <| za zbF <| za zqX <| za zcH <| za zdT <| za zbq <| zb _)
 .rfl
 .decide
 .rw [hc];rfl
@[go_sem] def zio:Ent Tryz.prog 39:= .ofL nilL (λ_=>True) (λ_=>imgA csmall) (λ_ hp=>⟨rfl,zrS⟩)
def zvo (d:Disk) (J:DiskOk d) (h:d.cache= []):ACall Tryz.prog 165 0 [diskA d,.d (.bool false),.d (.sl 1 [])] [] (λr _=>r= .d (.str d.data)):=by obtain ⟨b,c,f,o,bad⟩:=d;simp only at h;subst h;have gw:=J.data;simp only at gw;refine fbod func165 ntmps165 (λbase=>?_);refine' Ds;refine zk (λ_:Unit=>⟨[(3,true,.vp 0 0),(7,true,.osl 1 1 b.length 0 b.length),(8,true,.d (.int .i64 0))],[(1,.arr 1 (zh b)),(0,.var [.d (.str b),.d (.sl 2 []),.d (.int .i64 f),.d (.bool o),.d (.sl 1 (bad.map intD))])],some []⟩) (λ_=>0) () le1 (λ_=>?_);have gE:(b.length=(zh b).length)=True:=da (by rw [zh,al]);have b3:List.take b.length (zh b)=zh b:=aA (by rw [zh,al];omega);refine' zc (zat gE b3 @if_true.{1} @zao @za5)
@[go_sem] def zpI:Ent Tryz.prog 165:= .ofL (consL zC (consL (zav (.d (.bool false))) (consL (zav (.d (.sl 1 []))) nilL))) (λ(d,_,_,_)=>(DiskOk d)/\(d.cache= [])) (λ(d,_,_,_)=> .d (.str d.data)) (λ(d,_,_,_) hp=>⟨rfl,zvo d hp.1 hp.2⟩)
def zrT (d:Disk) (J:DiskOk d) (h:d.cache= []):ACall Tryz.prog 93 0 [diskA d,.d (.sl 1 [])] [] (λr _=>r=diskA ⟨d.data,[], -1,false,d.bad⟩):=by refine fbod func93 ntmps93 (λbase=>?_);refine' walkW fx (za zpI <| zb _)
@[go_sem] def znI:Ent Tryz.prog 93:= .ofL (consL zC (consL (zav (.d (.sl 1 []))) nilL)) (λ(d,_,_)=>(DiskOk d)/\(d.cache= [])) (λ(d,_,_)=>diskA ⟨d.data,[], -1,false,d.bad⟩) (λ(d,_,_) hp=>⟨rfl,zrT d hp.1 hp.2⟩)
def supS:Txt:=zgl 20 8
def zyE:ACall Tryz.prog 168 0 [.d (.str supS)] [] (λr _=>r= .tup [.agg [.d (.int .i64 20),.d (.int .i64 8)],.d (.int .i64 0)]):=by have h1:supS.length=64:=fX;have h2:supS.take 4= [67,79,70,49]:=fX;have J:zgM (sumOf 0 (supS.take 8))=(supS.drop 8).take 4:=fX;have h4:takeS (supS.drop 4) 2=(20,supS.drop 6,0):=fX;have h5:takeS (supS.drop 6) 2=(8,supS.drop 8,0):=fX;have h6:zgl 20 8=supS:=rfl;have h7:supS.take 64=supS:=aA fT;have h8:(supS.take 8).length<=9223372036854775807:=hU;have h9:(supS.drop 4).length<=9223372036854775807:=gG;have oL:(supS.drop 6).length<=9223372036854775807:=gG;have hs:=zgO 0 (supS.take 8) fT fT;have hg:zfl 20 8=true:=gb;refine fbod func168 ntmps168 (λbase=>?_);refine' walkW (zr h1 h2 J h7 h4 (zp h5 h6 hg)) (za zbV <| za zaV <| za zx <| za zdR <| za zjz <| zb _);rfl
@[go_sem] def zrU:Ent Tryz.prog 168:= .ofL (consL (zav (.d (.str supS))) nilL) (λ(_,_)=>True) (λ(_,_)=> .tup [.agg [.d (.int .i64 20),.d (.int .i64 8)],.d (.int .i64 0)]) (λ(_,_) hp=>⟨rfl,zyE⟩)
def blank:Txt:=List.replicate 64 0
def zrV:ACall Tryz.prog 285 0 [.d (.str blank)] [] (λr _=>r= .d (.int .i64 0)):=by
 refine fbod func285 ntmps285 (λbase=>?_)
 (have tk:=za zx <| zb Tryz.prog);repeat' (first|((first|(refine sa ?_;intro K hK)|refine sb ?_);simp only [go_sem,aeq,aeq.aeqF,simprocAttr,blank,results285])|refine zaC (λK hK=>?_)|refine sc ?_|refine za1 rfl (λhc=>?_) (λhc=>?_)|(refine hK _ ?_;clear hK K)|with_reducible refine And.intro ?_ ?_|omega|assumption|refine λ(J:(_:Bool)=(_:Bool))=>?_|clear hK K)
@[go_sem] def ziq:Ent Tryz.prog 285:= .ofL (consL (zav (.d (.str blank))) nilL) (λ(_,_)=>True) (λ(_,_)=> .d (.int .i64 0)) (λ(_,_) hp=>⟨rfl,zrV⟩)
def ztF (d:Disk):Prop:=∀i:Nat,i<81->dread d (6+i)=(blank,0)
def blks (i:Nat):List (List D):=List.replicate i [.str blank]
def zvp (d:Disk) (hp:DiskOk d/\ztF d):AC 226 [diskA d] (.tup [.d (.sl 4 []),.d (.int .i64 0)]):=by
 obtain ⟨hd,h⟩:=hp;refine fbod func226 ntmps226 (λbase=>?_);refine' Ii;refine zaI 4 1 rfl ?_;refine' Cl;refine' Ds;have jw:∀i,(blks i).length=i:=λi=>bB ..;refine zk (λq: { i:Nat // i<=81 } =>⟨[(1,true,.vp 0 0),(4,true,.osl 1 1 q.1 0 q.1),(5,true,.d (.int .i64 q.1))],[(1,.arr 1 (blks q.1)),(0,.var [.d (.str d.data),.d (.sl 2 (d.cache.map putD)),.d (.int .i64 d.fuse),.d (.bool d.off),.d (.sl 1 (d.bad.map intD))])],some []⟩) (λq=>81 - q.1) ⟨0,ad _⟩ le1 (λq=>?_);refine' Dl;refine' CO;rcases aO i 81 with ab|gU
 .have J:decide ((i:Int)<81)=true:=af fT;have nW:IntKind.i64.wrap (6+(i:Int))=6+i:=zf fT fT;have pO:=h i ab;have e8:blks i++ [[.str blank]]=blks (i+1):=List.replicate_succ'.symm;refine' walkW (zat J nW pO jw e8) (za zbZ <| za zbN <| za ziq <| zb _);all_goals first|omega|skip
  exact ⟨⟨i+1,fT⟩,lev,gh⟩
 .obtain rfl:i=81:=by omega
  refine' Ds;refine zk (λq: { i:Nat // i<=81 } =>⟨[(1,true,.vp 0 0),(4,true,.osl 1 1 81 0 81),(8,true,.nils 4),(9,true,.d (.int .i64 q.1))],[(1,.arr 1 (blks 81)),(0,.var [.d (.str d.data),.d (.sl 2 (d.cache.map putD)),.d (.int .i64 d.fuse),.d (.bool d.off),.d (.sl 1 (d.bad.map intD))])],some []⟩) (λq=>81 - q.1) ⟨0,ad _⟩ le1 (λq=>?_);refine' Dl;refine' CO;rcases aO i 81 with ab|gU
  .have J:decide ((i:Int)<81)=true:=af fT;have an:(blks 81).getD i []= [.str blank]:=by rw [blks,aN,List.getElem?_replicate,aa ab];rfl
   refine' walkW (zp J an jw) (za zbZ <| za zbN <| za ziq <| zb _);all_goals first|omega|skip
   exact ⟨⟨i+1,fT⟩,lev,gh⟩
  .obtain rfl:i=81:=by omega
   refine' Ds
@[go_sem] def zpJ:Ent Tryz.prog 226:= .m1 zC zvp
end
end Go.Aw
