/-
  Parts of the proof: CowG, CowH, CowL, CowM, CowQ (short names; the readable texts lie in the repo, under wip).
-/
import Derived.Test.YtbmlikkofegdeaaGreatPart6
import Derived.Test.YtbmlikkofegdeaaGreatPart4
import Derived.Test.YtbmlikkofegdeaaGreatPart2
set_option maxRecDepth 100000
set_option maxHeartbeats 2000000
set_option linter.unusedSimpArgs false
set_option linter.unusedVariables false
namespace Go.Aw
open Go Go.Proofs
@[simp, go_sem] theorem zq9 (x:Img) (d:Disk):(wdisk x d).disk=d:=rfl
@[simp, go_sem] theorem zra (x:Img) (d:Disk):(wdisk x d).geom=x.geom:=rfl
@[simp, go_sem] theorem zrb (x:Img) (d:Disk):(wdisk x d).jour=x.jour:=rfl
@[simp, go_sem] theorem zrc (x:Img) (d:Disk):(wdisk x d).maps=x.maps:=rfl
@[simp, go_sem] theorem zp0 (x:Img) (d:Disk):(wdisk x d).broken=x.broken:=rfl
@[simp, go_sem] theorem zqW (x:Img) (d e:Disk):wdisk (wdisk x d) e=wdisk x e:=rfl
@[simp, go_sem] theorem zrd (x:Img):wdisk x x.disk=x:=rfl
theorem fix1 {P:Program} {f:FuncId} {args:List AV} {fl i:Nat} {h:AHeap} {r0:AV} {X:AObj} (hc:ACall P f fl args h (fun r h'=>∃ob',h'= [(i,ob')]∧r=r0∧ob'=X)):ACall P f fl args h (fun r h'=>r=r0∧h'= [(i,X)]):=
 hc.mono (by rintro r h' ⟨ob',rfl,rfl,rfl⟩;exact ⟨rfl,rfl⟩)
structure JS where
 x:Img
 q:Plan
 loc:Int
 old:Txt
 e:Int
def jobP (x:Img) (g off:Int) (s:Txt) (l1 nx:Int) (y:Ent2) (q:Plan) (at_:Int) (old:Txt):List AV:= [.d (.str x.disk.data),.d (.sl 2 (x.disk.cache.map putD)),.d (.int .i64 x.disk.fuse),.d (.bool x.disk.off),.d (.sl 1 (x.disk.bad.map intD)),.d (.int .i64 x.geom.guest),.d (.int .i64 x.geom.host),.d (.int .u64 x.jour.seq),.d (.int .i64 x.jour.pos),.d (.sl 66 (x.maps.map dmapD)),.d (.bool x.broken),.d (.int .i64 g),.d (.int .i64 off),.d (.str s),.d (.int .i64 l1),.d (.int .u32 nx),.d (.int .i64 y.kind),.d (.int .i64 y.loc),.d (.sl 1 (q.targets.map intD)),.d (.sl 1 (q.texts.map strD)),.d (.int .i64 at_),.d (.str old)]
attribute [go_sem] jobP
theorem zpr {x:Img} {g off:Int} {s:Txt} {l1 nx:Int} {y:Ent2} {q:Plan} {a:Int} {old:Txt} :(AObj.var (jobP x g off s l1 nx y q a old)).ids= []:=by
 simp [AObj.ids,jobP,AV.idsL,AV.ids]
theorem zcB {x:Img} {g off:Int} {s:Txt} {l1 nx:Int} {y:Ent2} {q:Plan} {a:Int} {old:Txt} :∀j∈(AObj.var (jobP x g off s l1 nx y q a old)).ids,j=2:=by
 rw [zpr];simp
def zcM (x:Img) (g:Int):Ent2×Int:=if (zP x.disk p0).2≠0 then (⟨0,0⟩,(zP x.disk p0).2) else elook x.disk p0 (zP x.disk p0).1.l1 g
theorem zps (x:Img) (g off:Int) (s:Txt) (h:ImgF x):ACall Tryz.prog 31 20 [.vp 2 0] [(2,.var (jobP x g off s 0 0 ⟨0,0⟩ p0 0 []))] (fun r h'=>∃ob',h'= [(2,ob')]∧r= .d (.int .i64 (zcM x g).2)∧ob'= .var (jobP x g off s (zP x.disk p0).1.l1 (zP x.disk p0).1.next (zcM x g).1 p0 0 [])):=by
 refine bod Tryz.func31 Tryz.ntmps31 (fun base=>?_)
 have hdp:DP x.disk p0:=⟨h.disk,zee⟩
 refine' walkW fx (za zn <| za zD <| za zj <| za zx <| za zu <| za zN <| za zv <| za zk <| za zX <| za zp <| za zo <| zb _)
 ·refine ⟨_,rfl,?_,?_⟩<;>rw [zcM,if_neg (show ¬_≠_ from fun h2=>h2 (beqP hc))]
 ·refine ⟨_,rfl,?_,?_⟩<;>rw [zcM,if_pos (beqN hc)]
theorem znW (x:Img) (g off:Int) (s:Txt) (l1 nx:Int) (y:Ent2) (h:ImgF x):ACall Tryz.prog 37 20 [.vp 2 0] [(2,.var (jobP x g off s l1 nx y p0 0 []))] (fun r h'=>∃ob',h'= [(2,ob')]∧(r= .tup [.d (.bool (if y.kind=1 then decide ((rget x.disk p0 y.loc).1≤1) else false)),.d (.int .i64 (if y.kind=1 then (rget x.disk p0 y.loc).2 else 0))])∧ob'= .var (jobP x g off s l1 nx y p0 0 [])):=by
 refine bod Tryz.func37 Tryz.ntmps37 (fun base=>?_)
 have hdp:DP x.disk p0:=⟨h.disk,zee⟩
 refine' walkW fx (za zn <| za zD <| za zj <| za zx <| za zu <| za zN <| za zv <| za zk <| za zX <| za zp <| za zo <| zb _)
 ·exact ⟨_,rfl,by rw [if_neg (bneP hc),if_neg (bneP hc)],rfl⟩
 ·have hk:y.kind=1:=Classical.byContradiction (bneN hc)
  exact ⟨_,rfl,by rw [if_pos hk,if_pos hk],rfl⟩
theorem zpt (x:Img) (g off:Int) (s:Txt) (l1 nx:Int) (y:Ent2) (h:ImgF x):ACall Tryz.prog 32 20 [.vp 2 0] [(2,.var (jobP x g off s l1 nx y p0 0 []))] (fun r h'=>∃ob',h'= [(2,ob')]∧(r= .d (.int .i64 (rtake x.disk p0 x.geom).2.2))∧ob'= .var (jobP x g off s l1 nx y (rtake x.disk p0 x.geom).1 (rtake x.disk p0 x.geom).2.1 [])):=by
 refine bod Tryz.func32 Tryz.ntmps32 (fun base=>?_)
 have hdp:DP x.disk p0:=⟨h.disk,zee⟩
 have hh:=h.host
 refine' walkW fx (za zn <| za zD <| za zj <| za zx <| za zu <| za zN <| za zv <| za zk <| za zX <| za zp <| za zo <| zb _)
 all_goals first|exact ⟨_,rfl,rfl,rfl⟩|exact ⟨_,rfl,rfl⟩|omega
theorem zpu (x:Img) (g off:Int) (s:Txt) (l1 nx:Int) (y:Ent2) (q:Plan) (a:Int) (h:ImgF x):ACall Tryz.prog 33 20 [.vp 2 0] [(2,.var (jobP x g off s l1 nx y q a []))] (fun r h'=>∃ob',h'= [(2,ob')]∧(r= .d (.int .i64 (cread x.disk l1 g).2))∧ob'= .var (jobP x g off s l1 nx y q a (cread x.disk l1 g).1)):=by
 refine bod Tryz.func33 Tryz.ntmps33 (fun base=>?_)
 have hdf:=h.disk
 refine' walkW fx (za zn <| za zD <| za zj <| za zx <| za zu <| za zN <| za zv <| za zk <| za zX <| za zp <| za zo <| zb _)
 all_goals first|exact ⟨_,rfl,rfl,rfl⟩|exact ⟨_,rfl,rfl⟩|omega
theorem znX (x:Img) (g off:Int) (s:Txt) (l1 nx:Int) (y:Ent2) (q:Plan) (a:Int) (old:Txt) (h:ImgF x) (hq:pfit q=true):ACall Tryz.prog 35 20 [.vp 2 0] [(2,.var (jobP x g off s l1 nx y q a old))] (fun r h'=>∃ob',h'= [(2,ob')]∧(r= .d (.int .i64 (ppoint x.disk q x.geom g ⟨1,a⟩).2))∧ob'= .var (jobP x g off s l1 nx y (ppoint x.disk q x.geom g ⟨1,a⟩).1 a old)):=by
 refine bod Tryz.func35 Tryz.ntmps35 (fun base=>?_)
 have hdp:DP x.disk q:=⟨h.disk,hq⟩
 have hh:=h.host
 have hg:=h.guest
 refine' walkW fx (za zn <| za zD <| za zj <| za zx <| za zu <| za zN <| za zv <| za zk <| za zX <| za zp <| za zo <| zb _)
 all_goals first|exact ⟨_,rfl,rfl,rfl⟩|exact ⟨_,rfl,rfl⟩|omega
theorem zpv (x:Img) (g off:Int) (s:Txt) (l1 nx:Int) (y:Ent2) (q:Plan) (a:Int) (old:Txt) (h:ImgF x) (hq:pfit q=true):ACall Tryz.prog 36 20 [.vp 2 0] [(2,.var (jobP x g off s l1 nx y q a old))] (fun r h'=>∃ob',h'= [(2,ob')]∧(r= .d (.int .i64 (cdone x q).2))∧ob'= .var (jobP (cdone x q).1 g off s l1 nx y q a old)):=by
 refine bod Tryz.func36 Tryz.ntmps36 (fun base=>?_)
 have hdf:=h.disk
 have hok:=h.ok
 have hs0:=h.seq0
 have hs1:=h.seq1
 refine' walkW fx (za zn <| za zD <| za zj <| za zx <| za zu <| za zN <| za zv <| za zk <| za zX <| za zp <| za zo <| zb _)
 all_goals first|exact ⟨_,rfl,rfl,rfl⟩|exact ⟨_,rfl,rfl⟩|omega
theorem zgq (x:Img) (g off:Int) (s:Txt) (l1 nx:Int) (y:Ent2) (q:Plan) (a:Int) (old:Txt) (t:Int) (u:Txt) (h:DiskOk x.disk):ACall Tryz.prog 85 40 [.vp 2 0,.d (.int .i64 t),.d (.str u)] [(2,.var (jobP x g off s l1 nx y q a old))] (fun r h'=>∃ob',h'= [(2,ob')]∧(r= .d (.int .i64 (zI x.disk t u).2))∧ob'= .var (jobP (wdisk x (zI x.disk t u).1) g off s l1 nx y q a old)):=by
 refine bod Tryz.func85 Tryz.ntmps85 (fun base=>?_)
 refine' walkW fx (za zn <| za zD <| za zj <| za zx <| za zu <| za zN <| za zv <| za zk <| za zX <| za zp <| za zo <| zb _)
 all_goals first|exact ⟨_,rfl,rfl,rfl⟩|exact ⟨_,rfl,rfl⟩|omega
theorem zpw (x:Img) (g off:Int) (s:Txt) (l1 nx:Int) (y:Ent2) (q:Plan) (a:Int) (old:Txt) (h:ImgF x) (ha:zH a=true) (ho:old.length=128) (h0:0≤off) (h1:off+s.length≤128):ACall Tryz.prog 34 20 [.vp 2 0] [(2,.var (jobP x g off s l1 nx y q a old))] (fun r h'=>∃ob',h'= [(2,ob')]∧(r= .d (.int .i64 (layL x.disk (zaE a (overS old off s).1)).2))∧ob'= .var (jobP (wdisk x (layL x.disk (zaE a (overS old off s).1)).1) g off s l1 nx y q a old)):=by
 refine zV (fun i=>decide (i<20)) ?_
 refine bod Tryz.func34 Tryz.ntmps34 (fun base=>?_)
 have ha2:=hostOk_iff.1 ha
 have hbl:(overS old off s).1.length=128:=by rw [ziX h0 (by omega),ho]
 obtain ⟨b,hb⟩:∃b,b=(overS old off s).1:=⟨_,rfl⟩
 rw [← hb] at hbl ⊢
 obtain ⟨L,hL⟩:∃L,L=layL x.disk (zaE a b):=⟨_,rfl⟩
 rw [← hL]
 have hx:=h.disk
 refine' walkR hb.symm (za zn <| za zD <| za zj <| za zx <| za zu <| za zN <| za zv <| za zk <| za zX <| za zp <| za zo <| zb _)
 obtain ⟨I,hI⟩:∃I:List (List AV)→AHeap×Option (List (List AV)),I=fun xs=>([(38,.var [.d (.str b)]),(21,.var [.d (.int .i64 0)]),(20,.var [.vp 2 0]),(2,.var (jobP (wdisk x (layF x.disk ((zaE a b).take xs.length))) g off s l1 nx y q a old))],some []):=⟨_,rfl⟩
 obtain ⟨G,hG⟩:∃G:List (List AV)→Prop,G=fun xs=>L=layL (layF x.disk ((zaE a b).take xs.length)) ((zaE a b).drop xs.length):=⟨_,rfl⟩
 obtain ⟨J,hJ⟩:∃J:Code→AHeap→Option (List (List AV))→Prop,J=fun c h gg=>c= .ret∧gg=some []∧h= [(38,.var [.d (.str b)]),(21,.var [.d (.int .i64 L.2)]),(20,.var [.vp 2 0]),(2,.var (jobP (wdisk x L.1) g off s l1 nx y q a old))]:=⟨_,rfl⟩
 have hw64:IntKind.i64.wrap 64=64:=by decide
 have hw128:IntKind.i64.wrap 128=128:=by decide
 have hz0:Int.toNat 0=0:=rfl
 have h64:Int.toNat 64=64:=rfl
 have h128:Int.toNat 128=128:=rfl
 refine aw_le ⟨[(1,true,.vp 20 0),(2,true,.vp 21 0),(3,true,.vp 38 0),(28,true,.fn (.func 75) [] [.dp [.d (.int .i64 a)]])],[(38,.var [.d (.str b)]),(21,.var [.d (.int .i64 0)]),(20,.var [.vp 2 0]),(2,.var (jobP x g off s l1 nx y q a old))],some []⟩ le0 ?_
 have hwx:wdisk x x.disk=x:=rfl
 refine zbk 100 G I J (zen 100 a (by omega) (by omega)) (by simp only [go_sem,aeq,aeq.aeqF,simprocAttr]) rfl (zR rfl) (by simp [cxOf,cxY]) rfl (by rw [hG];first|trivial|rfl|simp) (by rw [hI];simp only [AS.le,leT,leH,zi,AsgK,AV.le,AV.leL,AObj.le,inH,idsT,idsH,AV.ids,AV.idsL,AV.idsR,AObj.ids,lk,hget,go_sem,aeq,aeq.aeqF,simprocAttr]<;>simp [AV.leL,AV.le]) (by rw [hI];simp only [AS.le,leT,leH,zi,AsgK,AV.le,AV.leL,AObj.le,inH,idsT,idsH,AV.ids,AV.idsL,AV.idsR,AObj.ids,lk,hget,go_sem,aeq,aeq.aeqF,simprocAttr]<;>simp) (by rw [hI]<;>rfl) (by intro x hx;obtain ⟨q,_,rfl⟩:=List.mem_map.1 hx;rfl) (by intro t ht;simp at ht;first|(rcases ht with rfl|rfl<;>simp [cxOf,cxY]<;>done)|(subst ht;simp [cxOf,cxY])) ?_ ?_ ?_
 ·intro xs x1 hpre hgd l1' r1
  obtain ⟨ys,qq,zs,hys,rfl,hzl⟩:=zdg hpre
  have hln:xs.length=ys.length:=by rw [hys];simp
  rw [hG] at hgd
  rcases ze4 hzl with ⟨rfl,rfl⟩|⟨rfl,rfl⟩
  ·have hx0:xs= []:=by simpa using hys
   subst hx0
   simp only [zaf]
   have hgd':L=if (zI x.disk (96+2*a) (b.take 64)).2≠0 then zI x.disk (96+2*a) (b.take 64) else layL (zI x.disk (96+2*a) (b.take 64)).1 ((zaE a b).drop 1):=hgd
   refine aw_le ⟨[(29,true,.d (.int .i64 (96+2*a))),(30,true,.d (.int .i64 0)),(1,true,.vp 20 0),(2,true,.vp 21 0),(3,true,.vp 38 0)],[(38,.var [.d (.str b)]),(21,.var [.d (.int .i64 0)]),(20,.var [.vp 2 0]),(2,.var (jobP x g off s l1 nx y q a old))],some []⟩ (by rw [hI];simp only [AS.le,leT,leH,zi,AsgK,AV.le,AV.leL,AObj.le,inH,idsT,idsH,AV.ids,AV.idsL,AV.idsR,AObj.ids,lk,hget,go_sem,aeq,aeq.aeqF,simprocAttr,wdisk]) ?_
   refine' zkv (ownsL [1000085]) (zaJ hw64 hz0 h64 hbl) (za zn <| za zD <| za zj <| za zx <| za zu <| za zN <| za zv <| za zk <| za zX <| za zp <| za zo <| zb _)
   refine ⟨2,40,.var (jobP x g off s l1 nx y q a old),_,_,rfl,by decide,zcB,by simp [AV.idsL,AV.ids],fix1 (zgq x g off s l1 nx y q a old (96+2*a) (b.take 64) hx.ok),?_⟩
   simp only [go_sem,aeq,aeq.aeqF,simprocAttr]
   refine' zkv (ownsL [1000085]) hI (za zn <| za zD <| za zj <| za zx <| za zu <| za zN <| za zv <| za zk <| za zX <| za zp <| za zo <| zb _)
   all_goals try rfl
   ·rw [hJ]
    rw [if_pos (bneP hc)] at hgd'
    exact ⟨rfl,rfl,by rw [hgd'];rfl⟩
   ·rw [hG]
    rw [if_neg (bneN hc)] at hgd'
    exact hgd'
  ·have hx0:xs= [zaf (96+2*a,0)]:=by simpa using hys
   subst hx0
   simp only [zaf]
   obtain ⟨d1,hd1⟩:∃d1,d1=(zI x.disk (96+2*a) (b.take 64)).1:=⟨_,rfl⟩
   have hd1F:DiskF d1:=by rw [hd1];exact hx.write _ _
   have hgd':L=if (zI d1 (96+2*a+1) ((b.take 128).drop 64)).2≠0 then zI d1 (96+2*a+1) ((b.take 128).drop 64) else ((zI d1 (96+2*a+1) ((b.take 128).drop 64)).1,0):=by rw [hd1];exact hgd
   refine aw_le ⟨[(29,true,.d (.int .i64 (96+2*a+1))),(30,true,.d (.int .i64 64)),(1,true,.vp 20 0),(2,true,.vp 21 0),(3,true,.vp 38 0)],[(38,.var [.d (.str b)]),(21,.var [.d (.int .i64 0)]),(20,.var [.vp 2 0]),(2,.var (jobP (wdisk x d1) g off s l1 nx y q a old))],some []⟩ (by rw [hI,hd1];simp only [AS.le,leT,leH,zi,AsgK,AV.le,AV.leL,AObj.le,inH,idsT,idsH,AV.ids,AV.idsL,AV.idsR,AObj.ids,lk,hget,go_sem,aeq,aeq.aeqF,simprocAttr,wdisk]<;>and_intros<;>rfl) ?_
   refine' zkv (ownsL [1000085]) (zcW hw64 hw128 h64 h128 hbl) (za zn <| za zD <| za zj <| za zx <| za zu <| za zN <| za zv <| za zk <| za zX <| za zp <| za zo <| zb _)
   refine ⟨2,40,.var (jobP (wdisk x d1) g off s l1 nx y q a old),_,_,rfl,by decide,zcB,by simp [AV.idsL,AV.ids],fix1 (zgq (wdisk x d1) g off s l1 nx y q a old (96+2*a+1) ((b.take 128).drop 64) hd1F.ok),?_⟩
   simp only [go_sem,aeq,aeq.aeqF,simprocAttr]
   refine' zkv (ownsL [1000085]) hI (za zn <| za zD <| za zj <| za zx <| za zu <| za zN <| za zv <| za zk <| za zX <| za zp <| za zo <| zb _)
   all_goals try (rw [hd1];rfl)
   ·rw [hJ]
    rw [if_pos (bneP hc)] at hgd'
    exact ⟨rfl,rfl,by rw [hgd'];rfl⟩
   ·rw [hG]
    rw [if_neg (bneN hc),hd1] at hgd'
    exact hgd'
 ·intro hgd
  rw [hG] at hgd
  have hgd':L=(layF x.disk (zaE a b),0):=hgd
  rw [hI]
  refine' walkR fx (za zn <| za zD <| za zj <| za zx <| za zu <| za zN <| za zv <| za zk <| za zX <| za zp <| za zo <| zb _)
  all_goals try rfl
  rw [hgd']
  exact ⟨_,rfl,rfl,rfl⟩
 ·rw [hJ]
  rintro c h3 g3 ⟨rfl,rfl,rfl⟩
  refine' walkR fx (za zn <| za zD <| za zj <| za zx <| za zu <| za zN <| za zv <| za zk <| za zX <| za zp <| za zo <| zb _)
  all_goals first|rfl|exact ⟨_,rfl,rfl,rfl⟩|exact ⟨_,rfl,rfl⟩
open Go Go.Proofs
def plF (d:Disk) (k off:Int) (s:Txt):Nat→Disk
 |0=>d
 |n+1=>(cput1 (plF d k off s n) k off s n).1
@[simp, go_sem] theorem plF_0 (d:Disk) (k off:Int) (s:Txt):plF d k off s 0=d:=rfl
theorem DiskF.plF {d:Disk} (h:DiskF d) (k off:Int) (s:Txt):∀n,DiskF (plF d k off s n)
 |0=>h
 |n+1=>(DiskF.plF h k off s n).cput1 k off s n
theorem zqX {k:Int} {ys zs:List (Int×Int)} {q:Int×Int} (h:sectI k=ys++q::zs):ys.length<2∧q=(96+2*k+(ys.length:Int),(ys.length:Int)*64):=by
 rcases ze4 h with ⟨rfl,rfl⟩|⟨rfl,rfl⟩
 ·refine ⟨by simp,?_⟩;simp
 ·refine ⟨by simp,?_⟩;simp
theorem zj9 (x:Img) (g off:Int) (s:Txt) (l1 nx:Int) (y:Ent2) (h:ImgF x) (ha:zH y.loc=true) (h0:0≤off) (h1:off+s.length≤128):ACall Tryz.prog 38 20 [.vp 2 0] [(2,.var (jobP x g off s l1 nx y p0 0 []))] (fun r h'=>∃ob',h'= [(2,ob')]∧(r= .d (.int .i64 (zdL x.disk y.loc off s).2))∧ob'= .var (jobP (wdisk x (zdL x.disk y.loc off s).1) g off s l1 nx y p0 0 [])):=by
 refine zV (fun i=>decide (i<20)) ?_
 refine bod Tryz.func38 Tryz.ntmps38 (fun base=>?_)
 have ha2:=hostOk_iff.1 ha
 have hx:=h.disk
 obtain ⟨L,hL⟩:∃L,L=zdL x.disk y.loc off s:=⟨_,rfl⟩
 rw [← hL]
 refine' walkR fx (za zn <| za zD <| za zj <| za zx <| za zu <| za zN <| za zv <| za zk <| za zX <| za zp <| za zo <| zb _)
 obtain ⟨I,hI⟩:∃I:List (List AV)→AHeap×Option (List (List AV)),I=fun xs=>([(21,.var [.d (.int .i64 0)]),(20,.var [.vp 2 0]),(2,.var (jobP (wdisk x (plF x.disk y.loc off s xs.length)) g off s l1 nx y p0 0 []))],some []):=⟨_,rfl⟩
 obtain ⟨G,hG⟩:∃G:List (List AV)→Prop,G=fun xs=>L=zdK y.loc off s (2 - xs.length) xs.length (plF x.disk y.loc off s xs.length):=⟨_,rfl⟩
 obtain ⟨J,hJ⟩:∃J:Code→AHeap→Option (List (List AV))→Prop,J=fun c h gg=>c= .ret∧gg=some []∧h= [(21,.var [.d (.int .i64 L.2)]),(20,.var [.vp 2 0]),(2,.var (jobP (wdisk x L.1) g off s l1 nx y p0 0 []))]:=⟨_,rfl⟩
 refine aw_le ⟨[(1,true,.vp 20 0),(2,true,.vp 21 0),(14,true,.fn (.func 75) [] [.dp [.d (.int .i64 y.loc)]])],[(21,.var [.d (.int .i64 0)]),(20,.var [.vp 2 0]),(2,.var (jobP x g off s l1 nx y p0 0 []))],some []⟩ le0 ?_
 refine zbk 100 G I J (zen 100 y.loc (by omega) (by omega)) (by simp only [go_sem,aeq,aeq.aeqF,simprocAttr]) rfl (zR rfl) (by simp [cxOf,cxY]) rfl (by rw [hG];first|trivial|rfl|simp) (by rw [hI];simp only [AS.le,leT,leH,zi,AsgK,AV.le,AV.leL,AObj.le,inH,idsT,idsH,AV.ids,AV.idsL,AV.idsR,AObj.ids,lk,hget,go_sem,aeq,aeq.aeqF,simprocAttr]<;>simp [AV.leL,AV.le]) (by rw [hI];simp only [AS.le,leT,leH,zi,AsgK,AV.le,AV.leL,AObj.le,inH,idsT,idsH,AV.ids,AV.idsL,AV.idsR,AObj.ids,lk,hget,go_sem,aeq,aeq.aeqF,simprocAttr]<;>simp) (by rw [hI]<;>rfl) (by intro x hx;obtain ⟨q,_,rfl⟩:=List.mem_map.1 hx;rfl) (by intro t ht;simp at ht;first|(rcases ht with rfl|rfl<;>simp [cxOf,cxY]<;>done)|(subst ht;simp [cxOf,cxY])) ?_ ?_ ?_
 ·intro xs x1 hpre hgd l1' r1
  obtain ⟨ys,qq,zs,hys,rfl,hzl⟩:=zdg hpre
  have hln:xs.length=ys.length:=by rw [hys];simp
  rw [hG] at hgd
  obtain ⟨hi2,rfl⟩:=zqX hzl
  rw [← hln] at hi2 ⊢
  obtain ⟨i,hi⟩:∃i,i=xs.length:=⟨_,rfl⟩
  have hsn:(xs++ [zaf (96+2*y.loc+(i:Int),(i:Int)*64)]).length=i+1:=by simp [hi]
  rw [← hi] at hgd hi2 ⊢
  obtain ⟨d,hd⟩:∃d,d=plF x.disk y.loc off s i:=⟨_,rfl⟩
  have hF:DiskF d:=by rw [hd];exact hx.plF _ _ _ _
  have hd1:=hF.ok
  have hd2:=hF.puts
  have hps:plF x.disk y.loc off s (i+1)=(cput1 d y.loc off s i).1:=by rw [plF,← hd]
  rw [← hd,show 2 - i=(2 - (i+1))+1 by omega,zdK] at hgd
  simp only [zaf] at hsn ⊢
  have hwi:=zE (i:=i) (by omega)
  have hw2:IntKind.i64.wrap ((i:Int)*64+64)=(i+1)*64:=by rw [zh (by omega) (by omega)];omega
  have hw3:IntKind.i64.wrap (off+(s.length:Int))=off+s.length:=zh (by omega) (by omega)
  obtain ⟨A,hA⟩:∃A,A=max off ((i:Int)*64):=⟨_,rfl⟩
  obtain ⟨B,hB⟩:∃B,B=min (off+(s.length:Int)) (((i:Int)+1)*64):=⟨_,rfl⟩
  have hA1:imax off ((i:Int)*64)=A:=by rw [hA];unfold imax;split<;>omega
  have hB1:imin (off+(s.length:Int)) (((i:Int)+1)*64)=B:=by rw [hB];unfold imin;split<;>omega
  have hc1:cput1 d y.loc off s i=if B≤A then (d,0) else if (dread d (96+2*y.loc+i)).2≠0 then (d,(dread d (96+2*y.loc+i)).2) else zI d (96+2*y.loc+i) (overS (dread d (96+2*y.loc+i)).1 (A - i*64) ((s.take (B - off).toNat).drop (A - off).toNat)).1:=by rw [cput1,cputT,← hA,← hB]
  have hl:=zcx (at_:=96+2*y.loc+i) hd2
  refine aw_le ⟨[(15,true,.d (.int .i64 (96+2*y.loc+i))),(16,true,.d (.int .i64 (i*64))),(1,true,.vp 20 0),(2,true,.vp 21 0)],[(21,.var [.d (.int .i64 0)]),(20,.var [.vp 2 0]),(2,.var (jobP (wdisk x d) g off s l1 nx y p0 0 []))],some []⟩ (by rw [hI];simp only [← hi,← hd];simp only [AS.le,leT,leH,zi,AsgK,AV.le,AV.leL,AObj.le,inH,idsT,idsH,AV.ids,AV.idsL,AV.idsR,AObj.ids,lk,hget,go_sem,aeq,aeq.aeqF,simprocAttr,wdisk]) ?_
  by_cases hab:B≤A
  ·have hb:decide (B≤A)=true:=decide_eq_true hab
   rw [if_pos hab] at hc1
   rw [hc1] at hgd hps
   refine' walkR (zaa hwi hw2 hw3 hA1 hB1 (zaJ hb hI hsn hps)) (za zn <| za zD <| za zj <| za zx <| za zu <| za zN <| za zv <| za zk <| za zX <| za zp <| za zo <| zb _)
   rw [hG]
   simp only [hsn,hps]
   rw [if_neg (by simp)] at hgd
   exact hgd
  ·have hb:decide (B≤A)=false:=decide_eq_false hab
   rw [if_neg hab] at hc1
   have hw5:IntKind.i64.wrap (A - off)=A - off:=zh (by omega) (by omega)
   have hw6:IntKind.i64.wrap (B - off)=B - off:=zh (by omega) (by omega)
   have hw7:IntKind.i64.wrap (A - (i:Int)*64)=A - i*64:=zh (by omega) (by omega)
   have hsl:((s.take (B - off).toNat).drop (A - off).toNat).length≤9223372036854775807:=by simp;omega
   obtain ⟨b,hbb⟩:∃b,b=(overS (dread d (96+2*y.loc+i)).1 (A - i*64) ((s.take (B - off).toNat).drop (A - off).toNat)).1:=⟨_,rfl⟩
   rw [← hbb] at hc1
   refine' zfd (zbj 9) (zaa hwi hw2 hw3 hw5 hw6 (zaa hw7 hA1 hB1 hb hbb.symm (zF hI hsn))) (za zn <| za zD <| za zj <| za zx <| za zu <| za zN <| za zv <| za zk <| za zX <| za zp <| za zo <| zb _)
   ·rw [hJ]
    rw [if_pos (bneP hc)] at hc1
    rw [hc1,if_pos (bneP hc)] at hgd
    exact ⟨rfl,rfl,by rw [hgd];rfl⟩
   rw [if_neg (bneN hc)] at hc1
   refine' zfd (zbj 10) (zaa hwi hw2 hw3 hw5 hw6 (zaa hw7 hA1 hB1 hb hbb.symm (zF hI hsn))) (za zn <| za zD <| za zj <| za zx <| za zu <| za zN <| za zv <| za zk <| za zX <| za zp <| za zo <| zb _)
   have hFn:=hF.write (96+2*y.loc+i) b
   refine' zdE fx
   refine (zdD (fix1 (zgq (wdisk x d) g off s l1 nx y p0 0 [] (96+2*y.loc+i) b hd1)) (by decide) rfl zcB (by simp [AV.idsL,AV.ids])).mono ?_
   rintro r h' ⟨rfl,rfl⟩
   simp only [go_sem,aeq,aeq.aeqF,simprocAttr]
   refine' zdE (zaJ hI hsn hps hc1)
   ·rw [hJ]
    rw [hc1,if_pos (bneP hc)] at hgd
    exact ⟨rfl,rfl,by rw [hgd];rfl⟩
   ·rw [hG]
    simp only [hsn,hps]
    rw [hc1,if_neg (bneN hc)] at hgd
    rw [hc1]
    exact hgd
 ·intro hgd
  rw [hG] at hgd
  have hgd':L=(plF x.disk y.loc off s 2,0):=hgd
  rw [hI]
  refine' walkR fx (za zn <| za zD <| za zj <| za zx <| za zu <| za zN <| za zv <| za zk <| za zX <| za zp <| za zo <| zb _)
  all_goals try rfl
  rw [hgd']
  exact ⟨_,rfl,rfl,rfl⟩
 ·rw [hJ]
  rintro c h3 g3 ⟨rfl,rfl,rfl⟩
  refine' walkR fx (za zn <| za zD <| za zj <| za zx <| za zu <| za zN <| za zv <| za zk <| za zX <| za zp <| za zo <| zb _)
  all_goals first|rfl|exact ⟨_,rfl,rfl,rfl⟩|exact ⟨_,rfl,rfl⟩
def jobV (j:JS) (g off:Int) (s:Txt) (l1 nx:Int) (y:Ent2):List AV:=jobP j.x g off s l1 nx y j.q j.loc j.old
attribute [go_sem] jobV
def jstep (l1 g off:Int) (s:Txt) (j:JS):Nat→JS
 |0=>⟨j.x,(rtake j.x.disk p0 j.x.geom).1,(rtake j.x.disk p0 j.x.geom).2.1,j.old,(rtake j.x.disk p0 j.x.geom).2.2⟩
 |1=>⟨j.x,j.q,j.loc,(cread j.x.disk l1 g).1,(cread j.x.disk l1 g).2⟩
 |2=>⟨wdisk j.x (layL j.x.disk (zaE j.loc (overS j.old off s).1)).1,j.q,j.loc,j.old,(layL j.x.disk (zaE j.loc (overS j.old off s).1)).2⟩
 |3=>⟨j.x,(ppoint j.x.disk j.q j.x.geom g ⟨1,j.loc⟩).1,j.loc,j.old,(ppoint j.x.disk j.q j.x.geom g ⟨1,j.loc⟩).2⟩
 |_=>⟨(cdone j.x j.q).1,j.q,j.loc,j.old,(cdone j.x j.q).2⟩
def jsAt (X:Img) (l1 g off:Int) (s:Txt):Nat→JS
 |0=>⟨X,p0,0,[],0⟩
 |k+1=>if (jsAt X l1 g off s k).e≠0 then jsAt X l1 g off s k else jstep l1 g off s (jsAt X l1 g off s k) k
theorem zrH (X:Img) (l1 g off:Int) (s:Txt):zb9 X l1 g off s=((jsAt X l1 g off s 5).x,(jsAt X l1 g off s 5).e):=by
 unfold zb9
 simp only [jsAt,jstep]
 repeat' split
 all_goals simp_all
theorem znY (X:Img) (g off:Int) (s:Txt):zdM X g off s=if (zcM X g).2≠0 then (X,(zcM X g).2) else zel X (zP X.disk p0).1.l1 (zcM X g).1 g off s:=by
 unfold zdM zcM
 by_cases h1:(zP X.disk p0).2=0
 ·simp only [h1,ne_eq,not_true_eq_false,if_false]
 ·simp only [h1,ne_eq,not_false_eq_true,if_true]
theorem zpx {d:Disk} {p:Plan} {k:Int} (h:(rget d p k).2≠0):(rget d p k).1=0:=by
 unfold rget at h ⊢
 split
 ·rfl
 rename_i h1
 rw [if_neg h1] at h
 split
 ·rfl
 rename_i h2
 rw [if_neg h2] at h
 exact absurd rfl h
theorem zl9 {X:Img} {g:Int} (h:(zcM X g).1.kind=1):zH (zcM X g).1.loc=true:=by
 unfold zcM at h ⊢
 split
 ·rename_i h1;rw [if_pos h1] at h;cases h
 ·rename_i h1;rw [if_neg h1] at h;exact zd5 h
theorem ImgF.dp {x:Img} (h:ImgF x):DP x.disk p0:=⟨h.disk,zee⟩
theorem zp1 {X:Img} {l1 g off:Int} {s:Txt} (hX:ImgF X) (h0:0≤off) (h1:off+s.length≤128):∀k,k≤4→ImgF (jsAt X l1 g off s k).x∧pfit (jsAt X l1 g off s k).q=true∧
  ((jsAt X l1 g off s k).e=0→(1≤k→zH (jsAt X l1 g off s k).loc=true)∧(k≤1→(jsAt X l1 g off s k).old= [])∧(2≤k→(jsAt X l1 g off s k).old.length=128)∧(k=0→(jsAt X l1 g off s k).q=p0∧(jsAt X l1 g off s k).loc=0))
 |0,_=>⟨hX,zee,fun _=>⟨fun h=>by omega,fun _=>rfl,fun h=>by omega,fun _=>⟨rfl,rfl⟩⟩⟩
 | k+1,hk=>by
  obtain ⟨i1,i2,i3⟩:=zp1 hX h0 h1 k (by omega)
  rw [jsAt]
  split
  ·rename_i he
   exact ⟨i1,i2,fun h=>absurd h he⟩
  ·rename_i he
   have he:(jsAt X l1 g off s k).e=0:=by omega
   obtain ⟨j1,j2,j3,j4⟩:=i3 he
   match k,hk,i1,i2,j1,j2,j3,j4 with
   |0,_,i1,i2,j1,j2,j3,j4=>
    exact ⟨i1,(i1.dp.rtake _).p,fun h=>⟨fun _=>zhe h,fun _=>j2 (by omega),fun h=>by omega,fun h=>by omega⟩⟩
   |1,_,i1,i2,j1,j2,j3,j4=>
    exact ⟨i1,i2,fun h=>⟨fun _=>j1 (by omega),fun h=>by omega,fun _=>zgi i1.disk.puts h,fun h=>by omega⟩⟩
   |2,_,i1,i2,j1,j2,j3,j4=>
    exact ⟨i1.wd (DiskF.layL _ i1.disk),i2,fun h=>⟨fun _=>j1 (by omega),fun h=>by omega,fun _=>j3 (by omega),fun h=>by omega⟩⟩
   |3,_,i1,i2,j1,j2,j3,j4=>
    exact ⟨i1,(DP.ppoint ⟨i1.disk,i2⟩ _ _ _).p,fun h=>⟨fun _=>j1 (by omega),fun h=>by omega,fun _=>j3 (by omega),fun h=>by omega⟩⟩
def jrow (f:FuncId):List AV:= [.fn (.func f) [.vp 2 0] []]
def zp2:List (List AV):= [jrow 32,jrow 33,jrow 34,jrow 35,jrow 36]
attribute [go_sem] jrow zp2
set_option maxHeartbeats 1600000 in
theorem zka (x:Img) (guest off:Int) (s:Txt) (hp:ImgF x∧x.maps.length≤5000∧s.length≤9223372036854775807):AC 10 [imgA x,.d (.int .i64 guest),.d (.int .i64 off),.d (.str s)] (.tup [imgA (za2 x guest off s).1,.d (.int .i64 (za2 x guest off s).2)]):=by
 obtain ⟨h,hm,hs⟩:=hp
 refine fbod Tryz.func10 Tryz.ntmps10 (fun base=>?_)
 have hi:=h.ok
 obtain ⟨Z,hZ⟩:∃Z,Z=za2 x guest off s:=⟨_,rfl⟩
 rw [← hZ]
 refine' zio (zbj 3) fx (za zbC <| zb _)
 ·rw [hZ,za2,if_pos hc]
 have hbr2:=hc
 have hbr:¬x.broken=true:=by rw [hbr2];exact fun h=>by cases h
 by_cases hrg:guest<0∨x.geom.guest≤guest∨off<0∨128 - (s.length:Int)<off
 ·have hw0:IntKind.i64.wrap (128 - (s.length:Int))=128 - s.length:=zh (by omega) (by omega)
  have hdec:(decide (guest<0)||decide (x.geom.guest≤guest)||decide (off<0)||decide (128 - (s.length:Int)<off))=true:=by
   simp only [Bool.or_eq_true,decide_eq_true_eq];omega
  refine' walkW (zF hw0 hdec) (za zbC <| zb _)
  rw [hZ,za2,if_neg hbr,if_pos hrg]
 have hw0:IntKind.i64.wrap (128 - (s.length:Int))=128 - s.length:=zh (by omega) (by omega)
 have hdec:(decide (guest<0)||decide (x.geom.guest≤guest)||decide (off<0)||decide (128 - (s.length:Int)<off))=false:=by
  simp only [Bool.or_eq_false_iff,decide_eq_false_iff_not];omega
 by_cases hs0:s= []
 ·have hse:(s== [])=true:=by rw [hs0];rfl
  refine' walkW (zG hw0 hdec hse) (za zbC <| zb _)
  rw [hZ,za2,if_neg hbr,if_neg hrg,if_pos hs0]
 have hse:(s== [])=false:=by simpa using hs0
 refine' zio (zbj 8) (zG hw0 hdec hse) (za zbC <| zb _)
 rw [za2,if_neg hbr,if_neg hrg,if_neg hs0] at hZ
 have hX:=h.mark guest
 revert hX hZ
 generalize cmark x guest=X
 intro hZ hX
 refine aw_le ⟨[(4,true,.vp 0 0),(8,true,.vp 1 0),(10,true,.vp 2 0)],[(2,.var (jobP X guest off s 0 0 ⟨0,0⟩ p0 0 [])),(1,.var img0),(0,.var (imgV x))],some []⟩ le1 ?_
 rw [znY] at hZ
 have hk1:(zcM X guest).1.kind=1→zH (zcM X guest).1.loc=true:=zl9
 obtain ⟨r,hr⟩:∃r,r=zP X.disk p0:=⟨_,rfl⟩
 obtain ⟨y,hy⟩:∃y,y=zcM X guest:=⟨_,rfl⟩
 refine' zc fx
 refine (zdD (fix1 (zps X guest off s hX)) (by decide) rfl zcB (by simp [AV.idsL,AV.ids])).mono ?_
 rintro r1 h' ⟨rfl,rfl⟩
 rw [← hr,← hy]
 simp only [go_sem,aeq,aeq.aeqF,simprocAttr]
 rw [← hr,← hy] at hZ
 rw [← hy] at hk1
 refine' zeV (zbj 12) fx
 ·rw [hZ,if_pos (bneP hc)]
 rw [if_neg (bneN hc)] at hZ
 refine' zc fx
 refine (zdD (fix1 (znW X guest off s r.1.l1 r.1.next y.1 hX)) (by decide) rfl zcB (by simp [AV.idsL,AV.ids])).mono ?_
 rintro r1 h' ⟨rfl,rfl⟩
 simp only [go_sem,aeq,aeq.aeqF,simprocAttr]
 obtain ⟨n,hn⟩:∃n,n=rget X.disk p0 y.1.loc:=⟨_,rfl⟩
 have hn0:n.2≠0→n.1=0:=by rw [hn];exact zpx
 rw [← hn]
 obtain ⟨b,hb⟩:∃b,b=if y.1.kind=1 then decide (n.1≤1) else false:=⟨_,rfl⟩
 obtain ⟨e,he⟩:∃e,e=if y.1.kind=1 then n.2 else 0:=⟨_,rfl⟩
 rw [← hb,← he]
 rw [zel,← hn] at hZ
 cases b with
 | true=>
  obtain ⟨hk,hn1⟩:y.1.kind=1∧n.1≤1:=by
   by_cases hk:y.1.kind=1
   ·rw [if_pos hk] at hb;exact ⟨hk,of_decide_eq_true hb.symm⟩
   ·rw [if_neg hk] at hb;cases hb
  rw [if_pos hk] at hZ he
  have hho:=hk1 hk
  refine' zc fx
  obtain ⟨S,hS⟩:∃S:Nat→Img×Int,S=fun k=>if k=0 then (X,e) else Z:=⟨_,rfl⟩
  have hS0:S 0=(X,e):=by rw [hS];rfl
  have hS1:S 1=Z:=by rw [hS];rfl
  refine zy (fun q: { k:Nat // k≤1 } =>⟨[(4,true,.vp 0 0),(8,true,.vp 1 0),(10,true,.vp 2 0),(14,true,.d (.int .i64 (S q.1).2)),(84,true,.asl 1 [jrow 38]),(85,true,.d (.int .i64 1)),(86,true,.d (.int .i64 q.1))],[(2,.var (jobP (S q.1).1 guest off s r.1.l1 r.1.next y.1 p0 0 [])),(1,.var img0),(0,.var (imgV x))],some []⟩) (fun q=>1 - q.1) ⟨0,Nat.zero_le _⟩ (by simp only [hS0];simp only [AS.le,leT,leH,zi,AsgK,AV.le,AV.leL,AObj.le,inH,idsT,idsH,AV.ids,AV.idsL,AV.idsR,AObj.ids,lk,hget,go_sem,aeq,aeq.aeqF,simprocAttr]<;>and_intros<;>rfl) (fun q=>?_)
  obtain ⟨k,hkk⟩:=q
  simp only
  have hc0:((0:Nat):Int)=0:=rfl
  have hc1:((1:Nat):Int)=1:=rfl
  have hw1:IntKind.i64.wrap 1=1:=by decide
  have h2:k=0∨k=1:=by omega
  rcases h2 with rfl|rfl
  ·simp only [hS0]
   by_cases hez:e=0
   ·have heb:(e==0)=true:=beq_iff_eq.2 hez
    rw [if_neg (by omega),if_pos hn1] at hZ
    refine' zc (zG hc0 hw1 heb)
    refine (zdD (fix1 (zj9 X guest off s r.1.l1 r.1.next y.1 hX hho (by omega) (by omega))) (by decide) rfl zcB (by simp [AV.idsL,AV.ids])).mono ?_
    rintro r1 h' ⟨rfl,rfl⟩
    simp only [go_sem,aeq,aeq.aeqF,simprocAttr]
    refine' zc (zG hc0 hw1 heb)
    exact ⟨⟨1,by omega⟩,by simp only [hS1,hZ];simp only [AS.le,leT,leH,zi,AsgK,AV.le,AV.leL,AObj.le,inH,idsT,idsH,AV.ids,AV.idsL,AV.idsR,AObj.ids,lk,hget,go_sem,aeq,aeq.aeqF,simprocAttr,hw1]<;>and_intros<;>rfl,by simp⟩
   ·have heb:(e==0)=false:=beq_eq_false_iff_ne.2 hez
    rw [if_pos (by omega)] at hZ
    refine' zc (zG hc0 hw1 heb)
    exact ⟨⟨1,by omega⟩,by simp only [hS1,hZ,he];simp only [AS.le,leT,leH,zi,AsgK,AV.le,AV.leL,AObj.le,inH,idsT,idsH,AV.ids,AV.idsL,AV.idsR,AObj.ids,lk,hget,go_sem,aeq,aeq.aeqF,simprocAttr,hw1]<;>and_intros<;>rfl,by simp⟩
  ·simp only [hS1]
   refine' zc hc1
 | false=>
  have hn2:y.1.kind=1→¬n.2≠0∧¬n.1≤1:=fun hk=>by
   rw [if_pos hk] at hb
   have:=of_decide_eq_false hb.symm
   exact ⟨fun h=>this (by rw [hn0 h];decide),this⟩
  have hZ4:Z=zb9 X r.1.l1 guest off s:=by
   by_cases hk:y.1.kind=1
   ·rw [if_pos hk,if_neg (hn2 hk).1,if_neg (hn2 hk).2] at hZ;exact hZ
   ·rw [if_neg hk] at hZ;exact hZ
  have he0:e=0:=by
   by_cases hk:y.1.kind=1
   ·rw [if_pos hk] at he;have:=(hn2 hk).1;omega
   ·rw [if_neg hk] at he;exact he
  rw [he0]
  clear hZ he he0 hb hn2
  refine' zc fx
  rw [zrH] at hZ4
  have hinv:=zp1 (X:=X) (l1:=r.1.l1) (g:=guest) (off:=off) (s:=s) hX (by omega) (by omega)
  obtain ⟨S,hS⟩:∃S:Nat→JS,S=jsAt X r.1.l1 guest off s:=⟨_,rfl⟩
  have hSs:∀k,S (k+1)=if (S k).e≠0 then S k else jstep r.1.l1 guest off s (S k) k:=fun k=>by rw [hS,jsAt]
  have hS0:S 0=⟨X,p0,0,[],0⟩:=by rw [hS];rfl
  rw [← hS] at hZ4 hinv
  clear hS
  refine zy (fun q: { k:Nat // k≤5 } =>⟨[(4,true,.vp 0 0),(8,true,.vp 1 0),(10,true,.vp 2 0),(14,true,.d (.int .i64 (S q.1).e)),(84,true,.asl 1 zp2),(85,true,.d (.int .i64 5)),(86,true,.d (.int .i64 q.1))],[(2,.var (jobV (S q.1) guest off s r.1.l1 r.1.next y.1)),(1,.var img0),(0,.var (imgV x))],some []⟩) (fun q=>5 - q.1) ⟨0,Nat.zero_le _⟩ (by simp only [hS0];simp only [AS.le,leT,leH,zi,AsgK,AV.le,AV.leL,AObj.le,inH,idsT,idsH,AV.ids,AV.idsL,AV.idsR,AObj.ids,lk,hget,go_sem,aeq,aeq.aeqF,simprocAttr]<;>and_intros<;>rfl) (fun q=>?_)
  obtain ⟨k,hkk⟩:=q
  simp only
  have hw:∀m:Nat,m<10→IntKind.i64.wrap ((m:Int)+1)=((m+1:Nat):Int):=fun m hm=>zE (by omega)
  have hwk:=hw k (by omega)
  rcases Nat.lt_or_ge k 5 with hlt|hge
  ·have hcmp:decide ((k:Int)<5)=true:=decide_eq_true (by omega)
   have hSk:=hSs k
   obtain ⟨i1,i2,i3⟩:=hinv k (by omega)
   obtain ⟨j,hj⟩:∃j,j=S k:=⟨_,rfl⟩
   obtain ⟨jn,hjn⟩:∃jn,jn=S (k+1):=⟨_,rfl⟩
   rw [← hj] at hSk i1 i2 i3 ⊢
   rw [← hjn] at hSk
   have h5:k=0∨k=1∨k=2∨k=3∨k=4:=by omega
   obtain ⟨jx,jq,jl,jo,je⟩:=j
   simp only at i1 i2 i3
   by_cases hez:je=0
   ·obtain ⟨j1,j2,j3,j4⟩:=i3 hez
    rw [if_neg (show ¬je≠0 by omega)] at hSk
    have heb:(je==0)=true:=beq_iff_eq.2 hez
    rcases h5 with rfl|rfl|rfl|rfl|rfl
    ·obtain ⟨rfl,rfl⟩:=j4 rfl
     obtain rfl:=j2 (by omega)
     refine' zc (zG hcmp heb natC)
     refine (zdD (fix1 (zpt jx guest off s r.1.l1 r.1.next y.1 i1)) (by decide) rfl zcB (by simp [AV.idsL,AV.ids])).mono ?_
     rintro r1 h' ⟨rfl,rfl⟩
     simp only [go_sem,aeq,aeq.aeqF,simprocAttr]
     refine' zc fx
     exact ⟨⟨1,by omega⟩,by simp only [← hjn,hSk,jstep];simp only [AS.le,leT,leH,zi,AsgK,AV.le,AV.leL,AObj.le,inH,idsT,idsH,AV.ids,AV.idsL,AV.idsR,AObj.ids,lk,hget,go_sem,aeq,aeq.aeqF,simprocAttr,hwk]<;>and_intros<;>rfl,by simp⟩
    ·obtain rfl:=j2 (by omega)
     refine' zc (zG hcmp heb natC)
     refine (zdD (fix1 (zpu jx guest off s r.1.l1 r.1.next y.1 jq jl i1)) (by decide) rfl zcB (by simp [AV.idsL,AV.ids])).mono ?_
     rintro r1 h' ⟨rfl,rfl⟩
     simp only [go_sem,aeq,aeq.aeqF,simprocAttr]
     refine' zc fx
     exact ⟨⟨2,by omega⟩,by simp only [← hjn,hSk,jstep];simp only [AS.le,leT,leH,zi,AsgK,AV.le,AV.leL,AObj.le,inH,idsT,idsH,AV.ids,AV.idsL,AV.idsR,AObj.ids,lk,hget,go_sem,aeq,aeq.aeqF,simprocAttr,hwk]<;>and_intros<;>rfl,by simp⟩
    ·refine' zc (zG hcmp heb natC)
     refine (zdD (fix1 (zpw jx guest off s r.1.l1 r.1.next y.1 jq jl jo i1 (j1 (by omega)) (j3 (by omega)) (by omega) (by omega))) (by decide) rfl zcB (by simp [AV.idsL,AV.ids])).mono ?_
     rintro r1 h' ⟨rfl,rfl⟩
     simp only [go_sem,aeq,aeq.aeqF,simprocAttr]
     refine' zc fx
     exact ⟨⟨3,by omega⟩,by simp only [← hjn,hSk,jstep];simp only [AS.le,leT,leH,zi,AsgK,AV.le,AV.leL,AObj.le,inH,idsT,idsH,AV.ids,AV.idsL,AV.idsR,AObj.ids,lk,hget,go_sem,aeq,aeq.aeqF,simprocAttr,hwk]<;>and_intros<;>rfl,by simp⟩
    ·refine' zc (zG hcmp heb natC)
     refine (zdD (fix1 (znX jx guest off s r.1.l1 r.1.next y.1 jq jl jo i1 i2)) (by decide) rfl zcB (by simp [AV.idsL,AV.ids])).mono ?_
     rintro r1 h' ⟨rfl,rfl⟩
     simp only [go_sem,aeq,aeq.aeqF,simprocAttr]
     refine' zc fx
     exact ⟨⟨4,by omega⟩,by simp only [← hjn,hSk,jstep];simp only [AS.le,leT,leH,zi,AsgK,AV.le,AV.leL,AObj.le,inH,idsT,idsH,AV.ids,AV.idsL,AV.idsR,AObj.ids,lk,hget,go_sem,aeq,aeq.aeqF,simprocAttr,hwk]<;>and_intros<;>rfl,by simp⟩
    ·refine' zc (zG hcmp heb natC)
     refine (zdD (fix1 (zpv jx guest off s r.1.l1 r.1.next y.1 jq jl jo i1 i2)) (by decide) rfl zcB (by simp [AV.idsL,AV.ids])).mono ?_
     rintro r1 h' ⟨rfl,rfl⟩
     simp only [go_sem,aeq,aeq.aeqF,simprocAttr]
     refine' zc fx
     exact ⟨⟨5,by omega⟩,by simp only [← hjn,hSk,jstep];simp only [AS.le,leT,leH,zi,AsgK,AV.le,AV.leL,AObj.le,inH,idsT,idsH,AV.ids,AV.idsL,AV.idsR,AObj.ids,lk,hget,go_sem,aeq,aeq.aeqF,simprocAttr,hwk]<;>and_intros<;>rfl,by simp⟩
   ·have heb:(je==0)=false:=beq_eq_false_iff_ne.2 hez
    rw [if_pos hez] at hSk
    rcases h5 with rfl|rfl|rfl|rfl|rfl
    all_goals refine' zc (zG hcmp heb natC)
    ·exact ⟨⟨1,by omega⟩,by simp only [← hjn,hSk];simp only [AS.le,leT,leH,zi,AsgK,AV.le,AV.leL,AObj.le,inH,idsT,idsH,AV.ids,AV.idsL,AV.idsR,AObj.ids,lk,hget,go_sem,aeq,aeq.aeqF,simprocAttr,hwk]<;>and_intros<;>rfl,by simp⟩
    ·exact ⟨⟨2,by omega⟩,by simp only [← hjn,hSk];simp only [AS.le,leT,leH,zi,AsgK,AV.le,AV.leL,AObj.le,inH,idsT,idsH,AV.ids,AV.idsL,AV.idsR,AObj.ids,lk,hget,go_sem,aeq,aeq.aeqF,simprocAttr,hwk]<;>and_intros<;>rfl,by simp⟩
    ·exact ⟨⟨3,by omega⟩,by simp only [← hjn,hSk];simp only [AS.le,leT,leH,zi,AsgK,AV.le,AV.leL,AObj.le,inH,idsT,idsH,AV.ids,AV.idsL,AV.idsR,AObj.ids,lk,hget,go_sem,aeq,aeq.aeqF,simprocAttr,hwk]<;>and_intros<;>rfl,by simp⟩
    ·exact ⟨⟨4,by omega⟩,by simp only [← hjn,hSk];simp only [AS.le,leT,leH,zi,AsgK,AV.le,AV.leL,AObj.le,inH,idsT,idsH,AV.ids,AV.idsL,AV.idsR,AObj.ids,lk,hget,go_sem,aeq,aeq.aeqF,simprocAttr,hwk]<;>and_intros<;>rfl,by simp⟩
    ·exact ⟨⟨5,by omega⟩,by simp only [← hjn,hSk];simp only [AS.le,leT,leH,zi,AsgK,AV.le,AV.leL,AObj.le,inH,idsT,idsH,AV.ids,AV.idsL,AV.idsR,AObj.ids,lk,hget,go_sem,aeq,aeq.aeqF,simprocAttr,hwk]<;>and_intros<;>rfl,by simp⟩
  ·have hcmp:decide ((k:Int)<5)=false:=decide_eq_false (by omega)
   obtain rfl:k=5:=by omega
   refine' zc hcmp
   all_goals rw [hZ4]
@[go_sem] noncomputable def zdo:Ent Tryz.prog 10:= .m4 zdv (intT .i64) (intT .i64) strT zka
open Go Go.Proofs
theorem DiskF.commit {d:Disk} (h:DiskF d) (j:Jour) (p:Plan):DiskF (jcommit d j p).1:=by
 have h1:=h.flush
 have h2:∀l,DiskF (Aw.layL (Aw.dflush d).1 l).1:=fun l=>DiskF.layL l h1
 have h3:∀l,DiskF (Aw.dflush (Aw.layL (Aw.dflush d).1 l).1).1:=fun l=>(h2 l).flush
 have h4:∀l,DiskF (Aw.play (Aw.dflush (Aw.layL (Aw.dflush d).1 l).1).1 p).1:=fun l=>(h3 l).play p
 unfold Aw.jcommit Aw.jtail
 repeat' split
 all_goals first|exact h|exact h1|exact h2 _|exact h3 _|exact h4 _
theorem zkb {d:Disk} {j:Jour} {p:Plan} (h0:0≤j.seq) (h1:j.seq≤4611686018427387904):0≤(jcommit d j p).2.1.seq∧(jcommit d j p).2.1.seq≤4611686018427387904:=by
 unfold jcommit jtail
 repeat' split
 all_goals first|exact ⟨h0,h1⟩|(constructor<;>simp only<;>omega)
theorem ImgF.done {x:Img} (h:ImgF x) (p:Plan):ImgF (cdone x p).1:=by
 have hd:=h.disk.commit x.jour p
 have hs:=zkb (d:=x.disk) (p:=p) h.seq0 h.seq1
 unfold cdone
 split
 ·exact ⟨⟨hd.ok,h.ok.maps,h.ok.names,h.ok.bits⟩,hd,h.guest,h.host,h.seq0,h.seq1,h.maps⟩
 ·exact ⟨⟨hd.ok,h.ok.maps,h.ok.names,h.ok.bits⟩,hd,h.guest,h.host,hs.1,hs.2,h.maps⟩
theorem DiskF.place {d:Disk} (h:DiskF d) (k off:Int) (s:Txt):DiskF (zdL d k off s).1:=by
 have:∀m i d,DiskF d→DiskF (zdK k off s m i d).1:=by
  intro m
  induction m with
  |zero=>intro i d h;exact h
  |succ m ih=>
   intro i d h
   rw [zdK]
   split
   ·exact h.cput1 _ _ _ _
   ·exact ih _ _ (h.cput1 _ _ _ _)
 exact this _ _ _ h
theorem ImgF.write4 {x:Img} (h:ImgF x) (l1 g off:Int) (s:Txt):ImgF (zb9 x l1 g off s).1:=by
 unfold zb9
 repeat' split
 ·exact h
 ·exact h
 ·exact h.wd (DiskF.layL _ h.disk)
 ·exact h.wd (DiskF.layL _ h.disk)
 ·exact (h.wd (DiskF.layL _ h.disk)).done _
theorem ImgF.write {x:Img} (h:ImgF x) (g off:Int) (s:Txt):ImgF (za2 x g off s).1:=by
 have hm:=h.mark g
 unfold za2
 split
 ·exact h
 split
 ·exact h
 split
 ·exact h
 unfold zdM
 split
 ·exact hm
 split
 ·exact hm
 unfold zel
 split
 ·split
  ·exact hm
  split
  ·exact hm.wd (hm.disk.place _ _ _)
  ·exact hm.write4 _ _ _ _
 ·exact hm.write4 _ _ _ _
def cimage:Img:=⟨(play (dnew 112).1 (radd (dnew 112).1 (zdI p0 ⟨0,1⟩).1 0 1).1).1,⟨20,8⟩,⟨1,0⟩,[],false⟩
def awX1:Img×Int:=za2 cimage 2 3 [97,98]
def awA:Txt×Int:=cread awX1.1.disk 0 2
def awX2:Img×Int:=za2 awX1.1 2 5 [99]
def awB:Txt×Int:=cread awX2.1.disk 0 2
theorem znZ:ImgF cimage:=by
 have h:DiskF (dnew 112).1:=⟨by constructor<;>simp [dnew],rfl⟩
 have hp:=h.play (radd (dnew 112).1 (zdI p0 ⟨0,1⟩).1 0 1).1
 exact ⟨⟨hp.ok,by decide,(fun m hm=>by cases hm),(fun m hm=>by cases hm)⟩,hp,by decide,by decide,by decide,by decide,by decide⟩
theorem zqY:(awX1.2==0&&awA.2==0&&awX2.2==0&&awB.2==0&&(awA.1.length:Int)==128&&awA.1.take 6== [0,0,0,97,98,0]&&(awB.1.length:Int)==128&&(awB.1.take 7).drop 3== [97,98,99,0]&&(awX2.1.jour.seq==awX1.1.jour.seq&&awX2.1.jour.pos==awX1.1.jour.pos))=true:=by
 decide+kernel
open Go Go.Proofs
def cgood (x:Img):Bool:=decide ((x.disk.cache.length:Int)≤300)&&decide ((x.maps.length:Int)≤2)&&ifit x
theorem zqZ {x:Img} (h:ImgOk x) (hg:cgood x=true):ImgF x:=by
 unfold cgood ifit at hg
 simp only [Bool.and_eq_true,decide_eq_true_eq] at hg
 obtain ⟨⟨g1,g2⟩,⟨⟨⟨⟨g3,g4⟩,g5⟩,g6⟩,g7⟩,g8⟩:=hg
 rw [geo_iff] at g3
 unfold dfit at g4
 simp only [Bool.and_eq_true] at g4
 unfold jfit at g6
 simp only [Bool.and_eq_true,decide_eq_true_eq] at g6
 exact ⟨h,⟨h.disk,g4.1.2⟩,by omega,by omega,by omega,by omega,by omega⟩
theorem zpy (x:Img) (h:ImgOk x):AC 5 [imgA x] (.d (.bool (cgood x))):=by
 refine fbod Tryz.func5 Tryz.ntmps5 (fun base=>?_)
 refine' walkW fx (za zjR <| zb _)
 all_goals first|rfl|skip
@[go_sem] noncomputable def zhg:Ent Tryz.prog 5:= .m1 zdv zpy
theorem zq0:ACall Tryz.prog 24 0 [] [] (fun r _=>r=imgA cimage):=by
 have hd:DiskF (dnew 112).1:=⟨by constructor<;>simp [dnew],rfl⟩
 have hp1:pfit (zdI p0 ⟨0,1⟩).1=true:=by decide+kernel
 obtain ⟨N,hN⟩:∃N,N=dnew 112:=⟨_,rfl⟩
 obtain ⟨Q,hQ⟩:∃Q,Q=zdI p0 ⟨0,1⟩:=⟨_,rfl⟩
 rw [← hN] at hd
 rw [← hQ] at hp1
 obtain ⟨c,hc⟩:∃c,c=cimage:=⟨_,rfl⟩
 rw [← hc]
 unfold cimage at hc
 rw [← hN,← hQ] at hc
 have hdp:DP N.1 Q.1:=⟨hd,hp1⟩
 have hp2:pfit (radd N.1 Q.1 0 1).1=true:=zkL hp1
 have hpo:=PlanOk.of hp2
 have hpl:=(zaq hp2).1
 have hdo:=hd.ok
 refine fbod Tryz.func24 Tryz.ntmps24 (fun base=>?_)
 refine' walkW (zF hN.symm hQ.symm) (za zlk <| za zjK <| za zba <| za zbQ <| zb _)
 ·exact zee
 ·rw [hc]
  rfl
@[go_sem] noncomputable def zn0:Ent Tryz.prog 24:= .ofL nilL (fun _=>True) (fun _=>imgA cimage) (fun _ hp=>⟨rfl,zq0⟩)
theorem zn1:ACall Tryz.prog 7 0 [] [] (fun r _=>r= .d (.bool true)):=by
 have hC:=znZ
 have hm0:cimage.maps.length≤5000:=by decide
 have hm1:(za2 cimage 2 3 [97,98]).1.maps.length≤5000:=by decide+kernel
 have hfin:=zqY
 unfold awA awB awX2 awX1 at hfin
 obtain ⟨C,hCe⟩:∃C,C=cimage:=⟨_,rfl⟩
 rw [← hCe] at hC hm0 hm1 hfin
 have h1:ImgF (za2 C 2 3 [97,98]).1:=hC.write _ _ _
 obtain ⟨X1,hX1⟩:∃X1,X1=za2 C 2 3 [97,98]:=⟨_,rfl⟩
 rw [← hX1] at h1 hm1 hfin
 have h2:ImgF (za2 X1.1 2 5 [99]).1:=h1.write _ _ _
 obtain ⟨X2,hX2⟩:∃X2,X2=za2 X1.1 2 5 [99]:=⟨_,rfl⟩
 rw [← hX2] at h2 hfin
 have d1:=h1.disk
 have d2:=h2.disk
 have hf2:=hfin
 simp only [Bool.and_eq_true,beq_iff_eq] at hf2
 have hl1:((cread X1.1.disk 0 2).1.length:Int)=128:=hf2.1.1.1.1.2
 have hl2:((cread X2.1.disk 0 2).1.length:Int)=128:=hf2.1.1.2
 clear hf2
 refine fbod Tryz.func7 Tryz.ntmps7 (fun base=>?_)
 refine' walkW (zG hCe.symm hX1.symm hX2.symm) (za zn0 <| za zdo <| za zu <| zb _)
 rw [hfin]
@[go_sem] noncomputable def zgr:Ent Tryz.prog 7:= .ofL nilL (fun _=>True) (fun _=> .d (.bool true)) (fun _ hp=>⟨rfl,zn1⟩)
set_option maxHeartbeats 800000 in
theorem zkc (x:Img) (l1 guest off:Int) (s:Txt) (p:Plan) (h:ImgOk x) (hs:s.length≤9223372036854775807) (hp:PlanOk p):ACall Tryz.prog 3 0 [imgA x,.d (.int .i64 l1),.d (.int .i64 guest),.d (.int .i64 off),.d (.str s),planA p] [] (fun r _=>r= .d (.bool true)):=by
 refine fbod Tryz.func3 Tryz.ntmps3 (fun base=>?_)
 by_cases hg:(!cgood x|| !pfit p)=true
 ·refine' walkW hg (za zhg <| za zbu <| za zgr <| za zu <| za zT <| za zdo <| za zeG <| za zv <| za zU <| za zfn <| za zbC <| za zS <| zb _)
 have hg:(!cgood x|| !pfit p)=false:=by simpa using hg
 obtain ⟨g1,g2⟩:cgood x=true∧pfit p=true:=by
  simp only [Bool.or_eq_false_iff,Bool.not_eq_false'] at hg;exact hg
 have hF:=zqZ h g1
 have hd:=hF.disk
 have hm:x.maps.length≤5000:=by
  unfold cgood at g1
  simp only [Bool.and_eq_true,decide_eq_true_eq] at g1
  omega
 have h0:=hF.seq0
 have h1:=hF.seq1
 have hw:=hF.write guest off s
 have hwo:=hw.ok
 have hdn:=hF.done p
 have hdo:=hdn.ok
 have hmk:=zkR h guest
 refine' walkW hg (za zhg <| za zbu <| za zgr <| za zu <| za zT <| za zdo <| za zeG <| za zv <| za zU <| za zfn <| za zbC <| za zS <| zb _)
open Go Go.Proofs Go.RowKit Go.ChangeShapes Go.WideShapes
structure ImgW (x:Img):Prop where
 ok:ImgOk x
 seq0:0≤x.jour.seq
 seq1:x.jour.seq≤18446744073709551615
 guest0: -9223372036854775808≤x.geom.guest
 guest1:x.geom.guest≤9223372036854775807
 host0: -9223372036854775808≤x.geom.host
 host1:x.geom.host≤9223372036854775807
 pos0: -9223372036854775808≤x.jour.pos
 pos1:x.jour.pos≤9223372036854775807
def imgD (x:Img):List D:= [.str x.disk.data,.sl 2 (x.disk.cache.map putD),.int .i64 x.disk.fuse,.bool x.disk.off,.sl 1 (x.disk.bad.map intD),.int .i64 x.geom.guest,.int .i64 x.geom.host,.int .u64 x.jour.seq,.int .i64 x.jour.pos,.sl 66 (x.maps.map dmapD),.bool x.broken]
def planD (p:Plan):List D:= [.sl 1 (p.targets.map intD),.sl 1 (p.texts.map strD)]
theorem zdp {n:Nat} {x:List D} (h:DTy Tryz.prog (n+1) 3 x):∃a:Int,x= [.int .i64 a]∧ -9223372036854775808≤a∧a≤9223372036854775807:=by
 unfold DTy at h
 simp only [ty3] at h
 obtain ⟨a,rfl,h1,h2⟩:=h
 exact ⟨a,rfl,h1,h2⟩
theorem zgs {n:Nat} {x:List D} (h:DTy Tryz.prog (n+1) 9 x):∃s:Txt,x= [.str s]∧s.length≤9223372036854775807:=by
 unfold DTy at h
 simp only [ty9] at h
 exact h
theorem zfB {n:Nat} {x:List D} (h:DTy Tryz.prog (n+1) 4 x):∃b:Bool,x= [.bool b]:=by
 unfold DTy at h
 simp only [ty4] at h
 exact h
theorem zk1 {n:Nat} {x:List D} (h:DTy Tryz.prog (n+2) 23 x):∃l:List Int,l.length≤9223372036854775807∧x= [.sl 1 (l.map intD)]:=by
 unfold DTy at h
 simp only [ty23] at h
 obtain ⟨rows,rfl,hl,hr⟩:=h
 obtain ⟨l,rfl⟩:=zew (e:=intD) (fun r h'=>(zdp (hr r h')).imp fun s h=>h.1)
 exact ⟨l,by simpa using hl,by rw [ty3]⟩
theorem zpz {n:Nat} {x:List D} (h:DTy Tryz.prog (n+2) 34 x):∃l:List Txt,l.length≤9223372036854775807∧x= [.sl 1 (l.map strD)]:=by
 unfold DTy at h
 simp only [ty34] at h
 obtain ⟨rows,rfl,hl,hr⟩:=h
 obtain ⟨l,rfl⟩:=zew (e:=strD) (fun r h'=>(zgs (hr r h')).imp fun s h=>h.1)
 exact ⟨l,by simpa using hl,by rw [ty9]⟩
theorem zpA {n:Nat} {x:List D} (h:DTy Tryz.prog (n+3) 36 x):∃p:Plan,PlanOk p∧x=planD p:=by
 unfold DTy at h
 simp only [ty36,DTy.fields] at h
 obtain ⟨a1,b1,rfl,g1,a2,b2,rfl,g2,rfl⟩:=h
 obtain ⟨l,q1,rfl⟩:=zk1 g1
 obtain ⟨m,q2,rfl⟩:=zpz g2
 exact ⟨⟨l,m⟩,⟨q1,q2⟩,rfl⟩
theorem zq1 {n:Nat} {x:List D} (h:DTy Tryz.prog (n+2) 146 x):∃q:PutR,x=putD q:=by
 unfold DTy at h
 simp only [ty146,DTy.fields] at h
 obtain ⟨a1,b1,rfl,g1,a2,b2,rfl,g2,rfl⟩:=h
 obtain ⟨a,rfl,_⟩:=zdp g1
 obtain ⟨s,rfl,_⟩:=zgs g2
 exact ⟨(a,s),rfl⟩
theorem zpB {n:Nat} {x:List D} (h:DTy Tryz.prog (n+3) 22 x):∃l:List PutR,l.length≤9223372036854775807∧x= [.sl 2 (l.map putD)]:=by
 unfold DTy at h
 simp only [ty22] at h
 obtain ⟨rows,rfl,hl,hr⟩:=h
 obtain ⟨l,rfl⟩:=zew (e:=putD) (fun r h'=>zq1 (hr r h'))
 exact ⟨l,by simpa using hl,by rw [ty146]⟩
theorem zpC {n:Nat} {x:List D} (h:DTy Tryz.prog (n+4) 25 x):∃d:Disk,DiskOk d∧x= [.str d.data,.sl 2 (d.cache.map putD),.int .i64 d.fuse,.bool d.off,.sl 1 (d.bad.map intD)]:=by
 unfold DTy at h
 simp only [ty25,DTy.fields] at h
 obtain ⟨a1,b1,rfl,g1,a2,b2,rfl,g2,a3,b3,rfl,g3,a4,b4,rfl,g4,a5,b5,rfl,g5,rfl⟩:=h
 obtain ⟨s,rfl,q1⟩:=zgs g1
 obtain ⟨l,q2,rfl⟩:=zpB g2
 obtain ⟨f,rfl,q3,q4⟩:=zdp g3
 obtain ⟨o,rfl⟩:=zfB g4
 obtain ⟨m,q5,rfl⟩:=zk1 g5
 exact ⟨⟨s,l,f,o,m⟩,⟨q1,q2,q5,q3,q4⟩,rfl⟩
theorem zhh:∀ {parts:List (List D)},(∀p∈parts,∃b:Bool,p= [.bool b])→∃l:List Bool,parts.flatten=l.map D.bool∧l.length=parts.length
 | [],_=>⟨[],rfl,rfl⟩
 |p::r,h=>by
  obtain ⟨b,rfl⟩:=h p (by simp)
  obtain ⟨l,h1,h2⟩:=zhh (parts:=r) (fun q hq=>h q (by simp [hq]))
  exact ⟨b::l,by simp [h1],by simp [h2]⟩
theorem zk2 {n:Nat} {x:List D} (h:DTy Tryz.prog (n+3) 105 x):∃m:Dmap,(m.name.length≤9223372036854775807∧m.bits.length=64)∧x=dmapD m:=by
 unfold DTy at h
 simp only [ty105,DTy.fields] at h
 obtain ⟨a1,b1,rfl,g1,a2,b2,rfl,g2,a3,b3,rfl,g3,rfl⟩:=h
 obtain ⟨s,rfl,q1⟩:=zgs g1
 obtain ⟨u,rfl⟩:=zfB g2
 unfold DTy at g3
 simp only [ty103] at g3
 obtain ⟨parts,rfl,hl,hp⟩:=g3
 obtain ⟨l,h1,h2⟩:=zhh (fun p h'=>zfB (hp p h'))
 exact ⟨⟨s,u,l⟩,⟨q1,by rw [h2,hl]⟩,by simp [dmapD,h1]⟩
theorem zn2 {n:Nat} {x:List D} (h:DTy Tryz.prog (n+4) 31 x):∃l:List Dmap,l.length≤9223372036854775807∧(∀m∈l,m.name.length≤9223372036854775807∧m.bits.length=64)∧x= [.sl 66 (l.map dmapD)]:=by
 unfold DTy at h
 simp only [ty31] at h
 obtain ⟨rows,rfl,hl,hr⟩:=h
 obtain ⟨l,rfl⟩:=zew (e:=dmapD) (fun r h'=>(zk2 (hr r h')).imp fun s h=>h.2)
 refine ⟨l,by simpa using hl,fun m hm=>?_,by rw [ty105]⟩
 obtain ⟨m',h1,h2⟩:=zk2 (hr (dmapD m) (List.mem_map_of_mem hm))
 rw [zeF _ _ h2]
 exact h1
theorem zq2 {n:Nat} {x:List D} (h:DTy Tryz.prog (n+5) 33 x):∃X:Img,ImgW X∧x=imgD X:=by
 unfold DTy at h
 simp only [ty33,DTy.fields] at h
 obtain ⟨a1,b1,rfl,g1,a2,b2,rfl,g2,a3,b3,rfl,g3,a4,b4,rfl,g4,a5,b5,rfl,g5,rfl⟩:=h
 obtain ⟨d,q1,rfl⟩:=zpC g1
 unfold DTy at g2 g3
 simp only [ty27,DTy.fields] at g2
 simp only [ty30,DTy.fields] at g3
 obtain ⟨c1,e1,rfl,k1,c2,e2,rfl,k2,rfl⟩:=g2
 obtain ⟨c3,e3,rfl,k3,c4,e4,rfl,k4,rfl⟩:=g3
 obtain ⟨gu,rfl,r1,r2⟩:=zdp k1
 obtain ⟨ho,rfl,r3,r4⟩:=zdp k2
 unfold DTy at k3
 simp only [ty28] at k3
 obtain ⟨sq,rfl,r5,r6⟩:=k3
 obtain ⟨po,rfl,r7,r8⟩:=zdp k4
 obtain ⟨l,q2,q3,rfl⟩:=zn2 g4
 obtain ⟨br,rfl⟩:=zfB g5
 exact ⟨⟨d,⟨gu,ho⟩,⟨sq,po⟩,l,br⟩,⟨⟨q1,q2,fun m hm=>(q3 m hm).1,fun m hm=>(q3 m hm).2⟩,r5,r6,r1,r2,r3,r4,r7,r8⟩,rfl⟩
theorem zq3 (X:Img):argAV Tryz.prog 33 (imgD X)=imgA X:=by simp only [argAV,ty33];rfl
theorem zpD (p:Plan):argAV Tryz.prog 36 (planD p)=planA p:=by simp only [argAV,ty36];rfl
theorem zq4 (n:Int):argAV Tryz.prog 3 [.int .i64 n]= .d (.int .i64 n):=by simp only [argAV,ty3]
theorem zq5 (s:Txt):argAV Tryz.prog 9 [.str s]= .d (.str s):=by simp only [argAV,ty9]
end Go.Aw
