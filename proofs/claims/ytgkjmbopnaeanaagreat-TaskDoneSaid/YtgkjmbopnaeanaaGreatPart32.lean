/-
 Images, the program's: a write's steps.
-/
import Derived.Test.YtgkjmbopnaeanaaGreatPart31
set_option maxRecDepth 100000
set_option maxHeartbeats 2000000
set_option linter.unusedSimpArgs false
set_option linter.unusedVariables false
namespace Go.Aw
open Go Go.Proofs
@[simp, go_sem] theorem zw8 (x:Img) (d:Disk):(wdisk x d).disk=d:=rfl
@[simp, go_sem] theorem zw9 (x:Img) (d:Disk):(wdisk x d).geom=x.geom:=rfl
@[simp, go_sem] theorem zxa (x:Img) (d:Disk):(wdisk x d).jour=x.jour:=rfl
@[simp, go_sem] theorem zxb (x:Img) (d:Disk):(wdisk x d).maps=x.maps:=rfl
@[simp, go_sem] theorem zvM (x:Img) (d:Disk):(wdisk x d).broken=x.broken:=rfl
@[simp, go_sem] theorem zwM (x:Img) (d e:Disk):wdisk (wdisk x d) e=wdisk x e:=rfl
@[simp, go_sem] theorem zxc (x:Img):wdisk x x.disk=x:=rfl
theorem fix1 {P:Program} {f:FuncId} {args:List AV} {fl i:Nat} {h:AHeap} {r0:AV} {X:AObj} (hc:ACall P f fl args h (fun r h'=>∃ob',h'= [(i,ob')]∧r=r0∧ob'=X)):ACall P f fl args h (fun r h'=>r=r0∧h'= [(i,X)]):=
 hc.mono (by rintro r h' ⟨ob',rfl,rfl,rfl⟩;exact ⟨rfl,rfl⟩)
structure JS where
 x:Img
 q:Plan
 loc:Int
 old:Txt
 e:Int
def jobP (x:Img) (g off:Int) (s:Txt) (l1 nx:Int) (y:Ent2) (q:Plan) (at_:Int) (old:Txt):List AV:= [.d (.str x.disk.data),.d (.sl 2 (x.disk.cache.map putD)),.d (.int .i64 x.disk.fuse),.d (.bool x.disk.off),.d (.sl 1 (x.disk.bad.map intD)),.d (.int .i64 x.geom.guest),.d (.int .i64 x.geom.host),.d (.int .u64 x.jour.seq),.d (.int .i64 x.jour.pos),.d (.sl 66 (x.maps.map dmapD)),.d (.bool x.broken),.d (.int .i64 g),.d (.int .i64 off),.d (.str s),.d (.int .i64 l1),.d (.int .u32 nx),.d (.int .i64 y.kind),.d (.int .i64 y.loc),.d (.sl 1 (q.targets.map intD)),.d (.sl 1 (q.texts.map strD)),.d (.int .i64 at_),.d (.str old)]
attribute [go_sem] jobP
theorem zuU {x:Img} {g off:Int} {s:Txt} {l1 nx:Int} {y:Ent2} {q:Plan} {a:Int} {old:Txt} :(AObj.var (jobP x g off s l1 nx y q a old)).ids= []:=by
 simp [AObj.ids,jobP,AV.idsL,AV.ids]
theorem zdZ {x:Img} {g off:Int} {s:Txt} {l1 nx:Int} {y:Ent2} {q:Plan} {a:Int} {old:Txt} :∀j∈(AObj.var (jobP x g off s l1 nx y q a old)).ids,j=2:=by
 rw [zuU];simp
def zeb (x:Img) (g:Int):Ent2×Int:=if (zC x.disk p0).2≠0 then (⟨0,0⟩,(zC x.disk p0).2) else elook x.disk p0 (zC x.disk p0).1.l1 g
theorem zuV (x:Img) (g off:Int) (s:Txt) (h:ImgF x):ACall Tryz.prog 152 20 [.vp 2 0] [(2,.var (jobP x g off s 0 0 ⟨0,0⟩ p0 0 []))] (fun r h'=>∃ob',h'= [(2,ob')]∧r= .d (.int .i64 (zeb x g).2)∧ob'= .var (jobP x g off s (zC x.disk p0).1.l1 (zC x.disk p0).1.next (zeb x g).1 p0 0 [])):=by
 refine bod Tryz.func152 Tryz.ntmps152 (fun base=>?_)
 have hdp:DP x.disk p0:=⟨h.disk,zcc⟩
 refine' walkW fx (za zj <| za zB <| za zp <| za zL <| za zF <| za zW <| za zE <| za zt <| za zam <| za zy <| za zv <| zb _)
 ·refine ⟨_,rfl,?_,?_⟩<;>rw [zeb,if_neg (show ¬_≠_ from fun h2=>h2 (beqP hc))]
 ·refine ⟨_,rfl,?_,?_⟩<;>rw [zeb,if_pos (beqN hc)]
theorem zsN (x:Img) (g off:Int) (s:Txt) (l1 nx:Int) (y:Ent2) (h:ImgF x):ACall Tryz.prog 158 20 [.vp 2 0] [(2,.var (jobP x g off s l1 nx y p0 0 []))] (fun r h'=>∃ob',h'= [(2,ob')]∧(r= .tup [.d (.bool (if y.kind=1 then decide ((rget x.disk p0 y.loc).1≤1) else false)),.d (.int .i64 (if y.kind=1 then (rget x.disk p0 y.loc).2 else 0))])∧ob'= .var (jobP x g off s l1 nx y p0 0 [])):=by
 refine bod Tryz.func158 Tryz.ntmps158 (fun base=>?_)
 have hdp:DP x.disk p0:=⟨h.disk,zcc⟩
 refine' walkW fx (za zj <| za zB <| za zp <| za zL <| za zF <| za zW <| za zE <| za zt <| za zam <| za zy <| za zv <| zb _)
 ·exact ⟨_,rfl,by rw [if_neg (bneP hc),if_neg (bneP hc)],rfl⟩
 ·have hk:y.kind=1:=Classical.byContradiction (bneN hc)
  exact ⟨_,rfl,by rw [if_pos hk,if_pos hk],rfl⟩
theorem zuW (x:Img) (g off:Int) (s:Txt) (l1 nx:Int) (y:Ent2) (h:ImgF x):ACall Tryz.prog 153 20 [.vp 2 0] [(2,.var (jobP x g off s l1 nx y p0 0 []))] (fun r h'=>∃ob',h'= [(2,ob')]∧(r= .d (.int .i64 (rtake x.disk p0 x.geom).2.2))∧ob'= .var (jobP x g off s l1 nx y (rtake x.disk p0 x.geom).1 (rtake x.disk p0 x.geom).2.1 [])):=by
 refine bod Tryz.func153 Tryz.ntmps153 (fun base=>?_)
 have hdp:DP x.disk p0:=⟨h.disk,zcc⟩
 have hh:=h.host
 refine' walkW fx (za zj <| za zB <| za zp <| za zL <| za zF <| za zW <| za zE <| za zt <| za zam <| za zy <| za zv <| zb _)
 all_goals first|exact ⟨_,rfl,rfl,rfl⟩|exact ⟨_,rfl,rfl⟩|omega
theorem zuX (x:Img) (g off:Int) (s:Txt) (l1 nx:Int) (y:Ent2) (q:Plan) (a:Int) (h:ImgF x):ACall Tryz.prog 154 20 [.vp 2 0] [(2,.var (jobP x g off s l1 nx y q a []))] (fun r h'=>∃ob',h'= [(2,ob')]∧(r= .d (.int .i64 (cread x.disk l1 g).2))∧ob'= .var (jobP x g off s l1 nx y q a (cread x.disk l1 g).1)):=by
 refine bod Tryz.func154 Tryz.ntmps154 (fun base=>?_)
 have hdf:=h.disk
 refine' walkW fx (za zj <| za zB <| za zp <| za zL <| za zF <| za zW <| za zE <| za zt <| za zam <| za zy <| za zv <| zb _)
 all_goals first|exact ⟨_,rfl,rfl,rfl⟩|exact ⟨_,rfl,rfl⟩|omega
theorem zsO (x:Img) (g off:Int) (s:Txt) (l1 nx:Int) (y:Ent2) (q:Plan) (a:Int) (old:Txt) (h:ImgF x) (hq:pfit q=true):ACall Tryz.prog 156 20 [.vp 2 0] [(2,.var (jobP x g off s l1 nx y q a old))] (fun r h'=>∃ob',h'= [(2,ob')]∧(r= .d (.int .i64 (ppoint x.disk q x.geom g ⟨1,a⟩).2))∧ob'= .var (jobP x g off s l1 nx y (ppoint x.disk q x.geom g ⟨1,a⟩).1 a old)):=by
 refine bod Tryz.func156 Tryz.ntmps156 (fun base=>?_)
 have hdp:DP x.disk q:=⟨h.disk,hq⟩
 have hh:=h.host
 have hg:=h.guest
 refine' walkW fx (za zj <| za zB <| za zp <| za zL <| za zF <| za zW <| za zE <| za zt <| za zam <| za zy <| za zv <| zb _)
 all_goals first|exact ⟨_,rfl,rfl,rfl⟩|exact ⟨_,rfl,rfl⟩|omega
theorem zuY (x:Img) (g off:Int) (s:Txt) (l1 nx:Int) (y:Ent2) (q:Plan) (a:Int) (old:Txt) (h:ImgF x) (hq:pfit q=true):ACall Tryz.prog 157 20 [.vp 2 0] [(2,.var (jobP x g off s l1 nx y q a old))] (fun r h'=>∃ob',h'= [(2,ob')]∧(r= .d (.int .i64 (cdone x q).2))∧ob'= .var (jobP (cdone x q).1 g off s l1 nx y q a old)):=by
 refine bod Tryz.func157 Tryz.ntmps157 (fun base=>?_)
 have hdf:=h.disk
 have hok:=h.ok
 have hs0:=h.seq0
 have hs1:=h.seq1
 refine' walkW fx (za zj <| za zB <| za zp <| za zL <| za zF <| za zW <| za zE <| za zt <| za zam <| za zy <| za zv <| zb _)
 all_goals first|exact ⟨_,rfl,rfl,rfl⟩|exact ⟨_,rfl,rfl⟩|omega
theorem ziy (x:Img) (g off:Int) (s:Txt) (l1 nx:Int) (y:Ent2) (q:Plan) (a:Int) (old:Txt) (t:Int) (u:Txt) (h:DiskOk x.disk):ACall Tryz.prog 192 40 [.vp 2 0,.d (.int .i64 t),.d (.str u)] [(2,.var (jobP x g off s l1 nx y q a old))] (fun r h'=>∃ob',h'= [(2,ob')]∧(r= .d (.int .i64 (zU x.disk t u).2))∧ob'= .var (jobP (wdisk x (zU x.disk t u).1) g off s l1 nx y q a old)):=by
 refine bod Tryz.func192 Tryz.ntmps192 (fun base=>?_)
 refine' walkW fx (za zj <| za zB <| za zp <| za zL <| za zF <| za zW <| za zE <| za zt <| za zam <| za zy <| za zv <| zb _)
 all_goals first|exact ⟨_,rfl,rfl,rfl⟩|exact ⟨_,rfl,rfl⟩|omega
theorem zuZ (x:Img) (g off:Int) (s:Txt) (l1 nx:Int) (y:Ent2) (q:Plan) (a:Int) (old:Txt) (h:ImgF x) (ha:zV a=true) (ho:old.length=128) (h0:0≤off) (h1:off+s.length≤128):ACall Tryz.prog 155 20 [.vp 2 0] [(2,.var (jobP x g off s l1 nx y q a old))] (fun r h'=>∃ob',h'= [(2,ob')]∧(r= .d (.int .i64 (layL x.disk (zaU a (overS old off s).1)).2))∧ob'= .var (jobP (wdisk x (layL x.disk (zaU a (overS old off s).1)).1) g off s l1 nx y q a old)):=by
 refine zQ (fun i=>decide (i<20)) ?_
 refine bod Tryz.func155 Tryz.ntmps155 (fun base=>?_)
 have ha2:=hostOk_iff.1 ha
 have hbl:(overS old off s).1.length=128:=by rw [zlW h0 (by omega),ho]
 obtain ⟨b,hb⟩:∃b,b=(overS old off s).1:=⟨_,rfl⟩
 rw [← hb] at hbl ⊢
 obtain ⟨L,hL⟩:∃L,L=layL x.disk (zaU a b):=⟨_,rfl⟩
 rw [← hL]
 have hx:=h.disk
 refine' walkR hb.symm (za zj <| za zB <| za zp <| za zL <| za zF <| za zW <| za zE <| za zt <| za zam <| za zy <| za zv <| zb _)
 obtain ⟨I,hI⟩:∃I:List (List AV)→AHeap×Option (List (List AV)),I=fun xs=>([(38,.var [.d (.str b)]),(21,.var [.d (.int .i64 0)]),(20,.var [.vp 2 0]),(2,.var (jobP (wdisk x (layF x.disk ((zaU a b).take xs.length))) g off s l1 nx y q a old))],some []):=⟨_,rfl⟩
 obtain ⟨G,hG⟩:∃G:List (List AV)→Prop,G=fun xs=>L=layL (layF x.disk ((zaU a b).take xs.length)) ((zaU a b).drop xs.length):=⟨_,rfl⟩
 obtain ⟨J,hJ⟩:∃J:Code→AHeap→Option (List (List AV))→Prop,J=fun c h gg=>c= .ret∧gg=some []∧h= [(38,.var [.d (.str b)]),(21,.var [.d (.int .i64 L.2)]),(20,.var [.vp 2 0]),(2,.var (jobP (wdisk x L.1) g off s l1 nx y q a old))]:=⟨_,rfl⟩
 have hw64:IntKind.i64.wrap 64=64:=by decide
 have hw128:IntKind.i64.wrap 128=128:=by decide
 have hz0:Int.toNat 0=0:=rfl
 have h64:Int.toNat 64=64:=rfl
 have h128:Int.toNat 128=128:=rfl
 refine aw_le ⟨[(1,true,.vp 20 0),(2,true,.vp 21 0),(3,true,.vp 38 0),(28,true,.fn (.func 184) [] [.dp [.d (.int .i64 a)]])],[(38,.var [.d (.str b)]),(21,.var [.d (.int .i64 0)]),(20,.var [.vp 2 0]),(2,.var (jobP x g off s l1 nx y q a old))],some []⟩ le0 ?_
 have hwx:wdisk x x.disk=x:=rfl
 refine zbz 100 G I J (zf6 100 a (by omega) (by omega)) (by simp only [go_sem,aeq,aeq.aeqF,simprocAttr]) rfl (z2 rfl) (by simp [cxOf,cxY]) rfl (by rw [hG];first|trivial|rfl|simp) (by rw [hI];simp only [AS.le,leT,leH,zf,AsgK,AV.le,AV.leL,AObj.le,inH,idsT,idsH,AV.ids,AV.idsL,AV.idsR,AObj.ids,lk,hget,go_sem,aeq,aeq.aeqF,simprocAttr]<;>simp [AV.leL,AV.le]) (by rw [hI];simp only [AS.le,leT,leH,zf,AsgK,AV.le,AV.leL,AObj.le,inH,idsT,idsH,AV.ids,AV.idsL,AV.idsR,AObj.ids,lk,hget,go_sem,aeq,aeq.aeqF,simprocAttr]<;>simp) (by rw [hI]<;>rfl) (by intro x hx;obtain ⟨q,_,rfl⟩:=List.mem_map.1 hx;rfl) (by intro t ht;simp at ht;first|(rcases ht with rfl|rfl<;>simp [cxOf,cxY]<;>done)|(subst ht;simp [cxOf,cxY])) ?_ ?_ ?_
 ·intro xs x1 hpre hgd l1' r1
  obtain ⟨ys,qq,zs,hys,rfl,hzl⟩:=zdT hpre
  have hln:xs.length=ys.length:=by rw [hys];simp
  rw [hG] at hgd
  rcases zgY hzl with ⟨rfl,rfl⟩|⟨rfl,rfl⟩
  ·have hx0:xs= []:=by simpa using hys
   subst hx0
   simp only [zav]
   have hgd':L=if (zU x.disk (96+2*a) (b.take 64)).2≠0 then zU x.disk (96+2*a) (b.take 64) else layL (zU x.disk (96+2*a) (b.take 64)).1 ((zaU a b).drop 1):=hgd
   refine aw_le ⟨[(29,true,.d (.int .i64 (96+2*a))),(30,true,.d (.int .i64 0)),(1,true,.vp 20 0),(2,true,.vp 21 0),(3,true,.vp 38 0)],[(38,.var [.d (.str b)]),(21,.var [.d (.int .i64 0)]),(20,.var [.vp 2 0]),(2,.var (jobP x g off s l1 nx y q a old))],some []⟩ (by rw [hI];simp only [AS.le,leT,leH,zf,AsgK,AV.le,AV.leL,AObj.le,inH,idsT,idsH,AV.ids,AV.idsL,AV.idsR,AObj.ids,lk,hget,go_sem,aeq,aeq.aeqF,simprocAttr,wdisk]) ?_
   refine' zoS (ownsL [1000192]) (zS hw64 hz0 h64 hbl) (za zj <| za zB <| za zp <| za zL <| za zF <| za zW <| za zE <| za zt <| za zam <| za zy <| za zv <| zb _)
   refine ⟨2,40,.var (jobP x g off s l1 nx y q a old),_,_,rfl,by decide,zdZ,by simp [AV.idsL,AV.ids],fix1 (ziy x g off s l1 nx y q a old (96+2*a) (b.take 64) hx.ok),?_⟩
   simp only [go_sem,aeq,aeq.aeqF,simprocAttr]
   refine' zoS (ownsL [1000192]) hI (za zj <| za zB <| za zp <| za zL <| za zF <| za zW <| za zE <| za zt <| za zam <| za zy <| za zv <| zb _)
   all_goals try rfl
   ·rw [hJ]
    rw [if_pos (bneP hc)] at hgd'
    exact ⟨rfl,rfl,by rw [hgd'];rfl⟩
   ·rw [hG]
    rw [if_neg (bneN hc)] at hgd'
    exact hgd'
  ·have hx0:xs= [zav (96+2*a,0)]:=by simpa using hys
   subst hx0
   simp only [zav]
   obtain ⟨d1,hd1⟩:∃d1,d1=(zU x.disk (96+2*a) (b.take 64)).1:=⟨_,rfl⟩
   have hd1F:DiskF d1:=by rw [hd1];exact hx.write _ _
   have hgd':L=if (zU d1 (96+2*a+1) ((b.take 128).drop 64)).2≠0 then zU d1 (96+2*a+1) ((b.take 128).drop 64) else ((zU d1 (96+2*a+1) ((b.take 128).drop 64)).1,0):=by rw [hd1];exact hgd
   refine aw_le ⟨[(29,true,.d (.int .i64 (96+2*a+1))),(30,true,.d (.int .i64 64)),(1,true,.vp 20 0),(2,true,.vp 21 0),(3,true,.vp 38 0)],[(38,.var [.d (.str b)]),(21,.var [.d (.int .i64 0)]),(20,.var [.vp 2 0]),(2,.var (jobP (wdisk x d1) g off s l1 nx y q a old))],some []⟩ (by rw [hI,hd1];simp only [AS.le,leT,leH,zf,AsgK,AV.le,AV.leL,AObj.le,inH,idsT,idsH,AV.ids,AV.idsL,AV.idsR,AObj.ids,lk,hget,go_sem,aeq,aeq.aeqF,simprocAttr,wdisk]<;>and_intros<;>rfl) ?_
   refine' zoS (ownsL [1000192]) (zaH hw64 hw128 h64 h128 hbl) (za zj <| za zB <| za zp <| za zL <| za zF <| za zW <| za zE <| za zt <| za zam <| za zy <| za zv <| zb _)
   refine ⟨2,40,.var (jobP (wdisk x d1) g off s l1 nx y q a old),_,_,rfl,by decide,zdZ,by simp [AV.idsL,AV.ids],fix1 (ziy (wdisk x d1) g off s l1 nx y q a old (96+2*a+1) ((b.take 128).drop 64) hd1F.ok),?_⟩
   simp only [go_sem,aeq,aeq.aeqF,simprocAttr]
   refine' zoS (ownsL [1000192]) hI (za zj <| za zB <| za zp <| za zL <| za zF <| za zW <| za zE <| za zt <| za zam <| za zy <| za zv <| zb _)
   all_goals try (rw [hd1];rfl)
   ·rw [hJ]
    rw [if_pos (bneP hc)] at hgd'
    exact ⟨rfl,rfl,by rw [hgd'];rfl⟩
   ·rw [hG]
    rw [if_neg (bneN hc),hd1] at hgd'
    exact hgd'
 ·intro hgd
  rw [hG] at hgd
  have hgd':L=(layF x.disk (zaU a b),0):=hgd
  rw [hI]
  refine' walkR fx (za zj <| za zB <| za zp <| za zL <| za zF <| za zW <| za zE <| za zt <| za zam <| za zy <| za zv <| zb _)
  all_goals try rfl
  rw [hgd']
  exact ⟨_,rfl,rfl,rfl⟩
 ·rw [hJ]
  rintro c h3 g3 ⟨rfl,rfl,rfl⟩
  refine' walkR fx (za zj <| za zB <| za zp <| za zL <| za zF <| za zW <| za zE <| za zt <| za zam <| za zy <| za zv <| zb _)
  all_goals first|rfl|exact ⟨_,rfl,rfl,rfl⟩|exact ⟨_,rfl,rfl⟩
end Go.Aw
