/-
 Images, the program's: a write in place; writes.
-/
import Derived.Test.YtgkjmbopnaeanaaGreatPart32
set_option maxRecDepth 100000
set_option maxHeartbeats 2000000
set_option linter.unusedSimpArgs false
set_option linter.unusedVariables false
namespace Go.Aw
open Go Go.Proofs
def plF (d:Disk) (k off:Int) (s:Txt):Nat→Disk
 |0=>d
 |n+1=>(cput1 (plF d k off s n) k off s n).1
@[simp, go_sem] theorem plF_0 (d:Disk) (k off:Int) (s:Txt):plF d k off s 0=d:=rfl
theorem DiskF.plF {d:Disk} (h:DiskF d) (k off:Int) (s:Txt):∀n,DiskF (plF d k off s n)
 |0=>h
 |n+1=>(DiskF.plF h k off s n).cput1 k off s n
theorem zwN {k:Int} {ys zs:List (Int×Int)} {q:Int×Int} (h:sectI k=ys++q::zs):ys.length<2∧q=(96+2*k+(ys.length:Int),(ys.length:Int)*64):=by
 rcases zgY h with ⟨rfl,rfl⟩|⟨rfl,rfl⟩
 ·refine ⟨by simp,?_⟩;simp
 ·refine ⟨by simp,?_⟩;simp
theorem znR (x:Img) (g off:Int) (s:Txt) (l1 nx:Int) (y:Ent2) (h:ImgF x) (ha:zV y.loc=true) (h0:0≤off) (h1:off+s.length≤128):ACall Tryz.prog 159 20 [.vp 2 0] [(2,.var (jobP x g off s l1 nx y p0 0 []))] (fun r h'=>∃ob',h'= [(2,ob')]∧(r= .d (.int .i64 (zeX x.disk y.loc off s).2))∧ob'= .var (jobP (wdisk x (zeX x.disk y.loc off s).1) g off s l1 nx y p0 0 [])):=by
 refine zQ (fun i=>decide (i<20)) ?_
 refine bod Tryz.func159 Tryz.ntmps159 (fun base=>?_)
 have ha2:=hostOk_iff.1 ha
 have hx:=h.disk
 obtain ⟨L,hL⟩:∃L,L=zeX x.disk y.loc off s:=⟨_,rfl⟩
 rw [← hL]
 refine' walkR fx (za zj <| za zB <| za zp <| za zL <| za zF <| za zW <| za zE <| za zt <| za zam <| za zy <| za zv <| zb _)
 obtain ⟨I,hI⟩:∃I:List (List AV)→AHeap×Option (List (List AV)),I=fun xs=>([(21,.var [.d (.int .i64 0)]),(20,.var [.vp 2 0]),(2,.var (jobP (wdisk x (plF x.disk y.loc off s xs.length)) g off s l1 nx y p0 0 []))],some []):=⟨_,rfl⟩
 obtain ⟨G,hG⟩:∃G:List (List AV)→Prop,G=fun xs=>L=zef y.loc off s (2 - xs.length) xs.length (plF x.disk y.loc off s xs.length):=⟨_,rfl⟩
 obtain ⟨J,hJ⟩:∃J:Code→AHeap→Option (List (List AV))→Prop,J=fun c h gg=>c= .ret∧gg=some []∧h= [(21,.var [.d (.int .i64 L.2)]),(20,.var [.vp 2 0]),(2,.var (jobP (wdisk x L.1) g off s l1 nx y p0 0 []))]:=⟨_,rfl⟩
 refine aw_le ⟨[(1,true,.vp 20 0),(2,true,.vp 21 0),(14,true,.fn (.func 184) [] [.dp [.d (.int .i64 y.loc)]])],[(21,.var [.d (.int .i64 0)]),(20,.var [.vp 2 0]),(2,.var (jobP x g off s l1 nx y p0 0 []))],some []⟩ le0 ?_
 refine zbz 100 G I J (zf6 100 y.loc (by omega) (by omega)) (by simp only [go_sem,aeq,aeq.aeqF,simprocAttr]) rfl (z2 rfl) (by simp [cxOf,cxY]) rfl (by rw [hG];first|trivial|rfl|simp) (by rw [hI];simp only [AS.le,leT,leH,zf,AsgK,AV.le,AV.leL,AObj.le,inH,idsT,idsH,AV.ids,AV.idsL,AV.idsR,AObj.ids,lk,hget,go_sem,aeq,aeq.aeqF,simprocAttr]<;>simp [AV.leL,AV.le]) (by rw [hI];simp only [AS.le,leT,leH,zf,AsgK,AV.le,AV.leL,AObj.le,inH,idsT,idsH,AV.ids,AV.idsL,AV.idsR,AObj.ids,lk,hget,go_sem,aeq,aeq.aeqF,simprocAttr]<;>simp) (by rw [hI]<;>rfl) (by intro x hx;obtain ⟨q,_,rfl⟩:=List.mem_map.1 hx;rfl) (by intro t ht;simp at ht;first|(rcases ht with rfl|rfl<;>simp [cxOf,cxY]<;>done)|(subst ht;simp [cxOf,cxY])) ?_ ?_ ?_
 ·intro xs x1 hpre hgd l1' r1
  obtain ⟨ys,qq,zs,hys,rfl,hzl⟩:=zdT hpre
  have hln:xs.length=ys.length:=by rw [hys];simp
  rw [hG] at hgd
  obtain ⟨hi2,rfl⟩:=zwN hzl
  rw [← hln] at hi2 ⊢
  obtain ⟨i,hi⟩:∃i,i=xs.length:=⟨_,rfl⟩
  have hsn:(xs++ [zav (96+2*y.loc+(i:Int),(i:Int)*64)]).length=i+1:=by simp [hi]
  rw [← hi] at hgd hi2 ⊢
  obtain ⟨d,hd⟩:∃d,d=plF x.disk y.loc off s i:=⟨_,rfl⟩
  have hF:DiskF d:=by rw [hd];exact hx.plF _ _ _ _
  have hd1:=hF.ok
  have hd2:=hF.puts
  have hps:plF x.disk y.loc off s (i+1)=(cput1 d y.loc off s i).1:=by rw [plF,← hd]
  rw [← hd,show 2 - i=(2 - (i+1))+1 by omega,zef] at hgd
  simp only [zav] at hsn ⊢
  have hwi:=zn (i:=i) (by omega)
  have hw2:IntKind.i64.wrap ((i:Int)*64+64)=(i+1)*64:=by rw [ze (by omega) (by omega)];omega
  have hw3:IntKind.i64.wrap (off+(s.length:Int))=off+s.length:=ze (by omega) (by omega)
  obtain ⟨A,hA⟩:∃A,A=max off ((i:Int)*64):=⟨_,rfl⟩
  obtain ⟨B,hB⟩:∃B,B=min (off+(s.length:Int)) (((i:Int)+1)*64):=⟨_,rfl⟩
  have hA1:imax off ((i:Int)*64)=A:=by rw [hA];unfold imax;split<;>omega
  have hB1:imin (off+(s.length:Int)) (((i:Int)+1)*64)=B:=by rw [hB];unfold imin;split<;>omega
  have hc1:cput1 d y.loc off s i=if B≤A then (d,0) else if (dread d (96+2*y.loc+i)).2≠0 then (d,(dread d (96+2*y.loc+i)).2) else zU d (96+2*y.loc+i) (overS (dread d (96+2*y.loc+i)).1 (A - i*64) ((s.take (B - off).toNat).drop (A - off).toNat)).1:=by rw [cput1,cputT,← hA,← hB]
  have hl:=zdV (at_:=96+2*y.loc+i) hd2
  refine aw_le ⟨[(15,true,.d (.int .i64 (96+2*y.loc+i))),(16,true,.d (.int .i64 (i*64))),(1,true,.vp 20 0),(2,true,.vp 21 0)],[(21,.var [.d (.int .i64 0)]),(20,.var [.vp 2 0]),(2,.var (jobP (wdisk x d) g off s l1 nx y p0 0 []))],some []⟩ (by rw [hI];simp only [← hi,← hd];simp only [AS.le,leT,leH,zf,AsgK,AV.le,AV.leL,AObj.le,inH,idsT,idsH,AV.ids,AV.idsL,AV.idsR,AObj.ids,lk,hget,go_sem,aeq,aeq.aeqF,simprocAttr,wdisk]) ?_
  by_cases hab:B≤A
  ·have hb:decide (B≤A)=true:=decide_eq_true hab
   rw [if_pos hab] at hc1
   rw [hc1] at hgd hps
   refine' walkR (zq hwi hw2 hw3 hA1 hB1 (zS hb hI hsn hps)) (za zj <| za zB <| za zp <| za zL <| za zF <| za zW <| za zE <| za zt <| za zam <| za zy <| za zv <| zb _)
   rw [hG]
   simp only [hsn,hps]
   rw [if_neg (by simp)] at hgd
   exact hgd
  ·have hb:decide (B≤A)=false:=decide_eq_false hab
   rw [if_neg hab] at hc1
   have hw5:IntKind.i64.wrap (A - off)=A - off:=ze (by omega) (by omega)
   have hw6:IntKind.i64.wrap (B - off)=B - off:=ze (by omega) (by omega)
   have hw7:IntKind.i64.wrap (A - (i:Int)*64)=A - i*64:=ze (by omega) (by omega)
   have hsl:((s.take (B - off).toNat).drop (A - off).toNat).length≤9223372036854775807:=by simp;omega
   obtain ⟨b,hbb⟩:∃b,b=(overS (dread d (96+2*y.loc+i)).1 (A - i*64) ((s.take (B - off).toNat).drop (A - off).toNat)).1:=⟨_,rfl⟩
   rw [← hbb] at hc1
   refine' zhd (zbh 9) (zq hwi hw2 hw3 hw5 hw6 (zq hw7 hA1 hB1 hb hbb.symm (zk hI hsn))) (za zj <| za zB <| za zp <| za zL <| za zF <| za zW <| za zE <| za zt <| za zam <| za zy <| za zv <| zb _)
   ·rw [hJ]
    rw [if_pos (bneP hc)] at hc1
    rw [hc1,if_pos (bneP hc)] at hgd
    exact ⟨rfl,rfl,by rw [hgd];rfl⟩
   rw [if_neg (bneN hc)] at hc1
   refine' zhd (zbh 10) (zq hwi hw2 hw3 hw5 hw6 (zq hw7 hA1 hB1 hb hbb.symm (zk hI hsn))) (za zj <| za zB <| za zp <| za zL <| za zF <| za zW <| za zE <| za zt <| za zam <| za zy <| za zv <| zb _)
   have hFn:=hF.write (96+2*y.loc+i) b
   refine' zb9 fx
   refine (zco (fix1 (ziy (wdisk x d) g off s l1 nx y p0 0 [] (96+2*y.loc+i) b hd1)) (by decide) rfl zdZ (by simp [AV.idsL,AV.ids])).mono ?_
   rintro r h' ⟨rfl,rfl⟩
   simp only [go_sem,aeq,aeq.aeqF,simprocAttr]
   refine' zb9 (zS hI hsn hps hc1)
   ·rw [hJ]
    rw [hc1,if_pos (bneP hc)] at hgd
    exact ⟨rfl,rfl,by rw [hgd];rfl⟩
   ·rw [hG]
    simp only [hsn,hps]
    rw [hc1,if_neg (bneN hc)] at hgd
    rw [hc1]
    exact hgd
 ·intro hgd
  rw [hG] at hgd
  have hgd':L=(plF x.disk y.loc off s 2,0):=hgd
  rw [hI]
  refine' walkR fx (za zj <| za zB <| za zp <| za zL <| za zF <| za zW <| za zE <| za zt <| za zam <| za zy <| za zv <| zb _)
  all_goals try rfl
  rw [hgd']
  exact ⟨_,rfl,rfl,rfl⟩
 ·rw [hJ]
  rintro c h3 g3 ⟨rfl,rfl,rfl⟩
  refine' walkR fx (za zj <| za zB <| za zp <| za zL <| za zF <| za zW <| za zE <| za zt <| za zam <| za zy <| za zv <| zb _)
  all_goals first|rfl|exact ⟨_,rfl,rfl,rfl⟩|exact ⟨_,rfl,rfl⟩
def jobV (j:JS) (g off:Int) (s:Txt) (l1 nx:Int) (y:Ent2):List AV:=jobP j.x g off s l1 nx y j.q j.loc j.old
attribute [go_sem] jobV
def jstep (l1 g off:Int) (s:Txt) (j:JS):Nat→JS
 |0=>⟨j.x,(rtake j.x.disk p0 j.x.geom).1,(rtake j.x.disk p0 j.x.geom).2.1,j.old,(rtake j.x.disk p0 j.x.geom).2.2⟩
 |1=>⟨j.x,j.q,j.loc,(cread j.x.disk l1 g).1,(cread j.x.disk l1 g).2⟩
 |2=>⟨wdisk j.x (layL j.x.disk (zaU j.loc (overS j.old off s).1)).1,j.q,j.loc,j.old,(layL j.x.disk (zaU j.loc (overS j.old off s).1)).2⟩
 |3=>⟨j.x,(ppoint j.x.disk j.q j.x.geom g ⟨1,j.loc⟩).1,j.loc,j.old,(ppoint j.x.disk j.q j.x.geom g ⟨1,j.loc⟩).2⟩
 |_=>⟨(cdone j.x j.q).1,j.q,j.loc,j.old,(cdone j.x j.q).2⟩
def jsAt (X:Img) (l1 g off:Int) (s:Txt):Nat→JS
 |0=>⟨X,p0,0,[],0⟩
 |k+1=>if (jsAt X l1 g off s k).e≠0 then jsAt X l1 g off s k else jstep l1 g off s (jsAt X l1 g off s k) k
theorem zxE (X:Img) (l1 g off:Int) (s:Txt):zcD X l1 g off s=((jsAt X l1 g off s 5).x,(jsAt X l1 g off s 5).e):=by
 unfold zcD
 simp only [jsAt,jstep]
 repeat' split
 all_goals simp_all
theorem zsP (X:Img) (g off:Int) (s:Txt):zeJ X g off s=if (zeb X g).2≠0 then (X,(zeb X g).2) else zfg X (zC X.disk p0).1.l1 (zeb X g).1 g off s:=by
 unfold zeJ zeb
 by_cases h1:(zC X.disk p0).2=0
 ·simp only [h1,ne_eq,not_true_eq_false,if_false]
 ·simp only [h1,ne_eq,not_false_eq_true,if_true]
theorem zu0 {d:Disk} {p:Plan} {k:Int} (h:(rget d p k).2≠0):(rget d p k).1=0:=by
 unfold rget at h ⊢
 split
 ·rfl
 rename_i h1
 rw [if_neg h1] at h
 split
 ·rfl
 rename_i h2
 rw [if_neg h2] at h
 exact absurd rfl h
theorem zqC {X:Img} {g:Int} (h:(zeb X g).1.kind=1):zV (zeb X g).1.loc=true:=by
 unfold zeb at h ⊢
 split
 ·rename_i h1;rw [if_pos h1] at h;cases h
 ·rename_i h1;rw [if_neg h1] at h;exact zfF h
theorem ImgF.dp {x:Img} (h:ImgF x):DP x.disk p0:=⟨h.disk,zcc⟩
theorem zvN {X:Img} {l1 g off:Int} {s:Txt} (hX:ImgF X) (h0:0≤off) (h1:off+s.length≤128):∀k,k≤4→ImgF (jsAt X l1 g off s k).x∧pfit (jsAt X l1 g off s k).q=true∧
  ((jsAt X l1 g off s k).e=0→(1≤k→zV (jsAt X l1 g off s k).loc=true)∧(k≤1→(jsAt X l1 g off s k).old= [])∧(2≤k→(jsAt X l1 g off s k).old.length=128)∧(k=0→(jsAt X l1 g off s k).q=p0∧(jsAt X l1 g off s k).loc=0))
 |0,_=>⟨hX,zcc,fun _=>⟨fun h=>by omega,fun _=>rfl,fun h=>by omega,fun _=>⟨rfl,rfl⟩⟩⟩
 | k+1,hk=>by
  obtain ⟨i1,i2,i3⟩:=zvN hX h0 h1 k (by omega)
  rw [jsAt]
  split
  ·rename_i he
   exact ⟨i1,i2,fun h=>absurd h he⟩
  ·rename_i he
   have he:(jsAt X l1 g off s k).e=0:=by omega
   obtain ⟨j1,j2,j3,j4⟩:=i3 he
   match k,hk,i1,i2,j1,j2,j3,j4 with
   |0,_,i1,i2,j1,j2,j3,j4=>
    exact ⟨i1,(i1.dp.rtake _).p,fun h=>⟨fun _=>zjG h,fun _=>j2 (by omega),fun h=>by omega,fun h=>by omega⟩⟩
   |1,_,i1,i2,j1,j2,j3,j4=>
    exact ⟨i1,i2,fun h=>⟨fun _=>j1 (by omega),fun h=>by omega,fun _=>zff i1.disk.puts h,fun h=>by omega⟩⟩
   |2,_,i1,i2,j1,j2,j3,j4=>
    exact ⟨i1.wd (DiskF.layL _ i1.disk),i2,fun h=>⟨fun _=>j1 (by omega),fun h=>by omega,fun _=>j3 (by omega),fun h=>by omega⟩⟩
   |3,_,i1,i2,j1,j2,j3,j4=>
    exact ⟨i1,(DP.ppoint ⟨i1.disk,i2⟩ _ _ _).p,fun h=>⟨fun _=>j1 (by omega),fun h=>by omega,fun _=>j3 (by omega),fun h=>by omega⟩⟩
def jrow (f:FuncId):List AV:= [.fn (.func f) [.vp 2 0] []]
def zvO:List (List AV):= [jrow 153,jrow 154,jrow 155,jrow 156,jrow 157]
attribute [go_sem] jrow zvO
set_option maxHeartbeats 1600000 in
theorem znS (x:Img) (guest off:Int) (s:Txt) (hp:ImgF x∧x.maps.length≤5000∧s.length≤9223372036854775807):AC 120 [imgA x,.d (.int .i64 guest),.d (.int .i64 off),.d (.str s)] (.tup [imgA (zbk x guest off s).1,.d (.int .i64 (zbk x guest off s).2)]):=by
 obtain ⟨h,hm,hs⟩:=hp
 refine fbod Tryz.func120 Tryz.ntmps120 (fun base=>?_)
 have hi:=h.ok
 obtain ⟨Z,hZ⟩:∃Z,Z=zbk x guest off s:=⟨_,rfl⟩
 rw [← hZ]
 refine' zh6 (zbh 3) fx (za zbn <| zb _)
 ·rw [hZ,zbk,if_pos hc]
 have hbr2:=hc
 have hbr:¬x.broken=true:=by rw [hbr2];exact fun h=>by cases h
 by_cases hrg:guest<0∨x.geom.guest≤guest∨off<0∨128 - (s.length:Int)<off
 ·have hw0:IntKind.i64.wrap (128 - (s.length:Int))=128 - s.length:=ze (by omega) (by omega)
  have hdec:(decide (guest<0)||decide (x.geom.guest≤guest)||decide (off<0)||decide (128 - (s.length:Int)<off))=true:=by
   simp only [Bool.or_eq_true,decide_eq_true_eq];omega
  refine' walkW (zk hw0 hdec) (za zbn <| zb _)
  rw [hZ,zbk,if_neg hbr,if_pos hrg]
 have hw0:IntKind.i64.wrap (128 - (s.length:Int))=128 - s.length:=ze (by omega) (by omega)
 have hdec:(decide (guest<0)||decide (x.geom.guest≤guest)||decide (off<0)||decide (128 - (s.length:Int)<off))=false:=by
  simp only [Bool.or_eq_false_iff,decide_eq_false_iff_not];omega
 by_cases hs0:s= []
 ·have hse:(s== [])=true:=by rw [hs0];rfl
  refine' walkW (zr hw0 hdec hse) (za zbn <| zb _)
  rw [hZ,zbk,if_neg hbr,if_neg hrg,if_pos hs0]
 have hse:(s== [])=false:=by simpa using hs0
 refine' zh6 (zbh 8) (zr hw0 hdec hse) (za zbn <| zb _)
 rw [zbk,if_neg hbr,if_neg hrg,if_neg hs0] at hZ
 have hX:=h.mark guest
 revert hX hZ
 generalize cmark x guest=X
 intro hZ hX
 refine aw_le ⟨[(4,true,.vp 0 0),(8,true,.vp 1 0),(10,true,.vp 2 0)],[(2,.var (jobP X guest off s 0 0 ⟨0,0⟩ p0 0 [])),(1,.var img0),(0,.var (imgV x))],some []⟩ le1 ?_
 rw [zsP] at hZ
 have hk1:(zeb X guest).1.kind=1→zV (zeb X guest).1.loc=true:=zqC
 obtain ⟨r,hr⟩:∃r,r=zC X.disk p0:=⟨_,rfl⟩
 obtain ⟨y,hy⟩:∃y,y=zeb X guest:=⟨_,rfl⟩
 refine' zc fx
 refine (zco (fix1 (zuV X guest off s hX)) (by decide) rfl zdZ (by simp [AV.idsL,AV.ids])).mono ?_
 rintro r1 h' ⟨rfl,rfl⟩
 rw [← hr,← hy]
 simp only [go_sem,aeq,aeq.aeqF,simprocAttr]
 rw [← hr,← hy] at hZ
 rw [← hy] at hk1
 refine' zdS (zbh 12) fx
 ·rw [hZ,if_pos (bneP hc)]
 rw [if_neg (bneN hc)] at hZ
 refine' zc fx
 refine (zco (fix1 (zsN X guest off s r.1.l1 r.1.next y.1 hX)) (by decide) rfl zdZ (by simp [AV.idsL,AV.ids])).mono ?_
 rintro r1 h' ⟨rfl,rfl⟩
 simp only [go_sem,aeq,aeq.aeqF,simprocAttr]
 obtain ⟨n,hn⟩:∃n,n=rget X.disk p0 y.1.loc:=⟨_,rfl⟩
 have hn0:n.2≠0→n.1=0:=by rw [hn];exact zu0
 rw [← hn]
 obtain ⟨b,hb⟩:∃b,b=if y.1.kind=1 then decide (n.1≤1) else false:=⟨_,rfl⟩
 obtain ⟨e,he⟩:∃e,e=if y.1.kind=1 then n.2 else 0:=⟨_,rfl⟩
 rw [← hb,← he]
 rw [zfg,← hn] at hZ
 cases b with
 | true=>
  obtain ⟨hk,hn1⟩:y.1.kind=1∧n.1≤1:=by
   by_cases hk:y.1.kind=1
   ·rw [if_pos hk] at hb;exact ⟨hk,of_decide_eq_true hb.symm⟩
   ·rw [if_neg hk] at hb;cases hb
  rw [if_pos hk] at hZ he
  have hho:=hk1 hk
  refine' zc fx
  obtain ⟨S,hS⟩:∃S:Nat→Img×Int,S=fun k=>if k=0 then (X,e) else Z:=⟨_,rfl⟩
  have hS0:S 0=(X,e):=by rw [hS];rfl
  have hS1:S 1=Z:=by rw [hS];rfl
  refine zo (fun q: { k:Nat // k≤1 } =>⟨[(4,true,.vp 0 0),(8,true,.vp 1 0),(10,true,.vp 2 0),(14,true,.d (.int .i64 (S q.1).2)),(84,true,.asl 1 [jrow 159]),(85,true,.d (.int .i64 1)),(86,true,.d (.int .i64 q.1))],[(2,.var (jobP (S q.1).1 guest off s r.1.l1 r.1.next y.1 p0 0 [])),(1,.var img0),(0,.var (imgV x))],some []⟩) (fun q=>1 - q.1) ⟨0,Nat.zero_le _⟩ (by simp only [hS0];simp only [AS.le,leT,leH,zf,AsgK,AV.le,AV.leL,AObj.le,inH,idsT,idsH,AV.ids,AV.idsL,AV.idsR,AObj.ids,lk,hget,go_sem,aeq,aeq.aeqF,simprocAttr]<;>and_intros<;>rfl) (fun q=>?_)
  obtain ⟨k,hkk⟩:=q
  simp only
  have hc0:((0:Nat):Int)=0:=rfl
  have hc1:((1:Nat):Int)=1:=rfl
  have hw1:IntKind.i64.wrap 1=1:=by decide
  have h2:k=0∨k=1:=by omega
  rcases h2 with rfl|rfl
  ·simp only [hS0]
   by_cases hez:e=0
   ·have heb:(e==0)=true:=beq_iff_eq.2 hez
    rw [if_neg (by omega),if_pos hn1] at hZ
    refine' zc (zr hc0 hw1 heb)
    refine (zco (fix1 (znR X guest off s r.1.l1 r.1.next y.1 hX hho (by omega) (by omega))) (by decide) rfl zdZ (by simp [AV.idsL,AV.ids])).mono ?_
    rintro r1 h' ⟨rfl,rfl⟩
    simp only [go_sem,aeq,aeq.aeqF,simprocAttr]
    refine' zc (zr hc0 hw1 heb)
    exact ⟨⟨1,by omega⟩,by simp only [hS1,hZ];simp only [AS.le,leT,leH,zf,AsgK,AV.le,AV.leL,AObj.le,inH,idsT,idsH,AV.ids,AV.idsL,AV.idsR,AObj.ids,lk,hget,go_sem,aeq,aeq.aeqF,simprocAttr,hw1]<;>and_intros<;>rfl,by simp⟩
   ·have heb:(e==0)=false:=beq_eq_false_iff_ne.2 hez
    rw [if_pos (by omega)] at hZ
    refine' zc (zr hc0 hw1 heb)
    exact ⟨⟨1,by omega⟩,by simp only [hS1,hZ,he];simp only [AS.le,leT,leH,zf,AsgK,AV.le,AV.leL,AObj.le,inH,idsT,idsH,AV.ids,AV.idsL,AV.idsR,AObj.ids,lk,hget,go_sem,aeq,aeq.aeqF,simprocAttr,hw1]<;>and_intros<;>rfl,by simp⟩
  ·simp only [hS1]
   refine' zc hc1
 | false=>
  have hn2:y.1.kind=1→¬n.2≠0∧¬n.1≤1:=fun hk=>by
   rw [if_pos hk] at hb
   have:=of_decide_eq_false hb.symm
   exact ⟨fun h=>this (by rw [hn0 h];decide),this⟩
  have hZ4:Z=zcD X r.1.l1 guest off s:=by
   by_cases hk:y.1.kind=1
   ·rw [if_pos hk,if_neg (hn2 hk).1,if_neg (hn2 hk).2] at hZ;exact hZ
   ·rw [if_neg hk] at hZ;exact hZ
  have he0:e=0:=by
   by_cases hk:y.1.kind=1
   ·rw [if_pos hk] at he;have:=(hn2 hk).1;omega
   ·rw [if_neg hk] at he;exact he
  rw [he0]
  clear hZ he he0 hb hn2
  refine' zc fx
  rw [zxE] at hZ4
  have hinv:=zvN (X:=X) (l1:=r.1.l1) (g:=guest) (off:=off) (s:=s) hX (by omega) (by omega)
  obtain ⟨S,hS⟩:∃S:Nat→JS,S=jsAt X r.1.l1 guest off s:=⟨_,rfl⟩
  have hSs:∀k,S (k+1)=if (S k).e≠0 then S k else jstep r.1.l1 guest off s (S k) k:=fun k=>by rw [hS,jsAt]
  have hS0:S 0=⟨X,p0,0,[],0⟩:=by rw [hS];rfl
  rw [← hS] at hZ4 hinv
  clear hS
  refine zo (fun q: { k:Nat // k≤5 } =>⟨[(4,true,.vp 0 0),(8,true,.vp 1 0),(10,true,.vp 2 0),(14,true,.d (.int .i64 (S q.1).e)),(84,true,.asl 1 zvO),(85,true,.d (.int .i64 5)),(86,true,.d (.int .i64 q.1))],[(2,.var (jobV (S q.1) guest off s r.1.l1 r.1.next y.1)),(1,.var img0),(0,.var (imgV x))],some []⟩) (fun q=>5 - q.1) ⟨0,Nat.zero_le _⟩ (by simp only [hS0];simp only [AS.le,leT,leH,zf,AsgK,AV.le,AV.leL,AObj.le,inH,idsT,idsH,AV.ids,AV.idsL,AV.idsR,AObj.ids,lk,hget,go_sem,aeq,aeq.aeqF,simprocAttr]<;>and_intros<;>rfl) (fun q=>?_)
  obtain ⟨k,hkk⟩:=q
  simp only
  have hw:∀m:Nat,m<10→IntKind.i64.wrap ((m:Int)+1)=((m+1:Nat):Int):=fun m hm=>zn (by omega)
  have hwk:=hw k (by omega)
  rcases Nat.lt_or_ge k 5 with hlt|hge
  ·have hcmp:decide ((k:Int)<5)=true:=decide_eq_true (by omega)
   have hSk:=hSs k
   obtain ⟨i1,i2,i3⟩:=hinv k (by omega)
   obtain ⟨j,hj⟩:∃j,j=S k:=⟨_,rfl⟩
   obtain ⟨jn,hjn⟩:∃jn,jn=S (k+1):=⟨_,rfl⟩
   rw [← hj] at hSk i1 i2 i3 ⊢
   rw [← hjn] at hSk
   have h5:k=0∨k=1∨k=2∨k=3∨k=4:=by omega
   obtain ⟨jx,jq,jl,jo,je⟩:=j
   simp only at i1 i2 i3
   by_cases hez:je=0
   ·obtain ⟨j1,j2,j3,j4⟩:=i3 hez
    rw [if_neg (show ¬je≠0 by omega)] at hSk
    have heb:(je==0)=true:=beq_iff_eq.2 hez
    rcases h5 with rfl|rfl|rfl|rfl|rfl
    ·obtain ⟨rfl,rfl⟩:=j4 rfl
     obtain rfl:=j2 (by omega)
     refine' zc (zr hcmp heb natC)
     refine (zco (fix1 (zuW jx guest off s r.1.l1 r.1.next y.1 i1)) (by decide) rfl zdZ (by simp [AV.idsL,AV.ids])).mono ?_
     rintro r1 h' ⟨rfl,rfl⟩
     simp only [go_sem,aeq,aeq.aeqF,simprocAttr]
     refine' zc fx
     exact ⟨⟨1,by omega⟩,by simp only [← hjn,hSk,jstep];simp only [AS.le,leT,leH,zf,AsgK,AV.le,AV.leL,AObj.le,inH,idsT,idsH,AV.ids,AV.idsL,AV.idsR,AObj.ids,lk,hget,go_sem,aeq,aeq.aeqF,simprocAttr,hwk]<;>and_intros<;>rfl,by simp⟩
    ·obtain rfl:=j2 (by omega)
     refine' zc (zr hcmp heb natC)
     refine (zco (fix1 (zuX jx guest off s r.1.l1 r.1.next y.1 jq jl i1)) (by decide) rfl zdZ (by simp [AV.idsL,AV.ids])).mono ?_
     rintro r1 h' ⟨rfl,rfl⟩
     simp only [go_sem,aeq,aeq.aeqF,simprocAttr]
     refine' zc fx
     exact ⟨⟨2,by omega⟩,by simp only [← hjn,hSk,jstep];simp only [AS.le,leT,leH,zf,AsgK,AV.le,AV.leL,AObj.le,inH,idsT,idsH,AV.ids,AV.idsL,AV.idsR,AObj.ids,lk,hget,go_sem,aeq,aeq.aeqF,simprocAttr,hwk]<;>and_intros<;>rfl,by simp⟩
    ·refine' zc (zr hcmp heb natC)
     refine (zco (fix1 (zuZ jx guest off s r.1.l1 r.1.next y.1 jq jl jo i1 (j1 (by omega)) (j3 (by omega)) (by omega) (by omega))) (by decide) rfl zdZ (by simp [AV.idsL,AV.ids])).mono ?_
     rintro r1 h' ⟨rfl,rfl⟩
     simp only [go_sem,aeq,aeq.aeqF,simprocAttr]
     refine' zc fx
     exact ⟨⟨3,by omega⟩,by simp only [← hjn,hSk,jstep];simp only [AS.le,leT,leH,zf,AsgK,AV.le,AV.leL,AObj.le,inH,idsT,idsH,AV.ids,AV.idsL,AV.idsR,AObj.ids,lk,hget,go_sem,aeq,aeq.aeqF,simprocAttr,hwk]<;>and_intros<;>rfl,by simp⟩
    ·refine' zc (zr hcmp heb natC)
     refine (zco (fix1 (zsO jx guest off s r.1.l1 r.1.next y.1 jq jl jo i1 i2)) (by decide) rfl zdZ (by simp [AV.idsL,AV.ids])).mono ?_
     rintro r1 h' ⟨rfl,rfl⟩
     simp only [go_sem,aeq,aeq.aeqF,simprocAttr]
     refine' zc fx
     exact ⟨⟨4,by omega⟩,by simp only [← hjn,hSk,jstep];simp only [AS.le,leT,leH,zf,AsgK,AV.le,AV.leL,AObj.le,inH,idsT,idsH,AV.ids,AV.idsL,AV.idsR,AObj.ids,lk,hget,go_sem,aeq,aeq.aeqF,simprocAttr,hwk]<;>and_intros<;>rfl,by simp⟩
    ·refine' zc (zr hcmp heb natC)
     refine (zco (fix1 (zuY jx guest off s r.1.l1 r.1.next y.1 jq jl jo i1 i2)) (by decide) rfl zdZ (by simp [AV.idsL,AV.ids])).mono ?_
     rintro r1 h' ⟨rfl,rfl⟩
     simp only [go_sem,aeq,aeq.aeqF,simprocAttr]
     refine' zc fx
     exact ⟨⟨5,by omega⟩,by simp only [← hjn,hSk,jstep];simp only [AS.le,leT,leH,zf,AsgK,AV.le,AV.leL,AObj.le,inH,idsT,idsH,AV.ids,AV.idsL,AV.idsR,AObj.ids,lk,hget,go_sem,aeq,aeq.aeqF,simprocAttr,hwk]<;>and_intros<;>rfl,by simp⟩
   ·have heb:(je==0)=false:=beq_eq_false_iff_ne.2 hez
    rw [if_pos hez] at hSk
    rcases h5 with rfl|rfl|rfl|rfl|rfl
    all_goals refine' zc (zr hcmp heb natC)
    ·exact ⟨⟨1,by omega⟩,by simp only [← hjn,hSk];simp only [AS.le,leT,leH,zf,AsgK,AV.le,AV.leL,AObj.le,inH,idsT,idsH,AV.ids,AV.idsL,AV.idsR,AObj.ids,lk,hget,go_sem,aeq,aeq.aeqF,simprocAttr,hwk]<;>and_intros<;>rfl,by simp⟩
    ·exact ⟨⟨2,by omega⟩,by simp only [← hjn,hSk];simp only [AS.le,leT,leH,zf,AsgK,AV.le,AV.leL,AObj.le,inH,idsT,idsH,AV.ids,AV.idsL,AV.idsR,AObj.ids,lk,hget,go_sem,aeq,aeq.aeqF,simprocAttr,hwk]<;>and_intros<;>rfl,by simp⟩
    ·exact ⟨⟨3,by omega⟩,by simp only [← hjn,hSk];simp only [AS.le,leT,leH,zf,AsgK,AV.le,AV.leL,AObj.le,inH,idsT,idsH,AV.ids,AV.idsL,AV.idsR,AObj.ids,lk,hget,go_sem,aeq,aeq.aeqF,simprocAttr,hwk]<;>and_intros<;>rfl,by simp⟩
    ·exact ⟨⟨4,by omega⟩,by simp only [← hjn,hSk];simp only [AS.le,leT,leH,zf,AsgK,AV.le,AV.leL,AObj.le,inH,idsT,idsH,AV.ids,AV.idsL,AV.idsR,AObj.ids,lk,hget,go_sem,aeq,aeq.aeqF,simprocAttr,hwk]<;>and_intros<;>rfl,by simp⟩
    ·exact ⟨⟨5,by omega⟩,by simp only [← hjn,hSk];simp only [AS.le,leT,leH,zf,AsgK,AV.le,AV.leL,AObj.le,inH,idsT,idsH,AV.ids,AV.idsL,AV.idsR,AObj.ids,lk,hget,go_sem,aeq,aeq.aeqF,simprocAttr,hwk]<;>and_intros<;>rfl,by simp⟩
  ·have hcmp:decide ((k:Int)<5)=false:=decide_eq_false (by omega)
   obtain rfl:k=5:=by omega
   refine' zc hcmp
   all_goals rw [hZ4]
@[go_sem] noncomputable def zaK:Ent Tryz.prog 120:= .m4 zaO (intT .i64) (intT .i64) strT znS
end Go.Aw
