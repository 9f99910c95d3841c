/-
  Parts of the proof: CowH, CowL, CowM, CowQ (short names; the readable texts lie in the repo, under wip).
-/
import Derived.Test.YtbmlikkofegdeaaGreatDoorPiece31
import Derived.Test.YtbmlikkofegdeaaGreatDoorPiece17
import Derived.Test.YtbmlikkofegdeaaGreatDoorPiece8
set_option maxRecDepth 100000
set_option maxHeartbeats 2000000
set_option linter.unusedSimpArgs false
set_option linter.unusedVariables false
namespace Go.Aw
open Go Go.Proofs
def plF (d:Disk) (k off:Int) (s:Txt):Nat->Disk
 |0=>d
 |n+1=>(cput1 (plF d k off s n) k off s n).1
@[simp, go_sem] theorem plF_0 (d:Disk) (k off:Int) (s:Txt):plF d k off s 0=d:=rfl
theorem DiskF.plF {d:Disk} (h:DiskF d) (k off:Int) (s:Txt):∀n,DiskF (plF d k off s n)
 |0=>h
 |n+1=>(DiskF.plF h k off s n).cput1 k off s n
theorem zxs {k:Int} {ys zs:List (Int×Int)} {q:Int×Int} (h:sectI k=ys++q::zs):ys.length<2/\q=(96+2*k+(ys.length:Int),(ys.length:Int)*64):=by
 rcases zhq h with ⟨rfl,rfl⟩|⟨rfl,rfl⟩
 ·refine ⟨by simp,?_⟩;simp
 ·refine ⟨by simp,?_⟩;simp
theorem zos (x:Img) (g off:Int) (s:Txt) (l1 nx:Int) (y:Ent2) (h:ImgF x) (ha:zG y.loc=true) (h0:0<=off) (h1:off+s.length<=128):ACall Tryz.prog 88 20 [.vp 2 0] [(2,.var (jobP x g off s l1 nx y p0 0 []))] (λr h'=>∃ob',h'= [(2,ob')]/\(r= .d (.int .i64 (zgQ x.disk y.loc off s).2))/\ob'= .var (jobP (wdisk x (zgQ x.disk y.loc off s).1) g off s l1 nx y p0 0 [])):=by
 refine zC (λi=>decide (i<20)) ?_;refine bod Tryz.func88 Tryz.ntmps88 (λbase=>?_);have ha2:=hostOk_iff.1 ha;have hx:=h.disk;obtain ⟨L,hL⟩:∃L,L=zgQ x.disk y.loc off s:=⟨_,rfl⟩
 rw [<-hL];refine' walkR fx (za zo <| za zF <| za zk <| za zD <| za zE <| za zR <| za zp <| za zt <| za zaa <| za zy <| za zv <| zb _);obtain ⟨I,hI⟩:∃I:List (List AV)->AHeap×Option (List (List AV)),I=λxs=>([(21,.var [.d (.int .i64 0)]),(20,.var [.vp 2 0]),(2,.var (jobP (wdisk x (plF x.disk y.loc off s xs.length)) g off s l1 nx y p0 0 []))],some []):=⟨_,rfl⟩
 obtain ⟨G,hG⟩:∃G:List (List AV)->Prop,G=λxs=>L=zcV y.loc off s (2 - xs.length) xs.length (plF x.disk y.loc off s xs.length):=⟨_,rfl⟩
 obtain ⟨J,hJ⟩:∃J:Code->AHeap->Option (List (List AV))->Prop,J=λc h gg=>c= .ret/\gg=some []/\h= [(21,.var [.d (.int .i64 L.2)]),(20,.var [.vp 2 0]),(2,.var (jobP (wdisk x L.1) g off s l1 nx y p0 0 []))]:=⟨_,rfl⟩
 refine aw_le ⟨[(1,true,.vp 20 0),(2,true,.vp 21 0),(14,true,.fn (.func 205) [] [.dp [.d (.int .i64 y.loc)]])],[(21,.var [.d (.int .i64 0)]),(20,.var [.vp 2 0]),(2,.var (jobP x g off s l1 nx y p0 0 []))],some []⟩ le0 ?_;refine zbk 100 G I J (zgq 100 y.loc (by omega) (by omega)) (by simp only [go_sem,aeq,aeq.aeqF,simprocAttr]) rfl (zJ rfl) (by simp [cxOf,cxY]) rfl (by rw [hG];first|trivial|rfl|simp) (by rw [hI];simp only [AS.le,leT,leH,zf,AsgK,AV.le,AV.leL,AObj.le,inH,idsT,idsH,AV.ids,AV.idsL,AV.idsR,AObj.ids,lk,hget,go_sem,aeq,aeq.aeqF,simprocAttr]<;>simp [AV.leL,AV.le]) (by rw [hI];simp only [AS.le,leT,leH,zf,AsgK,AV.le,AV.leL,AObj.le,inH,idsT,idsH,AV.ids,AV.idsL,AV.idsR,AObj.ids,lk,hget,go_sem,aeq,aeq.aeqF,simprocAttr]<;>simp) (by rw [hI]<;>rfl) (by intro x hx;obtain ⟨q,_,rfl⟩:=List.mem_map.1 hx;rfl) (by intro t ht;simp at ht;first|(rcases ht with rfl|rfl<;>simp [cxOf,cxY]<;>done)|(subst ht;simp [cxOf,cxY])) ?_ ?_ ?_
 ·intro xs x1 hpre hgd l1' r1;obtain ⟨ys,qq,zs,hys,rfl,hzl⟩:=zcS hpre;have hln:xs.length=ys.length:=by rw [hys];simp
  rw [hG] at hgd;obtain ⟨hi2,rfl⟩:=zxs hzl;rw [<-hln] at hi2 ⊢;obtain ⟨i,hi⟩:∃i,i=xs.length:=⟨_,rfl⟩
  have hsn:(xs++ [zam (96+2*y.loc+(i:Int),(i:Int)*64)]).length=i+1:=by simp [hi]
  rw [<-hi] at hgd hi2 ⊢;obtain ⟨d,hd⟩:∃d,d=plF x.disk y.loc off s i:=⟨_,rfl⟩
  have hF:DiskF d:=by rw [hd];exact hx.plF _ _ _ _
  have hd1:=hF.ok;have hd2:=hF.puts;have hps:plF x.disk y.loc off s (i+1)=(cput1 d y.loc off s i).1:=by rw [plF,<-hd]
  rw [<-hd,show 2 - i=(2 - (i+1))+1 by omega,zcV] at hgd;simp only [zam] at hsn ⊢;have hwi:=zr (i:=i) (by omega);have hw2:IntKind.i64.wrap ((i:Int)*64+64)=(i+1)*64:=by rw [zg (by omega) (by omega)];omega
  have hw3:IntKind.i64.wrap (off+(s.length:Int))=off+s.length:=zg (by omega) (by omega);obtain ⟨A,hA⟩:∃A,A=max off ((i:Int)*64):=⟨_,rfl⟩
  obtain ⟨B,hB⟩:∃B,B=min (off+(s.length:Int)) (((i:Int)+1)*64):=⟨_,rfl⟩
  have hA1:imax off ((i:Int)*64)=A:=by rw [hA];unfold imax;split<;>omega
  have hB1:imin (off+(s.length:Int)) (((i:Int)+1)*64)=B:=by rw [hB];unfold imin;split<;>omega
  have hc1:cput1 d y.loc off s i=if B<=A then (d,0) else if (dread d (96+2*y.loc+i)).2≠0 then (d,(dread d (96+2*y.loc+i)).2) else zM d (96+2*y.loc+i) (overS (dread d (96+2*y.loc+i)).1 (A - i*64) ((s.take (B - off).toNat).drop (A - off).toNat)).1:=by rw [cput1,cputT,<-hA,<-hB]
  have hl:=zgI (at_:=96+2*y.loc+i) hd2;refine aw_le ⟨[(15,true,.d (.int .i64 (96+2*y.loc+i))),(16,true,.d (.int .i64 (i*64))),(1,true,.vp 20 0),(2,true,.vp 21 0)],[(21,.var [.d (.int .i64 0)]),(20,.var [.vp 2 0]),(2,.var (jobP (wdisk x d) g off s l1 nx y p0 0 []))],some []⟩ (by rw [hI];simp only [<-hi,<-hd];simp only [AS.le,leT,leH,zf,AsgK,AV.le,AV.leL,AObj.le,inH,idsT,idsH,AV.ids,AV.idsL,AV.idsR,AObj.ids,lk,hget,go_sem,aeq,aeq.aeqF,simprocAttr,wdisk]) ?_;by_cases hab:B<=A
  ·have hb:decide (B<=A)=true:=decide_eq_true hab;rw [if_pos hab] at hc1;rw [hc1] at hgd hps;refine' walkR (zL hwi hw2 hw3 hA1 hB1 (zah hb hI hsn hps)) (za zo <| za zF <| za zk <| za zD <| za zE <| za zR <| za zp <| za zt <| za zaa <| za zy <| za zv <| zb _);rw [hG];simp only [hsn,hps];rw [if_neg (by simp)] at hgd;exact hgd
  ·have hb:decide (B<=A)=false:=decide_eq_false hab;rw [if_neg hab] at hc1;have hw5:IntKind.i64.wrap (A - off)=A - off:=zg (by omega) (by omega);have hw6:IntKind.i64.wrap (B - off)=B - off:=zg (by omega) (by omega);have hw7:IntKind.i64.wrap (A - (i:Int)*64)=A - i*64:=zg (by omega) (by omega);have hsl:((s.take (B - off).toNat).drop (A - off).toNat).length<=9223372036854775807:=by simp;omega
   obtain ⟨b,hbb⟩:∃b,b=(overS (dread d (96+2*y.loc+i)).1 (A - i*64) ((s.take (B - off).toNat).drop (A - off).toNat)).1:=⟨_,rfl⟩
   rw [<-hbb] at hc1;refine' zki (zav 9) (zL hwi hw2 hw3 hw5 hw6 (zL hw7 hA1 hB1 hb hbb.symm (zn hI hsn))) (za zo <| za zF <| za zk <| za zD <| za zE <| za zR <| za zp <| za zt <| za zaa <| za zy <| za zv <| zb _)
   ·rw [hJ];rw [if_pos (bneP hc)] at hc1;rw [hc1,if_pos (bneP hc)] at hgd;exact ⟨rfl,rfl,by rw [hgd];rfl⟩
   rw [if_neg (bneN hc)] at hc1;refine' zki (zav 10) (zL hwi hw2 hw3 hw5 hw6 (zL hw7 hA1 hB1 hb hbb.symm (zn hI hsn))) (za zo <| za zF <| za zk <| za zD <| za zE <| za zR <| za zp <| za zt <| za zaa <| za zy <| za zv <| zb _);have hFn:=hF.write (96+2*y.loc+i) b;refine' zaO fx;refine (zdc (fix1 (zi8 (wdisk x d) g off s l1 nx y p0 0 [] (96+2*y.loc+i) b hd1)) (by decide) rfl zd0 (by simp [AV.idsL,AV.ids])).mono ?_;rintro r h' ⟨rfl,rfl⟩;simp only [go_sem,aeq,aeq.aeqF,simprocAttr];refine' zaO (zah hI hsn hps hc1)
   ·rw [hJ];rw [hc1,if_pos (bneP hc)] at hgd;exact ⟨rfl,rfl,by rw [hgd];rfl⟩
   ·rw [hG];simp only [hsn,hps];rw [hc1,if_neg (bneN hc)] at hgd;rw [hc1];exact hgd
 ·intro hgd;rw [hG] at hgd;have hgd':L=(plF x.disk y.loc off s 2,0):=hgd;rw [hI];refine' walkR fx (za zo <| za zF <| za zk <| za zD <| za zE <| za zR <| za zp <| za zt <| za zaa <| za zy <| za zv <| zb _);all_goals try rfl
  rw [hgd'];exact ⟨_,rfl,rfl,rfl⟩
 ·rw [hJ];rintro c h3 g3 ⟨rfl,rfl,rfl⟩;refine' walkR fx (za zo <| za zF <| za zk <| za zD <| za zE <| za zR <| za zp <| za zt <| za zaa <| za zy <| za zv <| zb _);all_goals first|rfl|exact ⟨_,rfl,rfl,rfl⟩|exact ⟨_,rfl,rfl⟩
def jobV (j:JS) (g off:Int) (s:Txt) (l1 nx:Int) (y:Ent2):List AV:=jobP j.x g off s l1 nx y j.q j.loc j.old
attribute [go_sem] jobV
def jstep (l1 g off:Int) (s:Txt) (j:JS):Nat->JS
 |0=>⟨j.x,(rtake j.x.disk p0 j.x.geom).1,(rtake j.x.disk p0 j.x.geom).2.1,j.old,(rtake j.x.disk p0 j.x.geom).2.2⟩
 |1=>⟨j.x,j.q,j.loc,(cread j.x.disk l1 g).1,(cread j.x.disk l1 g).2⟩
 |2=>⟨wdisk j.x (layL j.x.disk (zbO j.loc (overS j.old off s).1)).1,j.q,j.loc,j.old,(layL j.x.disk (zbO j.loc (overS j.old off s).1)).2⟩
 |3=>⟨j.x,(ppoint j.x.disk j.q j.x.geom g ⟨1,j.loc⟩).1,j.loc,j.old,(ppoint j.x.disk j.q j.x.geom g ⟨1,j.loc⟩).2⟩
 |_=>⟨(cdone j.x j.q).1,j.q,j.loc,j.old,(cdone j.x j.q).2⟩
def jsAt (X:Img) (l1 g off:Int) (s:Txt):Nat->JS
 |0=>⟨X,p0,0,[],0⟩
 |k+1=>if (jsAt X l1 g off s k).e≠0 then jsAt X l1 g off s k else jstep l1 g off s (jsAt X l1 g off s k) k
theorem zyu (X:Img) (l1 g off:Int) (s:Txt):zdZ X l1 g off s=((jsAt X l1 g off s 5).x,(jsAt X l1 g off s 5).e):=by
 unfold zdZ;simp only [jsAt,jstep];repeat' split
 all_goals simp_all
theorem ztn (X:Img) (g off:Int) (s:Txt):zho X g off s=if (zei X g).2≠0 then (X,(zei X g).2) else zhn X (ze X.disk p0).1.l1 (zei X g).1 g off s:=by
 unfold zho zei;by_cases h1:(ze X.disk p0).2=0
 ·simp only [h1,ne_eq,not_true_eq_false,if_false]
 ·simp only [h1,ne_eq,not_false_eq_true,if_true]
theorem zvI {d:Disk} {p:Plan} {k:Int} (h:(rget d p k).2≠0):(rget d p k).1=0:=by
 unfold rget at h ⊢;split
 ·rfl
 rename_i h1;rw [if_neg h1] at h;split
 ·rfl
 rename_i h2;rw [if_neg h2] at h;exact absurd rfl h
theorem zq6 {X:Img} {g:Int} (h:(zei X g).1.kind=1):zG (zei X g).1.loc=true:=by
 unfold zei at h ⊢;split
 ·rename_i h1;rw [if_pos h1] at h;cases h
 ·rename_i h1;rw [if_neg h1] at h;exact zkr h
theorem ImgF.dp {x:Img} (h:ImgF x):DP x.disk p0:=⟨h.disk,zaw⟩
theorem zwr {X:Img} {l1 g off:Int} {s:Txt} (hX:ImgF X) (h0:0<=off) (h1:off+s.length<=128):∀k,k<=4->ImgF (jsAt X l1 g off s k).x/\pfit (jsAt X l1 g off s k).q=true/\
  ((jsAt X l1 g off s k).e=0->(1<=k->zG (jsAt X l1 g off s k).loc=true)/\(k<=1->(jsAt X l1 g off s k).old= [])/\(2<=k->(jsAt X l1 g off s k).old.length=128)/\(k=0->(jsAt X l1 g off s k).q=p0/\(jsAt X l1 g off s k).loc=0))
 |0,_=>⟨hX,zaw,λ_=>⟨λh=>by omega,λ_=>rfl,λh=>by omega,λ_=>⟨rfl,rfl⟩⟩⟩
 | k+1,hk=>by
  obtain ⟨i1,i2,i3⟩:=zwr hX h0 h1 k (by omega);rw [jsAt];split
  ·rename_i he;exact ⟨i1,i2,λh=>absurd h he⟩
  ·rename_i he;have he:(jsAt X l1 g off s k).e=0:=by omega
   obtain ⟨j1,j2,j3,j4⟩:=i3 he
   match k,hk,i1,i2,j1,j2,j3,j4 with
   |0,_,i1,i2,j1,j2,j3,j4=>
    exact ⟨i1,(i1.dp.rtake _).p,λh=>⟨λ_=>zqR h,λ_=>j2 (by omega),λh=>by omega,λh=>by omega⟩⟩
   |1,_,i1,i2,j1,j2,j3,j4=>
    exact ⟨i1,i2,λh=>⟨λ_=>j1 (by omega),λh=>by omega,λ_=>zsY i1.disk.puts h,λh=>by omega⟩⟩
   |2,_,i1,i2,j1,j2,j3,j4=>
    exact ⟨i1.wd (DiskF.layL _ i1.disk),i2,λh=>⟨λ_=>j1 (by omega),λh=>by omega,λ_=>j3 (by omega),λh=>by omega⟩⟩
   |3,_,i1,i2,j1,j2,j3,j4=>
    exact ⟨i1,(DP.ppoint ⟨i1.disk,i2⟩ _ _ _).p,λh=>⟨λ_=>j1 (by omega),λh=>by omega,λ_=>j3 (by omega),λh=>by omega⟩⟩
def jrow (f:FuncId):List AV:= [.fn (.func f) [.vp 2 0] []]
def zws:List (List AV):= [jrow 82,jrow 83,jrow 84,jrow 85,jrow 86]
attribute [go_sem] jrow zws
set_option maxHeartbeats 1600000 in
theorem zot (x:Img) (guest off:Int) (s:Txt) (hp:ImgF x/\x.maps.length<=5000/\s.length<=9223372036854775807):AC 26 [imgA x,.d (.int .i64 guest),.d (.int .i64 off),.d (.str s)] (.tup [imgA (zdo x guest off s).1,.d (.int .i64 (zdo x guest off s).2)]):=by
 obtain ⟨h,hm,hs⟩:=hp;refine fbod Tryz.func26 Tryz.ntmps26 (λbase=>?_);have hi:=h.ok;obtain ⟨Z,hZ⟩:∃Z,Z=zdo x guest off s:=⟨_,rfl⟩
 rw [<-hZ];refine' zgF (zav 3) fx (za zaD <| zb _)
 ·rw [hZ,zdo,if_pos hc]
 have hbr2:=hc;have hbr:¬x.broken=true:=by rw [hbr2];exact λh=>by cases h
 by_cases hrg:guest<0\/x.geom.guest<=guest\/off<0\/128 - (s.length:Int)<off
 ·have hw0:IntKind.i64.wrap (128 - (s.length:Int))=128 - s.length:=zg (by omega) (by omega)
  have hdec:(decide (guest<0)||decide (x.geom.guest<=guest)||decide (off<0)||decide (128 - (s.length:Int)<off))=true:=by simp only [Bool.or_eq_true,decide_eq_true_eq];omega
  refine' walkW (zn hw0 hdec) (za zaD <| zb _);rw [hZ,zdo,if_neg hbr,if_pos hrg]
 have hw0:IntKind.i64.wrap (128 - (s.length:Int))=128 - s.length:=zg (by omega) (by omega)
 have hdec:(decide (guest<0)||decide (x.geom.guest<=guest)||decide (off<0)||decide (128 - (s.length:Int)<off))=false:=by simp only [Bool.or_eq_false_iff,decide_eq_false_iff_not];omega
 by_cases hs0:s= []
 ·have hse:(s== [])=true:=by rw [hs0];rfl
  refine' walkW (zB hw0 hdec hse) (za zaD <| zb _);rw [hZ,zdo,if_neg hbr,if_neg hrg,if_pos hs0]
 have hse:(s== [])=false:=by simpa using hs0
 refine' zgF (zav 8) (zB hw0 hdec hse) (za zaD <| zb _);rw [zdo,if_neg hbr,if_neg hrg,if_neg hs0] at hZ;have hX:=h.mark guest;revert hX hZ;generalize cmark x guest=X;intro hZ hX;refine aw_le ⟨[(4,true,.vp 0 0),(8,true,.vp 1 0),(10,true,.vp 2 0)],[(2,.var (jobP X guest off s 0 0 ⟨0,0⟩ p0 0 [])),(1,.var img0),(0,.var (imgV x))],some []⟩ le1 ?_;rw [ztn] at hZ;have hk1:(zei X guest).1.kind=1->zG (zei X guest).1.loc=true:=zq6;obtain ⟨r,hr⟩:∃r,r=ze X.disk p0:=⟨_,rfl⟩
 obtain ⟨y,hy⟩:∃y,y=zei X guest:=⟨_,rfl⟩
 refine' zc fx;refine (zdc (fix1 (zvD X guest off s hX)) (by decide) rfl zd0 (by simp [AV.idsL,AV.ids])).mono ?_;rintro r1 h' ⟨rfl,rfl⟩;rw [<-hr,<-hy];simp only [go_sem,aeq,aeq.aeqF,simprocAttr];rw [<-hr,<-hy] at hZ;rw [<-hy] at hk1;refine' zcj (zav 12) fx
 ·rw [hZ,if_pos (bneP hc)]
 rw [if_neg (bneN hc)] at hZ;refine' zc fx;refine (zdc (fix1 (ztl X guest off s r.1.l1 r.1.next y.1 hX)) (by decide) rfl zd0 (by simp [AV.idsL,AV.ids])).mono ?_;rintro r1 h' ⟨rfl,rfl⟩;simp only [go_sem,aeq,aeq.aeqF,simprocAttr];obtain ⟨n,hn⟩:∃n,n=rget X.disk p0 y.1.loc:=⟨_,rfl⟩
 have hn0:n.2≠0->n.1=0:=by rw [hn];exact zvI
 rw [<-hn];obtain ⟨b,hb⟩:∃b,b=if y.1.kind=1 then decide (n.1<=1) else false:=⟨_,rfl⟩
 obtain ⟨e,he⟩:∃e,e=if y.1.kind=1 then n.2 else 0:=⟨_,rfl⟩
 rw [<-hb,<-he];rw [zhn,<-hn] at hZ;cases b with
 | true=>
  obtain ⟨hk,hn1⟩:y.1.kind=1/\n.1<=1:=by
   by_cases hk:y.1.kind=1
   ·rw [if_pos hk] at hb;exact ⟨hk,of_decide_eq_true hb.symm⟩
   ·rw [if_neg hk] at hb;cases hb
  rw [if_pos hk] at hZ he;have hho:=hk1 hk;refine' zc fx;obtain ⟨S,hS⟩:∃S:Nat->Img×Int,S=λk=>if k=0 then (X,e) else Z:=⟨_,rfl⟩
  have hS0:S 0=(X,e):=by rw [hS];rfl
  have hS1:S 1=Z:=by rw [hS];rfl
  refine zq (λq: { k:Nat // k<=1 } =>⟨[(4,true,.vp 0 0),(8,true,.vp 1 0),(10,true,.vp 2 0),(14,true,.d (.int .i64 (S q.1).2)),(84,true,.asl 1 [jrow 88]),(85,true,.d (.int .i64 1)),(86,true,.d (.int .i64 q.1))],[(2,.var (jobP (S q.1).1 guest off s r.1.l1 r.1.next y.1 p0 0 [])),(1,.var img0),(0,.var (imgV x))],some []⟩) (λq=>1 - q.1) ⟨0,Nat.zero_le _⟩ (by simp only [hS0];simp only [AS.le,leT,leH,zf,AsgK,AV.le,AV.leL,AObj.le,inH,idsT,idsH,AV.ids,AV.idsL,AV.idsR,AObj.ids,lk,hget,go_sem,aeq,aeq.aeqF,simprocAttr]<;>and_intros<;>rfl) (λq=>?_);obtain ⟨k,hkk⟩:=q;simp only;have hc0:((0:Nat):Int)=0:=rfl;have hc1:((1:Nat):Int)=1:=rfl;have hw1:IntKind.i64.wrap 1=1:=by decide
  have h2:k=0\/k=1:=by omega
  rcases h2 with rfl|rfl
  ·simp only [hS0];by_cases hez:e=0
   ·have heb:(e==0)=true:=beq_iff_eq.2 hez;rw [if_neg (by omega),if_pos hn1] at hZ;refine' zc (zB hc0 hw1 heb);refine (zdc (fix1 (zos X guest off s r.1.l1 r.1.next y.1 hX hho (by omega) (by omega))) (by decide) rfl zd0 (by simp [AV.idsL,AV.ids])).mono ?_;rintro r1 h' ⟨rfl,rfl⟩;simp only [go_sem,aeq,aeq.aeqF,simprocAttr];refine' zc (zB hc0 hw1 heb);exact ⟨⟨1,by omega⟩,by simp only [hS1,hZ];simp only [AS.le,leT,leH,zf,AsgK,AV.le,AV.leL,AObj.le,inH,idsT,idsH,AV.ids,AV.idsL,AV.idsR,AObj.ids,lk,hget,go_sem,aeq,aeq.aeqF,simprocAttr,hw1]<;>and_intros<;>rfl,by simp⟩
   ·have heb:(e==0)=false:=beq_eq_false_iff_ne.2 hez;rw [if_pos (by omega)] at hZ;refine' zc (zB hc0 hw1 heb);exact ⟨⟨1,by omega⟩,by simp only [hS1,hZ,he];simp only [AS.le,leT,leH,zf,AsgK,AV.le,AV.leL,AObj.le,inH,idsT,idsH,AV.ids,AV.idsL,AV.idsR,AObj.ids,lk,hget,go_sem,aeq,aeq.aeqF,simprocAttr,hw1]<;>and_intros<;>rfl,by simp⟩
  ·simp only [hS1];refine' zc hc1
 | false=>
  have hn2:y.1.kind=1->¬n.2≠0/\¬n.1<=1:=λhk=>by rw [if_pos hk] at hb;have:=of_decide_eq_false hb.symm;exact ⟨λh=>this (by rw [hn0 h];decide),this⟩
  have hZ4:Z=zdZ X r.1.l1 guest off s:=by
   by_cases hk:y.1.kind=1
   ·rw [if_pos hk,if_neg (hn2 hk).1,if_neg (hn2 hk).2] at hZ;exact hZ
   ·rw [if_neg hk] at hZ;exact hZ
  have he0:e=0:=by
   by_cases hk:y.1.kind=1
   ·rw [if_pos hk] at he;have:=(hn2 hk).1;omega
   ·rw [if_neg hk] at he;exact he
  rw [he0];clear hZ he he0 hb hn2;refine' zc fx;rw [zyu] at hZ4;have hinv:=zwr (X:=X) (l1:=r.1.l1) (g:=guest) (off:=off) (s:=s) hX (by omega) (by omega);obtain ⟨S,hS⟩:∃S:Nat->JS,S=jsAt X r.1.l1 guest off s:=⟨_,rfl⟩
  have hSs:∀k,S (k+1)=if (S k).e≠0 then S k else jstep r.1.l1 guest off s (S k) k:=λk=>by rw [hS,jsAt]
  have hS0:S 0=⟨X,p0,0,[],0⟩:=by rw [hS];rfl
  rw [<-hS] at hZ4 hinv;clear hS;refine zq (λq: { k:Nat // k<=5 } =>⟨[(4,true,.vp 0 0),(8,true,.vp 1 0),(10,true,.vp 2 0),(14,true,.d (.int .i64 (S q.1).e)),(84,true,.asl 1 zws),(85,true,.d (.int .i64 5)),(86,true,.d (.int .i64 q.1))],[(2,.var (jobV (S q.1) guest off s r.1.l1 r.1.next y.1)),(1,.var img0),(0,.var (imgV x))],some []⟩) (λq=>5 - q.1) ⟨0,Nat.zero_le _⟩ (by simp only [hS0];simp only [AS.le,leT,leH,zf,AsgK,AV.le,AV.leL,AObj.le,inH,idsT,idsH,AV.ids,AV.idsL,AV.idsR,AObj.ids,lk,hget,go_sem,aeq,aeq.aeqF,simprocAttr]<;>and_intros<;>rfl) (λq=>?_);obtain ⟨k,hkk⟩:=q;simp only;have hw:∀m:Nat,m<10->IntKind.i64.wrap ((m:Int)+1)=((m+1:Nat):Int):=λm hm=>zr (by omega);have hwk:=hw k (by omega);rcases Nat.lt_or_ge k 5 with hlt|hge
  ·have hcmp:decide ((k:Int)<5)=true:=decide_eq_true (by omega);have hSk:=hSs k;obtain ⟨i1,i2,i3⟩:=hinv k (by omega);obtain ⟨j,hj⟩:∃j,j=S k:=⟨_,rfl⟩
   obtain ⟨jn,hjn⟩:∃jn,jn=S (k+1):=⟨_,rfl⟩
   rw [<-hj] at hSk i1 i2 i3 ⊢;rw [<-hjn] at hSk;have h5:k=0\/k=1\/k=2\/k=3\/k=4:=by omega
   obtain ⟨jx,jq,jl,jo,je⟩:=j;simp only at i1 i2 i3;by_cases hez:je=0
   ·obtain ⟨j1,j2,j3,j4⟩:=i3 hez;rw [if_neg (show ¬je≠0 by omega)] at hSk;have heb:(je==0)=true:=beq_iff_eq.2 hez;rcases h5 with rfl|rfl|rfl|rfl|rfl
    ·obtain ⟨rfl,rfl⟩:=j4 rfl;obtain rfl:=j2 (by omega);refine' zc (zB hcmp heb natC);refine (zdc (fix1 (zvE jx guest off s r.1.l1 r.1.next y.1 i1)) (by decide) rfl zd0 (by simp [AV.idsL,AV.ids])).mono ?_;rintro r1 h' ⟨rfl,rfl⟩;simp only [go_sem,aeq,aeq.aeqF,simprocAttr];refine' zc fx;exact ⟨⟨1,by omega⟩,by simp only [<-hjn,hSk,jstep];simp only [AS.le,leT,leH,zf,AsgK,AV.le,AV.leL,AObj.le,inH,idsT,idsH,AV.ids,AV.idsL,AV.idsR,AObj.ids,lk,hget,go_sem,aeq,aeq.aeqF,simprocAttr,hwk]<;>and_intros<;>rfl,by simp⟩
    ·obtain rfl:=j2 (by omega);refine' zc (zB hcmp heb natC);refine (zdc (fix1 (zvF jx guest off s r.1.l1 r.1.next y.1 jq jl i1)) (by decide) rfl zd0 (by simp [AV.idsL,AV.ids])).mono ?_;rintro r1 h' ⟨rfl,rfl⟩;simp only [go_sem,aeq,aeq.aeqF,simprocAttr];refine' zc fx;exact ⟨⟨2,by omega⟩,by simp only [<-hjn,hSk,jstep];simp only [AS.le,leT,leH,zf,AsgK,AV.le,AV.leL,AObj.le,inH,idsT,idsH,AV.ids,AV.idsL,AV.idsR,AObj.ids,lk,hget,go_sem,aeq,aeq.aeqF,simprocAttr,hwk]<;>and_intros<;>rfl,by simp⟩
    ·refine' zc (zB hcmp heb natC);refine (zdc (fix1 (zvH jx guest off s r.1.l1 r.1.next y.1 jq jl jo i1 (j1 (by omega)) (j3 (by omega)) (by omega) (by omega))) (by decide) rfl zd0 (by simp [AV.idsL,AV.ids])).mono ?_;rintro r1 h' ⟨rfl,rfl⟩;simp only [go_sem,aeq,aeq.aeqF,simprocAttr];refine' zc fx;exact ⟨⟨3,by omega⟩,by simp only [<-hjn,hSk,jstep];simp only [AS.le,leT,leH,zf,AsgK,AV.le,AV.leL,AObj.le,inH,idsT,idsH,AV.ids,AV.idsL,AV.idsR,AObj.ids,lk,hget,go_sem,aeq,aeq.aeqF,simprocAttr,hwk]<;>and_intros<;>rfl,by simp⟩
    ·refine' zc (zB hcmp heb natC);refine (zdc (fix1 (ztm jx guest off s r.1.l1 r.1.next y.1 jq jl jo i1 i2)) (by decide) rfl zd0 (by simp [AV.idsL,AV.ids])).mono ?_;rintro r1 h' ⟨rfl,rfl⟩;simp only [go_sem,aeq,aeq.aeqF,simprocAttr];refine' zc fx;exact ⟨⟨4,by omega⟩,by simp only [<-hjn,hSk,jstep];simp only [AS.le,leT,leH,zf,AsgK,AV.le,AV.leL,AObj.le,inH,idsT,idsH,AV.ids,AV.idsL,AV.idsR,AObj.ids,lk,hget,go_sem,aeq,aeq.aeqF,simprocAttr,hwk]<;>and_intros<;>rfl,by simp⟩
    ·refine' zc (zB hcmp heb natC);refine (zdc (fix1 (zvG jx guest off s r.1.l1 r.1.next y.1 jq jl jo i1 i2)) (by decide) rfl zd0 (by simp [AV.idsL,AV.ids])).mono ?_;rintro r1 h' ⟨rfl,rfl⟩;simp only [go_sem,aeq,aeq.aeqF,simprocAttr];refine' zc fx;exact ⟨⟨5,by omega⟩,by simp only [<-hjn,hSk,jstep];simp only [AS.le,leT,leH,zf,AsgK,AV.le,AV.leL,AObj.le,inH,idsT,idsH,AV.ids,AV.idsL,AV.idsR,AObj.ids,lk,hget,go_sem,aeq,aeq.aeqF,simprocAttr,hwk]<;>and_intros<;>rfl,by simp⟩
   ·have heb:(je==0)=false:=beq_eq_false_iff_ne.2 hez;rw [if_pos hez] at hSk;rcases h5 with rfl|rfl|rfl|rfl|rfl;all_goals refine' zc (zB hcmp heb natC)
    ·exact ⟨⟨1,by omega⟩,by simp only [<-hjn,hSk];simp only [AS.le,leT,leH,zf,AsgK,AV.le,AV.leL,AObj.le,inH,idsT,idsH,AV.ids,AV.idsL,AV.idsR,AObj.ids,lk,hget,go_sem,aeq,aeq.aeqF,simprocAttr,hwk]<;>and_intros<;>rfl,by simp⟩
    ·exact ⟨⟨2,by omega⟩,by simp only [<-hjn,hSk];simp only [AS.le,leT,leH,zf,AsgK,AV.le,AV.leL,AObj.le,inH,idsT,idsH,AV.ids,AV.idsL,AV.idsR,AObj.ids,lk,hget,go_sem,aeq,aeq.aeqF,simprocAttr,hwk]<;>and_intros<;>rfl,by simp⟩
    ·exact ⟨⟨3,by omega⟩,by simp only [<-hjn,hSk];simp only [AS.le,leT,leH,zf,AsgK,AV.le,AV.leL,AObj.le,inH,idsT,idsH,AV.ids,AV.idsL,AV.idsR,AObj.ids,lk,hget,go_sem,aeq,aeq.aeqF,simprocAttr,hwk]<;>and_intros<;>rfl,by simp⟩
    ·exact ⟨⟨4,by omega⟩,by simp only [<-hjn,hSk];simp only [AS.le,leT,leH,zf,AsgK,AV.le,AV.leL,AObj.le,inH,idsT,idsH,AV.ids,AV.idsL,AV.idsR,AObj.ids,lk,hget,go_sem,aeq,aeq.aeqF,simprocAttr,hwk]<;>and_intros<;>rfl,by simp⟩
    ·exact ⟨⟨5,by omega⟩,by simp only [<-hjn,hSk];simp only [AS.le,leT,leH,zf,AsgK,AV.le,AV.leL,AObj.le,inH,idsT,idsH,AV.ids,AV.idsL,AV.idsR,AObj.ids,lk,hget,go_sem,aeq,aeq.aeqF,simprocAttr,hwk]<;>and_intros<;>rfl,by simp⟩
  ·have hcmp:decide ((k:Int)<5)=false:=decide_eq_false (by omega);obtain rfl:k=5:=by omega
   refine' zc hcmp;all_goals rw [hZ4]
@[go_sem] noncomputable def zQ:Ent Tryz.prog 26:= .m4 zbG (intT .i64) (intT .i64) strT zot
open Go Go.Proofs
theorem DiskF.commit {d:Disk} (h:DiskF d) (j:Jour) (p:Plan):DiskF (jcommit d j p).1:=by
 have h1:=h.flush;have h2:∀l,DiskF (Aw.layL (Aw.dflush d).1 l).1:=λl=>DiskF.layL l h1;have h3:∀l,DiskF (Aw.dflush (Aw.layL (Aw.dflush d).1 l).1).1:=λl=>(h2 l).flush;have h4:∀l,DiskF (Aw.play (Aw.dflush (Aw.layL (Aw.dflush d).1 l).1).1 p).1:=λl=>(h3 l).play p;unfold Aw.jcommit Aw.jtail;repeat' split
 all_goals first|exact h|exact h1|exact h2 _|exact h3 _|exact h4 _
theorem zou {d:Disk} {j:Jour} {p:Plan} (h0:0<=j.seq) (h1:j.seq<=4611686018427387904):0<=(jcommit d j p).2.1.seq/\(jcommit d j p).2.1.seq<=4611686018427387904:=by
 unfold jcommit jtail;repeat' split
 all_goals first|exact ⟨h0,h1⟩|(constructor<;>simp only<;>omega)
theorem ImgF.done {x:Img} (h:ImgF x) (p:Plan):ImgF (cdone x p).1:=by
 have hd:=h.disk.commit x.jour p;have hs:=zou (d:=x.disk) (p:=p) h.seq0 h.seq1;unfold cdone;split
 ·exact ⟨⟨hd.ok,h.ok.maps,h.ok.names,h.ok.bits⟩,hd,h.guest,h.host,h.seq0,h.seq1,h.maps⟩
 ·exact ⟨⟨hd.ok,h.ok.maps,h.ok.names,h.ok.bits⟩,hd,h.guest,h.host,hs.1,hs.2,h.maps⟩
theorem DiskF.place {d:Disk} (h:DiskF d) (k off:Int) (s:Txt):DiskF (zgQ d k off s).1:=by
 have:∀m i d,DiskF d->DiskF (zcV k off s m i d).1:=by
  intro m;induction m with
  |zero=>intro i d h;exact h
  |succ m ih=>
   intro i d h;rw [zcV];split
   ·exact h.cput1 _ _ _ _
   ·exact ih _ _ (h.cput1 _ _ _ _)
 exact this _ _ _ h
theorem ImgF.write4 {x:Img} (h:ImgF x) (l1 g off:Int) (s:Txt):ImgF (zdZ x l1 g off s).1:=by
 unfold zdZ;repeat' split
 ·exact h
 ·exact h
 ·exact h.wd (DiskF.layL _ h.disk)
 ·exact h.wd (DiskF.layL _ h.disk)
 ·exact (h.wd (DiskF.layL _ h.disk)).done _
theorem ImgF.write {x:Img} (h:ImgF x) (g off:Int) (s:Txt):ImgF (zdo x g off s).1:=by
 have hm:=h.mark g;unfold zdo;split
 ·exact h
 split
 ·exact h
 split
 ·exact h
 unfold zho;split
 ·exact hm
 split
 ·exact hm
 unfold zhn;split
 ·split
  ·exact hm
  split
  ·exact hm.wd (hm.disk.place _ _ _)
  ·exact hm.write4 _ _ _ _
 ·exact hm.write4 _ _ _ _
open Go Go.Proofs
open Go Go.Proofs Go.RowKit Go.ChangeShapes Go.WideShapes
structure ImgW (x:Img):Prop where
 ok:ImgOk x
 seq0:0<=x.jour.seq
 seq1:x.jour.seq<=18446744073709551615
 guest0: -9223372036854775808<=x.geom.guest
 guest1:x.geom.guest<=9223372036854775807
 host0: -9223372036854775808<=x.geom.host
 host1:x.geom.host<=9223372036854775807
 pos0: -9223372036854775808<=x.jour.pos
 pos1:x.jour.pos<=9223372036854775807
def imgD (x:Img):List D:= [.str x.disk.data,.sl 2 (x.disk.cache.map putD),.int .i64 x.disk.fuse,.bool x.disk.off,.sl 1 (x.disk.bad.map intD),.int .i64 x.geom.guest,.int .i64 x.geom.host,.int .u64 x.jour.seq,.int .i64 x.jour.pos,.sl 66 (x.maps.map dmapD),.bool x.broken]
theorem zer {n:Nat} {x:List D} (h:DTy Tryz.prog (n+1) 3 x):∃a:Int,x= [.int .i64 a]/\ -9223372036854775808<=a/\a<=9223372036854775807:=by unfold DTy at h;simp only [ty3] at h;obtain ⟨a,rfl,h1,h2⟩:=h;exact ⟨a,rfl,h1,h2⟩
theorem zlK {n:Nat} {x:List D} (h:DTy Tryz.prog (n+1) 9 x):∃s:Txt,x= [.str s]/\s.length<=9223372036854775807:=by unfold DTy at h;simp only [ty9] at h;exact h
theorem zic {n:Nat} {x:List D} (h:DTy Tryz.prog (n+1) 4 x):∃b:Bool,x= [.bool b]:=by unfold DTy at h;simp only [ty4] at h;exact h
theorem zv2 {n:Nat} {x:List D} (h:DTy Tryz.prog (n+2) 23 x):∃l:List Int,l.length<=9223372036854775807/\x= [.sl 1 (l.map intD)]:=by unfold DTy at h;simp only [ty23] at h;obtain ⟨rows,rfl,hl,hr⟩:=h;obtain ⟨l,rfl⟩:=zh3 (e:=intD) (λr h'=>(zer (hr r h')).imp λs h=>h.1);exact ⟨l,by simpa using hl,by rw [ty3]⟩
theorem zxK {n:Nat} {x:List D} (h:DTy Tryz.prog (n+2) 198 x):∃q:PutR,x=putD q:=by unfold DTy at h;simp only [ty198,DTy.fields] at h;obtain ⟨a1,b1,rfl,g1,a2,b2,rfl,g2,rfl⟩:=h;obtain ⟨a,rfl,_⟩:=zer g1;obtain ⟨s,rfl,_⟩:=zlK g2;exact ⟨(a,s),rfl⟩
theorem zv3 {n:Nat} {x:List D} (h:DTy Tryz.prog (n+3) 22 x):∃l:List PutR,l.length<=9223372036854775807/\x= [.sl 2 (l.map putD)]:=by unfold DTy at h;simp only [ty22] at h;obtain ⟨rows,rfl,hl,hr⟩:=h;obtain ⟨l,rfl⟩:=zh3 (e:=putD) (λr h'=>zxK (hr r h'));exact ⟨l,by simpa using hl,by rw [ty198]⟩
theorem zv4 {n:Nat} {x:List D} (h:DTy Tryz.prog (n+4) 25 x):∃d:Disk,DiskOk d/\x= [.str d.data,.sl 2 (d.cache.map putD),.int .i64 d.fuse,.bool d.off,.sl 1 (d.bad.map intD)]:=by unfold DTy at h;simp only [ty25,DTy.fields] at h;obtain ⟨a1,b1,rfl,g1,a2,b2,rfl,g2,a3,b3,rfl,g3,a4,b4,rfl,g4,a5,b5,rfl,g5,rfl⟩:=h;obtain ⟨s,rfl,q1⟩:=zlK g1;obtain ⟨l,q2,rfl⟩:=zv3 g2;obtain ⟨f,rfl,q3,q4⟩:=zer g3;obtain ⟨o,rfl⟩:=zic g4;obtain ⟨m,q5,rfl⟩:=zv2 g5;exact ⟨⟨s,l,f,o,m⟩,⟨q1,q2,q5,q3,q4⟩,rfl⟩
theorem zkF:∀ {parts:List (List D)},(∀p∈parts,∃b:Bool,p= [.bool b])->∃l:List Bool,parts.flatten=l.map D.bool/\l.length=parts.length
 | [],_=>⟨[],rfl,rfl⟩
 |p::r,h=>by obtain ⟨b,rfl⟩:=h p (by simp);obtain ⟨l,h1,h2⟩:=zkF (parts:=r) (λq hq=>h q (by simp [hq]));exact ⟨b::l,by simp [h1],by simp [h2]⟩
theorem zp2 {n:Nat} {x:List D} (h:DTy Tryz.prog (n+3) 150 x):∃m:Dmap,(m.name.length<=9223372036854775807/\m.bits.length=64)/\x=dmapD m:=by unfold DTy at h;simp only [ty150,DTy.fields] at h;obtain ⟨a1,b1,rfl,g1,a2,b2,rfl,g2,a3,b3,rfl,g3,rfl⟩:=h;obtain ⟨s,rfl,q1⟩:=zlK g1;obtain ⟨u,rfl⟩:=zic g2;unfold DTy at g3;simp only [ty148] at g3;obtain ⟨parts,rfl,hl,hp⟩:=g3;obtain ⟨l,h1,h2⟩:=zkF (λp h'=>zic (hp p h'));exact ⟨⟨s,u,l⟩,⟨q1,by rw [h2,hl]⟩,by simp [dmapD,h1]⟩
theorem zua {n:Nat} {x:List D} (h:DTy Tryz.prog (n+4) 31 x):∃l:List Dmap,l.length<=9223372036854775807/\(∀m∈l,m.name.length<=9223372036854775807/\m.bits.length=64)/\x= [.sl 66 (l.map dmapD)]:=by unfold DTy at h;simp only [ty31] at h;obtain ⟨rows,rfl,hl,hr⟩:=h;obtain ⟨l,rfl⟩:=zh3 (e:=dmapD) (λr h'=>(zp2 (hr r h')).imp λs h=>h.2);refine ⟨l,by simpa using hl,λm hm=>?_,by rw [ty150]⟩;obtain ⟨m',h1,h2⟩:=zp2 (hr (dmapD m) (List.mem_map_of_mem hm));rw [zmK _ _ h2];exact h1
theorem zxL {n:Nat} {x:List D} (h:DTy Tryz.prog (n+5) 33 x):∃X:Img,ImgW X/\x=imgD X:=by unfold DTy at h;simp only [ty33,DTy.fields] at h;obtain ⟨a1,b1,rfl,g1,a2,b2,rfl,g2,a3,b3,rfl,g3,a4,b4,rfl,g4,a5,b5,rfl,g5,rfl⟩:=h;obtain ⟨d,q1,rfl⟩:=zv4 g1;unfold DTy at g2 g3;simp only [ty27,DTy.fields] at g2;simp only [ty30,DTy.fields] at g3;obtain ⟨c1,e1,rfl,k1,c2,e2,rfl,k2,rfl⟩:=g2;obtain ⟨c3,e3,rfl,k3,c4,e4,rfl,k4,rfl⟩:=g3;obtain ⟨gu,rfl,r1,r2⟩:=zer k1;obtain ⟨ho,rfl,r3,r4⟩:=zer k2;unfold DTy at k3;simp only [ty28] at k3;obtain ⟨sq,rfl,r5,r6⟩:=k3;obtain ⟨po,rfl,r7,r8⟩:=zer k4;obtain ⟨l,q2,q3,rfl⟩:=zua g4;obtain ⟨br,rfl⟩:=zic g5;exact ⟨⟨d,⟨gu,ho⟩,⟨sq,po⟩,l,br⟩,⟨⟨q1,q2,λm hm=>(q3 m hm).1,λm hm=>(q3 m hm).2⟩,r5,r6,r1,r2,r3,r4,r7,r8⟩,rfl⟩
theorem zxM (X:Img):argAV Tryz.prog 33 (imgD X)=imgA X:=by simp only [argAV,ty33];rfl
theorem zxN (n:Int):argAV Tryz.prog 3 [.int .i64 n]= .d (.int .i64 n):=by simp only [argAV,ty3]
theorem zxO (s:Txt):argAV Tryz.prog 9 [.str s]= .d (.str s):=by simp only [argAV,ty9]
end Go.Aw
