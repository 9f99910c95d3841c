/-
 Images, the program's: a write in place; writes.
-/
import Derived.Test.YtgldbfelccddbaaGreatApa23
set_option linter.all false
set_option maxRecDepth 100000
set_option maxHeartbeats 2000000
namespace Go.Aw
open Go Go.Proofs
def plF (d:Disk) (k off:Int) (s:Txt):Nat->Disk
 |0=>d
 |n+1=>(cput1 (plF d k off s n) k off s n).1
@[simp, go_sem] def plF_0 (d:Disk) (k off:Int) (s:Txt):plF d k off s 0=d:=rfl
def DiskF.plF {d:Disk} (h:DiskF d) (k off:Int) (s:Txt):∀n,DiskF (plF d k off s n)
 |0=>h
 |n+1=>(DiskF.plF h k off s n).cput1 k off s n
def zC1 {k:Int} {ys zs:List (Int×Int)} {q:Int×Int} (h:sectI k=ys++q::zs):ys.length<2/\q=(96+2*k+(ys.length:Int),(ys.length:Int)*64):=by
 rcases ziU h with ⟨rfl,rfl⟩|⟨rfl,rfl⟩
 .refine ⟨fZ,?_⟩;simp
 .refine ⟨fZ,?_⟩;simp
def zrh (x:Img) (g off:Int) (s:Txt) (l1 nx:Int) (y:Ent2) (h:ImgF x) (ha:zac y.loc=true) (h0:0<=off) (h1:off+s.length<=128):ACall Tryz.prog 323 20 [.vp 2 0] [(2,.var (jobP x g off s l1 nx y p0 0 []))] (λr h'=>∃aZ,h'= [(2,aZ)]/\(r= .d (.int .i64 (zgx x.disk y.loc off s).2))/\aZ= .var (jobP (wdisk x (zgx x.disk y.loc off s).1) g off s l1 nx y p0 0 [])):=by
 refine zD (λi=>decide (i<20)) ?_;refine bod Tryz.func323 Tryz.ntmps323 (λbase=>?_);have x3:=hostOk_iff.1 ha;have hx:=h.disk;obtain ⟨L,hL⟩:∃L,L=zgx x.disk y.loc off s:=⟨_,rfl⟩
 rw [<-hL];refine' Dt;obtain ⟨I,hI⟩:∃I:List (List AV)->AHeap×Option (List (List AV)),I=λxs=>([(21,.var [.d (.int .i64 0)]),(20,.var [.vp 2 0]),(2,.var (jobP (wdisk x (plF x.disk y.loc off s xs.length)) g off s l1 nx y p0 0 []))],some []):=⟨_,rfl⟩
 obtain ⟨G,hG⟩:∃G:List (List AV)->Prop,G=λxs=>L=zfw y.loc off s (2 - xs.length) xs.length (plF x.disk y.loc off s xs.length):=⟨_,rfl⟩
 obtain ⟨J,hJ⟩:∃J:Code->AHeap->Option (List (List AV))->Prop,J=λc h gg=>c= .ret/\gg=some []/\h= [(21,.var [.d (.int .i64 L.2)]),(20,.var [.vp 2 0]),(2,.var (jobP (wdisk x L.1) g off s l1 nx y p0 0 []))]:=⟨_,rfl⟩
 refine aw_le ⟨[(1,true,.vp 20 0),(2,true,.vp 21 0),(14,true,.fn (.func 359) [] [.dp [.d (.int .i64 y.loc)]])],[(21,.var [.d (.int .i64 0)]),(20,.var [.vp 2 0]),(2,.var (jobP x g off s l1 nx y p0 0 []))],some []⟩ le0 ?_;refine zbU 100 G I J (zhX 100 y.loc fT fT) jf rfl (zV rfl) ju rfl jh iV iW jE iK ja ?_ ?_ ?_
 .refine' Hh;obtain ⟨lr,rfl⟩:=zC1 iR;rw [<-jl] at lr |-;obtain ⟨i,hi⟩:∃i,i=xs.length:=⟨_,rfl⟩
  have e8:(xs++ [zaX (96+2*y.loc+(i:Int),(i:Int)*64)]).length=i+1:=nz;rw [<-hi] at ab lr |-;obtain ⟨d,hd⟩:∃d,d=plF x.disk y.loc off s i:=⟨_,rfl⟩
  have hF:DiskF d:=by rw [hd];exact hx.plF _ _ _ _
  have jt:=hF.ok;have jk:=hF.puts;have jY:plF x.disk y.loc off s (i+1)=(cput1 d y.loc off s i).1:=by rw [plF,<-hd]
  rw [<-hd,show 2 - i=(2 - (i+1))+1 by omega,zfw] at ab;simp only [zaX] at e8 |-;refine' CO;have a6:IntKind.i64.wrap ((i:Int)*64+64)=(i+1)*64:=gP;have gO:IntKind.i64.wrap (off+(s.length:Int))=off+s.length:=zf fT fT;refine' DS;have bo:cput1 d y.loc off s i=if B<=A then (d,0) else if (dread d (96+2*y.loc+i)).2≠0 then (d,(dread d (96+2*y.loc+i)).2) else zab d (96+2*y.loc+i) (overS (dread d (96+2*y.loc+i)).1 (A - i*64) ((s.take (B - off).toNat).drop (A - off).toNat)).1:=by rw [cput1,cputT,<-hA,<-hB]
  have hl:=zeZ (at_:=96+2*y.loc+i) jk;refine aw_le ⟨[(15,true,.d (.int .i64 (96+2*y.loc+i))),(16,true,.d (.int .i64 (i*64))),(1,true,.vp 20 0),(2,true,.vp 21 0)],[(21,.var [.d (.int .i64 0)]),(20,.var [.vp 2 0]),(2,.var (jobP (wdisk x d) g off s l1 nx y p0 0 []))],some []⟩ (by rw [hI];simp only [<-hi,<-hd];exact lxb @wdisk.eq_1) ?_;by_cases iP:B<=A
  .have hb:decide (B<=A)=true:=af iP;rw [aa iP] at bo;rw [bo] at ab jY;refine' walkR (zr hwi a6 gO pJ pL (zB hb hI e8 jY)) (za zq <| za zN <| za zt <| za zZ <| za zP <| za zag <| za zO <| za zy <| za zaM <| za zM <| za zG <| zb _);rw [hG];simp only [e8,jY];rw [U fZ] at ab;exact ab
  .refine' DQ;obtain ⟨b,mC⟩:∃b,b=(overS (dread d (96+2*y.loc+i)).1 (A - i*64) ((s.take (B - off).toNat).drop (A - off).toNat)).1:=⟨_,rfl⟩
   rw [<-mC] at bo;refine' zfH (zL 9) (zr hwi a6 gO lC nW (zr rL pJ pL hb mC.symm (zg hI e8))) (za zq <| za zN <| za zt <| za zZ <| za zP <| za zag <| za zO <| za zy <| za zaM <| za zM <| za zG <| zb _)
   .rw [hJ];rw [aa (bneP hc)] at bo;rw [bo,aa (bneP hc)] at ab;exact ⟨rfl,rfl,by rw [ab];rfl⟩
   rw [U (bneN hc)] at bo;refine' zfH (zL 10) (zr hwi a6 gO lC nW (zr rL pJ pL hb mC.symm (zg hI e8))) (za zq <| za zN <| za zt <| za zZ <| za zP <| za zag <| za zO <| za zy <| za zaM <| za zM <| za zG <| zb _);have oD:=hF.write (96+2*y.loc+i) b;refine' G8;refine (zcq (fix1 (zkL (wdisk x d) g off s l1 nx y p0 0 [] (96+2*y.loc+i) b jt)) gb rfl ze3 gD).mono ?_;refine' Cp;refine' Cl;refine' zau (zB hI e8 jY bo)
   .rw [hJ];rw [bo,aa (bneP hc)] at ab;exact ⟨rfl,rfl,by rw [ab];rfl⟩
   .rw [hG];simp only [e8,jY];rw [bo,U (bneN hc)] at ab;rw [bo];exact ab
 .intro ab;rw [hG] at ab;have k7:L=(plF x.disk y.loc off s 2,0):=ab;rw [hI];refine' Dt;all_goals try rfl
  rw [k7];exact ⟨_,rfl,rfl,rfl⟩
 .refine' Ge;refine' Dt;all_goals first|rfl|exact ⟨_,rfl,rfl,rfl⟩|exact ⟨_,rfl,rfl⟩
def jobV (j:JS) (g off:Int) (s:Txt) (l1 J:Int) (y:Ent2):List AV:=jobP j.x g off s l1 J y j.q j.loc j.old
attribute [go_sem] jobV
def jstep (l1 g off:Int) (s:Txt) (j:JS):Nat->JS
 |0=>⟨j.x,(rtake j.x.disk p0 j.x.geom).1,(rtake j.x.disk p0 j.x.geom).2.1,j.old,(rtake j.x.disk p0 j.x.geom).2.2⟩
 |1=>⟨j.x,j.q,j.loc,(cread j.x.disk l1 g).1,(cread j.x.disk l1 g).2⟩
 |2=>⟨wdisk j.x (layL j.x.disk (zbC j.loc (overS j.old off s).1)).1,j.q,j.loc,j.old,(layL j.x.disk (zbC j.loc (overS j.old off s).1)).2⟩
 |3=>⟨j.x,(ppoint j.x.disk j.q j.x.geom g ⟨1,j.loc⟩).1,j.loc,j.old,(ppoint j.x.disk j.q j.x.geom g ⟨1,j.loc⟩).2⟩
 |_=>⟨(cdone j.x j.q).1,j.q,j.loc,j.old,(cdone j.x j.q).2⟩
def jsAt (X:Img) (l1 g off:Int) (s:Txt):Nat->JS
 |0=>⟨X,p0,0,[],0⟩
 |k+1=>if (jsAt X l1 g off s k).e≠0 then jsAt X l1 g off s k else jstep l1 g off s (jsAt X l1 g off s k) k
def zD5 (X:Img) (l1 g off:Int) (s:Txt):zdA X l1 g off s=((jsAt X l1 g off s 5).x,(jsAt X l1 g off s 5).e):=by
 unfold zdA;simp only [jsAt,jstep];repeat' split
 all_goals simp_all
def zxE (X:Img) (g off:Int) (s:Txt):zgd X g off s=if (zfp X g).2≠0 then (X,(zfp X g).2) else zgR X (zF X.disk p0).1.l1 (zfp X g).1 g off s:=by
 unfold zgd zfp;by_cases h1:(zF X.disk p0).2=0
 .simp only [h1,ne_eq,dJ,aK]
 .simp only [h1,ne_eq,dG,av]
def zAF {d:Disk} {p:Plan} {k:Int} (h:(rget d p k).2≠0):(rget d p k).1=0:=by
 unfold rget at h |-;split
 .rfl
 rename_i h1;rw [U h1] at h;split
 .rfl
 rename_i h2;rw [U h2] at h;exact absurd rfl h
def zuP {X:Img} {g:Int} (h:(zfp X g).1.kind=1):zac (zfp X g).1.loc=true:=by
 unfold zfp at h |-;split
 .rename_i h1;rw [aa h1] at h;cases h
 .rename_i h1;rw [U h1] at h;exact zhm h
def ImgF.dp {x:Img} (h:ImgF x):DP x.disk p0:=⟨h.disk,zch⟩
def zBU {X:Img} {l1 g off:Int} {s:Txt} (hX:ImgF X) (h0:0<=off) (h1:off+s.length<=128):∀k,k<=4->ImgF (jsAt X l1 g off s k).x/\pfit (jsAt X l1 g off s k).q=true/\
  ((jsAt X l1 g off s k).e=0->(1<=k->zac (jsAt X l1 g off s k).loc=true)/\(k<=1->(jsAt X l1 g off s k).old= [])/\(2<=k->(jsAt X l1 g off s k).old.length=128)/\(k=0->(jsAt X l1 g off s k).q=p0/\(jsAt X l1 g off s k).loc=0))
 |0,_=>⟨hX,zch,λ_=>⟨λh=>fT,λ_=>rfl,λh=>fT,λ_=>⟨rfl,rfl⟩⟩⟩
 | k+1,J=>by
  obtain ⟨i1,i2,i3⟩:=zBU hX h0 h1 k fT;rw [jsAt];split
  .rename_i he;exact ⟨i1,i2,λh=>absurd h he⟩
  .rename_i he;have he:(jsAt X l1 g off s k).e=0:=fT;obtain ⟨j1,j2,j3,j4⟩:=i3 he
   match k,J,i1,i2,j1,j2,j3,j4 with
   |0,_,i1,i2,j1,j2,j3,j4=>
    exact ⟨i1,(i1.dp.rtake _).p,λh=>⟨λ_=>zl0 h,λ_=>j2 fT,λh=>fT,λh=>fT⟩⟩
   |1,_,i1,i2,j1,j2,j3,j4=>
    exact ⟨i1,i2,λh=>⟨λ_=>j1 fT,λh=>fT,λ_=>zgQ i1.disk.puts h,λh=>fT⟩⟩
   |2,_,i1,i2,j1,j2,j3,j4=>
    exact ⟨i1.wd (DiskF.layL _ i1.disk),i2,λh=>⟨λ_=>j1 fT,λh=>fT,λ_=>j3 fT,λh=>fT⟩⟩
   |3,_,i1,i2,j1,j2,j3,j4=>
    exact ⟨i1,(DP.ppoint ⟨i1.disk,i2⟩ _ _ _).p,λh=>⟨λ_=>j1 fT,λh=>fT,λ_=>j3 fT,λh=>fT⟩⟩
def jrow (f:FuncId):List AV:= [.fn (.func f) [.vp 2 0] []]
def zBV:List (List AV):= [jrow 317,jrow 318,jrow 319,jrow 320,jrow 321]
attribute [go_sem] jrow zBV
set_option maxHeartbeats 1600000 in
def zri (x:Img) (guest off:Int) (s:Txt) (hp:ImgF x/\x.maps.length<=5000/\s.length<=9223372036854775807):AC 252 [imgA x,.d (.int .i64 guest),.d (.int .i64 off),.d (.str s)] (.tup [imgA (zbX x guest off s).1,.d (.int .i64 (zbX x guest off s).2)]):=by
 obtain ⟨h,hm,hs⟩:=hp;refine fbod Tryz.func252 Tryz.ntmps252 (λbase=>?_);have hi:=h.ok;obtain ⟨Z,hZ⟩:∃Z,Z=zbX x guest off s:=⟨_,rfl⟩
 rw [<-hZ];refine' zfh (zL 3) fx (za zb0 <| zb _)
 .rw [hZ,zbX,aa hc]
 refine' FU
 .refine' ED
  have aZ:(decide (guest<0)||decide (x.geom.guest<=guest)||decide (off<0)||decide (128 - (s.length:Int)<off))=true:=by simp only [aH,ax];omega
  refine' walkW (zg jS aZ) (za zb0 <| zb _);rw [hZ,zbX,U nn,aa ir]
 refine' ED
 have aZ:(decide (guest<0)||decide (x.geom.guest<=guest)||decide (off<0)||decide (128 - (s.length:Int)<off))=false:=by simp only [bn,bG];omega
 by_cases e1:s= []
 .have oE:(s== [])=true:=by rw [e1];rfl
  refine' walkW (zp jS aZ oE) (za zb0 <| zb _);rw [hZ,zbX,U nn,U ir,aa e1]
 have oE:(s== [])=false:=by simpa using e1
 refine' zfh (zL 8) (zp jS aZ oE) (za zb0 <| zb _);rw [zbX,U nn,U ir,U e1] at hZ;have hX:=h.mark guest;revert hX hZ;generalize cmark x guest=X;intro hZ hX;refine aw_le ⟨[(4,true,.vp 0 0),(8,true,.vp 1 0),(10,true,.vp 2 0)],[(2,.var (jobP X guest off s 0 0 ⟨0,0⟩ p0 0 [])),(1,.var img0),(0,.var (imgV x))],some []⟩ le1 ?_;rw [zxE] at hZ;have gx:(zfp X guest).1.kind=1->zac (zfp X guest).1.loc=true:=zuP;obtain ⟨r,hr⟩:∃r,r=zF X.disk p0:=⟨_,rfl⟩
 obtain ⟨y,hy⟩:∃y,y=zfp X guest:=⟨_,rfl⟩
 refine' Ds;refine (zcq (fix1 (zAA X guest off s hX)) gb rfl ze3 gD).mono ?_;refine' GL;rw [<-hr,<-hy];refine' Cl;rw [<-hr,<-hy] at hZ;rw [<-hy] at gx;refine' z8 (zL 12) fx
 .rw [hZ,aa (bneP hc)]
 rw [U (bneN hc)] at hZ;refine' Ds;refine (zcq (fix1 (zxC X guest off s r.1.l1 r.1.next y.1 hX)) gb rfl ze3 gD).mono ?_;refine' GL;refine' Cl;obtain ⟨n,hn⟩:∃n,n=rget X.disk p0 y.1.loc:=⟨_,rfl⟩
 have kX:n.2≠0->n.1=0:=by rw [hn];exact zAF
 rw [<-hn];obtain ⟨b,hb⟩:∃b,b=if y.1.kind=1 then decide (n.1<=1) else false:=⟨_,rfl⟩
 obtain ⟨e,he⟩:∃e,e=if y.1.kind=1 then n.2 else 0:=⟨_,rfl⟩
 rw [<-hb,<-he];rw [zgR,<-hn] at hZ;cases b with
 | true=>
  obtain ⟨hk,jr⟩:y.1.kind=1/\n.1<=1:=by
   by_cases hk:y.1.kind=1
   .rw [aa hk] at hb;exact ⟨hk,bd hb.symm⟩
   .rw [U hk] at hb;cases hb
  rw [aa hk] at hZ he;have oG:=gx hk;refine' Ds;obtain ⟨S,hS⟩:∃S:Nat->Img×Int,S=λk=>if k=0 then (X,e) else Z:=⟨_,rfl⟩
  have kl:S 0=(X,e):=by rw [hS];rfl
  have nY:S 1=Z:=by rw [hS];rfl
  refine zk (λq: { k:Nat // k<=1 } =>⟨[(4,true,.vp 0 0),(8,true,.vp 1 0),(10,true,.vp 2 0),(14,true,.d (.int .i64 (S q.1).2)),(84,true,.asl 1 [jrow 323]),(85,true,.d (.int .i64 1)),(86,true,.d (.int .i64 q.1))],[(2,.var (jobP (S q.1).1 guest off s r.1.l1 r.1.next y.1 p0 0 [])),(1,.var img0),(0,.var (imgV x))],some []⟩) (λq=>1 - q.1) ⟨0,ad _⟩ (by simp only [kl];exact lxa) (λq=>?_);obtain ⟨k,mE⟩:=q;simp only;have br:((0:Nat):Int)=0:=rfl;have bo:((1:Nat):Int)=1:=rfl;have ab:IntKind.i64.wrap 1=1:=gb;have h2:k=0\/k=1:=fT;rcases h2 with rfl|rfl
  .simp only [kl];by_cases oN:e=0
   .have lF:(e==0)=true:=aF.2 oN;rw [U fT,aa jr] at hZ;refine' zc (zp br ab lF);refine (zcq (fix1 (zrh X guest off s r.1.l1 r.1.next y.1 hX oG fT fT)) gb rfl ze3 gD).mono ?_;refine' GL;refine' Cl;refine' zc (zp br ab lF);exact ⟨⟨1,fT⟩,by simp only [nY,hZ];exact lxb ab,fZ⟩
   .have lF:(e==0)=false:=bb.2 oN;rw [aa fT] at hZ;refine' zc (zp br ab lF);exact ⟨⟨1,fT⟩,by simp only [nY,hZ,he];exact lxb ab,fZ⟩
  .simp only [nY];refine' zc bo
 | false=>
  have iT:y.1.kind=1->¬n.2≠0/\¬n.1<=1:=λhk=>by rw [aa hk] at hb;have:=aQ hb.symm;exact ⟨λh=>this (by rw [kX h];decide),this⟩
  have tC:Z=zdA X r.1.l1 guest off s:=by
   by_cases hk:y.1.kind=1
   .rw [aa hk,U (iT hk).1,U (iT hk).2] at hZ;exact hZ
   .rw [U hk] at hZ;exact hZ
  have mD:e=0:=by
   by_cases hk:y.1.kind=1
   .rw [aa hk] at he;have:=(iT hk).1;omega
   .rw [U hk] at he;exact he
  rw [mD];clear hZ he mD hb iT;refine' Ds;rw [zD5] at tC;have hinv:=zBU (X:=X) (l1:=r.1.l1) (g:=guest) (off:=off) (s:=s) hX fT fT;obtain ⟨S,hS⟩:∃S:Nat->JS,S=jsAt X r.1.l1 guest off s:=⟨_,rfl⟩
  have x6:∀k,S (k+1)=if (S k).e≠0 then S k else jstep r.1.l1 guest off s (S k) k:=λk=>by rw [hS,jsAt]
  have kl:S 0=⟨X,p0,0,[],0⟩:=by rw [hS];rfl
  rw [<-hS] at tC hinv;clear hS;refine zk (λq: { k:Nat // k<=5 } =>⟨[(4,true,.vp 0 0),(8,true,.vp 1 0),(10,true,.vp 2 0),(14,true,.d (.int .i64 (S q.1).e)),(84,true,.asl 1 zBV),(85,true,.d (.int .i64 5)),(86,true,.d (.int .i64 q.1))],[(2,.var (jobV (S q.1) guest off s r.1.l1 r.1.next y.1)),(1,.var img0),(0,.var (imgV x))],some []⟩) (λq=>5 - q.1) ⟨0,ad _⟩ (by simp only [kl];exact lxa) (λq=>?_);obtain ⟨k,mE⟩:=q;simp only;have hw:∀m:Nat,m<10->IntKind.i64.wrap ((m:Int)+1)=((m+1:Nat):Int):=λm hm=>zo fT;have fW:=hw k fT;rcases aO k 5 with c6|gU
  .have J:decide ((k:Int)<5)=true:=af fT;have kJ:=x6 k;obtain ⟨i1,i2,i3⟩:=hinv k fT;obtain ⟨j,hj⟩:∃j,j=S k:=⟨_,rfl⟩
   obtain ⟨jn,l5⟩:∃jn,jn=S (k+1):=⟨_,rfl⟩
   rw [<-hj] at kJ i1 i2 i3 |-;rw [<-l5] at kJ;have h5:k=0\/k=1\/k=2\/k=3\/k=4:=fT;obtain ⟨jx,jq,jl,jo,je⟩:=j;simp only at i1 i2 i3;by_cases oN:je=0
   .obtain ⟨j1,j2,j3,j4⟩:=i3 oN;rw [U (show ¬je≠0 by omega)] at kJ;have lF:(je==0)=true:=aF.2 oN;rcases h5 with rfl|rfl|rfl|rfl|rfl
    .obtain ⟨rfl,rfl⟩:=j4 rfl;obtain rfl:=j2 fT;refine' zc (zp J lF natC);refine (zcq (fix1 (zAB jx guest off s r.1.l1 r.1.next y.1 i1)) gb rfl ze3 gD).mono ?_;refine' GL;refine' Cl;refine' Ds;exact ⟨⟨1,fT⟩,nF,fZ⟩
    .obtain rfl:=j2 fT;refine' zc (zp J lF natC);refine (zcq (fix1 (zAC jx guest off s r.1.l1 r.1.next y.1 jq jl i1)) gb rfl ze3 gD).mono ?_;refine' GL;refine' Cl;refine' Ds;exact ⟨⟨2,fT⟩,nF,fZ⟩
    .refine' zc (zp J lF natC);refine (zcq (fix1 (zAE jx guest off s r.1.l1 r.1.next y.1 jq jl jo i1 (j1 fT) (j3 fT) fT fT)) gb rfl ze3 gD).mono ?_;refine' GL;refine' Cl;refine' Ds;exact ⟨⟨3,fT⟩,nF,fZ⟩
    .refine' zc (zp J lF natC);refine (zcq (fix1 (zxD jx guest off s r.1.l1 r.1.next y.1 jq jl jo i1 i2)) gb rfl ze3 gD).mono ?_;refine' GL;refine' Cl;refine' Ds;exact ⟨⟨4,fT⟩,nF,fZ⟩
    .refine' zc (zp J lF natC);refine (zcq (fix1 (zAD jx guest off s r.1.l1 r.1.next y.1 jq jl jo i1 i2)) gb rfl ze3 gD).mono ?_;refine' GL;refine' Cl;refine' Ds;exact ⟨⟨5,fT⟩,nF,fZ⟩
   .have lF:(je==0)=false:=bb.2 oN;rw [aa oN] at kJ;rcases h5 with rfl|rfl|rfl|rfl|rfl;all_goals refine' zc (zp J lF natC)
    .exact ⟨⟨1,fT⟩,nG,fZ⟩
    .exact ⟨⟨2,fT⟩,nG,fZ⟩
    .exact ⟨⟨3,fT⟩,nG,fZ⟩
    .exact ⟨⟨4,fT⟩,nG,fZ⟩
    .exact ⟨⟨5,fT⟩,nG,fZ⟩
  .have J:decide ((k:Int)<5)=false:=ag fT;obtain rfl:k=5:=fT;refine' zc J;all_goals rw [tC]
@[go_sem] noncomputable def zbl:Ent Tryz.prog 252:= .m4 za9 (intT .i64) (intT .i64) strT zri
end Go.Aw
