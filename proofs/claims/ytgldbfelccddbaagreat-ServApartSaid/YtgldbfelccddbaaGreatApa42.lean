/- Lemmas. -/
import Derived.Test.YtgldbfelccddbaaGreatApa40
set_option linter.all false
set_option maxRecDepth 100000
set_option maxHeartbeats 2000000
namespace Go.Aw
open Go Go.Proofs Go.Proofs.Tryz
def znw {s:NW} (h:NwOk s):(ctxs s.x.names).length<=1001/\∀c∈ctxs s.x.names,c.length<=1018:=by
 refine ⟨by have:=h.names;simp [ctxs];omega,λc hc=>?_⟩;rcases List.mem_cons.mp hc with rfl|hc
 .decide
 .obtain ⟨m,hm,rfl⟩:=List.mem_map.mp hc;have:=h.name m hm;rw [ae];show 18+m.length<=1018;omega
def zkU {s:NW} (J:s.k=9\/s.k=10):ngOpt s.n s.x s.k s.d=zbE s.n s.x s.k s.d:=by unfold ngOpt;rw [U fT,U fT,U fT,U fT,U fT,aa J]
def nwT (s:NW) (t:Txt):NW:= { s with p:=if t= [] then s.p else .tp 3 9,out:=s.out++t }
def NwOk.nwT {s:NW} (h:NwOk s) {t:Txt} (J:s.out.length+t.length<=100000000000000):NwOk (nwT s t):=by
 refine ⟨?_,by simp only [Go.Aw.nwT,ae];exact J,h.k0,h.k1,h.d,h.z0,h.z1,h.names,h.name⟩;simp only [Go.Aw.nwT];split
 .exact h.p
 .exact .inr rfl
def zyb (s:NW):nwT s []=s:=by simp [nwT]
def zyc (s:NW) (t:Txt) (k:Int) (d:Txt) (h:t++sayS s.k k d≠ []):nwSay (nwT s t) k d=nwT s (t++sayS s.k k d):=by
 simp only [nwSay,nwW,nwT,U h,aY]
def nw_in {s:NW} (h:NwOk s):inH (nwH s) (s.p.ids++ [5]):=by
 rcases h.p with e|e<;>simp [inH,AV.ids,e,hget]
def zu9 (s:NW) (h:NwOk s) (ho:s.out.length<=10000000000000) (hp:s.n.phase=1) (hk:s.k=9):ACall Tryz.prog 243 6 [.tp 3 0] (nwH s) (λr h'=>r= .tup []/\h'=nwH (nwOpt s)):=by
 have an:ngClr s.n=s.n:=U fT;refine' Hv;have eo:ngOpt s.n s.x s.k s.d=zbE s.n s.x s.k s.d:=zkU (.inl hk);refine' Gs;have qR:(s.k==10)=false:=by rw [hk];rfl
 have Aj:¬s.k=10:=fT;have hn:s.n= { s.n with metas:=s.n.metas } :=rfl;unfold zbE at eo;rw [<-hM] at eo;simp only [U Aj] at eo;refine' Fo;refine' walkW (zg hM.symm qR) (za zcf <| za zbm <| za zaJ <| zb _)
 .rw [aa gA] at eo;refine' Ix;refine' Cp;refine' Ds;rw [hV,nx eo,an];rfl
 .rename_i ug;rw [U (by simpa using ug),aa kR] at eo;refine (zaH (zdK s 2147483657 [] h gb gb)).mono ?_;refine' Cp;refine' Ds;rw [hV,nx eo,an];rfl
 rename_i hK ui;rw [U (by simpa using ui),U rR] at eo;have kC:M.2.1.length<=8:=rR;refine (zaH (zi0 s M.1)).mono ?_;refine' Cp;cases h2:oursS M.1 with
 |false=>
  rw [aa h2] at eo;refine' En;refine' Ds;refine (zaH (zdK s 2147483654 [] h gb gb)).mono ?_;refine' Cp;refine' Ds;rw [hV,nx eo,an];rfl
 | true=>
  refine' Ed;refine' walkW hC.symm (za zcf <| za zbm <| za zaJ <| zb _);refine zk (λq: { q:Nat×Txt×List Int // q.1<=C.length/\q.2.1.length<=4116*q.1/\(q.1=0->q.2.1= [])/\zaK s.k M.2.1 0 C [] []=zaK s.k M.2.1 q.1 (C.drop q.1) q.2.1 q.2.2 } =>⟨[(0,true,.tp 3 0),(2,true,.d (.bool false)),(4,true,.d (.sl 1 (M.2.1.map strD))),(59,true,.d (.sl 1 (C.map strD))),(60,true,.d (.int .i64 C.length)),(61,true,.d (.int .i64 q.1.1))],nwH (nwT s q.1.2.1),some []⟩) (λq=>C.length - q.1.1) ⟨(0,[],[]),ad _,ad _,λ_=>rfl,rfl⟩ (by simp only [zyb];simp only [AS.le,leT,leH,ze,AsgK,AV.le,AV.leL,AObj.le,inH,idsT,idsH,AV.ids,AV.idsL,AV.idsR,AObj.ids,lk,hget,go_sem,aeq,aeq.aeqF,simprocAttr]<;>and_intros<;>first|rfl|exact AV.le_refl _|exact nw_in h) (λq=>?_);obtain ⟨⟨i,t,ids⟩,hi,ht,j3,hg⟩:=q;simp only at hi ht j3 hg |-;have gC:NwOk (nwT s t):=h.nwT fT;rcases zw strD C i hi with ⟨m,hq,b6,J,a6,b4,a7⟩|⟨ao,J⟩
  .simp only [strD] at a6;have lQ:=ay hq;have uj:=ny.2 m lQ;refine' CO;rw [b4,zaK] at hg;refine' walkW (zg J a6) (za zcf <| za zbm <| za zaJ <| zb _);refine (zaH (zu8 (nwT s t) m M.2.1 fT fT (qT m lQ).1 (qT m lQ).2 (.inl hk))).mono ?_;refine' Cp;have uk:zez m M.2.1 ((nwT s t).k !=10)=zez m M.2.1 (s.k !=10):=rfl;rw [uk];cases hb:zez m M.2.1 (s.k !=10) with
   |true=>
    refine' Jj;refine' Fu;have uo:nwSay (nwT s t) 4 (putS8 ((i+1:Nat):Int) 4++m)=nwT s (t++X):=by rw [hX];exact zyc s t 4 _ (by rw [<-hX];exact um)
    rw [<-hX] at hg;have uq:NwOk (nwT s (t++X)):=h.nwT s8;refine' Cl;refine' walkW (zg hwi o7) (za zcf <| za zbm <| za zaJ <| zb _);refine (zaH (zdK (nwT s t) 4 _ gC gb gb)).mono ?_;refine' Cp;rw [uo];refine' zc hwi;exact ⟨⟨(i+1,t++X,ids++ [((i+1:Nat):Int)]),fT,pI,λe=>by simp at e,hg⟩,by simp only [AS.le,leT,leH,ze,AsgK,AV.le,AV.leL,AObj.le,inH,idsT,idsH,AV.ids,AV.idsL,AV.idsR,AObj.ids,lk,hget,go_sem,aeq,aeq.aeqF,simprocAttr,hwi]<;>and_intros<;>first|rfl|exact AV.le_refl _|exact nw_in uq,gh⟩
   |false=>
    rw [U sH] at hg;refine' Cl;refine' zc hwi;exact ⟨⟨(i+1,t,ids),fT,qh,λe=>by simp at e,hg⟩,by simp only [AS.le,leT,leH,ze,AsgK,AV.le,AV.leL,AObj.le,inH,idsT,idsH,AV.ids,AV.idsL,AV.idsR,AObj.ids,lk,hget,go_sem,aeq,aeq.aeqF,simprocAttr,hwi]<;>and_intros<;>first|rfl|exact AV.le_refl _|exact nw_in gC,gh⟩
  .subst ao;rw [aP,zaK] at hg;rw [hg] at eo;refine' zc J;have jv:=zcg s.k 1 [];refine (zaH (zdK (nwT s t) 1 [] gC gb gb)).mono ?_;refine' Cp;refine' Ds;rw [hV,nx eo,an];simp [nwSay,nwW,nwT]
def zyd {cx:Cx} {c:Code} {Q:Exit->AS->Prop} {s:AS} (i o k:Nat) {T:TypeId} {cs:List AV} (hi:hget s.h i=some (.tvar T cs)) (ho:cs[o]?=some (.nils k))
    (h:AW cx c Q { s with h:=(fresh cx.fl s.h,.arr k [])::hset s.h i (.tvar T (cs.set o (.osl (fresh cx.fl s.h) k 0 0 0))) }):AW cx c Q s:=λE a w hs=>by
  have b5:fresh cx.fl s.h≠i:=λe=>by have:=zcj cx.fl s.h;rw [e,hi] at this;cases this
  have cc:Chg E s.h w (E.set (fresh cx.fl s.h) none 0) ((fresh cx.fl s.h,.arr k [])::s.h) w (fresh cx.fl s.h):=
    { os:=rfl,tape:=rfl,output:=rfl,size:=aj _,envO:=λj e=>gY,envC:=λj e=>gY,M:=rfl,N:=rfl,hh:=λj e=>kT,
      gi:=mK
      blk:=λb hb _=>rfl
      new:=λb _ hb=>by simp [Env.set] at hb }
  have J:=cc.sat (t:=s.t) (g:=s.g) hs (λo ho=>by refine' DD;exact .inl ⟨gM,.inl trivial⟩)
  have ia:hget ((fresh cx.fl s.h,.arr k [])::s.h) i=some (.tvar T cs):=by simp [hget,b5,hi]
  have e1:(fresh cx.fl s.h,AObj.arr k [])::hset s.h i (.tvar T (cs.set o (.osl (fresh cx.fl s.h) k 0 0 0)))=hset ((fresh cx.fl s.h,.arr k [])::s.h) i (.tvar T (cs.set o (.osl (fresh cx.fl s.h) k 0 0 0))):=by simp [hset,b5]
  refine' EX;obtain ⟨b,c',T',fz,g1,g2,g3,g4,g5⟩:=J.hp.tvar ia;have ch:=zjG (w:=w) J.hp ia (cs':=cs.set o (.osl (fresh cx.fl s.h) k 0 0 0)) fZ g1 (.cells c' T' fz);rw [zmX g2] at ch
  have eg:=ch.sat (t:=s.t) (g:=s.g) J (λob ec=>by
    rw [zi ia] at ec;cases ec;refine' Gu;have h3:=ch.reps g3
    have:=h3.set (i:=o) (a:= .osl (fresh cx.fl s.h) k 0 0 0) (v:= .slice none 0 0) (by refine' Fg;refine' H6;rw [zS (by simpa using b5)];simp [hget])
    have e2:c'.toList.set o (.slice none 0 0)=c'.toList:=by obtain ⟨bs,he⟩:=bP.1 hv;rw [<-he,List.set_getElem_self]
    rw [e2] at this;exact this)
  refine' FG
def nwCo (s:NW):List AV:= [.d (.int .i64 s.n.phase),.d (.str s.n.buf),.d (.bool s.n.brief),.d (.bool s.n.chunks),.osl 6 1 s.n.metas.length 0 s.n.metas.length,.d (.int .u64 s.x.size),.d (.sl 1 (s.x.names.map strD)),.d (.int .u32 s.k),.d (.str s.d),s.p,.bsl 5 s.out.length]
attribute [go_sem] nwCo
abbrev nwHo (s:NW):AHeap:= [(6,.arr 1 (s.n.metas.map u32D)),(5,.buf 5 s.out),(3,.tvar 182 (nwCo s))]
def zye (s:NW) (t:Txt) (h:NwOk s) (J:t.length<=1000000):ACallAt Tryz.prog 7 113 [.tp 3 9,.d (.str t)] (nwHo s) (λr h'=>r= .tup [.d (.int .i64 t.length),.d .nilif]/\h'=nwHo (nwW s t)):=by have hp:=h.p;have ho:=h.out;refine (zdv (i:=3) (j:=5) (o:=9) (T:=182) (cs:=nwCo s) (xs:=s.out) (n:=s.out.length) rfl (hp.imp (λe=>by simp [nwCo,e]) (λe=>by simp [nwCo,e])) rfl rfl rfl zx8 fT).mono ?_;refine' Cp;refine ⟨rfl,?_⟩;simp [nwHo,hset,nwCo,nwW]
def znx (s:NW) (kind:Int) (data:Txt) (h:NwOk s) (h0:0<=kind) (h1:kind<=4294967295):ACall Tryz.prog 176 7 [.tp 3 0,.d (.int .u32 kind),.d (.str data)] (nwHo s) (λr h'=>r= .tup []/\h'=nwHo (nwSay s kind data)):=by refine' Gg;refine (zye s _ h fT).mono ?_;refine' Cp;rfl
def ztx {s:NW} (h:NwOk s):inH (nwHo s) (s.p.ids++ [5]):=by
 rcases h.p with e|e<;>simp [inH,AV.ids,e,hget]
def nw_tr {p:AV} (h:p= .d .nilp\/p= .tp 3 9) (f:AV->AV):AV.tr (onI 6 f) p=p:=by
 rcases h with rfl|rfl<;>rfl
def zhp {f:FuncId} {args:List AV} {s t:NW} {r0:AV} (hc:ACall Tryz.prog f 7 args (nwHo s) (λr h'=>r=r0/\h'=nwHo t)):ACallAt Tryz.prog 6 f args (nwHo s) (λr h'=>r=r0/\h'=nwHo t):=
 hc.whole (zV rfl) gb (λ_ h' hk i hi=>by
  rw [hk.2];simp only [hget] at hi |-;by_cases J:6=i
  .simp [J]
  by_cases h5:5=i
  .simp [J,h5]
  by_cases h3:3=i
  .simp [J,h5,h3]
  simp [J,h5,h3] at hi)
def zAZ (s:NW) (t:Txt):ACall Tryz.prog 294 7 [.tp 3 0,.d (.str t)] (nwHo s) (λr h'=>r= .d (.bool (oursS t))/\h'=nwHo s):=by refine bod func294 ntmps294 (λbase=>?_);refine' Ds;rfl
def zrC (s:NW) (c:Txt) (l:List Txt) (hl:l.length<=1000000) (c6:c.length<=1000000) (h4:Lib.indexByte c 58=4) (J:c.take 5=baseC\/c.take 5=qemuC) (oL:s.k=10):ACall Tryz.prog 301 7 [.tp 3 0,.d (.str c),.d (.sl 1 (l.map strD))] (nwHo s) (λr h'=>r= .d (.bool (zez c l (s.k !=10)))/\h'=nwHo s):=by
 rw [<-zpu c l (s.k !=10) J];have Ag:=zya J;have lC:IntKind.i64.wrap 5=5:=gb;have mE:(s.k !=10)=false:=by rw [oL];rfl
 have qR:(s.k==9)=false:=by rw [oL];rfl
 rw [mE];refine bod func301 ntmps301 (λbase=>?_);refine' walkW (zp h4 lC qR) (za zgA <| za zhC <| zb _);all_goals rw [hc]
def nwS (s:NW) (ids:List Int):NW:= { s with n:= { s.n with metas:=ids } }
def NwOk.s {s:NW} (h:NwOk s) (ids:List Int):NwOk (nwS s ids):=h.n _
def zrD (s:NW) (h:NwOk s) (ho:s.out.length<=10000000000000) (hp:s.n.phase=1) (hk:s.k=10):ACall Tryz.prog 243 6 [.tp 3 0] (nwH s) (λr h'=>r= .tup []/\h'=nwH (nwOpt s)):=by
 have an:∀m,ngClr { s.n with metas:=m } = { s.n with metas:=m } :=λm=>U (show ¬s.n.phase=3 by omega);refine' Hv;have eo:ngOpt s.n s.x s.k s.d=zbE s.n s.x s.k s.d:=zkU (.inr hk);refine' Gs;have qR:(s.k==10)=true:=by rw [hk];rfl
 unfold zbE at eo;rw [<-hM] at eo;simp only [aa hk] at eo;refine' Fo;refine' zfh (zL 3) qR (za zcf <| za zbm <| za zaJ <| zb _);refine zyd 3 4 1 rfl rfl ?_;refine' Cl;refine aw_le ⟨[(0,true,.tp 3 0),(2,true,.d (.bool true))],nwHo (nwS s []),some []⟩ (by simp only [AS.le,leT,leH,ze,AsgK,AV.le,AV.leL,AObj.le,inH,idsT,idsH,AV.ids,AV.idsL,AV.idsR,AObj.ids,lk,hget,go_sem,aeq,aeq.aeqF,simprocAttr]<;>and_intros<;>first|rfl|exact AV.le_refl _|exact ztx (h.s [])) ?_;have Ak:zb2 (nwS s []).d=M:=hM.symm;have wE:(nwS s []).n.chunks=s.n.chunks:=rfl;have gw:(nwS s []).d.length<=1000000:=aD hd gb;refine' walkW (zp Ak wE gw) (za zcf <| za zbm <| za zaJ <| zb _)
 .rw [aa gA] at eo;refine (zhp (znx (nwS s []) 2147483651 [] (h.s []) gb gb)).mono ?_;refine' Cp;refine hK _ ?_;refine za0 6 rfl ?_;refine' Ds;rw [hV,nx eo,an];rfl
 .rename_i hK ug;rw [U (by simpa using ug),aa kR] at eo;refine (zhp (znx (nwS s []) 2147483657 [] (h.s []) gb gb)).mono ?_;refine' Cp;refine hK _ ?_;refine za0 6 rfl ?_;refine' Ds;rw [hV,nx eo,an];rfl
 rename_i hK ui;rw [U (by simpa using ui),U rR] at eo;have kC:M.2.1.length<=8:=rR;refine (zhp (zAZ (nwS s []) M.1)).mono ?_;refine' Cp;cases h2:oursS M.1 with
 |false=>
  rw [aa h2] at eo;refine' En;refine' Ds;refine (zhp (znx (nwS s []) 2147483654 [] (h.s []) gb gb)).mono ?_;refine' Cp;refine hK _ ?_;refine za0 6 rfl ?_;refine' Ds;rw [hV,nx eo,an];rfl
 | true=>
  refine' Ed;have Al:ctxs (nwS s []).x.names=C:=hC.symm;have Am:(nwS s []).x.names.length<=1000000:=aD nU gb;have CH:∀t∈(nwS s []).x.names,t.length<=1000000:=qS;refine' walkW (zg Al Am) (za zcf <| za zbm <| za zaJ <| zb _);refine zk (λq: { q:Nat×Txt×List Int // q.1<=C.length/\q.2.1.length<=4116*q.1/\q.2.2.length<=q.1/\zaK s.k M.2.1 0 C [] []=zaK s.k M.2.1 q.1 (C.drop q.1) q.2.1 q.2.2 } =>⟨[(0,true,.tp 3 0),(2,true,.d (.bool true)),(4,true,.d (.sl 1 (M.2.1.map strD))),(59,true,.d (.sl 1 (C.map strD))),(60,true,.d (.int .i64 C.length)),(61,true,.d (.int .i64 q.1.1))],nwHo (nwT (nwS s q.1.2.2) q.1.2.1),some []⟩) (λq=>C.length - q.1.1) ⟨(0,[],[]),ad _,ad _,ad _,rfl⟩ (by simp only [zyb];simp only [AS.le,leT,leH,ze,AsgK,AV.le,AV.leL,AObj.le,inH,idsT,idsH,AV.ids,AV.idsL,AV.idsR,AObj.ids,lk,hget,go_sem,aeq,aeq.aeqF,simprocAttr]<;>and_intros<;>first|rfl|exact AV.le_refl _|exact ztx (h.s [])) (λq=>?_);obtain ⟨⟨i,t,ids⟩,hi,ht,gL,hg⟩:=q;simp only at hi ht gL hg |-;have gC:NwOk (nwT (nwS s ids) t):=(h.s ids).nwT (show s.out.length+_<=_ by omega);rcases zw strD C i hi with ⟨m,hq,b7,J,a6,b4,a7⟩|⟨ao,J⟩
  .simp only [strD] at a6;have lQ:=ay hq;have uj:=ny.2 m lQ;refine' CO;rw [b4,zaK] at hg;refine' walkW (zg J a6) (za zcf <| za zbm <| za zaJ <| zb _);refine (zhp (zrC (nwT (nwS s ids) t) m M.2.1 fT fT (qT m lQ).1 (qT m lQ).2 hk)).mono ?_;refine' Cp;have uk:zez m M.2.1 ((nwT (nwS s ids) t).k !=10)=zez m M.2.1 (s.k !=10):=rfl;rw [uk];cases hb:zez m M.2.1 (s.k !=10) with
   |true=>
    refine' Jj;have gO:IntKind.u32.wrap ((i+1:Nat):Int)=((i+1:Nat):Int):=zbT fT fT;refine' Fu;have uo:nwSay (nwT (nwS s ids) t) 4 (putS8 ((i+1:Nat):Int) 4++m)=nwT (nwS s ids) (t++X):=by rw [hX];exact zyc (nwS s ids) t 4 _ (by show t++sayS s.k 4 _≠ [];rw [<-hX];exact um)
    rw [<-hX] at hg;have uq:NwOk (nwT (nwS s (ids++ [((i+1:Nat):Int)])) (t++X)):=(h.s _).nwT (by show s.out.length+_<=_;rw [ae];omega);have me:(nwT (nwS s ids) (t++X)).n.metas=ids:=rfl;have l6:(nwT (nwS s (ids++ [((i+1:Nat):Int)])) (t++X)).n.metas=ids++ [((i+1:Nat):Int)]:=rfl;have gF:(ids.map u32D).length=ids.length:=al ..;refine' Cl;refine' walkW (zg hwi o7) (za zcf <| za zbm <| za zaJ <| zb _);refine (zhp (znx (nwT (nwS s ids) t) 4 _ gC gb gb)).mono ?_;refine' Cp;rw [uo];refine' zc (zB hwi gO me gF);exact ⟨⟨(i+1,t++X,ids++ [((i+1:Nat):Int)]),fT,pI,tK,hg⟩,by simp only [AS.le,leT,leH,ze,AsgK,AV.le,AV.leL,AObj.le,inH,idsT,idsH,AV.ids,AV.idsL,AV.idsR,AObj.ids,lk,hget,go_sem,aeq,aeq.aeqF,simprocAttr,hwi,l6,aG,ae,u32D]<;>and_intros<;>first|rfl|exact AV.le_refl _|exact ztx uq,gh⟩
   |false=>
    rw [U sH] at hg;refine' Cl;refine' zc hwi;exact ⟨⟨(i+1,t,ids),fT,qh,vA,hg⟩,by simp only [AS.le,leT,leH,ze,AsgK,AV.le,AV.leL,AObj.le,inH,idsT,idsH,AV.ids,AV.idsL,AV.idsR,AObj.ids,lk,hget,go_sem,aeq,aeq.aeqF,simprocAttr,hwi]<;>and_intros<;>first|rfl|exact AV.le_refl _|exact ztx gC,gh⟩
  .subst ao;rw [aP,zaK] at hg;rw [hg] at eo;have jv:=zcg s.k 1 [];refine' z8 (zL 18) J;refine za0 6 rfl ?_;have pB:=nw_tr gC.p (AV.frzd 6 (.arr 1 ((nwT (nwS s ids) t).n.metas.map u32D)));simp only [go_sem,aeq,aeq.aeqF,simprocAttr,pB];refine' Ds;refine (zaH (zdK (nwT (nwS s ids) t) 1 [] gC gb gb)).mono ?_;refine' Cp;refine' Ds;rw [hV,nx eo,an];simp [nwSay,nwW,nwT,nwS]
structure XpF (x:Xp):Prop where
 ok:XpOk x
 l:x.names.length<=1000
 n:∀t∈x.names,t.length<=1000
def xctxs {x:Xp} (h:XpF x):(ctxs x.names).length<=1001/\∀c∈ctxs x.names,c.length<=1018:=by
 refine ⟨by have:=h.l;simp [ctxs];omega,λc hc=>?_⟩;rcases List.mem_cons.mp hc with rfl|hc
 .decide
 .obtain ⟨m,hm,rfl⟩:=List.mem_map.mp hc;have:=h.n m hm;rw [ae];show 18+m.length<=1018;omega
def zBn (s:Txt) (hs:s.length≤1000000):(zb2 s).2.1.length≤1000∧∀t∈(zb2 s).2.1,t.length≤1000000:=by
 have hg:∀ (k:Nat) (l:List Txt) (r:Txt) (l2:List Txt) (r2:Txt),r.length≤1000000→(∀t∈l,t.length≤1000000)→zex k l r=some (l2,r2)→l2.length=l.length+k∧∀t∈l2,t.length≤1000000:=by
  intro k
  induction k with
  |zero=>intro l r l2 r2 _ hl h;cases h;exact ⟨rfl,hl⟩
  | succ k ih=>
   intro l r l2 r2 hr hl h
   rw [zex] at h
   split at h
   ·cases h
   ·obtain ⟨a,b⟩:=ih _ _ _ _ (aD (zei r) hr) (fun t ht=>by
     rcases List.mem_append.mp ht with h1|h1
     ·exact hl t h1
     ·rw [List.mem_singleton.mp h1]
      unfold toBeg
      split
      ·exact ad _
      split
      ·exact ad _
      ·simp only [az,ak];omega) h
    exact ⟨by rw [a,ae,bl];omega,b⟩
 unfold zb2
 split
 ·exact ⟨ad _,fZ⟩
 ·rename_i h0
  split
  ·exact ⟨ad _,fZ⟩
  ·rename_i l r hl
   split
   ·exact ⟨ad _,fZ⟩
   ·obtain ⟨a,b⟩:=hg _ _ _ _ _ (by rw [ak];have:=zei s;omega) fZ hl
    exact ⟨by rw [a];simp only [aM];omega,b⟩
def zsh (n:Ng) (x:Xp) (k:Int) (d:Txt) (h:XpF x) (h0:0<=k) (h1:k<=4294967295) (hd:d.length<=1000000):ACall Tryz.prog 264 0 [ngA n,xpA x,.agg [.d (.int .u32 k),.d (.str d)]] [] (λr _=>r= .tup [ngA (zbE n x k d).1,.d (.str (zbE n x k d).2)]):=by
 obtain ⟨V,hV⟩:∃V,V=zbE n x k d:=⟨_,rfl⟩
 rw [<-hV];obtain ⟨M,hM⟩:∃M,M=zb2 d:=⟨_,rfl⟩
 have oP:=zBn d hd;rw [<-hM] at oP;have ny:=xctxs h;have nU:x.names.length<=1000000:=aD h.l gb;have qS:∀t∈x.names,t.length<=1000000:=λt ht=>aD (h.n t ht) gb;unfold zbE at hV;rw [<-hM] at hV;obtain ⟨C,hC⟩:∃C,C=ctxs x.names:=⟨_,rfl⟩
 rw [<-hC] at hV ny;cases hk:(k==10) with
 | false=>
  have gR:¬k=10:=pd;have kM:(k !=10)=true:=by simpa using gR
  simp only [U gR] at hV;refine' Gy
  .rw [aa gA] at hV;rw [hV]
  .rename_i bo;rw [U kF,aa kR] at hV;rw [hV]
  .rename_i bo fY;rw [U kF,U rN,aa gA] at hV;rw [hV]
  rename_i bo fY;rw [U kF,U rN,U gA] at hV;refine zaI 14 1 rfl ?_;refine' Cl;rw [<-hC];refine zk (λq: { q:Nat×Txt×List Int // q.1<=C.length/\q.2.1.length<=4116*q.1/\q.2.2.length<=q.1/\zaK k M.2.1 0 C [] []=zaK k M.2.1 q.1 (C.drop q.1) q.2.1 q.2.2 } =>⟨[(3,true,.vp 0 0),(5,true,.vp 2 0),(6,true,.vp 3 0),(8,true,.d (.bool false)),(10,true,.d (.sl 1 (M.2.1.map strD))),(12,true,.d (.str q.1.2.1)),(13,true,.d (.sl 1 (C.map strD))),(14,true,.osl 4 1 q.1.2.2.length 0 q.1.2.2.length),(15,true,.d (.int .i64 q.1.1))],[(4,.arr 1 (q.1.2.2.map u32D)),(3,.var [.d (.int .i64 0),.d (.str []),.d (.bool false),.d (.bool false),.nils 1]),(2,.var [.d (.int .u32 k),.d (.str d)]),(0,.var [.d (.int .i64 n.phase),.d (.str n.buf),.d (.bool n.brief),.d (.bool n.chunks),.d (.sl 1 (n.metas.map u32D))])],some []⟩) (λq=>C.length - q.1.1) ⟨(0,[],[]),ad _,ad _,ad _,rfl⟩ le1 (λq=>?_);refine' EO
  .simp only [strD] at an;have uj:=ny.2 m (ay hq);refine' CO;rw [b4,zaK] at hg;cases hb:zez m M.2.1 (k !=10) with
   |true=>
    refine' Dz;all_goals first|omega|exact oP.2|skip
    exact ⟨⟨(i+1,t++X,ids++ [((i+1:Nat):Int)]),fT,pI,tK,hg⟩,(by simp only [AS.le,leT,leH,ze,AsgK,AV.le,AV.leL,AObj.le,inH,idsT,idsH,AV.ids,AV.idsL,AV.idsR,AObj.ids,lk,hget,go_sem,aeq,aeq.aeqF,simprocAttr,hwi,aG,ae,u32D]<;>and_intros<;>rfl),gh⟩
   |false=>
    refine' HY;all_goals first|omega|exact oP.2|skip
    exact ⟨⟨(i+1,t,ids),fT,qh,vA,hg⟩,lev,gh⟩
  .refine' GK;all_goals first|omega|skip
   rw [hV]
 | true=>
  have gR:k=10:=pd;have kM:(k !=10)=false:=by rw [gR];rfl
  simp only [aa gR] at hV;refine' Gy
  .rw [aa gA] at hV;rw [hV];rfl
  .rename_i bo;rw [U kF,aa kR] at hV;rw [hV];rfl
  .rename_i bo fY;rw [U kF,U rN,aa gA] at hV;rw [hV];rfl
  rename_i bo fY;rw [U kF,U rN,U gA] at hV;refine zaI 14 1 rfl ?_;refine' Cl;rw [<-hC];refine zk (λq: { q:Nat×Txt×List Int // q.1<=C.length/\q.2.1.length<=4116*q.1/\q.2.2.length<=q.1/\zaK k M.2.1 0 C [] []=zaK k M.2.1 q.1 (C.drop q.1) q.2.1 q.2.2 } =>⟨[(3,true,.vp 0 0),(5,true,.vp 2 0),(6,true,.vp 3 0),(8,true,.d (.bool true)),(10,true,.d (.sl 1 (M.2.1.map strD))),(12,true,.d (.str q.1.2.1)),(13,true,.d (.sl 1 (C.map strD))),(14,true,.osl 4 1 q.1.2.2.length 0 q.1.2.2.length),(15,true,.d (.int .i64 q.1.1))],[(4,.arr 1 (q.1.2.2.map u32D)),(3,.var [.d (.int .i64 0),.d (.str []),.d (.bool false),.d (.bool false),.nils 1]),(2,.var [.d (.int .u32 k),.d (.str d)]),(0,.var [.d (.int .i64 n.phase),.d (.str n.buf),.d (.bool n.brief),.d (.bool n.chunks),.d (.sl 1 (([]:List Int).map u32D))])],some []⟩) (λq=>C.length - q.1.1) ⟨(0,[],[]),ad _,ad _,ad _,rfl⟩ le1 (λq=>?_);refine' EO
  .simp only [strD] at an;have uj:=ny.2 m (ay hq);refine' CO;rw [b4,zaK] at hg;cases hb:zez m M.2.1 (k !=10) with
   |true=>
    refine' Dz;all_goals first|omega|exact oP.2|skip
    exact ⟨⟨(i+1,t++X,ids++ [((i+1:Nat):Int)]),fT,pI,tK,hg⟩,(by simp only [AS.le,leT,leH,ze,AsgK,AV.le,AV.leL,AObj.le,inH,idsT,idsH,AV.ids,AV.idsL,AV.idsR,AObj.ids,lk,hget,go_sem,aeq,aeq.aeqF,simprocAttr,hwi,aG,ae,u32D]<;>and_intros<;>rfl),gh⟩
   |false=>
    refine' HY;all_goals first|omega|exact oP.2|skip
    exact ⟨⟨(i+1,t,ids),fT,qh,vA,hg⟩,lev,gh⟩
  .refine' GK;all_goals first|omega|skip
   rw [hV]
@[go_sem] noncomputable def zaG:Ent Tryz.prog 264:= .ofL (consL ngA_T (consL xpA_T (consL (aggT (consL (intT .u32) (consL strT nilL)) (λp=>p) (λp=>p) (λ_=>rfl)) nilL))) (λ(n,x,(k,d,_),_)=>(XpF x)/\(0<=k)/\(k<=4294967295)/\(d.length<=1000000)) (λ(n,x,(k,d,_),_)=> .tup [ngA (zbE n x k d).1,.d (.str (zbE n x k d).2)]) (λ(n,x,(k,d,_),_) hp=>⟨rfl,zsh n x k d hp.1 hp.2.1 hp.2.2.1 hp.2.2.2⟩)
def zsi (x:Xp):(sizeS x.size).length=10:=qO
def zp3 (n:Ng) (x:Xp) (k:Int) (d:Txt) (h:XpF x) (h0:0<=k) (h1:k<=4294967295) (hd:d.length<=1000000):ACall Tryz.prog 193 0 [ngA n,xpA x,.agg [.d (.int .u32 k),.d (.str d)]] [] (λr _=>r= .tup [ngA (ngOpt n x k d).1,.d (.str (ngOpt n x k d).2)]):=by
 obtain ⟨V,J⟩:∃V,V=ngOpt n x k d:=⟨_,rfl⟩
 rw [<-J];unfold ngOpt at J;have hx:=h.ok;have gd:=zsi x;have jU:=λo c t=>zcg o c t;by_cases k1:k=1
 .subst k1;rw [aa rfl] at J;cases ho:oursS d with
  |false=>
   rw [aa ho] at J;refine' DB;refine' walkW ho (za zaA <| za zaf <| za zaS <| za zap <| za zaG <| za zaF <| zb _);rw [J]
  | true=>
   rw [U (by rw [ho];decide)] at J;cases hb:n.brief with
   |true=>
    rw [hb] at J;refine' DB;refine' Ir;rw [J];simp
   | false=>
    rw [hb] at J;refine' DB;refine' Ir
    .rfl
    .rw [gd];show 10+124<9223372036854775808;decide
    rw [J];rfl
 rw [U k1] at J;by_cases k2:k=2
 .subst k2;rw [aa rfl] at J;refine' DB;refine' E7
 rw [U k2] at J;by_cases k3:k=3
 .subst k3;rw [aa rfl] at J;by_cases he:d= []
  .have hb:(d != [])=false:=by simpa using he
   rw [U (λe=>e he)] at J;have s1:=jU 3 2 (zfP [100,105,115,107]);have s2:=jU 3 1 [];refine' DB;refine' Ee
  .have hb:(d != [])=true:=by simpa using he
   rw [aa he] at J;refine' DB;refine' Ee
 rw [U k3] at J;have b1:(k==1)=false:=by simpa using k1
 have b2:(k==2)=false:=by simpa using k2
 have b3:(k==3)=false:=by simpa using k3
 by_cases ur:k=6\/k=7
 .rw [aa ur] at J;obtain ⟨A,hA⟩:∃A,A=zey d:=⟨_,rfl⟩
  rw [<-hA] at J;have s1:(sayS k 3 (0::0::sizeS x.size)).length<=4116:=jU _ _ _;have s2:=jU k 1 [];rcases ur with rfl|rfl
  .refine' DB;refine' IB
   .rw [aa gA] at J;rw [J]
   .rename_i bo;rw [U kF,aa gA] at J;rw [J]
   rename_i bo;rw [U kF,U gA] at J;rw [J];rfl
  .refine' DB;refine' IB
   .rw [aa gA] at J;rw [J]
   .rename_i bo;rw [U kF,aa gA] at J;rw [J]
   rename_i bo;rw [U kF,U gA] at J;rw [J];rfl
 rw [U ur] at J;have b6:(k==6)=false:=gh;have b7:(k==7)=false:=gh;by_cases k8:k=8
 .subst k8;rw [aa rfl] at J;by_cases he:d= []
  .have hb:(d != [])=false:=by simpa using he
   rw [U (λe=>e he)] at J;refine' DB;refine' Ee
  .have hb:(d != [])=true:=by simpa using he
   rw [aa he] at J;refine' DB;refine' Ee
 rw [U k8] at J;have b8:(k==8)=false:=by simpa using k8
 by_cases uu:k=9\/k=10
 .rw [aa uu] at J;rcases uu with rfl|rfl
  .refine' DB;refine' E7
  .refine' DB;refine' E7
 rw [U uu] at J;have b9:(k==9)=false:=gh;have vS:(k==10)=false:=gh;refine' DB
 (have tk:=za zaA <| za zaf <| za zaS <| za zap <| za zaG <| za zaF <| zb Tryz.prog);repeat' (first|((first|(refine sa ?_;intro K hK)|refine sb ?_);simp only [go_sem,aeq,aeq.aeqF,simprocAttr,b1,b2,b3,b6,b7,b8,b9,vS,results193])|refine zaC (λK hK=>?_)|refine sc ?_|refine za1 rfl (λhc=>?_) (λhc=>?_)|(refine hK _ ?_;clear hK K)|with_reducible refine And.intro ?_ ?_|(refine (show zb8 _ _=true from ?_);kernel_rfl)|omega|assumption|clear hK K)
 rw [J]
@[go_sem] noncomputable def zcn:Ent Tryz.prog 193:= .ofL (consL ngA_T (consL xpA_T (consL (aggT (consL (intT .u32) (consL strT nilL)) (λp=>p) (λp=>p) (λ_=>rfl)) nilL))) (λ(n,x,(k,d,_),_)=>(XpF x)/\(0<=k)/\(k<=4294967295)/\(d.length<=1000000)) (λ(n,x,(k,d,_),_)=> .tup [ngA (ngOpt n x k d).1,.d (.str (ngOpt n x k d).2)]) (λ(n,x,(k,d,_),_) hp=>⟨rfl,zp3 n x k d hp.1 hp.2.1 hp.2.2.1 hp.2.2.2⟩)
end Go.Aw
