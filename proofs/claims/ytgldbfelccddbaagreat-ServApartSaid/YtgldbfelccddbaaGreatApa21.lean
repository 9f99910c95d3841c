/- Lemmas. -/
import Derived.Test.YtgldbfelccddbaaGreatApa20
set_option linter.all false
set_option maxRecDepth 100000
set_option maxHeartbeats 2000000
namespace Go.Aw
open Go Go.Proofs Go.Proofs.Tryz
def zev (d:Disk) (g:Geom) (s:Wk):Int×Wk:=if s.e≠0 then (0,s) else ((rtake d s.q g).2.1,⟨(rtake d s.q g).1,(rtake d s.q g).2.2⟩)
def wtake (d:Disk) (g:Geom) (s:Wk) (F:Plan->Int->Plan×Int):Int×Wk:=
 ((zev d g s).1,if (zev d g s).2.e≠0 then (zev d g s).2 else ⟨(F (zev d g s).2.q (zev d g s).1).1,(F (zev d g s).2.q (zev d g s).1).2⟩)
@[go_sem] abbrev hOwn (g:Geom) (d:Disk) (s:Wk) (x:Ent2) (l1 J:Int):AHeap:= [(22,.var [.d (.int .i64 x.kind),.d (.int .i64 x.loc)]),(5,.var (wkP s.q g d s.e)),(21,.var [.d (.int .i64 l1),.d (.int .u32 J)]),(20,.var [.vp 5 0])]
@[go_sem] abbrev hTak (g:Geom) (d:Disk) (s:Wk) (x:Ent2) (l1 J:Int) (f:FuncId) (caps:List AV) (k:Int):AHeap:= [(42,.var [.d (.int .i64 k)]),(41,.var [.fn (.func f) [] caps]),(40,.var [.vp 5 0]),(22,.var [.d (.int .i64 x.kind),.d (.int .i64 x.loc)]),(5,.var (wkP s.q g d s.e)),(21,.var [.d (.int .i64 l1),.d (.int .u32 J)]),(20,.var [.vp 5 0])]
def zAl (g:Geom) (d:Disk) (s:Wk) (x:Ent2) (l1 nx:Int) (f:FuncId) (caps:List AV) (lP:AV.idsL caps= [20]\/AV.idsL caps= [20,22]) (h:DP d s.q) (J:g.host<=1000000):ACall Tryz.prog 437 80 [.vp 40 0,.vp 42 0] (hTak g d s x l1 nx f caps 0) (λr h'=>r= .tup [planA (rtake d s.q g).1,.d (.int .i64 (rtake d s.q g).2.2)]/\h'=hTak g d s x l1 nx f caps (rtake d s.q g).2.1):=by refine' Fs;refine bod func437 ntmps437 (λbase=>?_);refine' Dh;rcases lP with e|e<;>(rw [e];rfl)
@[go_sem] abbrev hFil (g:Geom) (d:Disk) (s:Wk) (x:Ent2) (l1 J:Int) (f:FuncId) (caps:List AV) (k:Int):AHeap:=(80,.var [.nils 1,.nils 1])::hTak g d s x l1 J f caps k
def zAm (g:Geom) (d:Disk) (s:Wk) (x:Ent2) (l1 J:Int) (f:FuncId) (caps:List AV) (k:Int) (F:Plan×Int) (lP:AV.idsL caps= [20]\/AV.idsL caps= [20,22])
  (hF:ACallAt Tryz.prog 80 f (.d (.int .i64 k)::caps) (hFil g d s x l1 J f caps k) (λr h'=>r= .tup [planA F.1,.d (.int .i64 F.2)]/\h'=hFil g d s x l1 J f caps k)):ACall Tryz.prog 438 80 [.vp 41 0,.vp 42 0] (hTak g d s x l1 J f caps k) (λr h'=>r= .tup [planA F.1,.d (.int .i64 F.2)]/\h'=hTak g d s x l1 J f caps k):=by refine' Fs;refine bod func438 ntmps438 (λbase=>?_);refine' Ds;refine hF.mono ?_;refine' Cp;refine' Cl;refine' Ds;rcases lP with e|e<;>(rw [e];rfl)
def zs6 (g:Geom) (d:Disk) (s:Wk) (x:Ent2) (l1 nx:Int) (f:FuncId) (caps:List AV) (F:Plan->Int->Plan×Int) (lP:AV.idsL caps= [20]\/AV.idsL caps= [20,22]) (h:DP d s.q) (hg:g.host<=1000000)
  (hF:∀ (s1:Wk) (k:Int),DP d s1.q->ACallAt Tryz.prog 80 f (.d (.int .i64 k)::caps) (hFil g d s1 x l1 nx f caps k) (λr h'=>r= .tup [planA (F s1.q k).1,.d (.int .i64 (F s1.q k).2)]/\h'=hFil g d s1 x l1 nx f caps k)):
  ACall Tryz.prog 408 40 [.vp 5 0,.fn (.func f) [] caps] (hOwn g d s x l1 nx) (λr h'=>r= .d (.int .i64 (wtake d g s F).1)/\h'=hOwn g d (wtake d g s F).2 x l1 nx):=by
 refine' Ea;refine bod func408 ntmps408 (λbase=>?_);refine' Ds;obtain ⟨s1,J⟩:∃s1,s1=(zev d g s).2:=⟨_,rfl⟩
 obtain ⟨k,hk⟩:∃k,k=(zev d g s).1:=⟨_,rfl⟩
 have jt:DP d s1.q:=by rw [J];unfold zev;split;exact h;exact h.rtake g
 refine (zkE (fl:=60) (q:=s.q) (g:=g) (d:=d) (e:=s.e) (K:=λh'=>h'=hTak g d s1 x l1 nx f caps k) (zV rfl) fT rfl ?_ ?_ ?_).mono ?_
 .rintro h' rfl i hi;refine' Dp;all_goals simp
 .intro he;rw [J,hk,zev,aa he];rfl
 .intro he
  refine ((zAl g d s x l1 nx f caps lP h hg).whole (zV rfl) fT (by refine' Dm;all_goals simp)).mono ?_
  refine' Cp;refine ⟨_,_,rfl,rfl,?_⟩;rw [J,hk,zev,U lz];rfl
 refine' Cp;refine' Ds;refine (zkE (fl:=60) (q:=s1.q) (g:=g) (d:=d) (e:=s1.e) (K:=λh'=>h'=hTak g d (wtake d g s F).2 x l1 nx f caps k) (zV rfl) fT rfl ?_ ?_ ?_).mono ?_
 .rintro h' rfl i hi;refine' Dp;all_goals simp
 .intro he;rw [wtake,<-J,<-hk,aa he];rfl
 .intro he
  refine ((zAm g d s1 x l1 nx f caps k (F s1.q k) lP (hF s1 k jt)).whole (zV rfl) fT (by refine' Dm;all_goals simp)).mono ?_
  refine' Cp;refine ⟨_,_,rfl,rfl,?_⟩;rw [wtake,<-J,<-hk,U lz];rfl
 refine' Cp;refine' Ds;rw [wtake,<-hk]
def zCS (g:Geom) (d:Disk) (s1:Wk) (x:Ent2) (l1 J:Int) (k:Int) (h:DP d s1.q):ACallAt Tryz.prog 80 409 (.d (.int .i64 k):: [.vp 20 0]) (hFil g d s1 x l1 J 409 [.vp 20 0] k) (λr h'=>r= .tup [planA (eblank s1.q k).1,.d (.int .i64 (eblank s1.q k).2)]/\h'=hFil g d s1 x l1 J 409 [.vp 20 0] k):=by have hp:=h.p;refine' Jl;refine bod func409 ntmps409 (λbase=>?_);refine' Dh
def zCT (g:Geom) (d:Disk) (s1:Wk) (x:Ent2) (l1 J:Int) (k:Int) (h:DP d s1.q):ACallAt Tryz.prog 80 412 (.d (.int .i64 k):: [.vp 20 0,.vp 22 0]) (hFil g d s1 x l1 J 412 [.vp 20 0,.vp 22 0] k) (λr h'=>r= .tup [planA (ecopy d s1.q x.loc k).1,.d (.int .i64 (ecopy d s1.q x.loc k).2)]/\h'=hFil g d s1 x l1 J 412 [.vp 20 0,.vp 22 0] k):=by refine' Jl;refine bod func412 ntmps412 (λbase=>?_);refine' Dh
@[go_sem] abbrev hOw1 (g:Geom) (d:Disk) (s:Wk) (l1 J:Int):AHeap:= [(21,.var [.d (.int .i64 l1),.d (.int .u32 J)]),(20,.var [.vp 5 0]),(5,.var (wkP s.q g d s.e))]
def zCU (g:Geom) (d:Disk) (s:Wk) (h:DP d s.q):ACall Tryz.prog 407 80 [.vp 20 0,.vp 21 0] (hOw1 g d s 0 0) (λr h'=>r= .tup [planA s.q,.d (.int .i64 (zF d s.q).2)]/\h'=hOw1 g d s (zF d s.q).1.l1 (zF d s.q).1.next):=by refine' Fs;refine bod func407 ntmps407 (λbase=>?_);refine' Dh
def wless (d:Disk) (s:Wk) (fr:Int):Wk:=if fr<0 then s else wcount d s fr (-1)
def wnew (d:Disk) (p:Plan) (g:Geom) (l1 i fr:Int):Int×Wk:=
 ((wtake d g ⟨p,0⟩ (λq k=>pfill d q fr k)).1,wset d (wless d (wtake d g ⟨p,0⟩ (λq k=>pfill d q fr k)).2 fr) l1 i ⟨1,(wtake d g ⟨p,0⟩ (λq k=>pfill d q fr k)).1⟩)
def DP.wtake {d:Disk} {s:Wk} {g:Geom} {F:Plan->Int->Plan×Int} (h:DP d s.q) (J:∀q k,DP d q->DP d (F q k).1):DP d (wtake d g s F).2.q:=by
 have h1:DP d (zev d g s).2.q:=by
  unfold zev;split
  .exact h
  .exact h.rtake g
 unfold Aw.wtake;show DP d (if (zev d g s).2.e≠0 then _ else _:Wk).q;split
 .exact h1
 .exact J _ _ h1
def DP.wcount {d:Disk} {s:Wk} (h:DP d s.q) (k b:Int):DP d (wcount d s k b).q:=by
 unfold Aw.wcount;split
 .exact h
 .exact h.radd _ _
def DP.wset {d:Disk} {s:Wk} (h:DP d s.q) (t i:Int) (x:Ent2):DP d (wset d s t i x).q:=by
 unfold Aw.wset;split
 .exact h
 .exact h.eset _ _ _
def zxu {d:Disk} {p:Plan} {g:Geom} {l1 i fr:Int} (h:DP d p):(wnew d p g l1 i fr).2.e=(pfresh d p g l1 i fr).2.2/\((wnew d p g l1 i fr).2.e=0->(wnew d p g l1 i fr).2.q=(pfresh d p g l1 i fr).1/\(wnew d p g l1 i fr).1=(pfresh d p g l1 i fr).2.1)/\DP d (wnew d p g l1 i fr).2.q:=by
 refine ⟨?_,?_,?_⟩;rotate_left;rotate_left
 .have hw:=DP.wtake (d:=d) (s:=⟨p,0⟩) (g:=g) (F:=λq k=>pfill d q fr k) h (λq k J=>J.pfill fr k);unfold wnew;refine DP.wset ?_ _ _ _;unfold wless;split
  .exact hw
  .exact hw.wcount _ _
 all_goals by_cases h1:(rtake d p g).2.2=0<;>by_cases h2:(pfill d (rtake d p g).1 fr (rtake d p g).2.1).2=0<;>by_cases h3:fr<0
 all_goals simp only [wnew,pfresh,wtake,zev,wless,pless,wcount,wset,h1,h2,h3,ne_eq,dJ,dG,av,aK,ite_true,ite_false,implies_true,true_implies,bA]
 all_goals clear h
 all_goals (repeat' split)<;>simp_all
def OwnR (d:Disk) (p:Plan) (g:Geom) (guest:Int) (r:AV) (ob:AObj):Prop:=
 ∃ (k:Int) (s:Wk),r= .d (.int .i64 k)/\ob= .var (wkP s.q g d s.e)/\s.e=(pown d p g guest).2.2/\(s.e=0->s.q=(pown d p g guest).1/\k=(pown d p g guest).2.1)/\DP d s.q
def zD3 (g:Geom) (d:Disk) (p:Plan) (guest:Int) (h:DP d p) (hg:g.host≤1000000) (hgg:g.guest≤1000000):ACall Tryz.prog 370 20 [.vp 5 0,.d (.int .i64 guest)] [(5,.var (wkP p g d 0))] (fun r h'=>∃ob',h'= [(5,ob')]∧OwnR d p g guest r ob'):=by
 refine zD (fun i=>decide (i<20)) ?_
 refine bod func370 ntmps370 (fun base=>?_)
 by_cases hr:guest<0∨g.guest≤guest
 ·have hdec:(decide (guest<0)||decide (g.guest≤guest))=true:=by simpa using hr
  refine' zc hdec
  all_goals first|rfl|exact ⟨_,rfl,0,⟨p,10⟩,rfl,rfl,by rw [pown,aa hr],(fun e=>absurd e (show ¬(10:Int)=0 by decide)),h⟩
 have hdec:(decide (guest<0)||decide (g.guest≤guest))=false:=jX
 have hw1:IntKind.i64.wrap (guest.tdiv 16)=guest / 16:=by
  rw [cr] at hr
  rw [ct fT]
  exact zf fT fT
 refine' zc hdec
 obtain ⟨R,hR⟩:∃R,R=zF d p:=⟨_,rfl⟩
 refine (zkE (fl:=40) (q:=p) (g:=g) (d:=d) (e:=0) (K:=fun h'=>h'=hOw1 g d ⟨p,R.2⟩ R.1.l1 R.1.next) (zV rfl) fT rfl ?_ (fun e=>absurd rfl e) ?_).mono ?_
 ·rintro h' rfl i hi
  refine' Dp
  all_goals simp
 ·intro he
  refine ((zCU g d ⟨p,0⟩ h).whole (zV rfl) fT (by
   refine' Dm
   all_goals simp)).mono ?_
  refine' Cp
  refine ⟨_,_,rfl,rfl,?_⟩
  rw [hR]
  rfl
 refine' Cp
 refine' zc hw1
 obtain ⟨X,hX⟩:∃X,X=wget d ⟨p,R.2⟩ R.1.l1 (guest / 16):=⟨_,rfl⟩
 have hXq:X.2.q=p:=by rw [hX];unfold wget;split<;>rfl
 refine ((zBS g d ⟨p,R.2⟩ R.1.l1 (guest / 16) h).one (fl':=20) rfl rfl (zV rfl) rfl j6 gD fT).mono ?_
 refine' Gm
 rw [← hX,hXq]
 refine' Cl
 have hpn:pown d p g guest=if R.2≠0 then (p,0,R.2) else pown2 d p g R.1.l1 (guest / 16):=by rw [pown,U hr,hR]
 by_cases he:X.2.e=0
 ·have hR0:R.2=0:=by
   rcases Int.lt_trichotomy R.2 0 with hh|hh|hh
   ·rw [hX,wget,aa (show R.2≠0 by omega)] at he;exact he
   ·exact hh
   ·rw [hX,wget,aa (show R.2≠0 by omega)] at he;exact he
  have hXe:X=((eget d p R.1.l1 (guest / 16)).1,⟨p,(eget d p R.1.l1 (guest / 16)).2⟩):=by rw [hX,wget,U (show ¬R.2≠0 by omega)]
  have he2:(eget d p R.1.l1 (guest / 16)).2=0:=by rw [hXe] at he;exact he
  obtain ⟨hx1,_⟩:=znf he2
  have hk3:=(zfL hx1).1
  obtain ⟨x,hx⟩:∃x,x=(eget d p R.1.l1 (guest / 16)).1:=⟨_,rfl⟩
  have hX1:X.1=x:=by rw [hXe,hx]
  rw [← hx] at hk3 hx1
  rw [hX1,he]
  have hpn2:pown d p g guest=pown2 d p g R.1.l1 (guest / 16):=by rw [hpn,U (by rw [hR0];decide)]
  have hp2:pown2 d p g R.1.l1 (guest / 16)=if x.kind=2 then (p,0,14) else if x.kind=0 then pfresh d p g R.1.l1 (guest / 16) (-1) else if (rget d p x.loc).2≠0 then (p,0,(rget d p x.loc).2) else if (rget d p x.loc).1≤1 then (p,x.loc,0) else pfresh d p g R.1.l1 (guest / 16) x.loc:=by
   rw [pown2,U (by rw [he2];decide),← hx]
  rw [← hpn2] at hp2
  rcases hk3 with hk|hk|hk
  ·-- nothing there
   rw [U fT,aa hk] at hp2
   refine' zc hk
   refine (zs6 g d ⟨p,0⟩ ⟨0,x.loc⟩ R.1.l1 R.1.next 409 [.vp 20 0] (fun q k=>pfill d q (-1) k) (.inl rfl) h hg (fun s1 k hd=>by
    rw [show pfill d s1.q (-1) k=eblank s1.q k from aa gb]
    exact zCS g d s1 ⟨0,x.loc⟩ R.1.l1 R.1.next k hd)).whole (fl:=40) (fl':=20) (zV rfl) fT ?_ |>.mono ?_
   ·refine' Dm
    all_goals simp
   refine' Cp
   refine' Ds
   obtain ⟨W,hW⟩:∃W,W=wtake d g ⟨p,0⟩ (fun q k=>pfill d q (-1) k):=⟨_,rfl⟩
   have hDW:DP d W.2.q:=yK
   refine ((zs4 g d (wtake d g ⟨p,0⟩ (fun q k=>pfill d q (-1) k)).2 R.1.l1 (guest / 16) ⟨1,(wtake d g ⟨p,0⟩ (fun q k=>pfill d q (-1) k)).1⟩ (by rw [← hW];exact hDW)).one (fl':=20) rfl rfl (zV rfl) rfl j6 lq fT).mono ?_
   refine' Gm
   refine' Cl
   refine' Ds
   all_goals first|rfl|skip
   have hn:=zxu (g:=g) (l1:=R.1.l1) (i:=guest / 16) (fr:= -1) h
   rw [← hp2] at hn
   exact ⟨_,rfl,(wnew d p g R.1.l1 (guest / 16) (-1)).1,(wnew d p g R.1.l1 (guest / 16) (-1)).2,rfl,rfl,hn⟩
  ·-- a table
   rw [U fT,U fT] at hp2
   refine' zc hk
   refine ((zuE g d ⟨p,0⟩ x.loc h).one (fl':=20) rfl rfl (zV rfl) rfl j6 gD fT).mono ?_
   refine' Gm
   have hwc:zeF d ⟨p,0⟩ x.loc=((rget d p x.loc).1,⟨p,(rget d p x.loc).2⟩):=by rw [zeF,U fZ]
   simp only [hwc]
   refine' Cl
   obtain ⟨N,hN⟩:∃N,N=rget d p x.loc:=⟨_,rfl⟩
   rw [← hN] at hp2 ⊢
   by_cases hN1:N.1≤1
   ·have hb:decide (N.1≤1)=true:=by simpa using hN1
    simp only [hb]
    refine' Ds
    all_goals first|rfl|skip
    refine ⟨_,rfl,x.loc,⟨p,N.2⟩,rfl,rfl,?_,?_,h⟩
    ·show N.2=_
     rw [hp2]
     by_cases hN2:N.2=0
     ·rw [U fT,aa hN1,hN2]
     ·rw [aa hN2]
    ·intro (e:N.2=0)
     rw [hp2,U fT,aa hN1]
     refine' Iu
   ·have hb:decide (N.1≤1)=false:=by simpa using hN1
    have hN2:N.2=0:=by
     rw [hN,rget] at hN1 ⊢
     split
     ·rename_i hh;rw [aa hh] at hN1;exact absurd (show (0:Int)≤1 by decide) hN1
     ·rename_i hh;rw [U hh] at hN1
      split
      ·rename_i hh2;rw [aa hh2] at hN1;exact absurd (show (0:Int)≤1 by decide) hN1
      ·rfl
    rw [U fT,U hN1] at hp2
    simp only [hb,hN2]
    refine' z8 (zL 9) fx
    refine aw_le ⟨[(2,true,.vp 20 0),(5,true,.vp 21 0),(6,true,.d (.int .i64 (guest / 16))),(7,true,.vp 22 0)],hOwn g d ⟨p,0⟩ ⟨1,x.loc⟩ R.1.l1 R.1.next,some []⟩ (lxb (lan @hOwn.eq_1 @wkP.eq_1)) ?_
    refine' Ds
    have hf0:¬x.loc<0:=by have:=(zfL hx1).2.1;omega
    refine (zs6 g d ⟨p,0⟩ ⟨1,x.loc⟩ R.1.l1 R.1.next 412 [.vp 20 0,.vp 22 0] (fun q k=>pfill d q x.loc k) (.inr rfl) h hg (fun s1 k hd=>by
     rw [show pfill d s1.q x.loc k=ecopy d s1.q x.loc k from U hf0]
     exact zCT g d s1 ⟨1,x.loc⟩ R.1.l1 R.1.next k hd)).whole (fl:=40) (fl':=20) (zV rfl) fT ?_ |>.mono ?_
    ·refine' Dm
     all_goals simp
    refine' Cp
    refine' Ds
    obtain ⟨W,hW⟩:∃W,W=wtake d g ⟨p,0⟩ (fun q k=>pfill d q x.loc k):=⟨_,rfl⟩
    have hDW:DP d W.2.q:=yK
    refine ((zs3 g d (wtake d g ⟨p,0⟩ (fun q k=>pfill d q x.loc k)).2 x.loc (-1) (by rw [← hW];exact hDW)).one (fl':=20) rfl rfl (zV rfl) rfl j6 gD fT).mono ?_
    refine' Gm
    refine' Cl
    refine' Ds
    refine ((zs4 g d (wcount d (wtake d g ⟨p,0⟩ (fun q k=>pfill d q x.loc k)).2 x.loc (-1)) R.1.l1 (guest / 16) ⟨1,(wtake d g ⟨p,0⟩ (fun q k=>pfill d q x.loc k)).1⟩ (by rw [← hW];exact hDW.wcount _ _)).one (fl':=20) rfl rfl (zV rfl) rfl j6 lq fT).mono ?_
    refine' Gm
    refine' Cl
    refine' Ds
    all_goals first|rfl|skip
    have hn:=zxu (g:=g) (l1:=R.1.l1) (i:=guest / 16) (fr:=x.loc) h
    rw [← hp2] at hn
    refine ⟨_,rfl,(wnew d p g R.1.l1 (guest / 16) x.loc).1,(wnew d p g R.1.l1 (guest / 16) x.loc).2,rfl,?_,hn⟩
    rw [wnew,wless,U hf0]
    rfl
  ·rw [aa hk] at hp2
   refine' zc hk
   all_goals first|rfl|exact ⟨_,rfl,0,⟨p,14⟩,rfl,rfl,by rw [hp2],(fun e=>absurd e (show ¬(14:Int)=0 by decide)),h⟩
 ·have hb:(X.2.e !=0)=true:=by simpa using he
  refine' zc hb
  refine ⟨_,rfl,0,⟨p,X.2.e⟩,rfl,rfl,?_,(fun e=>absurd e he),h⟩
  show X.2.e=_
  rw [hpn,hX,wget]
  by_cases hR0:R.2=0
  ·rw [U (show ¬R.2≠0 by omega),U (show ¬R.2≠0 by omega),pown2]
   rw [hX,wget,U (show ¬R.2≠0 by omega)] at he
   rw [aa he]
  ·rw [aa hR0,aa hR0]
end Go.Aw
