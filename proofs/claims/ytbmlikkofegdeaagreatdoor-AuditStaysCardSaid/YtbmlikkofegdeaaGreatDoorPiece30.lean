/-
  Parts of the proof: PointF, PointG, CowA, CowB, CowC, CowD (short names; the readable texts lie in the repo, under wip).
-/
import Derived.Test.YtbmlikkofegdeaaGreatDoorPiece29
import Derived.Test.YtbmlikkofegdeaaGreatDoorPiece17
import Derived.Test.YtbmlikkofegdeaaGreatDoorPiece28
set_option maxRecDepth 100000
set_option maxHeartbeats 2000000
set_option linter.unusedSimpArgs false
set_option linter.unusedVariables false
namespace Go.Aw
open Go Go.Proofs
def wless (d:Disk) (s:Wk) (fr:Int):Wk:=if fr<0 then s else wcount d s fr (-1)
def wnew (d:Disk) (p:Plan) (g:Geom) (l1 i fr:Int):Int×Wk:=
 ((wtake d g ⟨p,0⟩ (λq k=>pfill d q fr k)).1,wset d (wless d (wtake d g ⟨p,0⟩ (λq k=>pfill d q fr k)).2 fr) l1 i ⟨1,(wtake d g ⟨p,0⟩ (λq k=>pfill d q fr k)).1⟩)
theorem DP.wtake {d:Disk} {s:Wk} {g:Geom} {F:Plan->Int->Plan×Int} (h:DP d s.q) (hF:∀q k,DP d q->DP d (F q k).1):DP d (wtake d g s F).2.q:=by
 have h1:DP d (zdp d g s).2.q:=by
  unfold zdp;split
  ·exact h
  ·exact h.rtake g
 unfold Aw.wtake;show DP d (if (zdp d g s).2.e≠0 then _ else _:Wk).q;split
 ·exact h1
 ·exact hF _ _ h1
theorem DP.wcount {d:Disk} {s:Wk} (h:DP d s.q) (k b:Int):DP d (wcount d s k b).q:=by
 unfold Aw.wcount;split
 ·exact h
 ·exact h.radd _ _
theorem DP.wset {d:Disk} {s:Wk} (h:DP d s.q) (t i:Int) (x:Ent2):DP d (wset d s t i x).q:=by
 unfold Aw.wset;split
 ·exact h
 ·exact h.eset _ _ _
theorem ztj {d:Disk} {p:Plan} {g:Geom} {l1 i fr:Int} (h:DP d p):(wnew d p g l1 i fr).2.e=(pfresh d p g l1 i fr).2.2/\((wnew d p g l1 i fr).2.e=0->(wnew d p g l1 i fr).2.q=(pfresh d p g l1 i fr).1/\(wnew d p g l1 i fr).1=(pfresh d p g l1 i fr).2.1)/\DP d (wnew d p g l1 i fr).2.q:=by
 refine ⟨?_,?_,?_⟩;rotate_left;rotate_left
 ·have hw:=DP.wtake (d:=d) (s:=⟨p,0⟩) (g:=g) (F:=λq k=>pfill d q fr k) h (λq k hq=>hq.pfill fr k);unfold wnew;refine DP.wset ?_ _ _ _;unfold wless;split
  ·exact hw
  ·exact hw.wcount _ _
 all_goals by_cases h1:(rtake d p g).2.2=0<;>by_cases h2:(pfill d (rtake d p g).1 fr (rtake d p g).2.1).2=0<;>by_cases h3:fr<0
 all_goals simp only [wnew,pfresh,wtake,zdp,wless,pless,wcount,wset,h1,h2,h3,ne_eq,not_true_eq_false,not_false_eq_true,if_true,if_false,ite_true,ite_false,implies_true,true_implies,and_self]
 all_goals clear h
 all_goals (repeat' split)<;>simp_all
def OwnR (d:Disk) (p:Plan) (g:Geom) (guest:Int) (r:AV) (ob:AObj):Prop:=
 ∃ (k:Int) (s:Wk),r= .d (.int .i64 k)/\ob= .var (wkP s.q g d s.e)/\s.e=(pown d p g guest).2.2/\(s.e=0->s.q=(pown d p g guest).1/\k=(pown d p g guest).2.1)/\DP d s.q
theorem zyt (g:Geom) (d:Disk) (p:Plan) (guest:Int) (h:DP d p) (hg:g.host≤1000000) (hgg:g.guest≤1000000):ACall Tryz.prog 214 20 [.vp 5 0,.d (.int .i64 guest)] [(5,.var (wkP p g d 0))] (fun r h'=>∃ob',h'= [(5,ob')]∧OwnR d p g guest r ob'):=by
 refine zC (fun i=>decide (i<20)) ?_
 refine bod Tryz.func214 Tryz.ntmps214 (fun base=>?_)
 by_cases hr:guest<0∨g.guest≤guest
 ·have hdec:(decide (guest<0)||decide (g.guest≤guest))=true:=by simpa using hr
  refine' zc hdec
  all_goals first|rfl|exact ⟨_,rfl,0,⟨p,10⟩,rfl,rfl,by rw [pown,if_pos hr],(fun e=>absurd e (show ¬(10:Int)=0 by decide)),h⟩
 have hdec:(decide (guest<0)||decide (g.guest≤guest))=false:=by simpa using hr
 have hw1:IntKind.i64.wrap (guest.tdiv 16)=guest / 16:=by
  rw [not_or] at hr
  rw [Int.tdiv_eq_ediv_of_nonneg (by omega)]
  exact zg (by omega) (by omega)
 refine' zc hdec
 obtain ⟨R,hR⟩:∃R,R=ze d p:=⟨_,rfl⟩
 refine (zi7 (fl:=40) (q:=p) (g:=g) (d:=d) (e:=0) (K:=fun h'=>h'=hOw1 g d ⟨p,R.2⟩ R.1.l1 R.1.next) (zJ rfl) (by omega) rfl ?_ (fun e=>absurd rfl e) ?_).mono ?_
 ·rintro h' rfl i hi
  revert hi
  simp only [hget]
  repeat' split
  all_goals simp
 ·intro he
  refine ((zxq g d ⟨p,0⟩ h).whole (zJ rfl) (by omega) (by
   rintro r h' ⟨_,rfl⟩ i hi
   revert hi
   simp only [hget]
   repeat' split
   all_goals simp)).mono ?_
  rintro r h' ⟨rfl,rfl⟩
  refine ⟨_,_,rfl,rfl,?_⟩
  rw [hR]
  rfl
 rintro r h' ⟨rfl,rfl⟩
 refine' zc hw1
 obtain ⟨X,hX⟩:∃X,X=wget d ⟨p,R.2⟩ R.1.l1 (guest / 16):=⟨_,rfl⟩
 have hXq:X.2.q=p:=by rw [hX];unfold wget;split<;>rfl
 refine ((zpD g d ⟨p,R.2⟩ R.1.l1 (guest / 16) h).one (fl':=20) rfl rfl (zJ rfl) rfl (by simp [AObj.ids,AV.idsL,AV.ids,wkP]) (by simp [AV.idsL,AV.ids]) (by omega)).mono ?_
 rintro r h' ⟨ob',⟨rfl,rfl⟩,rfl⟩
 rw [← hX,hXq]
 simp only [go_sem,aeq,aeq.aeqF,simprocAttr]
 have hpn:pown d p g guest=if R.2≠0 then (p,0,R.2) else pown2 d p g R.1.l1 (guest / 16):=by rw [pown,if_neg hr,hR]
 by_cases he:X.2.e=0
 ·have hR0:R.2=0:=by
   rcases Int.lt_trichotomy R.2 0 with hh|hh|hh
   ·rw [hX,wget,if_pos (show R.2≠0 by omega)] at he;exact he
   ·exact hh
   ·rw [hX,wget,if_pos (show R.2≠0 by omega)] at he;exact he
  have hXe:X=((eget d p R.1.l1 (guest / 16)).1,⟨p,(eget d p R.1.l1 (guest / 16)).2⟩):=by rw [hX,wget,if_neg (show ¬R.2≠0 by omega)]
  have he2:(eget d p R.1.l1 (guest / 16)).2=0:=by rw [hXe] at he;exact he
  obtain ⟨hx1,_⟩:=zep he2
  have hk3:=(zbm hx1).1
  obtain ⟨x,hx⟩:∃x,x=(eget d p R.1.l1 (guest / 16)).1:=⟨_,rfl⟩
  have hX1:X.1=x:=by rw [hXe,hx]
  rw [← hx] at hk3 hx1
  rw [hX1,he]
  have hpn2:pown d p g guest=pown2 d p g R.1.l1 (guest / 16):=by rw [hpn,if_neg (by rw [hR0];decide)]
  have hp2:pown2 d p g R.1.l1 (guest / 16)=if x.kind=2 then (p,0,14) else if x.kind=0 then pfresh d p g R.1.l1 (guest / 16) (-1) else if (rget d p x.loc).2≠0 then (p,0,(rget d p x.loc).2) else if (rget d p x.loc).1≤1 then (p,x.loc,0) else pfresh d p g R.1.l1 (guest / 16) x.loc:=by
   rw [pown2,if_neg (by rw [he2];decide),← hx]
  rw [← hpn2] at hp2
  rcases hk3 with hk|hk|hk
  ·-- nothing there
   rw [if_neg (by omega),if_pos hk] at hp2
   refine' zc hk
   refine (zpF g d ⟨p,0⟩ ⟨0,x.loc⟩ R.1.l1 R.1.next 259 [.vp 20 0] (fun q k=>pfill d q (-1) k) (.inl rfl) h hg (fun s1 k hd=>by
    rw [show pfill d s1.q (-1) k=eblank s1.q k from if_pos (by decide)]
    exact zxo g d s1 ⟨0,x.loc⟩ R.1.l1 R.1.next k hd)).whole (fl:=40) (fl':=20) (zJ rfl) (by omega) ?_ |>.mono ?_
   ·rintro r h' ⟨_,rfl⟩ i hi
    revert hi
    simp only [hget]
    repeat' split
    all_goals simp
   rintro r h' ⟨rfl,rfl⟩
   refine' zc fx
   obtain ⟨W,hW⟩:∃W,W=wtake d g ⟨p,0⟩ (fun q k=>pfill d q (-1) k):=⟨_,rfl⟩
   have hDW:DP d W.2.q:=by rw [hW];exact DP.wtake h (fun q k hq=>hq.pfill _ _)
   refine ((zpC g d (wtake d g ⟨p,0⟩ (fun q k=>pfill d q (-1) k)).2 R.1.l1 (guest / 16) ⟨1,(wtake d g ⟨p,0⟩ (fun q k=>pfill d q (-1) k)).1⟩ (by rw [← hW];exact hDW)).one (fl':=20) rfl rfl (zJ rfl) rfl (by simp [AObj.ids,AV.idsL,AV.ids,wkP]) (by simp [AV.idsL,AV.ids,entA]) (by omega)).mono ?_
   rintro r h' ⟨ob',⟨rfl,rfl⟩,rfl⟩
   simp only [go_sem,aeq,aeq.aeqF,simprocAttr]
   refine' zc fx
   all_goals first|rfl|skip
   have hn:=ztj (g:=g) (l1:=R.1.l1) (i:=guest / 16) (fr:= -1) h
   rw [← hp2] at hn
   exact ⟨_,rfl,(wnew d p g R.1.l1 (guest / 16) (-1)).1,(wnew d p g R.1.l1 (guest / 16) (-1)).2,rfl,rfl,hn⟩
  ·-- a table
   rw [if_neg (by omega),if_neg (by omega)] at hp2
   refine' zc hk
   refine ((zq5 g d ⟨p,0⟩ x.loc h).one (fl':=20) rfl rfl (zJ rfl) rfl (by simp [AObj.ids,AV.idsL,AV.ids,wkP]) (by simp [AV.idsL,AV.ids]) (by omega)).mono ?_
   rintro r h' ⟨ob',⟨rfl,rfl⟩,rfl⟩
   have hwc:zdv d ⟨p,0⟩ x.loc=((rget d p x.loc).1,⟨p,(rget d p x.loc).2⟩):=by rw [zdv,if_neg (by simp)]
   simp only [hwc]
   simp only [go_sem,aeq,aeq.aeqF,simprocAttr]
   obtain ⟨N,hN⟩:∃N,N=rget d p x.loc:=⟨_,rfl⟩
   rw [← hN] at hp2 ⊢
   by_cases hN1:N.1≤1
   ·have hb:decide (N.1≤1)=true:=by simpa using hN1
    simp only [hb]
    refine' zc fx
    all_goals first|rfl|skip
    refine ⟨_,rfl,x.loc,⟨p,N.2⟩,rfl,rfl,?_,?_,h⟩
    ·show N.2=_
     rw [hp2]
     by_cases hN2:N.2=0
     ·rw [if_neg (by omega),if_pos hN1,hN2]
     ·rw [if_pos hN2]
    ·intro (e:N.2=0)
     rw [hp2,if_neg (by omega),if_pos hN1]
     exact ⟨rfl,rfl⟩
   ·have hb:decide (N.1≤1)=false:=by simpa using hN1
    have hN2:N.2=0:=by
     rw [hN,rget] at hN1 ⊢
     split
     ·rename_i hh;rw [if_pos hh] at hN1;exact absurd (show (0:Int)≤1 by decide) hN1
     ·rename_i hh;rw [if_neg hh] at hN1
      split
      ·rename_i hh2;rw [if_pos hh2] at hN1;exact absurd (show (0:Int)≤1 by decide) hN1
      ·rfl
    rw [if_neg (by omega),if_neg hN1] at hp2
    simp only [hb,hN2]
    refine' zcj (zav 9) fx
    refine aw_le ⟨[(2,true,.vp 20 0),(5,true,.vp 21 0),(6,true,.d (.int .i64 (guest / 16))),(7,true,.vp 22 0)],hOwn g d ⟨p,0⟩ ⟨1,x.loc⟩ R.1.l1 R.1.next,some []⟩ (by simp only [AS.le,leT,leH,zf,AsgK,AV.le,AV.leL,AObj.le,inH,idsT,idsH,AV.ids,AV.idsL,AV.idsR,AObj.ids,lk,hget,go_sem,aeq,aeq.aeqF,simprocAttr,hOwn,wkP]) ?_
    refine' zc fx
    have hf0:¬x.loc<0:=by have:=(zbm hx1).2.1;omega
    refine (zpF g d ⟨p,0⟩ ⟨1,x.loc⟩ R.1.l1 R.1.next 262 [.vp 20 0,.vp 22 0] (fun q k=>pfill d q x.loc k) (.inr rfl) h hg (fun s1 k hd=>by
     rw [show pfill d s1.q x.loc k=ecopy d s1.q x.loc k from if_neg hf0]
     exact zxp g d s1 ⟨1,x.loc⟩ R.1.l1 R.1.next k hd)).whole (fl:=40) (fl':=20) (zJ rfl) (by omega) ?_ |>.mono ?_
    ·rintro r h' ⟨_,rfl⟩ i hi
     revert hi
     simp only [hget]
     repeat' split
     all_goals simp
    rintro r h' ⟨rfl,rfl⟩
    refine' zc fx
    obtain ⟨W,hW⟩:∃W,W=wtake d g ⟨p,0⟩ (fun q k=>pfill d q x.loc k):=⟨_,rfl⟩
    have hDW:DP d W.2.q:=by rw [hW];exact DP.wtake h (fun q k hq=>hq.pfill _ _)
    refine ((zlu g d (wtake d g ⟨p,0⟩ (fun q k=>pfill d q x.loc k)).2 x.loc (-1) (by rw [← hW];exact hDW)).one (fl':=20) rfl rfl (zJ rfl) rfl (by simp [AObj.ids,AV.idsL,AV.ids,wkP]) (by simp [AV.idsL,AV.ids]) (by omega)).mono ?_
    rintro r h' ⟨ob',⟨rfl,rfl⟩,rfl⟩
    simp only [go_sem,aeq,aeq.aeqF,simprocAttr]
    refine' zc fx
    refine ((zpC g d (wcount d (wtake d g ⟨p,0⟩ (fun q k=>pfill d q x.loc k)).2 x.loc (-1)) R.1.l1 (guest / 16) ⟨1,(wtake d g ⟨p,0⟩ (fun q k=>pfill d q x.loc k)).1⟩ (by rw [← hW];exact hDW.wcount _ _)).one (fl':=20) rfl rfl (zJ rfl) rfl (by simp [AObj.ids,AV.idsL,AV.ids,wkP]) (by simp [AV.idsL,AV.ids,entA]) (by omega)).mono ?_
    rintro r h' ⟨ob',⟨rfl,rfl⟩,rfl⟩
    simp only [go_sem,aeq,aeq.aeqF,simprocAttr]
    refine' zc fx
    all_goals first|rfl|skip
    have hn:=ztj (g:=g) (l1:=R.1.l1) (i:=guest / 16) (fr:=x.loc) h
    rw [← hp2] at hn
    refine ⟨_,rfl,(wnew d p g R.1.l1 (guest / 16) x.loc).1,(wnew d p g R.1.l1 (guest / 16) x.loc).2,rfl,?_,hn⟩
    rw [wnew,wless,if_neg hf0]
    rfl
  ·rw [if_pos hk] at hp2
   refine' zc hk
   all_goals first|rfl|exact ⟨_,rfl,0,⟨p,14⟩,rfl,rfl,by rw [hp2],(fun e=>absurd e (show ¬(14:Int)=0 by decide)),h⟩
 ·have hb:(X.2.e !=0)=true:=by simpa using he
  refine' zc hb
  refine ⟨_,rfl,0,⟨p,X.2.e⟩,rfl,rfl,?_,(fun e=>absurd e he),h⟩
  show X.2.e=_
  rw [hpn,hX,wget]
  by_cases hR0:R.2=0
  ·rw [if_neg (show ¬R.2≠0 by omega),if_neg (show ¬R.2≠0 by omega),pown2]
   rw [hX,wget,if_neg (show ¬R.2≠0 by omega)] at he
   rw [if_pos he]
  ·rw [if_pos hR0,if_pos hR0]
open Go Go.Proofs
theorem DP.wget {d:Disk} {s:Wk} (h:DP d s.q) (t i:Int):DP d (wget d s t i).2.q:=by
 unfold Aw.wget;split<;>exact h
def zpG (d:Disk) (s:Wk) (y:Ent2):Wk:=if y.kind=1 then wcount d s y.loc (-1) else s
def zks (d:Disk) (s:Wk) (k i:Int) (x:Ent2):Wk:=wset d (zpG d (wget d s k i).2 (wget d s k i).1) k i x
theorem ztk {d:Disk} {p q:Plan} {k i:Int} {x:Ent2} :(if (zks d ⟨q,0⟩ k i x).e≠0 then (p,(zks d ⟨q,0⟩ k i x).e) else ((zks d ⟨q,0⟩ k i x).q,0))=zeZ d p q k i x:=by
 by_cases h1:(eget d q k i).2=0<;>by_cases h2:(eget d q k i).1.kind=1;all_goals simp only [zks,zpG,wget,zeZ,wcount,wset,h1,h2,ne_eq,not_true_eq_false,not_false_eq_true,if_true,if_false,ite_true,ite_false,implies_true,true_implies,and_self]
 all_goals (repeat' split)<;>simp_all
theorem zvB (d:Disk) (p:Plan) (g:Geom) (k:Int) (x:Ent2) (hp:DP d p/\g.host<=1000000/\g.guest<=1000000):AC 160 [diskA d,planA p,geomA g,.d (.int .i64 k),entA x] (.tup [planA (ppoint d p g k x).1,.d (.int .i64 (ppoint d p g k x).2)]):=by
 obtain ⟨h,hg,hgg⟩:=hp;refine bod Tryz.func160 Tryz.ntmps160 (λbase=>?_);refine' zc fx;refine ((zyt g d p k h hg hgg).one (fl':=0) rfl rfl (zJ rfl) rfl (by simp [AObj.ids,AV.idsL,AV.ids,wkP]) (by simp [AV.idsL,AV.ids,entA]) (by omega)).mono ?_;rintro r h' ⟨ob',⟨t,s,rfl,rfl,he,hs,hd⟩,rfl⟩;have hpp:ppoint d p g k x=if s.e≠0 then (p,s.e) else zeZ d p (pown d p g k).1 (pown d p g k).2.1 (k % 16) x:=by rw [ppoint,<-he]
 simp only [go_sem,aeq,aeq.aeqF,simprocAttr];by_cases he0:s.e=0
 ·obtain ⟨hq,rfl⟩:=hs he0
  have hk0:0<=k/\k<g.guest:=by
   rw [he0] at he;unfold pown at he;by_cases hk:k<0\/g.guest<=k
   ·rw [if_pos hk] at he;cases he
   ·omega
  have hw2:k.tmod 16=k % 16:=Int.tmod_eq_emod_of_nonneg (by omega);rw [if_neg (by omega),<-hq] at hpp;obtain ⟨t,ht⟩:∃t,t=(pown d p g k).2.1:=⟨_,rfl⟩
  rw [<-ht] at hpp ⊢;simp only [he0];refine' zc hw2;refine ((zpD g d ⟨s.q,0⟩ t (k % 16) hd).one (fl':=0) rfl rfl (zJ rfl) rfl (by simp [AObj.ids,AV.idsL,AV.ids,wkP]) (by simp [AV.idsL,AV.ids,entA]) (by omega)).mono ?_;rintro r h' ⟨ob',⟨rfl,rfl⟩,rfl⟩;simp only [go_sem,aeq,aeq.aeqF,simprocAttr];obtain ⟨G,hG⟩:∃G,G=wget d ⟨s.q,0⟩ t (k % 16):=⟨_,rfl⟩
  have hdG:DP d G.2.q:=by rw [hG];exact DP.wget (s:=⟨s.q,0⟩) hd _ _
  rw [<-hG];have hfin:∀S,S=zks d ⟨s.q,0⟩ t (k % 16) x->ppoint d p g k x=if S.e≠0 then (p,S.e) else (S.q,0):=λS hS=>by rw [hpp,hS,ztk]
  rw [zks,<-hG] at hfin;by_cases hk1:G.1.kind=1
  ·rw [zpG,if_pos hk1] at hfin;refine' zc (zn hw2 hk1);refine ((zlu g d G.2 G.1.loc (-1) hdG).one (fl':=0) rfl rfl (zJ rfl) rfl (by simp [AObj.ids,AV.idsL,AV.ids,wkP]) (by simp [AV.idsL,AV.ids,entA]) (by omega)).mono ?_;rintro r h' ⟨ob',⟨rfl,rfl⟩,rfl⟩;simp only [go_sem,aeq,aeq.aeqF,simprocAttr];refine' zc hw2;refine ((zpC g d (wcount d G.2 G.1.loc (-1)) t (k % 16) x (hdG.wcount _ _)).one (fl':=0) rfl rfl (zJ rfl) rfl (by simp [AObj.ids,AV.idsL,AV.ids,wkP]) (by simp [AV.idsL,AV.ids,entA]) (by omega)).mono ?_;rintro r h' ⟨ob',⟨rfl,rfl⟩,rfl⟩;simp only [go_sem,aeq,aeq.aeqF,simprocAttr];obtain ⟨S,hS⟩:∃S,S=wset d (wcount d G.2 G.1.loc (-1)) t (k % 16) x:=⟨_,rfl⟩
   have hfin:=hfin S hS;rw [<-hS];by_cases hS0:S.e=0
   ·have hb:(S.e !=0)=false:=by simpa using hS0
    refine' zc hb;all_goals rw [hfin,if_neg (by omega)]
   ·have hb:(S.e !=0)=true:=by simpa using hS0
    refine' zc hb;all_goals rw [hfin,if_pos hS0]
  ·rw [zpG,if_neg hk1] at hfin;have hk2:(G.1.kind==1)=false:=by simpa using hk1
   refine' zc (zn hw2 hk2);refine ((zpC g d G.2 t (k % 16) x hdG).one (fl':=0) rfl rfl (zJ rfl) rfl (by simp [AObj.ids,AV.idsL,AV.ids,wkP]) (by simp [AV.idsL,AV.ids,entA]) (by omega)).mono ?_;rintro r h' ⟨ob',⟨rfl,rfl⟩,rfl⟩;simp only [go_sem,aeq,aeq.aeqF,simprocAttr];obtain ⟨S,hS⟩:∃S,S=wset d G.2 t (k % 16) x:=⟨_,rfl⟩
   have hfin:=hfin S hS;rw [<-hS];by_cases hS0:S.e=0
   ·have hb:(S.e !=0)=false:=by simpa using hS0
    refine' zc hb;all_goals rw [hfin,if_neg (by omega)]
   ·have hb:(S.e !=0)=true:=by simpa using hS0
    refine' zc hb;all_goals rw [hfin,if_pos hS0]
 ·have hb:(s.e !=0)=true:=by simpa using he0
  rw [if_pos he0] at hpp;refine' zc hb;rw [hpp]
@[go_sem] noncomputable def zR:Ent Tryz.prog 160:= .m5 zu zw zeo (intT .i64) zgN zvB
open Go Go.Proofs
structure Dmap where
 name:Txt
 inuse:Bool
 bits:List Bool
 deriving DecidableEq
def dmapD (m:Dmap):List D:= .str m.name:: .bool m.inuse::m.bits.map .bool
theorem zi0:∀ {a b:List Bool},a.map D.bool=b.map D.bool->a=b
 | [],[],_=>rfl
 | [],_::_,h=>by simp at h
 |_::_,[],h=>by simp at h
 |x::a,y::b,h=>by simp only [List.map_cons,List.cons.injEq,D.bool.injEq] at h;rw [h.1,zi0 h.2]
theorem zmK:∀a b,dmapD a=dmapD b->a=b:=by rintro ⟨n,u,b⟩ ⟨n',u',b'⟩ h;simp only [dmapD,List.cons.injEq,D.str.injEq,D.bool.injEq] at h;rw [h.1,h.2.1,zi0 h.2.2]
structure Img where
 disk:Disk
 geom:Geom
 jour:Jour
 maps:List Dmap
 broken:Bool
 deriving DecidableEq
def imgA (x:Img):AV:= .agg [.d (.str x.disk.data),.d (.sl 2 (x.disk.cache.map putD)),.d (.int .i64 x.disk.fuse),.d (.bool x.disk.off),.d (.sl 1 (x.disk.bad.map intD)),.d (.int .i64 x.geom.guest),.d (.int .i64 x.geom.host),.d (.int .u64 x.jour.seq),.d (.int .i64 x.jour.pos),.d (.sl 66 (x.maps.map dmapD)),.d (.bool x.broken)]
attribute [go_sem] imgA
theorem zxe (x:Img):Img.mk x.disk x.geom x.jour x.maps x.broken=x:=rfl
noncomputable def zbG:PT Img:=aggT (consL strT (consL (slT 2 putD zk8) (consL (intT .i64) (consL boolT (consL (slT 1 intD zc7) (consL (intT .i64) (consL (intT .i64) (consL (intT .u64) (consL (intT .i64) (consL (slT 66 dmapD zmK) (consL boolT nilL))))))))))) (λp=>⟨⟨p.1,p.2.1,p.2.2.1,p.2.2.2.1,p.2.2.2.2.1⟩,⟨p.2.2.2.2.2.1,p.2.2.2.2.2.2.1⟩,⟨p.2.2.2.2.2.2.2.1,p.2.2.2.2.2.2.2.2.1⟩,p.2.2.2.2.2.2.2.2.2.1,p.2.2.2.2.2.2.2.2.2.2.1⟩) (λx=>(x.disk.data,x.disk.cache,x.disk.fuse,x.disk.off,x.disk.bad,x.geom.guest,x.geom.host,x.jour.seq,x.jour.pos,x.maps,x.broken,())) (λ_=>rfl)
attribute [go_sem] zbG
attribute [go_sem] zxe
structure ImgOk (x:Img):Prop where
 disk:DiskOk x.disk
 maps:x.maps.length<=9223372036854775807
 names:∀m∈x.maps,m.name.length<=9223372036854775807
 bits:∀m∈x.maps,m.bits.length=64
def mfit (n0:Txt):Nat->List Dmap->Bool
 |_,[]=>true
 |i,m::r=>zaq m.name&&m.inuse&& !(decide (0<i)&&(n0==m.name))&&mfit n0 (i+1) r
def ifit (x:Img):Bool:=
 zeA x.geom.guest x.geom.host&&dfit x.disk&&((dsize x.disk:Int)==ziJ x.geom.guest x.geom.host)&&jfit x.jour&&decide (x.maps.length<=2)&&mfit (x.maps.head?.map (·.name) |>.getD []) 0 x.maps
theorem zsX (x:Img) (h:ImgOk x):AC 28 [imgA x] (.d (.bool (ifit x))):=by
 refine fbod Tryz.func28 Tryz.ntmps28 (λbase=>?_);have h1:=h.disk;have h2:=h.maps;by_cases hc0:(!zeA x.geom.guest x.geom.host|| !dfit x.disk||((dsize x.disk:Int) !=ziJ x.geom.guest x.geom.host)|| !jfit x.jour||decide (2<(x.maps.length:Int)))=true
 ·refine' walkW hc0 (za zdD <| za zey <| za zbs <| za zfM <| za zfQ <| za zS <| zb _)
  have:ifit x=false:=by
   simp only [Bool.or_eq_true,Bool.not_eq_true',bne_iff_ne,decide_eq_true_eq] at hc0;unfold ifit;rcases hc0 with (((hh|hh)|hh)|hh)|hh
   ·rw [hh];simp
   ·rw [hh];simp
   ·rw [beq_eq_false_iff_ne.2 hh];simp
   ·rw [hh];simp
   ·rw [decide_eq_false (p:=x.maps.length<=2) (by omega)];simp
  rw [this]
 have hc0:(!zeA x.geom.guest x.geom.host|| !dfit x.disk||((dsize x.disk:Int) !=ziJ x.geom.guest x.geom.host)|| !jfit x.jour||decide (2<(x.maps.length:Int)))=false:=by simpa using hc0
 have hfit:ifit x=mfit (x.maps.head?.map (·.name) |>.getD []) 0 x.maps:=by simp only [Bool.or_eq_false_iff,Bool.not_eq_false',bne_eq_false_iff_eq,decide_eq_false_iff_not] at hc0;rw [ifit,hc0.1.1.1.1,hc0.1.1.1.2,hc0.1.2,beq_iff_eq.2 hc0.1.1.2,decide_eq_true (p:=x.maps.length<=2) (by omega)];rfl
 refine' walkW hc0 (za zdD <| za zey <| za zbs <| za zfM <| za zfQ <| za zS <| zb _);obtain ⟨N0,hN0⟩:∃N0,N0=(x.maps.head?.map (·.name) |>.getD []):=⟨_,rfl⟩
 rw [<-hN0] at hfit;refine zq (λq: { i:Nat // i<=x.maps.length/\ifit x=mfit N0 i (x.maps.drop i) } =>⟨[(1,true,.vp 0 0),(3,true,.d (.int .i64 q.1))],[(0,.var [.d (.str x.disk.data),.d (.sl 2 (x.disk.cache.map putD)),.d (.int .i64 x.disk.fuse),.d (.bool x.disk.off),.d (.sl 1 (x.disk.bad.map intD)),.d (.int .i64 x.geom.guest),.d (.int .i64 x.geom.host),.d (.int .u64 x.jour.seq),.d (.int .i64 x.jour.pos),.d (.sl 66 (x.maps.map dmapD)),.d (.bool x.broken)])],some []⟩) (λq=>x.maps.length - q.1) ⟨0,Nat.zero_le _,hfit⟩ le1 (λq=>?_);obtain ⟨i,hi,hf⟩:=q;simp only at hi hf ⊢;rcases zP dmapD x.maps i hi with ⟨m,hq,hlt,hcmp,hrow,hdr,htk⟩|⟨hend,hcmp⟩
 ·obtain ⟨m0,hq0⟩:=zas (l:=x.maps) (i:=0) (by omega);have hrow0:=zco (g:=dmapD) hq0;simp only [dmapD] at hrow hrow0;have hpos:decide ((0:Int)<(x.maps.length:Int))=true:=decide_eq_true (by omega);have hwi:=zr (i:=i) (by omega);have hnl:=h.names m (List.mem_of_getElem? hq);have hN:N0=m0.name:=by rw [hN0,List.head?_eq_getElem?,hq0];rfl
  rw [hdr,mfit,hN] at hf
  have hall:(!zaq m.name|| !m.inuse||(decide ((0:Int)<(i:Int))&&(m0.name==m.name)))= !(zaq m.name&&m.inuse&& !(decide (0<i)&&(m0.name==m.name))):=by rw [Bool.not_and,Bool.not_and,Bool.not_not,show decide ((0:Int)<(i:Int))=decide (0<i) from zyf]
  refine' walkW (zbj hcmp hrow hrow0 hpos natC) (za zdD <| za zey <| za zbs <| za zfM <| za zfQ <| za zS <| zb _)
  ·rename_i hg0;rw [hg0,hc];rfl
  ·rw [hall] at hc;simp only [Bool.not_eq_true'] at hc;rw [hf,hc,Bool.false_and]
  ·rw [hall] at hc;simp only [Bool.not_eq_false'] at hc;rw [hc,Bool.true_and,<-hN] at hf;exact ⟨⟨i+1,by omega,hf⟩,lew,by simp;omega⟩
 ·refine' walkW hcmp (za zdD <| za zey <| za zbs <| za zfM <| za zfQ <| za zS <| zb _);rw [hf,hend,List.drop_length];rfl
@[go_sem] noncomputable def zau:Ent Tryz.prog 28:= .m1 zbG zsX
open Go Go.Proofs
open Go Go.Proofs
def mset (g:Nat) (m:Dmap):Dmap:= { m with bits:=m.bits.set g true }
def cmark (x:Img) (guest:Int):Img:=if guest<0\/64<=guest then x else { x with maps:=x.maps.map (mset guest.toNat) }
theorem zpx (m:Dmap) (g:Nat):(dmapD m).set (2+g) (.bool true)=dmapD (mset g m):=by rw [Nat.add_comm];simp [dmapD,mset,List.map_set]
theorem zvj {x:Img} (h:ImgOk x) (g:Int):ImgOk (cmark x g):=by
 unfold cmark;split
 ·exact h
 ·refine ⟨h.disk,by simp only [List.length_map];exact h.maps,λm hm=>?_,λm hm=>?_⟩
  ·obtain ⟨m0,h0,rfl⟩:=List.mem_map.1 hm;exact h.names m0 h0
  ·obtain ⟨m0,h0,rfl⟩:=List.mem_map.1 hm;simp [mset,h.bits m0 h0]
theorem zqP (x:Img) (guest:Int) (hp:ImgOk x/\x.maps.length<=1000000):AC 60 [imgA x,.d (.int .i64 guest)] (imgA (cmark x guest)):=by
 obtain ⟨h,h2⟩:=hp;refine fbod Tryz.func60 Tryz.ntmps60 (λbase=>?_);by_cases hg:guest<0\/64<=guest
 ·have hdec:(decide (guest<0)||decide (64<=guest))=true:=by simpa using hg
  refine' zc hdec;rw [cmark,if_pos hg]
 ·have hdec:(decide (guest<0)||decide (64<=guest))=false:=by simpa using hg
  obtain ⟨g,rfl⟩:∃g:Nat,guest=g:=⟨guest.toNat,by omega⟩
  have hg2:g<64:=by omega
  refine' zc hdec;obtain ⟨n,hn⟩:∃n,n=x.maps.length:=⟨_,rfl⟩
  refine zq (λq: { i:Nat // i<=x.maps.length } =>⟨[(1,true,.d (.int .i64 g)),(2,true,.vp 0 0),(4,true,.vp 1 0),(5,true,.osl 2 66 x.maps.length 0 x.maps.length),(6,true,.d (.int .i64 q.1))],[(2,.arr 66 (((x.maps.take q.1).map (mset g)++x.maps.drop q.1).map dmapD)),(1,.var [.d (.str []),.nils 2,.d (.int .i64 0),.d (.bool false),.nils 1,.d (.int .i64 0),.d (.int .i64 0),.d (.int .u64 0),.d (.int .i64 0),.nils 66,.d (.bool false)]),(0,.var [.d (.str x.disk.data),.d (.sl 2 (x.disk.cache.map putD)),.d (.int .i64 x.disk.fuse),.d (.bool x.disk.off),.d (.sl 1 (x.disk.bad.map intD)),.d (.int .i64 x.geom.guest),.d (.int .i64 x.geom.host),.d (.int .u64 x.jour.seq),.d (.int .i64 x.jour.pos),.d (.sl 66 (x.maps.map dmapD)),.d (.bool x.broken)])],some []⟩) (λq=>x.maps.length - q.1) ⟨0,Nat.zero_le _⟩ le1 (λq=>?_);obtain ⟨i,hi⟩:=q;simp only;have hL:((x.maps.take i).map (mset g)++x.maps.drop i).length=x.maps.length:=by simp;omega
  rcases Nat.lt_or_ge i x.maps.length with hlt|hge
  ·obtain ⟨m,hq⟩:=zas hlt;have hcmp:decide ((i:Int)<(x.maps.length:Int))=true:=decide_eq_true (by omega);have hwi:=zr (i:=i) (by omega);have hL1:((x.maps.take i).map (mset g)).length=i:=by simp;omega
   have hat:((x.maps.take i).map (mset g)++x.maps.drop i)[i]?=some m:=by rw [List.getElem?_append_right (by omega),hL1,Nat.sub_self,List.getElem?_drop,Nat.add_zero,hq]
   have hrow:=zco (g:=dmapD) hat
   have hset:((x.maps.take i).map (mset g)++x.maps.drop i).set i (mset g m)=(x.maps.take (i+1)).map (mset g)++x.maps.drop (i+1):=by rw [List.set_append,if_neg (by omega),hL1,Nat.sub_self,zcQ hq,zb7 hq,List.map_append,List.append_assoc];rfl
   refine' zc (zB hcmp hL hrow)
   have hnew:(((x.maps.take i).map (mset g)++x.maps.drop i).map dmapD).set i ((dmapD m).set (2+g*1) (.bool true))=((x.maps.take (i+1)).map (mset g)++x.maps.drop (i+1)).map dmapD:=by rw [Nat.mul_one,zpx,<-List.map_set,hset]
   exact ⟨⟨i+1,by omega⟩,by simp only [AS.le,leT,leH,zf,AsgK,AV.le,AV.leL,AObj.le,inH,idsT,idsH,AV.ids,AV.idsL,AV.idsR,AObj.ids,lk,hget,go_sem,aeq,aeq.aeqF,simprocAttr,hwi,hnew],by simp;omega⟩
  ·have hcmp:decide ((i:Int)<(x.maps.length:Int))=false:=decide_eq_false (by omega);refine' zc (zn hcmp hL);rw [cmark,if_neg hg,show i=x.maps.length by omega,List.take_length,List.drop_length,List.append_nil,List.take_of_length_le (by simp)];rfl
@[go_sem] noncomputable def zeh:Ent Tryz.prog 60:= .m2 zbG (intT .i64) zqP
theorem bneP {a b:Int} (h:(a !=b)=true):a≠b:=bne_iff_ne.1 h
theorem bneN {a b:Int} (h:(a !=b)=false):¬a≠b:=λh2=>h2 (bne_eq_false_iff_eq.1 h)
theorem beqP {a b:Int} (h:(a==b)=true):a=b:=beq_iff_eq.1 h
theorem beqN {a b:Int} (h:(a==b)=false):¬a=b:=beq_eq_false_iff_ne.1 h
@[go_sem] theorem p0_fold:Plan.mk [] []=p0:=rfl
def zfV (d:Disk) (k:Int):Txt×Int:=
 if (dread d (96+2*k)).2≠0 then ([],(dread d (96+2*k)).2)
 else if (dread d (96+2*k+1)).2≠0 then ([],(dread d (96+2*k+1)).2)
 else ((dread d (96+2*k)).1++(dread d (96+2*k+1)).1,0)
theorem zkr {d:Disk} {p:Plan} {l1 g:Int} (h:(elook d p l1 g).1.kind=1):zG (elook d p l1 g).1.loc=true:=by
 have hk:∀t i,(eget d p t i).1.kind=1→zG (eget d p t i).1.loc=true:=by
  intro t i hk
  by_cases he:(eget d p t i).2=0
  ·have:=(zep he).1
   unfold entOk at this
   rw [if_pos hk] at this
   exact this
  ·exfalso
   unfold eget at hk he
   split at hk
   ·cases hk
   ·rename_i h0
    rw [if_neg h0] at he
    split at hk
    ·cases hk
    ·rename_i h2
     rw [if_neg h2] at he
     unfold entT at hk he
     split at hk
     ·cases hk
     ·rename_i h1
      rw [if_neg h1] at he
      exact he rfl
 unfold elook at h ⊢
 split at h
 ·cases h
 split at h
 ·cases h
 split at h
 ·cases h
 split at h
 ·cases h
 rename_i h1 h2 h3 h4
 rw [if_neg h1,if_neg h2,if_neg h3,if_neg h4]
 exact hk _ _ h
def cread (d:Disk) (l1 guest:Int):Txt×Int:=
 if (elook d p0 l1 guest).2≠0 then ([],(elook d p0 l1 guest).2) else if (elook d p0 l1 guest).1.kind=1 then zfV d (elook d p0 l1 guest).1.loc else (List.replicate 128 0,0)
def cdone (x:Img) (p:Plan):Img×Int:=
 if (jcommit x.disk x.jour p).2.2≠0 then ({ x with disk:=(jcommit x.disk x.jour p).1,broken:=true },(jcommit x.disk x.jour p).2.2)
 else ({ x with disk:=(jcommit x.disk x.jour p).1,jour:=(jcommit x.disk x.jour p).2.1 },0)
theorem zqQ (x:Img) (p:Plan) (hp:ImgOk x/\DiskF x.disk/\pfit p=true/\0<=x.jour.seq/\x.jour.seq<18446744073709551616):AC 53 [imgA x,planA p] (.tup [imgA (cdone x p).1,.d (.int .i64 (cdone x p).2)]):=by
 obtain ⟨h,hd,hf,h0,h1⟩:=hp;refine fbod Tryz.func53 Tryz.ntmps53 (λbase=>?_);refine' walkW fx (za zlk <| zb _)
 ·rw [cdone,if_pos (bneP hc)]
 ·rw [cdone,if_neg (bneN hc)]
@[go_sem] noncomputable def zaC:Ent Tryz.prog 53:= .m2 zbG zw zqQ
open Go Go.Proofs
def imgV (x:Img):List AV:= [.d (.str x.disk.data),.d (.sl 2 (x.disk.cache.map putD)),.d (.int .i64 x.disk.fuse),.d (.bool x.disk.off),.d (.sl 1 (x.disk.bad.map intD)),.d (.int .i64 x.geom.guest),.d (.int .i64 x.geom.host),.d (.int .u64 x.jour.seq),.d (.int .i64 x.jour.pos),.d (.sl 66 (x.maps.map dmapD)),.d (.bool x.broken)]
attribute [go_sem] imgV
def img0:List AV:= [.d (.str []),.nils 2,.d (.int .i64 0),.d (.bool false),.nils 1,.d (.int .i64 0),.d (.int .i64 0),.d (.int .u64 0),.d (.int .i64 0),.nils 66,.d (.bool false)]
attribute [go_sem] img0
def wdisk (x:Img) (d:Disk):Img:= { x with disk:=d }
def cputT (b:Txt) (off:Int) (s:Txt) (i:Int):Txt:=(overS b (max off (i*64) - i*64) ((s.take (min (off+s.length) ((i+1)*64) - off).toNat).drop (max off (i*64) - off).toNat)).1
def cput1 (d:Disk) (k off:Int) (s:Txt) (i:Int):Disk×Int:=
 if min (off+s.length) ((i+1)*64)<=max off (i*64) then (d,0)
 else if (dread d (96+2*k+i)).2≠0 then (d,(dread d (96+2*k+i)).2)
 else zM d (96+2*k+i) (cputT (dread d (96+2*k+i)).1 off s i)
def zcV (k off:Int) (s:Txt):Nat->Int->Disk->Disk×Int
 |0,_,d=>(d,0)
 |m+1,i,d=>if (cput1 d k off s i).2≠0 then cput1 d k off s i else zcV k off s m (i+1) (cput1 d k off s i).1
def zgQ (d:Disk) (k off:Int) (s:Txt):Disk×Int:=zcV k off s 2 0 d
theorem DiskF.cput1 {d:Disk} (h:DiskF d) (k off:Int) (s:Txt) (i:Int):DiskF (cput1 d k off s i).1:=by
 unfold Aw.cput1;split
 ·exact h
 split
 ·exact h
 ·exact h.write _ _
structure ImgF (x:Img):Prop where
 ok:ImgOk x
 disk:DiskF x.disk
 guest:x.geom.guest<=64
 host:x.geom.host<=256
 seq0:0<=x.jour.seq
 seq1:x.jour.seq<=4611686018427387904
 maps:x.maps.length<=1000000
theorem ImgF.wd {x:Img} (h:ImgF x) {d:Disk} (hd:DiskF d):ImgF (wdisk x d):=⟨⟨hd.ok,h.ok.maps,h.ok.names,h.ok.bits⟩,hd,h.guest,h.host,h.seq0,h.seq1,h.maps⟩
theorem ImgF.mark {x:Img} (h:ImgF x) (g:Int):ImgF (cmark x g):=by
 refine ⟨zvj h.ok g,?_,?_,?_,?_,?_,?_⟩;all_goals unfold cmark
 all_goals split
 all_goals first|exact h.disk|exact h.guest|exact h.host|exact h.seq0|exact h.seq1|exact h.maps|skip
 simp only [List.length_map];exact h.maps
theorem zmL {d:Disk} {k:Int} (h:d.cache.all (putOk d)=true) (he:(zfV d k).2=0):(zfV d k).1.length=128:=by
 unfold zfV at he ⊢;split at he
 ·exact absurd he (by assumption)
 split at he
 ·exact absurd he (by assumption)
 rename_i h1 h2;rw [if_neg h1,if_neg h2];rw [List.length_append,zll h (by omega),zll h (by omega)]
theorem zsY {d:Disk} {l1 g:Int} (h:d.cache.all (putOk d)=true) (he:(cread d l1 g).2=0):(cread d l1 g).1.length=128:=by
 unfold cread at he ⊢;split at he
 ·exact absurd he (by assumption)
 split at he
 ·rename_i h1 h2;rw [if_neg h1,if_pos h2];exact zmL h he
 ·rename_i h1 h2;rw [if_neg h1,if_neg h2];simp
theorem zqR {d:Disk} {p:Plan} {g:Geom} (h:(rtake d p g).2.2=0):zG (rtake d p g).2.1=true:=by
 unfold rtake at h ⊢;split at h
 ·rename_i h1;exact absurd h h1
 split at h
 ·rename_i h1;exact absurd h h1
 rename_i h1 h2;rw [if_neg h1,if_neg h2];exact hostOk_iff.2 (zko d p _ _ (by unfold rfind at h1;omega))
theorem zvk {s t:Txt} {a:Int} (h0:0<=a) (h:a+t.length<=s.length):overS s a t=(s.take a.toNat++t++s.drop (a+t.length).toNat,0):=by
 rw [overS,if_neg (by omega)]
theorem zsZ {s t:Txt} {a:Int} (h0:0<=a) (h:a+t.length<=s.length):(overS s a t).1.length=s.length:=by rw [zvk h0 h];simp;omega
def zbO (k:Int) (b:Txt):List (Int×Txt):= [(96+2*k,b.take 64),(96+2*k+1,(b.take 128).drop 64)]
def zdZ (x:Img) (l1 guest off:Int) (s:Txt):Img×Int:=
 if (rtake x.disk p0 x.geom).2.2≠0 then (x,(rtake x.disk p0 x.geom).2.2)
 else if (cread x.disk l1 guest).2≠0 then (x,(cread x.disk l1 guest).2)
 else if (layL x.disk (zbO (rtake x.disk p0 x.geom).2.1 (overS (cread x.disk l1 guest).1 off s).1)).2≠0 then
  (wdisk x (layL x.disk (zbO (rtake x.disk p0 x.geom).2.1 (overS (cread x.disk l1 guest).1 off s).1)).1,(layL x.disk (zbO (rtake x.disk p0 x.geom).2.1 (overS (cread x.disk l1 guest).1 off s).1)).2)
 else if (ppoint (layL x.disk (zbO (rtake x.disk p0 x.geom).2.1 (overS (cread x.disk l1 guest).1 off s).1)).1 (rtake x.disk p0 x.geom).1 x.geom guest ⟨1,(rtake x.disk p0 x.geom).2.1⟩).2≠0 then
  (wdisk x (layL x.disk (zbO (rtake x.disk p0 x.geom).2.1 (overS (cread x.disk l1 guest).1 off s).1)).1,(ppoint (layL x.disk (zbO (rtake x.disk p0 x.geom).2.1 (overS (cread x.disk l1 guest).1 off s).1)).1 (rtake x.disk p0 x.geom).1 x.geom guest ⟨1,(rtake x.disk p0 x.geom).2.1⟩).2)
 else cdone (wdisk x (layL x.disk (zbO (rtake x.disk p0 x.geom).2.1 (overS (cread x.disk l1 guest).1 off s).1)).1) (ppoint (layL x.disk (zbO (rtake x.disk p0 x.geom).2.1 (overS (cread x.disk l1 guest).1 off s).1)).1 (rtake x.disk p0 x.geom).1 x.geom guest ⟨1,(rtake x.disk p0 x.geom).2.1⟩).1
def zhn (x:Img) (l1:Int) (y:Ent2) (guest off:Int) (s:Txt):Img×Int:=
  if y.kind=1 then
    (if (rget x.disk p0 y.loc).2≠0 then (x,(rget x.disk p0 y.loc).2)
     else if (rget x.disk p0 y.loc).1≤1 then (wdisk x (zgQ x.disk y.loc off s).1,(zgQ x.disk y.loc off s).2)
     else zdZ x l1 guest off s)
  else zdZ x l1 guest off s
def zho (x:Img) (guest off:Int) (s:Txt):Img×Int:=
 if (ze x.disk p0).2≠0 then (x,(ze x.disk p0).2)
 else if (elook x.disk p0 (ze x.disk p0).1.l1 guest).2≠0 then (x,(elook x.disk p0 (ze x.disk p0).1.l1 guest).2)
 else zhn x (ze x.disk p0).1.l1 (elook x.disk p0 (ze x.disk p0).1.l1 guest).1 guest off s
def zdo (x:Img) (guest off:Int) (s:Txt):Img×Int:=
 if x.broken then (x,24) else if guest<0\/x.geom.guest<=guest\/off<0\/128 - (s.length:Int)<off then (x,10)
 else if s= [] then (x,0) else zho (cmark x guest) guest off s
end Go.Aw
