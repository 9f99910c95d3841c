/-
  Parts of the proof: PointE, PointF (short names; the readable texts lie in the repo, under wip).
-/
import Derived.Test.YtgkjmbopnaeanaaGreatPart27
set_option maxRecDepth 100000
set_option maxHeartbeats 2000000
set_option linter.unusedSimpArgs false
set_option linter.unusedVariables false
namespace Go.Aw
open Go Go.Proofs
def zdo (d:Disk) (g:Geom) (s:Wk):Int×Wk:=if s.e≠0 then (0,s) else ((rtake d s.q g).2.1,⟨(rtake d s.q g).1,(rtake d s.q g).2.2⟩)
def wtake (d:Disk) (g:Geom) (s:Wk) (F:Plan→Int→Plan×Int):Int×Wk:=
 ((zdo d g s).1,if (zdo d g s).2.e≠0 then (zdo d g s).2 else ⟨(F (zdo d g s).2.q (zdo d g s).1).1,(F (zdo d g s).2.q (zdo d g s).1).2⟩)
@[go_sem] abbrev hOwn (g:Geom) (d:Disk) (s:Wk) (x:Ent2) (l1 nx:Int):AHeap:= [(22,.var [.d (.int .i64 x.kind),.d (.int .i64 x.loc)]),(5,.var (wkP s.q g d s.e)),(21,.var [.d (.int .i64 l1),.d (.int .u32 nx)]),(20,.var [.vp 5 0])]
@[go_sem] abbrev hTak (g:Geom) (d:Disk) (s:Wk) (x:Ent2) (l1 nx:Int) (f:FuncId) (caps:List AV) (k:Int):AHeap:= [(42,.var [.d (.int .i64 k)]),(41,.var [.fn (.func f) [] caps]),(40,.var [.vp 5 0]),(22,.var [.d (.int .i64 x.kind),.d (.int .i64 x.loc)]),(5,.var (wkP s.q g d s.e)),(21,.var [.d (.int .i64 l1),.d (.int .u32 nx)]),(20,.var [.vp 5 0])]
theorem zuR (g:Geom) (d:Disk) (s:Wk) (x:Ent2) (l1 nx:Int) (f:FuncId) (caps:List AV) (hcap:AV.idsL caps= [20]∨AV.idsL caps= [20,22]) (h:DP d s.q) (hg:g.host≤1000000):ACall Tryz.prog 256 80 [.vp 40 0,.vp 42 0] (hTak g d s x l1 nx f caps 0) (fun r h'=>r= .tup [planA (rtake d s.q g).1,.d (.int .i64 (rtake d s.q g).2.2)]∧h'=hTak g d s x l1 nx f caps (rtake d s.q g).2.1):=by
 refine zQ (fun i=>decide (i<80)) ?_
 refine bod Tryz.func256 Tryz.ntmps256 (fun base=>?_)
 refine' walkW fx (za zbw <| za zde <| za zcd <| za zp <| za zL <| za zj <| za zbN <| za zcw <| zb _)
 rcases hcap with e|e<;>(rw [e];rfl)
@[go_sem] abbrev hFil (g:Geom) (d:Disk) (s:Wk) (x:Ent2) (l1 nx:Int) (f:FuncId) (caps:List AV) (k:Int):AHeap:=(80,.var [.nils 1,.nils 1])::hTak g d s x l1 nx f caps k
theorem zuS (g:Geom) (d:Disk) (s:Wk) (x:Ent2) (l1 nx:Int) (f:FuncId) (caps:List AV) (k:Int) (F:Plan×Int) (hcap:AV.idsL caps= [20]∨AV.idsL caps= [20,22])
  (hF:ACallAt Tryz.prog 80 f (.d (.int .i64 k)::caps) (hFil g d s x l1 nx f caps k) (fun r h'=>r= .tup [planA F.1,.d (.int .i64 F.2)]∧h'=hFil g d s x l1 nx f caps k)):ACall Tryz.prog 257 80 [.vp 41 0,.vp 42 0] (hTak g d s x l1 nx f caps k) (fun r h'=>r= .tup [planA F.1,.d (.int .i64 F.2)]∧h'=hTak g d s x l1 nx f caps k):=by
 refine zQ (fun i=>decide (i<80)) ?_
 refine bod Tryz.func257 Tryz.ntmps257 (fun base=>?_)
 refine' zc fx
 refine hF.mono ?_
 rintro r h' ⟨rfl,rfl⟩
 simp only [go_sem,aeq,aeq.aeqF,simprocAttr]
 refine' zc fx
 rcases hcap with e|e<;>(rw [e];rfl)
theorem zpk (g:Geom) (d:Disk) (s:Wk) (x:Ent2) (l1 nx:Int) (f:FuncId) (caps:List AV) (F:Plan→Int→Plan×Int) (hcap:AV.idsL caps= [20]∨AV.idsL caps= [20,22]) (h:DP d s.q) (hg:g.host≤1000000)
  (hF:∀ (s1:Wk) (k:Int),DP d s1.q→ACallAt Tryz.prog 80 f (.d (.int .i64 k)::caps) (hFil g d s1 x l1 nx f caps k) (fun r h'=>r= .tup [planA (F s1.q k).1,.d (.int .i64 (F s1.q k).2)]∧h'=hFil g d s1 x l1 nx f caps k)):
  ACall Tryz.prog 227 40 [.vp 5 0,.fn (.func f) [] caps] (hOwn g d s x l1 nx) (fun r h'=>r= .d (.int .i64 (wtake d g s F).1)∧h'=hOwn g d (wtake d g s F).2 x l1 nx):=by
 refine zQ (fun i=>decide (i<40)) ?_
 refine bod Tryz.func227 Tryz.ntmps227 (fun base=>?_)
 refine' zc fx
 obtain ⟨s1,hs1⟩:∃s1,s1=(zdo d g s).2:=⟨_,rfl⟩
 obtain ⟨k,hk⟩:∃k,k=(zdo d g s).1:=⟨_,rfl⟩
 have hd1:DP d s1.q:=by rw [hs1];unfold zdo;split;exact h;exact h.rtake g
 refine (zix (fl:=60) (q:=s.q) (g:=g) (d:=d) (e:=s.e) (K:=fun h'=>h'=hTak g d s1 x l1 nx f caps k) (z2 rfl) (by omega) rfl ?_ ?_ ?_).mono ?_
 ·rintro h' rfl i hi
  revert hi
  simp only [hget]
  repeat' split
  all_goals simp
 ·intro he
  rw [hs1,hk,zdo,if_pos he]
  rfl
 ·intro he
  refine ((zuR g d s x l1 nx f caps hcap h hg).whole (z2 rfl) (by omega) (by
   rintro r h' ⟨_,rfl⟩ i hi
   revert hi
   simp only [hget]
   repeat' split
   all_goals simp)).mono ?_
  rintro r h' ⟨rfl,rfl⟩
  refine ⟨_,_,rfl,rfl,?_⟩
  rw [hs1,hk,zdo,if_neg (by rw [he];decide)]
  rfl
 rintro r h' ⟨rfl,rfl⟩
 refine' zc fx
 refine (zix (fl:=60) (q:=s1.q) (g:=g) (d:=d) (e:=s1.e) (K:=fun h'=>h'=hTak g d (wtake d g s F).2 x l1 nx f caps k) (z2 rfl) (by omega) rfl ?_ ?_ ?_).mono ?_
 ·rintro h' rfl i hi
  revert hi
  simp only [hget]
  repeat' split
  all_goals simp
 ·intro he
  rw [wtake,← hs1,← hk,if_pos he]
  rfl
 ·intro he
  refine ((zuS g d s1 x l1 nx f caps k (F s1.q k) hcap (hF s1 k hd1)).whole (z2 rfl) (by omega) (by
   rintro r h' ⟨_,rfl⟩ i hi
   revert hi
   simp only [hget]
   repeat' split
   all_goals simp)).mono ?_
  rintro r h' ⟨rfl,rfl⟩
  refine ⟨_,_,rfl,rfl,?_⟩
  rw [wtake,← hs1,← hk,if_neg (by rw [he];decide)]
  rfl
 rintro r h' ⟨rfl,rfl⟩
 refine' zc fx
 rw [wtake,← hk]
theorem zwJ (g:Geom) (d:Disk) (s1:Wk) (x:Ent2) (l1 nx:Int) (k:Int) (h:DP d s1.q):ACallAt Tryz.prog 80 228 (.d (.int .i64 k):: [.vp 20 0]) (hFil g d s1 x l1 nx 228 [.vp 20 0] k) (fun r h'=>r= .tup [planA (eblank s1.q k).1,.d (.int .i64 (eblank s1.q k).2)]∧h'=hFil g d s1 x l1 nx 228 [.vp 20 0] k):=by
 have hp:=h.p
 refine ACall.whole (fl:=100) ?_ (z2 rfl) (by omega) (by rintro r h' ⟨_,rfl⟩ i hi;exact hi)
 refine zQ (fun i=>decide (i<100)) ?_
 refine bod Tryz.func228 Tryz.ntmps228 (fun base=>?_)
 refine' walkW fx (za zbw <| za zde <| za zcd <| za zp <| za zL <| za zj <| za zbN <| za zcw <| zb _)
theorem zwK (g:Geom) (d:Disk) (s1:Wk) (x:Ent2) (l1 nx:Int) (k:Int) (h:DP d s1.q):ACallAt Tryz.prog 80 231 (.d (.int .i64 k):: [.vp 20 0,.vp 22 0]) (hFil g d s1 x l1 nx 231 [.vp 20 0,.vp 22 0] k) (fun r h'=>r= .tup [planA (ecopy d s1.q x.loc k).1,.d (.int .i64 (ecopy d s1.q x.loc k).2)]∧h'=hFil g d s1 x l1 nx 231 [.vp 20 0,.vp 22 0] k):=by
 refine ACall.whole (fl:=100) ?_ (z2 rfl) (by omega) (by rintro r h' ⟨_,rfl⟩ i hi;exact hi)
 refine zQ (fun i=>decide (i<100)) ?_
 refine bod Tryz.func231 Tryz.ntmps231 (fun base=>?_)
 refine' walkW fx (za zbw <| za zde <| za zcd <| za zp <| za zL <| za zj <| za zbN <| za zcw <| zb _)
@[go_sem] abbrev hOw1 (g:Geom) (d:Disk) (s:Wk) (l1 nx:Int):AHeap:= [(21,.var [.d (.int .i64 l1),.d (.int .u32 nx)]),(20,.var [.vp 5 0]),(5,.var (wkP s.q g d s.e))]
theorem zwL (g:Geom) (d:Disk) (s:Wk) (h:DP d s.q):ACall Tryz.prog 226 80 [.vp 20 0,.vp 21 0] (hOw1 g d s 0 0) (fun r h'=>r= .tup [planA s.q,.d (.int .i64 (zC d s.q).2)]∧h'=hOw1 g d s (zC d s.q).1.l1 (zC d s.q).1.next):=by
 refine zQ (fun i=>decide (i<80)) ?_
 refine bod Tryz.func226 Tryz.ntmps226 (fun base=>?_)
 refine' walkW fx (za zbw <| za zde <| za zcd <| za zp <| za zL <| za zj <| za zbN <| za zcw <| zb _)
open Go Go.Proofs
def wless (d:Disk) (s:Wk) (fr:Int):Wk:=if fr<0 then s else wcount d s fr (-1)
def wnew (d:Disk) (p:Plan) (g:Geom) (l1 i fr:Int):Int×Wk:=
 ((wtake d g ⟨p,0⟩ (fun q k=>pfill d q fr k)).1,wset d (wless d (wtake d g ⟨p,0⟩ (fun q k=>pfill d q fr k)).2 fr) l1 i ⟨1,(wtake d g ⟨p,0⟩ (fun q k=>pfill d q fr k)).1⟩)
theorem DP.wtake {d:Disk} {s:Wk} {g:Geom} {F:Plan→Int→Plan×Int} (h:DP d s.q) (hF:∀q k,DP d q→DP d (F q k).1):DP d (wtake d g s F).2.q:=by
 have h1:DP d (zdo d g s).2.q:=by
  unfold zdo;split
  ·exact h
  ·exact h.rtake g
 unfold Aw.wtake
 show DP d (if (zdo d g s).2.e≠0 then _ else _:Wk).q
 split
 ·exact h1
 ·exact hF _ _ h1
theorem DP.wcount {d:Disk} {s:Wk} (h:DP d s.q) (k b:Int):DP d (wcount d s k b).q:=by
 unfold Aw.wcount;split
 ·exact h
 ·exact h.radd _ _
theorem DP.wset {d:Disk} {s:Wk} (h:DP d s.q) (t i:Int) (x:Ent2):DP d (wset d s t i x).q:=by
 unfold Aw.wset;split
 ·exact h
 ·exact h.eset _ _ _
theorem zsK {d:Disk} {p:Plan} {g:Geom} {l1 i fr:Int} (h:DP d p):(wnew d p g l1 i fr).2.e=(pfresh d p g l1 i fr).2.2∧((wnew d p g l1 i fr).2.e=0→(wnew d p g l1 i fr).2.q=(pfresh d p g l1 i fr).1∧(wnew d p g l1 i fr).1=(pfresh d p g l1 i fr).2.1)∧DP d (wnew d p g l1 i fr).2.q:=by
 refine ⟨?_,?_,?_⟩
 rotate_left
 rotate_left
 ·have hw:=DP.wtake (d:=d) (s:=⟨p,0⟩) (g:=g) (F:=fun q k=>pfill d q fr k) h (fun q k hq=>hq.pfill fr k)
  unfold wnew
  refine DP.wset ?_ _ _ _
  unfold wless;split
  ·exact hw
  ·exact hw.wcount _ _
 all_goals by_cases h1:(rtake d p g).2.2=0<;>by_cases h2:(pfill d (rtake d p g).1 fr (rtake d p g).2.1).2=0<;>by_cases h3:fr<0
 all_goals simp only [wnew,pfresh,wtake,zdo,wless,pless,wcount,wset,h1,h2,h3,ne_eq,not_true_eq_false,not_false_eq_true,if_true,if_false,ite_true,ite_false,implies_true,true_implies,and_self]
 all_goals clear h
 all_goals (repeat' split)<;>simp_all
def OwnR (d:Disk) (p:Plan) (g:Geom) (guest:Int) (r:AV) (ob:AObj):Prop:=
 ∃ (k:Int) (s:Wk),r= .d (.int .i64 k)∧ob= .var (wkP s.q g d s.e)∧s.e=(pown d p g guest).2.2∧(s.e=0→s.q=(pown d p g guest).1∧k=(pown d p g guest).2.1)∧DP d s.q
theorem zxD (g:Geom) (d:Disk) (p:Plan) (guest:Int) (h:DP d p) (hg:g.host≤1000000) (hgg:g.guest≤1000000):ACall Tryz.prog 197 20 [.vp 5 0,.d (.int .i64 guest)] [(5,.var (wkP p g d 0))] (fun r h'=>∃ob',h'= [(5,ob')]∧OwnR d p g guest r ob'):=by
 refine zQ (fun i=>decide (i<20)) ?_
 refine bod Tryz.func197 Tryz.ntmps197 (fun base=>?_)
 by_cases hr:guest<0∨g.guest≤guest
 ·have hdec:(decide (guest<0)||decide (g.guest≤guest))=true:=by simpa using hr
  refine' zc hdec
  all_goals first|rfl|exact ⟨_,rfl,0,⟨p,10⟩,rfl,rfl,by rw [pown,if_pos hr],(fun e=>absurd e (show ¬(10:Int)=0 by decide)),h⟩
 have hdec:(decide (guest<0)||decide (g.guest≤guest))=false:=by simpa using hr
 have hw1:IntKind.i64.wrap (guest.tdiv 16)=guest / 16:=by
  rw [not_or] at hr
  rw [Int.tdiv_eq_ediv_of_nonneg (by omega)]
  exact ze (by omega) (by omega)
 refine' zc hdec
 obtain ⟨R,hR⟩:∃R,R=zC d p:=⟨_,rfl⟩
 refine (zix (fl:=40) (q:=p) (g:=g) (d:=d) (e:=0) (K:=fun h'=>h'=hOw1 g d ⟨p,R.2⟩ R.1.l1 R.1.next) (z2 rfl) (by omega) rfl ?_ (fun e=>absurd rfl e) ?_).mono ?_
 ·rintro h' rfl i hi
  revert hi
  simp only [hget]
  repeat' split
  all_goals simp
 ·intro he
  refine ((zwL g d ⟨p,0⟩ h).whole (z2 rfl) (by omega) (by
   rintro r h' ⟨_,rfl⟩ i hi
   revert hi
   simp only [hget]
   repeat' split
   all_goals simp)).mono ?_
  rintro r h' ⟨rfl,rfl⟩
  refine ⟨_,_,rfl,rfl,?_⟩
  rw [hR]
  rfl
 rintro r h' ⟨rfl,rfl⟩
 refine' zc hw1
 obtain ⟨X,hX⟩:∃X,X=wget d ⟨p,R.2⟩ R.1.l1 (guest / 16):=⟨_,rfl⟩
 have hXq:X.2.q=p:=by rw [hX];unfold wget;split<;>rfl
 refine ((zvL g d ⟨p,R.2⟩ R.1.l1 (guest / 16) h).one (fl':=20) rfl rfl (z2 rfl) rfl (by simp [AObj.ids,AV.idsL,AV.ids,wkP]) (by simp [AV.idsL,AV.ids]) (by omega)).mono ?_
 rintro r h' ⟨ob',⟨rfl,rfl⟩,rfl⟩
 rw [← hX,hXq]
 simp only [go_sem,aeq,aeq.aeqF,simprocAttr]
 have hpn:pown d p g guest=if R.2≠0 then (p,0,R.2) else pown2 d p g R.1.l1 (guest / 16):=by rw [pown,if_neg hr,hR]
 by_cases he:X.2.e=0
 ·have hR0:R.2=0:=by
   rcases Int.lt_trichotomy R.2 0 with hh|hh|hh
   ·rw [hX,wget,if_pos (show R.2≠0 by omega)] at he;exact he
   ·exact hh
   ·rw [hX,wget,if_pos (show R.2≠0 by omega)] at he;exact he
  have hXe:X=((eget d p R.1.l1 (guest / 16)).1,⟨p,(eget d p R.1.l1 (guest / 16)).2⟩):=by rw [hX,wget,if_neg (show ¬R.2≠0 by omega)]
  have he2:(eget d p R.1.l1 (guest / 16)).2=0:=by rw [hXe] at he;exact he
  obtain ⟨hx1,_⟩:=zkw he2
  have hk3:=(zen hx1).1
  obtain ⟨x,hx⟩:∃x,x=(eget d p R.1.l1 (guest / 16)).1:=⟨_,rfl⟩
  have hX1:X.1=x:=by rw [hXe,hx]
  rw [← hx] at hk3 hx1
  rw [hX1,he]
  have hpn2:pown d p g guest=pown2 d p g R.1.l1 (guest / 16):=by rw [hpn,if_neg (by rw [hR0];decide)]
  have hp2:pown2 d p g R.1.l1 (guest / 16)=if x.kind=2 then (p,0,14) else if x.kind=0 then pfresh d p g R.1.l1 (guest / 16) (-1) else if (rget d p x.loc).2≠0 then (p,0,(rget d p x.loc).2) else if (rget d p x.loc).1≤1 then (p,x.loc,0) else pfresh d p g R.1.l1 (guest / 16) x.loc:=by
   rw [pown2,if_neg (by rw [he2];decide),← hx]
  rw [← hpn2] at hp2
  rcases hk3 with hk|hk|hk
  ·-- nothing there
   rw [if_neg (by omega),if_pos hk] at hp2
   refine' zc hk
   refine (zpk g d ⟨p,0⟩ ⟨0,x.loc⟩ R.1.l1 R.1.next 228 [.vp 20 0] (fun q k=>pfill d q (-1) k) (.inl rfl) h hg (fun s1 k hd=>by
    rw [show pfill d s1.q (-1) k=eblank s1.q k from if_pos (by decide)]
    exact zwJ g d s1 ⟨0,x.loc⟩ R.1.l1 R.1.next k hd)).whole (fl:=40) (fl':=20) (z2 rfl) (by omega) ?_ |>.mono ?_
   ·rintro r h' ⟨_,rfl⟩ i hi
    revert hi
    simp only [hget]
    repeat' split
    all_goals simp
   rintro r h' ⟨rfl,rfl⟩
   refine' zc fx
   obtain ⟨W,hW⟩:∃W,W=wtake d g ⟨p,0⟩ (fun q k=>pfill d q (-1) k):=⟨_,rfl⟩
   have hDW:DP d W.2.q:=by rw [hW];exact DP.wtake h (fun q k hq=>hq.pfill _ _)
   refine ((zpi g d (wtake d g ⟨p,0⟩ (fun q k=>pfill d q (-1) k)).2 R.1.l1 (guest / 16) ⟨1,(wtake d g ⟨p,0⟩ (fun q k=>pfill d q (-1) k)).1⟩ (by rw [← hW];exact hDW)).one (fl':=20) rfl rfl (z2 rfl) rfl (by simp [AObj.ids,AV.idsL,AV.ids,wkP]) (by simp [AV.idsL,AV.ids,entA]) (by omega)).mono ?_
   rintro r h' ⟨ob',⟨rfl,rfl⟩,rfl⟩
   simp only [go_sem,aeq,aeq.aeqF,simprocAttr]
   refine' zc fx
   all_goals first|rfl|skip
   have hn:=zsK (g:=g) (l1:=R.1.l1) (i:=guest / 16) (fr:= -1) h
   rw [← hp2] at hn
   exact ⟨_,rfl,(wnew d p g R.1.l1 (guest / 16) (-1)).1,(wnew d p g R.1.l1 (guest / 16) (-1)).2,rfl,rfl,hn⟩
  ·-- a table
   rw [if_neg (by omega),if_neg (by omega)] at hp2
   refine' zc hk
   refine ((zqB g d ⟨p,0⟩ x.loc h).one (fl':=20) rfl rfl (z2 rfl) rfl (by simp [AObj.ids,AV.idsL,AV.ids,wkP]) (by simp [AV.idsL,AV.ids]) (by omega)).mono ?_
   rintro r h' ⟨ob',⟨rfl,rfl⟩,rfl⟩
   have hwc:zdv d ⟨p,0⟩ x.loc=((rget d p x.loc).1,⟨p,(rget d p x.loc).2⟩):=by rw [zdv,if_neg (by simp)]
   simp only [hwc]
   simp only [go_sem,aeq,aeq.aeqF,simprocAttr]
   obtain ⟨N,hN⟩:∃N,N=rget d p x.loc:=⟨_,rfl⟩
   rw [← hN] at hp2 ⊢
   by_cases hN1:N.1≤1
   ·have hb:decide (N.1≤1)=true:=by simpa using hN1
    simp only [hb]
    refine' zc fx
    all_goals first|rfl|skip
    refine ⟨_,rfl,x.loc,⟨p,N.2⟩,rfl,rfl,?_,?_,h⟩
    ·show N.2=_
     rw [hp2]
     by_cases hN2:N.2=0
     ·rw [if_neg (by omega),if_pos hN1,hN2]
     ·rw [if_pos hN2]
    ·intro (e:N.2=0)
     rw [hp2,if_neg (by omega),if_pos hN1]
     exact ⟨rfl,rfl⟩
   ·have hb:decide (N.1≤1)=false:=by simpa using hN1
    have hN2:N.2=0:=by
     rw [hN,rget] at hN1 ⊢
     split
     ·rename_i hh;rw [if_pos hh] at hN1;exact absurd (show (0:Int)≤1 by decide) hN1
     ·rename_i hh;rw [if_neg hh] at hN1
      split
      ·rename_i hh2;rw [if_pos hh2] at hN1;exact absurd (show (0:Int)≤1 by decide) hN1
      ·rfl
    rw [if_neg (by omega),if_neg hN1] at hp2
    simp only [hb,hN2]
    refine' zdS (zbh 9) fx
    refine aw_le ⟨[(2,true,.vp 20 0),(5,true,.vp 21 0),(6,true,.d (.int .i64 (guest / 16))),(7,true,.vp 22 0)],hOwn g d ⟨p,0⟩ ⟨1,x.loc⟩ R.1.l1 R.1.next,some []⟩ (by simp only [AS.le,leT,leH,zf,AsgK,AV.le,AV.leL,AObj.le,inH,idsT,idsH,AV.ids,AV.idsL,AV.idsR,AObj.ids,lk,hget,go_sem,aeq,aeq.aeqF,simprocAttr,hOwn,wkP]) ?_
    refine' zc fx
    have hf0:¬x.loc<0:=by have:=(zen hx1).2.1;omega
    refine (zpk g d ⟨p,0⟩ ⟨1,x.loc⟩ R.1.l1 R.1.next 231 [.vp 20 0,.vp 22 0] (fun q k=>pfill d q x.loc k) (.inr rfl) h hg (fun s1 k hd=>by
     rw [show pfill d s1.q x.loc k=ecopy d s1.q x.loc k from if_neg hf0]
     exact zwK g d s1 ⟨1,x.loc⟩ R.1.l1 R.1.next k hd)).whole (fl:=40) (fl':=20) (z2 rfl) (by omega) ?_ |>.mono ?_
    ·rintro r h' ⟨_,rfl⟩ i hi
     revert hi
     simp only [hget]
     repeat' split
     all_goals simp
    rintro r h' ⟨rfl,rfl⟩
    refine' zc fx
    obtain ⟨W,hW⟩:∃W,W=wtake d g ⟨p,0⟩ (fun q k=>pfill d q x.loc k):=⟨_,rfl⟩
    have hDW:DP d W.2.q:=by rw [hW];exact DP.wtake h (fun q k hq=>hq.pfill _ _)
    refine ((zph g d (wtake d g ⟨p,0⟩ (fun q k=>pfill d q x.loc k)).2 x.loc (-1) (by rw [← hW];exact hDW)).one (fl':=20) rfl rfl (z2 rfl) rfl (by simp [AObj.ids,AV.idsL,AV.ids,wkP]) (by simp [AV.idsL,AV.ids]) (by omega)).mono ?_
    rintro r h' ⟨ob',⟨rfl,rfl⟩,rfl⟩
    simp only [go_sem,aeq,aeq.aeqF,simprocAttr]
    refine' zc fx
    refine ((zpi g d (wcount d (wtake d g ⟨p,0⟩ (fun q k=>pfill d q x.loc k)).2 x.loc (-1)) R.1.l1 (guest / 16) ⟨1,(wtake d g ⟨p,0⟩ (fun q k=>pfill d q x.loc k)).1⟩ (by rw [← hW];exact hDW.wcount _ _)).one (fl':=20) rfl rfl (z2 rfl) rfl (by simp [AObj.ids,AV.idsL,AV.ids,wkP]) (by simp [AV.idsL,AV.ids,entA]) (by omega)).mono ?_
    rintro r h' ⟨ob',⟨rfl,rfl⟩,rfl⟩
    simp only [go_sem,aeq,aeq.aeqF,simprocAttr]
    refine' zc fx
    all_goals first|rfl|skip
    have hn:=zsK (g:=g) (l1:=R.1.l1) (i:=guest / 16) (fr:=x.loc) h
    rw [← hp2] at hn
    refine ⟨_,rfl,(wnew d p g R.1.l1 (guest / 16) x.loc).1,(wnew d p g R.1.l1 (guest / 16) x.loc).2,rfl,?_,hn⟩
    rw [wnew,wless,if_neg hf0]
    rfl
  ·rw [if_pos hk] at hp2
   refine' zc hk
   all_goals first|rfl|exact ⟨_,rfl,0,⟨p,14⟩,rfl,rfl,by rw [hp2],(fun e=>absurd e (show ¬(14:Int)=0 by decide)),h⟩
 ·have hb:(X.2.e !=0)=true:=by simpa using he
  refine' zc hb
  refine ⟨_,rfl,0,⟨p,X.2.e⟩,rfl,rfl,?_,(fun e=>absurd e he),h⟩
  show X.2.e=_
  rw [hpn,hX,wget]
  by_cases hR0:R.2=0
  ·rw [if_neg (show ¬R.2≠0 by omega),if_neg (show ¬R.2≠0 by omega),pown2]
   rw [hX,wget,if_neg (show ¬R.2≠0 by omega)] at he
   rw [if_pos he]
  ·rw [if_pos hR0,if_pos hR0]
end Go.Aw
