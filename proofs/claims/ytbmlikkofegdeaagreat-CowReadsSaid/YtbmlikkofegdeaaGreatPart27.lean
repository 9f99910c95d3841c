/-
  Parts of the proof: PointD, PointE, PointF, PointG, CowA, CowB (short names; the readable texts lie in the repo, under wip).
-/
import Derived.Test.YtbmlikkofegdeaaGreatPart26
import Derived.Test.YtbmlikkofegdeaaGreatPart17
import Derived.Test.YtbmlikkofegdeaaGreatPart25
import Derived.Test.YtbmlikkofegdeaaGreatPart21
set_option maxRecDepth 100000
set_option maxHeartbeats 2000000
set_option linter.unusedSimpArgs false
set_option linter.unusedVariables false
namespace Go.Aw
open Go Go.Proofs
def wkP (q:Plan) (g:Geom) (d:Disk) (e:Int):List AV:= [.d (.sl 1 (q.targets.map intD)),.d (.sl 1 (q.texts.map strD)),.d (.int .i64 g.guest),.d (.int .i64 g.host),.d (.str d.data),.d (.sl 2 (d.cache.map putD)),.d (.int .i64 d.fuse),.d (.bool d.off),.d (.sl 1 (d.bad.map intD)),.d (.int .i64 e)]
attribute [go_sem] wkP
theorem zgN {fl fl':Nat} {f:FuncId} {caps:List AV} {h:AHeap} {K:AHeap→Prop} {q:Plan} {g:Geom} {d:Disk} {e:Int} (hfl:∀i,(hget h i).isSome→i<fl) (hle:fl'≤fl) (hw:hget h 5=some (.var (wkP q g d e)))
  (hk:∀h',K h'→∀i,(hget h i).isSome→(hget h' i).isSome)
  (h1:e≠0→K h)
  (h2:e=0→ACallAt Tryz.prog fl f caps h (fun r h'=>∃q' e',r= .tup [planA q',.d (.int .i64 e')]∧hget h' 5=some (.var (wkP q g d e))∧K (hset h' 5 (.var (wkP q' g d e'))))):
  ACallAt Tryz.prog fl' 169 [.vp 5 0,.fn (.func f) [] caps] h (fun r h'=>r= .tup []∧K h'):=by
 refine ACall.whole (fl:=fl) ?_ hfl hle (fun r h' hr=>hk h' hr.2)
 refine bod Tryz.func169 Tryz.ntmps169 (fun base=>?_)
 cases he:(e==0) with
 |false=>
  have he':e≠0:=by simpa using he
  simp only [wkP] at hw
  refine' zf (zE hw he)
  exact h1 he'
 |true=>
  have he':e=0:=by simpa using he
  have h2:=h2 he'
  simp only [wkP] at hw
  refine' zf (zE hw he)
  refine h2.mono ?_
  rintro r h' ⟨q',e',rfl,hw',hK⟩
  simp only [wkP] at hw'
  have hs1:∀o,hget (hset h' 5 o) 5=some o:=fun o=>ze hw'
  have hs2:∀a b,hset (hset h' 5 a) 5 b=hset h' 5 b:=fun a b=>zfg h' 5 a b
  simp only [go_sem,hw',hs1,hs2]
  refine' zf (zN hw' hs1 hs2)
structure Wk where
 q:Plan
 e:Int
def wcount (d:Disk) (s:Wk) (k by_:Int):Wk:=if s.e≠0 then s else ⟨(radd d s.q k by_).1,(radd d s.q k by_).2⟩
def wset (d:Disk) (s:Wk) (t i:Int) (x:Ent2):Wk:=if s.e≠0 then s else ⟨(eset d s.q t i x).1,(eset d s.q t i x).2⟩
def wget (d:Disk) (s:Wk) (t i:Int):Ent2×Wk:=if s.e≠0 then (⟨0,0⟩,s) else ((eget d s.q t i).1,⟨s.q,(eget d s.q t i).2⟩)
def zca (d:Disk) (s:Wk) (k:Int):Int×Wk:=if s.e≠0 then (0,s) else ((rget d s.q k).1,⟨s.q,(rget d s.q k).2⟩)
@[go_sem] abbrev zlP (g:Geom) (d:Disk) (s:Wk) (k by_:Int):AHeap:= [(42,.var [.d (.int .i64 by_)]),(41,.var [.d (.int .i64 k)]),(40,.var [.vp 5 0]),(5,.var (wkP s.q g d s.e))]
theorem zoM (g:Geom) (d:Disk) (s:Wk) (k by_:Int) (h:DP d s.q):ACall Tryz.prog 178 80 [.vp 40 0,.vp 41 0,.vp 42 0] (zlP g d s k by_) (fun r h'=>r= .tup [planA (radd d s.q k by_).1,.d (.int .i64 (radd d s.q k by_).2)]∧h'=zlP g d s k by_):=by
 refine zO (fun i=>decide (i<80)) ?_
 refine bod Tryz.func178 Tryz.ntmps178 (fun base=>?_)
 refine' walkW fx (za zaH <| za zbY <| za zbc <| za zj <| za zu <| za zo <| za zaW <| za zbp <| zb _)
theorem zlQ (g:Geom) (d:Disk) (s:Wk) (k by_:Int) (h:DP d s.q):ACall Tryz.prog 139 40 [.vp 5 0,.d (.int .i64 k),.d (.int .i64 by_)] [(5,.var (wkP s.q g d s.e))] (fun r h'=>∃ob',h'= [(5,ob')]∧r= .tup []∧ob'= .var (wkP (wcount d s k by_).q g d (wcount d s k by_).e)):=by
 refine zO (fun i=>decide (i<40)) ?_
 refine bod Tryz.func139 Tryz.ntmps139 (fun base=>?_)
 refine' zf fx
 refine (zgN (fl:=60) (K:=fun h'=>(s.e≠0∧h'=zlP g d s k by_)∨(s.e=0∧h'=hset (zlP g d s k by_) 5 (.var (wkP (radd d s.q k by_).1 g d (radd d s.q k by_).2)))) (zM rfl) (by omega) rfl ?_ ?_ ?_).mono ?_
 ·rintro h' (⟨_,rfl⟩|⟨_,rfl⟩) i hi
  ·exact hi
  ·rw [zaf (by rfl)]
   revert hi
   simp only [hget]
   repeat' split
   all_goals simp
 ·intro he;exact .inl ⟨he,rfl⟩
 ·intro he
  refine ((zoM g d s k by_ h).whole (zM rfl) (by omega) (by
   rintro r h' ⟨_,rfl⟩ i hi
   revert hi
   simp only [hget]
   repeat' split
   all_goals simp)).mono ?_
  rintro r h' ⟨rfl,rfl⟩
  exact ⟨_,_,rfl,rfl,.inr ⟨he,rfl⟩⟩
 ·rintro r h' ⟨rfl,(⟨he,rfl⟩|⟨he,rfl⟩)⟩
  ·have hm:wcount d s k by_=s:=by rw [wcount,if_pos he]
   rw [hm]
   refine' zf fx
   all_goals first|rfl|exact ⟨_,rfl,rfl⟩|exact ⟨_,rfl,by rw [hm]⟩|skip
  ·have hm:wcount d s k by_=⟨(radd d s.q k by_).1,(radd d s.q k by_).2⟩:=by rw [wcount,if_neg (by rw [he];decide)]
   rw [hm]
   refine' zf fx
   all_goals first|rfl|exact ⟨_,rfl,rfl⟩|exact ⟨_,rfl,by rw [hm]⟩|skip
@[go_sem] abbrev hSet (g:Geom) (d:Disk) (s:Wk) (t i:Int) (x:Ent2):AHeap:= [(43,.var [.d (.int .i64 x.kind),.d (.int .i64 x.loc)]),(42,.var [.d (.int .i64 i)]),(41,.var [.d (.int .i64 t)]),(40,.var [.vp 5 0]),(5,.var (wkP s.q g d s.e))]
theorem zrY (g:Geom) (d:Disk) (s:Wk) (t i:Int) (x:Ent2) (h:DP d s.q):ACall Tryz.prog 179 80 [.vp 40 0,.vp 41 0,.vp 42 0,.vp 43 0] (hSet g d s t i x) (fun r h'=>r= .tup [planA (eset d s.q t i x).1,.d (.int .i64 (eset d s.q t i x).2)]∧h'=hSet g d s t i x):=by
 refine zO (fun i=>decide (i<80)) ?_
 refine bod Tryz.func179 Tryz.ntmps179 (fun base=>?_)
 refine' walkW fx (za zaH <| za zbY <| za zbc <| za zj <| za zu <| za zo <| za zaW <| za zbp <| zb _)
theorem zlR (g:Geom) (d:Disk) (s:Wk) (t i:Int) (x:Ent2) (h:DP d s.q):ACall Tryz.prog 140 40 [.vp 5 0,.d (.int .i64 t),.d (.int .i64 i),entA x] [(5,.var (wkP s.q g d s.e))] (fun r h'=>∃ob',h'= [(5,ob')]∧r= .tup []∧ob'= .var (wkP (wset d s t i x).q g d (wset d s t i x).e)):=by
 refine zO (fun i=>decide (i<40)) ?_
 refine bod Tryz.func140 Tryz.ntmps140 (fun base=>?_)
 refine' zf fx
 refine (zgN (fl:=60) (K:=fun h'=>(s.e≠0∧h'=hSet g d s t i x)∨(s.e=0∧h'=hset (hSet g d s t i x) 5 (.var (wkP (eset d s.q t i x).1 g d (eset d s.q t i x).2)))) (zM rfl) (by omega) rfl ?_ ?_ ?_).mono ?_
 ·rintro h' (⟨_,rfl⟩|⟨_,rfl⟩) i hi
  ·exact hi
  ·rw [zaf (by rfl)]
   revert hi
   simp only [hget]
   repeat' split
   all_goals simp
 ·intro he;exact .inl ⟨he,rfl⟩
 ·intro he
  refine ((zrY g d s t i x h).whole (zM rfl) (by omega) (by
   rintro r h' ⟨_,rfl⟩ i hi
   revert hi
   simp only [hget]
   repeat' split
   all_goals simp)).mono ?_
  rintro r h' ⟨rfl,rfl⟩
  exact ⟨_,_,rfl,rfl,.inr ⟨he,rfl⟩⟩
 ·rintro r h' ⟨rfl,(⟨he,rfl⟩|⟨he,rfl⟩)⟩
  ·have hm:wset d s t i x=s:=by rw [wset,if_pos he]
   rw [hm]
   refine' zf fx
   all_goals first|rfl|exact ⟨_,rfl,rfl⟩|exact ⟨_,rfl,by rw [hm]⟩|skip
  ·have hm:wset d s t i x=⟨(eset d s.q t i x).1,(eset d s.q t i x).2⟩:=by rw [wset,if_neg (by rw [he];decide)]
   rw [hm]
   refine' zf fx
   all_goals first|rfl|exact ⟨_,rfl,rfl⟩|exact ⟨_,rfl,by rw [hm]⟩|skip
@[go_sem] abbrev hGet (g:Geom) (d:Disk) (s:Wk) (t i:Int):AHeap:= [(43,.var [.d (.int .i64 0),.d (.int .i64 0)]),(42,.var [.d (.int .i64 i)]),(41,.var [.d (.int .i64 t)]),(40,.var [.vp 5 0]),(5,.var (wkP s.q g d s.e))]
@[go_sem] abbrev hGet2 (g:Geom) (d:Disk) (s:Wk) (t i:Int):AHeap:= [(43,.var [.d (.int .i64 (eget d s.q t i).1.kind),.d (.int .i64 (eget d s.q t i).1.loc)]),(42,.var [.d (.int .i64 i)]),(41,.var [.d (.int .i64 t)]),(40,.var [.vp 5 0]),(5,.var (wkP s.q g d s.e))]
theorem zrZ (g:Geom) (d:Disk) (s:Wk) (t i:Int) (h:DP d s.q):ACall Tryz.prog 177 80 [.vp 40 0,.vp 41 0,.vp 42 0,.vp 43 0] (hGet g d s t i) (fun r h'=>r= .tup [planA s.q,.d (.int .i64 (eget d s.q t i).2)]∧h'=hGet2 g d s t i):=by
 refine zO (fun i=>decide (i<80)) ?_
 refine bod Tryz.func177 Tryz.ntmps177 (fun base=>?_)
 refine' walkW fx (za zaH <| za zbY <| za zbc <| za zj <| za zu <| za zo <| za zaW <| za zbp <| zb _)
theorem zq9 (g:Geom) (d:Disk) (s:Wk) (t i:Int) (h:DP d s.q):ACall Tryz.prog 138 40 [.vp 5 0,.d (.int .i64 t),.d (.int .i64 i)] [(5,.var (wkP s.q g d s.e))] (fun r h'=>∃ob',h'= [(5,ob')]∧r=entA (wget d s t i).1∧ob'= .var (wkP ((wget d s t i).2).q g d ((wget d s t i).2).e)):=by
 refine zO (fun i=>decide (i<40)) ?_
 refine bod Tryz.func138 Tryz.ntmps138 (fun base=>?_)
 refine' zf fx
 refine (zgN (fl:=60) (K:=fun h'=>(s.e≠0∧h'=hGet g d s t i)∨(s.e=0∧h'=hset (hGet2 g d s t i) 5 (.var (wkP s.q g d (eget d s.q t i).2)))) (zM rfl) (by omega) rfl ?_ ?_ ?_).mono ?_
 ·rintro h' (⟨_,rfl⟩|⟨_,rfl⟩) i hi
  ·exact hi
  ·rw [zaf (by rfl)]
   revert hi
   simp only [hget]
   repeat' split
   all_goals simp
 ·intro he;exact .inl ⟨he,rfl⟩
 ·intro he
  refine ((zrZ g d s t i h).whole (zM rfl) (by omega) (by
   rintro r h' ⟨_,rfl⟩ i hi
   revert hi
   simp only [hget]
   repeat' split
   all_goals simp)).mono ?_
  rintro r h' ⟨rfl,rfl⟩
  exact ⟨_,_,rfl,rfl,.inr ⟨he,rfl⟩⟩
 ·rintro r h' ⟨rfl,(⟨he,rfl⟩|⟨he,rfl⟩)⟩
  ·have hm:wget d s t i=(⟨0,0⟩,s):=by rw [wget,if_pos he]
   refine' zf hm
   all_goals first|rfl|exact ⟨_,rfl,rfl⟩|exact ⟨_,rfl,by rw [hm]⟩|skip
  ·have hm:wget d s t i=((eget d s.q t i).1,⟨s.q,(eget d s.q t i).2⟩):=by rw [wget,if_neg (by rw [he];decide)]
   refine' zf hm
   all_goals first|rfl|exact ⟨_,rfl,rfl⟩|exact ⟨_,rfl,by rw [hm]⟩|skip
@[go_sem] abbrev zlS (g:Geom) (d:Disk) (s:Wk) (k:Int):AHeap:= [(42,.var [.d (.int .i64 0)]),(41,.var [.d (.int .i64 k)]),(40,.var [.vp 5 0]),(5,.var (wkP s.q g d s.e))]
@[go_sem] abbrev zjF (g:Geom) (d:Disk) (s:Wk) (k:Int):AHeap:= [(42,.var [.d (.int .i64 (rget d s.q k).1)]),(41,.var [.d (.int .i64 k)]),(40,.var [.vp 5 0]),(5,.var (wkP s.q g d s.e))]
theorem zkS (g:Geom) (d:Disk) (s:Wk) (k:Int) (h:DP d s.q):ACall Tryz.prog 195 80 [.vp 40 0,.vp 41 0,.vp 42 0] (zlS g d s k) (fun r h'=>r= .tup [planA s.q,.d (.int .i64 (rget d s.q k).2)]∧h'=zjF g d s k):=by
 refine zO (fun i=>decide (i<80)) ?_
 refine bod Tryz.func195 Tryz.ntmps195 (fun base=>?_)
 refine' walkW fx (za zaH <| za zbY <| za zbc <| za zj <| za zu <| za zo <| za zaW <| za zbp <| zb _)
theorem zmX (g:Geom) (d:Disk) (s:Wk) (k:Int) (h:DP d s.q):ACall Tryz.prog 174 40 [.vp 5 0,.d (.int .i64 k)] [(5,.var (wkP s.q g d s.e))] (fun r h'=>∃ob',h'= [(5,ob')]∧r= .d (.int .i64 (zca d s k).1)∧ob'= .var (wkP ((zca d s k).2).q g d ((zca d s k).2).e)):=by
 refine zO (fun i=>decide (i<40)) ?_
 refine bod Tryz.func174 Tryz.ntmps174 (fun base=>?_)
 refine' zf fx
 refine (zgN (fl:=60) (K:=fun h'=>(s.e≠0∧h'=zlS g d s k)∨(s.e=0∧h'=hset (zjF g d s k) 5 (.var (wkP s.q g d (rget d s.q k).2)))) (zM rfl) (by omega) rfl ?_ ?_ ?_).mono ?_
 ·rintro h' (⟨_,rfl⟩|⟨_,rfl⟩) i hi
  ·exact hi
  ·rw [zaf (by rfl)]
   revert hi
   simp only [hget]
   repeat' split
   all_goals simp
 ·intro he;exact .inl ⟨he,rfl⟩
 ·intro he
  refine ((zkS g d s k h).whole (zM rfl) (by omega) (by
   rintro r h' ⟨_,rfl⟩ i hi
   revert hi
   simp only [hget]
   repeat' split
   all_goals simp)).mono ?_
  rintro r h' ⟨rfl,rfl⟩
  exact ⟨_,_,rfl,rfl,.inr ⟨he,rfl⟩⟩
 ·rintro r h' ⟨rfl,(⟨he,rfl⟩|⟨he,rfl⟩)⟩
  ·have hm:zca d s k=(0,s):=by rw [zca,if_pos he]
   refine' zf hm
   all_goals first|rfl|exact ⟨_,rfl,rfl⟩|exact ⟨_,rfl,by rw [hm]⟩|skip
  ·have hm:zca d s k=((rget d s.q k).1,⟨s.q,(rget d s.q k).2⟩):=by rw [zca,if_neg (by rw [he];decide)]
   refine' zf hm
   all_goals first|rfl|exact ⟨_,rfl,rfl⟩|exact ⟨_,rfl,by rw [hm]⟩|skip
open Go Go.Proofs
def zb4 (d:Disk) (g:Geom) (s:Wk):Int×Wk:=if s.e≠0 then (0,s) else ((rtake d s.q g).2.1,⟨(rtake d s.q g).1,(rtake d s.q g).2.2⟩)
def wtake (d:Disk) (g:Geom) (s:Wk) (F:Plan→Int→Plan×Int):Int×Wk:=
 ((zb4 d g s).1,if (zb4 d g s).2.e≠0 then (zb4 d g s).2 else ⟨(F (zb4 d g s).2.q (zb4 d g s).1).1,(F (zb4 d g s).2.q (zb4 d g s).1).2⟩)
@[go_sem] abbrev hOwn (g:Geom) (d:Disk) (s:Wk) (x:Ent2) (l1 nx:Int):AHeap:= [(22,.var [.d (.int .i64 x.kind),.d (.int .i64 x.loc)]),(5,.var (wkP s.q g d s.e)),(21,.var [.d (.int .i64 l1),.d (.int .u32 nx)]),(20,.var [.vp 5 0])]
@[go_sem] abbrev hTak (g:Geom) (d:Disk) (s:Wk) (x:Ent2) (l1 nx:Int) (f:FuncId) (caps:List AV) (k:Int):AHeap:= [(42,.var [.d (.int .i64 k)]),(41,.var [.fn (.func f) [] caps]),(40,.var [.vp 5 0]),(22,.var [.d (.int .i64 x.kind),.d (.int .i64 x.loc)]),(5,.var (wkP s.q g d s.e)),(21,.var [.d (.int .i64 l1),.d (.int .u32 nx)]),(20,.var [.vp 5 0])]
theorem zqx (g:Geom) (d:Disk) (s:Wk) (x:Ent2) (l1 nx:Int) (f:FuncId) (caps:List AV) (hcap:AV.idsL caps= [20]∨AV.idsL caps= [20,22]) (h:DP d s.q) (hg:g.host≤1000000):ACall Tryz.prog 191 80 [.vp 40 0,.vp 42 0] (hTak g d s x l1 nx f caps 0) (fun r h'=>r= .tup [planA (rtake d s.q g).1,.d (.int .i64 (rtake d s.q g).2.2)]∧h'=hTak g d s x l1 nx f caps (rtake d s.q g).2.1):=by
 refine zO (fun i=>decide (i<80)) ?_
 refine bod Tryz.func191 Tryz.ntmps191 (fun base=>?_)
 refine' walkW fx (za zaH <| za zbY <| za zbc <| za zj <| za zu <| za zo <| za zaW <| za zbp <| zb _)
 rcases hcap with e|e<;>(rw [e];rfl)
@[go_sem] abbrev hFil (g:Geom) (d:Disk) (s:Wk) (x:Ent2) (l1 nx:Int) (f:FuncId) (caps:List AV) (k:Int):AHeap:=(80,.var [.nils 1,.nils 1])::hTak g d s x l1 nx f caps k
theorem zqy (g:Geom) (d:Disk) (s:Wk) (x:Ent2) (l1 nx:Int) (f:FuncId) (caps:List AV) (k:Int) (F:Plan×Int) (hcap:AV.idsL caps= [20]∨AV.idsL caps= [20,22])
  (hF:ACallAt Tryz.prog 80 f (.d (.int .i64 k)::caps) (hFil g d s x l1 nx f caps k) (fun r h'=>r= .tup [planA F.1,.d (.int .i64 F.2)]∧h'=hFil g d s x l1 nx f caps k)):ACall Tryz.prog 192 80 [.vp 41 0,.vp 42 0] (hTak g d s x l1 nx f caps k) (fun r h'=>r= .tup [planA F.1,.d (.int .i64 F.2)]∧h'=hTak g d s x l1 nx f caps k):=by
 refine zO (fun i=>decide (i<80)) ?_
 refine bod Tryz.func192 Tryz.ntmps192 (fun base=>?_)
 refine' zf fx
 refine hF.mono ?_
 rintro r h' ⟨rfl,rfl⟩
 simp only [go_sem,aeq,aeq.aeqF,simprocAttr]
 refine' zf fx
 rcases hcap with e|e<;>(rw [e];rfl)
theorem zlT (g:Geom) (d:Disk) (s:Wk) (x:Ent2) (l1 nx:Int) (f:FuncId) (caps:List AV) (F:Plan→Int→Plan×Int) (hcap:AV.idsL caps= [20]∨AV.idsL caps= [20,22]) (h:DP d s.q) (hg:g.host≤1000000)
  (hF:∀ (s1:Wk) (k:Int),DP d s1.q→ACallAt Tryz.prog 80 f (.d (.int .i64 k)::caps) (hFil g d s1 x l1 nx f caps k) (fun r h'=>r= .tup [planA (F s1.q k).1,.d (.int .i64 (F s1.q k).2)]∧h'=hFil g d s1 x l1 nx f caps k)):
  ACall Tryz.prog 171 40 [.vp 5 0,.fn (.func f) [] caps] (hOwn g d s x l1 nx) (fun r h'=>r= .d (.int .i64 (wtake d g s F).1)∧h'=hOwn g d (wtake d g s F).2 x l1 nx):=by
 refine zO (fun i=>decide (i<40)) ?_
 refine bod Tryz.func171 Tryz.ntmps171 (fun base=>?_)
 refine' zf fx
 obtain ⟨s1,hs1⟩:∃s1,s1=(zb4 d g s).2:=⟨_,rfl⟩
 obtain ⟨k,hk⟩:∃k,k=(zb4 d g s).1:=⟨_,rfl⟩
 have hd1:DP d s1.q:=by rw [hs1];unfold zb4;split;exact h;exact h.rtake g
 refine (zgN (fl:=60) (q:=s.q) (g:=g) (d:=d) (e:=s.e) (K:=fun h'=>h'=hTak g d s1 x l1 nx f caps k) (zM rfl) (by omega) rfl ?_ ?_ ?_).mono ?_
 ·rintro h' rfl i hi
  revert hi
  simp only [hget]
  repeat' split
  all_goals simp
 ·intro he
  rw [hs1,hk,zb4,if_pos he]
  rfl
 ·intro he
  refine ((zqx g d s x l1 nx f caps hcap h hg).whole (zM rfl) (by omega) (by
   rintro r h' ⟨_,rfl⟩ i hi
   revert hi
   simp only [hget]
   repeat' split
   all_goals simp)).mono ?_
  rintro r h' ⟨rfl,rfl⟩
  refine ⟨_,_,rfl,rfl,?_⟩
  rw [hs1,hk,zb4,if_neg (by rw [he];decide)]
  rfl
 rintro r h' ⟨rfl,rfl⟩
 refine' zf fx
 refine (zgN (fl:=60) (q:=s1.q) (g:=g) (d:=d) (e:=s1.e) (K:=fun h'=>h'=hTak g d (wtake d g s F).2 x l1 nx f caps k) (zM rfl) (by omega) rfl ?_ ?_ ?_).mono ?_
 ·rintro h' rfl i hi
  revert hi
  simp only [hget]
  repeat' split
  all_goals simp
 ·intro he
  rw [wtake,← hs1,← hk,if_pos he]
  rfl
 ·intro he
  refine ((zqy g d s1 x l1 nx f caps k (F s1.q k) hcap (hF s1 k hd1)).whole (zM rfl) (by omega) (by
   rintro r h' ⟨_,rfl⟩ i hi
   revert hi
   simp only [hget]
   repeat' split
   all_goals simp)).mono ?_
  rintro r h' ⟨rfl,rfl⟩
  refine ⟨_,_,rfl,rfl,?_⟩
  rw [wtake,← hs1,← hk,if_neg (by rw [he];decide)]
  rfl
 rintro r h' ⟨rfl,rfl⟩
 refine' zf fx
 rw [wtake,← hk]
theorem zr0 (g:Geom) (d:Disk) (s1:Wk) (x:Ent2) (l1 nx:Int) (k:Int) (h:DP d s1.q):ACallAt Tryz.prog 80 172 (.d (.int .i64 k):: [.vp 20 0]) (hFil g d s1 x l1 nx 172 [.vp 20 0] k) (fun r h'=>r= .tup [planA (eblank s1.q k).1,.d (.int .i64 (eblank s1.q k).2)]∧h'=hFil g d s1 x l1 nx 172 [.vp 20 0] k):=by
 have hp:=h.p
 refine ACall.whole (fl:=100) ?_ (zM rfl) (by omega) (by rintro r h' ⟨_,rfl⟩ i hi;exact hi)
 refine zO (fun i=>decide (i<100)) ?_
 refine bod Tryz.func172 Tryz.ntmps172 (fun base=>?_)
 refine' walkW fx (za zaH <| za zbY <| za zbc <| za zj <| za zu <| za zo <| za zaW <| za zbp <| zb _)
theorem zr1 (g:Geom) (d:Disk) (s1:Wk) (x:Ent2) (l1 nx:Int) (k:Int) (h:DP d s1.q):ACallAt Tryz.prog 80 175 (.d (.int .i64 k):: [.vp 20 0,.vp 22 0]) (hFil g d s1 x l1 nx 175 [.vp 20 0,.vp 22 0] k) (fun r h'=>r= .tup [planA (ecopy d s1.q x.loc k).1,.d (.int .i64 (ecopy d s1.q x.loc k).2)]∧h'=hFil g d s1 x l1 nx 175 [.vp 20 0,.vp 22 0] k):=by
 refine ACall.whole (fl:=100) ?_ (zM rfl) (by omega) (by rintro r h' ⟨_,rfl⟩ i hi;exact hi)
 refine zO (fun i=>decide (i<100)) ?_
 refine bod Tryz.func175 Tryz.ntmps175 (fun base=>?_)
 refine' walkW fx (za zaH <| za zbY <| za zbc <| za zj <| za zu <| za zo <| za zaW <| za zbp <| zb _)
@[go_sem] abbrev hOw1 (g:Geom) (d:Disk) (s:Wk) (l1 nx:Int):AHeap:= [(21,.var [.d (.int .i64 l1),.d (.int .u32 nx)]),(20,.var [.vp 5 0]),(5,.var (wkP s.q g d s.e))]
theorem zr2 (g:Geom) (d:Disk) (s:Wk) (h:DP d s.q):ACall Tryz.prog 170 80 [.vp 20 0,.vp 21 0] (hOw1 g d s 0 0) (fun r h'=>r= .tup [planA s.q,.d (.int .i64 (zk d s.q).2)]∧h'=hOw1 g d s (zk d s.q).1.l1 (zk d s.q).1.next):=by
 refine zO (fun i=>decide (i<80)) ?_
 refine bod Tryz.func170 Tryz.ntmps170 (fun base=>?_)
 refine' walkW fx (za zaH <| za zbY <| za zbc <| za zj <| za zu <| za zo <| za zaW <| za zbp <| zb _)
open Go Go.Proofs
def wless (d:Disk) (s:Wk) (fr:Int):Wk:=if fr<0 then s else wcount d s fr (-1)
def wnew (d:Disk) (p:Plan) (g:Geom) (l1 i fr:Int):Int×Wk:=
 ((wtake d g ⟨p,0⟩ (fun q k=>pfill d q fr k)).1,wset d (wless d (wtake d g ⟨p,0⟩ (fun q k=>pfill d q fr k)).2 fr) l1 i ⟨1,(wtake d g ⟨p,0⟩ (fun q k=>pfill d q fr k)).1⟩)
theorem DP.wtake {d:Disk} {s:Wk} {g:Geom} {F:Plan→Int→Plan×Int} (h:DP d s.q) (hF:∀q k,DP d q→DP d (F q k).1):DP d (wtake d g s F).2.q:=by
 have h1:DP d (zb4 d g s).2.q:=by
  unfold zb4;split
  ·exact h
  ·exact h.rtake g
 unfold Aw.wtake
 show DP d (if (zb4 d g s).2.e≠0 then _ else _:Wk).q
 split
 ·exact h1
 ·exact hF _ _ h1
theorem DP.wcount {d:Disk} {s:Wk} (h:DP d s.q) (k b:Int):DP d (wcount d s k b).q:=by
 unfold Aw.wcount;split
 ·exact h
 ·exact h.radd _ _
theorem DP.wset {d:Disk} {s:Wk} (h:DP d s.q) (t i:Int) (x:Ent2):DP d (wset d s t i x).q:=by
 unfold Aw.wset;split
 ·exact h
 ·exact h.eset _ _ _
theorem zoN {d:Disk} {p:Plan} {g:Geom} {l1 i fr:Int} (h:DP d p):(wnew d p g l1 i fr).2.e=(pfresh d p g l1 i fr).2.2∧((wnew d p g l1 i fr).2.e=0→(wnew d p g l1 i fr).2.q=(pfresh d p g l1 i fr).1∧(wnew d p g l1 i fr).1=(pfresh d p g l1 i fr).2.1)∧DP d (wnew d p g l1 i fr).2.q:=by
 refine ⟨?_,?_,?_⟩
 rotate_left
 rotate_left
 ·have hw:=DP.wtake (d:=d) (s:=⟨p,0⟩) (g:=g) (F:=fun q k=>pfill d q fr k) h (fun q k hq=>hq.pfill fr k)
  unfold wnew
  refine DP.wset ?_ _ _ _
  unfold wless;split
  ·exact hw
  ·exact hw.wcount _ _
 all_goals by_cases h1:(rtake d p g).2.2=0<;>by_cases h2:(pfill d (rtake d p g).1 fr (rtake d p g).2.1).2=0<;>by_cases h3:fr<0
 all_goals simp only [wnew,pfresh,wtake,zb4,wless,pless,wcount,wset,h1,h2,h3,ne_eq,not_true_eq_false,not_false_eq_true,if_true,if_false,ite_true,ite_false,implies_true,true_implies,and_self]
 all_goals clear h
 all_goals (repeat' split)<;>simp_all
def OwnR (d:Disk) (p:Plan) (g:Geom) (guest:Int) (r:AV) (ob:AObj):Prop:=
 ∃ (k:Int) (s:Wk),r= .d (.int .i64 k)∧ob= .var (wkP s.q g d s.e)∧s.e=(pown d p g guest).2.2∧(s.e=0→s.q=(pown d p g guest).1∧k=(pown d p g guest).2.1)∧DP d s.q
theorem zsR (g:Geom) (d:Disk) (p:Plan) (guest:Int) (h:DP d p) (hg:g.host≤1000000) (hgg:g.guest≤1000000):ACall Tryz.prog 137 20 [.vp 5 0,.d (.int .i64 guest)] [(5,.var (wkP p g d 0))] (fun r h'=>∃ob',h'= [(5,ob')]∧OwnR d p g guest r ob'):=by
 refine zO (fun i=>decide (i<20)) ?_
 refine bod Tryz.func137 Tryz.ntmps137 (fun base=>?_)
 by_cases hr:guest<0∨g.guest≤guest
 ·have hdec:(decide (guest<0)||decide (g.guest≤guest))=true:=by simpa using hr
  refine' zf hdec
  all_goals first|rfl|exact ⟨_,rfl,0,⟨p,10⟩,rfl,rfl,by rw [pown,if_pos hr],(fun e=>absurd e (show ¬(10:Int)=0 by decide)),h⟩
 have hdec:(decide (guest<0)||decide (g.guest≤guest))=false:=by simpa using hr
 have hw1:IntKind.i64.wrap (guest.tdiv 16)=guest / 16:=by
  rw [not_or] at hr
  rw [Int.tdiv_eq_ediv_of_nonneg (by omega)]
  exact zi (by omega) (by omega)
 refine' zf hdec
 obtain ⟨R,hR⟩:∃R,R=zk d p:=⟨_,rfl⟩
 refine (zgN (fl:=40) (q:=p) (g:=g) (d:=d) (e:=0) (K:=fun h'=>h'=hOw1 g d ⟨p,R.2⟩ R.1.l1 R.1.next) (zM rfl) (by omega) rfl ?_ (fun e=>absurd rfl e) ?_).mono ?_
 ·rintro h' rfl i hi
  revert hi
  simp only [hget]
  repeat' split
  all_goals simp
 ·intro he
  refine ((zr2 g d ⟨p,0⟩ h).whole (zM rfl) (by omega) (by
   rintro r h' ⟨_,rfl⟩ i hi
   revert hi
   simp only [hget]
   repeat' split
   all_goals simp)).mono ?_
  rintro r h' ⟨rfl,rfl⟩
  refine ⟨_,_,rfl,rfl,?_⟩
  rw [hR]
  rfl
 rintro r h' ⟨rfl,rfl⟩
 refine' zf hw1
 obtain ⟨X,hX⟩:∃X,X=wget d ⟨p,R.2⟩ R.1.l1 (guest / 16):=⟨_,rfl⟩
 have hXq:X.2.q=p:=by rw [hX];unfold wget;split<;>rfl
 refine ((zq9 g d ⟨p,R.2⟩ R.1.l1 (guest / 16) h).one (fl':=20) rfl rfl (zM rfl) rfl (by simp [AObj.ids,AV.idsL,AV.ids,wkP]) (by simp [AV.idsL,AV.ids]) (by omega)).mono ?_
 rintro r h' ⟨ob',⟨rfl,rfl⟩,rfl⟩
 rw [← hX,hXq]
 simp only [go_sem,aeq,aeq.aeqF,simprocAttr]
 have hpn:pown d p g guest=if R.2≠0 then (p,0,R.2) else pown2 d p g R.1.l1 (guest / 16):=by rw [pown,if_neg hr,hR]
 by_cases he:X.2.e=0
 ·have hR0:R.2=0:=by
   rcases Int.lt_trichotomy R.2 0 with hh|hh|hh
   ·rw [hX,wget,if_pos (show R.2≠0 by omega)] at he;exact he
   ·exact hh
   ·rw [hX,wget,if_pos (show R.2≠0 by omega)] at he;exact he
  have hXe:X=((eget d p R.1.l1 (guest / 16)).1,⟨p,(eget d p R.1.l1 (guest / 16)).2⟩):=by rw [hX,wget,if_neg (show ¬R.2≠0 by omega)]
  have he2:(eget d p R.1.l1 (guest / 16)).2=0:=by rw [hXe] at he;exact he
  obtain ⟨hx1,_⟩:=zfb he2
  have hk3:=(zbb hx1).1
  obtain ⟨x,hx⟩:∃x,x=(eget d p R.1.l1 (guest / 16)).1:=⟨_,rfl⟩
  have hX1:X.1=x:=by rw [hXe,hx]
  rw [← hx] at hk3 hx1
  rw [hX1,he]
  have hpn2:pown d p g guest=pown2 d p g R.1.l1 (guest / 16):=by rw [hpn,if_neg (by rw [hR0];decide)]
  have hp2:pown2 d p g R.1.l1 (guest / 16)=if x.kind=2 then (p,0,14) else if x.kind=0 then pfresh d p g R.1.l1 (guest / 16) (-1) else if (rget d p x.loc).2≠0 then (p,0,(rget d p x.loc).2) else if (rget d p x.loc).1≤1 then (p,x.loc,0) else pfresh d p g R.1.l1 (guest / 16) x.loc:=by
   rw [pown2,if_neg (by rw [he2];decide),← hx]
  rw [← hpn2] at hp2
  rcases hk3 with hk|hk|hk
  ·-- nothing there
   rw [if_neg (by omega),if_pos hk] at hp2
   refine' zf hk
   refine (zlT g d ⟨p,0⟩ ⟨0,x.loc⟩ R.1.l1 R.1.next 172 [.vp 20 0] (fun q k=>pfill d q (-1) k) (.inl rfl) h hg (fun s1 k hd=>by
    rw [show pfill d s1.q (-1) k=eblank s1.q k from if_pos (by decide)]
    exact zr0 g d s1 ⟨0,x.loc⟩ R.1.l1 R.1.next k hd)).whole (fl:=40) (fl':=20) (zM rfl) (by omega) ?_ |>.mono ?_
   ·rintro r h' ⟨_,rfl⟩ i hi
    revert hi
    simp only [hget]
    repeat' split
    all_goals simp
   rintro r h' ⟨rfl,rfl⟩
   refine' zf fx
   obtain ⟨W,hW⟩:∃W,W=wtake d g ⟨p,0⟩ (fun q k=>pfill d q (-1) k):=⟨_,rfl⟩
   have hDW:DP d W.2.q:=by rw [hW];exact DP.wtake h (fun q k hq=>hq.pfill _ _)
   refine ((zlR g d (wtake d g ⟨p,0⟩ (fun q k=>pfill d q (-1) k)).2 R.1.l1 (guest / 16) ⟨1,(wtake d g ⟨p,0⟩ (fun q k=>pfill d q (-1) k)).1⟩ (by rw [← hW];exact hDW)).one (fl':=20) rfl rfl (zM rfl) rfl (by simp [AObj.ids,AV.idsL,AV.ids,wkP]) (by simp [AV.idsL,AV.ids,entA]) (by omega)).mono ?_
   rintro r h' ⟨ob',⟨rfl,rfl⟩,rfl⟩
   simp only [go_sem,aeq,aeq.aeqF,simprocAttr]
   refine' zf fx
   all_goals first|rfl|skip
   have hn:=zoN (g:=g) (l1:=R.1.l1) (i:=guest / 16) (fr:= -1) h
   rw [← hp2] at hn
   exact ⟨_,rfl,(wnew d p g R.1.l1 (guest / 16) (-1)).1,(wnew d p g R.1.l1 (guest / 16) (-1)).2,rfl,rfl,hn⟩
  ·-- a table
   rw [if_neg (by omega),if_neg (by omega)] at hp2
   refine' zf hk
   refine ((zmX g d ⟨p,0⟩ x.loc h).one (fl':=20) rfl rfl (zM rfl) rfl (by simp [AObj.ids,AV.idsL,AV.ids,wkP]) (by simp [AV.idsL,AV.ids]) (by omega)).mono ?_
   rintro r h' ⟨ob',⟨rfl,rfl⟩,rfl⟩
   have hwc:zca d ⟨p,0⟩ x.loc=((rget d p x.loc).1,⟨p,(rget d p x.loc).2⟩):=by rw [zca,if_neg (by simp)]
   simp only [hwc]
   simp only [go_sem,aeq,aeq.aeqF,simprocAttr]
   obtain ⟨N,hN⟩:∃N,N=rget d p x.loc:=⟨_,rfl⟩
   rw [← hN] at hp2 ⊢
   by_cases hN1:N.1≤1
   ·have hb:decide (N.1≤1)=true:=by simpa using hN1
    simp only [hb]
    refine' zf fx
    all_goals first|rfl|skip
    refine ⟨_,rfl,x.loc,⟨p,N.2⟩,rfl,rfl,?_,?_,h⟩
    ·show N.2=_
     rw [hp2]
     by_cases hN2:N.2=0
     ·rw [if_neg (by omega),if_pos hN1,hN2]
     ·rw [if_pos hN2]
    ·intro (e:N.2=0)
     rw [hp2,if_neg (by omega),if_pos hN1]
     exact ⟨rfl,rfl⟩
   ·have hb:decide (N.1≤1)=false:=by simpa using hN1
    have hN2:N.2=0:=by
     rw [hN,rget] at hN1 ⊢
     split
     ·rename_i hh;rw [if_pos hh] at hN1;exact absurd (show (0:Int)≤1 by decide) hN1
     ·rename_i hh;rw [if_neg hh] at hN1
      split
      ·rename_i hh2;rw [if_pos hh2] at hN1;exact absurd (show (0:Int)≤1 by decide) hN1
      ·rfl
    rw [if_neg (by omega),if_neg hN1] at hp2
    simp only [hb,hN2]
    refine' ze2 (zbS 9) fx
    refine aw_le ⟨[(2,true,.vp 20 0),(5,true,.vp 21 0),(6,true,.d (.int .i64 (guest / 16))),(7,true,.vp 22 0)],hOwn g d ⟨p,0⟩ ⟨1,x.loc⟩ R.1.l1 R.1.next,some []⟩ (by simp only [AS.le,leT,leH,zh,AsgK,AV.le,AV.leL,AObj.le,inH,idsT,idsH,AV.ids,AV.idsL,AV.idsR,AObj.ids,lk,hget,go_sem,aeq,aeq.aeqF,simprocAttr,hOwn,wkP]) ?_
    refine' zf fx
    have hf0:¬x.loc<0:=by have:=(zbb hx1).2.1;omega
    refine (zlT g d ⟨p,0⟩ ⟨1,x.loc⟩ R.1.l1 R.1.next 175 [.vp 20 0,.vp 22 0] (fun q k=>pfill d q x.loc k) (.inr rfl) h hg (fun s1 k hd=>by
     rw [show pfill d s1.q x.loc k=ecopy d s1.q x.loc k from if_neg hf0]
     exact zr1 g d s1 ⟨1,x.loc⟩ R.1.l1 R.1.next k hd)).whole (fl:=40) (fl':=20) (zM rfl) (by omega) ?_ |>.mono ?_
    ·rintro r h' ⟨_,rfl⟩ i hi
     revert hi
     simp only [hget]
     repeat' split
     all_goals simp
    rintro r h' ⟨rfl,rfl⟩
    refine' zf fx
    obtain ⟨W,hW⟩:∃W,W=wtake d g ⟨p,0⟩ (fun q k=>pfill d q x.loc k):=⟨_,rfl⟩
    have hDW:DP d W.2.q:=by rw [hW];exact DP.wtake h (fun q k hq=>hq.pfill _ _)
    refine ((zlQ g d (wtake d g ⟨p,0⟩ (fun q k=>pfill d q x.loc k)).2 x.loc (-1) (by rw [← hW];exact hDW)).one (fl':=20) rfl rfl (zM rfl) rfl (by simp [AObj.ids,AV.idsL,AV.ids,wkP]) (by simp [AV.idsL,AV.ids]) (by omega)).mono ?_
    rintro r h' ⟨ob',⟨rfl,rfl⟩,rfl⟩
    simp only [go_sem,aeq,aeq.aeqF,simprocAttr]
    refine' zf fx
    refine ((zlR g d (wcount d (wtake d g ⟨p,0⟩ (fun q k=>pfill d q x.loc k)).2 x.loc (-1)) R.1.l1 (guest / 16) ⟨1,(wtake d g ⟨p,0⟩ (fun q k=>pfill d q x.loc k)).1⟩ (by rw [← hW];exact hDW.wcount _ _)).one (fl':=20) rfl rfl (zM rfl) rfl (by simp [AObj.ids,AV.idsL,AV.ids,wkP]) (by simp [AV.idsL,AV.ids,entA]) (by omega)).mono ?_
    rintro r h' ⟨ob',⟨rfl,rfl⟩,rfl⟩
    simp only [go_sem,aeq,aeq.aeqF,simprocAttr]
    refine' zf fx
    all_goals first|rfl|skip
    have hn:=zoN (g:=g) (l1:=R.1.l1) (i:=guest / 16) (fr:=x.loc) h
    rw [← hp2] at hn
    refine ⟨_,rfl,(wnew d p g R.1.l1 (guest / 16) x.loc).1,(wnew d p g R.1.l1 (guest / 16) x.loc).2,rfl,?_,hn⟩
    rw [wnew,wless,if_neg hf0]
    rfl
  ·rw [if_pos hk] at hp2
   refine' zf hk
   all_goals first|rfl|exact ⟨_,rfl,0,⟨p,14⟩,rfl,rfl,by rw [hp2],(fun e=>absurd e (show ¬(14:Int)=0 by decide)),h⟩
 ·have hb:(X.2.e !=0)=true:=by simpa using he
  refine' zf hb
  refine ⟨_,rfl,0,⟨p,X.2.e⟩,rfl,rfl,?_,(fun e=>absurd e he),h⟩
  show X.2.e=_
  rw [hpn,hX,wget]
  by_cases hR0:R.2=0
  ·rw [if_neg (show ¬R.2≠0 by omega),if_neg (show ¬R.2≠0 by omega),pown2]
   rw [hX,wget,if_neg (show ¬R.2≠0 by omega)] at he
   rw [if_pos he]
  ·rw [if_pos hR0,if_pos hR0]
open Go Go.Proofs
theorem DP.wget {d:Disk} {s:Wk} (h:DP d s.q) (t i:Int):DP d (wget d s t i).2.q:=by
 unfold Aw.wget;split<;>exact h
def zlU (d:Disk) (s:Wk) (y:Ent2):Wk:=if y.kind=1 then wcount d s y.loc (-1) else s
def zhP (d:Disk) (s:Wk) (k i:Int) (x:Ent2):Wk:=wset d (zlU d (wget d s k i).2 (wget d s k i).1) k i x
theorem zoO {d:Disk} {p q:Plan} {k i:Int} {x:Ent2} :(if (zhP d ⟨q,0⟩ k i x).e≠0 then (p,(zhP d ⟨q,0⟩ k i x).e) else ((zhP d ⟨q,0⟩ k i x).q,0))=zdR d p q k i x:=by
 by_cases h1:(eget d q k i).2=0<;>by_cases h2:(eget d q k i).1.kind=1
 all_goals simp only [zhP,zlU,wget,zdR,wcount,wset,h1,h2,ne_eq,not_true_eq_false,not_false_eq_true,if_true,if_false,ite_true,ite_false,implies_true,true_implies,and_self]
 all_goals (repeat' split)<;>simp_all
theorem zqz (d:Disk) (p:Plan) (g:Geom) (k:Int) (x:Ent2) (hp:DP d p∧g.host≤1000000∧g.guest≤1000000):AC 86 [diskA d,planA p,geomA g,.d (.int .i64 k),entA x] (.tup [planA (ppoint d p g k x).1,.d (.int .i64 (ppoint d p g k x).2)]):=by
 obtain ⟨h,hg,hgg⟩:=hp
 refine bod Tryz.func86 Tryz.ntmps86 (fun base=>?_)
 refine' zf fx
 refine ((zsR g d p k h hg hgg).one (fl':=0) rfl rfl (zM rfl) rfl (by simp [AObj.ids,AV.idsL,AV.ids,wkP]) (by simp [AV.idsL,AV.ids,entA]) (by omega)).mono ?_
 rintro r h' ⟨ob',⟨t,s,rfl,rfl,he,hs,hd⟩,rfl⟩
 have hpp:ppoint d p g k x=if s.e≠0 then (p,s.e) else zdR d p (pown d p g k).1 (pown d p g k).2.1 (k % 16) x:=by rw [ppoint,← he]
 simp only [go_sem,aeq,aeq.aeqF,simprocAttr]
 by_cases he0:s.e=0
 ·obtain ⟨hq,rfl⟩:=hs he0
  have hk0:0≤k∧k<g.guest:=by
   rw [he0] at he
   unfold pown at he
   by_cases hk:k<0∨g.guest≤k
   ·rw [if_pos hk] at he;cases he
   ·omega
  have hw2:k.tmod 16=k % 16:=Int.tmod_eq_emod_of_nonneg (by omega)
  rw [if_neg (by omega),← hq] at hpp
  obtain ⟨t,ht⟩:∃t,t=(pown d p g k).2.1:=⟨_,rfl⟩
  rw [← ht] at hpp ⊢
  simp only [he0]
  refine' zf hw2
  refine ((zq9 g d ⟨s.q,0⟩ t (k % 16) hd).one (fl':=0) rfl rfl (zM rfl) rfl (by simp [AObj.ids,AV.idsL,AV.ids,wkP]) (by simp [AV.idsL,AV.ids,entA]) (by omega)).mono ?_
  rintro r h' ⟨ob',⟨rfl,rfl⟩,rfl⟩
  simp only [go_sem,aeq,aeq.aeqF,simprocAttr]
  obtain ⟨G,hG⟩:∃G,G=wget d ⟨s.q,0⟩ t (k % 16):=⟨_,rfl⟩
  have hdG:DP d G.2.q:=by rw [hG];exact DP.wget (s:=⟨s.q,0⟩) hd _ _
  rw [← hG]
  have hfin:∀S,S=zhP d ⟨s.q,0⟩ t (k % 16) x→ppoint d p g k x=if S.e≠0 then (p,S.e) else (S.q,0):=fun S hS=>by rw [hpp,hS,zoO]
  rw [zhP,← hG] at hfin
  by_cases hk1:G.1.kind=1
  ·rw [zlU,if_pos hk1] at hfin
   refine' zf (zE hw2 hk1)
   refine ((zlQ g d G.2 G.1.loc (-1) hdG).one (fl':=0) rfl rfl (zM rfl) rfl (by simp [AObj.ids,AV.idsL,AV.ids,wkP]) (by simp [AV.idsL,AV.ids,entA]) (by omega)).mono ?_
   rintro r h' ⟨ob',⟨rfl,rfl⟩,rfl⟩
   simp only [go_sem,aeq,aeq.aeqF,simprocAttr]
   refine' zf hw2
   refine ((zlR g d (wcount d G.2 G.1.loc (-1)) t (k % 16) x (hdG.wcount _ _)).one (fl':=0) rfl rfl (zM rfl) rfl (by simp [AObj.ids,AV.idsL,AV.ids,wkP]) (by simp [AV.idsL,AV.ids,entA]) (by omega)).mono ?_
   rintro r h' ⟨ob',⟨rfl,rfl⟩,rfl⟩
   simp only [go_sem,aeq,aeq.aeqF,simprocAttr]
   obtain ⟨S,hS⟩:∃S,S=wset d (wcount d G.2 G.1.loc (-1)) t (k % 16) x:=⟨_,rfl⟩
   have hfin:=hfin S hS
   rw [← hS]
   by_cases hS0:S.e=0
   ·have hb:(S.e !=0)=false:=by simpa using hS0
    refine' zf hb
    all_goals rw [hfin,if_neg (by omega)]
   ·have hb:(S.e !=0)=true:=by simpa using hS0
    refine' zf hb
    all_goals rw [hfin,if_pos hS0]
  ·rw [zlU,if_neg hk1] at hfin
   have hk2:(G.1.kind==1)=false:=by simpa using hk1
   refine' zf (zE hw2 hk2)
   refine ((zlR g d G.2 t (k % 16) x hdG).one (fl':=0) rfl rfl (zM rfl) rfl (by simp [AObj.ids,AV.idsL,AV.ids,wkP]) (by simp [AV.idsL,AV.ids,entA]) (by omega)).mono ?_
   rintro r h' ⟨ob',⟨rfl,rfl⟩,rfl⟩
   simp only [go_sem,aeq,aeq.aeqF,simprocAttr]
   obtain ⟨S,hS⟩:∃S,S=wset d G.2 t (k % 16) x:=⟨_,rfl⟩
   have hfin:=hfin S hS
   rw [← hS]
   by_cases hS0:S.e=0
   ·have hb:(S.e !=0)=false:=by simpa using hS0
    refine' zf hb
    all_goals rw [hfin,if_neg (by omega)]
   ·have hb:(S.e !=0)=true:=by simpa using hS0
    refine' zf hb
    all_goals rw [hfin,if_pos hS0]
 ·have hb:(s.e !=0)=true:=by simpa using he0
  rw [if_pos he0] at hpp
  refine' zf hb
  rw [hpp]
@[go_sem] noncomputable def zK:Ent Tryz.prog 86:= .m5 zv zH zgD (intT .i64) zgE zqz
open Go Go.Proofs
structure Dmap where
 name:Txt
 inuse:Bool
 bits:List Bool
 deriving DecidableEq
def dmapD (m:Dmap):List D:= .str m.name:: .bool m.inuse::m.bits.map .bool
theorem zgF:∀ {a b:List Bool},a.map D.bool=b.map D.bool→a=b
 | [],[],_=>rfl
 | [],_::_,h=>by simp at h
 |_::_,[],h=>by simp at h
 |x::a,y::b,h=>by
  simp only [List.map_cons,List.cons.injEq,D.bool.injEq] at h
  rw [h.1,zgF h.2]
theorem zjA:∀a b,dmapD a=dmapD b→a=b:=by
 rintro ⟨n,u,b⟩ ⟨n',u',b'⟩ h
 simp only [dmapD,List.cons.injEq,D.str.injEq,D.bool.injEq] at h
 rw [h.1,h.2.1,zgF h.2.2]
structure Img where
 disk:Disk
 geom:Geom
 jour:Jour
 maps:List Dmap
 broken:Bool
 deriving DecidableEq
def imgA (x:Img):AV:= .agg [.d (.str x.disk.data),.d (.sl 2 (x.disk.cache.map putD)),.d (.int .i64 x.disk.fuse),.d (.bool x.disk.off),.d (.sl 1 (x.disk.bad.map intD)),.d (.int .i64 x.geom.guest),.d (.int .i64 x.geom.host),.d (.int .u64 x.jour.seq),.d (.int .i64 x.jour.pos),.d (.sl 66 (x.maps.map dmapD)),.d (.bool x.broken)]
attribute [go_sem] imgA
theorem zrQ (x:Img):Img.mk x.disk x.geom x.jour x.maps x.broken=x:=rfl
noncomputable def zhO:PT Img:=aggT (consL strT (consL (slT 2 putD zin) (consL (intT .i64) (consL boolT (consL (slT 1 intD zbP) (consL (intT .i64) (consL (intT .i64) (consL (intT .u64) (consL (intT .i64) (consL (slT 66 dmapD zjA) (consL boolT nilL))))))))))) (fun p=>⟨⟨p.1,p.2.1,p.2.2.1,p.2.2.2.1,p.2.2.2.2.1⟩,⟨p.2.2.2.2.2.1,p.2.2.2.2.2.2.1⟩,⟨p.2.2.2.2.2.2.2.1,p.2.2.2.2.2.2.2.2.1⟩,p.2.2.2.2.2.2.2.2.2.1,p.2.2.2.2.2.2.2.2.2.2.1⟩) (fun x=>(x.disk.data,x.disk.cache,x.disk.fuse,x.disk.off,x.disk.bad,x.geom.guest,x.geom.host,x.jour.seq,x.jour.pos,x.maps,x.broken,())) (fun _=>rfl)
attribute [go_sem] zhO
attribute [go_sem] zrQ
structure ImgOk (x:Img):Prop where
 disk:DiskOk x.disk
 maps:x.maps.length≤9223372036854775807
 names:∀m∈x.maps,m.name.length≤9223372036854775807
 bits:∀m∈x.maps,m.bits.length=64
def mfit (n0:Txt):Nat→List Dmap→Bool
 |_,[]=>true
 |i,m::r=>zgs m.name&&m.inuse&& !(decide (0<i)&&(n0==m.name))&&mfit n0 (i+1) r
def ifit (x:Img):Bool:=
 zek x.geom.guest x.geom.host&&dfit x.disk&&((dsize x.disk:Int)==zgt x.geom.guest x.geom.host)&&jfit x.jour&&decide (x.maps.length≤2)&&mfit (x.maps.head?.map (·.name) |>.getD []) 0 x.maps
theorem zos (x:Img) (h:ImgOk x):AC 20 [imgA x] (.d (.bool (ifit x))):=by
 refine fbod Tryz.func20 Tryz.ntmps20 (fun base=>?_)
 have h1:=h.disk
 have h2:=h.maps
 by_cases hc0:(!zek x.geom.guest x.geom.host|| !dfit x.disk||((dsize x.disk:Int) !=zgt x.geom.guest x.geom.host)|| !jfit x.jour||decide (2<(x.maps.length:Int)))=true
 ·refine' walkW hc0 (za zcW <| za zd4 <| za zaB <| za zd6 <| za zd9 <| za zcF <| zb _)
  have:ifit x=false:=by
   simp only [Bool.or_eq_true,Bool.not_eq_true',bne_iff_ne,decide_eq_true_eq] at hc0
   unfold ifit
   rcases hc0 with (((hh|hh)|hh)|hh)|hh
   ·rw [hh];simp
   ·rw [hh];simp
   ·rw [beq_eq_false_iff_ne.2 hh];simp
   ·rw [hh];simp
   ·rw [decide_eq_false (p:=x.maps.length≤2) (by omega)];simp
  rw [this]
 have hc0:(!zek x.geom.guest x.geom.host|| !dfit x.disk||((dsize x.disk:Int) !=zgt x.geom.guest x.geom.host)|| !jfit x.jour||decide (2<(x.maps.length:Int)))=false:=by simpa using hc0
 have hfit:ifit x=mfit (x.maps.head?.map (·.name) |>.getD []) 0 x.maps:=by
  simp only [Bool.or_eq_false_iff,Bool.not_eq_false',bne_eq_false_iff_eq,decide_eq_false_iff_not] at hc0
  rw [ifit,hc0.1.1.1.1,hc0.1.1.1.2,hc0.1.2,beq_iff_eq.2 hc0.1.1.2,decide_eq_true (p:=x.maps.length≤2) (by omega)]
  rfl
 refine' walkW hc0 (za zcW <| za zd4 <| za zaB <| za zd6 <| za zd9 <| za zcF <| zb _)
 obtain ⟨N0,hN0⟩:∃N0,N0=(x.maps.head?.map (·.name) |>.getD []):=⟨_,rfl⟩
 rw [← hN0] at hfit
 refine zC (fun q: { i:Nat // i≤x.maps.length∧ifit x=mfit N0 i (x.maps.drop i) } =>⟨[(1,true,.vp 0 0),(3,true,.d (.int .i64 q.1))],[(0,.var [.d (.str x.disk.data),.d (.sl 2 (x.disk.cache.map putD)),.d (.int .i64 x.disk.fuse),.d (.bool x.disk.off),.d (.sl 1 (x.disk.bad.map intD)),.d (.int .i64 x.geom.guest),.d (.int .i64 x.geom.host),.d (.int .u64 x.jour.seq),.d (.int .i64 x.jour.pos),.d (.sl 66 (x.maps.map dmapD)),.d (.bool x.broken)])],some []⟩) (fun q=>x.maps.length - q.1) ⟨0,Nat.zero_le _,hfit⟩ le1 (fun q=>?_)
 obtain ⟨i,hi,hf⟩:=q
 simp only at hi hf ⊢
 rcases zas dmapD x.maps i hi with ⟨m,hq,hlt,hcmp,hrow,hdr,htk⟩|⟨hend,hcmp⟩
 ·obtain ⟨m0,hq0⟩:=zaP (l:=x.maps) (i:=0) (by omega)
  have hrow0:=zcD (g:=dmapD) hq0
  simp only [dmapD] at hrow hrow0
  have hpos:decide ((0:Int)<(x.maps.length:Int))=true:=decide_eq_true (by omega)
  have hwi:=zG (i:=i) (by omega)
  have hnl:=h.names m (List.mem_of_getElem? hq)
  have hN:N0=m0.name:=by rw [hN0,List.head?_eq_getElem?,hq0];rfl
  rw [hdr,mfit,hN] at hf
  have hall:(!zgs m.name|| !m.inuse||(decide ((0:Int)<(i:Int))&&(m0.name==m.name)))= !(zgs m.name&&m.inuse&& !(decide (0<i)&&(m0.name==m.name))):=by
   rw [Bool.not_and,Bool.not_and,Bool.not_not,show decide ((0:Int)<(i:Int))=decide (0<i) from zsC]
  refine' walkW (zdA hcmp hrow hrow0 hpos natC) (za zcW <| za zd4 <| za zaB <| za zd6 <| za zd9 <| za zcF <| zb _)
  ·rename_i hg0
   rw [hg0,hc];rfl
  ·rw [hall] at hc
   simp only [Bool.not_eq_true'] at hc
   rw [hf,hc,Bool.false_and]
  ·rw [hall] at hc
   simp only [Bool.not_eq_false'] at hc
   rw [hc,Bool.true_and,← hN] at hf
   exact ⟨⟨i+1,by omega,hf⟩,lew,by simp;omega⟩
 ·refine' walkW hcmp (za zcW <| za zd4 <| za zaB <| za zd6 <| za zd9 <| za zcF <| zb _)
  rw [hf,hend,List.drop_length]
  rfl
@[go_sem] noncomputable def zaG:Ent Tryz.prog 20:= .m1 zhO zos
open Go Go.Proofs
end Go.Aw
