/-
 Points, the program's: the worker's steps.
-/
import Derived.Test.YtgkjmbopnaeanaaGreatPart21
import Derived.Test.YtgkjmbopnaeanaaGreatPart24
import Derived.Test.YtgkjmbopnaeanaaGreatPart25
set_option maxRecDepth 100000
set_option maxHeartbeats 2000000
set_option linter.unusedSimpArgs false
set_option linter.unusedVariables false
namespace Go.Aw
open Go Go.Proofs
def wkP (q:Plan) (g:Geom) (d:Disk) (e:Int):List AV:= [.d (.sl 1 (q.targets.map intD)),.d (.sl 1 (q.texts.map strD)),.d (.int .i64 g.guest),.d (.int .i64 g.host),.d (.str d.data),.d (.sl 2 (d.cache.map putD)),.d (.int .i64 d.fuse),.d (.bool d.off),.d (.sl 1 (d.bad.map intD)),.d (.int .i64 e)]
attribute [go_sem] wkP
theorem zix {fl fl':Nat} {f:FuncId} {caps:List AV} {h:AHeap} {K:AHeap→Prop} {q:Plan} {g:Geom} {d:Disk} {e:Int} (hfl:∀i,(hget h i).isSome→i<fl) (hle:fl'≤fl) (hw:hget h 5=some (.var (wkP q g d e)))
  (hk:∀h',K h'→∀i,(hget h i).isSome→(hget h' i).isSome)
  (h1:e≠0→K h)
  (h2:e=0→ACallAt Tryz.prog fl f caps h (fun r h'=>∃q' e',r= .tup [planA q',.d (.int .i64 e')]∧hget h' 5=some (.var (wkP q g d e))∧K (hset h' 5 (.var (wkP q' g d e'))))):
  ACallAt Tryz.prog fl' 225 [.vp 5 0,.fn (.func f) [] caps] h (fun r h'=>r= .tup []∧K h'):=by
 refine ACall.whole (fl:=fl) ?_ hfl hle (fun r h' hr=>hk h' hr.2)
 refine bod Tryz.func225 Tryz.ntmps225 (fun base=>?_)
 cases he:(e==0) with
 |false=>
  have he':e≠0:=by simpa using he
  simp only [wkP] at hw
  refine' zc (zk hw he)
  exact h1 he'
 |true=>
  have he':e=0:=by simpa using he
  have h2:=h2 he'
  simp only [wkP] at hw
  refine' zc (zk hw he)
  refine h2.mono ?_
  rintro r h' ⟨q',e',rfl,hw',hK⟩
  simp only [wkP] at hw'
  have hs1:∀o,hget (hset h' 5 o) 5=some o:=fun o=>zg hw'
  have hs2:∀a b,hset (hset h' 5 a) 5 b=hset h' 5 b:=fun a b=>zgX h' 5 a b
  simp only [go_sem,hw',hs1,hs2]
  refine' zc (zr hw' hs1 hs2)
structure Wk where
 q:Plan
 e:Int
def wcount (d:Disk) (s:Wk) (k by_:Int):Wk:=if s.e≠0 then s else ⟨(radd d s.q k by_).1,(radd d s.q k by_).2⟩
def wset (d:Disk) (s:Wk) (t i:Int) (x:Ent2):Wk:=if s.e≠0 then s else ⟨(eset d s.q t i x).1,(eset d s.q t i x).2⟩
def wget (d:Disk) (s:Wk) (t i:Int):Ent2×Wk:=if s.e≠0 then (⟨0,0⟩,s) else ((eget d s.q t i).1,⟨s.q,(eget d s.q t i).2⟩)
def zdv (d:Disk) (s:Wk) (k:Int):Int×Wk:=if s.e≠0 then (0,s) else ((rget d s.q k).1,⟨s.q,(rget d s.q k).2⟩)
@[go_sem] abbrev zpg (g:Geom) (d:Disk) (s:Wk) (k by_:Int):AHeap:= [(42,.var [.d (.int .i64 by_)]),(41,.var [.d (.int .i64 k)]),(40,.var [.vp 5 0]),(5,.var (wkP s.q g d s.e))]
theorem zsJ (g:Geom) (d:Disk) (s:Wk) (k by_:Int) (h:DP d s.q):ACall Tryz.prog 234 80 [.vp 40 0,.vp 41 0,.vp 42 0] (zpg g d s k by_) (fun r h'=>r= .tup [planA (radd d s.q k by_).1,.d (.int .i64 (radd d s.q k by_).2)]∧h'=zpg g d s k by_):=by
 refine zQ (fun i=>decide (i<80)) ?_
 refine bod Tryz.func234 Tryz.ntmps234 (fun base=>?_)
 refine' walkW fx (za zbw <| za zde <| za zcd <| za zp <| za zL <| za zj <| za zbN <| za zcw <| zb _)
theorem zph (g:Geom) (d:Disk) (s:Wk) (k by_:Int) (h:DP d s.q):ACall Tryz.prog 199 40 [.vp 5 0,.d (.int .i64 k),.d (.int .i64 by_)] [(5,.var (wkP s.q g d s.e))] (fun r h'=>∃ob',h'= [(5,ob')]∧r= .tup []∧ob'= .var (wkP (wcount d s k by_).q g d (wcount d s k by_).e)):=by
 refine zQ (fun i=>decide (i<40)) ?_
 refine bod Tryz.func199 Tryz.ntmps199 (fun base=>?_)
 refine' zc fx
 refine (zix (fl:=60) (K:=fun h'=>(s.e≠0∧h'=zpg g d s k by_)∨(s.e=0∧h'=hset (zpg g d s k by_) 5 (.var (wkP (radd d s.q k by_).1 g d (radd d s.q k by_).2)))) (z2 rfl) (by omega) rfl ?_ ?_ ?_).mono ?_
 ·rintro h' (⟨_,rfl⟩|⟨_,rfl⟩) i hi
  ·exact hi
  ·rw [zaN (by rfl)]
   revert hi
   simp only [hget]
   repeat' split
   all_goals simp
 ·intro he;exact .inl ⟨he,rfl⟩
 ·intro he
  refine ((zsJ g d s k by_ h).whole (z2 rfl) (by omega) (by
   rintro r h' ⟨_,rfl⟩ i hi
   revert hi
   simp only [hget]
   repeat' split
   all_goals simp)).mono ?_
  rintro r h' ⟨rfl,rfl⟩
  exact ⟨_,_,rfl,rfl,.inr ⟨he,rfl⟩⟩
 ·rintro r h' ⟨rfl,(⟨he,rfl⟩|⟨he,rfl⟩)⟩
  ·have hm:wcount d s k by_=s:=by rw [wcount,if_pos he]
   rw [hm]
   refine' zc fx
   all_goals first|rfl|exact ⟨_,rfl,rfl⟩|exact ⟨_,rfl,by rw [hm]⟩|skip
  ·have hm:wcount d s k by_=⟨(radd d s.q k by_).1,(radd d s.q k by_).2⟩:=by rw [wcount,if_neg (by rw [he];decide)]
   rw [hm]
   refine' zc fx
   all_goals first|rfl|exact ⟨_,rfl,rfl⟩|exact ⟨_,rfl,by rw [hm]⟩|skip
@[go_sem] abbrev hSet (g:Geom) (d:Disk) (s:Wk) (t i:Int) (x:Ent2):AHeap:= [(43,.var [.d (.int .i64 x.kind),.d (.int .i64 x.loc)]),(42,.var [.d (.int .i64 i)]),(41,.var [.d (.int .i64 t)]),(40,.var [.vp 5 0]),(5,.var (wkP s.q g d s.e))]
theorem zwH (g:Geom) (d:Disk) (s:Wk) (t i:Int) (x:Ent2) (h:DP d s.q):ACall Tryz.prog 235 80 [.vp 40 0,.vp 41 0,.vp 42 0,.vp 43 0] (hSet g d s t i x) (fun r h'=>r= .tup [planA (eset d s.q t i x).1,.d (.int .i64 (eset d s.q t i x).2)]∧h'=hSet g d s t i x):=by
 refine zQ (fun i=>decide (i<80)) ?_
 refine bod Tryz.func235 Tryz.ntmps235 (fun base=>?_)
 refine' walkW fx (za zbw <| za zde <| za zcd <| za zp <| za zL <| za zj <| za zbN <| za zcw <| zb _)
theorem zpi (g:Geom) (d:Disk) (s:Wk) (t i:Int) (x:Ent2) (h:DP d s.q):ACall Tryz.prog 200 40 [.vp 5 0,.d (.int .i64 t),.d (.int .i64 i),entA x] [(5,.var (wkP s.q g d s.e))] (fun r h'=>∃ob',h'= [(5,ob')]∧r= .tup []∧ob'= .var (wkP (wset d s t i x).q g d (wset d s t i x).e)):=by
 refine zQ (fun i=>decide (i<40)) ?_
 refine bod Tryz.func200 Tryz.ntmps200 (fun base=>?_)
 refine' zc fx
 refine (zix (fl:=60) (K:=fun h'=>(s.e≠0∧h'=hSet g d s t i x)∨(s.e=0∧h'=hset (hSet g d s t i x) 5 (.var (wkP (eset d s.q t i x).1 g d (eset d s.q t i x).2)))) (z2 rfl) (by omega) rfl ?_ ?_ ?_).mono ?_
 ·rintro h' (⟨_,rfl⟩|⟨_,rfl⟩) i hi
  ·exact hi
  ·rw [zaN (by rfl)]
   revert hi
   simp only [hget]
   repeat' split
   all_goals simp
 ·intro he;exact .inl ⟨he,rfl⟩
 ·intro he
  refine ((zwH g d s t i x h).whole (z2 rfl) (by omega) (by
   rintro r h' ⟨_,rfl⟩ i hi
   revert hi
   simp only [hget]
   repeat' split
   all_goals simp)).mono ?_
  rintro r h' ⟨rfl,rfl⟩
  exact ⟨_,_,rfl,rfl,.inr ⟨he,rfl⟩⟩
 ·rintro r h' ⟨rfl,(⟨he,rfl⟩|⟨he,rfl⟩)⟩
  ·have hm:wset d s t i x=s:=by rw [wset,if_pos he]
   rw [hm]
   refine' zc fx
   all_goals first|rfl|exact ⟨_,rfl,rfl⟩|exact ⟨_,rfl,by rw [hm]⟩|skip
  ·have hm:wset d s t i x=⟨(eset d s.q t i x).1,(eset d s.q t i x).2⟩:=by rw [wset,if_neg (by rw [he];decide)]
   rw [hm]
   refine' zc fx
   all_goals first|rfl|exact ⟨_,rfl,rfl⟩|exact ⟨_,rfl,by rw [hm]⟩|skip
@[go_sem] abbrev hGet (g:Geom) (d:Disk) (s:Wk) (t i:Int):AHeap:= [(43,.var [.d (.int .i64 0),.d (.int .i64 0)]),(42,.var [.d (.int .i64 i)]),(41,.var [.d (.int .i64 t)]),(40,.var [.vp 5 0]),(5,.var (wkP s.q g d s.e))]
@[go_sem] abbrev hGet2 (g:Geom) (d:Disk) (s:Wk) (t i:Int):AHeap:= [(43,.var [.d (.int .i64 (eget d s.q t i).1.kind),.d (.int .i64 (eget d s.q t i).1.loc)]),(42,.var [.d (.int .i64 i)]),(41,.var [.d (.int .i64 t)]),(40,.var [.vp 5 0]),(5,.var (wkP s.q g d s.e))]
theorem zwI (g:Geom) (d:Disk) (s:Wk) (t i:Int) (h:DP d s.q):ACall Tryz.prog 233 80 [.vp 40 0,.vp 41 0,.vp 42 0,.vp 43 0] (hGet g d s t i) (fun r h'=>r= .tup [planA s.q,.d (.int .i64 (eget d s.q t i).2)]∧h'=hGet2 g d s t i):=by
 refine zQ (fun i=>decide (i<80)) ?_
 refine bod Tryz.func233 Tryz.ntmps233 (fun base=>?_)
 refine' walkW fx (za zbw <| za zde <| za zcd <| za zp <| za zL <| za zj <| za zbN <| za zcw <| zb _)
theorem zvL (g:Geom) (d:Disk) (s:Wk) (t i:Int) (h:DP d s.q):ACall Tryz.prog 198 40 [.vp 5 0,.d (.int .i64 t),.d (.int .i64 i)] [(5,.var (wkP s.q g d s.e))] (fun r h'=>∃ob',h'= [(5,ob')]∧r=entA (wget d s t i).1∧ob'= .var (wkP ((wget d s t i).2).q g d ((wget d s t i).2).e)):=by
 refine zQ (fun i=>decide (i<40)) ?_
 refine bod Tryz.func198 Tryz.ntmps198 (fun base=>?_)
 refine' zc fx
 refine (zix (fl:=60) (K:=fun h'=>(s.e≠0∧h'=hGet g d s t i)∨(s.e=0∧h'=hset (hGet2 g d s t i) 5 (.var (wkP s.q g d (eget d s.q t i).2)))) (z2 rfl) (by omega) rfl ?_ ?_ ?_).mono ?_
 ·rintro h' (⟨_,rfl⟩|⟨_,rfl⟩) i hi
  ·exact hi
  ·rw [zaN (by rfl)]
   revert hi
   simp only [hget]
   repeat' split
   all_goals simp
 ·intro he;exact .inl ⟨he,rfl⟩
 ·intro he
  refine ((zwI g d s t i h).whole (z2 rfl) (by omega) (by
   rintro r h' ⟨_,rfl⟩ i hi
   revert hi
   simp only [hget]
   repeat' split
   all_goals simp)).mono ?_
  rintro r h' ⟨rfl,rfl⟩
  exact ⟨_,_,rfl,rfl,.inr ⟨he,rfl⟩⟩
 ·rintro r h' ⟨rfl,(⟨he,rfl⟩|⟨he,rfl⟩)⟩
  ·have hm:wget d s t i=(⟨0,0⟩,s):=by rw [wget,if_pos he]
   refine' zc hm
   all_goals first|rfl|exact ⟨_,rfl,rfl⟩|exact ⟨_,rfl,by rw [hm]⟩|skip
  ·have hm:wget d s t i=((eget d s.q t i).1,⟨s.q,(eget d s.q t i).2⟩):=by rw [wget,if_neg (by rw [he];decide)]
   refine' zc hm
   all_goals first|rfl|exact ⟨_,rfl,rfl⟩|exact ⟨_,rfl,by rw [hm]⟩|skip
@[go_sem] abbrev zpj (g:Geom) (d:Disk) (s:Wk) (k:Int):AHeap:= [(42,.var [.d (.int .i64 0)]),(41,.var [.d (.int .i64 k)]),(40,.var [.vp 5 0]),(5,.var (wkP s.q g d s.e))]
@[go_sem] abbrev zl1 (g:Geom) (d:Disk) (s:Wk) (k:Int):AHeap:= [(42,.var [.d (.int .i64 (rget d s.q k).1)]),(41,.var [.d (.int .i64 k)]),(40,.var [.vp 5 0]),(5,.var (wkP s.q g d s.e))]
theorem znQ (g:Geom) (d:Disk) (s:Wk) (k:Int) (h:DP d s.q):ACall Tryz.prog 260 80 [.vp 40 0,.vp 41 0,.vp 42 0] (zpj g d s k) (fun r h'=>r= .tup [planA s.q,.d (.int .i64 (rget d s.q k).2)]∧h'=zl1 g d s k):=by
 refine zQ (fun i=>decide (i<80)) ?_
 refine bod Tryz.func260 Tryz.ntmps260 (fun base=>?_)
 refine' walkW fx (za zbw <| za zde <| za zcd <| za zp <| za zL <| za zj <| za zbN <| za zcw <| zb _)
theorem zqB (g:Geom) (d:Disk) (s:Wk) (k:Int) (h:DP d s.q):ACall Tryz.prog 230 40 [.vp 5 0,.d (.int .i64 k)] [(5,.var (wkP s.q g d s.e))] (fun r h'=>∃ob',h'= [(5,ob')]∧r= .d (.int .i64 (zdv d s k).1)∧ob'= .var (wkP ((zdv d s k).2).q g d ((zdv d s k).2).e)):=by
 refine zQ (fun i=>decide (i<40)) ?_
 refine bod Tryz.func230 Tryz.ntmps230 (fun base=>?_)
 refine' zc fx
 refine (zix (fl:=60) (K:=fun h'=>(s.e≠0∧h'=zpj g d s k)∨(s.e=0∧h'=hset (zl1 g d s k) 5 (.var (wkP s.q g d (rget d s.q k).2)))) (z2 rfl) (by omega) rfl ?_ ?_ ?_).mono ?_
 ·rintro h' (⟨_,rfl⟩|⟨_,rfl⟩) i hi
  ·exact hi
  ·rw [zaN (by rfl)]
   revert hi
   simp only [hget]
   repeat' split
   all_goals simp
 ·intro he;exact .inl ⟨he,rfl⟩
 ·intro he
  refine ((znQ g d s k h).whole (z2 rfl) (by omega) (by
   rintro r h' ⟨_,rfl⟩ i hi
   revert hi
   simp only [hget]
   repeat' split
   all_goals simp)).mono ?_
  rintro r h' ⟨rfl,rfl⟩
  exact ⟨_,_,rfl,rfl,.inr ⟨he,rfl⟩⟩
 ·rintro r h' ⟨rfl,(⟨he,rfl⟩|⟨he,rfl⟩)⟩
  ·have hm:zdv d s k=(0,s):=by rw [zdv,if_pos he]
   refine' zc hm
   all_goals first|rfl|exact ⟨_,rfl,rfl⟩|exact ⟨_,rfl,by rw [hm]⟩|skip
  ·have hm:zdv d s k=((rget d s.q k).1,⟨s.q,(rget d s.q k).2⟩):=by rw [zdv,if_neg (by rw [he];decide)]
   refine' zc hm
   all_goals first|rfl|exact ⟨_,rfl,rfl⟩|exact ⟨_,rfl,by rw [hm]⟩|skip
end Go.Aw
