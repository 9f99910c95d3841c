/-
  Parts of the proof: AwEnt, AwDraw7, AwDraw8, AwLin, AwOne, AwScope, AwSt, AwRng, AwRangeS, AwPeek, AwConv, Ty, Shelf, LibS, OnceA (short names; the readable texts lie in the repo, under wip).
-/
import Derived.Test.YtglmbboafmmnpaaGreatDoorPart2
import Derived.Test.YtglmbboafmmnpaaGreatDoorPart3
import Derived.ScopeJumps
import Derived.KernelRfl
import Derived.Test.YtglmbboafmmnpaaGreatDoorProg
import Derived.Shelf.Strings.Prefix
import Derived.Shelf.Strings.Repeat
import Derived.WalkKit
import Derived.Tactics
import Derived.Tactics2
import Derived.Defers
import Derived.Laws.Pointers
import Derived.Laws.LoneSync
import Derived.RegionTactic
import Derived.RegionCalls
import Derived.ChangeAlike
set_option maxRecDepth 100000
set_option maxHeartbeats 2000000
set_option linter.unusedSimpArgs false
set_option linter.unusedVariables false
namespace Go.Aw
open Go
structure Ent (P:Program) (f:FuncId) where
 e:List AV→Option (Prop×AV)
 ok:∀args pre r,e args=some (pre,r)→pre→r.ids= []∧ACall P f 0 args [] (fun r' _=>r'=r)
section
variable {P : Program}
open Classical in
noncomputable def Ent.of {X:Type} (f:FuncId) (A:X→List AV) (pre:X→Prop) (r:X→AV) (ok:∀x,pre x→(r x).ids= []∧ACall P f 0 (A x) [] (fun r' _=>r'=r x)):Ent P f where
 e:=fun args=>if h:∃x,A x=args then some (pre h.choose,r h.choose) else none
 ok:=fun args p q h hp=>by
  split at h
  ·rename_i hx
   simp only [Option.some.injEq,Prod.mk.injEq] at h
   obtain ⟨rfl,rfl⟩:=h
   have h2:=ok hx.choose hp
   rw [hx.choose_spec] at h2
   exact h2
  ·cases h
theorem Ent.of_app {X:Type} {f:FuncId} {A:X→List AV} {pre:X→Prop} {r:X→AV} {ok:∀x,pre x→(r x).ids= []∧ACall P f 0 (A x) [] (fun r' _=>r'=r x)} (inj:∀x y,A x=A y→x=y) (x:X):(Ent.of f A pre r ok).e (A x)=some (pre x,r x):=by
 have hx:∃y,A y=A x:=⟨x,rfl⟩
 have h:=inj _ _ hx.choose_spec
 unfold Ent.of
 simp only [dif_pos hx,h]
def tadd {f:FuncId} (e:Ent P f) (t:Tab):Tab:=fun g args=>if g=f then e.e args else t g args
theorem za {f:FuncId} {t:Tab} (e:Ent P f) (h:TabOk P t):TabOk P (tadd e t):=⟨fun g args pre r hr hp=>by
 unfold tadd at hr
 split at hr
 ·rename_i hf;subst hf;exact e.ok _ _ _ hr hp
 ·exact h.ok _ _ _ _ hr hp⟩
@[go_sem] theorem tadd_hit {f:FuncId} (e:Ent P f) (t:Tab) (args:List AV):tadd e t f args=e.e args:=if_pos rfl
@[go_sem] theorem zuL {f:FuncId} (e:Ent P f) (t:Tab) (g:FuncId) (args:List AV):tadd e t g args=if g=f then e.e args else t g args:=rfl
end
structure PT (α:Type) where
 un:AV→Option α
 wr:α→AV
 ok:∀a x,un a=some x→a.le (wr x)
structure PTL (α:Type) where
 un:List AV→Option α
 wr:α→List AV
 ok:∀a x,un a=some x→AV.leL a (wr x)
mutual
theorem AV.le_refl:∀a:AV,a.le a
 | .d _=>by simp only [AV.le]
 | .agg cs=>by simp only [AV.le];exact AV.leL_refl cs
 | .tup cs=>by simp only [AV.le];exact AV.leL_refl cs
 | .nils _=>by simp only [AV.le]
 | .dp cs=>by simp only [AV.le];exact AV.leL_refl cs
 | .vp _ _=>by simp only [AV.le,and_self]
 | .ap _ _ _ _ _=>by simp only [AV.le,and_self]
 | .osl _ _ _ _ _=>by simp only [AV.le,and_self]
 | .vsl _ _ _ _=>by simp only [AV.le,and_self]
 | .asl _ _=>by simp only [AV.le,and_self]
 | .fn _ xs ys=>by simp only [AV.le,true_and];exact ⟨AV.leL_refl xs,AV.leL_refl ys⟩
 | .nilfn=>by simp only [AV.le]
 | .any=>by simp only [AV.le]
 | .map _=>by simp only [AV.le]
 | .nilmap=>by simp only [AV.le]
 | .raw _=>by simp only [AV.le]
 | .tp _ _=>by simp only [AV.le,and_self]
 | .bsl _ _=>by simp only [AV.le,and_self]
 | .itr _=>by simp only [AV.le]
 | .iface _ v=>by simp only [AV.le,true_and];exact AV.le_refl v
theorem AV.leL_refl:∀aZ:List AV,AV.leL aZ aZ
 | []=>by simp only [AV.leL]
 |a::aZ=>by simp only [AV.leL];exact ⟨AV.le_refl a,AV.leL_refl aZ⟩
end
open Classical in
noncomputable def zc6 (c:AV):PT Unit where
 un:=fun a=>if a=c then some () else none
 wr:=fun _=>c
 ok:=fun a x h=>by
  split at h
  ·rename_i e;subst e;exact AV.le_refl _
  ·cases h
@[go_sem] theorem zuM (c:AV):(zc6 c).un c=some ():=by unfold zc6;exact if_pos rfl
open Classical in
noncomputable def intT (k:IntKind):PT Int where
 un:=fun a=>match a with| .d (.int k' n)=>if k'=k then some n else none|_=>none
 wr:=fun n=> .d (.int k n)
 ok:=fun a x h=>by
  split at h
  ·split at h
   ·rename_i e;subst e;cases h;simp only [AV.le]
   ·cases h
  ·cases h
@[go_sem] theorem intT_un (k:IntKind) (n:Int):(intT k).un (.d (.int k n))=some n:=if_pos rfl
def strT:PT (List UInt8) where
 un:=fun a=>match a with| .d (.str l)=>some l|_=>none
 wr:=fun n=> .d (.str n)
 ok:=fun a x h=>by
  split at h
  ·cases h;simp only [AV.le]
  ·cases h
@[go_sem] theorem strT_un (l:List UInt8):strT.un (.d (.str l))=some l:=rfl
def boolT:PT Bool where
 un:=fun a=>match a with| .d (.bool l)=>some l|_=>none
 wr:=fun n=> .d (.bool n)
 ok:=fun a x h=>by
  split at h
  ·cases h;simp only [AV.le]
  ·cases h
@[go_sem] theorem boolT_un (l:Bool):boolT.un (.d (.bool l))=some l:=rfl
open Classical in
noncomputable def slT {α:Type} (k:Nat) (g:α→List D) (hg:∀a b,g a=g b→a=b):PT (List α) where
 un:=fun a=>match a with
  | .d (.sl k' rows)=>if h:k'=k∧∃l:List α,rows=l.map g then some h.2.choose else none
  | .nils _=>some []
  |_=>none
 wr:=fun l=> .d (.sl k (l.map g))
 ok :=fun a x h=>by
  split at h
  ·split at h
   ·rename_i e
    cases h
    obtain ⟨rfl,e⟩:=e
    simp only [AV.le,D.sl.injEq,true_and]
    exact e.choose_spec
   ·cases h
  ·cases h;simp only [AV.le,List.map_nil]
  ·cases h
theorem zm2 {α:Type} {g:α→List D} (hg:∀a b,g a=g b→a=b):∀ {l m:List α},l.map g=m.map g→l=m
 | [],[],_=>rfl
 | [],_::_,h=>by simp at h
 |_::_,[],h=>by simp at h
 |a::l,b::m,h=>by
  simp only [List.map_cons,List.cons.injEq] at h
  rw [hg _ _ h.1,zm2 hg h.2]
@[go_sem] theorem zuN {α:Type} (k:Nat) (g:α→List D) (hg:∀a b,g a=g b→a=b) (l:List α):(slT k g hg).un (.d (.sl k (l.map g)))=some l:=by
 have hx:k=k∧∃m:List α,l.map g=m.map g:=⟨rfl,l,rfl⟩
 unfold slT
 simp only [dif_pos hx]
 rw [zm2 hg hx.2.choose_spec.symm]
@[go_sem] theorem slT_nil {α:Type} (k:Nat) (g:α→List D) (hg:∀a b,g a=g b→a=b):(slT k g hg).un (.d (.sl k []))=some []:=zuN k g hg []
@[go_sem] theorem slT_nils {α:Type} (k j:Nat) (g:α→List D) (hg:∀a b,g a=g b→a=b):(slT k g hg).un (.nils j)=some []:=rfl
def nilL:PTL Unit where
 un:=fun a=>match a with| []=>some ()|_=>none
 wr:=fun _=> []
 ok:=fun a x h=>by
  split at h
  ·simp only [AV.leL]
  ·cases h
@[go_sem] theorem nilL_un:nilL.un []=some ():=rfl
def consL {α β:Type} (t:PT α) (ts:PTL β):PTL (α×β) where
 un:=fun a=>match a with|x::r=>(t.un x).bind fun y=>(ts.un r).map fun z=>(y,z)|_=>none
 wr:=fun p=>t.wr p.1::ts.wr p.2
 ok:=fun a x h=>by
  split at h
  ·obtain ⟨y,h1,h2⟩:=Option.bind_eq_some_iff.1 h
   obtain ⟨z,h3,h4⟩:=Option.map_eq_some_iff.1 h2
   subst h4
   exact ⟨t.ok _ _ h1,ts.ok _ _ h3⟩
  ·cases h
@[go_sem] theorem consL_un {α β:Type} (t:PT α) (ts:PTL β) (a:AV) (r:List AV):(consL t ts).un (a::r)=(t.un a).bind fun y=>(ts.un r).map fun z=>(y,z):=rfl
def aggT {α β:Type} (ts:PTL β) (f:β→α) (g:α→β) (hfg:∀y,g (f y)=y):PT α where
 un:=fun a=>match a with| .agg cs=>(ts.un cs).map f|_=>none
 wr:=fun x=> .agg (ts.wr (g x))
 ok:=fun a x h=>by
  split at h
  ·obtain ⟨y,h1,h2⟩:=Option.map_eq_some_iff.1 h
   subst h2
   simp only [AV.le,hfg]
   exact ts.ok _ _ h1
  ·cases h
@[go_sem] theorem aggT_un {α β:Type} (ts:PTL β) (f:β→α) (g:α→β) (hfg:∀y,g (f y)=y) (cs:List AV):(aggT ts f g hfg).un (.agg cs)=(ts.un cs).map f:=rfl
def dpT {α β:Type} (ts:PTL β) (f:β→α) (g:α→β) (hfg:∀y,g (f y)=y):PT α where
 un:=fun a=>match a with| .dp cs=>(ts.un cs).map f|_=>none
 wr:=fun x=> .dp (ts.wr (g x))
 ok:=fun a x h=>by
  split at h
  ·obtain ⟨y,h1,h2⟩:=Option.map_eq_some_iff.1 h
   subst h2
   simp only [AV.le,hfg]
   exact ts.ok _ _ h1
  ·cases h
@[go_sem] theorem dpT_un {α β:Type} (ts:PTL β) (f:β→α) (g:α→β) (hfg:∀y,g (f y)=y) (cs:List AV):(dpT ts f g hfg).un (.dp cs)=(ts.un cs).map f:=rfl
open Classical in
noncomputable def fnT {β:Type} (n:FuncId) (ts:PTL β):PT β where
 un:=fun a=>match a with| .fn f fs cs=>if f= .func n∧fs= [] then ts.un cs else none|_=>none
 wr:=fun x=> .fn (.func n) [] (ts.wr x)
 ok :=fun a x h=>by
  split at h
  ·split at h
   ·rename_i e
    obtain ⟨rfl,rfl⟩:=e
    simp only [AV.le,AV.leL,true_and]
    exact ts.ok _ _ h
   ·cases h
  ·cases h
@[go_sem] theorem fnT_un {β:Type} (n:FuncId) (ts:PTL β) (cs:List AV):(fnT n ts).un (.fn (.func n) [] cs)=ts.un cs:=if_pos ⟨rfl,rfl⟩
theorem ACall.args_le {P:Program} {f:FuncId} {fl:Nat} {args args':List AV} {h:AHeap} {K:AV→AHeap→Prop} (hl:AV.leL args args') (hc:ACall P f fl args' h K):ACall P f fl args h K:=
 ⟨hc.1,fun E w vs hs hr=>hc.2 E w vs hs (Reps.le _ _ _ hl hr)⟩
def Ent.ofL {P:Program} {X:Type} {f:FuncId} (ts:PTL X) (pre:X→Prop) (r:X→AV) (ok:∀x,pre x→(r x).ids= []∧ACall P f 0 (ts.wr x) [] (fun r' _=>r'=r x)):Ent P f where
 e:=fun args=>(ts.un args).map fun x=>(pre x,r x)
 ok:=fun args p q h hp=>by
  obtain ⟨x,h1,h2⟩:=Option.map_eq_some_iff.1 h
  cases h2
  exact ⟨(ok x hp).1,ACall.args_le (ts.ok _ _ h1) (ok x hp).2⟩
@[go_sem] theorem Ent.ofL_e {P:Program} {X:Type} {f:FuncId} (ts:PTL X) (pre:X→Prop) (r:X→AV) (ok:∀x,pre x→(r x).ids= []∧ACall P f 0 (ts.wr x) [] (fun r' _=>r'=r x)) (args:List AV):(Ent.ofL ts pre r ok).e args=(ts.un args).map fun x=>(pre x,r x):=rfl
@[go_sem] def Ent.m1 {P:Program} {f:FuncId} {α1:Type} {pre:α1→Prop} {r:α1→AV} (t1:PT α1) (ok:∀x1,pre x1→ACall P f 0 [t1.wr x1] [] fun v _=>v=r x1) (hid:∀x1,(r x1).ids= []:=by intros;rfl):Ent P f:= .ofL (consL t1 nilL) (fun x=>pre x.1) (fun x=>r x.1) (fun x h=>⟨hid x.1,ok x.1 h⟩)
@[go_sem] def Ent.m2 {P:Program} {f:FuncId} {α1 α2:Type} {pre:α1→α2→Prop} {r:α1→α2→AV} (t1:PT α1) (t2:PT α2) (ok:∀x1 x2,pre x1 x2→ACall P f 0 [t1.wr x1,t2.wr x2] [] fun v _=>v=r x1 x2) (hid:∀x1 x2,(r x1 x2).ids= []:=by intros;rfl):Ent P f:= .ofL (consL t1 (consL t2 nilL)) (fun x=>pre x.1 x.2.1) (fun x=>r x.1 x.2.1) (fun x h=>⟨hid x.1 x.2.1,ok x.1 x.2.1 h⟩)
@[go_sem] def Ent.m3 {P:Program} {f:FuncId} {α1 α2 α3:Type} {pre:α1→α2→α3→Prop} {r:α1→α2→α3→AV} (t1:PT α1) (t2:PT α2) (t3:PT α3) (ok:∀x1 x2 x3,pre x1 x2 x3→ACall P f 0 [t1.wr x1,t2.wr x2,t3.wr x3] [] fun v _=>v=r x1 x2 x3) (hid:∀x1 x2 x3,(r x1 x2 x3).ids= []:=by intros;rfl):Ent P f:= .ofL (consL t1 (consL t2 (consL t3 nilL))) (fun x=>pre x.1 x.2.1 x.2.2.1) (fun x=>r x.1 x.2.1 x.2.2.1) (fun x h=>⟨hid x.1 x.2.1 x.2.2.1,ok x.1 x.2.1 x.2.2.1 h⟩)
@[go_sem] def Ent.m4 {P:Program} {f:FuncId} {α1 α2 α3 α4:Type} {pre:α1→α2→α3→α4→Prop} {r:α1→α2→α3→α4→AV} (t1:PT α1) (t2:PT α2) (t3:PT α3) (t4:PT α4) (ok:∀x1 x2 x3 x4,pre x1 x2 x3 x4→ACall P f 0 [t1.wr x1,t2.wr x2,t3.wr x3,t4.wr x4] [] fun v _=>v=r x1 x2 x3 x4) (hid:∀x1 x2 x3 x4,(r x1 x2 x3 x4).ids= []:=by intros;rfl):Ent P f:= .ofL (consL t1 (consL t2 (consL t3 (consL t4 nilL)))) (fun x=>pre x.1 x.2.1 x.2.2.1 x.2.2.2.1) (fun x=>r x.1 x.2.1 x.2.2.1 x.2.2.2.1) (fun x h=>⟨hid x.1 x.2.1 x.2.2.1 x.2.2.2.1,ok x.1 x.2.1 x.2.2.1 x.2.2.2.1 h⟩)
@[go_sem] def Ent.m5 {P:Program} {f:FuncId} {α1 α2 α3 α4 α5:Type} {pre:α1→α2→α3→α4→α5→Prop} {r:α1→α2→α3→α4→α5→AV} (t1:PT α1) (t2:PT α2) (t3:PT α3) (t4:PT α4) (t5:PT α5) (ok:∀x1 x2 x3 x4 x5,pre x1 x2 x3 x4 x5→ACall P f 0 [t1.wr x1,t2.wr x2,t3.wr x3,t4.wr x4,t5.wr x5] [] fun v _=>v=r x1 x2 x3 x4 x5) (hid:∀x1 x2 x3 x4 x5,(r x1 x2 x3 x4 x5).ids= []:=by intros;rfl):Ent P f:= .ofL (consL t1 (consL t2 (consL t3 (consL t4 (consL t5 nilL))))) (fun x=>pre x.1 x.2.1 x.2.2.1 x.2.2.2.1 x.2.2.2.2.1) (fun x=>r x.1 x.2.1 x.2.2.1 x.2.2.2.1 x.2.2.2.2.1) (fun x h=>⟨hid x.1 x.2.1 x.2.2.1 x.2.2.2.1 x.2.2.2.2.1,ok x.1 x.2.1 x.2.2.1 x.2.2.2.1 x.2.2.2.2.1 h⟩)
@[go_sem] def Ent.m6 {P:Program} {f:FuncId} {α1 α2 α3 α4 α5 α6:Type} {pre:α1→α2→α3→α4→α5→α6→Prop} {r:α1→α2→α3→α4→α5→α6→AV} (t1:PT α1) (t2:PT α2) (t3:PT α3) (t4:PT α4) (t5:PT α5) (t6:PT α6) (ok:∀x1 x2 x3 x4 x5 x6,pre x1 x2 x3 x4 x5 x6→ACall P f 0 [t1.wr x1,t2.wr x2,t3.wr x3,t4.wr x4,t5.wr x5,t6.wr x6] [] fun v _=>v=r x1 x2 x3 x4 x5 x6) (hid:∀x1 x2 x3 x4 x5 x6,(r x1 x2 x3 x4 x5 x6).ids= []:=by intros;rfl):Ent P f:= .ofL (consL t1 (consL t2 (consL t3 (consL t4 (consL t5 (consL t6 nilL)))))) (fun x=>pre x.1 x.2.1 x.2.2.1 x.2.2.2.1 x.2.2.2.2.1 x.2.2.2.2.2.1) (fun x=>r x.1 x.2.1 x.2.2.1 x.2.2.2.1 x.2.2.2.2.1 x.2.2.2.2.2.1) (fun x h=>⟨hid x.1 x.2.1 x.2.2.1 x.2.2.2.1 x.2.2.2.2.1 x.2.2.2.2.2.1,ok x.1 x.2.1 x.2.2.1 x.2.2.2.1 x.2.2.2.2.1 x.2.2.2.2.2.1 h⟩)
theorem zg6 {P:Program} {f:FuncId} {args:List AV} {r:AV} (hc:ACall P f 0 args [] (fun r' h'=>frz 9 h' r'=r)):ACall P f 0 args [] (fun r' _=>r'=r):=by
 obtain ⟨hen,hc⟩:=hc
 refine ⟨hen,fun E w vs hs hr=>(hc E w vs hs hr).mono ?_⟩
 rintro e w' ⟨v,E',r',h',rfl,rfl,hs',hr',hev⟩
 have hno:∀ (E:Env) b,¬Own E [] b:=fun E b ⟨i,hi,_⟩=>by simp [hget] at hi
 refine ⟨v, { O:=fun _=>none,C:=fun _=>0,M:=E.M,N:=E.N },_,[],rfl,rfl,?_,?_,?_⟩
 ·exact ⟨fun i o ho=>by simp [hget] at ho,fun i j b h1=>by simp [hget] at h1,fun b hb=>absurd hb (hno _ b),fun b hb=>hs'.mlt b (by rw [hev.m];exact hb),fun b hb=>hs'.nlt b (by rw [hev.n];exact hb)⟩
 ·refine Rep.step (E:=frzE E') (h:= []) (fun b _ hx=>?_) (fun _ _ _=>rfl) _ v (fun j hj=>by unfold GoesOn;simp [hget]) (zpb hs' 9 r' v hr')
  rcases hx with hx|hx|hx
  ·exact absurd hx (hno _ b)
  ·exact .inr (.inr (.inl (by rw [hev.m];exact hx)))
  ·exact .inr (.inr (.inr (by rw [hev.n];exact hx)))
 ·exact ⟨hev.os,hev.tape,hev.output,hev.size,fun b hb _=>hev.keep b hb (hno _ b),fun b hb=>absurd hb (hno _ b),rfl,rfl,fun i hi h=>by simp [hget] at h⟩
theorem zps {cx:Cx} {s:AS} {Q:Exit→AS→Prop} {g:Operand} {ps:Array Tmp} {assign body:Code} {f:FuncId} {fs caps:List AV} (fl:Nat) {items:List (List AV)} (I:List (List AV)→AHeap×Option (List (List AV))) (J:Code→AHeap→Option (List (List AV))→Prop)
  (hit:AIter cx.P f fl fs caps [] items (fun g h'=>(∀xs,g=some xs→xs=items)∧h'= [])) (hg:s.ev g=(true,.fn (.func f) fs caps)) (hro:cx.ro=none)
  (hfl:∀i,(hget s.h i).isSome→i<fl) (hfc:cx.fl≤fl) (hids:AV.idsL fs++AV.idsL caps= [])
  (hI:leH s.h (I []).1) (hIn:inH (I []).1 (idsH (I []).1)) (hIg:(I []).2=s.g)
  (hlen:∀x∈items,x.length=ps.size) (hps:∀t∈ps.toList,t<cx.nt)
  (hround:∀xs x,(xs++ [x])<+:items→∀ (l:Nat) (r1:Rnd cx),AW (cx.inR l fl r1) assign (AsgK fun s1=>∀r2:Rnd cx,AW (cx.inR l fl r2) body (zc (fun h' g'=>leH h' (I (xs++ [x])).1∧inH (I (xs++ [x])).1 (idsH (I (xs++ [x])).1)∧g'=(I (xs++ [x])).2) J) s1)
   { t:=zd2 ps.toList x (keepT (I xs).1 s.t),h:=(I xs).1,g:=(I xs).2 })
  (hdone:Q .normal { t:=keepT (I items).1 s.t,h:=(I items).1,g:=(I items).2 })
  (hstop:∀c h3 g3,J c h3 g3→AW cx c Q { t:=keepT h3 s.t,h:=h3,g:=g3 }):
  AW cx (.rangeFunc g ps assign body) Q s:=by
 have hs0:hsel (fun _=>false) s.h= []:=by
  induction s.h with
  |nil=>rfl
  |cons a h ih=>simp only [hsel];rw [if_neg (by simp)];exact ih
 have hs1:hsel (fun i=> !(fun _=>false) i) s.h=s.h:=zgD (fun q _=>rfl)
 refine zgl (Kit:=fun g h'=>(∀xs,g=some xs→xs=items)∧h'= []) (items:=items) (fl:=fl) (fun _=>false) I J hro hg (by rw [hs0];exact hit) hfl hfc ?_ ?_ (by rw [hs1];exact hI) hIn hIg (fun _ _ _ _=>rfl) (fun _ _ _ _ _ _=>rfl) ?_ hlen hps hround ?_ ?_
 ·intro i o _ h;cases h
 ·rw [hids];intro j hj;simp at hj
 ·rintro g h' ⟨h1,rfl⟩
  exact ⟨fun i hi=>by simp [hget] at hi,h1⟩
 ·rintro h1 ⟨_,rfl⟩
  exact hdone
 ·rintro c h1 h3 g3 ⟨_,rfl⟩ hj
  exact hstop c h3 g3 hj
theorem za8 {α β:Type} {g:α→List β} {l:List α} {i:Nat} {q:α} (h:l[i]?=some q):(l.map g).getD i []=g q:=by
 rw [List.getD_eq_getElem?_getD,List.getElem?_map,h];rfl
theorem zcq {α:Type} {l:List α} {i:Nat} {q:α} (h:l[i]?=some q):l.drop i=q::l.drop (i+1):=by
 obtain ⟨hi,h⟩:=List.getElem?_eq_some_iff.1 h
 rw [List.drop_eq_getElem_cons hi,h]
theorem zaZ {α:Type} {l:List α} {i:Nat} {q:α} (h:l[i]?=some q):l.take (i+1)=l.take i++ [q]:=by
 rw [List.take_add_one,h];rfl
theorem zaj {α:Type} {l:List α} {i:Nat} (h:i<l.length):∃q,l[i]?=some q:=⟨l[i],List.getElem?_eq_getElem h⟩
theorem zT {α β:Type} (g:α→List β) (l:List α) (i:Nat) (hi:i≤l.length):
  (∃q,l[i]?=some q∧i<l.length∧decide ((i:Int)<(l.length:Int))=true∧(l.map g).getD i []=g q∧l.drop i=q::l.drop (i+1)∧l.take (i+1)=l.take i++ [q])∨(i=l.length∧decide ((i:Int)<(l.length:Int))=false):=by
 rcases Nat.lt_or_ge i l.length with h|h
 ·obtain ⟨q,hq⟩:=zaj h
  exact .inl ⟨q,hq,h,decide_eq_true (by omega),za8 hq,zcq hq,zaZ hq⟩
 ·exact .inr ⟨by omega,decide_eq_false (by omega)⟩
def hdR:Code→Option Nat
 | .region id _ _=>some id
 | .seq x _=>hdR x
 |_=>none
theorem hds {cx:Cx} {c:Code} {Q:Exit→AS→Prop} {s:AS} (n:Nat) (h:hdR c=some n) (g:AW cx c Q s):AW cx c Q s:=g
theorem zg7 {cx:Cx} {s:AS} {c:Operand} {x y:Code} {Q:Exit→AS→Prop} (hc:s.ev c=(true,.d (.bool true))) (ht:AW cx x Q s):AW cx (.cond c x y) Q s:=zi hc (fun _=>ht) (fun h=>by cases h)
theorem zg8 {cx:Cx} {s:AS} {c:Operand} {x y:Code} {Q:Exit→AS→Prop} (hc:s.ev c=(true,.d (.bool false))) (hf:AW cx y Q s):AW cx (.cond c x y) Q s:=zi hc (fun h=>by cases h) (fun _=>hf)
theorem sl_ex {e:Nat} {Q:Nat→Prop} :(∃e',TD.slice e=TD.slice e'∧Q e')=Q e:=by
 apply propext
 constructor
 ·rintro ⟨e',h,hq⟩;cases h;exact hq
 ·intro h;exact ⟨e,rfl,h⟩
theorem zly {cx:Cx} {x y:Code} {Q:Exit→AS→Prop} {s:AS} (s1:AS) (h1:AW cx x (thenK (fun s'=>s'.le s1) Q) s) (h2:AW cx y Q s1):AW cx (.seq x y) Q s:=
 zj fun K hK=>h1.mono fun e s' h=>by
  cases e<;>first|exact hK s' (aw_le s1 h h2)|exact h
theorem zap {fl:Nat} :∀ {h:AHeap},(h.all fun p=>decide (p.1<fl))=true→∀i,(hget h i).isSome→i<fl
  | [],_,i,hi=>by simp [hget] at hi
  | (k,o)::r,hh,i,hi=>by
    simp only [List.all_cons,Bool.and_eq_true,decide_eq_true_eq] at hh
    simp only [hget] at hi
    split at hi
    · rename_i e;subst e;exact hh.1
    · exact zap hh.2 i hi
theorem zgI {α:Type} {e:α→List D} :∀ {rows:List (List D)},(∀r∈rows,∃a,r=e a)→∃l:List α,rows=l.map e
 | [],_=>⟨[],rfl⟩
 |r::rows,h=>by
  obtain ⟨a,rfl⟩:=h r (by simp)
  obtain ⟨l,rfl⟩:=zgI (e:=e) (rows:=rows) (fun r hr=>h r (by simp [hr]))
  exact ⟨a::l,rfl⟩
theorem zpt {p:Nat→Bool} :∀ {h:AHeap},(∀q∈h,p q.1=false)→hsel p h= []
  | [],_=>rfl
  | (k,o)::r,hh=>by
    simp only [hsel]
    rw [if_neg (by rw [hh (k,o) (by simp)];simp),zpt (fun q hq=>hh q (by simp [hq]))]
theorem ACall.own {P:Program} {f:FuncId} {args:List AV} {fl fl':Nat} {h:AHeap} {K:AV→AHeap→Prop} (hc:ACall P f fl args [] K) (hfl:(h.all fun p=>decide (p.1<fl))=true) (hids:AV.idsL args= []) (hle:fl'≤fl) (hk:∀r h',K r h'→(h'.all fun p=>decide (fl≤p.1))=true):
  ACallAt P fl' f args h (fun r h'=>∃h1,K r h1∧h'=h1++h):=by
 have hlt:∀q∈h,q.1<fl:=fun q hq=>by simpa using List.all_eq_true.1 hfl q hq
 have e1:hsel (fun i=>decide (fl≤i)) h= []:=zpt (fun q hq=>by have:=hlt q hq;simp;omega)
 have e2:hsel (fun i=> !decide (fl≤i)) h=h:=zgD (fun q hq=>by have:=hlt q hq;simp;omega)
 have:=ACall.frame (P:=P) (f:=f) (args:=args) (fl:=fl) (fl':=fl') (h:=h) (K:=K) (p:=fun i=>decide (fl≤i)) (by rw [e1];exact hc) (zap hfl) (fun i hi=>by simpa using hi) (fun i o ho hp=>by
   have:=zap hfl i (by simp [ho])
   have:fl≤i:=by simpa using hp
   omega) (by rw [hids];intro j hj;simp at hj) hle (fun r h' hk'=>⟨fun i hi hp=>by
    have:=zap hfl i hi
    have:fl≤i:=by simpa using hp
    omega,fun i hi=>by
    have h1:=hk r h' hk'
    clear hk' hc
    induction h' with
    |nil=>simp [hget] at hi
    |cons q r ih=>
     simp only [List.all_cons,Bool.and_eq_true] at h1
     obtain ⟨k,o⟩:=q
     simp only [hget] at hi
     split at hi
     ·rename_i e;subst e;exact h1.1
     ·exact ih hi h1.2⟩)
 rw [e2] at this
 exact this
theorem zg {n:Int} (h0: -9223372036854775808≤n) (h1:n<9223372036854775808):IntKind.i64.wrap n=n:=by rw [IntKind.wrap_i64];omega
theorem zp {i:Nat} (h:i<9223372036854775807):IntKind.i64.wrap ((i:Int)+1)=((i+1:Nat):Int):=by rw [IntKind.wrap_i64];omega
theorem zuO {a b:Nat} :decide ((a:Int)<(b:Int))=decide (a<b):=by
 by_cases h:a<b
 ·rw [decide_eq_true h,decide_eq_true (by omega)]
 ·rw [decide_eq_false h,decide_eq_false (by omega)]
def intD (n:Int):List D:= [.int .i64 n]
def strD (s:List UInt8):List D:= [.str s]
theorem zcy:∀a b,intD a=intD b→a=b:=by intro a b h;simpa [intD] using h
theorem zfh:∀a b,strD a=strD b→a=b:=by intro a b h;simpa [strD] using h
attribute [go_sem] sl_ex Nat.lt_irrefl Nat.zero_add zjV zdJ List.length_map or_self true_or or_true Nat.le_refl List.append_toArray List.range_zero List.append_eq Int.toNat_natCast IterK
open Go
inductive Ch where
 |none
 |put (i:Nat) (ob:AObj)
 |new (i:Nat) (ob:AObj)
def Ch.app:Ch→AHeap→AHeap
 | .none,h=>h
 | .put i ob,h=>hset h i ob
 | .new i ob,h=>(i,ob)::h
def Ch.at:Ch→Option Nat
 | .none=>Option.none
 | .put i _=>some i
 | .new i _=>some i
def zi2 (h:AHeap) (c:Ch) (rd:List Nat) (k:AHeap):Prop:=
 (∀i∈rd,hget k i=hget h i)∧(match c with| .none=>True| .put i _=>hget k i=hget h i| .new i _=>hget k i=Option.none)
def chOf (nm:Nat) (P:Program) (s:AS) (op:Op) (h':AHeap):Option (Ch×List Nat):=
 match op with
 | .alloc _=>(hget h' nm).map fun ob=>(.new nm ob,[])
 | .buildSlice _ _ _=>some (match hget h' nm with|some ob=>(.new nm ob,[])|Option.none=>(.none,[]))
 | .makeSlice _ _ _=>(hget h' nm).map fun ob=>(.new nm ob,[])
 | .build _ _=>some (.none,[])
 | .convert _ _ x=>some (.none,(s.ev x).2.ids)
 | .slice _ x _ _ _=>some (.none,(s.ev x).2.ids)
 | .call c=>(match c.callee with
  | .builtin .append=>(match c.args.toList with
   | [x,y]=>(match (s.ev x).2 with
    | .osl i _ _ _ _=>(hget h' i).map fun ob=>(.put i ob,(s.ev y).2.ids)
    |_=>Option.none)
   |_=>Option.none)
  | .builtin .len=>(match c.args.toList with
   | [x]=>some (.none,(s.ev x).2.ids)
   |_=>Option.none)
  | .value _=>if foot nm P s (.call c)= .cold then some (.none,[]) else Option.none
  |_=>Option.none)
 |op=>(match foot nm P s op with
  | .cold=>some (.none,[])
  | .on i=>if isEff op=true then (hget h' i).map fun ob=>(.put i ob,[]) else some (.none,[i])
  |_=>Option.none)
def atCx (cx:Cx) (nm:Nat):Cx:= { cx with fl:=nm }
section
variable {cx : Cx} {tab : Tab} {s : AS} {P : Program}
theorem zm3 {k:AHeap} {n:Nat} {v:AV} (h:∀i∈v.ids,hget k i=hget s.h i):rowsK { s with h:=k } n v=rowsK s n v:=by
 unfold rowsK
 cases v with
 |osl i _ _ _ _=>have:=h i (by simp [AV.ids]);simp only [this]
 |vsl i _ _ _=>have:=h i (by simp [AV.ids]);simp only [this]
 |d x=>cases x<;>rfl
 |_=>rfl
theorem zrt {k:AHeap} {n:Nat} {t:TypeId} {v:AV} (h:∀i∈v.ids,hget k i=hget s.h i):rowsT P { s with h:=k } n t v=rowsT P s n t v:=by
 unfold rowsT
 rw [zm3 h]
theorem zru {k:AHeap} {t:TypeId} {v:AV} (h:∀i∈v.ids,hget k i=hget s.h i):avLen P { s with h:=k } t v=avLen P s t v:=by
 unfold avLen AS.cur
 generalize (ty P t).td=dd
 cases v with
 |osl i _ _ _ _=>have:=h i (by simp [AV.ids]);cases dd<;>simp only [this]
 |d x=>cases dd<;>cases x<;>rfl
 |_=>cases dd<;>rfl
theorem znL {k:AHeap} {t:TypeId} {x:AV} {lo hi mx:Option Operand} (h:∀i∈x.ids,hget k i=hget s.h i):zcp P { s with h:=k } t x lo hi mx=zcp P s t x lo hi mx:=by
 have hb:∀y d,AS.bnd { s with h:=k } y d=AS.bnd s y d:=fun y d=>by
  cases y with
  |none=>rfl
  |some y=>cases y<;>rfl
 unfold zcp AS.cur
 simp only [hb]
 cases x with
 |osl i _ _ _ _=>have:=h i (by simp [AV.ids]);simp only [this]
 |vp i _=>have:=h i (by simp [AV.ids]);simp only [this]
 |d x=>cases x<;>rfl
 |_=>rfl
theorem zrv {nm:Nat} (hnm:hget s.h nm=Option.none) {G:Bool} {o:Oper} {g:Bool} {v:AV} {h':AHeap} (h:∀R:Bool→AV→AHeap→Prop,R g v h'→fop (atCx cx nm) tab s G o R) (hne:isEff o.op=false→h'=s.h)
  {c:Ch} {rd:List Nat} (hc:chOf nm cx.P s o.op h'=some (c,rd)):
  h'=c.app s.h∧∀k:AHeap,zi2 s.h c rd k→∀R:Bool→AV→AHeap→Prop,R g v (c.app k)→fop (atCx cx nm) tab { s with h:=k } G o R:=by
 have hev:∀ (k:AHeap) (x:Operand),AS.ev { s with h:=k } x=s.ev x:=fun k x=>by cases x<;>rfl
 have hkn:∀ (k:AHeap) (x:Operand),known { s with h:=k } x=known s x:=fun k x=>by cases x<;>rfl
 have hfs:fresh nm s.h=nm:=zgB hnm
 obtain ⟨ff1,ff2⟩:=zgH h hne
 have old:chOf nm cx.P s o.op h'=(match foot nm cx.P s o.op with
   | .cold=>some (.none,[])
   | .on i=>if isEff o.op=true then (hget h' i).map fun ob=>(.put i ob,[]) else some (.none,[i])
   |_=>Option.none)→h'=c.app s.h∧∀k:AHeap,zi2 s.h c rd k→∀R:Bool→AV→AHeap→Prop,R g v (c.app k)→fop (atCx cx nm) tab { s with h:=k } G o R:=by
  intro e
  rw [e] at hc
  cases hf:foot nm cx.P s o.op with
  |cold=>
   rw [hf] at hc
   simp only [Option.some.injEq,Prod.mk.injEq] at hc
   obtain ⟨rfl,rfl⟩:=hc
   obtain ⟨q1,q2⟩:=ff1 hf
   exact ⟨hne q1,fun k _ R hR=>q2 k R hR⟩
  | on i=>
   rw [hf] at hc
   dsimp only at hc
   split at hc
   ·rename_i he
    obtain ⟨ob,q1,q2,_⟩:=(ff2 i hf s.h rfl).2 he
    rw [q1] at hc
    simp only [Option.map_some,Option.some.injEq,Prod.mk.injEq] at hc
    obtain ⟨rfl,rfl⟩:=hc
    refine ⟨q2,fun k hk R hR=>?_⟩
    obtain ⟨ob',p1,p2,p3⟩:=(ff2 i hf k hk.2).2 he
    rw [q1] at p1
    cases p1
    exact p3 R hR
   ·rename_i he
    simp only [Option.some.injEq,Prod.mk.injEq] at hc
    obtain ⟨rfl,rfl⟩:=hc
    have he':isEff o.op=false:=by simpa using he
    exact ⟨hne he',fun k hk R hR=>(ff2 i hf k (hk.1 i (by simp))).1 he' R hR⟩
  |new i=>rw [hf] at hc;cases hc
  |whole=>rw [hf] at hc;cases hc
 have h0:=h (fun g1 v1 h1=>g1=g∧v1=v∧h1=h') ⟨rfl,rfl,rfl⟩
 cases hop:o.op
 case alloc t=>
  rw [hop] at hc
  have n1:∀x,o.op= .move x→False:=by simp [hop]
  have n2:∀x,o.op= .assign x→False:=by simp [hop]
  have n3:∀x y z,o.op= .pick x y z→False:=by simp [hop]
  have n4:∀c,o.op= .call c→False:=by simp [hop]
  have hv:¬isVal (atCx cx nm).P o.op=true:=by rw [hop];simp [isVal,zcg]
  rw [zaa n1 n2 n3 n4,if_neg hv,hop] at h0
  obtain ⟨hG,hdt,h1⟩:=h0
  unfold aeff at h1
  dsimp only [atCx] at h1
  rw [hfs] at h1
  obtain ⟨q1,q2,q3,q4⟩:=h1
  subst q4
  simp only [chOf,hget,if_true,Option.map_some,Option.some.injEq,Prod.mk.injEq] at hc
  obtain ⟨rfl,rfl⟩:=hc
  refine ⟨rfl,fun k hk R hR=>?_⟩
  rw [zaa n1 n2 n3 n4,if_neg hv,hop]
  refine ⟨hG,hdt,?_⟩
  unfold aeff
  dsimp only [atCx]
  rw [zgB hk.2]
  refine ⟨q1,?_⟩
  rw [← q2,← q3] at hR
  exact hR
 case makeSlice t l m=>
  rw [hop] at hc
  have n1:∀x,o.op= .move x→False:=by simp [hop]
  have n2:∀x,o.op= .assign x→False:=by simp [hop]
  have n3:∀x y z,o.op= .pick x y z→False:=by simp [hop]
  have n4:∀c,o.op= .call c→False:=by simp [hop]
  have hv:¬isVal (atCx cx nm).P o.op=true:=by rw [hop];simp [isVal,zcg]
  rw [zaa n1 n2 n3 n4,if_neg hv,hop] at h0
  obtain ⟨hG,hdt,h1⟩:=h0
  unfold aeff zam at h1
  dsimp only [atCx] at h1
  split at h1
  ·rename_i e gl n gc m' ht hl hm
   obtain ⟨c1,c2,c3,c4,c5,c6,c7,c8,c9,h1⟩:=h1
   split at h1
   ·rename_i z hz
    rw [hfs] at h1
    obtain ⟨q2,q3,q4⟩:=h1
    subst q4
    simp only [chOf,hget,if_true,Option.map_some,Option.some.injEq,Prod.mk.injEq] at hc
    obtain ⟨rfl,rfl⟩:=hc
    refine ⟨rfl,fun k hk R hR=>?_⟩
    rw [zaa n1 n2 n3 n4,if_neg hv,hop]
    refine ⟨hG,hdt,?_⟩
    unfold aeff zam
    dsimp only [atCx]
    rw [ht,hev k l,hev k m,hl,hm]
    dsimp only
    rw [hz,zgB hk.2]
    refine ⟨c1,c2,c3,c4,c5,c6,c7,c8,c9,?_⟩
    rw [← q2,← q3] at hR
    exact hR
   ·exact h1.elim
  ·exact h1.elim
 case buildSlice t len parts=>
  rw [hop] at hc
  have n1:∀x,o.op= .move x→False:=by simp [hop]
  have n2:∀x,o.op= .assign x→False:=by simp [hop]
  have n3:∀x y z,o.op= .pick x y z→False:=by simp [hop]
  have n4:∀c,o.op= .call c→False:=by simp [hop]
  have hv:¬isVal (atCx cx nm).P o.op=true:=by rw [hop];simp [isVal,zcg]
  rw [zaa n1 n2 n3 n4,if_neg hv,hop] at h0
  obtain ⟨hG,hdt,h1⟩:=h0
  unfold aeff at h1
  dsimp only [atCx] at h1
  split at h1
  ·rename_i e ht
   obtain ⟨c1,c2,c3,c4,c5,c6,h1⟩:=h1
   split at h1
   ·rename_i ds hds
    rw [hfs] at h1
    obtain ⟨q2,q3,q4⟩:=h1
    subst q4
    simp only [chOf,hget,if_true,Option.some.injEq,Prod.mk.injEq] at hc
    obtain ⟨rfl,rfl⟩:=hc
    refine ⟨rfl,fun k hk R hR=>?_⟩
    rw [zaa n1 n2 n3 n4,if_neg hv,hop]
    refine ⟨hG,hdt,?_⟩
    unfold aeff
    dsimp only [atCx]
    rw [ht]
    simp only [hev]
    rw [hds,zgB hk.2]
    refine ⟨c1,c2,c3,c4,c5,c6,?_⟩
    rw [← q2,← q3] at hR
    exact hR
   ·rename_i hds
    obtain ⟨c7,q2,q3,q4⟩:=h1
    subst q4
    simp only [chOf,hnm,Option.some.injEq,Prod.mk.injEq] at hc
    obtain ⟨rfl,rfl⟩:=hc
    refine ⟨rfl,fun k hk R hR=>?_⟩
    rw [zaa n1 n2 n3 n4,if_neg hv,hop]
    refine ⟨hG,hdt,?_⟩
    unfold aeff
    dsimp only [atCx]
    rw [ht]
    simp only [hev]
    rw [hds]
    refine ⟨c1,c2,c3,c4,c5,c6,c7,?_⟩
    rw [← q2,← q3] at hR
    exact hR
  ·exact h1.elim
 case build t parts=>
  rw [hop] at hc
  have n1:∀x,o.op= .move x→False:=by simp [hop]
  have n2:∀x,o.op= .assign x→False:=by simp [hop]
  have n3:∀x y z,o.op= .pick x y z→False:=by simp [hop]
  have n4:∀c,o.op= .call c→False:=by simp [hop]
  have hv:¬isVal (atCx cx nm).P o.op=true:=by rw [hop];simp [isVal,zcg]
  simp only [chOf,Option.some.injEq,Prod.mk.injEq] at hc
  obtain ⟨rfl,rfl⟩:=hc
  refine ⟨hne (by rw [hop];rfl),fun k hk R hR=>?_⟩
  have h2:=h (fun g v _=>R g v k) hR
  rw [zaa n1 n2 n3 n4,if_neg hv,hop] at h2
  obtain ⟨hG,hdt,h1⟩:=h2
  rw [zaa n1 n2 n3 n4,if_neg hv,hop]
  refine ⟨hG,hdt,?_⟩
  unfold aeff at h1 ⊢
  dsimp only [atCx] at h1 ⊢
  simp only [hev]
  exact h1
 case convert a b x=>
  rw [hop] at hc
  have n1:∀x,o.op= .move x→False:=by simp [hop]
  have n2:∀x,o.op= .assign x→False:=by simp [hop]
  have n3:∀x y z,o.op= .pick x y z→False:=by simp [hop]
  have n4:∀c,o.op= .call c→False:=by simp [hop]
  simp only [chOf,Option.some.injEq,Prod.mk.injEq] at hc
  obtain ⟨rfl,rfl⟩:=hc
  refine ⟨hne (by rw [hop];rfl),fun k hk R hR=>?_⟩
  have h2:=h (fun g v _=>R g v k) hR
  rw [zaa n1 n2 n3 n4,hop] at h2
  rw [zaa n1 n2 n3 n4,hop]
  split at h2
  ·rename_i hv
   rw [if_pos hv]
   have:aval (atCx cx nm).P { s with h:=k } (.convert a b x)=aval (atCx cx nm).P s (.convert a b x):=by simp only [aval,hev]
   rw [this]
   exact h2
  ·rename_i hv
   rw [if_neg hv]
   obtain ⟨hG,hdt,h1⟩:=h2
   refine ⟨hG,hdt,?_⟩
   unfold aeff zam at h1 ⊢
   dsimp only [atCx] at h1 ⊢
   split at h1
   ·rename_i e ht1 ht2
    simp only [detOp,atCx,ht2] at hdt
    cases hdt
   ·rename_i e ht1 ht2
    try rw [ht1,ht2]
    try dsimp only
    rw [hev k x,zm3 hk.1]
    exact h1
   ·exact h1.elim
 case slice t x lo hi mx=>
  rw [hop] at hc
  have n1:∀x,o.op= .move x→False:=by simp [hop]
  have n2:∀x,o.op= .assign x→False:=by simp [hop]
  have n3:∀x y z,o.op= .pick x y z→False:=by simp [hop]
  have n4:∀c,o.op= .call c→False:=by simp [hop]
  simp only [chOf,Option.some.injEq,Prod.mk.injEq] at hc
  obtain ⟨rfl,rfl⟩:=hc
  refine ⟨hne (by rw [hop];rfl),fun k hk R hR=>?_⟩
  have h2:=h (fun g v _=>R g v k) hR
  have hv:isVal (atCx cx nm).P o.op=true:=by rw [hop];rfl
  rw [zaa n1 n2 n3 n4,if_pos hv,hop] at h2
  rw [zaa n1 n2 n3 n4,if_pos hv,hop]
  have:aval (atCx cx nm).P { s with h:=k } (.slice t x lo hi mx)=aval (atCx cx nm).P s (.slice t x lo hi mx):=by
   simp only [aval,hev]
   rw [znL hk.1]
  rw [this]
  exact h2
 case call c=>
  rw [hop] at hc
  simp only [chOf] at hc
  split at hc
  ·-- append
   rename_i hcal
   split at hc
   ·rename_i x y harg
    split at hc
    ·rename_i i kk m off len hx
     have hv:¬isVal (atCx cx nm).P (.call c)=true:=by simp [isVal,zcg,hcal]
     have hco:∀k,zaW (atCx cx nm).P { s with h:=k } c=Option.none:=fun k=>by simp [zaW,hcal]
     unfold fop at h0
     rw [hop] at h0
     dsimp only at h0
     rw [if_neg hv,hco s.h] at h0
     obtain ⟨hG,h1⟩:=h0
     unfold aeff zam at h1
     dsimp only [atCx] at h1
     rw [hcal] at h1
     dsimp only at h1
     rw [harg] at h1
     split at h1
     ·rename_i x' y' t u e1 e2
      simp only [List.cons.injEq,and_true] at e1
      obtain ⟨rfl,rfl⟩:=e1
      split at h1
      ·rename_i e hte
       obtain ⟨c1,c2,c3,c4,c5,h1⟩:=h1
       split at h1
       ·rename_i rows hr
        rw [hx] at h1
        dsimp only at h1
        split at h1
        ·rename_i k' xs hi
         obtain ⟨d1,d2,d3,d4,d5,d6,d7,q2,q3,q4⟩:=h1
         subst q4
         rw [ze hi] at hc
         simp only [Option.map_some,Option.some.injEq,Prod.mk.injEq] at hc
         obtain ⟨rfl,rfl⟩:=hc
         refine ⟨rfl,fun k hk R hR=>?_⟩
         unfold fop
         rw [hop]
         dsimp only
         rw [if_neg hv,hco k]
         refine ⟨hG,?_⟩
         unfold aeff zam
         dsimp only [atCx]
         rw [hcal]
         dsimp only
         rw [harg,e2]
         dsimp only
         rw [hte]
         dsimp only
         rw [hev k x,hev k y,zrt hk.1,hr]
         dsimp only
         rw [hx]
         dsimp only
         rw [hk.2,hi]
         refine ⟨c1,c2,c3,c4,c5,d1,d2,d3,d4,d5,d6,d7,?_⟩
         rw [← q2,← q3] at hR
         exact hR
        ·exact h1.elim
       ·exact h1.elim
      ·exact h1.elim
     ·exact h1.elim
    ·cases hc
   ·cases hc
  ·-- len
   rename_i hcal
   split at hc
   ·rename_i x harg
    simp only [Option.some.injEq,Prod.mk.injEq] at hc
    obtain ⟨rfl,rfl⟩:=hc
    have hv:isVal (atCx cx nm).P (.call c)=true:=by simp [isVal,zcg,hcal,isX]
    refine ⟨hne (by rw [hop];simp [isEff,hcal]),fun k hk R hR=>?_⟩
    have h2:=h (fun g v _=>R g v k) hR
    unfold fop at h2 ⊢
    rw [hop] at h2 ⊢
    dsimp only at h2 ⊢
    rw [if_pos hv] at h2 ⊢
    have:aval (atCx cx nm).P { s with h:=k } (.call c)=aval (atCx cx nm).P s (.call c):=by
     simp only [aval,zfc,hcal,harg]
     split
     ·rename_i x' t e1 e2
      simp only [List.cons.injEq,and_true] at e1
      subst e1
      simp only [hev]
      rw [zru hk.1]
     ·rfl
    rw [this]
    exact h2
   ·cases hc
  ·-- a function's call
   split at hc
   ·rename_i hf
    simp only [Option.some.injEq,Prod.mk.injEq] at hc
    obtain ⟨rfl,rfl⟩:=hc
    obtain ⟨q1,q2⟩:=ff1 (by rw [hop];exact hf)
    rw [hop] at q1
    exact ⟨hne (by rw [hop];exact q1),fun k _ R hR=>q2 k R hR⟩
   ·cases hc
  ·cases hc
 all_goals (exact old (by rw [hop];rfl))
end
open Go
structure RG where
 o:Oper
 g:Bool
 v:AV
 c:Ch
 rd:List Nat
def appG (s:AS) (r:RG):AS:= { s with h:=r.c.app s.h }.put r.o.dst r.g r.v
def selG:List RG→(Nat→Bool)→AS→AS
 | [],_,s=>s
 |x::L,S,s=>selG L (fun i=>S (i+1)) (if S 0=true then appG s x else s)
def lexG (L:List RG) (n:Nat) (s:AS):AS:=selG L (fun i=>decide (i<n)) s
theorem zis (s:AS) (r:RG):(appG s r).h=r.c.app s.h:=by
 unfold appG AS.put;cases r.o.dst<;>rfl
theorem zuP (s:AS) (r:RG):(appG s r).g=s.g:=by
 unfold appG AS.put;cases r.o.dst<;>rfl
theorem zi3 (s:AS) (r:RG) (k:Nat):lk (appG s r).t k=if r.o.dst=some k then some (r.g,r.v) else lk s.t k:=by
 unfold appG
 rw [zj0]
theorem zj7:∀ (L:List RG) (S:Nat→Bool) (s:AS),(selG L S s).g=s.g
 | [],_,_=>rfl
 |x::L,S,s=>by
  rw [selG,zj7 L]
  split
  ·exact zuP _ _
  ·rfl
theorem zg9 {Q:Nat→Prop} :∀ (L:List RG) (S S':Nat→Bool) (s s':AS),(∀k,Q k→lk s.t k=lk s'.t k)→(∀ (i:Nat) (r:RG),L[i]?=some r→(∃d,r.o.dst=some d∧Q d)→S i=S' i)→
  ∀k,Q k→lk (selG L S s).t k=lk (selG L S' s').t k
 | [],_,_,_,_,h,_=>h
 | x::L,S,S',s,s',h,hS=>by
  refine zg9 L _ _ _ _ (fun k hk=>?_) (fun i r hr hd=>hS (i+1) r (by simpa using hr) hd)
  by_cases hd:x.o.dst=some k
  ·rw [hS 0 x rfl ⟨k,hd,hk⟩]
   split
   ·rw [zi3,zi3,if_pos hd,if_pos hd]
   ·exact h k hk
  ·have e1:∀ (b:Bool) (u:AS),lk (if b=true then appG u x else u).t k=lk u.t k:=fun b u=>by
    split
    ·rw [zi3,if_neg hd]
    ·rfl
   rw [e1,e1]
   exact h k hk
theorem zfR {c:Ch} {h:AHeap} {k:Nat} (hc:c.at≠some k):hget (c.app h) k=hget h k:=by
 cases c with
 |none=>rfl
 |put i ob=>exact zB (fun e=>hc (by simp [Ch.at,e]))
 |new i ob=>
  have:i≠k:=fun e=>hc (by simp [Ch.at,e])
  simp [Ch.app,hget,this]
theorem zs1 {c:Ch} {h h':AHeap} {k:Nat} (e:hget h k=hget h' k):hget (c.app h) k=hget (c.app h') k:=by
 by_cases hc:c.at=some k
 ·cases c with
  |none=>cases hc
  |put i ob=>
   simp only [Ch.at,Option.some.injEq] at hc
   subst hc
   simp only [Ch.app]
   cases hh:hget h i with
   |none=>rw [zdr hh,zdr (e ▸ hh)];exact e
   |some o=>rw [ze hh,ze (e ▸ hh)]
  |new i ob=>
   simp only [Ch.at,Option.some.injEq] at hc
   subst hc
   simp [Ch.app,hget]
 ·rw [zfR hc,zfR hc,e]
theorem zfi (k:Nat):∀ (L:List RG) (S S':Nat→Bool) (s s':AS),hget s.h k=hget s'.h k→(∀ (i:Nat) (r:RG),L[i]?=some r→r.c.at=some k→S i=S' i)→hget (selG L S s).h k=hget (selG L S' s').h k
 | [],_,_,_,_,h,_=>h
 | x::L,S,S',s,s',h,hS=>by
  refine zfi k L _ _ _ _ ?_ (fun i r hr hm=>hS (i+1) r (by simpa using hr) hm)
  by_cases hm:x.c.at=some k
  ·rw [hS 0 x rfl hm]
   split
   ·rw [zis,zis];exact zs1 h
   ·exact h
  ·have e1:∀ (b:Bool) (u:AS),hget (if b=true then appG u x else u).h k=hget u.h k:=fun b u=>by
    split
    ·rw [zis];exact zfR hm
    ·rfl
   rw [e1,e1]
   exact h
theorem zfS (k:Nat):∀ (L:List RG) (S:Nat→Bool) (s:AS),(∀ (i:Nat) (r:RG),L[i]?=some r→S i=true→r.c.at≠some k)→hget (selG L S s).h k=hget s.h k
 | [],_,_,_=>rfl
 | x::L,S,s,hS=>by
  rw [selG,zfS k L _ _ (fun i r hr hs=>hS (i+1) r (by simpa using hr) hs)]
  split
  ·rename_i h0
   rw [zis]
   exact zfR (hS 0 x rfl h0)
  ·rfl
theorem zpu (k:Nat):∀ (L:List RG) (n:Nat) (r:RG) (S:Nat→Bool) (s:AS),L[n]?=some r→S n=false→
  (∀ (i:Nat) (r':RG),L[i]?=some r'→n<i→S i=true→r.c.at=some k→r'.c.at≠some k)→hget (selG L (fun i=>if i=n then true else S i) s).h k=hget (r.c.app (selG L S s).h) k
 | [],n,r,S,s,hr,_,_=>by simp at hr
 | x::L,0,r,S,s,hr,hS,hl=>by
  have:x=r:=by simpa using hr
  subst this
  simp only [selG,if_true,hS,Bool.false_eq_true,if_false,Nat.succ_ne_zero]
  by_cases hc:x.c.at=some k
  ·have hno:∀ (i:Nat) (r':RG),L[i]?=some r'→S (i+1)=true→r'.c.at≠some k:=fun i r' hr' hs'=>hl (i+1) r' (by simpa using hr') (by omega) hs' hc
   rw [zfS k L _ _ hno,zis]
   exact zs1 (zfS k L _ _ hno).symm
  ·rw [zfR hc]
   refine zfi k L _ _ _ _ ?_ (fun _ _ _ _=>rfl)
   rw [zis]
   exact zfR hc
 | x::L,n+1,r,S,s,hr,hS,hl=>by
  have e0:(if (0:Nat)=n+1 then true else S 0)=S 0:=if_neg (by omega)
  simp only [selG,e0]
  have e1:(fun i=>if i+1=n+1 then true else S (i+1))=(fun i=>if i=n then true else S (i+1)):=by
   funext i
   by_cases h:i=n
   ·simp [h]
   ·simp [h]
  rw [e1]
  exact zpu k L n r (fun i=>S (i+1)) _ (by simpa using hr) hS (fun i r' hr' hi hs'=>hl (i+1) r' (by simpa using hr') (by omega) hs')
theorem zcS:∀ (L:List RG) (s:AS),lexG L 0 s=s
 | [],s=>rfl
 |x::L,s=>by
  unfold lexG selG
  have:=zcS L s
  unfold lexG at this
  simpa using this
theorem zef (x:RG) (L:List RG) (n:Nat) (s:AS):lexG (x::L) (n+1) s=lexG L n (appG s x):=by
 unfold lexG
 rw [selG]
 simp
theorem zj8:∀ (L:List RG) (n:Nat) (s:AS) (r:RG),L[n]?=some r→lexG L (n+1) s=appG (lexG L n s) r
 | [],n,s,r,h=>by simp at h
 |x::L,0,s,r,h=>by
  have:x=r:=by simpa using h
  subst this
  rw [zef,zcS,zcS]
 |x::L,n+1,s,r,h=>by
  rw [zef,zef]
  exact zj8 L n _ r (by simpa using h)
section
variable {cx : Cx} {E E0 : Env} {s s' : AS} {a : Act} {w w0 : World} {h h' h0 : AHeap}
theorem zdL (hh:∀k,hget h k=hget h' k):Own E h=Own E h':=by
 funext b
 unfold Own
 simp only [hh]
theorem zha (hh:∀k,hget h k=hget h' k) (i:Nat):GoesOn E h E h' i:=by
 unfold GoesOn
 rw [← hh]
 split<;>simp_all
theorem zlz (hh:∀k,hget h k=hget h' k) {x:AV} {v:Value} (hr:Rep w E h x v):Rep w E h' x v:=
 Rep.step (fun b _ hx=>by unfold Xs at hx ⊢;rwa [zdL hh]) (fun _ _ _=>rfl) x v (fun j _=>zha hh j) hr
theorem SatH.ext (hs:SatH E h w) (hh:∀k,hget h k=hget h' k):SatH E h' w where
 heap:=fun i o ho=>by
  rw [← hh] at ho
  have:=hs.heap i o ho
  have hX:∀b,b<w.heap.size→Xs E h' b→Xs E h b:=fun b _ hx=>by unfold Xs at hx ⊢;rwa [zdL hh]
  cases o with
  |var cs=>
   simp only [RepObj] at this ⊢
   obtain ⟨b,d,T,fz,h1,h2,h3,h4⟩:=this
   exact ⟨b,d,T,fz,h1,h2,Reps.step hX (fun _ _ _=>rfl) _ _ (fun j _=>zha hh j) h3,h4⟩
  |tvar tt cs=>
   simp only [RepObj] at this ⊢
   obtain ⟨b,d,T,fz,h1,h2,h3,h4⟩:=this
   exact ⟨b,d,T,fz,h1,h2,Reps.step hX (fun _ _ _=>rfl) _ _ (fun j _=>zha hh j) h3,h4⟩
  |arr k xs=>
   simp only [RepObj] at this ⊢
   rcases this with g|⟨b,d,T,fz,h1,h2,h3,h4,h5,h6⟩
   ·exact .inl g
   ·exact .inr ⟨b,d,T,fz,h1,h2,h3,h4,RepRows.step hX (fun _ _ _=>rfl) _ _ _ h5,h6⟩
  |buf tt xs=>
   simp only [RepObj] at this ⊢
   rcases this with g|⟨b,d,T,fz,h1,h2,h3,h4,h5,h6⟩
   ·exact .inl g
   ·exact .inr ⟨b,d,T,fz,h1,h2,h3,h4,h5,h6⟩
  |strit l p=>exact this
  |omap es=>exact this
 inj:=fun i j b hi hj=>hs.inj i j b (by rwa [hh]) (by rwa [hh])
 own:=fun b hb=>hs.own b (by rwa [zdL hh])
 mlt:=hs.mlt
 nlt:=hs.nlt
theorem Sat.ext (hs:Sat cx E s a w) (ht:∀k,lk s.t k=lk s'.t k) (hh:∀k,hget s.h k=hget s'.h k) (hg:s.g=s'.g):Sat cx E s' a w where
 slots:=fun k g v hk=>by
  obtain ⟨x,h1,h2,h3⟩:=hs.slots k g v (by rw [ht];exact hk)
  exact ⟨x,h1,fun e=>zlz hh (h2 e),h3⟩
 nt:=hs.nt
 hp:=hs.hp.ext hh
 base:=hs.base
 marks:=hs.marks
 ghost:=by rw [← hg,← zdL hh];exact hs.ghost
theorem Evo.ext {fl:Nat} (he:Evo fl E0 h0 w0 E h w) (hh:∀k,hget h k=hget h' k):Evo fl E0 h0 w0 E h' w where
 os:=he.os
 tape:=he.tape
 output:=he.output
 size:=he.size
 keep:=he.keep
 own:=fun b hb=>he.own b (by rwa [zdL hh])
 m1:=he.m1
 m2:=he.m2
 n:=he.n
 go:=fun i hi hs=>by
  rw [← hh] at hs
  obtain ⟨g1,g2⟩:=he.go i hi hs
  exact ⟨g1,g2.trans (zha hh i)⟩
theorem Evo.low {fl fl':Nat} (he:Evo fl' E0 h0 w0 E h w) (hl:fl≤fl'):Evo fl E0 h0 w0 E h w:=
 ⟨he.os,he.tape,he.output,he.size,he.keep,he.own,he.m1,he.m2,he.n,fun i hi=>he.go i (by omega)⟩
theorem Sat.at {nm:Nat} (hs:Sat cx E s a w):Sat (atCx cx nm) E s a w:=⟨hs.slots,hs.nt,hs.hp,hs.base,hs.marks,hs.ghost⟩
theorem Sat.un {nm:Nat} (hs:Sat (atCx cx nm) E s a w):Sat cx E s a w:=⟨hs.slots,hs.nt,hs.hp,hs.base,hs.marks,hs.ghost⟩
theorem Reach.un {nm:Nat} (hl:cx.fl≤nm) {K:AS→Prop} (hr:Reach (atCx cx nm) E h w K a w0):Reach cx E h w K a w0:=by
 obtain ⟨E1,s1,hk,hs,he⟩:=hr
 exact ⟨E1,s1,hk,hs.un,he.low hl⟩
end
def ownR (o:AV):List D→AV
 | []=>o
 |d::ds=> .tup (o::(d::ds).map .d)
theorem zj9:∀ds:List D,AV.idsL (ds.map .d)= []
 | []=>rfl
 |_::ds=>by simp only [List.map_cons,AV.idsL,AV.ids,zj9 ds,List.append_nil]
theorem zs2 {P:Program} {f:FuncId} {args:List AV} {k:Nat} {rows:List (List D)} {ds:List D} {h:AHeap} {nm fl j0:Nat} (hc:ACall P f 0 args [] (fun r h'=>r=ownR (.osl j0 k rows.length 0 rows.length) ds∧h'= [(j0,.arr k rows)])) (hids:AV.idsL args= []) (hnm:hget h nm=none) (hfl:fl≤nm):
    ACallAt P fl f args h (fun r h'=>r=ownR (.osl nm k rows.length 0 rows.length) ds∧h'=(nm,.arr k rows)::h):=by
  obtain ⟨hen,hc⟩:=hc
  refine ⟨hen,fun E w vs hs hr=>?_⟩
  have hno:∀ (E:Env) b,¬Own E [] b:=fun E b ⟨i,hi,_⟩=>by simp [hget] at hi
  have hs0:SatH (bare (Xs E h)) [] w:=⟨fun i o ho=>by simp [hget] at ho,fun i j b h1=>by simp [hget] at h1,fun b hb=>absurd hb (hno _ b),fun _ h=>h.elim,fun b hb=>by
    rcases hb with hb|hb|hb
    · exact (hs.own b hb).1
    · exact hs.mlt b hb
    · exact hs.nlt b hb⟩
  have hX0:∀b,b<w.heap.size→Xs (bare (Xs E h)) [] b→Xs E h b:=fun b _ hx=>by
    rcases hx with hx|hx|hx
    · exact absurd hx (hno _ b)
    · exact hx.elim
    · exact hx
  have hr0:Reps w (bare (Xs E h)) [] args vs.toList:=Reps.step hX0 (fun _ _ _=>rfl) _ _ (by rw [hids];simp) hr
  refine (hc _ w vs hs0 hr0).mono ?_
  rintro e w' ⟨v,E',r',h1,rfl,⟨rfl,rfl⟩,hs',hr',hev⟩
  have hkeep:∀b,b<w.heap.size→w'.heap[b]?=w.heap[b]?:=fun b hb=>hev.keep b hb (hno _ b)
  obtain ⟨E2,hE2⟩:∃E2,E2=E.set nm (E'.O j0) (E'.C j0):=⟨_,rfl⟩
  have hO:E2.O nm=E'.O j0:=by rw [hE2];simp [Env.set]
  have hC:E2.C nm=E'.C j0:=by rw [hE2];simp [Env.set]
  have hob:=hs'.heap j0 (.arr k rows) (by simp [hget])
  have hlt:∀b,E'.O j0=some b→w.heap.size≤b∧b<w'.heap.size:=fun b hb=>by
    have ho:Own E' [(j0,.arr k rows)] b:=⟨j0,by simp [hget],hb⟩
    exact ⟨(hev.own b ho).elim (fun h=>absurd h (hno _ b)) id,(hs'.own b ho).1⟩
  have c:Chg E h w E2 ((nm,.arr k rows)::h) w' nm:=
    { os:=hev.os,tape:=hev.tape,output:=hev.output,size:=hev.size
      envO:=fun j e=>by rw [hE2];simp [Env.set,e]
      envC:=fun j e=>by rw [hE2];simp [Env.set,e]
      M:=by rw [hE2];rfl
      N:=by rw [hE2];rfl
      hh:=fun j e=>by simp [hget,Ne.symm e]
      gi:=by unfold GoesOn;rw [hnm];trivial
      blk:=fun b hb _=>hkeep b hb
      new:=fun b _ hb=> .inr (hlt b (by rw [← hO];exact hb)) }
  have hXn:∀b,b<w'.heap.size→Xs E2 ((nm,.arr k rows)::h) b→Xs E' [(j0,.arr k rows)] b:=fun b _ hx=>by
    have hN:∀b,Xs E h b→Xs E' [(j0,.arr k rows)] b:=fun b hx=> .inr (.inr (by rw [hev.n];exact hx))
    rcases hx with ⟨j,hj,hb⟩|hx|hx
    · by_cases e:j=nm
      · subst e
        exact .inl ⟨j0,by simp [hget],by rw [← hO];exact hb⟩
      · exact hN b (.inl ⟨j,by simpa [hget,Ne.symm e] using hj,by rw [← c.envO j e];exact hb⟩)
    · exact hN b (.inr (.inl (by rwa [c.M] at hx)))
    · exact hN b (.inr (.inr (by rwa [c.N] at hx)))
  have hs2:SatH E2 ((nm,.arr k rows)::h) w':=c.satH hs (fun o ho=>by
    simp only [hget,if_true,Option.some.injEq] at ho
    subst ho
    simp only [RepObj,hO,hC] at hob ⊢
    rcases hob with g|⟨b,d,T,fz,h1,h2,h3,h4,h5,h6⟩
    · exact .inl g
    · exact .inr ⟨b,d,T,fz,h1,h2,h3,h4,RepRows.step hXn (fun _ _ _=>rfl) _ _ _ h5,h6⟩)
  refine ⟨v,E2,_,_,rfl,⟨rfl,rfl⟩,hs2,?_,?_,fun x y hxy=>c.rep hxy⟩
  · have base:∀v,Rep w' E' [(j0,.arr k rows)] (.osl j0 k rows.length 0 rows.length) v→Rep w' E2 ((nm,.arr k rows)::h) (.osl nm k rows.length 0 rows.length) v:=by
      intro v hr'
      simp only [Rep] at hr' ⊢
      obtain ⟨q1,xs,q2,q3,q4,q5⟩:=hr'
      simp only [hget,if_true,Option.some.injEq,AObj.arr.injEq] at q2
      obtain ⟨-,rfl⟩:=q2
      refine ⟨q1,rows,by simp [hget],q3,q4,?_⟩
      rw [hO,hC]
      exact q5
    cases ds with
    |nil=>exact base v hr'
    | cons d ds=>
      simp only [ownR] at hr' ⊢
      rw [Rep] at hr' ⊢
      obtain ⟨vs,rfl,hr'⟩:=hr'
      rw [Reps] at hr'
      obtain ⟨x,r,e,h2,h3⟩:=hr'
      refine ⟨vs,rfl,?_⟩
      rw [Reps]
      exact ⟨x,r,e,base x h2,Reps.step hXn (fun _ _ _=>rfl) _ _ (by rw [zj9];simp) h3⟩
  · have ev:=c.evo (fl:=fl) (.inr hfl)
    exact ⟨ev.os,ev.tape,ev.output,ev.size,fun b hb _=>hkeep b hb,ev.own,c.M,c.N,ev.go⟩
theorem EvoC.ext {E E':Env} {h0 h h1 h':AHeap} {w w':World} {fl fl':Nat} (he:EvoC fl E h0 w E' h w') (h0e:∀k,hget h0 k=hget h1 k) (hh:∀k,hget h k=hget h' k) (hfl:∀k,(hget h k).isSome→k<fl∨fl'≤k):EvoC fl' E h1 w E' h' w' where
 os:=he.os
 tape:=he.tape
 output:=he.output
 size:=he.size
 keep:=fun b hb hn=>he.keep b hb (by rwa [zdL h0e])
 own:=fun b hb=>by
  rw [← zdL hh] at hb
  rw [← zdL h0e]
  exact he.own b hb
 m:=he.m
 n:=he.n
 go:=fun i hi hs=>by
  rw [← hh] at hs
  rcases hfl i hs with hl|hl
  ·obtain ⟨g1,g2⟩:=he.go i hl hs
   exact ⟨by rwa [← h0e],((zha (fun k=>(h0e k).symm) i).trans g2).trans (zha hh i)⟩
  ·omega
theorem ACall.ext {P:Program} {f:FuncId} {args:List AV} {fl fl':Nat} {h h':AHeap} {K:AV→AHeap→Prop} (hc:ACall P f fl args h K) (hh:∀k,hget h k=hget h' k) (hfl:∀r h2,K r h2→∀k,(hget h2 k).isSome→k<fl∨fl'≤k):ACall P f fl' args h' K:=by
 refine ⟨hc.1,fun E w vs hs hr=>?_⟩
 have hh':∀k,hget h' k=hget h k:=fun k=>(hh k).symm
 refine (hc.2 E w vs (hs.ext hh') (Reps.step (fun b _ hx=>by unfold Xs at hx ⊢;rwa [zdL hh']) (fun _ _ _=>rfl) _ _ (fun j _=>zha hh' j) hr)).mono ?_
 rintro e w' ⟨v,E',r,h2,rfl,hk,hs',hr',hev⟩
 exact ⟨v,E',r,h2,rfl,hk,hs',hr',hev.ext hh (fun _=>rfl) (hfl r h2 hk)⟩
theorem zfj {P:Program} {f:FuncId} {args:List AV} {r0:AV} {h:AHeap} {i fl1 fl:Nat} {ob ob':AObj} (hc:ACall P f fl1 args [(i,ob)] (fun r h'=>r=r0∧h'= [(i,ob')])) (hi:i<fl1) (hg:hget h i=some ob) (hcl:∀j∈ob.ids,j=i) (ha:∀j∈AV.idsL args,j=i):
  ACallAt P fl f args h (fun r h'=>r=r0∧h'=hset h i ob'):=by
 obtain ⟨fl2,hfl2⟩:∃fl2,fl2=top fl h:=⟨_,rfl⟩
 have hlt:∀j,(hget h j).isSome→j<fl2:=fun j hj=>by rw [hfl2];exact zo4 hj
 have hil:i<fl2:=hlt i (by simp [hg])
 obtain ⟨p,hp⟩:∃p:Nat→Bool,p=fun j=>decide (j=i)||decide (fl2≤j):=⟨_,rfl⟩
 have hpi:p i=true:=by rw [hp];simp
 have hpj:∀j,(hget h j).isSome→p j=true→j=i:=fun j hj hpj=>by
  have:=hlt j hj
  rw [hp] at hpj
  have:j=i∨fl2≤j:=by simpa using hpj
  omega
 have he1:∀k,hget [(i,ob)] k=hget (hsel p h) k:=fun k=>by
  rw [zk]
  simp only [hget]
  by_cases hk:i=k
  ·subst hk;rw [if_pos rfl,if_pos hpi,hg]
  ·rw [if_neg hk]
   split
   ·rename_i hpk
    cases hh:hget h k with
    |none=>rfl
    |some o=>exact absurd (hpj k (by simp [hh]) hpk).symm hk
   ·rfl
 have hc2:=hc.ext (fl':=fl2) he1 (fun r h2 hk k hs=> .inl (by
  obtain ⟨_,rfl⟩:=hk
  simp only [hget] at hs
  split at hs
  ·omega
  ·cases hs))
 have:=ACall.frame (fl':=fl) hc2 hlt (fun j hj=>by rw [hp];simp;exact .inr hj) (fun j o ho hpj' k hk=>by
  have hj:=hpj j (by simp [ho]) hpj'
  subst hj
  rw [hg] at ho;cases ho
  rw [hcl k hk];exact hpi) (fun j hj=>by rw [ha j hj];exact hpi) (by rw [hfl2];exact zfd _ _) (fun r h' hk=>by
  obtain ⟨_,rfl⟩:=hk
  refine ⟨fun j hj hpj'=>?_,fun j hj=>?_⟩
  ·rw [hpj j hj hpj'];simp [hget]
  ·simp only [hget] at hj
   split at hj
   ·rename_i e;rw [← e];exact hpi
   ·cases hj)
 refine ⟨this.1,fun E w vs hs hr=>(this.2 E w vs hs hr).mono ?_⟩
 rintro e w' ⟨v,E',r,h2,rfl,⟨h1,⟨rfl,rfl⟩,rfl⟩,hs',hr',hev,hmv⟩
 have hex:∀k,hget ([(i,ob')]++hsel (fun j=> !p j) h) k=hget (hset h i ob') k:=fun k=>by
  rw [zb1,zk]
  simp only [hget]
  by_cases hk:i=k
  ·subst hk
   rw [if_pos rfl,ze hg]
   rfl
  ·rw [if_neg hk,Option.none_or,zB (fun e=>hk e.symm)]
   split
   ·rfl
   ·rename_i hpk
    cases hh:hget h k with
    |none=>rfl
    |some o=>exact absurd (hpj k (by simp [hh]) (by simpa using hpk)).symm hk
 exact ⟨v,E',r,_,rfl,⟨rfl,rfl⟩,hs'.ext hex,zlz hex hr',hev.ext (fun _=>rfl) hex (fun k hk=>by
  rcases Nat.lt_or_ge k fl with hl|hl
  ·exact .inl hl
  ·exact .inr hl),fun x y hxy=>zlz hex (hmv x y hxy)⟩
def gop (cx:Cx) (tab:Tab) (owns:List FuncId) (nm:Nat) (s:AS) (G:Bool) (o:Oper) (R:Bool→AV→Ch→List Nat→Prop):Prop:=
 let other:=fop (atCx cx nm) tab s G o (fun g v h'=>match chOf nm cx.P s o.op h' with|some (c,rd)=>R g v c rd|none=>False)
 match o.op with
 | .call c=>(match zaW cx.P s c with
  |some (f,args,vc)=>if owns.contains f=true then G=true∧vc∧AV.idsL args= []∧∃k rows,(∀fl,ACall cx.P f fl args [] (fun r h'=>r= .osl fl k rows.length 0 rows.length∧h'= [(fl,.arr k rows)]))∧R true (.osl nm k rows.length 0 rows.length) (.new nm (.arr k rows)) []
   else if owns.contains (f+1000000)=true then G=true∧vc∧∃i fl1 ob r0 ob',hget s.h i=some ob∧i<fl1∧(∀j∈ob.ids,j=i)∧(∀j∈AV.idsL args,j=i)∧ACall cx.P f fl1 args [(i,ob)] (fun r h'=>r=r0∧h'= [(i,ob')])∧R true r0 (.put i ob') []
   else if owns.contains (f+3000000)=true then G=true∧vc∧AV.idsL args= []∧∃j k rows d,ACall cx.P f 0 args [] (fun r h'=>r= .tup [.osl j k rows.length 0 rows.length,.d d]∧h'= [(j,.arr k rows)])∧R true (.tup [.osl nm k rows.length 0 rows.length,.d d]) (.new nm (.arr k rows)) []
   else if owns.contains (f+2000000)=true then G=true∧vc∧∃i fl1 ob r0,hget s.h i=some ob∧i<fl1∧(∀j∈ob.ids,j=i)∧(∀j∈AV.idsL args,j=i)∧ACall cx.P f fl1 args [(i,ob)] (fun r h'=>r=r0∧h'= [(i,ob)])∧R true r0 .none [i] else other
  |none=>other)
 |_=>other
def touch (a b:Option Nat×List Nat):Bool:=match a.1 with
 |none=>false
 |some i=>b.1==some i||b.2.contains i
def confG (all:Array Oper) (fa fb:Option Nat×List Nat) (a b:Oper):Bool:=
 (match a.dst with
  |some d=>(zeb all b).contains d||b.dst==some d
  |none=>false)||
 (match b.dst with
  |some d=>(zeb all a).contains d
  |none=>false)||
 (touch fa fb||touch fb fa)
def zaq (ops:Array Oper) (F:List (Option Nat×List Nat)):Bool:=
 (List.range ops.size).all fun j=>match ops[j]? with
  |some b=>(b.after.toList.all fun e=> !Region.binds .any e||decide (e.on<j))&&(List.range j).all fun i=>match ops[i]? with
   |some a=> !confG ops (F.getD i (none,[])) (F.getD j (none,[])) a b||anc ops (j+1) j i
   |none=>true
  |none=>true
def zgm (ops:Array Oper) (F:List (Option Nat×List Nat)):Bool:=(List.range F.length).all fun i=>anc ops (F.length+1) F.length i
def gops (cx:Cx) (tab:Tab) (owns:List FuncId) (all:Array Oper):Nat→List Oper→List (Option Nat×List Nat)→(AS→Prop)→AS→Prop
 |_,[],F,K,s=>zaq all F.reverse=true∧K s
 | nm,o::r,F,K,s=>match zaH s all o.guard with
  |some G=>if (owns.contains 0&&r.isEmpty)=true then zaq all F.reverse=true∧zgm all F.reverse=true∧aopT cx tab G o K s
   else dstOk cx.nt o.dst∧hget s.h nm=none∧gop cx tab owns nm s G o (fun g v c rd=>gops cx tab owns all (nm+1) r ((c.at,rd)::F) K ({ s with h:=c.app s.h }.put o.dst g v))
  |none=>False
section
variable {cx : Cx} {tab : Tab} {owns : List FuncId} {ops : Array Oper} {s : AS}
structure GLoc (cx:Cx) (all:Array Oper) (s:AS) (r:RG):Prop where
 put:∀i ob,r.c= .put i ob→(hget s.h i).isSome
 new:∀i ob,r.c= .new i ob→hget s.h i=none
 step:∃G,zaH s all r.o.guard=some G∧∀s':AS,(∀x∈zaE r.o.op,s.ev x=s'.ev x∧known s x=known s' x)→zaH s' all r.o.guard=some G→zi2 s.h r.c r.rd s'.h→
  ∀ (E:Env) (a:Act) (w:World) (K:AS→Prop) (Q:Exit→Act→World→Prop),Sat cx E s' a w→K ({ s' with h:=r.c.app s'.h }.put r.o.dst r.g r.v)→
   if Region.wanted r.o (yielded all a.tmps) then r.o.wpIn cx.F 0 cx.P a w (Reach cx E s'.h w K) Q else (∀f,r.o.about cx.P w a.eval=some f→cx.F.fn f)∧Reach cx E s'.h w K (a.put r.o.dst undef) w
def Shaped (nm:Nat) (h':AHeap) (c:Ch):Prop:=(∀i ob,c= .put i ob→hget h' i=some ob)∧(∀i ob,c= .new i ob→i=nm)
theorem zhb {nm:Nat} {h':AHeap} :Shaped nm h' .none:=by
 constructor
 ·intro i ob e;cases e
 ·intro i ob e;cases e
theorem zit {nm:Nat} {h':AHeap} {ob:AObj} :Shaped nm h' (.new nm ob):=by
 constructor
 ·intro i ob e;cases e
 ·intro i ob e;cases e;rfl
theorem znM {nm i:Nat} {h':AHeap} {ob:AObj} (h:hget h' i=some ob):Shaped nm h' (.put i ob):=by
 constructor
 ·intro i ob e;cases e;exact h
 ·intro i ob e;cases e
theorem zhc {nm:Nat} {h':AHeap} {c:Ch} {rd l:List Nat} (h:(hget h' nm).map (fun ob=>(Ch.new nm ob,l))=some (c,rd)):Shaped nm h' c:=by
 obtain ⟨ob,e1,e2⟩:=Option.map_eq_some_iff.1 h
 cases e2
 exact zit
theorem zhd {nm i:Nat} {h':AHeap} {c:Ch} {rd l:List Nat} (h:(hget h' i).map (fun ob=>(Ch.put i ob,l))=some (c,rd)):Shaped nm h' c:=by
 obtain ⟨ob,e1,e2⟩:=Option.map_eq_some_iff.1 h
 cases e2
 exact znM e1
theorem zbA {nm:Nat} {h':AHeap} {c:Ch} {rd l:List Nat} (h:some (Ch.none,l)=some (c,rd)):Shaped nm h' c:=by
 cases h
 exact zhb
theorem zrw {nm:Nat} {P:Program} {op:Op} {h':AHeap} {c:Ch} {rd:List Nat} (hc:chOf nm P s op h'=some (c,rd)):Shaped nm h' c:=by
 unfold chOf at hc
 split at hc
 case h_1=>exact zhc hc
 case h_2=>
  simp only [Option.some.injEq] at hc
  split at hc
  ·cases hc;exact zit
  ·cases hc;exact zhb
 case h_3=>exact zhc hc
 case h_4=>exact zbA hc
 case h_5=>exact zbA hc
 case h_6=>exact zbA hc
 case h_7=>
  split at hc
  ·split at hc
   ·split at hc
    ·exact zhd hc
    ·cases hc
   ·cases hc
  ·split at hc
   ·exact zbA hc
   ·cases hc
  ·split at hc
   ·exact zbA hc
   ·cases hc
  ·cases hc
 case h_8=>
  split at hc
  ·exact zbA hc
  ·split at hc
   ·exact zhd hc
   ·exact zbA hc
  ·cases hc
theorem ztt (ht:TabOk cx.P tab) {nm:Nat} {G:Bool} {o:Oper} {R:Bool→AV→Ch→List Nat→Prop} (hG:zaH s ops o.guard=some G) (hd:dstOk cx.nt o.dst) (hnm:hget s.h nm=none) (hl:cx.fl≤nm) (h:gop cx tab owns nm s G o R):
  ∃g v c rd,R g v c rd∧GLoc cx ops s ⟨o,g,v,c,rd⟩:=by
 have other:fop (atCx cx nm) tab s G o (fun g v h'=>match chOf nm cx.P s o.op h' with|some (c,rd)=>R g v c rd|none=>False)→∃g v c rd,R g v c rd∧GLoc cx ops s ⟨o,g,v,c,rd⟩:=by
  intro h
  obtain ⟨g,v,h',h1,h2,h3⟩:=zpj h
  split at h1
  ·rename_i c rd hc
   obtain ⟨q1,q2⟩:=zrv hnm h2 h3 hc
   obtain ⟨p1,p2⟩:=zrw hc
   refine ⟨g,v,c,rd,h1,fun i ob e=>?_,fun i ob e=>?_,G,hG,?_⟩
   ·have hi:=p1 i ob e
    have e:c= .put i ob:=e
    rw [q1,e] at hi
    cases hh:hget s.h i with
    |none=>simp only [Ch.app] at hi;rw [zdr hh,hh] at hi;cases hi
    |some o=>rfl
   ·have e:c= .new i ob:=e
    rw [p2 i ob e];exact hnm
   ·intro s' hev hgd hgood E a w K Q hs hK
    dsimp only at hev hgd hgood hK ⊢
    have hf:fop (atCx cx nm) tab s' G o (fun g v h'=>K ({ s' with h:=h' }.put o.dst g v)):=by
     refine fop_e (s:= { s with h:=s'.h }) (fun x hx=>?_) rfl (q2 s'.h hgood _ hK)
     have:=hev x hx
     have e1:AS.ev { s with h:=s'.h } x=s.ev x:=by cases x<;>rfl
     have e2:known { s with h:=s'.h } x=known s x:=by cases x<;>rfl
     rw [e1,e2]
     exact this
    have hw:=zfN (cx:=atCx cx nm) ht (Q:=fun _ _ _=>False) (E:=E) hs.at hgd (zmY (K:=K) hd hf)
    split at hw
    ·rename_i hwt
     rw [if_pos hwt]
     exact zaU hw (fun a w hr=>hr.un hl)
    ·rename_i hwt
     rw [if_neg hwt]
     exact ⟨hw.1,hw.2.un hl⟩
  ·exact h1.elim
 unfold gop at h
 dsimp only at h
 split at h
 ·rename_i c hop
  split at h
  ·rename_i f args vc hco
   split at h
   ·obtain ⟨rfl,hvc,hids,k,rows,hcall,hR⟩:=h
    refine ⟨true,_,_,_,hR,(by intro i ob e;cases e),(by intro i ob e;cases e;exact hnm),true,hG,?_⟩
    intro s' hev hgd hgood E a w K Q hs hK
    dsimp only at hev hgd hgood hK ⊢
    rw [hop] at hev
    have hnv:¬isVal cx.P (.call c)=true:=by
     obtain ⟨fo,hcal⟩:∃fo,c.callee= .value fo:=by
      unfold zaW at hco
      cases hc:c.callee<;>rw [hc] at hco<;>first|exact ⟨_,rfl⟩|cases hco
     simp [isVal,zcg,hcal]
    have hco':zaW cx.P s' c=some (f,args,vc):=by rw [← zff (fun x hx=>(hev x hx).1)];exact hco
    rw [zdq hs.slots hgd]
    simp only [if_true]
    refine zfM hs hd ?_
    unfold aop1
    rw [hop]
    simp only [if_neg hnv,hco']
    refine ⟨hvc,(zs2 (ds:= []) (hcall 0) hids hgood.2 hl).mono ?_⟩
    rintro r' h' ⟨rfl,rfl⟩
    exact hK
   split at h
   ·obtain ⟨rfl,hvc,i,fl1,ob,r0,ob',hgi,hil,hcl,ha,hcall,hR⟩:=h
    refine ⟨true,_,_,_,hR,(by intro i ob e;cases e;simp [hgi]),(by intro i ob e;cases e),true,hG,?_⟩
    intro s' hev hgd hgood E a w K Q hs hK
    dsimp only at hev hgd hgood hK ⊢
    rw [hop] at hev
    have hnv:¬isVal cx.P (.call c)=true:=by
     obtain ⟨fo,hcal⟩:∃fo,c.callee= .value fo:=by
      unfold zaW at hco
      cases hc:c.callee<;>rw [hc] at hco<;>first|exact ⟨_,rfl⟩|cases hco
     simp [isVal,zcg,hcal]
    have hco':zaW cx.P s' c=some (f,args,vc):=by rw [← zff (fun x hx=>(hev x hx).1)];exact hco
    rw [zdq hs.slots hgd]
    simp only [if_true]
    refine zfM hs hd ?_
    unfold aop1
    rw [hop]
    simp only [if_neg hnv,hco']
    refine ⟨hvc,(zfj hcall hil (hgood.2.trans hgi) hcl ha).mono ?_⟩
    rintro r' h' ⟨rfl,rfl⟩
    exact hK
   split at h
   ·obtain ⟨rfl,hvc,hids,j,k,rows,d,hcall,hR⟩:=h
    refine ⟨true,_,_,_,hR,(by intro i ob e;cases e),(by intro i ob e;cases e;exact hnm),true,hG,?_⟩
    intro s' hev hgd hgood E a w K Q hs hK
    dsimp only at hev hgd hgood hK ⊢
    rw [hop] at hev
    have hnv:¬isVal cx.P (.call c)=true:=by
     obtain ⟨fo,hcal⟩:∃fo,c.callee= .value fo:=by
      unfold zaW at hco
      cases hc:c.callee<;>rw [hc] at hco<;>first|exact ⟨_,rfl⟩|cases hco
     simp [isVal,zcg,hcal]
    have hco':zaW cx.P s' c=some (f,args,vc):=by rw [← zff (fun x hx=>(hev x hx).1)];exact hco
    rw [zdq hs.slots hgd]
    simp only [if_true]
    refine zfM hs hd ?_
    unfold aop1
    rw [hop]
    simp only [if_neg hnv,hco']
    refine ⟨hvc,(zs2 (ds:= [d]) hcall hids hgood.2 hl).mono ?_⟩
    rintro r' h' ⟨rfl,rfl⟩
    exact hK
   split at h
   ·obtain ⟨rfl,hvc,i,fl1,ob,r0,hgi,hil,hcl,ha,hcall,hR⟩:=h
    refine ⟨true,_,_,_,hR,(by intro i ob e;cases e),(by intro i ob e;cases e),true,hG,?_⟩
    intro s' hev hgd hgood E a w K Q hs hK
    dsimp only at hev hgd hgood hK ⊢
    rw [hop] at hev
    have hnv:¬isVal cx.P (.call c)=true:=by
     obtain ⟨fo,hcal⟩:∃fo,c.callee= .value fo:=by
      unfold zaW at hco
      cases hc:c.callee<;>rw [hc] at hco<;>first|exact ⟨_,rfl⟩|cases hco
     simp [isVal,zcg,hcal]
    have hco':zaW cx.P s' c=some (f,args,vc):=by rw [← zff (fun x hx=>(hev x hx).1)];exact hco
    rw [zdq hs.slots hgd]
    simp only [if_true]
    refine zfM hs hd ?_
    unfold aop1
    rw [hop]
    simp only [if_neg hnv,hco']
    have hgs:=(hgood.1 i (by simp)).trans hgi
    refine ⟨hvc,(zfj hcall hil hgs hcl ha).mono ?_⟩
    rintro r' h' ⟨rfl,rfl⟩
    rw [zfK hgs]
    exact hK
   ·exact other h
  ·exact other h
 ·exact other h
def OutsG (cx:Cx) (all:Array Oper) (L:List RG) (s:AS):Prop:=∀ (i:Nat) (r:RG),L[i]?=some r→GLoc cx all (lexG L i s) r
def endG (cx:Cx) (tab:Tab) (ops:Array Oper) (L:List RG) (K:AS→Prop) (s:AS):Option Oper→Prop
 |none=>K s
 |some z=>(∀i,i<L.length→anc ops (L.length+1) L.length i=true)∧∃G,zaH s ops z.guard=some G∧aopT cx tab G z K s
theorem zka (ht:TabOk cx.P tab):∀ (l:List Oper) (nm:Nat) (F:List RG) {K:AS→Prop} {s:AS},cx.fl≤nm→gops cx tab owns ops nm l (F.map (fun r=>(r.c.at,r.rd))).reverse K s→
  ∃ (L:List RG) (T:Option Oper),L.map (·.o)++T.toList=l∧zaq ops ((F++L).map (fun r=>(r.c.at,r.rd)))=true∧endG cx tab ops (F++L) K (lexG L L.length s) T∧OutsG cx ops L s
 | [],nm,F,K,s,_,h=>⟨[],none,rfl,by simpa using h.1,h.2,fun i r hr=>by simp at hr⟩
 | o::l,nm,F,K,s,hl,h=>by
  simp only [gops] at h
  split at h
  ·rename_i G hG
   split at h
   ·rename_i hq
    simp only [Bool.and_eq_true,List.isEmpty_iff] at hq
    obtain ⟨_,rfl⟩:=hq
    obtain ⟨h1,h2,h3⟩:=h
    rw [List.reverse_reverse] at h1 h2
    refine ⟨[],some o,rfl,by simpa using h1,⟨fun i hi=>?_,G,by rw [show ([]:List RG).length=0 from rfl,zcS];exact hG,by rw [show ([]:List RG).length=0 from rfl,zcS];exact h3⟩,fun i r hr=>by simp at hr⟩
    rw [List.append_nil] at hi ⊢
    have:=List.all_eq_true.1 h2 i (by simpa using hi)
    simpa using this
   obtain ⟨hd,hnm,h⟩:=h
   obtain ⟨g,v,c,rd,h1,h2⟩:=ztt ht hG hd hnm hl h
   obtain ⟨L,T,q1,q2,q3,q4⟩:=zka ht l (nm+1) (F++ [⟨o,g,v,c,rd⟩]) (by omega) (by simpa using h1)
   rw [List.append_assoc,List.singleton_append] at q2 q3
   refine ⟨⟨o,g,v,c,rd⟩::L,T,by simp [q1],q2,by rw [List.length_cons,zef];exact q3,fun i r hr=>?_⟩
   cases i with
   |zero=>
    have:RG.mk o g v c rd=r:=by simpa using hr
    subst this
    rw [zcS]
    exact h2
   |succ i=>
    rw [zef]
    exact q4 i r (by simpa using hr)
  ·exact h.elim
theorem zm4 {F:List (Option Nat×List Nat)} (hd:zaq ops F=true) {i j:Nat} {a b:Oper} (hij:i<j) (ha:ops[i]?=some a) (hb:ops[j]?=some b) (hc:confG ops (F.getD i (none,[])) (F.getD j (none,[])) a b=true):anc ops (j+1) j i=true:=by
 unfold zaq at hd
 have hj:j<ops.size:=(Array.getElem?_eq_some_iff.1 hb).1
 have:=List.all_eq_true.1 hd j (by simpa using hj)
 rw [hb] at this
 simp only [Bool.and_eq_true] at this
 have:=List.all_eq_true.1 this.2 i (by simpa using hij)
 rw [ha] at this
 dsimp only at this
 rw [hc] at this
 simpa using this
theorem zrx {F:List (Option Nat×List Nat)} (hd:zaq ops F=true) {j:Nat} {b:Oper} (hb:ops[j]?=some b):∀e∈b.after.toList,Region.binds .any e=true→e.on<j:=by
 unfold zaq at hd
 have hj:j<ops.size:=(Array.getElem?_eq_some_iff.1 hb).1
 have:=List.all_eq_true.1 hd j (by simpa using hj)
 rw [hb] at this
 simp only [Bool.and_eq_true] at this
 intro e he hbi
 have:=List.all_eq_true.1 this.1 e he
 simpa [hbi] using this
theorem zlA {F:List (Option Nat×List Nat)} {listed:Array Bool} (hd:zaq ops F=true) (hsz:listed.size=ops.size) (hr:Region.ready .any ops listed= []):∀i,i<ops.size→listed.getD i false=true:=by
 intro i
 induction i using Nat.strongRecOn with
 | _ i ih=>
  intro hi
  cases hl:listed.getD i false with
  |true=>rfl
  | false=>
   have hmem:i∈Region.ready .any ops listed:=by
    refine mem_ready.2 ⟨?_,ops[i],by simp [hi],fun e he hb=>?_⟩
    ·rw [Array.getD_eq_getD_getElem?] at hl ⊢
     rw [Array.getElem?_eq_getElem (by omega)] at hl ⊢
     exact hl
    ·have:=zrx hd (j:=i) (b:=ops[i]) (Array.getElem?_eq_getElem hi) e (Array.mem_toList_iff.2 he) hb
     exact ih _ this (by omega)
   rw [hr] at hmem
   cases hmem
theorem zi4 {a b:Option Nat×List Nat} {k:Nat} (ha:a.1=some k) (hb:b.1=some k∨k∈b.2):touch a b=true:=by
 unfold touch
 rw [ha]
 rcases hb with hb|hb
 ·simp [hb]
 ·simp [hb]
theorem zpv (ht:TabOk cx.P tab) {L:List RG} {T:Option Oper} (hd:zaq ops (L.map (fun r=>(r.c.at,r.rd)))=true) (hL:L.map (·.o)++T.toList=ops.toList) {s0:AS} (ho:OutsG cx ops L s0) {E0:Env} {w0:World} {K:AS→Prop} (hK:endG cx tab ops L K (lexG L L.length s0) T):
  ∀ (fuel:Nat) (listed:Array Bool) (E:Env) (a:Act) (w:World),listed.size=ops.size→listed.toList.countP (fun b=>b==false)=fuel→
   (∀ (i:Nat) o,ops[i]?=some o→listed.getD i false=true→∀e∈o.after.toList,Region.binds .any e=true→listed.getD e.on false=true)→(T≠none→listed.getD L.length false=false)→
   Sat cx E (selG L (fun i=>listed.getD i false) s0) a w→Evo cx.fl E0 s0.h w0 E (selG L (fun i=>listed.getD i false) s0).h w→
   wpAnyIn cx.F 0 cx.P .any ops (fun e a' w'=>e= .normal∧Reach cx E0 s0.h w0 K a' w') fuel listed a w:=by
 have hlen:L.length+T.toList.length=ops.size:=by
  have:=congrArg List.length hL
  simpa using this
 have hget:∀ (l:Nat) (r:RG),L[l]?=some r→ops[l]?=some r.o:=fun l r hr=>by
  have hl:l<L.length:=(List.getElem?_eq_some_iff.1 hr).1
  have:=congrArg (fun x:List Oper=>x[l]?) hL
  simp only [List.getElem?_append_left (show l<(L.map (·.o)).length by simpa using hl),List.getElem?_map,hr,Option.map_some,Array.getElem?_toList] at this
  exact this.symm
 have hfoot:∀ (l:Nat) (r:RG),L[l]?=some r→(L.map (fun r=>(r.c.at,r.rd))).getD l (none,[])=(r.c.at,r.rd):=fun l r hr=>by simp [List.getD_eq_getElem?_getD,hr]
 have full:∀ (listed:Array Bool) (E:Env) (a:Act) (w:World),(∀i,i<L.length→listed.getD i false=true)→Sat cx E (selG L (fun i=>listed.getD i false) s0) a w→Evo cx.fl E0 s0.h w0 E (selG L (fun i=>listed.getD i false) s0).h w→
   Sat cx E (lexG L L.length s0) a w∧Evo cx.fl E0 s0.h w0 E (lexG L L.length s0).h w:=by
  intro listed E a w hall hs he
  have hSS:∀ (i:Nat) (r:RG),L[i]?=some r→listed.getD i false=decide (i<L.length):=fun i r hr=>by
   have hi:i<L.length:=(List.getElem?_eq_some_iff.1 hr).1
   rw [hall i (by omega),decide_eq_true hi]
  have hh:∀k,Go.Aw.hget (selG L (fun i=>listed.getD i false) s0).h k=Go.Aw.hget (lexG L L.length s0).h k:=fun k=>zfi k L _ _ _ _ rfl (fun i r hr _=>hSS i r hr)
  refine ⟨hs.ext (fun k=>zg9 (Q:=fun _=>True) L _ _ _ _ (fun _ _=>rfl) (fun i r hr _=>hSS i r hr) k trivial) hh ?_,he.ext hh⟩
  unfold lexG
  rw [zj7,zj7]
 have done:∀ (listed:Array Bool) (E:Env) (a:Act) (w:World),(∀i,i<ops.size→listed.getD i false=true)→(T≠none→listed.getD L.length false=false)→Sat cx E (selG L (fun i=>listed.getD i false) s0) a w→Evo cx.fl E0 s0.h w0 E (selG L (fun i=>listed.getD i false) s0).h w→
   (Exit.normal=Exit.normal∧Reach cx E0 s0.h w0 K a w):=by
  intro listed E a w hall hT hs he
  cases T with
  |some z=>
   have:=hT (by simp)
   rw [hall L.length (by simp at hlen;omega)] at this
   cases this
  |none=>
   obtain ⟨h1,h2⟩:=full listed E a w (fun i hi=>hall i (by omega)) hs he
   exact ⟨rfl,E,lexG L L.length s0,hK,h1,h2⟩
 have hr0:∀listed:Array Bool,listed.size=ops.size→(∀i,i<ops.size→listed.getD i false=true)→Region.ready .any ops listed= []:=by
  intro listed hsz hall
  cases hr:Region.ready .any ops listed with
  |nil=>rfl
  |cons i l=>
   have hi:i∈Region.ready .any ops listed:=by rw [hr];simp
   obtain ⟨h1,o,h2,_⟩:=mem_ready.1 hi
   have hlt:i<ops.size:=(Array.getElem?_eq_some_iff.1 h2).1
   have h3:=hall i hlt
   rw [Array.getD_eq_getD_getElem?,Array.getElem?_eq_getElem (by omega)] at h1 h3
   simp only [Option.getD_some] at h1 h3
   rw [h1] at h3;cases h3
 intro fuel
 induction fuel with
 | zero=>
  intro listed E a w hsz hc hcl hT hs he
  have hall:∀i,i<ops.size→listed.getD i false=true:=fun i hi=>by
   have h0:=List.countP_eq_zero.1 hc (listed[i]'(by omega)) (by simp)
   rw [Array.getD_eq_getD_getElem?,Array.getElem?_eq_getElem (by omega)]
   simpa using h0
  exact ⟨hr0 listed hsz hall,done listed E a w hall hT hs he⟩
 | succ fuel ih=>
  intro listed E a w hsz hc hcl hT hs he
  refine ⟨fun hr=>done listed E a w (zlA hd hsz hr) hT hs he,fun i hi=>?_⟩
  obtain ⟨hun,o,hoi,hdep⟩:=mem_ready.1 hi
  have hlt:i<ops.size:=(Array.getElem?_eq_some_iff.1 hoi).1
  have hun':listed[i]?=some false:=by
   rw [Array.getD_eq_getD_getElem?,Array.getElem?_eq_getElem (by omega)] at hun
   rw [Array.getElem?_eq_getElem (by omega)]
   simpa using hun
  have hSi:listed.getD i false=false:=by rw [Array.getD_eq_getD_getElem?,hun'];rfl
  have hdep':∀o',ops[i]?=some o'→∀e∈o'.after.toList,Region.binds .any e=true→listed.getD e.on false=true:=fun o' ho' e he' hb=>by
   rw [hoi] at ho';cases ho'
   exact hdep e (by simpa using he') hb
  rcases Nat.lt_or_ge i L.length with hiL|hiL
  rotate_left
  ·-- the last one
   cases T with
   |none=>simp at hlen;omega
   | some z=>
    simp only [Option.toList_some,List.length_singleton] at hlen
    obtain rfl:i=L.length:=by omega
    have hoz:o=z:=by
     have:=congrArg (fun x:List Oper=>x[L.length]?) hL
     simp only [Option.toList_some] at this
     rw [List.getElem?_append_right (by simp)] at this
     simp only [List.length_map,Nat.sub_self,List.getElem?_cons_zero,Array.getElem?_toList] at this
     rw [hoi] at this
     exact (Option.some.inj this).symm
    subst hoz
    obtain ⟨hanc,G,hG,hz⟩:=hK
    have hall:∀l,l<L.length→listed.getD l false=true:=fun l hl=>zcC (S:=fun i=>listed.getD i false) hcl _ L.length l (hanc l hl) hdep'
    obtain ⟨hs1,he1⟩:=full listed E a w hall hs he
    have hw:=zfN (Q:=fun _ _ _=>False) ht hs1 hG hz
    have hS':∀k,(listed.setIfInBounds L.length true).getD k false=if k=L.length then true else listed.getD k false:=fun k=>zgF listed L.length k (by omega)
    have hall':∀l,l<ops.size→(listed.setIfInBounds L.length true).getD l false=true:=fun l hl=>by
     rw [hS'];split
     ·rfl
     ·exact hall l (by omega)
    have hc':=zec listed L.length fuel hun' hc
    have hf0:fuel=0:=by
     rw [← hc',List.countP_eq_zero]
     intro b hb
     obtain ⟨k,hk,rfl⟩:=List.getElem_of_mem hb
     have hk':k<ops.size:=by simp at hk;omega
     have:=hall' k hk'
     rw [Array.getD_eq_getD_getElem?,Array.getElem?_eq_getElem (by simpa using hk)] at this
     rw [Array.getElem_toList]
     simp only [Option.getD_some] at this
     rw [this]
     decide
    have next:∀a1 w1,Reach cx E (lexG L L.length s0).h w K a1 w1→wpAnyIn cx.F 0 cx.P .any ops (fun e a' w'=>e= .normal∧Reach cx E0 s0.h w0 K a' w') fuel (listed.setIfInBounds L.length true) a1 w1:=by
     rintro a1 w1 ⟨E1,s1,hk1,hs2,he2⟩
     subst hf0
     exact ⟨hr0 _ (by simpa using hsz) hall',rfl,E1,s1,hk1,hs2,he1.trans he2⟩
    unfold wpOpIn
    rw [hoi]
    dsimp only
    split at hw
    ·rename_i hwt
     rw [if_pos hwt]
     exact zaU hw next
    ·rename_i hwt
     rw [if_neg hwt]
     exact ⟨hw.1,next _ _ hw.2⟩
  obtain ⟨r,hr⟩:∃r,L[i]?=some r:=⟨_,List.getElem?_eq_getElem hiL⟩
  have hro:r.o=o:=Option.some.inj ((hget i r hr).symm.trans hoi)
  subst hro
  obtain ⟨hput,hnew,G,hG,hstep⟩:=ho i r hr
  have before:∀ (l:Nat) (r':RG),L[l]?=some r'→l<i→confG ops (r'.c.at,r'.rd) (r.c.at,r.rd) r'.o r.o=true→listed.getD l false=true:=fun l r' hr' hl hcf=>
   zcC (S:=fun i=>listed.getD i false) hcl _ i l (zm4 hd hl (hget l r' hr') hoi (by rw [hfoot l r' hr',hfoot i r hr];exact hcf)) hdep'
  have behind:∀ (l:Nat) (r':RG),L[l]?=some r'→i<l→confG ops (r.c.at,r.rd) (r'.c.at,r'.rd) r.o r'.o=true→listed.getD l false=false:=fun l r' hr' hl hcf=>by
   cases hSl:listed.getD l false with
   |false=>rfl
   |true=>
    have:=zcC (S:=fun i=>listed.getD i false) hcl _ l i (zm4 hd hl hoi (hget l r' hr') (by rw [hfoot l r' hr',hfoot i r hr];exact hcf)) (fun o' ho'=>hcl l o' ho' hSl)
    rw [hSi] at this;cases this
  have agree:∀ (l:Nat) (r':RG),L[l]?=some r'→(l<i→confG ops (r'.c.at,r'.rd) (r.c.at,r.rd) r'.o r.o=true)→(i<l→confG ops (r.c.at,r.rd) (r'.c.at,r'.rd) r.o r'.o=true)→listed.getD l false=decide (l<i):=fun l r' hr' h1 h2=>by
   rcases Nat.lt_trichotomy l i with h|h|h
   ·rw [before l r' hr' h (h1 h),decide_eq_true h]
   ·subst h;rw [hSi];simp
   ·rw [behind l r' hr' h (h2 h),decide_eq_false (by omega)]
  have hslots:∀k,k∈zeb ops r.o→lk (selG L (fun i=>listed.getD i false) s0).t k=lk (lexG L i s0).t k:=
   zg9 (Q:=fun k=>k∈zeb ops r.o) L _ _ _ _ (fun _ _=>rfl) (fun l r' hr' ⟨d,hd1,hd2⟩=>agree l r' hr'
    (fun _=>by unfold confG;rw [hd1];simp [hd2])
    (fun _=>by unfold confG;rw [hd1];simp [hd2]))
  have hev:=zmZ (s:=lexG L i s0) (s':=selG L (fun i=>listed.getD i false) s0) (l:=zaE r.o.op) (fun k hk=>(hslots k (List.mem_append_left _ hk)).symm)
  have hgd:zaH (selG L (fun i=>listed.getD i false) s0) ops r.o.guard=some G:=by
   rw [← hG]
   exact zg0 (fun k hk=>hslots k (List.mem_append_right _ hk))
  have hname:∀k,r.c.at=some k∨k∈r.rd→Go.Aw.hget (selG L (fun i=>listed.getD i false) s0).h k=Go.Aw.hget (lexG L i s0).h k:=fun k hk=>
   zfi k L _ _ _ _ rfl (fun l r' hr' hm=>agree l r' hr'
    (fun _=>by
     have:=zi4 (a:=(r'.c.at,r'.rd)) (b:=(r.c.at,r.rd)) hm hk
     unfold confG;simp [this])
    (fun _=>by
     have:=zi4 (a:=(r'.c.at,r'.rd)) (b:=(r.c.at,r.rd)) hm hk
     unfold confG;simp [this]))
  have hgood:zi2 (lexG L i s0).h r.c r.rd (selG L (fun i=>listed.getD i false) s0).h:=by
   refine ⟨fun k hk=>hname k (.inr hk),?_⟩
   cases hcc:r.c with
   |none=>trivial
   |put k ob=>exact hname k (.inl (by rw [hcc];rfl))
   |new k ob=>exact (hname k (.inl (by rw [hcc];rfl))).trans (hnew k ob hcc)
  have hw:=hstep (selG L (fun i=>listed.getD i false) s0) hev hgd hgood E a w (fun t=>t=({ selG L (fun i=>listed.getD i false) s0 with h:=r.c.app (selG L (fun i=>listed.getD i false) s0).h } :AS).put r.o.dst r.g r.v) (fun _ _ _=>False) hs rfl
  have next:∀a1 w1,Reach cx E (selG L (fun i=>listed.getD i false) s0).h w (fun t=>t=({ selG L (fun i=>listed.getD i false) s0 with h:=r.c.app (selG L (fun i=>listed.getD i false) s0).h } :AS).put r.o.dst r.g r.v) a1 w1→
    wpAnyIn cx.F 0 cx.P .any ops (fun e a' w'=>e= .normal∧Reach cx E0 s0.h w0 K a' w') fuel (listed.setIfInBounds i true) a1 w1:=by
   rintro a1 w1 ⟨E1,s1,rfl,hs1,he1⟩
   have hS':∀k,(listed.setIfInBounds i true).getD k false=if k=i then true else listed.getD k false:=fun k=>zgF listed i k (by omega)
   have hfun:(fun k=>(listed.setIfInBounds i true).getD k false)=fun k=>if k=i then true else listed.getD k false:=funext hS'
   have hputh:(({ selG L (fun i=>listed.getD i false) s0 with h:=r.c.app (selG L (fun i=>listed.getD i false) s0).h } :AS).put r.o.dst r.g r.v).h=r.c.app (selG L (fun i=>listed.getD i false) s0).h:=by unfold AS.put;cases r.o.dst<;>rfl
   have hputg:(({ selG L (fun i=>listed.getD i false) s0 with h:=r.c.app (selG L (fun i=>listed.getD i false) s0).h } :AS).put r.o.dst r.g r.v).g=(selG L (fun i=>listed.getD i false) s0).g:=by unfold AS.put;cases r.o.dst<;>rfl
   have agree':∀ (l:Nat) (r':RG),L[l]?=some r'→(l<i→confG ops (r'.c.at,r'.rd) (r.c.at,r.rd) r'.o r.o=true)→(i<l→confG ops (r.c.at,r.rd) (r'.c.at,r'.rd) r.o r'.o=true)→(listed.setIfInBounds i true).getD l false=decide (l<i+1):=fun l r' hr' h1 h2=>by
    rw [hS']
    rcases Nat.lt_trichotomy l i with h|h|h
    ·rw [if_neg (by omega),before l r' hr' h (h1 h),decide_eq_true (by omega)]
    ·subst h;rw [if_pos rfl];simp
    ·rw [if_neg (by omega),behind l r' hr' h (h2 h),decide_eq_false (by omega)]
   have hlk':∀k,lk (({ selG L (fun i=>listed.getD i false) s0 with h:=r.c.app (selG L (fun i=>listed.getD i false) s0).h } :AS).put r.o.dst r.g r.v).t k=lk (selG L (fun k=>(listed.setIfInBounds i true).getD k false) s0).t k:=by
    intro k
    rw [zj0]
    split
    ·rename_i hk
     have e1:lk (selG L (fun k=>(listed.setIfInBounds i true).getD k false) s0).t k=lk (lexG L (i+1) s0).t k:=
      zg9 (Q:=fun j=>j=k) L _ _ _ _ (fun _ _=>rfl) (fun l r' hr' ⟨d,hd1,hd2⟩=>agree' l r' hr'
       (fun _=>by unfold confG;rw [hd1,hk,hd2];simp)
       (fun _=>by unfold confG;rw [hd1,hk,hd2];simp)) k rfl
     rw [e1,zj8 L i s0 r hr,zi3,if_pos hk]
    ·rename_i hk
     refine zg9 (Q:=fun j=>j=k) L _ _ _ _ (fun _ _=>rfl) (fun l r' hr' ⟨d,hd1,hd2⟩=>?_) k rfl
     rw [hS',if_neg]
     intro e
     subst e
     rw [hr] at hr';cases hr'
     rw [hd2] at hd1
     exact hk hd1
   have hheap:∀k,Go.Aw.hget (({ selG L (fun i=>listed.getD i false) s0 with h:=r.c.app (selG L (fun i=>listed.getD i false) s0).h } :AS).put r.o.dst r.g r.v).h k=Go.Aw.hget (selG L (fun k=>(listed.setIfInBounds i true).getD k false) s0).h k:=by
    intro k
    rw [hputh,hfun]
    refine (zpu k L i r (fun i=>listed.getD i false) s0 hr hSi (fun l r' hr' hl hsl hk hk'=>?_)).symm
    have:=behind l r' hr' hl (by
     have:=zi4 (a:=(r.c.at,r.rd)) (b:=(r'.c.at,r'.rd)) hk (.inl hk')
     unfold confG;simp [this])
    rw [hsl] at this;cases this
   refine ih (listed.setIfInBounds i true) E1 a1 w1 (by simpa using hsz) (zec listed i fuel hun' hc) ?_ (fun h=>by rw [hS',if_neg (by omega)];exact hT h) (hs1.ext hlk' hheap (by rw [hputg,zj7,zj7])) ?_
   ·intro l o' ho' hSl e he' hb
    rw [hS'] at hSl ⊢
    split
    ·rfl
    ·split at hSl
     ·rename_i hli
      subst hli
      exact hdep' o' ho' e he' hb
     ·exact hcl l o' ho' hSl e he' hb
   ·exact (he.trans he1).ext hheap
  unfold wpOpIn
  rw [hoi]
  dsimp only
  split at hw
  ·rename_i hwt
   rw [if_pos hwt]
   exact zaU hw next
  ·rename_i hwt
   rw [if_neg hwt]
   exact ⟨hw.1,next _ _ hw.2⟩
theorem zJ {id:Nat} {Q:Exit→AS→Prop} (tab:Tab) (owns:List FuncId) (ht:TabOk cx.P tab) (hm:cx.P.follows .mixedOrders=true) (h:gops cx tab owns ops (top cx.fl s.h) ops.toList [] (Q .normal) s):AW cx (.region id ops true) Q s:=by
 intro E a w hs
 obtain ⟨L,T,hL,hd,hK,ho⟩:=zka ht ops.toList _ [] (zfd _ _) h
 have hs':=hs.drawn
 have hev:Evo cx.fl E s.h w E s.h { w with drawn:=w.drawn+1 } :=⟨rfl,rfl,rfl,Nat.le_refl _,fun _ _ _ _=>rfl,fun _ h=> .inl h,fun _ h=>h,fun _ h=> .inl h,rfl,fun i _ h=>⟨h,GoesOn.refl E _ i⟩⟩
 have h0:∀i,(Array.replicate ops.size false).getD i false=false:=fun i=>by
  rw [Array.getD_eq_getD_getElem?,Array.getElem?_replicate]
  split<;>rfl
 have hsel:selG L (fun i=>(Array.replicate ops.size false).getD i false) s=s:=by
  have:(fun i=>(Array.replicate ops.size false).getD i false)=fun i=>decide (i<0):=by
   funext i;rw [h0];simp
  rw [this]
  exact zcS L s
 refine wpIn_mono (wpIn_region_any hm (zpv ht (by simpa using hd) hL ho hK ops.size (Array.replicate ops.size false) E a _ (by simp) (by rw [Array.toList_replicate,List.countP_replicate];rfl) (fun i o _ hi=>by rw [h0] at hi;cases hi) (fun _=>h0 _) (by rw [hsel];exact hs') (by rw [hsel];exact hev))) ?_
 rintro e a' w' ⟨rfl,hr⟩
 exact hr
theorem zv {id:Nat} {y:Code} {Q:Exit→AS→Prop} (tab:Tab) (owns:List FuncId) (ht:TabOk cx.P tab) (hm:cx.P.follows .mixedOrders=true) (h:∀K,(∀s',AW cx y Q s'→K s')→gops cx tab owns ops (top cx.fl s.h) ops.toList [] K s):AW cx (.seq (.region id ops true) y) Q s:=
 zj fun K hK=>zJ tab owns ht hm (h K hK)
end
attribute [go_sem] gops gop chOf Ch.app Ch.at atCx isEff List.contains_cons List.contains_nil Option.map_some List.isEmpty_cons List.isEmpty_nil
open Go
def rdy (L:List Bool) (o:Oper):Bool:=o.after.toList.all fun e=> !Region.binds .any e||L.getD e.on false
def zi5 (f:Nat→Oper→Prop) (L:List Bool):Nat→List Oper→Prop
 |_,[]=>True
 |i,o::r=>(if (!(L.getD i false)&&rdy L o)=true then f i o else True)∧zi5 f L (i+1) r
def anyR (L:List Bool):Nat→List Oper→Bool
 |_,[]=>false
 |i,o::r=>(!(L.getD i false)&&rdy L o)||anyR L (i+1) r
abbrev Hot:=FuncId→List AV→AHeap→Option (AV×AHeap)
def HotOk (P:Program) (fl:Nat) (hot:Hot):Prop:=∀f args h r h',hot f args h=some (r,h')→∀K:AV→AHeap→Prop,K r h'→ACallAt P fl f args h K
def noHot:Hot:=fun _ _ _=>none
theorem zm5 (P:Program) (fl:Nat):HotOk P fl noHot:=fun _ _ _ _ _ h=>by cases h
open Classical in
noncomputable def hotOf (hot:Hot) (f:FuncId) (args:List AV) (h:AHeap) (r:AV) (h':AHeap):Hot:=fun f' args' h1=>if ((f':Nat)==(f:Nat))=true then (if args'=args∧h1=h then some (r,h') else none) else hot f' args' h1
theorem zm6 {P:Program} {fl:Nat} {hot:Hot} (hk:HotOk P fl hot) {f:FuncId} {args:List AV} {h:AHeap} {r:AV} {h':AHeap} (hc:∀K:AV→AHeap→Prop,K r h'→ACallAt P fl f args h K):HotOk P fl (hotOf hot f args h r h'):=by
 intro f1 args1 h1 r1 h1' he K hK
 unfold hotOf at he
 split at he
 ·rename_i hq
  have hq:f1=f:=by simpa using hq
  subst hq
  split at he
  ·rename_i hq
   obtain ⟨rfl,rfl⟩:=hq
   cases he
   exact hc K hK
  ·cases he
 ·exact hk _ _ _ _ _ he K hK
def aopH (cx:Cx) (tab:Tab) (hot:Hot) (G:Bool) (o:Oper) (K:AS→Prop) (s:AS):Prop:=
 match o.op with
 | .call c=>(match zaW cx.P s c with
  |some (f,args,vc)=>(match hot f args s.h with
   |some (r,h2)=>isVal cx.P (.call c)=false∧G=true∧dstOk cx.nt o.dst∧vc∧K ({ s with h:=h2 }.put o.dst true r)
   |none=>aopY cx tab G o K s)
  |none=>aopY cx tab G o K s)
 |_=>aopY cx tab G o K s
def linY (cx:Cx) (tab:Tab) (hot:Hot) (all:Array Oper) (lst:List Oper) (K:AS→Prop):Nat→List Bool→AS→Prop
 |0,_,s=>K s
 | n+1,L,s=>anyR L 0 lst=true∧zi5 (fun i o=>match zaH s all o.guard with
   |some G=>aopH cx tab hot G o (linY cx tab hot all lst K n (L.set i true)) s
   |none=>False) L 0 lst
section
variable {cx : Cx} {tab : Tab} {hot : Hot} {ops : Array Oper} {K : AS → Prop}
theorem ztu (ht:TabOk cx.P tab) (hh:HotOk cx.P cx.fl hot) {E:Env} {s:AS} {a:Act} {w:World} {all:Array Oper} {o:Oper} {G:Bool} {K:AS→Prop} {Q:Exit→Act→World→Prop} (hs:Sat cx E s a w) (hg:zaH s all o.guard=some G) (h:aopH cx tab hot G o K s):
  if Region.wanted o (yielded all a.tmps) then o.wpIn cx.F 0 cx.P a w (Reach cx E s.h w K) Q else (∀f,o.about cx.P w a.eval=some f→cx.F.fn f)∧Reach cx E s.h w K (a.put o.dst undef) w:=by
 unfold aopH at h
 split at h
 ·rename_i c hop
  split at h
  ·rename_i f args vc hco
   split at h
   ·rename_i r h2 hhot
    obtain ⟨h1,rfl,h3,h4,h5⟩:=h
    refine zij hs hg ⟨h3,?_⟩
    rw [hop]
    dsimp only
    rw [if_neg (by rw [h1];simp)]
    refine ⟨fun _=>?_,fun e=>by cases e⟩
    unfold aop1
    rw [hop]
    dsimp only
    rw [if_neg (by rw [h1];simp),hco]
    exact ⟨h4,hh _ _ _ _ _ hhot _ h5⟩
   ·exact ziW ht hs hg h
  ·exact ziW ht hs hg h
 ·exact ziW ht hs hg h
theorem zgn {F:Fence} {n:Nat} {P:Program} {md:Region.Mode} {Q Q':Exit→Act→World→Prop} (hq:∀a w,Q .normal a w→Q' .normal a w) (hf:∀i K a w,wpOpIn F n P ops Q i K a w→wpOpIn F n P ops Q' i K a w):∀ (fuel:Nat) (listed:Array Bool) (a:Act) (w:World),wpAnyIn F n P md ops Q fuel listed a w→wpAnyIn F n P md ops Q' fuel listed a w
 |0,listed,a,w,h=>⟨h.1,hq _ _ h.2⟩
 |fuel+1,listed,a,w,h=>⟨fun hr=>hq _ _ (h.1 hr),fun i hi=>hf _ _ _ _ (wpOpIn_mono (fun a w=>zgn hq hf fuel _ a w) (h.2 i hi))⟩
theorem znN {f:Nat→Oper→Prop} {L:List Bool} (l:List Oper):∀ (k i:Nat) (o:Oper),zi5 f L k l→l[i]?=some o→L.getD (k+i) false=false→rdy L o=true→f (k+i) o:=by
 induction l with
 |nil=>intro k i o h hi;simp at hi
 | cons x r ih=>
  intro k i o h hi h1 h2
  cases i with
  | zero=>
   simp only [List.getElem?_cons_zero,Option.some.injEq] at hi
   subst hi
   have h3:=h.1
   have hc:(!(L.getD k false)&&rdy L x)=true:=by
    have:L.getD k false=false:=h1
    rw [this,h2];rfl
   rw [if_pos hc] at h3
   exact h3
  |succ i=>
   have hi':r[i]?=some o:=by rw [← hi,List.getElem?_cons_succ]
   have:=ih (k+1) i o h.2 hi' (by rw [← h1];congr 1;omega) h2
   rwa [show k+1+i=k+(i+1) by omega] at this
theorem zpw {L:List Bool} :∀ (l:List Oper) (k:Nat),anyR L k l=true→∃i o,l[i]?=some o∧L.getD (k+i) false=false∧rdy L o=true
 | [],k,h=>by cases h
 | x::r,k,h=>by
  simp only [anyR,Bool.or_eq_true,Bool.and_eq_true,Bool.not_eq_true'] at h
  rcases h with ⟨h1,h2⟩|h
  ·exact ⟨0,x,rfl,h1,h2⟩
  ·obtain ⟨i,o,h1,h2,h3⟩:=zpw r (k+1) h
   exact ⟨i+1,o,by simpa using h1,by rw [← h2];congr 1;omega,h3⟩
theorem zdM (l:Array Bool) (i:Nat) (d:Bool):l.toList.getD i d=l.getD i d:=by
 simp [List.getD_eq_getElem?_getD,Array.getD_eq_getD_getElem?]
theorem zlB (ht:TabOk cx.P tab) (hh:HotOk cx.P cx.fl hot):∀ (n:Nat) (listed:Array Bool) {s:AS} {E:Env} {a:Act} {w:World},listed.size=ops.size→listed.toList.countP (fun b=>b==false)=n→Sat cx E s a w→linY cx tab hot ops ops.toList K n listed.toList s→
  wpAnyIn cx.F 0 cx.P .any ops (fun e a' w'=>e= .normal∧Reach cx E s.h w K a' w') n listed a w
 | 0,listed,s,E,a,w,hsz,hc,hs,h=>by
  refine ⟨?_,rfl,zeU hs h⟩
  cases hr:Region.ready .any ops listed with
  |nil=>rfl
  |cons i l=>
   have hi:i∈Region.ready .any ops listed:=by rw [hr];simp
   obtain ⟨h1,o,h2,_⟩:=mem_ready.1 hi
   have hlt:i<ops.size:=(Array.getElem?_eq_some_iff.1 h2).1
   have h0:=List.countP_eq_zero.1 hc (listed[i]'(by omega)) (by simp)
   rw [Array.getD_eq_getD_getElem?,Array.getElem?_eq_getElem (by omega)] at h1
   simp only [Option.getD_some] at h1
   rw [h1] at h0
   simp at h0
 | n + 1,listed,s,E,a,w,hsz,hc,hs,h=>by
  obtain ⟨hany,halt⟩:=h
  refine ⟨fun hr=>?_,fun i hi=>?_⟩
  ·exfalso
   obtain ⟨i,o,h1,h2,h3⟩:=zpw _ _ hany
   rw [Nat.zero_add,zdM] at h2
   have hlt:i<ops.size:=(Array.getElem?_eq_some_iff.1 (by simpa using h1)).1
   have:i∈Region.ready .any ops listed:=mem_ready.2 ⟨by
    rw [Array.getD_eq_getD_getElem?,Array.getElem?_eq_getElem (by omega)] at h2 ⊢
    simpa using h2,o,by simpa using h1,fun e he hb=>by
    have:=List.all_eq_true.1 h3 e (by simpa using he)
    rw [hb,zdM] at this
    simpa using this⟩
   rw [hr] at this
   cases this
  ·obtain ⟨h1,o,h2,h3⟩:=mem_ready.1 hi
   have hlt:i<ops.size:=(Array.getElem?_eq_some_iff.1 h2).1
   have hl:listed[i]?=some false:=by
    rw [Array.getD_eq_getD_getElem?,Array.getElem?_eq_getElem (by omega)] at h1
    rw [Array.getElem?_eq_getElem (by omega)]
    simpa using h1
   have hst:=znN ops.toList 0 i o halt (by simpa using h2) (by rw [Nat.zero_add,zdM,Array.getD_eq_getD_getElem?,hl];rfl) (by
    unfold rdy
    refine List.all_eq_true.2 fun e he=>?_
    rw [zdM]
    cases hb:Region.binds .any e with
    |true=>simpa using h3 e (by simpa using he) hb
    |false=>rfl)
   rw [Nat.zero_add] at hst
   split at hst
   ·rename_i G hg
    have hcnt:(listed.setIfInBounds i true).toList.countP (fun b=>b==false)=n:=zec listed i n hl hc
    have hlist:(listed.setIfInBounds i true).toList=listed.toList.set i true:=Array.toList_setIfInBounds ..
    have:=ztu ht hh (Q:=fun _ _ _=>False) hs hg hst
    have next:∀a1 w1,Reach cx E s.h w (linY cx tab hot ops ops.toList K n (listed.toList.set i true)) a1 w1→
      wpAnyIn cx.F 0 cx.P .any ops (fun e a' w'=>e= .normal∧Reach cx E s.h w K a' w') n (listed.setIfInBounds i true) a1 w1:=by
     rintro a1 w1 ⟨E1,s1,hk,hs1,he1⟩
     rw [← hlist] at hk
     have ih:=zlB ht hh n (listed.setIfInBounds i true) (by simpa using hsz) hcnt hs1 hk
     refine zgn (fun a w h=>⟨rfl,h.2.trans he1⟩) (fun i K a w h=>?_) _ _ _ _ ih
     unfold wpOpIn at h ⊢
     split at h
     ·exact h
     ·split at h
      ·rename_i hw
       rw [if_pos hw]
       exact zgW h (fun _ _ h=>h) (fun e a w h=>⟨h.1,h.2.trans he1⟩)
      ·rename_i hw
       rw [if_neg hw]
       exact h
    unfold wpOpIn
    rw [h2]
    dsimp only
    split at this
    ·rename_i hw
     rw [if_pos hw]
     exact zaU this next
    ·rename_i hw
     rw [if_neg hw]
     exact ⟨this.1,next _ _ this.2⟩
   ·exact hst.elim
def zpx (o:Oper):Bool:=o.guard.isNone&&(match o.op with| .move _=>true| .nilCheck _=>true| .fieldAddr _ _ _=>true|_=>false)
def preOk (ops:Array Oper):List Nat→Array Bool→Bool
 | [],_=>true
 |i::r,L=>(match ops[i]? with|some o=>zpx o|none=>false)&&(Region.ready .any ops L).contains i&&Region.free .any ops L i&&preOk ops r (L.setIfInBounds i true)
def ownP:AV→Bool
 | .vp _ _=>true
 | .tp _ _=>true
 |_=>false
def coldY (cx:Cx) (o:Oper) (K:AS→Prop) (s:AS):Prop:=
 dstOk cx.nt o.dst∧(match o.op with
 | .move x=>(s.ev x).1=true∧K (s.put o.dst true ((s.ev x).2.tag cx.P o.type))
 | .nilCheck x=>(s.ev x).1=true∧ownP (s.ev x).2=true∧K (s.put o.dst true (s.ev x).2)
 | .fieldAddr t x f=>(s.ev x).1=true∧ownP (s.ev x).2=true∧(z2 cx.P s t (s.ev x).2 f).1∧K (s.put o.dst true (z2 cx.P s t (s.ev x).2 f).2)
 |_=>False)
def preY (cx:Cx) (tab:Tab) (hot:Hot) (all:Array Oper) (lst:List Oper) (n:Nat) (K:AS→Prop):List Nat→List Bool→AS→Prop
 | [],L,s=>linY cx tab hot all lst K n L s
 |i::r,L,s=>(match lst[i]? with
  |some o=>coldY cx o (preY cx tab hot all lst n K r (L.set i true)) s
  |none=>False)
theorem zry {E:Env} {s:AS} {a:Act} {w:World} {o:Oper} {K:AS→Prop} (hs:Sat cx E s a w) (hc:zpx o=true) (h:coldY cx o K s):
  ∃v s1,YieldsFenced cx.P ops o v a∧K s1∧s1.h=s.h∧Sat cx E s1 (a.put o.dst v) w:=by
 unfold zpx at hc
 rw [Bool.and_eq_true] at hc
 obtain ⟨hg,hop⟩:=hc
 have hg':o.guard=none:=by simpa using hg
 have hw:Region.wanted o (yielded ops a.tmps)=true:=by
  unfold Region.wanted
  rw [hg']
 obtain ⟨hd,h⟩:=h
 have hdst:∀k,o.dst=some k→k<cx.nt:=fun k e=>by rw [e] at hd;exact hd
 have hputh:∀ (g:Bool) (v:AV),(s.put o.dst g v).h=s.h:=fun g v=>by unfold AS.put;cases o.dst<;>rfl
 obtain ⟨dst,op,ot,pos,after,guard⟩:=o
 dsimp only at h hdst hputh hop hg' ⊢
 cases op<;>dsimp only at h hop<;>try exact h.elim
 case move x=>
  obtain ⟨hk,hK⟩:=h
  refine ⟨a.eval x,_,⟨.inl ⟨hw,fun w=>rfl⟩,fun w=>rfl⟩,hK,hputh _ _,?_⟩
  exact hs.put hdst (fun _=>Rep.tag (ev_ok hs.slots x hk)) (fun e=>by cases e)
 case nilCheck x=>
  obtain ⟨h1,h2,hK⟩:=h
  have hx:=ev_ok hs.slots x h1
  refine ⟨a.eval x,_,⟨.inl ⟨hw,fun w=>?_⟩,fun w=>rfl⟩,hK,hputh _ _,hs.put hdst (fun _=>hx) (fun e=>by cases e)⟩
  generalize (s.ev x).2=u at h2 hx
  cases u<;>simp only [ownP,Bool.false_eq_true] at h2
  ·simp only [Rep] at hx
   obtain ⟨b,cs,_,_,hv⟩:=hx
   simp [execOp,hv]
  ·simp only [Rep] at hx
   obtain ⟨b,t',cs,_,_,hv⟩:=hx
   simp [execOp,hv]
 case fieldAddr t x f=>
  obtain ⟨h1,h2,h3,hK⟩:=h
  have hx:=ev_ok hs.slots x h1
  have key:∃v,(∀W,(Instr.fieldAt t (a.eval x) f).run cx.P W= .ok v W)∧Rep w E s.h (z2 cx.P s t (s.ev x).2 f).2 v:=by
   generalize (s.ev x).2=u at h2 hx h3
   unfold z2 at h3 ⊢
   split at h3
   ·rename_i off ft hf
    obtain ⟨gs,hg,g,hgf,ho,ht⟩:=zfH hf
    subst ho ht
    cases u<;>simp only [ownP,Bool.false_eq_true] at h2
    ·simp only [Rep] at hx ⊢
     obtain ⟨b,cs,q1,q2,hv⟩:=hx
     refine ⟨_,fun W=>?_,b,cs,q1,q2,rfl⟩
     rw [hv]
     simp only [Instr.fieldAt,Sem.run_bind,run_underlying hg,Result.andThen_ok,hgf,Instr.sureAddr,Sem.run_pure,za4 h3.1 h3.2]
    ·simp only [Rep] at hx ⊢
     obtain ⟨b,t',cs,q1,q2,hv⟩:=hx
     refine ⟨_,fun W=>?_,b,t',cs,q1,q2,rfl⟩
     rw [hv]
     simp only [Instr.fieldAt,Sem.run_bind,run_underlying hg,Result.andThen_ok,hgf,Instr.sureAddr,Sem.run_pure,za4 h3.1 h3.2]
   ·exact h3.elim
  obtain ⟨v,hv,hr⟩:=key
  exact ⟨v,_,⟨.inl ⟨hw,fun w=>by simp [execOp,hv]⟩,fun w=>rfl⟩,hK,hputh _ _,hs.put hdst (fun _=>hr) (fun e=>by cases e)⟩
theorem zpy (hro:cx.ro=none) (hns:Region.noSelect ops=true) (ht:TabOk cx.P tab) (hh:HotOk cx.P cx.fl hot):∀ (pre:List Nat) (n:Nat) (listed:Array Bool) {s:AS} {E:Env} {a:Act} {w:World},preOk ops pre listed=true→listed.size=ops.size→listed.toList.countP (fun b=>b==false)=pre.length+n→Sat cx E s a w→preY cx tab hot ops ops.toList n K pre listed.toList s→
  wpAnyIn cx.F 0 cx.P .any ops (fun e a' w'=>e= .normal∧Reach cx E s.h w K a' w') (pre.length+n) listed a w
 | [],n,listed,s,E,a,w,_,hsz,hc,hs,h=>by
  rw [List.length_nil,Nat.zero_add] at hc ⊢
  exact zlB ht hh n listed hsz hc hs h
 | i::r,n,listed,s,E,a,w,hp,hsz,hc,hs,h=>by
  simp only [preOk,Bool.and_eq_true] at hp
  obtain ⟨⟨⟨p1,p2⟩,p3⟩,p4⟩:=hp
  simp only [preY] at h
  split at p1
  ·rename_i o ho
   rw [show ops.toList[i]?=some o by simpa using ho] at h
   dsimp only at h
   obtain ⟨v,s1,y1,y2,y3,y4⟩:=zry (ops:=ops) hs p1 h
   have hrd:i∈Region.ready .any ops listed:=by simpa using p2
   obtain ⟨hun,_⟩:=mem_ready.1 hrd
   have hlt:i<listed.size:=by
    rcases Nat.lt_or_ge i listed.size with h'|h'
    ·exact h'
    ·simp [Array.getElem?_eq_none h'] at hun
   have hl:listed[i]?=some false:=by
    rw [Array.getD_eq_getD_getElem?,Array.getElem?_eq_getElem hlt] at hun
    rw [Array.getElem?_eq_getElem hlt]
    simpa using hun
   have hcnt:(listed.setIfInBounds i true).toList.countP (fun b=>b==false)=r.length+n:=zec listed i _ hl (by rw [hc,List.length_cons];omega)
   have hlist:(listed.setIfInBounds i true).toList=listed.toList.set i true:=Array.toList_setIfInBounds ..
   have ih:=zpy hro hns ht hh r n (listed.setIfInBounds i true) p4 (by simpa using hsz) hcnt y4 (by rw [hlist];exact y2)
   rw [y3] at ih
   have e1:(i::r).length+n=(r.length+n)+1:=by rw [List.length_cons];omega
   rw [e1]
   exact wpAnyIn_take hro ho hns p3 p2 (fun c a w h=>by have:=h.1;cases this) y1 ih
  ·cases p1
theorem zi6 {s:AS} {id:Nat} {Q:Exit→AS→Prop} (tab:Tab) (hot:Hot) (pre:List Nat) (n:Nat) (hro:cx.ro=none) (hp:(Region.noSelect ops&&preOk ops pre (Array.replicate ops.size false)&&decide (ops.size=pre.length+n))=true) (ht:TabOk cx.P tab) (hh:HotOk cx.P cx.fl hot) (hm:cx.P.follows .mixedOrders=true) (h:preY cx tab hot ops ops.toList n (Q .normal) pre (List.replicate ops.size false) s):AW cx (.region id ops true) Q s:=by
 intro E a w hs
 simp only [Bool.and_eq_true,decide_eq_true_eq] at hp
 obtain ⟨⟨p1,p2⟩,p3⟩:=hp
 have hs':=hs.drawn
 have hev:Evo cx.fl E s.h w E s.h { w with drawn:=w.drawn+1 } :=⟨rfl,rfl,rfl,Nat.le_refl _,fun _ _ _ _=>rfl,fun _ h=> .inl h,fun _ h=>h,fun _ h=> .inl h,rfl,fun i _ h=>⟨h,GoesOn.refl E _ i⟩⟩
 have:=zpy hro p1 ht hh pre n (Array.replicate ops.size false) (K:=Q .normal) p2 (by simp) (by rw [Array.toList_replicate,List.countP_replicate,← p3];rfl) hs' (by rw [Array.toList_replicate];exact h)
 rw [← p3] at this
 refine wpIn_mono (wpIn_region_any hm this) ?_
 rintro e a' w' ⟨rfl,hr⟩
 exact hr.trans hev
theorem zfT {s:AS} {id:Nat} {y:Code} {Q:Exit→AS→Prop} (tab:Tab) (hot:Hot) (pre:List Nat) (n:Nat) (hro:cx.ro=none) (hp:(Region.noSelect ops&&preOk ops pre (Array.replicate ops.size false)&&decide (ops.size=pre.length+n))=true) (ht:TabOk cx.P tab) (hh:HotOk cx.P cx.fl hot) (hm:cx.P.follows .mixedOrders=true) (s1:AS) (h:preY cx tab hot ops ops.toList n (fun s'=>s'.le s1) pre (List.replicate ops.size false) s) (h2:AW cx y Q s1):AW cx (.seq (.region id ops true) y) Q s:=
 zly s1 (zi6 tab hot pre n hro hp ht hh hm h) h2
theorem zi7 {s:AS} {id:Nat} {Q:Exit→AS→Prop} (tab:Tab) (hot:Hot) (ht:TabOk cx.P tab) (hh:HotOk cx.P cx.fl hot) (hm:cx.P.follows .mixedOrders=true) (h:linY cx tab hot ops ops.toList (Q .normal) ops.size (List.replicate ops.size false) s):AW cx (.region id ops true) Q s:=by
 intro E a w hs
 have hs':=hs.drawn
 have hev:Evo cx.fl E s.h w E s.h { w with drawn:=w.drawn+1 } :=⟨rfl,rfl,rfl,Nat.le_refl _,fun _ _ _ _=>rfl,fun _ h=> .inl h,fun _ h=>h,fun _ h=> .inl h,rfl,fun i _ h=>⟨h,GoesOn.refl E _ i⟩⟩
 refine wpIn_mono (wpIn_region_any hm (zlB ht hh ops.size (Array.replicate ops.size false) (by simp) (by rw [Array.toList_replicate,List.countP_replicate];rfl) hs' (by rw [Array.toList_replicate];exact h))) ?_
 rintro e a' w' ⟨rfl,hr⟩
 exact hr.trans hev
end
attribute [go_sem] linY zi5 anyR rdy Region.binds aopH noHot hotOf preY coldY ownP
open Go
theorem ACall.one {P:Program} {f:FuncId} {args:List AV} {fl fl' i:Nat} {ob:AObj} {h h2:AHeap} {R:AV→AObj→Prop} (hc:ACall P f fl args [(i,ob)] (fun r h'=>∃ob',h'= [(i,ob')]∧R r ob'))
  (h1:hsel (fun j=>decide (j=i)||decide (fl≤j)) h= [(i,ob)]) (h2e:hsel (fun j=> !(decide (j=i)||decide (fl≤j))) h=h2) (hfl:∀i,(hget h i).isSome→i<fl) (hg:hget h i=some ob)
  (hcl:∀j∈ob.ids,j=i) (ha:∀j∈AV.idsL args,j=i) (hle:fl'≤fl):ACallAt P fl' f args h (fun r h'=>∃ob',R r ob'∧h'=(i,ob')::h2):=by
 have hi:i<fl:=hfl i (by simp [hg])
 have :=ACall.frame (P:=P) (f:=f) (args:=args) (fl:=fl) (fl':=fl') (h:=h) (p:=fun j=>decide (j=i)||decide (fl≤j)) (K:=fun r h'=>∃ob',h'= [(i,ob')]∧R r ob') (by rw [h1];exact hc) hfl (fun j hj=>by simp;exact .inr hj)
  (fun j o ho hp k hk=>by
   have hj:=hfl j (by simp [ho])
   have:j=i:=by
    have:j=i∨fl≤j:=by simpa using hp
    omega
   subst this
   rw [hg] at ho;cases ho
   simp [hcl k hk]) (fun j hj=>by simp [ha j hj]) hle (fun r h' ⟨ob',he,_⟩=>by
    subst he
    refine ⟨fun j hj hp=>?_,fun j hj=>?_⟩
    ·have hjl:=hfl j hj
     have:j=i:=by
      have:j=i∨fl≤j:=by simpa using hp
      omega
     subst this
     simp [hget]
    ·simp only [hget] at hj
     split at hj
     ·rename_i e;simp [e]
     ·simp at hj)
 refine this.mono ?_
 rintro r h' ⟨h1',⟨ob',rfl,hR⟩,rfl⟩
 rw [h2e]
 exact ⟨ob',hR,rfl⟩
theorem zm7:∀ {h:AHeap} {i:Nat} {o:AObj},hget h i=some o→(i,o)∈h
  | [],i,o,hg=>by simp [hget] at hg
  | (k,x)::r,i,o,hg=>by
    simp only [hget] at hg
    split at hg
    · rename_i e;subst e;cases hg;exact List.mem_cons_self ..
    · exact List.mem_cons_of_mem _ (zm7 hg)
theorem zR {P:Program} {f:FuncId} {args:List AV} {fl:Nat} {h:AHeap} {K:AV→AHeap→Prop} (p:Nat→Bool) (hc:ACall P f fl args h (fun r h'=>(hsel p h').all (fun q=>q.2.ids.all p)=true∧r.ids.all p=true∧K r (hsel p h'))):ACall P f fl args h K:=by
 refine ⟨hc.1,fun E w vs hs hr=>(hc.2 E w vs hs hr).mono ?_⟩
 rintro e w' ⟨v,E',r,h',h1,⟨h2,h3,h4⟩,h5,h6,h7⟩
 have hcl:zgj p h':=fun i o ho hp j hj=>by
  have hg:hget (hsel p h') i=some o:=by rw [zk,if_pos hp];exact ho
  have:=List.all_eq_true.1 h2 _ (zm7 hg)
  exact List.all_eq_true.1 this j hj
 refine ⟨v,E',r,hsel p h',h1,h4,zlv h5 hcl,zpe (fun j hj=>List.all_eq_true.1 h3 j hj) h6,?_⟩
 refine ⟨h7.os,h7.tape,h7.output,h7.size,h7.keep,fun b ho=>h7.own b (zD ho),h7.m,h7.n,fun i hi hl=>?_⟩
 rw [zk] at hl
 by_cases hp:p i=true
 ·rw [if_pos hp] at hl
  obtain ⟨g1,g2⟩:=h7.go i hi hl
  exact ⟨g1,g2.trans (zc1 i hp)⟩
 ·rw [if_neg hp] at hl
  cases hl
attribute [go_sem] AObj.ids List.all_nil List.all_cons List.all_append
open Go
section
variable {F : Fence} {n : Nat} {P : Program} {Q : Exit → Act → World → Prop} {a : Act} {w : World}
theorem zb2 {b:Frame} {k:List Item} {cs:List Frame} {c:Code} :step P (lone (b.atR a (.code (.scope c)::k)) cs w)= .next (lone (b.atR a (.code c:: .inScope c::k)) cs w):=
 step_lone_go (by simp [stepG,stepG.exec,Frame.atR])
theorem zi8 {b:Frame} {k:List Item} {cs:List Frame} {c:Code} :step P (lone (b.atR a (.inScope c::k)) cs w)= .next (lone (b.atR a k) cs w):=
 step_lone_go (by simp [stepG,stepG.exec,Frame.atR])
theorem zeY {c:Code} (h:c.wpIn F n P (Exit.noGoto Q) a w):(Code.scope c).wpIn F n P Q a w:=by
 intro b k cs hro hb hr
 have h0:(lone (b.atR a (.code (.scope c)::k)) cs w).fenced P F:=fenced_calm hb hr rfl
 obtain ⟨e,a₁,w₁,hq,harr⟩:=h b (.inScope c::k) cs hro hb hr
 cases e with
 |normal=>exact ⟨.normal,a₁,w₁,hq,.head h0 zb2 (StepsIn.trans harr (.one (fenced_calm hb hr rfl) zi8))⟩
 | exit id=>
  have hx:exitTo id (.inScope c::k)=exitTo id k:=by simp [exitTo]
  exact ⟨.exit id,a₁,w₁,hq,fun k' hk=> .head h0 zb2 (harr.1 k' (by rw [hx];exact hk)),
   fun hr' hk=>let ⟨k₁,h1,h2⟩:=harr.2 hr' (by rw [hx];exact hk);⟨k₁,h1,.head h0 zb2 h2⟩⟩
 |goto l=>exact hq.elim
 |ret=>exact ⟨_,a₁,w₁,hq,.of_steps (.one h0 zb2) harr⟩
 |panic ch=>exact ⟨_,a₁,w₁,hq,.of_steps (.one h0 zb2) harr⟩
 |outgrown=>exact ⟨_,a₁,w₁,hq,.of_steps (.one h0 zb2) harr⟩
end
def zs3 (Q:Exit→AS→Prop):Exit→AS→Prop
 | .goto _,_=>False
 |e,s=>Q e s
attribute [go_sem] zs3
theorem zi9 {cx:Cx} {Q:Exit→AS→Prop} {s:AS} {c:Code} (h:AW cx c (zs3 Q) s):AW cx (.scope c) Q s:=by
 intro E a w hs
 refine zeY (wpIn_mono (h E a w hs) ?_)
 intro e a1 w1 hr
 cases e with
 |goto l=>obtain ⟨_,_,h,_⟩:=hr;exact h
 |_=>exact hr
open Go
theorem sa {P Q:Prop} (h:Q) (t:Q→P:=by first|exact zf _ ‹TabOk _ _› |exact zbz _ ‹TabOk _ _› mx):P:=t h
theorem ga {P Q:Prop} (h:Q) (t:Q→P:=by first|exact zf _ ‹TabOk _ _› |exact zv _ [] ‹TabOk _ _› mx):P:=t h
theorem sb {P Q:Prop} (h:Q) (t:Q→P:=by first|exact z8 _ ‹TabOk _ _› |exact zcK|exact zcL|exact zH|exact ze9|exact zbR _ ‹TabOk _ _› mx):P:=t h
theorem gb {P Q:Prop} (h:Q) (t:Q→P:=by first|exact z8 _ ‹TabOk _ _› |exact zcK|exact zcL|exact zH|exact ze9|exact zJ _ [] ‹TabOk _ _› mx):P:=t h
theorem sc {P Q:Prop} (h:Q) (t:Q→P:=by first|exact zaO|exact zi9|exact zg7 rfl|exact zg8 rfl):P:=t h
theorem ya {P Q:Prop} (h:Q) (t:Q→P:=by first|exact zhX _ ‹TabOk _ _› |exact zbz _ ‹TabOk _ _› mx):P:=t h
theorem yb {P Q:Prop} (h:Q) (t:Q→P:=by first|exact zin _ ‹TabOk _ _› |exact zcK|exact zcL|exact zH|exact ze9|exact zbR _ ‹TabOk _ _› mx):P:=t h
theorem le0 {P:Prop} (t:P:=by simp only [AS.le,leT,leH,zc,AsgK,AV.le,AV.leL,AObj.le,inH,idsT,idsH,AV.ids,AV.idsL,AV.idsR,AObj.ids,lk,hget,go_sem,aeq,aeq.aeqF,simprocAttr]):P:=t
theorem le1 {P:Prop} (t:P:=by simp only [AS.le,leT,leH,zc,AsgK,AV.le,AV.leL,AObj.le,inH,idsT,idsH,AV.ids,AV.idsL,AV.idsR,AObj.ids,lk,hget,go_sem,aeq,aeq.aeqF,simprocAttr]<;>and_intros<;>rfl):P:=t
theorem lew {P:Prop} (t:P:=by simp only [AS.le,leT,leH,zc,AsgK,AV.le,AV.leL,AObj.le,inH,idsT,idsH,AV.ids,AV.idsL,AV.idsR,AObj.ids,lk,hget,go_sem,aeq,aeq.aeqF,simprocAttr,hwi]):P:=t
theorem lev {P:Prop} (t:P:=by simp only [AS.le,leT,leH,zc,AsgK,AV.le,AV.leL,AObj.le,inH,idsT,idsH,AV.ids,AV.idsL,AV.idsR,AObj.ids,lk,hget,go_sem,aeq,aeq.aeqF,simprocAttr,hwi]<;>and_intros<;>rfl):P:=t
def fxd (n:Nat):Nat:=n
theorem fx:fxd 0=0:=rfl
theorem tk {P:Program} :TabOk P noTab:=zb P
theorem eqmp {A Q:Prop} (h:Q) (e:A=Q):A:=e ▸ h
section
variable {P : Prop} {cx : Cx} {y : Code} {Q : Exit → AS → Prop} {R : (AS → Prop) → Prop}
theorem wa (h:∀K:AS→Prop,(∀s',AW cx y Q s'→K s')→R K) (t:(∀K:AS→Prop,(∀s',AW cx y Q s'→K s')→R K)→P:=by
  intro h
  first
  |((first|refine zf _ tk (fun K hK=>eqmp (h K hK) ?_)|refine zbz _ tk mx (fun K hK=>eqmp (h K hK) ?_));simp only [go_sem,aeq,aeq.aeqF,simprocAttr,fx];rfl)
  |exact zj h):P:=t h
theorem va (h:∀K:AS→Prop,(∀s',AW cx y Q s'→K s')→R K) (t:(∀K:AS→Prop,(∀s',AW cx y Q s'→K s')→R K)→P:=by
  intro h
  first
  |((first|refine zf _ tk (fun K hK=>eqmp (h K hK) ?_)|refine zv _ [] tk mx (fun K hK=>eqmp (h K hK) ?_));simp only [go_sem,aeq,aeq.aeqF,simprocAttr,fx];rfl)
  |exact zj h):P:=t h
end
theorem wb {P Q:Prop} (h:Q) (t:Q→P:=by
  intro h
  first
  |((first|refine z8 _ tk (eqmp h ?_)|refine zcK (eqmp h ?_)|refine zcL (eqmp h ?_)|refine zH (eqmp h ?_)|refine ze9 (eqmp h ?_)|refine zbR _ tk mx (eqmp h ?_));simp only [go_sem,aeq,aeq.aeqF,simprocAttr,fx];rfl)
  |exact zaO h|exact zi9 h|exact zg7 rfl h|exact zg8 rfl h):P:=t h
theorem vb {P Q:Prop} (h:Q) (t:Q→P:=by
  intro h
  first
  |((first|refine z8 _ tk (eqmp h ?_)|refine zcK (eqmp h ?_)|refine zcL (eqmp h ?_)|refine zH (eqmp h ?_)|refine ze9 (eqmp h ?_)|refine zJ _ [] tk mx (eqmp h ?_));simp only [go_sem,aeq,aeq.aeqF,simprocAttr,fx];rfl)
  |exact zaO h|exact zi9 h|exact zg7 rfl h|exact zg8 rfl h):P:=t h
theorem wl {P Q:Prop} (h:Q) (t:Q→P:=by
  intro h
  (first|refine (show AS.le _ _ from eqmp h ?_)|refine (show leH _ _ from eqmp h ?_)|refine (show inH _ _ from eqmp h ?_))
  simp only [AS.le,leT,leH,zc,AsgK,AV.le,AV.leL,AObj.le,inH,idsT,idsH,AV.ids,AV.idsL,AV.idsR,AObj.ids,lk,hget,go_sem,aeq,aeq.aeqF,simprocAttr,fx]
  rfl):P:=t h
theorem wc {P Q R:Prop} (h:Q) (g:R) (t:Q→R→P:=by first|with_reducible exact And.intro|exact zi rfl):P:=t h g
theorem we {P:Prop} (t:P:=by first|with_reducible exact True.intro|((refine (show zV _ _=true from ?_));kernel_rfl)|((refine (show zaq _ _=true from ?_));kernel_rfl)|((refine (show zgm _ _=true from ?_));kernel_rfl)|omega|assumption):P:=t
section
variable {P : Program}
theorem bod {f:FuncId} {fn:Func} {c:Code} {nt fl:Nat} {args:List AV} {h:AHeap} {K:AV→AHeap→Prop} (hf:P.funcs[f]?=some fn) (hnt:fn.ntmps=nt)
  (haw:∀base,AW (cxOf P base nt fl) c (RetK P fn K) { t:=zaP 0 args,h:=h,g:=some [] }) (hb:fn.body=some c:=by rfl) (he:(fn.name== "runtime.NumGoroutine")=false:=by kernel_rfl) (hi:fn.body.isNone=false:=by rfl) (hn:args.length≤nt:=by simp):ACall P f fl args h K:=
 zaD hf hb (zcv hf he hi) hnt hn haw
theorem fbod {f:FuncId} {fn:Func} {c:Code} {nt:Nat} {args:List AV} {r:AV} (hf:P.funcs[f]?=some fn) (hnt:fn.ntmps=nt)
  (haw:∀base,AW (cxOf P base nt 0) c (RetK P fn (fun r' h'=>frz 9 h' r'=r)) { t:=zaP 0 args,h:= [],g:=some [] }) (hb:fn.body=some c:=by rfl) (he:(fn.name== "runtime.NumGoroutine")=false:=by kernel_rfl) (hi:fn.body.isNone=false:=by rfl) (hn:args.length≤nt:=by simp):ACall P f 0 args [] (fun r' _=>r'=r):=
 zg6 (zaD hf hb (zcv hf he hi) hnt hn haw)
theorem itr {f:FuncId} {fn:Func} {c:Code} {nt fl:Nat} {pre caps:List AV} {h:AHeap} {items:List (List AV)} {K:Option (List (List AV))→AHeap→Prop} (hf:P.funcs[f]?=some fn) (hnt:fn.ntmps=nt)
  (haw:∀base (y:Yo P items),AW (cxY P base nt fl y) c (IterK K) { t:=zaP 0 (pre++ .fn (.yield y.yl) [] []::caps),h:=h,g:=some [] }) (hb:fn.body=some c:=by rfl) (he:(fn.name== "runtime.NumGoroutine")=false:=by kernel_rfl) (hi:fn.body.isNone=false:=by rfl) (hres:fn.results= #[]:=by rfl) (hn:pre.length+caps.length+1≤nt:=by simp):AIter P f fl pre caps h items K:=
 ziV hf hb (zcv hf he hi) hnt hres hn haw
end
open Go
def never:AHeap:= [(0,.var [.vp 1 0])]
theorem zkg {cx:Cx} {E:Env} {s:AS} {a:Act} {w:World} (hs:Sat cx E s a w) (h:s.h=never):False:=by
 have:=hs.hp.heap 0 (.var [.vp 1 0]) (by rw [h];simp [never,hget])
 simp only [RepObj,Reps,Rep] at this
 obtain ⟨b,c,T,fz,_,_,⟨v,r,_,⟨b2,cs,h2,_⟩,_⟩,_⟩:=this
 rw [h] at h2
 simp [never,hget] at h2
theorem zrE {cx:Cx} {c:Code} {Q:Exit→AS→Prop} {t:List (Nat×(Bool×AV))} {g:Option (List (List AV))} :AW cx c Q ⟨t,never,g⟩:=
 fun E a w hs=>(zkg hs rfl).elim
theorem znU {cx:Cx} {c:Code} {Q:Exit→AS→Prop} {s:AS} (h:AW cx c (fun e s=>Q e s∨s.h=never) s):AW cx c Q s:=by
 intro E a w hs
 refine wpIn_mono (h E a w hs) ?_
 rintro e a1 w1 ⟨E1,s1,hq,hs1,he⟩
 rcases hq with hq|hq
 ·exact ⟨E1,s1,hq,hs1,he⟩
 ·exact (zkg hs1 hq).elim
open Classical in
theorem zch {cx:Cx} {s:AS} {Q:Exit→AS→Prop} {g:Operand} {ps:Array Tmp} {assign body:Code} {f:FuncId} {fs caps:List AV} (fl:Nat) {items:List (List AV)} (Good:List (List AV)→Prop) (I:List (List AV)→AHeap×Option (List (List AV))) (J:Code→AHeap→Option (List (List AV))→Prop)
  (hit:AIter cx.P f fl fs caps [] items (fun g h'=>(∀xs,g=some xs→xs=items)∧h'= [])) (hg:s.ev g=(true,.fn (.func f) fs caps)) (hro:cx.ro=none)
  (hfl:∀i,(hget s.h i).isSome→i<fl) (hfc:cx.fl≤fl) (hids:AV.idsL fs++AV.idsL caps= [])
  (hG0:Good []) (hI:leH s.h (I []).1) (hIn:inH (I []).1 (idsH (I []).1)) (hIg:(I []).2=s.g)
  (hlen:∀x∈items,x.length=ps.size) (hps:∀t∈ps.toList,t<cx.nt)
  (hround:∀xs x,(xs++ [x])<+:items→Good xs→∀ (l:Nat) (r1:Rnd cx),AW (cx.inR l fl r1) assign (AsgK fun s1=>∀r2:Rnd cx,AW (cx.inR l fl r2) body (zc (fun h' g'=>Good (xs++ [x])∧leH h' (I (xs++ [x])).1∧inH (I (xs++ [x])).1 (idsH (I (xs++ [x])).1)∧g'=(I (xs++ [x])).2) J) s1)
   { t:=zd2 ps.toList x (keepT (I xs).1 s.t),h:=(I xs).1,g:=(I xs).2 })
  (hdone:Good items→Q .normal { t:=keepT (I items).1 s.t,h:=(I items).1,g:=(I items).2 })
  (hstop:∀c h3 g3,J c h3 g3→AW cx c Q { t:=keepT h3 s.t,h:=h3,g:=g3 }):
  AW cx (.rangeFunc g ps assign body) Q s:=by
 refine znU (zps fl (fun xs=>if Good xs then I xs else (never,none)) J hit hg hro hfl hfc hids ?_ ?_ ?_ hlen hps ?_ ?_ ?_)
 ·simp only [if_pos hG0];exact hI
 ·simp only [if_pos hG0];exact hIn
 ·simp only [if_pos hG0];exact hIg
 ·intro xs x hp l r1
  by_cases hgd:Good xs
  ·simp only [if_pos hgd]
   refine (hround xs x hp hgd l r1).mono ?_
   intro e s1 h1
   cases e with
   | normal=>
    intro r2
    refine (h1 r2).mono ?_
    intro e2 s2 h2
    cases e2 with
    |normal=>
     obtain ⟨g1,g2,g3,g4⟩:=h2
     simp only [zc,if_pos g1]
     exact ⟨g2,g3,g4⟩
    |_=>exact h2
   |_=>exact h1
  ·simp only [if_neg hgd]
   exact zrE
 ·by_cases hgd:Good items
  ·simp only [if_pos hgd];exact .inl (hdone hgd)
  ·simp only [if_neg hgd];exact .inr trivial
 ·intro c h3 g3 hj
  exact (hstop c h3 g3 hj).mono fun e s h=> .inl h
theorem zeg {α β:Type} {g:α→β} {xs:List β} {x:β} {l:List α} (h:(xs++ [x])<+:l.map g):∃ys q zs,xs=ys.map g∧x=g q∧l=ys++q::zs:=by
 obtain ⟨r,hr⟩:=h
 rw [List.append_assoc,List.singleton_append] at hr
 obtain ⟨ys,zs,hl,h1,h2⟩:=List.map_eq_append_iff.1 hr.symm
 obtain ⟨q,zs',hz,h3,h4⟩:=List.map_eq_cons_iff.1 h2
 exact ⟨ys,q,zs',h1.symm,h3.symm,by rw [hl,hz]⟩
theorem znV {α:Type} {p:α→Bool} {ys zs:List α} {q:α} (h:ys.any p=false) (hq:p q=true):(ys++q::zs).find? p=some q:=by
 rw [List.find?_append,List.find?_eq_none.2 (fun x hx=>by simpa using List.any_eq_false.1 h x hx),List.find?_cons,hq]
 rfl
theorem zhi {cx:Cx} {c:Code} {Q:Exit→AS→Prop} {s:AS} (h:AW cx c (fun e s=>Q e { t:= [],h:= [],g:=s.g }) s):AW cx c Q s:=by
 intro E a w hs
 refine wpIn_mono (h E a w hs) ?_
 rintro e a1 w1 ⟨E1,s1,hq,hs1,he⟩
 have hno:∀b,¬Own E1 [] b:=fun b ⟨i,hi,_⟩=>by simp [hget] at hi
 refine ⟨E1, { t:= [],h:= [],g:=s1.g },hq,⟨fun k g v hk=>by simp [lk] at hk,hs1.nt,⟨fun i o ho=>by simp [hget] at ho,fun i j b hi=>by simp [hget] at hi,fun b hb=>absurd hb (hno b),hs1.hp.mlt,hs1.hp.nlt⟩,hs1.base,hs1.marks,?_⟩,
  ⟨he.os,he.tape,he.output,he.size,he.keep,fun b hb=>absurd hb (hno b),he.m1,he.m2,he.n,fun i _ h=>by simp [hget] at h⟩⟩
 exact cx.stab _ _ _ _ _ w1 _ (fun _ _ _=>rfl) (fun b hb=> .inl (hb.elim (fun h=>absurd h (hno b)) .inr)) (fun b hb=>hb.elim (fun h=>absurd h (hno b)) hs1.marks.lt) (Nat.le_refl _) rfl rfl rfl hs1.ghost
open Go
section
variable {cx : Cx} {s : AS} {Q : Exit → AS → Prop}
theorem zjf {g:Operand} {ps:Array Tmp} {assign body:Code} {f:FuncId} {fs caps caps':List AV} {fl:Nat} {items:List (List AV)} {Kit:Option (List (List AV))→AHeap→Prop} (p:Nat→Bool) (I:List (List AV)→AHeap×Option (List (List AV))) (J:Code→AHeap→Option (List (List AV))→Prop)
    (hro:cx.ro=none) (hg:s.ev g=(true,.fn (.func f) fs caps)) (hcle:AV.leL caps caps') (hen:zfe cx.P f)
    (hit:∀E0 w0 (pf qc:Array Value),SatH E0 s.h w0→Reps w0 E0 s.h fs pf.toList→Reps w0 E0 s.h caps qc.toList→∃S:World→Prop,
      (∀y:Yo cx.P items,(∀g M N A w,y.G g M N A w→S w)→∀E w,SatH E (hsel p s.h) w→Reps w E (hsel p s.h) fs pf.toList→Reps w E (hsel p s.h) caps' qc.toList→y.G (some []) E.M E.N (Own E (hsel p s.h)) w→
        Calls cx.P f (pf++ #[Value.func (.yield y.yl) #[] #[]]++qc) w (fun e w'=>∃v E' h' g,e= .returned v∧Kit g h'∧SatH E' h' w'∧Evo fl E (hsel p s.h) w E' h' w'∧y.G g E'.M E'.N (Own E' h') w'))∧
      (∀xs E w,SatH E (I xs).1 w→(∀i,i<fl→(hget (I xs).1 i).isSome→GoesOn E0 s.h E (I xs).1 i)→S w)∧
      (∀c h3 g3,J c h3 g3→∀E w,SatH E h3 w→(∀i,i<fl→(hget h3 i).isSome→GoesOn E0 s.h E h3 i)→S w))
    (hfl:∀i,(hget s.h i).isSome→i<fl) (hfc:cx.fl≤fl) (hcl:zgj p s.h) (hids:∀j∈AV.idsL fs++AV.idsL caps',p j=true)
    (hI:leH (hsel (fun i=> !p i) s.h) (I []).1) (hIn:inH (I []).1 (idsH (I []).1)) (hIg:(I []).2=s.g)
    (hnames:∀xs,xs<+:items→∀i,(hget (I xs).1 i).isSome→p i=false) (hJ:∀c h3 g3,J c h3 g3→∀i,(hget h3 i).isSome→p i=false) (hK1:∀g h',Kit g h'→(∀i,(hget h' i).isSome→p i=true)∧(∀xs,g=some xs→xs=items))
    (hlen:∀x∈items,x.length=ps.size) (hps:∀t∈ps.toList,t<cx.nt)
    (hround:∀xs x,(xs++ [x])<+:items→∀ (l:Nat) (r1:Rnd cx),AW (cx.inR l fl r1) assign (AsgK fun s1=>∀r2:Rnd cx,AW (cx.inR l fl r2) body (zc (fun h' g'=>leH h' (I (xs++ [x])).1∧inH (I (xs++ [x])).1 (idsH (I (xs++ [x])).1)∧g'=(I (xs++ [x])).2) J) s1)
      { t:=zd2 ps.toList x (keepT (I xs).1 s.t),h:=(I xs).1,g:=(I xs).2 })
    (hdone:∀h1,Kit (some items) h1→Q .normal { t:=keepT (h1++(I items).1) s.t,h:=h1++(I items).1,g:=(I items).2 })
    (hstop:∀c h1 h3 g3,Kit none h1→J c h3 g3→AW cx c Q { t:=keepT (h1++h3) s.t,h:=h1++h3,g:=g3 }):
    AW cx (.rangeFunc g ps assign body) Q s:=by
  intro E0 a w0 hs0
  refine wpIn_rangeFunc ?_
  intro fn hfn
  obtain ⟨l,hl⟩:∃l,l=w0.heap.size+1:=⟨_,rfl⟩
  obtain ⟨d,hd⟩:∃d,d=w0.heap.size:=⟨_,rfl⟩
  obtain ⟨rec,hrec⟩:∃rec:LoopState→Option Code→Loop,rec=fun st pe=> { state:=st,pending:=pe,fn:=fn,tmps:=a.tmps,params:=ps,assign:=assign,body:=body,defers:=d } :=⟨_,rfl⟩
  obtain ⟨w1,hw1⟩:∃w1,w1=(w0.alloc (.deferred (some []))).alloc (.loop (rec .ready none)):=⟨_,rfl⟩
  have hsz1:w1.heap.size=w0.heap.size+2:=by rw [hw1];simp
  have hk1:∀b,b<w0.heap.size→w1.heap[b]?=w0.heap[b]?:=fun b hb=>by
    rw [hw1]
    show ((w0.heap.push _).push _)[b]?=_
    rw [Array.getElem?_push,if_neg (by simp;omega),Array.getElem?_push,if_neg (by omega)]
  have hd1:w1.heap[d]?=some (.deferred (some [])):=by
    rw [hw1,hd]
    show ((w0.heap.push _).push _)[w0.heap.size]?=_
    rw [Array.getElem?_push,if_neg (by simp),Array.getElem?_push,if_pos rfl]
  have hl1:w1.heap[l]?=some (.loop (rec .ready none)):=by
    rw [hw1,hl]
    show ((w0.heap.push _).push _)[w0.heap.size+1]?=_
    rw [Array.getElem?_push,if_pos (by simp)]
  have hfv:=ev_ok hs0.slots g (by rw [hg])
  rw [hg] at hfv
  simp only [Rep] at hfv
  obtain ⟨pf,qc,hgv,hfs,hcs⟩:=hfv
  obtain ⟨S,hitS,hSI,hSJ⟩:=hit E0 w0 pf qc hs0.hp hfs hcs
  replace hcs:Reps w0 E0 s.h caps' qc.toList:=Reps.le _ _ _ hcle hcs
  have hids1:∀j∈AV.idsL fs,p j=true:=fun j hj=>hids j (List.mem_append_left _ hj)
  have hids2:∀j∈AV.idsL caps',p j=true:=fun j hj=>hids j (List.mem_append_right _ hj)
  have hmk:∀b,zaA a.defers b→b<w0.heap.size:=fun b hb=>hs0.marks.lt hb
  have howns:∀b,Own E0 (hsel p s.h) b→¬Own E0 (hsel (fun i=> !p i) s.h) b:=by
    rintro b ⟨i,hi,hb⟩ ⟨j,hj,hb'⟩
    rw [zk] at hi hj
    split at hi
    · rename_i hpi
      split at hj
      · rename_i hpj
        have:=hs0.hp.inj i j b hi hj hb hb'
        subst this
        rw [hpi] at hpj;cases hpj
      · simp at hj
    · simp at hi
  obtain ⟨E1,hE1⟩:∃E1:Env,E1= { O:=E0.O,C:=E0.C,M:=fun b=>Own E0 (hsel (fun i=> !p i) s.h) b∨E0.M b∨b=l∨b=d,N:=E0.N } :=⟨_,rfl⟩
  have hX1:∀b,b<w0.heap.size→Xs E1 (hsel p s.h) b→Xs E0 s.h b:=by
    rw [hE1]
    rintro b hb (hx|(hx|hx|hx|hx)|hx)
    · exact .inl (zD hx)
    · exact .inl (zD hx)
    · exact .inr (.inl hx)
    · omega
    · omega
    · exact .inr (.inr hx)
  have hgo1:∀j,p j=true→GoesOn E0 s.h E1 (hsel p s.h) j:=fun j hj=>by
    rw [hE1]
    unfold GoesOn
    rw [zk,if_pos hj]
    split<;>simp_all
  have hs1:SatH E1 (hsel p s.h) w1:=by
    refine ⟨fun i o ho=>?_,fun i j b hi hj h1 h2=>?_,fun b hb=>?_,fun b hb=>?_,fun b hb=>?_⟩
    · have ho':=ho
      rw [zk] at ho'
      split at ho'
      · rename_i hpi
        have:=hs0.hp.heap i o ho'
        have hidso:=hcl i o ho' hpi
        have hlt:∀b,E0.O i=some b→w1.heap[b]?=w0.heap[b]?:=fun b hb=>hk1 b (hs0.hp.own b ⟨i,by simp [ho'],hb⟩).1
        have hO:E1.O=E0.O:=by rw [hE1]
        have hC:E1.C=E0.C:=by rw [hE1]
        cases o with
        | var cs=>
          simp only [RepObj,hO] at this ⊢
          obtain ⟨b,c,T,fz,g1,g2,g3,g4⟩:=this
          exact ⟨b,c,T,fz,g1,(hlt b g1).trans g2,Reps.step hX1 (fun b hb _=>hk1 b hb) _ _ (fun j hj=>hgo1 j (hidso j hj)) g3,g4⟩
        | tvar tt cs=>
          simp only [RepObj,hO] at this ⊢
          obtain ⟨b,c,T,fz,g1,g2,g3,g4⟩:=this
          exact ⟨b,c,T,fz,g1,(hlt b g1).trans g2,Reps.step hX1 (fun b hb _=>hk1 b hb) _ _ (fun j hj=>hgo1 j (hidso j hj)) g3,g4⟩
        | arr k xs=>
          simp only [RepObj,hO,hC] at this ⊢
          rcases this with g|⟨b,c,T,fz,g1,g2,g3,g4,g5,g6⟩
          · exact .inl g
          · exact .inr ⟨b,c,T,fz,g1,(hlt b g1).trans g2,g3,g4,RepRows.step hX1 (fun b hb _=>hk1 b hb) _ _ _ g5,g6⟩
        | buf tt xs=>
          simp only [RepObj,hO,hC] at this ⊢
          rcases this with g|⟨b,c,T,fz,g1,g2,g3,g4,g5,g6⟩
          · exact .inl g
          · exact .inr ⟨b,c,T,fz,g1,(hlt b g1).trans g2,g3,g4,g5,g6⟩
        | strit l q=>
          simp only [RepObj,hO] at this ⊢
          obtain ⟨b,g1,g2⟩:=this
          exact ⟨b,g1,(hlt b g1).trans g2⟩
        | omap es=>
          simp only [RepObj,hO] at this ⊢
          obtain ⟨b,m,cl,g1,g2,g3⟩:=this
          exact ⟨b,m,cl,g1,(hlt b g1).trans g2,g3⟩
      · cases ho'
    · rw [hE1] at h1 h2
      rw [zk] at hi hj
      split at hi
      · split at hj
        · exact hs0.hp.inj i j b hi hj h1 h2
        · simp at hj
      · simp at hi
    · have hb':Own E0 (hsel p s.h) b:=by rw [hE1] at hb;exact hb
      have:=hs0.hp.own b (zD hb')
      rw [hE1]
      refine ⟨by omega,?_,this.2.2⟩
      rintro (hx|hx|hx|hx)
      · exact howns b hb' hx
      · exact this.2.1 hx
      · omega
      · omega
    · rw [hE1] at hb
      rcases hb with hx|hx|hx|hx
      · have:=(hs0.hp.own b (zD hx)).1;omega
      · have:=hs0.hp.mlt b hx;omega
      · omega
      · omega
    · rw [hE1] at hb
      have:=hs0.hp.nlt b hb;omega
  have hfs1:Reps w1 E1 (hsel p s.h) fs pf.toList:=Reps.step hX1 (fun b hb _=>hk1 b hb) _ _ (fun j hj=>hgo1 j (hids1 j hj)) hfs
  have hcs1:Reps w1 E1 (hsel p s.h) caps' qc.toList:=Reps.step hX1 (fun b hb _=>hk1 b hb) _ _ (fun j hj=>hgo1 j (hids2 j hj)) hcs
  obtain ⟨E2,hE2⟩:∃E2:Env,E2= { O:=E0.O,C:=E0.C,M:=E0.M,N:=fun b=>E0.N b∨Own E0 (hsel p s.h) b∨b=l∨b=d } :=⟨_,rfl⟩
  have hown2:∀b,Own E2 (I []).1 b→Own E0 (hsel (fun i=> !p i) s.h) b:=fun b hb=>by
    have:Own E0 (I []).1 b:=by rw [hE2] at hb;exact hb
    exact zgc hI this
  have hX2:∀b,b<w0.heap.size→Xs E2 (I []).1 b→Xs E0 s.h b:=by
    intro b hb hx
    rcases hx with hx|hx|hx
    · exact .inl (zD (hown2 b hx))
    · rw [hE2] at hx;exact .inr (.inl hx)
    · rw [hE2] at hx
      rcases hx with hx|hx|hx|hx
      · exact .inr (.inr hx)
      · exact .inl (zD hx)
      · omega
      · omega
  have hO2:E2.O=E0.O:=by rw [hE2]
  have hC2:E2.C=E0.C:=by rw [hE2]
  have hM2:E2.M=E0.M:=by rw [hE2]
  have hs2:SatH E2 (I []).1 w1:=by
    have hp0:∀i o,hget (hsel (fun i=> !p i) s.h) i=some o→RepObj w0 E0 s.h i o:=fun i o ho=>by
      rw [zk] at ho
      split at ho
      · exact hs0.hp.heap i o ho
      · cases ho
    refine ⟨fun i o ho=>?_,fun i j b hi hj h1 h2=>?_,fun b hb=>?_,fun b hb=>?_,fun b hb=>?_⟩
    · obtain ⟨o1,ho1,hle⟩:=zbq hI ho
      have hr:=hp0 i o1 ho1
      have hlt:∀b,E0.O i=some b→w1.heap[b]?=w0.heap[b]?:=fun b hb=>hk1 b (hs0.hp.own b ⟨i,by
        rw [zk] at ho1
        split at ho1
        · simp [ho1]
        · simp at ho1,hb⟩).1
      have hgoI:∀j,(hget (I []).1 j).isSome→GoesOn E0 s.h E2 (I []).1 j:=fun j hj=>by
        have hj1:=zbO (E:=E0) hI hj
        have hj2:(hget (hsel (fun i=> !p i) s.h) j).isSome:=by
          obtain ⟨o',ho'⟩:=Option.isSome_iff_exists.1 hj
          obtain ⟨oo,hoo,_⟩:=zbq hI ho'
          simp [hoo]
        have hpj:(!p j)=true:=by
          rw [zk] at hj2
          split at hj2
          · assumption
          · simp at hj2
        have hj3:=(zc1 (E:=E0) (h:=s.h) (p:=fun i=> !p i) j hpj).trans hj1
        unfold GoesOn at hj3 ⊢
        rw [hO2,hC2]
        exact hj3
      have hidsI:∀j∈o.ids,(hget (I []).1 j).isSome:=fun j hj=>zeV hIn j (zes ho j hj)
      cases o1 with
      | var cs=>
        cases o<;>simp only [AObj.le] at hle
        simp only [RepObj,hO2] at hr ⊢
        obtain ⟨b,c,T,fz,g1,g2,g3,g4⟩:=hr
        exact ⟨b,c,T,fz,g1,(hlt b g1).trans g2,Reps.step hX2 (fun b hb _=>hk1 b hb) _ _ (fun j hj=>hgoI j (hidsI j hj)) (Reps.le _ _ _ hle g3),g4⟩
      | tvar tt cs=>
        cases o<;>simp only [AObj.le] at hle
        obtain ⟨rfl,hle⟩:=hle
        simp only [RepObj,hO2] at hr ⊢
        obtain ⟨b,c,T,fz,g1,g2,g3,g4⟩:=hr
        exact ⟨b,c,T,fz,g1,(hlt b g1).trans g2,Reps.step hX2 (fun b hb _=>hk1 b hb) _ _ (fun j hj=>hgoI j (hidsI j hj)) (Reps.le _ _ _ hle g3),g4⟩
      | arr k xs=>
        simp only [AObj.le] at hle;subst hle
        simp only [RepObj,hO2,hC2] at hr ⊢
        rcases hr with g|⟨b,c,T,fz,g1,g2,g3,g4,g5,g6⟩
        · exact .inl g
        · exact .inr ⟨b,c,T,fz,g1,(hlt b g1).trans g2,g3,g4,RepRows.step hX2 (fun b hb _=>hk1 b hb) _ _ _ g5,g6⟩
      | buf tt xs=>
        simp only [AObj.le] at hle;subst hle
        simp only [RepObj,hO2,hC2] at hr ⊢
        rcases hr with g|⟨b,c,T,fz,g1,g2,g3,g4,g5,g6⟩
        · exact .inl g
        · exact .inr ⟨b,c,T,fz,g1,(hlt b g1).trans g2,g3,g4,g5,g6⟩
      | strit l q=>
        simp only [AObj.le] at hle;subst hle
        simp only [RepObj,hO2] at hr ⊢
        obtain ⟨b,g1,g2⟩:=hr
        exact ⟨b,g1,(hlt b g1).trans g2⟩
      | omap es=>
        simp only [AObj.le] at hle;subst hle
        simp only [RepObj,hO2] at hr ⊢
        obtain ⟨b,m,cl,g1,g2,g3⟩:=hr
        exact ⟨b,m,cl,g1,(hlt b g1).trans g2,g3⟩
    · rw [hO2] at h1 h2
      have key:∀i,(hget (I []).1 i).isSome→(hget s.h i).isSome:=fun i hi=>by
        obtain ⟨o',ho'⟩:=Option.isSome_iff_exists.1 hi
        obtain ⟨oo,hoo,_⟩:=zbq hI ho'
        rw [zk] at hoo
        split at hoo
        · simp [hoo]
        · cases hoo
      exact hs0.hp.inj i j b (key i hi) (key j hj) h1 h2
    · have hb':=hown2 b hb
      have:=hs0.hp.own b (zD hb')
      rw [hE2]
      refine ⟨by omega,this.2.1,?_⟩
      rintro (hx|hx|hx|hx)
      · exact this.2.2 hx
      · exact howns b hx hb'
      · omega
      · omega
    · rw [hM2] at hb
      have:=hs0.hp.mlt b hb;omega
    · rw [hE2] at hb
      rcases hb with hx|hx|hx|hx
      · have:=hs0.hp.nlt b hx;omega
      · have:=(hs0.hp.own b (zD hx)).1;omega
      · omega
      · omega
  have hkept:Kept cx l d fl p E0 s.h w0 a.defers E1.M E1.N (Own E1 (hsel p s.h)) E2 (I []).1 (I []).2 w1:=by
    have hO1:∀b,Own E1 (hsel p s.h) b↔Own E0 (hsel p s.h) b:=fun b=>by rw [hE1];exact Iff.rfl
    refine ⟨hs2,hnames [] (List.nil_prefix),fun b=>by rw [hE1],fun b hb=> .inl ((hO1 b).1 hb),fun b=>by rw [hE2];simp only [hO1],fun b hb hm=>?_,fun b hb=>?_,?_,⟨by rw [hw1];rfl,by rw [hw1];rfl,by rw [hw1];rfl,by omega,fun b hb _ _=>hk1 b hb,fun b hb=> .inl (zD (hown2 b hb)),fun b hb=>by rwa [hM2],fun b hb=> .inl (by rwa [hM2] at hb),fun i hi hg=>?_⟩,fun b hb=> .inl (hown2 b hb),fun b hb=> .inl (by rwa [hM2] at hb),by omega,hd1,?_⟩
    · rw [hM2] at hm
      exact (hs0.hp.own b (zD ((hO1 b).1 hb))).2.1 hm
    · rw [hE1]
      rcases hb with hb|hb
      · exact .inl (hown2 b hb)
      · exact .inr (.inl (by rwa [hM2] at hb))
    · rw [hE1];exact ⟨.inr (.inr (.inl rfl)),.inr (.inr (.inr rfl))⟩
    · have hj1:=zbO (E:=E0) hI hg
      have hj2:(hget (hsel (fun i=> !p i) s.h) i).isSome:=by
        obtain ⟨o',ho'⟩:=Option.isSome_iff_exists.1 hg
        obtain ⟨oo,hoo,_⟩:=zbq hI ho'
        simp [hoo]
      have hpj:(!p i)=true:=by
        rw [zk] at hj2
        split at hj2
        · assumption
        · simp at hj2
      have hj3:=(zc1 (E:=E0) (h:=s.h) (p:=fun i=> !p i) i hpj).trans hj1
      refine ⟨by rw [zk,if_pos hpj] at hj2;exact hj2,?_⟩
      unfold GoesOn at hj3 ⊢
      rw [hO2,hC2]
      exact hj3
    · rw [hIg,hM2]
      refine cx.stab _ _ _ _ _ w0 _ (fun b hb _=>hk1 b hb) (fun b hb=>?_) (fun b hb=>?_) (by omega) (by rw [hw1];rfl) (by rw [hw1];rfl) (by rw [hw1];rfl) hs0.ghost
      · rcases hb with hb|hb|hb|hb|hb
        · exact .inl (.inl (zD (hown2 b hb)))
        · exact .inl (.inl (zD ((hO1 b).1 hb)))
        · exact .inr (by omega)
        · exact .inr (by omega)
        · exact .inl (.inr hb)
      · rcases hb with hb|hb|hb|hb|hb
        · have:=(hs0.hp.own b (zD (hown2 b hb))).1;omega
        · have:=(hs0.hp.own b (zD ((hO1 b).1 hb))).1;omega
        · omega
        · omega
        · have:=hmk b hb;omega
  let y : Yo cx.P items:=
    { yl:=l
      G:=zaR cx l d fl p E0 s.h w0 a.defers I J rec
      stab:=fun gg M N A A' w w' hk hA hAb hsz ht ho hout hG=>by
        cases gg with
        | some xs=>
          simp only [zaR] at hG ⊢
          obtain ⟨E3,k,hrl⟩:=hG
          obtain ⟨E3',k',hnl⟩:=k.step hl hd hs0.hp hmk hk hA hAb hsz ht ho hout
          exact ⟨E3',k',(hk l (by have:=k.size;omega) hnl).trans hrl⟩
        | none=>
          simp only [zaR] at hG ⊢
          obtain ⟨E3,c,h3,g3,k,hrl,hj⟩:=hG
          obtain ⟨E3',k',hnl⟩:=k.step hl hd hs0.hp hmk hk hA hAb hsz ht ho hout
          exact ⟨E3',c,h3,g3,k',(hk l (by have:=k.size;omega) hnl).trans hrl,hj⟩
      yok:=zjZ hl hd hs0 I J hnames hJ hlen hps hfl hround rec hrec }
  have hGS:∀g M N A w,y.G g M N A w→S w:=by
    intro gg M N A w hG
    cases gg with
    | some xs=>
      have hG':zaR cx l d fl p E0 s.h w0 a.defers I J rec (some xs) M N A w:=hG
      simp only [zaR] at hG'
      obtain ⟨E3,k,hrl⟩:=hG'
      exact hSI xs E3 w k.hp (fun i hi hh=>(k.far.go i hi hh).2)
    | none=>
      have hG':zaR cx l d fl p E0 s.h w0 a.defers I J rec none M N A w:=hG
      simp only [zaR] at hG'
      obtain ⟨E3,c,h3,g3,k,hrl,hj⟩:=hG'
      exact hSJ c h3 g3 hj E3 w k.hp (fun i hi hh=>(k.far.go i hi hh).2)
  have hG1:zaR cx l d fl p E0 s.h w0 a.defers I J rec (some []) E1.M E1.N (Own E1 (hsel p s.h)) w1:=by
    simp only [zaR]
    exact ⟨E2,hkept,hl1⟩
  have hcalls:=hitS y hGS E1 w1 hs1 hfs1 hcs1 hG1
  refine ⟨l,[{ target:= .collected d,args:= #[] }],w1, { target:= .fn (.func f) qc,args:=pf++ #[Value.func (.yield l) #[] #[]] },w1,f,pf++ #[Value.func (.yield l) #[] #[]]++qc,w1,?_,?_,fun _ _=>trivial,?_,fun h=>(by cases h),?_⟩
  · have hround0:cx.F.round=none:=hro
    rw [hround0,hw1,hrec,hl,hd]
    exact run_enterLoop_outer fn a.tmps ps assign body
  · simp only [resolve,rangeCall,hgv,Deferred.ofValue,Sem.run_pure,Sem.run_bind]
    simp [Act.eval]
  · simp only [invoke]
    exact hen _ _
  · refine (ziR 0 hcalls).mono ?_
    rintro e w5 ⟨v,E5,h5,g5,rfl,hKit,hs5,hev5,hG5⟩
    have hG5':zaR cx l d fl p E0 s.h w0 a.defers I J rec g5 E5.M E5.N (Own E5 h5) w5:=hG5
    obtain ⟨hn5,hit5⟩:=hK1 g5 h5 hKit
    have fin:∀ (st:LoopState) (pe:Option Code) (E4:Env) (hI':AHeap) (gI':Option (List (List AV))),st≠ .busy→Kept cx l d fl p E0 s.h w0 a.defers E5.M E5.N (Own E5 h5) E4 hI' gI' w5→w5.heap[l]?=some (.loop (rec st pe))→
        ∃w6 E6,(Instr.endLoop l).run cx.P w5= .ok pe w6∧Sat cx E6 { t:=keepT (h5++hI') s.t,h:=h5++hI',g:=gI' } { a with defers:= { target:= .collected d,args:= #[] } ::a.defers } w6∧Evo cx.fl E0 s.h w0 E6 (h5++hI') w6:=by
      intro st pe E4 hI' gI' hst k hrl
      have hend:=run_endLoop (P:=cx.P) hrl (by rw [hrec];exact hst)
      obtain ⟨w6,hw6⟩:∃w6,w6=w5.putObj l (.loop { rec st pe with state:= .exhausted }):=⟨_,rfl⟩
      have hsz5:=k.size
      have ap:Apart p E5 h5 E4 hI' E4.M E0.N:=
        { n1:=hn5,n2:=k.names,o1:=fun b hb=> .inr ((k.n2 b).2 (.inr (.inl hb))),o2:=fun b hb=> .inl (k.m1 b (.inl hb)),m1:=fun b hb=> .inl (k.m1 b (.inr hb)),m2:=fun b hb=> .inl hb,k1:=fun b hb=> .inr ((k.n1 b).2 hb),k2:=fun b hb=> .inr ((k.n2 b).2 (.inl hb)) }
      have hs6':=ap.sat hs5 k.hp k.hp.mlt (fun b hb=>k.hp.nlt b ((k.n2 b).2 (.inl hb)))
      obtain ⟨E6,hE6⟩:∃E6,E6=joinE p E5 E4 E4.M E0.N:=⟨_,rfl⟩
      rw [← hE6] at hs6'
      have hM6:E6.M=E4.M:=by rw [hE6];rfl
      have hN6:E6.N=E0.N:=by rw [hE6];rfl
      have hown6:∀b,Own E6 (h5++hI') b→Own E5 h5 b∨Own E4 hI' b:=fun b hb=>by rw [hE6] at hb;exact ap.own hb
      have ho5:∀b,Own E5 h5 b→Own E0 s.h b∨w1.heap.size≤b:=fun b hb=>(hev5.own b hb).imp (fun h=>by rw [hE1] at h;exact zD h) id
      have hgoE:∀j,(hget (h5++hI') j).isSome→GoesOn E0 s.h E6 (h5++hI') j∧(j<fl→(hget s.h j).isSome):=fun j hj=>by
        by_cases hpj:p j=true
        · have hj5:(hget h5 j).isSome:=by rw [ap.get1 hpj] at hj;exact hj
          have key:j<fl→(hget s.h j).isSome∧GoesOn E0 s.h E6 (h5++hI') j:=fun hjf=>by
            obtain ⟨q1,q2⟩:=hev5.go j hjf hj5
            rw [zk,if_pos hpj] at q1
            refine ⟨q1,?_⟩
            have q3:GoesOn E0 s.h E5 h5 j:=by
              unfold GoesOn at q2 ⊢
              rw [zk,if_pos hpj,hE1] at q2
              exact q2
            rw [hE6]
            exact q3.trans (ap.goes1 j)
          by_cases hj0:(hget s.h j).isSome
          · exact ⟨(key (hfl j hj0)).2,fun _=>hj0⟩
          · refine ⟨?_,fun hjf=>(key hjf).1⟩
            unfold GoesOn
            split
            · rename_i cs hh;exact (hj0 (by simp [hh])).elim
            · rename_i k xs hh;exact (hj0 (by simp [hh])).elim
            · rename_i l p hh;exact (hj0 (by simp [hh])).elim
            · rename_i es hh;exact (hj0 (by simp [hh])).elim
            · rename_i tt cs hh;exact (hj0 (by simp [hh])).elim
            · rename_i tt cs hh;exact (hj0 (by simp [hh])).elim
            · trivial
        · have hpj':p j=false:=by simpa using hpj
          have hj4:(hget hI' j).isSome:=by rw [ap.get2 hpj'] at hj;exact hj
          by_cases hj0:(hget s.h j).isSome
          · refine ⟨?_,fun _=>hj0⟩
            rw [hE6]
            exact (k.far.go j (hfl j hj0) hj4).2.trans (ap.goes2 j)
          · refine ⟨?_,fun hjf=>(k.far.go j hjf hj4).1⟩
            unfold GoesOn
            split
            · rename_i cs hh;exact (hj0 (by simp [hh])).elim
            · rename_i k xs hh;exact (hj0 (by simp [hh])).elim
            · rename_i l p hh;exact (hj0 (by simp [hh])).elim
            · rename_i es hh;exact (hj0 (by simp [hh])).elim
            · rename_i tt cs hh;exact (hj0 (by simp [hh])).elim
            · rename_i tt cs hh;exact (hj0 (by simp [hh])).elim
            · trivial
      have hXf:∀b c T fz,w0.heap[b]?=some (.cells c T fz)→Xs E6 (h5++hI') b→Xs E0 s.h b:=fun b c T fz hc hx=>by
        have hb:=(Array.getElem?_eq_some_iff.1 hc).1
        rcases hx with hx|hx|hx
        · rcases hown6 b hx with h|h
          · rcases ho5 b h with h|h
            · exact .inl h
            · omega
          · rcases k.far.own b h with h|h
            · exact .inl h
            · omega
        · rw [hM6] at hx
          rcases k.far.m2 b hx with h|h
          · exact .inr (.inl h)
          · omega
        · rw [hN6] at hx;exact .inr (.inr hx)
      have hKf:∀b c T fz,w0.heap[b]?=some (.cells c T fz)→¬Xs E0 s.h b→w5.heap[b]?=some (.cells c T fz):=fun b c T fz hc hx=>by
        rcases k.far.block b (Array.getElem?_eq_some_iff.1 hc).1 with h|h
        · exact absurd h hx
        · exact h.trans hc
      have hslots:Slots w5 E6 ⟨keepT (h5++hI') s.t,h5++hI',gI'⟩ a:=zfQ (g:=s.g) hs0.slots hXf hKf (fun j hj=>(hgoE j hj).1)
      have hdM:¬E4.M d:=fun hm=>by
        rcases k.m0 d hm with h|h
        · have:=hs0.hp.mlt d h;omega
        · omega
      have hmarks5:Marks cx.base E6 w5 ({ target:= .collected d,args:= #[] } ::a.defers):=by
        have hb0:=hs0.base
        refine ⟨fun dd hdd=>?_,?_⟩
        · rcases List.mem_cons.1 hdd with rfl|hdd
          · exact ⟨d,rfl,k.dd,by omega,by rw [hM6];exact hdM⟩
          · obtain ⟨r,q1,q2,q3,q4⟩:=hs0.marks.1 dd hdd
            have hr:=(Array.getElem?_eq_some_iff.1 q2).1
            refine ⟨r,q1,(k.far.keep r hr (hs0.hp.not_mark q2) q4).trans q2,q3,fun hm=>?_⟩
            rw [hM6] at hm
            rcases k.far.m2 r hm with h|h
            · exact q4 h
            · omega
        · simp only [List.map_cons,List.nodup_cons]
          refine ⟨?_,hs0.marks.2⟩
          simp only [List.mem_map,not_exists,not_and]
          intro dd hdd e
          obtain ⟨r,q1,q2,q3,q4⟩:=hs0.marks.1 dd hdd
          have hr:=(Array.getElem?_eq_some_iff.1 q2).1
          rw [q1] at e
          simp only at e
          omega
      have hghost5:cx.G gI' E6.M E6.N (fun b=>Own E6 (h5++hI') b∨zaA ({ target:= .collected d,args:= #[] } ::a.defers) b) (w5.putObj l (.loop { rec st pe with state:= .exhausted })):=by
        rw [hM6,hN6]
        refine cx.stab _ _ _ _ _ w5 _ (fun b _ hb=>World.putObj_heap_other (fun e=>hb (by rw [e];exact .inr (.inr (.inl rfl))))) (fun b hb=> .inl ?_) (fun b hb=>?_) (by simp) rfl rfl rfl k.ghost
        · rcases hb with hb|⟨dd,hdd,hdt⟩
          · rcases hown6 b hb with h|h
            · exact .inr (.inl h)
            · exact .inl h
          · rcases List.mem_cons.1 hdd with rfl|hdd
            · have:b=d:=by simpa using hdt.symm
              exact .inr (.inr (.inr (.inl this)))
            · exact .inr (.inr (.inr (.inr ⟨dd,hdd,hdt⟩)))
        · rw [World.putObj_size]
          rcases hb with hb|hb
          · exact (hs6'.own b hb).1
          · exact hmarks5.lt hb
      have hsat5:Sat (cxOf cx.P cx.base cx.nt cx.fl) E6 { t:=keepT (h5++hI') s.t,h:=h5++hI',g:=gI' } { a with defers:= { target:= .collected d,args:= #[] } ::a.defers } w5:=
        { slots:=fun kk g v hk=>hslots kk g v hk,nt:=hs0.nt,hp:=hs6',base:=Nat.le_trans hs0.base k.far.size,marks:=hmarks5,ghost:=trivial }
      refine ⟨w6,E6,?_,?_,?_⟩
      · rw [hend,hw6,hrec]
      · rw [hw6]
        exact ziY (cx1:=cxOf cx.P cx.base cx.nt cx.fl) (cx2:=cx) _ hsat5 hrl rfl rfl hghost5
      · rw [hw6]
        refine ⟨k.far.os,k.far.tape,k.far.output,by simpa using k.far.size,fun b hb h1 h2=>?_,fun b hb=>?_,fun b hb=>by rw [hM6];exact k.far.m1 b hb,fun b hb=>by rw [hM6] at hb;exact k.far.m2 b hb,hN6,fun i hi hg=>?_⟩
        · exact (World.putObj_heap_other (by omega)).trans (k.far.keep b hb h1 h2)
        · rcases hown6 b hb with h|h
          · rcases ho5 b h with h|h
            · exact .inl h
            · exact .inr (by omega)
          · exact k.far.own b h
        · exact ⟨(hgoE i hg).2 (by omega),(hgoE i hg).1⟩
    cases g5 with
    | some xs=>
      have hxs:=hit5 xs rfl
      subst hxs
      simp only [zaR] at hG5'
      obtain ⟨E4,k,hrl⟩:=hG5'
      obtain ⟨w6,E6,h1,h2,h3⟩:=fin .ready none E4 _ _ (by simp) k hrl
      exact ⟨none,w6,h1,E6,_,hdone h5 hKit,h2,h3⟩
    | none=>
      simp only [zaR] at hG5'
      obtain ⟨E4,c,h3',g3',k,hrl,hj⟩:=hG5'
      obtain ⟨w6,E6,h1,h2,h3⟩:=fin .done (some c) E4 _ _ (by simp) k hrl
      refine ⟨some c,w6,h1,?_⟩
      exact wpIn_mono (hstop c h5 h3' g3' hKit hj E6 _ w6 h2) (fun _ _ _ hr=>hr.trans h3)
end
open Go
def zdP (v:AV):AV:=if v.scal=true then v else .any
def zstep (cx:Cx) (o:Oper) (s f:AS) (K:AS→AS→Prop):Prop:=
 dstOk cx.nt o.dst∧o.guard=none∧
 match o.op with
 | .move x=>known s x=true∧(s.ev x).1=true∧K (s.put o.dst true ((s.ev x).2.tag cx.P o.type)) (f.put o.dst true (zdP ((s.ev x).2.tag cx.P o.type)))
 | .assign x=>known s x=true∧(s.ev x).1=true∧K (s.put o.dst true ((s.ev x).2.tag cx.P o.type)) (f.put o.dst true (zdP ((s.ev x).2.tag cx.P o.type)))
 | .call c=>isVal cx.P (.call c)=true∧(aval cx.P f (.call c)).1∧K (s.put o.dst true (zdP (aval cx.P f (.call c)).2)) (f.put o.dst true (aval cx.P f (.call c)).2)
 | .load t x=>isVal cx.P (.load t x)=true∧(aval cx.P f (.load t x)).1∧K (s.put o.dst true .any) (f.put o.dst true (aval cx.P f (.load t x)).2)
 |op=>isVal cx.P op=true∧(aval cx.P f op).1∧K (s.put o.dst true (zdP (aval cx.P f op).2)) (f.put o.dst true (aval cx.P f op).2)
def ziv (cx:Cx):List Oper→AS→AS→(AS→Prop)→Prop
 | [],s,_,K=>K s
 |o::r,s,f,K=>zstep cx o s f (fun s' f'=>ziv cx r s' f' K)
section
variable {cx : Cx} {tab : Tab} {E F : Env} {s f : AS} {a : Act} {w : World}
theorem zkr {W W':World} {E E':Env} {h h':AHeap} {v:AV} {x:Value} (hr:Rep W E h v x):Rep W' E' h' (zdP v) x:=by
 unfold zdP
 split
 ·rename_i hs;exact Rep.scal v x hs hr
 ·simp only [Rep]
theorem zks {d:Option Nat} {v:AV} {x:Value} (hs:Slots w F f a) (hsz:∀k,d=some k→k<a.tmps.size) (hv:Rep w F f.h v x):Slots w F (f.put d true v) (a.put d x):=by
 cases d with
 |none=>exact hs
 | some d=>
  intro k g u hk
  have hd:=hsz d rfl
  rw [zj0] at hk
  have hh:(f.put (some d) true v).h=f.h:=rfl
  rw [hh]
  split at hk
  ·rename_i e
   simp only [Option.some.injEq] at e
   subst e
   simp only [Option.some.injEq,Prod.mk.injEq] at hk
   obtain ⟨rfl,rfl⟩:=hk
   refine ⟨x,?_,fun _=>hv,fun e=>by cases e⟩
   simp [Act.put,hd]
  ·rename_i e
   have e:¬d=k:=fun h=>e (by rw [h])
   obtain ⟨y,h1,h2,h3⟩:=hs k g u hk
   refine ⟨y,?_,h2,h3⟩
   simpa [Act.put,Array.getElem?_setIfInBounds_ne e] using h1
theorem zrW {o:Oper} {K:AS→AS→Prop} {Q:Exit→Act→World→Prop} {next:Act→World→Prop} (hs:Sat cx E s a w) (hp:SatH F f.h w) (hf:Slots w F f a) (h:zstep cx o s f K)
  (hn:∀s' f' a',Sat cx E s' a' w→SatH F f'.h w→Slots w F f' a'→s'.h=s.h→K s' f'→next a' w):o.wpIn cx.F 0 cx.P a w next Q:=by
 obtain ⟨hd,hg,h⟩:=h
 have hdst:∀k,o.dst=some k→k<cx.nt:=fun k e=>by rw [e] at hd;exact hd
 have hdst':∀k,o.dst=some k→k<a.tmps.size:=fun k e=>by rw [hs.nt];exact hdst k e
 have hputh:∀ (u:AS) (v:AV),(u.put o.dst true v).h=u.h:=fun u v=>by unfold AS.put;cases o.dst<;>rfl
 have hval:∀u:AV,(u= .any∨u=zdP (aval cx.P f o.op).2)→isVal cx.P o.op=true→(aval cx.P f o.op).1→K (s.put o.dst true u) (f.put o.dst true (aval cx.P f o.op).2)→o.wpIn cx.F 0 cx.P a w next Q:=by
  intro u hu h0 h1 h2
  obtain ⟨v,hv,hr⟩:=zli hp hf o h1
  refine Does.wpIn (zgV h0) (R:=fun v' w'=>v'=v∧w'=w) (.inl ⟨v,w,hv,rfl,rfl⟩) ?_
  rintro v' w' ⟨rfl,rfl⟩
  refine hn _ _ _ (hs.put hdst (fun _=>?_) (fun e=>by cases e)) (by rw [hputh];exact hp) (zks hf hdst' hr) (hputh _ _) h2
  rcases hu with rfl|rfl
  ·simp only [Rep]
  ·exact zkr hr
 have hmove:∀x,(execOp a.eval o=pure (.value (a.eval x)))→(∀c,o.op≠ .defer c)→(s.ev x).1=true→K (s.put o.dst true ((s.ev x).2.tag cx.P o.type)) (f.put o.dst true (zdP ((s.ev x).2.tag cx.P o.type)))→o.wpIn cx.F 0 cx.P a w next Q:=by
  intro x he h3 h1 h2
  refine Does.wpIn h3 (R:=fun v' w'=>v'=a.eval x∧w'=w) (.inl ⟨a.eval x,w,by rw [he];rfl,rfl,rfl⟩) ?_
  rintro v' w' ⟨rfl,rfl⟩
  have hr:=Rep.tag (P:=cx.P) (t:=o.type) (ev_ok hs.slots x h1)
  exact hn _ _ _ (hs.put hdst (fun _=>hr) (fun e=>by cases e)) (by rw [hputh];exact hp) (zks hf hdst' (zkr hr)) (hputh _ _) h2
 obtain ⟨dst,op,ot,pos,after,guard⟩:=o
 dsimp only at h hval hmove
 split at h
 ·exact hmove _ rfl (by simp) h.2.1 h.2.2
 ·exact hmove _ rfl (by simp) h.2.1 h.2.2
 ·exact hval _ (.inr rfl) h.1 h.2.1 h.2.2
 ·exact hval _ (.inl rfl) h.1 h.2.1 h.2.2
 ·exact hval _ (.inr rfl) h.1 h.2.1 h.2.2
theorem zkt (ht:TabOk cx.P tab) {all:Array Oper} :∀ (l:List Nat) (pre rest:List Oper) {K:AS→Prop} {s f:AS} {a:Act},l.map (all[·]?)=(pre++rest).map some→Sat cx E s a w→SatH F f.h w→Slots w F f a→ziv cx pre s f (fun s'=>aopsY cx tab all rest K s')→
  wpOpsIn cx.F 0 cx.P all (fun e a' w'=>e= .normal∧Reach cx E s.h w K a' w') l a w
 |l,[],rest,K,s,f,a,hl,hs,_,_,h=>zgE ht l rest (by simpa using hl) hs h
 | [],o::pre,rest,K,s,f,a,hl,hs,_,_,h=>by simp at hl
 | i::l,o::pre,rest,K,s,f,a,hl,hs,hp,hf,h=>by
  simp only [List.cons_append,List.map_cons,List.cons.injEq] at hl
  obtain ⟨hi,hl⟩:=hl
  simp only [ziv] at h
  simp only [wpOpsIn,hi]
  have hw:Region.wanted o (yielded all a.tmps)=true:=by
   unfold Region.wanted
   rw [h.2.1]
  rw [if_pos hw]
  refine zrW hs hp hf h ?_
  intro s' f' a' hs' hp' hf' he hK
  have:=zkt ht l pre rest hl hs' hp' hf' hK
  rw [he] at this
  exact this
theorem zn3 {β:Type} {id:Nat} {ops:Array Oper} {Q:Exit→AS→Prop} (tab:Tab) (ht:TabOk cx.P tab) (pre rest:List Oper) (hsp:ops.toList=pre++rest) (f:β→AS)
  (hS:∀g M N A w,cx.G g M N A w→∃F b,SatH F (f b).h w∧∀k g v,lk (f b).t k=some (g,v)→g=true∧∃u,lk s.t k=some (true,.raw u)∧Rep w F (f b).h v u)
  (h:∀b,ziv cx pre s (f b) (fun s'=>aopsY cx tab ops rest (Q .normal) s')):AW cx (.region id ops false) Q s:=fun E a w hs=>by
 obtain ⟨F,b,hp,hl⟩:=hS _ _ _ _ _ hs.ghost
 refine wpIn_region (zaF _ (zkt (F:=F) ht _ pre rest (by rw [← hsp];exact zgX ops) hs hp (fun k g v hk=>?_) (h b)) (by rintro e a' w' ⟨rfl,hr⟩;exact hr))
 obtain ⟨rfl,u,h1,h2⟩:=hl k g v hk
 obtain ⟨x,h3,h4,_⟩:=hs.slots k true _ h1
 have:=h4 rfl
 simp only [Rep] at this
 subst this
 exact ⟨x,h3,fun _=>h2,fun e=>by cases e⟩
theorem zeO {β:Type} {id:Nat} {ops:Array Oper} {y:Code} {Q:Exit→AS→Prop} (tab:Tab) (ht:TabOk cx.P tab) (pre rest:List Oper) (hsp:ops.toList=pre++rest) (f:β→AS)
  (hS:∀g M N A w,cx.G g M N A w→∃F b,SatH F (f b).h w∧∀k g v,lk (f b).t k=some (g,v)→g=true∧∃u,lk s.t k=some (true,.raw u)∧Rep w F (f b).h v u)
  (h:∀K,(∀s',AW cx y Q s'→K s')→∀b,ziv cx pre s (f b) (fun s'=>aopsY cx tab ops rest K s')):AW cx (.seq (.region id ops false) y) Q s:=
 zj fun K hK=>zn3 tab ht pre rest hsp f hS (h K hK)
end
attribute [go_sem] ziv zstep zdP List.take_succ_cons List.take_zero List.drop_succ_cons List.drop_zero
theorem zn4 {cx:Cx} {s:AS} {Q:Exit→AS→Prop} {g:Operand} {ps:Array Tmp} {assign body:Code} {f:FuncId} {q:Nat} (fl:Nat) {items:List (List AV)} (I:List (List AV)→AHeap×Option (List (List AV)))
  (hg:s.ev g=(true,.fn (.func f) [] [.vp q 0])) (hro:cx.ro=none) (hen:zfe cx.P f)
  (hrun:∀ (y:Yo cx.P items) (v0:Value),(∀g M N A w,y.G g M N A w→∃F xs,SatH F (I xs).1 w∧Rep w F (I xs).1 (.vp q 0) v0)→∀E w,SatH E [] w→y.G (some []) E.M E.N (Own E []) w→
   Calls cx.P f (#[]++ #[Value.func (.yield y.yl) #[] #[]]++ #[v0]) w (fun e w'=>∃v E' h' g,e= .returned v∧((∀xs,g=some xs→xs=items)∧h'= [])∧SatH E' h' w'∧Evo fl E [] w E' h' w'∧y.G g E'.M E'.N (Own E' h') w'))
  (hfl:∀i,(hget s.h i).isSome→i<fl) (hfc:cx.fl≤fl) (hq:∃cs,hget s.h q=some (.var cs)) (hqI:∀xs,∃cs,hget (I xs).1 q=some (.var cs))
  (hI:leH s.h (I []).1) (hIn:inH (I []).1 (idsH (I []).1)) (hIg:(I []).2=s.g)
  (hlen:∀x∈items,x.length=ps.size) (hps:∀t∈ps.toList,t<cx.nt)
  (hround:∀xs x,(xs++ [x])<+:items→∀ (l:Nat) (r1:Rnd cx),AW (cx.inR l fl r1) assign (AsgK fun s1=>∀r2:Rnd cx,AW (cx.inR l fl r2) body (zc (fun h' g'=>leH h' (I (xs++ [x])).1∧inH (I (xs++ [x])).1 (idsH (I (xs++ [x])).1)∧g'=(I (xs++ [x])).2) (fun _ _ _=>False)) s1)
   { t:=zd2 ps.toList x (keepT (I xs).1 s.t),h:=(I xs).1,g:=(I xs).2 })
  (hdone:Q .normal { t:=keepT (I items).1 s.t,h:=(I items).1,g:=(I items).2 }):
  AW cx (.rangeFunc g ps assign body) Q s:=by
 have hs0:hsel (fun _=>false) s.h= []:=by
  induction s.h with
  |nil=>rfl
  |cons a h ih=>simp only [hsel];rw [if_neg (by simp)];exact ih
 have hs1:hsel (fun i=> !(fun _=>false) i) s.h=s.h:=zgD (fun q _=>rfl)
 refine zjf (Kit:=fun g h'=>(∀xs,g=some xs→xs=items)∧h'= []) (items:=items) (fl:=fl) (caps':= [.any]) (fun _=>false) I (fun _ _ _=>False) hro hg (by simp [AV.leL,AV.le]) hen ?_ hfl hfc ?_ ?_ (by rw [hs1];exact hI) hIn hIg (fun _ _ _ _=>rfl) (fun _ _ _ h=>h.elim) ?_ hlen hps hround ?_ ?_
 ·intro E0 w0 pf qc h0 hpf hqc
  have hpf':pf= #[]:=by simp only [Reps] at hpf;simpa using hpf
  subst hpf'
  simp only [Reps] at hqc
  obtain ⟨v0,r,hv0,hr0,hr⟩:=hqc
  subst hr
  have hqc':qc= #[v0]:=by
   apply Array.ext'
   simpa using hv0
  subst hqc'
  refine ⟨fun w=>∃F xs,SatH F (I xs).1 w∧Rep w F (I xs).1 (.vp q 0) v0,?_,?_,fun _ _ _ h=>h.elim⟩
  ·intro y hy E w hsE _ _ hG
   rw [hs0] at hsE hG ⊢
   exact hrun y v0 hy E w hsE hG
  ·intro xs E w hsE hgo
   refine ⟨E,xs,hsE,?_⟩
   obtain ⟨cs,hc⟩:=hqI xs
   obtain ⟨cs0,hc0⟩:=hq
   have hgq:=hgo q (hfl q (by rw [hc0];rfl)) (by rw [hc];rfl)
   simp only [Rep] at hr0 ⊢
   obtain ⟨b,cs',h1,h2,h3⟩:=hr0
   unfold GoesOn at hgq
   rw [hc0] at hgq
   exact ⟨b,cs,hc,hgq.1.trans h2,h3⟩
 ·intro i o _ h;cases h
 ·intro j hj;simp [AV.idsL,AV.ids] at hj
 ·rintro g h' ⟨h1,rfl⟩
  exact ⟨fun i hi=>by simp [hget] at hi,h1⟩
 ·rintro h1 ⟨_,rfl⟩
  exact hdone
 ·exact fun _ _ _ _ _ h=>h.elim
open Go
open Go Go.Proofs
@[go_sem] theorem ty3:ty Go.Proofs.Tryz.prog 3=⟨.int .i64,1,8⟩:=by kernel_rfl
@[go_sem] theorem zk3:z6 Go.Proofs.Tryz.prog 3=true:=by kernel_rfl
@[go_sem] theorem tt3:zai Go.Proofs.Tryz.prog 12 3=false:=by kernel_rfl
@[go_sem] theorem zc3:zU Go.Proofs.Tryz.prog 12 3= [.d (.int .i64 0)]:=by kernel_rfl
@[go_sem] theorem ty4:ty Go.Proofs.Tryz.prog 4=⟨.bool,1,1⟩:=by kernel_rfl
@[go_sem] theorem zk4:z6 Go.Proofs.Tryz.prog 4=true:=by kernel_rfl
@[go_sem] theorem tt4:zai Go.Proofs.Tryz.prog 12 4=false:=by kernel_rfl
@[go_sem] theorem zc4:zU Go.Proofs.Tryz.prog 12 4= [.d (.bool false)]:=by kernel_rfl
@[go_sem] theorem ty5:ty Go.Proofs.Tryz.prog 5=⟨.int .u8,1,1⟩:=by kernel_rfl
@[go_sem] theorem zk5:z6 Go.Proofs.Tryz.prog 5=true:=by kernel_rfl
@[go_sem] theorem zc5:zU Go.Proofs.Tryz.prog 12 5= [.d (.int .u8 0)]:=by kernel_rfl
@[go_sem] theorem ty9:ty Go.Proofs.Tryz.prog 9=⟨.str,1,16⟩:=by kernel_rfl
@[go_sem] theorem zk9:z6 Go.Proofs.Tryz.prog 9=true:=by kernel_rfl
@[go_sem] theorem tt9:zai Go.Proofs.Tryz.prog 12 9=false:=by kernel_rfl
@[go_sem] theorem zc9:zU Go.Proofs.Tryz.prog 12 9= [.d (.str [])]:=by kernel_rfl
@[go_sem] theorem ty21:ty Go.Proofs.Tryz.prog 21=⟨.int .i32,1,4⟩:=by kernel_rfl
@[go_sem] theorem ty22:ty Go.Proofs.Tryz.prog 22=⟨.slice 183,1,24⟩:=by kernel_rfl
@[go_sem] theorem tt22:zai Go.Proofs.Tryz.prog 12 22=false:=by kernel_rfl
@[go_sem] theorem ty23:ty Go.Proofs.Tryz.prog 23=⟨.slice 3,1,24⟩:=by kernel_rfl
@[go_sem] theorem zk23:z6 Go.Proofs.Tryz.prog 23=true:=by kernel_rfl
@[go_sem] theorem tt23:zai Go.Proofs.Tryz.prog 12 23=false:=by kernel_rfl
@[go_sem] theorem zc23:zU Go.Proofs.Tryz.prog 12 23= [.nils 1]:=by kernel_rfl
@[go_sem] theorem ty25:ty Go.Proofs.Tryz.prog 25=⟨.struct [(0,9),(1,22),(2,3),(3,4),(4,23)],5,80⟩:=by kernel_rfl
@[go_sem] theorem zk25:z6 Go.Proofs.Tryz.prog 25=true:=by kernel_rfl
@[go_sem] theorem tt25:zai Go.Proofs.Tryz.prog 12 25=false:=by kernel_rfl
@[go_sem] theorem zc25:zU Go.Proofs.Tryz.prog 12 25= [.d (.str []),.nils 2,.d (.int .i64 0),.d (.bool false),.nils 1]:=by kernel_rfl
@[go_sem] theorem ty27:ty Go.Proofs.Tryz.prog 27=⟨.struct [(0,3),(1,3)],2,16⟩:=by kernel_rfl
@[go_sem] theorem zk27:z6 Go.Proofs.Tryz.prog 27=true:=by kernel_rfl
@[go_sem] theorem tt27:zai Go.Proofs.Tryz.prog 12 27=false:=by kernel_rfl
@[go_sem] theorem zc27:zU Go.Proofs.Tryz.prog 12 27= [.d (.int .i64 0),.d (.int .i64 0)]:=by kernel_rfl
@[go_sem] theorem si27:(Go.Proofs.Tryz.prog.stoodInHeld 27)=false:=by kernel_rfl
@[go_sem] theorem eg27:(Go.Proofs.Tryz.prog.eqGuardType Go.Proofs.Tryz.prog.depth 27)=false:=by kernel_rfl
@[go_sem] theorem ty28:ty Go.Proofs.Tryz.prog 28=⟨.int .u64,1,8⟩:=by kernel_rfl
@[go_sem] theorem tt28:zai Go.Proofs.Tryz.prog 12 28=false:=by kernel_rfl
@[go_sem] theorem ty30:ty Go.Proofs.Tryz.prog 30=⟨.struct [(0,28),(1,3)],2,16⟩:=by kernel_rfl
@[go_sem] theorem zk30:z6 Go.Proofs.Tryz.prog 30=true:=by kernel_rfl
@[go_sem] theorem tt30:zai Go.Proofs.Tryz.prog 12 30=false:=by kernel_rfl
@[go_sem] theorem zc30:zU Go.Proofs.Tryz.prog 12 30= [.d (.int .u64 0),.d (.int .i64 0)]:=by kernel_rfl
@[go_sem] theorem si30:(Go.Proofs.Tryz.prog.stoodInHeld 30)=false:=by kernel_rfl
@[go_sem] theorem eg30:(Go.Proofs.Tryz.prog.eqGuardType Go.Proofs.Tryz.prog.depth 30)=false:=by kernel_rfl
@[go_sem] theorem ty31:ty Go.Proofs.Tryz.prog 31=⟨.slice 166,1,24⟩:=by kernel_rfl
@[go_sem] theorem ty33:ty Go.Proofs.Tryz.prog 33=⟨.struct [(0,25),(5,27),(7,30),(9,31),(10,4)],11,144⟩:=by kernel_rfl
@[go_sem] theorem zk33:z6 Go.Proofs.Tryz.prog 33=true:=by kernel_rfl
@[go_sem] theorem tt33:zai Go.Proofs.Tryz.prog 12 33=false:=by kernel_rfl
@[go_sem] theorem zc33:zU Go.Proofs.Tryz.prog 12 33= [.d (.str []),.nils 2,.d (.int .i64 0),.d (.bool false),.nils 1,.d (.int .i64 0),.d (.int .i64 0),.d (.int .u64 0),.d (.int .i64 0),.nils 66,.d (.bool false)]:=by kernel_rfl
@[go_sem] theorem ty36:ty Go.Proofs.Tryz.prog 36=⟨.int .i64,1,8⟩:=by kernel_rfl
@[go_sem] theorem zk36:z6 Go.Proofs.Tryz.prog 36=true:=by kernel_rfl
@[go_sem] theorem tt36:zai Go.Proofs.Tryz.prog 12 36=false:=by kernel_rfl
@[go_sem] theorem zc36:zU Go.Proofs.Tryz.prog 12 36= [.d (.int .i64 0)]:=by kernel_rfl
@[go_sem] theorem ty53:ty Go.Proofs.Tryz.prog 53=⟨.int .u32,1,4⟩:=by kernel_rfl
@[go_sem] theorem zk53:z6 Go.Proofs.Tryz.prog 53=true:=by kernel_rfl
@[go_sem] theorem tt53:zai Go.Proofs.Tryz.prog 12 53=false:=by kernel_rfl
@[go_sem] theorem zc53:zU Go.Proofs.Tryz.prog 12 53= [.d (.int .u32 0)]:=by kernel_rfl
@[go_sem] theorem ty55:ty Go.Proofs.Tryz.prog 55=⟨.struct [(0,3),(1,53)],2,16⟩:=by kernel_rfl
@[go_sem] theorem zk55:z6 Go.Proofs.Tryz.prog 55=true:=by kernel_rfl
@[go_sem] theorem tt55:zai Go.Proofs.Tryz.prog 12 55=false:=by kernel_rfl
@[go_sem] theorem zc55:zU Go.Proofs.Tryz.prog 12 55= [.d (.int .i64 0),.d (.int .u32 0)]:=by kernel_rfl
@[go_sem] theorem ty58:ty Go.Proofs.Tryz.prog 58=⟨.slice 9,1,24⟩:=by kernel_rfl
@[go_sem] theorem zk58:z6 Go.Proofs.Tryz.prog 58=true:=by kernel_rfl
@[go_sem] theorem tt58:zai Go.Proofs.Tryz.prog 12 58=false:=by kernel_rfl
@[go_sem] theorem zc58:zU Go.Proofs.Tryz.prog 12 58= [.nils 1]:=by kernel_rfl
@[go_sem] theorem ty60:ty Go.Proofs.Tryz.prog 60=⟨.struct [(0,23),(1,58)],2,48⟩:=by kernel_rfl
@[go_sem] theorem zk60:z6 Go.Proofs.Tryz.prog 60=true:=by kernel_rfl
@[go_sem] theorem tt60:zai Go.Proofs.Tryz.prog 12 60=false:=by kernel_rfl
@[go_sem] theorem zc60:zU Go.Proofs.Tryz.prog 12 60= [.nils 1,.nils 1]:=by kernel_rfl
@[go_sem] theorem ty66:ty Go.Proofs.Tryz.prog 66=⟨.slice 83,1,24⟩:=by kernel_rfl
@[go_sem] theorem ty83:ty Go.Proofs.Tryz.prog 83=⟨.struct [(0,53),(1,3),(2,9)],3,32⟩:=by kernel_rfl
@[go_sem] theorem zk83:z6 Go.Proofs.Tryz.prog 83=true:=by kernel_rfl
@[go_sem] theorem tt83:zai Go.Proofs.Tryz.prog 12 83=false:=by kernel_rfl
@[go_sem] theorem zc83:zU Go.Proofs.Tryz.prog 12 83= [.d (.int .u32 0),.d (.int .i64 0),.d (.str [])]:=by kernel_rfl
@[go_sem] theorem si83:(Go.Proofs.Tryz.prog.stoodInHeld 83)=false:=by kernel_rfl
@[go_sem] theorem eg83:(Go.Proofs.Tryz.prog.eqGuardType Go.Proofs.Tryz.prog.depth 83)=false:=by kernel_rfl
@[go_sem] theorem ty116:ty Go.Proofs.Tryz.prog 116=⟨.struct [(0,3),(1,3)],2,16⟩:=by kernel_rfl
@[go_sem] theorem zk116:z6 Go.Proofs.Tryz.prog 116=true:=by kernel_rfl
@[go_sem] theorem tt116:zai Go.Proofs.Tryz.prog 12 116=false:=by kernel_rfl
@[go_sem] theorem zc116:zU Go.Proofs.Tryz.prog 12 116= [.d (.int .i64 0),.d (.int .i64 0)]:=by kernel_rfl
@[go_sem] theorem ty120:ty Go.Proofs.Tryz.prog 120=⟨.slice 5,1,24⟩:=by kernel_rfl
@[go_sem] theorem zk120:z6 Go.Proofs.Tryz.prog 120=true:=by kernel_rfl
@[go_sem] theorem tt120:zai Go.Proofs.Tryz.prog 12 120=false:=by kernel_rfl
@[go_sem] theorem zc120:zU Go.Proofs.Tryz.prog 12 120= [.nils 1]:=by kernel_rfl
@[go_sem] theorem ty122:ty Go.Proofs.Tryz.prog 122=⟨.ptr 126,1,8⟩:=by kernel_rfl
@[go_sem] theorem zk122:z6 Go.Proofs.Tryz.prog 122=true:=by kernel_rfl
@[go_sem] theorem tt122:zai Go.Proofs.Tryz.prog 12 122=false:=by kernel_rfl
@[go_sem] theorem zc122:zU Go.Proofs.Tryz.prog 12 122= [.d .nilp]:=by kernel_rfl
@[go_sem] theorem ty126:ty Go.Proofs.Tryz.prog 126=⟨.struct [(0,33),(11,55),(13,66),(14,60),(16,36)],17,240⟩:=by kernel_rfl
@[go_sem] theorem zk126:z6 Go.Proofs.Tryz.prog 126=true:=by kernel_rfl
@[go_sem] theorem tt126:zai Go.Proofs.Tryz.prog 12 126=false:=by kernel_rfl
@[go_sem] theorem zc126:zU Go.Proofs.Tryz.prog 12 126= [.d (.str []),.nils 2,.d (.int .i64 0),.d (.bool false),.nils 1,.d (.int .i64 0),.d (.int .i64 0),.d (.int .u64 0),.d (.int .i64 0),.nils 66,.d (.bool false),.d (.int .i64 0),.d (.int .u32 0),.nils 3,.nils 1,.nils 1,.d (.int .i64 0)]:=by kernel_rfl
@[go_sem] theorem ty133:ty Go.Proofs.Tryz.prog 133=⟨.func,1,8⟩:=by kernel_rfl
@[go_sem] theorem zk133:z6 Go.Proofs.Tryz.prog 133=true:=by kernel_rfl
@[go_sem] theorem zc133:zU Go.Proofs.Tryz.prog 12 133= [.nilfn]:=by kernel_rfl
@[go_sem] theorem ty139:ty Go.Proofs.Tryz.prog 139=⟨.func,1,8⟩:=by kernel_rfl
@[go_sem] theorem tt139:zai Go.Proofs.Tryz.prog 12 139=false:=by kernel_rfl
@[go_sem] theorem ty152:ty Go.Proofs.Tryz.prog 152=⟨.slice 133,1,24⟩:=by kernel_rfl
@[go_sem] theorem ty164:ty Go.Proofs.Tryz.prog 164=⟨.arr 64 4,64,64⟩:=by kernel_rfl
@[go_sem] theorem ty166:ty Go.Proofs.Tryz.prog 166=⟨.struct [(0,9),(1,4),(2,164)],66,88⟩:=by kernel_rfl
@[go_sem] theorem zk166:z6 Go.Proofs.Tryz.prog 166=true:=by kernel_rfl
@[go_sem] theorem zc166:zU Go.Proofs.Tryz.prog 12 166= [.d (.str []),.d (.bool false)]++List.replicate 64 (.d (.bool false)):=by kernel_rfl
@[go_sem] theorem eg166:(Go.Proofs.Tryz.prog.eqGuardType Go.Proofs.Tryz.prog.depth 166)=false:=by kernel_rfl
@[go_sem] theorem ty183:ty Go.Proofs.Tryz.prog 183=⟨.struct [(0,3),(1,9)],2,24⟩:=by kernel_rfl
@[go_sem] theorem zk183:z6 Go.Proofs.Tryz.prog 183=true:=by kernel_rfl
@[go_sem] theorem tt183:zai Go.Proofs.Tryz.prog 12 183=false:=by kernel_rfl
@[go_sem] theorem zc183:zU Go.Proofs.Tryz.prog 12 183= [.d (.int .i64 0),.d (.str [])]:=by kernel_rfl
@[go_sem] theorem si183:(Go.Proofs.Tryz.prog.stoodInHeld 183)=false:=by kernel_rfl
@[go_sem] theorem eg183:(Go.Proofs.Tryz.prog.eqGuardType Go.Proofs.Tryz.prog.depth 183)=false:=by kernel_rfl
@[go_sem] theorem ty188:ty Go.Proofs.Tryz.prog 188=⟨.ptr 190,1,8⟩:=by kernel_rfl
@[go_sem] theorem tt188:zai Go.Proofs.Tryz.prog 12 188=false:=by kernel_rfl
@[go_sem] theorem ty190:ty Go.Proofs.Tryz.prog 190=⟨.struct [(0,60),(2,27),(4,25),(9,36)],10,152⟩:=by kernel_rfl
@[go_sem] theorem zk190:z6 Go.Proofs.Tryz.prog 190=true:=by kernel_rfl
@[go_sem] theorem tt190:zai Go.Proofs.Tryz.prog 12 190=false:=by kernel_rfl
@[go_sem] theorem zc190:zU Go.Proofs.Tryz.prog 12 190= [.nils 1,.nils 1,.d (.int .i64 0),.d (.int .i64 0),.d (.str []),.nils 2,.d (.int .i64 0),.d (.bool false),.nils 1,.d (.int .i64 0)]:=by kernel_rfl
@[go_sem] theorem ty216:ty Go.Proofs.Tryz.prog 216=⟨.func,1,8⟩:=by kernel_rfl
@[go_sem] theorem zk237:z6 Go.Proofs.Tryz.prog 237=true:=by kernel_rfl
@[go_sem] theorem tt237:zai Go.Proofs.Tryz.prog 12 237=true:=by kernel_rfl
@[go_sem] theorem zc237:zU Go.Proofs.Tryz.prog 12 237= [.d .nilp,.nils 1]:=by kernel_rfl
@[go_sem] theorem ty250:ty Go.Proofs.Tryz.prog 250=⟨.struct [(0,28),(1,60)],3,56⟩:=by kernel_rfl
@[go_sem] theorem zk250:z6 Go.Proofs.Tryz.prog 250=true:=by kernel_rfl
@[go_sem] theorem tt250:zai Go.Proofs.Tryz.prog 12 250=false:=by kernel_rfl
@[go_sem] theorem zc250:zU Go.Proofs.Tryz.prog 12 250= [.d (.int .u64 0),.nils 1,.nils 1]:=by kernel_rfl
@[go_sem] theorem ty275:ty Go.Proofs.Tryz.prog 275=⟨.struct [(0,25),(5,36)],6,88⟩:=by kernel_rfl
@[go_sem] theorem zk275:z6 Go.Proofs.Tryz.prog 275=true:=by kernel_rfl
@[go_sem] theorem tt275:zai Go.Proofs.Tryz.prog 12 275=false:=by kernel_rfl
@[go_sem] theorem zc275:zU Go.Proofs.Tryz.prog 12 275= [.d (.str []),.nils 2,.d (.int .i64 0),.d (.bool false),.nils 1,.d (.int .i64 0)]:=by kernel_rfl
@[go_sem] theorem ty277:ty Go.Proofs.Tryz.prog 277=⟨.func,1,8⟩:=by kernel_rfl
@[go_sem] theorem zk277:z6 Go.Proofs.Tryz.prog 277=true:=by kernel_rfl
@[go_sem] theorem zc277:zU Go.Proofs.Tryz.prog 12 277= [.nilfn]:=by kernel_rfl
@[go_sem] theorem ty286:ty Go.Proofs.Tryz.prog 286=⟨.func,1,8⟩:=by kernel_rfl
@[go_sem] theorem ty288:ty Go.Proofs.Tryz.prog 288=⟨.struct [(0,3),(1,3),(2,3),(3,216),(4,286)],5,40⟩:=by kernel_rfl
@[go_sem] theorem zk288:z6 Go.Proofs.Tryz.prog 288=true:=by kernel_rfl
@[go_sem] theorem tt288:zai Go.Proofs.Tryz.prog 12 288=false:=by kernel_rfl
@[go_sem] theorem zc288:zU Go.Proofs.Tryz.prog 12 288= [.d (.int .i64 0),.d (.int .i64 0),.d (.int .i64 0),.nilfn,.nilfn]:=by kernel_rfl
@[go_sem] theorem ty305:ty Go.Proofs.Tryz.prog 305=⟨.slice 4,1,24⟩:=by kernel_rfl
@[go_sem] theorem ty309:ty Go.Proofs.Tryz.prog 309=⟨.arr 4 5,4,4⟩:=by kernel_rfl
@[go_sem] theorem zk309:z6 Go.Proofs.Tryz.prog 309=true:=by kernel_rfl
@[go_sem] theorem tt309:zai Go.Proofs.Tryz.prog 12 309=false:=by kernel_rfl
@[go_sem] theorem zc309:zU Go.Proofs.Tryz.prog 12 309= [.d (.int .u8 0),.d (.int .u8 0),.d (.int .u8 0),.d (.int .u8 0)]:=by kernel_rfl
@[go_sem] theorem ty319:ty Go.Proofs.Tryz.prog 319=⟨.slice 277,1,24⟩:=by kernel_rfl
@[go_sem] theorem ty326:ty Go.Proofs.Tryz.prog 326=⟨.slice 60,1,24⟩:=by kernel_rfl
@[go_sem] theorem ty329:ty Go.Proofs.Tryz.prog 329=⟨.func,1,8⟩:=by kernel_rfl
@[go_sem] theorem tt329:zai Go.Proofs.Tryz.prog 12 329=false:=by kernel_rfl
@[go_sem] theorem ty352:ty Go.Proofs.Tryz.prog 352=⟨.bst [(0,343),(0,346),(1,350)],3,12⟩:=by kernel_rfl
@[go_sem] theorem ty353:ty Go.Proofs.Tryz.prog 353=⟨.arr 256 53,256,1024⟩:=by kernel_rfl
@[go_sem] theorem ty355:ty Go.Proofs.Tryz.prog 355=⟨.struct [(0,352),(3,353)],259,1036⟩:=by kernel_rfl
@[go_sem] theorem zk355:z6 Go.Proofs.Tryz.prog 355=true:=by kernel_rfl
@[go_sem] theorem tt355:zai Go.Proofs.Tryz.prog 12 355=false:=by kernel_rfl
@[go_sem] theorem zc355:zU Go.Proofs.Tryz.prog 12 355= [.d (.int .u32 0),.d (.int .i32 0),.d (.int .u32 0)]++List.replicate 256 (.d (.int .u32 0)):=by kernel_rfl
@[go_sem] theorem ty357:ty Go.Proofs.Tryz.prog 357=⟨.map 3 4,1,8⟩:=by kernel_rfl
@[go_sem] theorem zk357:z6 Go.Proofs.Tryz.prog 357=true:=by kernel_rfl
@[go_sem] theorem tt357:zai Go.Proofs.Tryz.prog 12 357=false:=by kernel_rfl
@[go_sem] theorem zc357:zU Go.Proofs.Tryz.prog 12 357= [.nilmap]:=by kernel_rfl
attribute [go_sem] Tryz.results0 Tryz.results1 Tryz.results2 Tryz.results3 Tryz.results4 Tryz.results5 Tryz.results6 Tryz.results7 Tryz.results8 Tryz.results9 Tryz.results10 Tryz.results11 Tryz.results12 Tryz.results13 Tryz.results14 Tryz.results15 Tryz.results16 Tryz.results17 Tryz.results18 Tryz.results19 Tryz.results20 Tryz.results21 Tryz.results22 Tryz.results23 Tryz.results24 Tryz.results25 Tryz.results26 Tryz.results27 Tryz.results28 Tryz.results29 Tryz.results30 Tryz.results31 Tryz.results32 Tryz.results33 Tryz.results34 Tryz.results35 Tryz.results36 Tryz.results37 Tryz.results38 Tryz.results39
attribute [go_sem] Tryz.results40 Tryz.results41 Tryz.results42 Tryz.results43 Tryz.results44 Tryz.results45 Tryz.results46 Tryz.results47 Tryz.results48 Tryz.results49 Tryz.results50 Tryz.results51 Tryz.results52 Tryz.results53 Tryz.results54 Tryz.results55 Tryz.results56 Tryz.results57 Tryz.results58 Tryz.results59 Tryz.results60 Tryz.results61 Tryz.results62 Tryz.results63 Tryz.results64 Tryz.results65 Tryz.results66 Tryz.results67 Tryz.results68 Tryz.results69 Tryz.results70 Tryz.results71 Tryz.results72 Tryz.results73 Tryz.results74 Tryz.results75 Tryz.results76 Tryz.results77 Tryz.results78 Tryz.results79
attribute [go_sem] Tryz.results80 Tryz.results81 Tryz.results82 Tryz.results83 Tryz.results84 Tryz.results85 Tryz.results86 Tryz.results87 Tryz.results88 Tryz.results89 Tryz.results90 Tryz.results91 Tryz.results92 Tryz.results93 Tryz.results94 Tryz.results95 Tryz.results96 Tryz.results97 Tryz.results98 Tryz.results99 Tryz.results100 Tryz.results101 Tryz.results102 Tryz.results103 Tryz.results104 Tryz.results105 Tryz.results106 Tryz.results107 Tryz.results108 Tryz.results109 Tryz.results110 Tryz.results111 Tryz.results112 Tryz.results113 Tryz.results114 Tryz.results115 Tryz.results116 Tryz.results117 Tryz.results118 Tryz.results119
attribute [go_sem] Tryz.results120 Tryz.results121 Tryz.results122 Tryz.results123 Tryz.results124 Tryz.results125 Tryz.results126 Tryz.results127 Tryz.results128 Tryz.results129 Tryz.results130 Tryz.results131 Tryz.results132 Tryz.results133 Tryz.results134 Tryz.results135 Tryz.results136 Tryz.results137 Tryz.results138 Tryz.results139 Tryz.results140 Tryz.results141 Tryz.results142 Tryz.results143 Tryz.results144 Tryz.results145 Tryz.results146 Tryz.results147 Tryz.results148 Tryz.results149 Tryz.results150 Tryz.results151 Tryz.results152 Tryz.results153 Tryz.results154 Tryz.results155 Tryz.results156 Tryz.results157 Tryz.results158 Tryz.results159
attribute [go_sem] Tryz.results160 Tryz.results161 Tryz.results162 Tryz.results163 Tryz.results164 Tryz.results165 Tryz.results166 Tryz.results167 Tryz.results168 Tryz.results169 Tryz.results170 Tryz.results171 Tryz.results172 Tryz.results173 Tryz.results174 Tryz.results175 Tryz.results176 Tryz.results177 Tryz.results178 Tryz.results179 Tryz.results180 Tryz.results181 Tryz.results182 Tryz.results183 Tryz.results184 Tryz.results185 Tryz.results186 Tryz.results187 Tryz.results188 Tryz.results189 Tryz.results190 Tryz.results191 Tryz.results192 Tryz.results193 Tryz.results194 Tryz.results195 Tryz.results196 Tryz.results197 Tryz.results198 Tryz.results199
attribute [go_sem] Tryz.results200 Tryz.results201 Tryz.results202 Tryz.results203 Tryz.results204 Tryz.results205 Tryz.results206 Tryz.results207 Tryz.results208 Tryz.results209 Tryz.results210 Tryz.results211 Tryz.results212 Tryz.results213 Tryz.results214 Tryz.results215 Tryz.results216 Tryz.results217 Tryz.results218 Tryz.results219 Tryz.results220 Tryz.results221 Tryz.results222 Tryz.results223 Tryz.results224 Tryz.results225 Tryz.results226 Tryz.results227 Tryz.results228 Tryz.results229 Tryz.results230 Tryz.results231 Tryz.results232 Tryz.results233 Tryz.results234 Tryz.results235 Tryz.results236 Tryz.results237 Tryz.results238 Tryz.results239
attribute [go_sem] Tryz.results240 Tryz.results241 Tryz.results242 Tryz.results243 Tryz.results244 Tryz.results245 Tryz.results246 Tryz.results247 Tryz.results248 Tryz.results249 Tryz.results250 Tryz.results251 Tryz.results252 Tryz.results253 Tryz.results254 Tryz.results255 Tryz.results256 Tryz.results257 Tryz.results258 Tryz.results259 Tryz.results260 Tryz.results261 Tryz.results262 Tryz.results263 Tryz.results264 Tryz.results265 Tryz.results266 Tryz.results267 Tryz.results268 Tryz.results269 Tryz.results270 Tryz.results271 Tryz.results272 Tryz.results273 Tryz.results274 Tryz.results275 Tryz.results276 Tryz.results277 Tryz.results278 Tryz.results279
attribute [go_sem] Tryz.results280 Tryz.results281 Tryz.results282 Tryz.results283 Tryz.results284 Tryz.results285 Tryz.results286 Tryz.results287 Tryz.results288 Tryz.results289 Tryz.results290 Tryz.results291 Tryz.results292 Tryz.results293 Tryz.results294 Tryz.results295 Tryz.results296 Tryz.results297 Tryz.results298 Tryz.results299 Tryz.results300 Tryz.results301 Tryz.results302 Tryz.results303 Tryz.results304 Tryz.results305 Tryz.results306 Tryz.results307 Tryz.results308 Tryz.results309 Tryz.results310 Tryz.results311 Tryz.results312 Tryz.results313 Tryz.results314 Tryz.results315 Tryz.results316 Tryz.results317 Tryz.results318 Tryz.results319
attribute [go_sem] Tryz.results320 Tryz.results321 Tryz.results322 Tryz.results323 Tryz.results324 Tryz.results325 Tryz.results326 Tryz.results327 Tryz.results328 Tryz.results329 Tryz.results330 Tryz.results331 Tryz.results332 Tryz.results333 Tryz.results334 Tryz.results335 Tryz.results336 Tryz.results337 Tryz.results338 Tryz.results339 Tryz.results340 Tryz.results341 Tryz.results342 Tryz.results343 Tryz.results344 Tryz.results345 Tryz.results346 Tryz.results347 Tryz.results348 Tryz.results349 Tryz.results350 Tryz.results351 Tryz.results352 Tryz.results353 Tryz.results354 Tryz.results355 Tryz.results356 Tryz.results357 Tryz.results358 Tryz.results359
attribute [go_sem] Tryz.results360 Tryz.results361 Tryz.results362 Tryz.results363 Tryz.results364 Tryz.results365 Tryz.results366 Tryz.results367 Tryz.results368 Tryz.results369 Tryz.results370 Tryz.results371 Tryz.results372 Tryz.results373
abbrev AC (f:FuncId) (args:List AV) (r:AV):Prop:=ACall Go.Proofs.Tryz.prog f 0 args [] fun v _=>v=r
theorem mx:Go.Proofs.Tryz.prog.follows .mixedOrders=true:=by kernel_rfl
end Go.Aw
namespace Go.Proofs
open Go.Shelf
def Tryz.lays99_ren:Go.Shelf.Ren:=⟨fun|99=>176|206=>241|n=>n,fun|9=>9|4=>4|3=>3|n=>n,fun|n=>n⟩
theorem Tryz.lays99:Go.Proofs.Lays.n99 Tryz.prog Tryz.lays99_ren:= {
 mixed:=by kernel_rfl
 f99:=Tryz.func176.trans (congrArg some (by kernel_rfl))
 f206:=Tryz.func241.trans (congrArg some (by kernel_rfl))
 t3:=Tryz.underlying3
 a3:=Tryz.isAgg3
 z3:=Tryz.sizeOf3
 v3:=Tryz.zeroValue3
 t4:=Tryz.underlying4
 a4:=Tryz.isAgg4
 z4:=Tryz.sizeOf4
 v4:=Tryz.zeroValue4
 t9:=Tryz.underlying9
 a9:=Tryz.isAgg9
 z9:=Tryz.sizeOf9
 v9:=Tryz.zeroValue9 }
open Go.RowKit Go.Lib in
theorem Tryz.strings_HasPrefix (s p:ByteArray) (w:World):
  Calls Tryz.prog 176 #[.string s,.string p] w fun e w'=>e= .returned (.bool (Lib.hasPrefix s.data.toList p.data.toList))∧w'=w:=Any.strings_HasPrefix Tryz.lays99 s p w
def Tryz.lays105_ren:Go.Shelf.Ren:=⟨fun|105=>106|212=>175|99=>176|165=>177|166=>178|170=>179|169=>180|263=>239|264=>240|206=>241|240=>242|241=>243|276=>285|277=>286|n=>n,fun|9=>9|3=>3|4=>4|20=>20|0=>0|46=>202|109=>232|5=>5|72=>237|76=>241|51=>53|146=>300|53=>28|148=>302|70=>235|37=>120|75=>240|127=>304|164=>338|80=>244|n=>n,fun|n=>n⟩
theorem Tryz.lays105:Go.Proofs.Lays.n105 Tryz.prog Tryz.lays105_ren:= {
 mixed:=by kernel_rfl
 f99:=Tryz.func176.trans (congrArg some (by kernel_rfl))
 f105:=Tryz.func106.trans (congrArg some (by kernel_rfl))
 f165:=Tryz.func177.trans (congrArg some (by kernel_rfl))
 f166:=Tryz.func178.trans (congrArg some (by kernel_rfl))
 f169:=Tryz.func180.trans (congrArg some (by kernel_rfl))
 f170:=Tryz.func179.trans (congrArg some (by kernel_rfl))
 f206:=Tryz.func241.trans (congrArg some (by kernel_rfl))
 f212:=Tryz.func175.trans (congrArg some (by kernel_rfl))
 f240:=Tryz.func242.trans (congrArg some (by kernel_rfl))
 f241:=Tryz.func243.trans (congrArg some (by kernel_rfl))
 f263:=Tryz.func239.trans (congrArg some (by kernel_rfl))
 f264:=Tryz.func240.trans (congrArg some (by kernel_rfl))
 f276:=Tryz.func285.trans (congrArg some (by kernel_rfl))
 f277:=Tryz.func286.trans (congrArg some (by kernel_rfl))
 t0:=Tryz.underlying0
 a0:=Tryz.isAgg0
 z0:=Tryz.sizeOf0
 v0:=Tryz.zeroValue0
 t3:=Tryz.underlying3
 a3:=Tryz.isAgg3
 z3:=Tryz.sizeOf3
 v3:=Tryz.zeroValue3
 t4:=Tryz.underlying4
 a4:=Tryz.isAgg4
 z4:=Tryz.sizeOf4
 v4:=Tryz.zeroValue4
 t5:=Tryz.underlying5
 a5:=Tryz.isAgg5
 z5:=Tryz.sizeOf5
 v5:=Tryz.zeroValue5
 t9:=Tryz.underlying9
 a9:=Tryz.isAgg9
 z9:=Tryz.sizeOf9
 v9:=Tryz.zeroValue9
 t20:=Tryz.underlying20
 a20:=Tryz.isAgg20
 z20:=Tryz.sizeOf20
 v20:=Tryz.zeroValue20
 t37:=Tryz.underlying120
 a37:=Tryz.isAgg120
 z37:=Tryz.sizeOf120
 v37:=Tryz.zeroValue120
 t46:=Tryz.underlying202
 a46:=Tryz.isAgg202
 z46:=Tryz.sizeOf202
 v46:=Tryz.zeroValue202
 t51:=Tryz.underlying53
 a51:=Tryz.isAgg53
 z51:=Tryz.sizeOf53
 v51:=Tryz.zeroValue53
 t53:=Tryz.underlying28
 a53:=Tryz.isAgg28
 z53:=Tryz.sizeOf28
 v53:=Tryz.zeroValue28
 t70:=Tryz.underlying235
 a70:=Tryz.isAgg235
 z70:=Tryz.sizeOf235
 v70:=Tryz.zeroValue235
 t72:=Tryz.underlying237
 a72:=Tryz.isAgg237
 z72:=Tryz.sizeOf237
 v72:=Tryz.zeroValue237
 t75:=Tryz.underlying240
 a75:=Tryz.isAgg240
 z75:=Tryz.sizeOf240
 v75:=Tryz.zeroValue240
 t76:=Tryz.underlying241
 a76:=Tryz.isAgg241
 z76:=Tryz.sizeOf241
 v76:=Tryz.zeroValue241
 t109:=Tryz.underlying232
 a109:=Tryz.isAgg232
 z109:=Tryz.sizeOf232
 v109:=Tryz.zeroValue232
 t127:=Tryz.underlying304
 a127:=Tryz.isAgg304
 z127:=Tryz.sizeOf304
 v127:=Tryz.zeroValue304
 t146:=Tryz.underlying300
 a146:=Tryz.isAgg300
 z146:=Tryz.sizeOf300
 v146:=Tryz.zeroValue300
 t148:=Tryz.underlying302
 a148:=Tryz.isAgg302
 z148:=Tryz.sizeOf302
 v148:=Tryz.zeroValue302
 t164:=Tryz.underlying338
 a164:=Tryz.isAgg338
 z164:=Tryz.sizeOf338
 v164:=Tryz.zeroValue338 }
theorem Tryz.Builder_Extra_105:Builder.Extra Tryz.prog Tryz.lays105_ren:= {
 sizeBuilder:=by kernel_rfl
 liesBuilder:=by kernel_rfl
 t5:=Tryz.underlying5
 a5:=Tryz.isAgg5
 z5:=Tryz.sizeOf5
 v5:=Tryz.zeroValue5
 infoByte:=by kernel_rfl
 cellsByte:=by kernel_rfl
 sizeByte:=by kernel_rfl
 neB5:=by decide }
open Go.RowKit Go.Lib in
theorem Tryz.strings_Repeat (s:ByteArray) (c:Nat) (w:World) (hc:c≤9223372036854775807) (hlen:s.size*c≤140737488355328):
  Calls Tryz.prog 106 #[.string s,.int .i64 c] w fun e w'=>e= .returned (.string ⟨(Lib.repeatL s.data.toList c).toArray⟩)∧Below w.heap.size w w':=Any.strings_Repeat Tryz.lays105 Tryz.Builder_Extra_105 s c w hc hlen
end Go.Proofs
namespace Go.Aw
open Go Go.Proofs Go.RowKit
theorem zhe {P:Program} {f:FuncId} {args:List AV} {r:AV} {v:Value} (hen:zfe P f) (h:∀E w (vs:Array Value),Reps w E [] args vs.toList→Calls P f vs w (fun e w'=>e= .returned v∧Below w.heap.size w w')) (hr:∀w E,Rep w E [] r v):ACall P f 0 args [] (fun r' _=>r'=r):=by
 refine ⟨hen,fun E w vs hs hra=>(h E w vs hra).mono ?_⟩
 rintro e w' ⟨rfl,hb⟩
 have hno:∀b,¬Own E [] b:=fun b ⟨i,hi,_⟩=>by simp [hget] at hi
 refine ⟨v,E,r,[],rfl,rfl,⟨fun i o ho=>by simp [hget] at ho,fun i j b h1=>by simp [hget] at h1,fun b hb=>absurd hb (hno b),fun b hm=>Nat.lt_of_lt_of_le (hs.mlt b hm) hb.size,fun b hm=>Nat.lt_of_lt_of_le (hs.nlt b hm) hb.size⟩,hr w' E,?_⟩
 exact ⟨hb.os,hb.tape,hb.output,hb.size,fun k hk _=>hb.block k hk,fun b ho=> .inl ho,rfl,rfl,fun i _ hi=>by simp [hget] at hi⟩
theorem zrz (n:Nat) (hn:n≤140737488355328):ACall Tryz.prog 106 0 [.d (.str [0]),.d (.int .i64 n)] [] (fun r _=>r= .d (.str (List.replicate n 0))):=by
 refine zhe (v:= .string ⟨(List.replicate n 0).toArray⟩) (zcv Tryz.func106 (by kernel_rfl) rfl) ?_ (fun w E=>by simp [Rep,RepD])
 intro E w vs hr
 simp only [Reps,Rep,RepD] at hr
 obtain ⟨v1,r1,e1,rfl,v2,r2,rfl,rfl,rfl⟩:=hr
 have hvs:vs= #[.string ⟨#[0]⟩,.int .i64 n]:=by cases vs;simpa using e1
 subst hvs
 have:=Tryz.strings_Repeat ⟨#[0]⟩ n w (by omega) (by simpa [ByteArray.size] using hn)
 refine this.mono ?_
 rintro e w' ⟨rfl,hb⟩
 refine ⟨?_,hb⟩
 have:=Lib.repeatL_replicate 0 1 n
 simp only [List.replicate_one,Nat.mul_one,Nat.one_mul] at this
 show Ending.returned (.string ⟨(Lib.repeatL [0] n).toArray⟩)=_
 rw [this]
theorem zkb (s p:List UInt8) (_:True):AC 176 [.d (.str s),.d (.str p)] (.d (.bool (p.isPrefixOf s))):=by
 refine zhe (v:= .bool (p.isPrefixOf s)) (zcv Tryz.func176 (by kernel_rfl) rfl) ?_ (fun w E=>by simp [Rep,RepD])
 intro E w vs hr
 simp only [Reps,Rep,RepD] at hr
 obtain ⟨v1,r1,e1,rfl,v2,r2,rfl,rfl,rfl⟩:=hr
 have hvs:vs= #[.string ⟨s.toArray⟩,.string ⟨p.toArray⟩]:=by cases vs;simpa using e1
 subst hvs
 have:=Tryz.strings_HasPrefix ⟨s.toArray⟩ ⟨p.toArray⟩ w
 refine this.mono ?_
 rintro e w' ⟨rfl,rfl⟩
 exact ⟨by simp [Lib.hasPrefix],Below.refl _ _⟩
@[go_sem] noncomputable def zeM:Ent Tryz.prog 176:= .m2 strT strT zkb
end Go.Aw
namespace Go.Proofs.YtglmbboafmmnpaaGreatDoor
open Go Go.RowKit
theorem disable (w:World):(callFunc 334 #[]).run Tryz.prog w= .ok (.value (.tuple #[])) w:=run_call_mark0 Tryz.func334 (by kernel_rfl) (by kernel_rfl) (by kernel_rfl) .disable (by kernel_rfl) w
theorem enable (w:World):(callFunc 336 #[]).run Tryz.prog w= .ok (.value (.tuple #[])) w:=run_call_mark0 Tryz.func336 (by kernel_rfl) (by kernel_rfl) (by kernel_rfl) .enable (by kernel_rfl) w
theorem acquire (a:Addr) (w:World):(callFunc 337 #[.pointer (some a)]).run Tryz.prog w= .ok (.value (.tuple #[])) w:=run_call_marked Tryz.func337 (by kernel_rfl) (by kernel_rfl) (by kernel_rfl) .acquire (by kernel_rfl) a w
theorem releaseMerge (a:Addr) (w:World):(callFunc 339 #[.pointer (some a)]).run Tryz.prog w= .ok (.value (.tuple #[])) w:=run_call_marked Tryz.func339 (by kernel_rfl) (by kernel_rfl) (by kernel_rfl) .releaseMerge (by kernel_rfl) a w
theorem zh3 (a:Addr) (x:Value) (u:FrameMode) (w:World) (hc:w.cell? a=some x) (hz:w.frozen? a=false):
  CallsD Tryz.prog 322 #[.pointer (some a),.bool true] u w fun e u' w'=>u'=u∧(e= .returned (.tuple #[])∧w'=w.drew.setCell a (.int .u32 1)):=by
 have hc':w.drew.cell? a=some x:=by go_simp
 have hz':w.drew.frozen? a=false:=by go_simp
 have hst:=run_call_store (P:=Tryz.prog) Tryz.func328 (by kernel_rfl) (by kernel_rfl) (by kernel_rfl) (by kernel_rfl) (k:= .u32) (y:=1) hc' hz'
 go_enter_d Tryz.func322,Tryz.ntmps322
 go_wp2
 go_region_calls
 all_goals (go_end0;exact ⟨rfl,rfl⟩)
theorem zky (a:Addr) (w:World) (hc:w.cell? a=some (.int .i32 1)) (hz:w.frozen? a=false):
  Calls Tryz.prog 327 #[.pointer (some a)] w fun e w'=>e= .returned (.tuple #[])∧w'=w.setCell a (.int .i32 0):=by
 have hd:=disable
 have he:=enable
 have hr:=releaseMerge
 have hadd:=run_call_add (P:=Tryz.prog) Tryz.func340 (by kernel_rfl) (by kernel_rfl) (by kernel_rfl) .i32 (by kernel_rfl) (y:= -1) (s:=0) hc hz (by simp [go_sem];rfl)
 have hcv:=run_convert_to_unsafe (P:=Tryz.prog) (src:=396) (dst:=338) Tryz.underlying396 Tryz.underlying338 (by kernel_rfl) hc
 go_enter Tryz.func327,Tryz.ntmps327
 go_wp2
 go_end0
 exact ⟨rfl,rfl⟩
theorem zhp (a:Addr) (u:FrameMode) (w:World) (hc:w.cell? a=some (.int .i32 1)) (hz:w.frozen? a=false):
  CallsD Tryz.prog 321 #[.pointer (some a)] u w fun e u' w'=>u'=u∧(e= .returned (.tuple #[])∧w'=w.setCell a (.int .i32 0)):=by
 go_enter_d Tryz.func321,Tryz.ntmps321
 go_wp2_with (go_at_call 327;refine (zky a _ (by go_simp) (by go_simp)).mono ?_;rintro e w' ⟨rfl,rfl⟩)
 go_end0
 exact ⟨rfl,rfl⟩
theorem zn7 (a:Addr) (w:World) (hc:w.cell? a=some (.int .i32 0)) (hz:w.frozen? a=false):
  Calls Tryz.prog 326 #[.pointer (some a)] w fun e w'=>e= .returned (.tuple #[])∧w'=w.setCell a (.int .i32 1):=by
 have hd:=disable
 have he:=enable
 have ha:=acquire
 have hcas:=run_call_cas_hit (P:=Tryz.prog) Tryz.func335 (by kernel_rfl) (by kernel_rfl) (by kernel_rfl) .i32 (by kernel_rfl) (y:=1) hc hz
 have hc':(w.setCell a (.int .i32 1)).cell? a=some (.int .i32 1):=World.cell?_setCell_same w a _ hc
 have hcv:=run_convert_to_unsafe (P:=Tryz.prog) (src:=396) (dst:=338) Tryz.underlying396 Tryz.underlying338 (by kernel_rfl) hc'
 go_enter Tryz.func326,Tryz.ntmps326
 go_wp2
 first|go_end0|(simp only [Exit.inBlock,Exit.then];refine bodyPost_ret (results_none rfl _ _ _) rfl ?_)|refine bodyPost_ret (results_none rfl _ _ _) rfl ?_
 exact ⟨rfl,rfl⟩
theorem zp3 (a:Addr) (w:World) (hc:w.cell? a=some (.int .i32 0)) (hz:w.frozen? a=false):
  Calls Tryz.prog 320 #[.pointer (some a)] w fun e w'=>e= .returned (.tuple #[])∧w'=w.setCell a (.int .i32 1):=by
 go_enter Tryz.func320,Tryz.ntmps320
 go_wp2_with (go_at_call 326;refine (zn7 a _ (by go_simp) (by go_simp)).mono ?_;rintro e w' ⟨rfl,rfl⟩)
 go_end0
 exact ⟨rfl,rfl⟩
theorem zkz (a:Addr) (x:Int) (w:World) (hc:w.cell? a=some (.int .u32 x)):
  Calls Tryz.prog 313 #[.pointer (some a)] w fun e w'=>e= .returned (.bool (x !=0))∧w'=w:=by
 have hl:=run_call_load (P:=Tryz.prog) Tryz.func319 (by kernel_rfl) (by kernel_rfl) (by kernel_rfl) .u32 (by kernel_rfl) hc
 go_enter Tryz.func313,Tryz.ntmps313
 go_wp2
 go_ret
 exact ⟨rfl,rfl⟩
set_option maxHeartbeats 1600000 in
theorem zr0 (b off:Nat) (p:Value) (w:World) (R:World→Prop)
  (h0:w.cell? ⟨b,off,none⟩=some (.int .u32 0)) (h1:w.cell? ⟨b,off+1,none⟩=some (.int .i32 0)) (f0:w.frozen? ⟨b,off,none⟩=false) (f1:w.frozen? ⟨b,off+1,none⟩=false)
  (hf:Calls Tryz.prog 302 #[p] (w.setCell ⟨b,off+1,none⟩ (.int .i32 1)) fun e w2=>e= .returned (.tuple #[])∧R w2)
  (hR:∀w2,R w2→w2.cell? ⟨b,off,none⟩=some (.int .u32 0)∧w2.cell? ⟨b,off+1,none⟩=some (.int .i32 1)∧w2.frozen? ⟨b,off,none⟩=false∧w2.frozen? ⟨b,off+1,none⟩=false):
  Calls Tryz.prog 314 #[.pointer (some ⟨b,off,none⟩),.func (.func 302) #[p] #[]] w fun e w'=>e= .returned (.tuple #[])∧
   ∃w2,R w2∧w'=(w2.drew.setCell ⟨b,off,none⟩ (.int .u32 1)).setCell ⟨b,off+1,none⟩ (.int .i32 0):=by
 have hnot:∀ (x:Bool) (w:World),(Op.unary .not (.bool x)).run Tryz.prog w= .ok (.bool (!x)) w:=fun _ _=>rfl
 have hld:(w.setCell ⟨b,off+1,none⟩ (.int .i32 1)).cell? ⟨b,off,none⟩=some (.int .u32 0):=(World.cell?_setCell_other _ ⟨b,off+1,none⟩ ⟨b,off,none⟩ _ (by simp)).trans h0
 go_enter_defers Tryz.func314,Tryz.ntmps314
 go_wp2_with (first
  |(go_at_call 320;refine (zp3 ⟨b,off+1,none⟩ _ (by go_simp) (by go_simp)).mono ?_;rintro e w' ⟨rfl,rfl⟩)
  |(go_at_call 313;refine (zkz ⟨b,off,none⟩ 0 _ hld).mono ?_;rintro e w' ⟨rfl,rfl⟩)
  |(go_at_call 302;refine hf.mono ?_;rintro e w2 ⟨rfl,hr⟩))
 obtain ⟨g0,g1,g2,g3⟩:=hR w2 hr
 refine leaves_cons (f:=322) (args:= #[.pointer (some ⟨b,off,none⟩),.bool true]) (by simp) (by simp [go_sem]) ?_
 refine (zh3 ⟨b,off,none⟩ (.int .u32 0) .returning _ g0 g2).mono ?_
 rintro e u' w'' ⟨rfl,rfl,rfl⟩
 refine leaves_cons (f:=321) (args:= #[.pointer (some ⟨b,off+1,none⟩)]) (by simp [settle]) (by simp [go_sem]) ?_
 refine (zhp ⟨b,off+1,none⟩ _ _ ?_ (by simp [g3])).mono ?_
 ·refine (World.cell?_setCell_other _ ⟨b,off,none⟩ ⟨b,off+1,none⟩ _ (by simp)).trans ?_
  rw [World.cell?_drew]
  exact g1
 rintro e u' w'' ⟨rfl,rfl,rfl⟩
 simp only [Leaves,settle]
 exact ⟨.tuple #[],by simp [results,Tryz.results314],rfl,w2,hr,rfl⟩
set_option maxHeartbeats 1600000 in
theorem do_first (b off:Nat) (p:Value) (w:World) (R:World→Prop)
  (h0:w.cell? ⟨b,off,none⟩=some (.int .u32 0)) (h1:w.cell? ⟨b,off+1,none⟩=some (.int .i32 0)) (f0:w.frozen? ⟨b,off,none⟩=false) (f1:w.frozen? ⟨b,off+1,none⟩=false)
  (hf:Calls Tryz.prog 302 #[p] (w.setCell ⟨b,off+1,none⟩ (.int .i32 1)) fun e w2=>e= .returned (.tuple #[])∧R w2)
  (hR:∀w2,R w2→w2.cell? ⟨b,off,none⟩=some (.int .u32 0)∧w2.cell? ⟨b,off+1,none⟩=some (.int .i32 1)∧w2.frozen? ⟨b,off,none⟩=false∧w2.frozen? ⟨b,off+1,none⟩=false):
  Calls Tryz.prog 301 #[.pointer (some ⟨b,off,none⟩),.func (.func 302) #[p] #[]] w fun e w'=>e= .returned (.tuple #[])∧
   ∃w2,R w2∧w'=(w2.drew.setCell ⟨b,off,none⟩ (.int .u32 1)).setCell ⟨b,off+1,none⟩ (.int .i32 0):=by
 have hnot:∀ (x:Bool) (w:World),(Op.unary .not (.bool x)).run Tryz.prog w= .ok (.bool (!x)) w:=fun _ _=>rfl
 go_enter Tryz.func301,Tryz.ntmps301
 go_wp2_with (first
  |(go_at_call 313;refine (zkz ⟨b,off,none⟩ 0 _ h0).mono ?_;rintro e w' ⟨rfl,rfl⟩)
  |(go_at_call 314;refine (zr0 b off p _ R h0 h1 f0 f1 hf hR).mono ?_;rintro e w' ⟨rfl,w2,hr,rfl⟩))
 go_end0
 exact ⟨rfl,w2,hr,rfl⟩
end Go.Proofs.YtglmbboafmmnpaaGreatDoor
