/-
  Parts of the proof: AwEnt, AwDraw7 (short names; the readable texts lie in the repo, under wip).
-/
import Derived.Test.YtbmlikkofegdeaaGreatDoorPiece8
import Derived.Test.YtbmlikkofegdeaaGreatDoorPiece13
import Derived.Test.YtbmlikkofegdeaaGreatDoorPiece14
set_option maxRecDepth 100000
set_option maxHeartbeats 2000000
set_option linter.unusedSimpArgs false
set_option linter.unusedVariables false
namespace Go.Aw
open Go
structure Ent (P:Program) (f:FuncId) where
 e:List AV->Option (Prop×AV)
 ok:∀args pre r,e args=some (pre,r)->pre->r.ids= []/\ACall P f 0 args [] (λr' _=>r'=r)
section
variable {P : Program}
open Classical in
noncomputable def Ent.of {X:Type} (f:FuncId) (A:X->List AV) (pre:X->Prop) (r:X->AV) (ok:∀x,pre x->(r x).ids= []/\ACall P f 0 (A x) [] (λr' _=>r'=r x)):Ent P f where
 e:=λargs=>if h:∃x,A x=args then some (pre h.choose,r h.choose) else none
 ok:=λargs p q h hp=>by
  split at h
  ·rename_i hx;simp only [Option.some.injEq,Prod.mk.injEq] at h;obtain ⟨rfl,rfl⟩:=h;have h2:=ok hx.choose hp;rw [hx.choose_spec] at h2;exact h2
  ·cases h
theorem Ent.of_app {X:Type} {f:FuncId} {A:X->List AV} {pre:X->Prop} {r:X->AV} {ok:∀x,pre x->(r x).ids= []/\ACall P f 0 (A x) [] (λr' _=>r'=r x)} (inj:∀x y,A x=A y->x=y) (x:X):(Ent.of f A pre r ok).e (A x)=some (pre x,r x):=by
 have hx:∃y,A y=A x:=⟨x,rfl⟩
 have h:=inj _ _ hx.choose_spec;unfold Ent.of;simp only [dif_pos hx,h]
def tadd {f:FuncId} (e:Ent P f) (t:Tab):Tab:=λg args=>if g=f then e.e args else t g args
theorem za {f:FuncId} {t:Tab} (e:Ent P f) (h:TabOk P t):TabOk P (tadd e t):=⟨λg args pre r hr hp=>by
 unfold tadd at hr;split at hr
 ·rename_i hf;subst hf;exact e.ok _ _ _ hr hp
 ·exact h.ok _ _ _ _ hr hp⟩
@[go_sem] theorem tadd_hit {f:FuncId} (e:Ent P f) (t:Tab) (args:List AV):tadd e t f args=e.e args:=if_pos rfl
@[go_sem] theorem zyd {f:FuncId} (e:Ent P f) (t:Tab) (g:FuncId) (args:List AV):tadd e t g args=if g=f then e.e args else t g args:=rfl
end
structure PT (α:Type) where
 un:AV->Option α
 wr:α->AV
 ok:∀a x,un a=some x->a.le (wr x)
structure PTL (α:Type) where
 un:List AV->Option α
 wr:α->List AV
 ok:∀a x,un a=some x->AV.leL a (wr x)
open Classical in
noncomputable def zew (c:AV):PT Unit where
 un:=λa=>if a=c then some () else none
 wr:=λ_=>c
 ok:=λa x h=>by
  split at h
  ·rename_i e;subst e;exact AV.le_refl _
  ·cases h
@[go_sem] theorem zye (c:AV):(zew c).un c=some ():=by unfold zew;exact if_pos rfl
open Classical in
noncomputable def intT (k:IntKind):PT Int where
 un:=λa=>match a with| .d (.int k' n)=>if k'=k then some n else none|_=>none
 wr:=λn=> .d (.int k n)
 ok:=λa x h=>by
  split at h
  ·split at h
   ·rename_i e;subst e;cases h;simp only [AV.le]
   ·cases h
  ·cases h
@[go_sem] theorem intT_un (k:IntKind) (n:Int):(intT k).un (.d (.int k n))=some n:=if_pos rfl
def strT:PT (List UInt8) where
 un:=λa=>match a with| .d (.str l)=>some l|_=>none
 wr:=λn=> .d (.str n)
 ok:=λa x h=>by
  split at h
  ·cases h;simp only [AV.le]
  ·cases h
@[go_sem] theorem strT_un (l:List UInt8):strT.un (.d (.str l))=some l:=rfl
def boolT:PT Bool where
 un:=λa=>match a with| .d (.bool l)=>some l|_=>none
 wr:=λn=> .d (.bool n)
 ok:=λa x h=>by
  split at h
  ·cases h;simp only [AV.le]
  ·cases h
@[go_sem] theorem boolT_un (l:Bool):boolT.un (.d (.bool l))=some l:=rfl
open Classical in
noncomputable def slT {α:Type} (k:Nat) (g:α→List D) (hg:∀a b,g a=g b→a=b):PT (List α) where
 un:=fun a=>match a with
  | .d (.sl k' rows)=>if h:k'=k∧∃l:List α,rows=l.map g then some h.2.choose else none
  | .nils _=>some []
  |_=>none
 wr:=fun l=> .d (.sl k (l.map g))
 ok :=fun a x h=>by
  split at h
  ·split at h
   ·rename_i e
    cases h
    obtain ⟨rfl,e⟩:=e
    simp only [AV.le,D.sl.injEq,true_and]
    exact e.choose_spec
   ·cases h
  ·cases h;simp only [AV.le,List.map_nil]
  ·cases h
theorem zpe {α:Type} {g:α->List D} (hg:∀a b,g a=g b->a=b):∀ {l m:List α},l.map g=m.map g->l=m
 | [],[],_=>rfl
 | [],_::_,h=>by simp at h
 |_::_,[],h=>by simp at h
 |a::l,b::m,h=>by simp only [List.map_cons,List.cons.injEq] at h;rw [hg _ _ h.1,zpe hg h.2]
@[go_sem] theorem zr1 {α:Type} (k:Nat) (g:α->List D) (hg:∀a b,g a=g b->a=b) (l:List α):(slT k g hg).un (.d (.sl k (l.map g)))=some l:=by
 have hx:k=k/\∃m:List α,l.map g=m.map g:=⟨rfl,l,rfl⟩
 unfold slT;simp only [dif_pos hx];rw [zpe hg hx.2.choose_spec.symm]
@[go_sem] theorem slT_nil {α:Type} (k:Nat) (g:α->List D) (hg:∀a b,g a=g b->a=b):(slT k g hg).un (.d (.sl k []))=some []:=zr1 k g hg []
@[go_sem] theorem slT_nils {α:Type} (k j:Nat) (g:α->List D) (hg:∀a b,g a=g b->a=b):(slT k g hg).un (.nils j)=some []:=rfl
def nilL:PTL Unit where
 un:=λa=>match a with| []=>some ()|_=>none
 wr:=λ_=> []
 ok:=λa x h=>by
  split at h
  ·simp only [AV.leL]
  ·cases h
@[go_sem] theorem nilL_un:nilL.un []=some ():=rfl
def consL {α β:Type} (t:PT α) (ts:PTL β):PTL (α×β) where
 un:=λa=>match a with|x::r=>(t.un x).bind λy=>(ts.un r).map λz=>(y,z)|_=>none
 wr:=λp=>t.wr p.1::ts.wr p.2
 ok:=λa x h=>by
  split at h
  ·obtain ⟨y,h1,h2⟩:=Option.bind_eq_some_iff.1 h;obtain ⟨z,h3,h4⟩:=Option.map_eq_some_iff.1 h2;subst h4;exact ⟨t.ok _ _ h1,ts.ok _ _ h3⟩
  ·cases h
@[go_sem] theorem consL_un {α β:Type} (t:PT α) (ts:PTL β) (a:AV) (r:List AV):(consL t ts).un (a::r)=(t.un a).bind λy=>(ts.un r).map λz=>(y,z):=rfl
def aggT {α β:Type} (ts:PTL β) (f:β->α) (g:α->β) (hfg:∀y,g (f y)=y):PT α where
 un:=λa=>match a with| .agg cs=>(ts.un cs).map f|_=>none
 wr:=λx=> .agg (ts.wr (g x))
 ok:=λa x h=>by
  split at h
  ·obtain ⟨y,h1,h2⟩:=Option.map_eq_some_iff.1 h;subst h2;simp only [AV.le,hfg];exact ts.ok _ _ h1
  ·cases h
@[go_sem] theorem aggT_un {α β:Type} (ts:PTL β) (f:β->α) (g:α->β) (hfg:∀y,g (f y)=y) (cs:List AV):(aggT ts f g hfg).un (.agg cs)=(ts.un cs).map f:=rfl
def dpT {α β:Type} (ts:PTL β) (f:β->α) (g:α->β) (hfg:∀y,g (f y)=y):PT α where
 un:=λa=>match a with| .dp cs=>(ts.un cs).map f|_=>none
 wr:=λx=> .dp (ts.wr (g x))
 ok:=λa x h=>by
  split at h
  ·obtain ⟨y,h1,h2⟩:=Option.map_eq_some_iff.1 h;subst h2;simp only [AV.le,hfg];exact ts.ok _ _ h1
  ·cases h
@[go_sem] theorem dpT_un {α β:Type} (ts:PTL β) (f:β->α) (g:α->β) (hfg:∀y,g (f y)=y) (cs:List AV):(dpT ts f g hfg).un (.dp cs)=(ts.un cs).map f:=rfl
open Classical in
noncomputable def fnT {β:Type} (n:FuncId) (ts:PTL β):PT β where
 un:=fun a=>match a with| .fn f fs cs=>if f= .func n∧fs= [] then ts.un cs else none|_=>none
 wr:=fun x=> .fn (.func n) [] (ts.wr x)
 ok :=fun a x h=>by
  split at h
  ·split at h
   ·rename_i e
    obtain ⟨rfl,rfl⟩:=e
    simp only [AV.le,AV.leL,true_and]
    exact ts.ok _ _ h
   ·cases h
  ·cases h
@[go_sem] theorem fnT_un {β:Type} (n:FuncId) (ts:PTL β) (cs:List AV):(fnT n ts).un (.fn (.func n) [] cs)=ts.un cs:=if_pos ⟨rfl,rfl⟩
theorem ACall.args_le {P:Program} {f:FuncId} {fl:Nat} {args args':List AV} {h:AHeap} {K:AV->AHeap->Prop} (hl:AV.leL args args') (hc:ACall P f fl args' h K):ACall P f fl args h K:=
 ⟨hc.1,λE w vs hs hr=>hc.2 E w vs hs (Reps.le _ _ _ hl hr)⟩
def Ent.ofL {P:Program} {X:Type} {f:FuncId} (ts:PTL X) (pre:X->Prop) (r:X->AV) (ok:∀x,pre x->(r x).ids= []/\ACall P f 0 (ts.wr x) [] (λr' _=>r'=r x)):Ent P f where
 e:=λargs=>(ts.un args).map λx=>(pre x,r x)
 ok:=λargs p q h hp=>by obtain ⟨x,h1,h2⟩:=Option.map_eq_some_iff.1 h;cases h2;exact ⟨(ok x hp).1,ACall.args_le (ts.ok _ _ h1) (ok x hp).2⟩
@[go_sem] theorem Ent.ofL_e {P:Program} {X:Type} {f:FuncId} (ts:PTL X) (pre:X->Prop) (r:X->AV) (ok:∀x,pre x->(r x).ids= []/\ACall P f 0 (ts.wr x) [] (λr' _=>r'=r x)) (args:List AV):(Ent.ofL ts pre r ok).e args=(ts.un args).map λx=>(pre x,r x):=rfl
@[go_sem] def Ent.m1 {P:Program} {f:FuncId} {α1:Type} {pre:α1->Prop} {r:α1->AV} (t1:PT α1) (ok:∀x1,pre x1->ACall P f 0 [t1.wr x1] [] λv _=>v=r x1) (hid:∀x1,(r x1).ids= []:=by intros;rfl):Ent P f:= .ofL (consL t1 nilL) (λx=>pre x.1) (λx=>r x.1) (λx h=>⟨hid x.1,ok x.1 h⟩)
@[go_sem] def Ent.m2 {P:Program} {f:FuncId} {α1 α2:Type} {pre:α1->α2->Prop} {r:α1->α2->AV} (t1:PT α1) (t2:PT α2) (ok:∀x1 x2,pre x1 x2->ACall P f 0 [t1.wr x1,t2.wr x2] [] λv _=>v=r x1 x2) (hid:∀x1 x2,(r x1 x2).ids= []:=by intros;rfl):Ent P f:= .ofL (consL t1 (consL t2 nilL)) (λx=>pre x.1 x.2.1) (λx=>r x.1 x.2.1) (λx h=>⟨hid x.1 x.2.1,ok x.1 x.2.1 h⟩)
@[go_sem] def Ent.m3 {P:Program} {f:FuncId} {α1 α2 α3:Type} {pre:α1->α2->α3->Prop} {r:α1->α2->α3->AV} (t1:PT α1) (t2:PT α2) (t3:PT α3) (ok:∀x1 x2 x3,pre x1 x2 x3->ACall P f 0 [t1.wr x1,t2.wr x2,t3.wr x3] [] λv _=>v=r x1 x2 x3) (hid:∀x1 x2 x3,(r x1 x2 x3).ids= []:=by intros;rfl):Ent P f:= .ofL (consL t1 (consL t2 (consL t3 nilL))) (λx=>pre x.1 x.2.1 x.2.2.1) (λx=>r x.1 x.2.1 x.2.2.1) (λx h=>⟨hid x.1 x.2.1 x.2.2.1,ok x.1 x.2.1 x.2.2.1 h⟩)
@[go_sem] def Ent.m4 {P:Program} {f:FuncId} {α1 α2 α3 α4:Type} {pre:α1->α2->α3->α4->Prop} {r:α1->α2->α3->α4->AV} (t1:PT α1) (t2:PT α2) (t3:PT α3) (t4:PT α4) (ok:∀x1 x2 x3 x4,pre x1 x2 x3 x4->ACall P f 0 [t1.wr x1,t2.wr x2,t3.wr x3,t4.wr x4] [] λv _=>v=r x1 x2 x3 x4) (hid:∀x1 x2 x3 x4,(r x1 x2 x3 x4).ids= []:=by intros;rfl):Ent P f:= .ofL (consL t1 (consL t2 (consL t3 (consL t4 nilL)))) (λx=>pre x.1 x.2.1 x.2.2.1 x.2.2.2.1) (λx=>r x.1 x.2.1 x.2.2.1 x.2.2.2.1) (λx h=>⟨hid x.1 x.2.1 x.2.2.1 x.2.2.2.1,ok x.1 x.2.1 x.2.2.1 x.2.2.2.1 h⟩)
@[go_sem] def Ent.m5 {P:Program} {f:FuncId} {α1 α2 α3 α4 α5:Type} {pre:α1->α2->α3->α4->α5->Prop} {r:α1->α2->α3->α4->α5->AV} (t1:PT α1) (t2:PT α2) (t3:PT α3) (t4:PT α4) (t5:PT α5) (ok:∀x1 x2 x3 x4 x5,pre x1 x2 x3 x4 x5->ACall P f 0 [t1.wr x1,t2.wr x2,t3.wr x3,t4.wr x4,t5.wr x5] [] λv _=>v=r x1 x2 x3 x4 x5) (hid:∀x1 x2 x3 x4 x5,(r x1 x2 x3 x4 x5).ids= []:=by intros;rfl):Ent P f:= .ofL (consL t1 (consL t2 (consL t3 (consL t4 (consL t5 nilL))))) (λx=>pre x.1 x.2.1 x.2.2.1 x.2.2.2.1 x.2.2.2.2.1) (λx=>r x.1 x.2.1 x.2.2.1 x.2.2.2.1 x.2.2.2.2.1) (λx h=>⟨hid x.1 x.2.1 x.2.2.1 x.2.2.2.1 x.2.2.2.2.1,ok x.1 x.2.1 x.2.2.1 x.2.2.2.1 x.2.2.2.2.1 h⟩)
@[go_sem] def Ent.m6 {P:Program} {f:FuncId} {α1 α2 α3 α4 α5 α6:Type} {pre:α1->α2->α3->α4->α5->α6->Prop} {r:α1->α2->α3->α4->α5->α6->AV} (t1:PT α1) (t2:PT α2) (t3:PT α3) (t4:PT α4) (t5:PT α5) (t6:PT α6) (ok:∀x1 x2 x3 x4 x5 x6,pre x1 x2 x3 x4 x5 x6->ACall P f 0 [t1.wr x1,t2.wr x2,t3.wr x3,t4.wr x4,t5.wr x5,t6.wr x6] [] λv _=>v=r x1 x2 x3 x4 x5 x6) (hid:∀x1 x2 x3 x4 x5 x6,(r x1 x2 x3 x4 x5 x6).ids= []:=by intros;rfl):Ent P f:= .ofL (consL t1 (consL t2 (consL t3 (consL t4 (consL t5 (consL t6 nilL)))))) (λx=>pre x.1 x.2.1 x.2.2.1 x.2.2.2.1 x.2.2.2.2.1 x.2.2.2.2.2.1) (λx=>r x.1 x.2.1 x.2.2.1 x.2.2.2.1 x.2.2.2.2.1 x.2.2.2.2.2.1) (λx h=>⟨hid x.1 x.2.1 x.2.2.1 x.2.2.2.1 x.2.2.2.2.1 x.2.2.2.2.2.1,ok x.1 x.2.1 x.2.2.1 x.2.2.2.1 x.2.2.2.2.1 x.2.2.2.2.2.1 h⟩)
theorem ziu {P:Program} {f:FuncId} {args:List AV} {r:AV} (hc:ACall P f 0 args [] (λr' h'=>frz 9 h' r'=r)):ACall P f 0 args [] (λr' _=>r'=r):=by
 obtain ⟨hen,hc⟩:=hc;refine ⟨hen,λE w vs hs hr=>(hc E w vs hs hr).mono ?_⟩;rintro e w' ⟨v,E',r',h',rfl,rfl,hs',hr',hev⟩;have hno:∀ (E:Env) b,¬Own E [] b:=λE b ⟨i,hi,_⟩=>by simp [hget] at hi
 refine ⟨v, { O:=λ_=>none,C:=λ_=>0,M:=E.M,N:=E.N },_,[],rfl,rfl,?_,?_,?_⟩
 ·exact ⟨λi o ho=>by simp [hget] at ho,λi j b h1=>by simp [hget] at h1,λb hb=>absurd hb (hno _ b),λb hb=>hs'.mlt b (by rw [hev.m];exact hb),λb hb=>hs'.nlt b (by rw [hev.n];exact hb)⟩
 ·refine Rep.step (E:=frzE E') (h:= []) (λb _ hx=>?_) (λ_ _ _=>rfl) _ v (λj hj=>by unfold GoesOn;simp [hget]) (zrO hs' 9 r' v hr');rcases hx with hx|hx|hx
  ·exact absurd hx (hno _ b)
  ·exact .inr (.inr (.inl (by rw [hev.m];exact hx)))
  ·exact .inr (.inr (.inr (by rw [hev.n];exact hx)))
 ·exact ⟨hev.os,hev.tape,hev.output,hev.size,λb hb _=>hev.keep b hb (hno _ b),λb hb=>absurd hb (hno _ b),rfl,rfl,λi hi h=>by simp [hget] at h⟩
theorem zr2 {cx:Cx} {s:AS} {Q:Exit->AS->Prop} {g:Operand} {ps:Array Tmp} {assign body:Code} {f:FuncId} {fs caps:List AV} (fl:Nat) {items:List (List AV)} (I:List (List AV)->AHeap×Option (List (List AV))) (J:Code->AHeap->Option (List (List AV))->Prop)
  (hit:AIter cx.P f fl fs caps [] items (λg h'=>(∀xs,g=some xs->xs=items)/\h'= [])) (hg:s.ev g=(true,.fn (.func f) fs caps)) (hro:cx.ro=none)
  (hfl:∀i,(hget s.h i).isSome->i<fl) (hfc:cx.fl<=fl) (hids:AV.idsL fs++AV.idsL caps= [])
  (hI:leH s.h (I []).1) (hIn:inH (I []).1 (idsH (I []).1)) (hIg:(I []).2=s.g)
  (hlen:∀x∈items,x.length=ps.size) (hps:∀t∈ps.toList,t<cx.nt)
  (hround:∀xs x,(xs++ [x])<+:items->∀ (l:Nat) (r1:Rnd cx),AW (cx.inR l fl r1) assign (AsgK λs1=>∀r2:Rnd cx,AW (cx.inR l fl r2) body (zf (λh' g'=>leH h' (I (xs++ [x])).1/\inH (I (xs++ [x])).1 (idsH (I (xs++ [x])).1)/\g'=(I (xs++ [x])).2) J) s1)
   { t:=zfd ps.toList x (keepT (I xs).1 s.t),h:=(I xs).1,g:=(I xs).2 })
  (hdone:Q .normal { t:=keepT (I items).1 s.t,h:=(I items).1,g:=(I items).2 })
  (hstop:∀c h3 g3,J c h3 g3->AW cx c Q { t:=keepT h3 s.t,h:=h3,g:=g3 }):
  AW cx (.rangeFunc g ps assign body) Q s:=by
 have hs0:hsel (λ_=>false) s.h= []:=by
  induction s.h with
  |nil=>rfl
  |cons a h ih=>simp only [hsel];rw [if_neg (by simp)];exact ih
 have hs1:hsel (λi=> !(λ_=>false) i) s.h=s.h:=zh0 (λq _=>rfl);refine zfo (Kit:=λg h'=>(∀xs,g=some xs->xs=items)/\h'= []) (items:=items) (fl:=fl) (λ_=>false) I J hro hg (by rw [hs0];exact hit) hfl hfc ?_ ?_ (by rw [hs1];exact hI) hIn hIg (λ_ _ _ _=>rfl) (λ_ _ _ _ _ _=>rfl) ?_ hlen hps hround ?_ ?_
 ·intro i o _ h;cases h
 ·rw [hids];intro j hj;simp at hj
 ·rintro g h' ⟨h1,rfl⟩;exact ⟨λi hi=>by simp [hget] at hi,h1⟩
 ·rintro h1 ⟨_,rfl⟩;exact hdone
 ·rintro c h1 h3 g3 ⟨_,rfl⟩ hj;exact hstop c h3 g3 hj
theorem zco {α β:Type} {g:α->List β} {l:List α} {i:Nat} {q:α} (h:l[i]?=some q):(l.map g).getD i []=g q:=by
 rw [List.getD_eq_getElem?_getD,List.getElem?_map,h];rfl
theorem zcQ {α:Type} {l:List α} {i:Nat} {q:α} (h:l[i]?=some q):l.drop i=q::l.drop (i+1):=by obtain ⟨hi,h⟩:=List.getElem?_eq_some_iff.1 h;rw [List.drop_eq_getElem_cons hi,h]
theorem zb7 {α:Type} {l:List α} {i:Nat} {q:α} (h:l[i]?=some q):l.take (i+1)=l.take i++ [q]:=by
 rw [List.take_add_one,h];rfl
theorem zas {α:Type} {l:List α} {i:Nat} (h:i<l.length):∃q,l[i]?=some q:=⟨l[i],List.getElem?_eq_getElem h⟩
theorem zP {α β:Type} (g:α->List β) (l:List α) (i:Nat) (hi:i<=l.length):
  (∃q,l[i]?=some q/\i<l.length/\decide ((i:Int)<(l.length:Int))=true/\(l.map g).getD i []=g q/\l.drop i=q::l.drop (i+1)/\l.take (i+1)=l.take i++ [q])\/(i=l.length/\decide ((i:Int)<(l.length:Int))=false):=by
 rcases Nat.lt_or_ge i l.length with h|h
 ·obtain ⟨q,hq⟩:=zas h;exact .inl ⟨q,hq,h,decide_eq_true (by omega),zco hq,zcQ hq,zb7 hq⟩
 ·exact .inr ⟨by omega,decide_eq_false (by omega)⟩
def hdR:Code->Option Nat
 | .region id _ _=>some id
 | .seq x _=>hdR x
 |_=>none
theorem hds {cx:Cx} {c:Code} {Q:Exit->AS->Prop} {s:AS} (n:Nat) (h:hdR c=some n) (g:AW cx c Q s):AW cx c Q s:=g
theorem ziv {cx:Cx} {s:AS} {c:Operand} {x y:Code} {Q:Exit->AS->Prop} (hc:s.ev c=(true,.d (.bool true))) (ht:AW cx x Q s):AW cx (.cond c x y) Q s:=zbA hc (λ_=>ht) (λh=>by cases h)
theorem ziw {cx:Cx} {s:AS} {c:Operand} {x y:Code} {Q:Exit->AS->Prop} (hc:s.ev c=(true,.d (.bool false))) (hf:AW cx y Q s):AW cx (.cond c x y) Q s:=zbA hc (λh=>by cases h) (λ_=>hf)
theorem sl_ex {e:Nat} {Q:Nat->Prop} :(∃e',TD.slice e=TD.slice e'/\Q e')=Q e:=by
 apply propext;constructor
 ·rintro ⟨e',h,hq⟩;cases h;exact hq
 ·intro h;exact ⟨e,rfl,h⟩
theorem zr3 {cx:Cx} {x y:Code} {Q:Exit->AS->Prop} {s:AS} (s1:AS) (h1:AW cx x (thenK (λs'=>s'.le s1) Q) s) (h2:AW cx y Q s1):AW cx (.seq x y) Q s:=
 zaM λK hK=>h1.mono λe s' h=>by cases e<;>first|exact hK s' (aw_le s1 h h2)|exact h
theorem zJ {fl:Nat} :∀ {h:AHeap},(h.all λp=>decide (p.1<fl))=true->∀i,(hget h i).isSome->i<fl
  | [],_,i,hi=>by simp [hget] at hi
  | (k,o)::r,hh,i,hi=>by
    simp only [List.all_cons,Bool.and_eq_true,decide_eq_true_eq] at hh;simp only [hget] at hi;split at hi
    · rename_i e;subst e;exact hh.1
    · exact zJ hh.2 i hi
theorem zh3 {α:Type} {e:α->List D} :∀ {rows:List (List D)},(∀r∈rows,∃a,r=e a)->∃l:List α,rows=l.map e
 | [],_=>⟨[],rfl⟩
 |r::rows,h=>by obtain ⟨a,rfl⟩:=h r (by simp);obtain ⟨l,rfl⟩:=zh3 (e:=e) (rows:=rows) (λr hr=>h r (by simp [hr]));exact ⟨a::l,rfl⟩
theorem zr4 {p:Nat->Bool} :∀ {h:AHeap},(∀q∈h,p q.1=false)->hsel p h= []
  | [],_=>rfl
  | (k,o)::r,hh=>by simp only [hsel];rw [if_neg (by rw [hh (k,o) (by simp)];simp),zr4 (λq hq=>hh q (by simp [hq]))]
theorem ACall.own {P:Program} {f:FuncId} {args:List AV} {fl fl':Nat} {h:AHeap} {K:AV->AHeap->Prop} (hc:ACall P f fl args [] K) (hfl:(h.all λp=>decide (p.1<fl))=true) (hids:AV.idsL args= []) (hle:fl'<=fl) (hk:∀r h',K r h'->(h'.all λp=>decide (fl<=p.1))=true):
  ACallAt P fl' f args h (λr h'=>∃h1,K r h1/\h'=h1++h):=by
 have hlt:∀q∈h,q.1<fl:=λq hq=>by simpa using List.all_eq_true.1 hfl q hq
 have e1:hsel (λi=>decide (fl<=i)) h= []:=zr4 (λq hq=>by have:=hlt q hq;simp;omega);have e2:hsel (λi=> !decide (fl<=i)) h=h:=zh0 (λq hq=>by have:=hlt q hq;simp;omega)
 have:=ACall.frame (P:=P) (f:=f) (args:=args) (fl:=fl) (fl':=fl') (h:=h) (K:=K) (p:=λi=>decide (fl<=i)) (by rw [e1];exact hc) (zJ hfl) (λi hi=>by simpa using hi) (λi o ho hp=>by
   have:=zJ hfl i (by simp [ho]);have:fl<=i:=by simpa using hp
   omega) (by rw [hids];intro j hj;simp at hj) hle (λr h' hk'=>⟨λi hi hp=>by
    have:=zJ hfl i hi;have:fl<=i:=by simpa using hp
    omega,λi hi=>by
    have h1:=hk r h' hk';clear hk' hc;induction h' with
    |nil=>simp [hget] at hi
    |cons q r ih=>
     simp only [List.all_cons,Bool.and_eq_true] at h1;obtain ⟨k,o⟩:=q;simp only [hget] at hi;split at hi
     ·rename_i e;subst e;exact h1.1
     ·exact ih hi h1.2⟩)
 rw [e2] at this;exact this
theorem zg {n:Int} (h0: -9223372036854775808<=n) (h1:n<9223372036854775808):IntKind.i64.wrap n=n:=by rw [IntKind.wrap_i64];omega
theorem zr {i:Nat} (h:i<9223372036854775807):IntKind.i64.wrap ((i:Int)+1)=((i+1:Nat):Int):=by rw [IntKind.wrap_i64];omega
theorem zyf {a b:Nat} :decide ((a:Int)<(b:Int))=decide (a<b):=by
 by_cases h:a<b
 ·rw [decide_eq_true h,decide_eq_true (by omega)]
 ·rw [decide_eq_false h,decide_eq_false (by omega)]
def intD (n:Int):List D:= [.int .i64 n]
def strD (s:List UInt8):List D:= [.str s]
theorem zc7:∀a b,intD a=intD b->a=b:=by intro a b h;simpa [intD] using h
theorem zgD:∀a b,strD a=strD b->a=b:=by intro a b h;simpa [strD] using h
attribute [go_sem] sl_ex Nat.lt_irrefl Nat.zero_add zl8 zgz List.length_map or_self true_or or_true Nat.le_refl List.append_toArray List.range_zero List.append_eq Int.toNat_natCast IterK
open Go
inductive Ch where
 |none
 |put (i:Nat) (ob:AObj)
 |new (i:Nat) (ob:AObj)
def Ch.app:Ch->AHeap->AHeap
 | .none,h=>h
 | .put i ob,h=>hset h i ob
 | .new i ob,h=>(i,ob)::h
def Ch.at:Ch->Option Nat
 | .none=>Option.none
 | .put i _=>some i
 | .new i _=>some i
def zkX (h:AHeap) (c:Ch) (rd:List Nat) (k:AHeap):Prop:=
 (∀i∈rd,hget k i=hget h i)/\(match c with| .none=>True| .put i _=>hget k i=hget h i| .new i _=>hget k i=Option.none)
def chOf (nm:Nat) (P:Program) (s:AS) (op:Op) (h':AHeap):Option (Ch×List Nat):=
 match op with
 | .alloc _=>(hget h' nm).map fun ob=>(.new nm ob,[])
 | .buildSlice _ _ _=>some (match hget h' nm with|some ob=>(.new nm ob,[])|Option.none=>(.none,[]))
 | .makeSlice _ _ _=>(hget h' nm).map fun ob=>(.new nm ob,[])
 | .build _ _=>some (.none,[])
 | .index _ _ _=>some (.none,[])
 | .convert _ _ x=>some (.none,(s.ev x).2.ids)
 | .slice _ x _ _ _=>some (.none,(s.ev x).2.ids)
 | .call c=>(match c.callee with
  | .builtin .append=>(match c.args.toList with
   | [x,y]=>(match (s.ev x).2 with
    | .osl i _ _ _ _=>(hget h' i).map fun ob=>(.put i ob,(s.ev y).2.ids)
    |_=>Option.none)
   |_=>Option.none)
  | .builtin .len=>(match c.args.toList with
   | [x]=>some (.none,(s.ev x).2.ids)
   |_=>Option.none)
  | .builtin .min=>some (.none,[])
  | .builtin .max=>some (.none,[])
  | .value _=>if foot nm P s (.call c)= .cold then some (.none,[]) else Option.none
  |_=>Option.none)
 |op=>(match foot nm P s op with
  | .cold=>some (.none,[])
  | .on i=>if isEff op=true then (hget h' i).map fun ob=>(.put i ob,[]) else some (.none,[i])
  |_=>Option.none)
def atCx (cx:Cx) (nm:Nat):Cx:= { cx with fl:=nm }
section
variable {cx : Cx} {tab : Tab} {s : AS} {P : Program}
theorem zpf {k:AHeap} {n:Nat} {v:AV} (h:∀i∈v.ids,hget k i=hget s.h i):rowsK { s with h:=k } n v=rowsK s n v:=by
 unfold rowsK;cases v with
 |osl i _ _ _ _=>have:=h i (by simp [AV.ids]);simp only [this]
 |vsl i _ _ _=>have:=h i (by simp [AV.ids]);simp only [this]
 |d x=>cases x<;>rfl
 |_=>rfl
theorem zus {k:AHeap} {n:Nat} {t:TypeId} {v:AV} (h:∀i∈v.ids,hget k i=hget s.h i):rowsT P { s with h:=k } n t v=rowsT P s n t v:=by unfold rowsT;rw [zpf h]
theorem zut {k:AHeap} {t:TypeId} {v:AV} (h:∀i∈v.ids,hget k i=hget s.h i):avLen P { s with h:=k } t v=avLen P s t v:=by
 unfold avLen AS.cur;generalize (ty P t).td=dd;cases v with
 |osl i _ _ _ _=>have:=h i (by simp [AV.ids]);cases dd<;>simp only [this]
 |d x=>cases dd<;>cases x<;>rfl
 |_=>cases dd<;>rfl
theorem zqb {k:AHeap} {t:TypeId} {x:AV} {lo hi mx:Option Operand} (h:∀i∈x.ids,hget k i=hget s.h i):zdj P { s with h:=k } t x lo hi mx=zdj P s t x lo hi mx:=by
 have hb:∀y d,AS.bnd { s with h:=k } y d=AS.bnd s y d:=λy d=>by
  cases y with
  |none=>rfl
  |some y=>cases y<;>rfl
 unfold zdj AS.cur;simp only [hb];cases x with
 |osl i _ _ _ _=>have:=h i (by simp [AV.ids]);simp only [this]
 |vp i _=>have:=h i (by simp [AV.ids]);simp only [this]
 |d x=>cases x<;>rfl
 |_=>rfl
theorem zuu {nm:Nat} (hnm:hget s.h nm=Option.none) {G:Bool} {o:Oper} {g:Bool} {v:AV} {h':AHeap} (h:∀R:Bool→AV→AHeap→Prop,R g v h'→fop (atCx cx nm) tab s G o R) (hne:isEff o.op=false→h'=s.h)
  {c:Ch} {rd:List Nat} (hc:chOf nm cx.P s o.op h'=some (c,rd)):
  h'=c.app s.h∧∀k:AHeap,zkX s.h c rd k→∀R:Bool→AV→AHeap→Prop,R g v (c.app k)→fop (atCx cx nm) tab { s with h:=k } G o R:=by
 have hev:∀ (k:AHeap) (x:Operand),AS.ev { s with h:=k } x=s.ev x:=fun k x=>by cases x<;>rfl
 have hkn:∀ (k:AHeap) (x:Operand),known { s with h:=k } x=known s x:=fun k x=>by cases x<;>rfl
 have hfs:fresh nm s.h=nm:=zhY hnm
 obtain ⟨ff1,ff2⟩:=zur h hne
 have old:chOf nm cx.P s o.op h'=(match foot nm cx.P s o.op with
   | .cold=>some (.none,[])
   | .on i=>if isEff o.op=true then (hget h' i).map fun ob=>(.put i ob,[]) else some (.none,[i])
   |_=>Option.none)→h'=c.app s.h∧∀k:AHeap,zkX s.h c rd k→∀R:Bool→AV→AHeap→Prop,R g v (c.app k)→fop (atCx cx nm) tab { s with h:=k } G o R:=by
  intro e
  rw [e] at hc
  cases hf:foot nm cx.P s o.op with
  |cold=>
   rw [hf] at hc
   simp only [Option.some.injEq,Prod.mk.injEq] at hc
   obtain ⟨rfl,rfl⟩:=hc
   obtain ⟨q1,q2⟩:=ff1 hf
   exact ⟨hne q1,fun k _ R hR=>q2 k R hR⟩
  | on i=>
   rw [hf] at hc
   dsimp only at hc
   split at hc
   ·rename_i he
    obtain ⟨ob,q1,q2,_⟩:=(ff2 i hf s.h rfl).2 he
    rw [q1] at hc
    simp only [Option.map_some,Option.some.injEq,Prod.mk.injEq] at hc
    obtain ⟨rfl,rfl⟩:=hc
    refine ⟨q2,fun k hk R hR=>?_⟩
    obtain ⟨ob',p1,p2,p3⟩:=(ff2 i hf k hk.2).2 he
    rw [q1] at p1
    cases p1
    exact p3 R hR
   ·rename_i he
    simp only [Option.some.injEq,Prod.mk.injEq] at hc
    obtain ⟨rfl,rfl⟩:=hc
    have he':isEff o.op=false:=by simpa using he
    exact ⟨hne he',fun k hk R hR=>(ff2 i hf k (hk.1 i (by simp))).1 he' R hR⟩
  |new i=>rw [hf] at hc;cases hc
  |whole=>rw [hf] at hc;cases hc
 have h0:=h (fun g1 v1 h1=>g1=g∧v1=v∧h1=h') ⟨rfl,rfl,rfl⟩
 cases hop:o.op
 case alloc t=>
  rw [hop] at hc
  have n1:∀x,o.op= .move x→False:=by simp [hop]
  have n2:∀x,o.op= .assign x→False:=by simp [hop]
  have n3:∀x y z,o.op= .pick x y z→False:=by simp [hop]
  have n4:∀c,o.op= .call c→False:=by simp [hop]
  have hv:¬isVal (atCx cx nm).P o.op=true:=by rw [hop];simp [isVal,zcL]
  rw [z8 n1 n2 n3 n4,if_neg hv,hop] at h0
  obtain ⟨hG,hdt,h1⟩:=h0
  unfold aeff at h1
  dsimp only [atCx] at h1
  rw [hfs] at h1
  obtain ⟨q1,q2,q3,q4⟩:=h1
  subst q4
  simp only [chOf,hget,if_true,Option.map_some,Option.some.injEq,Prod.mk.injEq] at hc
  obtain ⟨rfl,rfl⟩:=hc
  refine ⟨rfl,fun k hk R hR=>?_⟩
  rw [z8 n1 n2 n3 n4,if_neg hv,hop]
  refine ⟨hG,hdt,?_⟩
  unfold aeff
  dsimp only [atCx]
  rw [zhY hk.2]
  refine ⟨q1,?_⟩
  rw [← q2,← q3] at hR
  exact hR
 case makeSlice t l m=>
  rw [hop] at hc
  have n1:∀x,o.op= .move x→False:=by simp [hop]
  have n2:∀x,o.op= .assign x→False:=by simp [hop]
  have n3:∀x y z,o.op= .pick x y z→False:=by simp [hop]
  have n4:∀c,o.op= .call c→False:=by simp [hop]
  have hv:¬isVal (atCx cx nm).P o.op=true:=by rw [hop];simp [isVal,zcL]
  rw [z8 n1 n2 n3 n4,if_neg hv,hop] at h0
  obtain ⟨hG,hdt,h1⟩:=h0
  unfold aeff zao at h1
  dsimp only [atCx] at h1
  split at h1
  ·rename_i e gl n gc m' ht hl hm
   obtain ⟨c1,c2,c3,c4,c5,c6,c7,c8,c9,h1⟩:=h1
   split at h1
   ·rename_i z hz
    rw [hfs] at h1
    obtain ⟨q2,q3,q4⟩:=h1
    subst q4
    simp only [chOf,hget,if_true,Option.map_some,Option.some.injEq,Prod.mk.injEq] at hc
    obtain ⟨rfl,rfl⟩:=hc
    refine ⟨rfl,fun k hk R hR=>?_⟩
    rw [z8 n1 n2 n3 n4,if_neg hv,hop]
    refine ⟨hG,hdt,?_⟩
    unfold aeff zao
    dsimp only [atCx]
    rw [ht,hev k l,hev k m,hl,hm]
    dsimp only
    rw [hz,zhY hk.2]
    refine ⟨c1,c2,c3,c4,c5,c6,c7,c8,c9,?_⟩
    rw [← q2,← q3] at hR
    exact hR
   ·exact h1.elim
  ·exact h1.elim
 case buildSlice t len parts=>
  rw [hop] at hc
  have n1:∀x,o.op= .move x→False:=by simp [hop]
  have n2:∀x,o.op= .assign x→False:=by simp [hop]
  have n3:∀x y z,o.op= .pick x y z→False:=by simp [hop]
  have n4:∀c,o.op= .call c→False:=by simp [hop]
  have hv:¬isVal (atCx cx nm).P o.op=true:=by rw [hop];simp [isVal,zcL]
  rw [z8 n1 n2 n3 n4,if_neg hv,hop] at h0
  obtain ⟨hG,hdt,h1⟩:=h0
  unfold aeff at h1
  dsimp only [atCx] at h1
  split at h1
  ·rename_i e ht
   obtain ⟨c1,c2,c3,c4,c5,c6,h1⟩:=h1
   split at h1
   ·rename_i ds hds
    rw [hfs] at h1
    obtain ⟨q2,q3,q4⟩:=h1
    subst q4
    simp only [chOf,hget,if_true,Option.some.injEq,Prod.mk.injEq] at hc
    obtain ⟨rfl,rfl⟩:=hc
    refine ⟨rfl,fun k hk R hR=>?_⟩
    rw [z8 n1 n2 n3 n4,if_neg hv,hop]
    refine ⟨hG,hdt,?_⟩
    unfold aeff
    dsimp only [atCx]
    rw [ht]
    simp only [hev]
    rw [hds,zhY hk.2]
    refine ⟨c1,c2,c3,c4,c5,c6,?_⟩
    rw [← q2,← q3] at hR
    exact hR
   ·rename_i hds
    obtain ⟨c7,q2,q3,q4⟩:=h1
    subst q4
    simp only [chOf,hnm,Option.some.injEq,Prod.mk.injEq] at hc
    obtain ⟨rfl,rfl⟩:=hc
    refine ⟨rfl,fun k hk R hR=>?_⟩
    rw [z8 n1 n2 n3 n4,if_neg hv,hop]
    refine ⟨hG,hdt,?_⟩
    unfold aeff
    dsimp only [atCx]
    rw [ht]
    simp only [hev]
    rw [hds]
    refine ⟨c1,c2,c3,c4,c5,c6,c7,?_⟩
    rw [← q2,← q3] at hR
    exact hR
  ·exact h1.elim
 case build t parts=>
  rw [hop] at hc
  have n1:∀x,o.op= .move x→False:=by simp [hop]
  have n2:∀x,o.op= .assign x→False:=by simp [hop]
  have n3:∀x y z,o.op= .pick x y z→False:=by simp [hop]
  have n4:∀c,o.op= .call c→False:=by simp [hop]
  have hv:¬isVal (atCx cx nm).P o.op=true:=by rw [hop];simp [isVal,zcL]
  simp only [chOf,Option.some.injEq,Prod.mk.injEq] at hc
  obtain ⟨rfl,rfl⟩:=hc
  refine ⟨hne (by rw [hop];rfl),fun k hk R hR=>?_⟩
  have h2:=h (fun g v _=>R g v k) hR
  rw [z8 n1 n2 n3 n4,if_neg hv,hop] at h2
  obtain ⟨hG,hdt,h1⟩:=h2
  rw [z8 n1 n2 n3 n4,if_neg hv,hop]
  refine ⟨hG,hdt,?_⟩
  unfold aeff at h1 ⊢
  dsimp only [atCx] at h1 ⊢
  simp only [hev]
  exact h1
 case convert a b x=>
  rw [hop] at hc
  have n1:∀x,o.op= .move x→False:=by simp [hop]
  have n2:∀x,o.op= .assign x→False:=by simp [hop]
  have n3:∀x y z,o.op= .pick x y z→False:=by simp [hop]
  have n4:∀c,o.op= .call c→False:=by simp [hop]
  simp only [chOf,Option.some.injEq,Prod.mk.injEq] at hc
  obtain ⟨rfl,rfl⟩:=hc
  refine ⟨hne (by rw [hop];rfl),fun k hk R hR=>?_⟩
  have h2:=h (fun g v _=>R g v k) hR
  rw [z8 n1 n2 n3 n4,hop] at h2
  rw [z8 n1 n2 n3 n4,hop]
  split at h2
  ·rename_i hv
   rw [if_pos hv]
   have:aval (atCx cx nm).P { s with h:=k } (.convert a b x)=aval (atCx cx nm).P s (.convert a b x):=by simp only [aval,hev]
   rw [this]
   exact h2
  ·rename_i hv
   rw [if_neg hv]
   obtain ⟨hG,hdt,h1⟩:=h2
   refine ⟨hG,hdt,?_⟩
   unfold aeff zao at h1 ⊢
   dsimp only [atCx] at h1 ⊢
   split at h1
   ·rename_i e ht1 ht2
    simp only [detOp,atCx,ht2] at hdt
    cases hdt
   ·rename_i e ht1 ht2
    try rw [ht1,ht2]
    try dsimp only
    rw [hev k x,zpf hk.1]
    exact h1
   ·exact h1.elim
 case index t x y=>
  rw [hop] at hc
  have n1:∀x,o.op= .move x→False:=by simp [hop]
  have n2:∀x,o.op= .assign x→False:=by simp [hop]
  have n3:∀x y z,o.op= .pick x y z→False:=by simp [hop]
  have n4:∀c,o.op= .call c→False:=by simp [hop]
  simp only [chOf,Option.some.injEq,Prod.mk.injEq] at hc
  obtain ⟨rfl,rfl⟩:=hc
  refine ⟨hne (by rw [hop];rfl),fun k hk R hR=>?_⟩
  have h2:=h (fun g v _=>R g v k) hR
  have hv:isVal (atCx cx nm).P o.op=true:=by rw [hop];rfl
  rw [z8 n1 n2 n3 n4,if_pos hv,hop] at h2
  rw [z8 n1 n2 n3 n4,if_pos hv,hop]
  have:aval (atCx cx nm).P { s with h:=k } (.index t x y)=aval (atCx cx nm).P s (.index t x y):=by simp only [aval,hev]
  rw [this]
  exact h2
 case slice t x lo hi mx=>
  rw [hop] at hc
  have n1:∀x,o.op= .move x→False:=by simp [hop]
  have n2:∀x,o.op= .assign x→False:=by simp [hop]
  have n3:∀x y z,o.op= .pick x y z→False:=by simp [hop]
  have n4:∀c,o.op= .call c→False:=by simp [hop]
  simp only [chOf,Option.some.injEq,Prod.mk.injEq] at hc
  obtain ⟨rfl,rfl⟩:=hc
  refine ⟨hne (by rw [hop];rfl),fun k hk R hR=>?_⟩
  have h2:=h (fun g v _=>R g v k) hR
  have hv:isVal (atCx cx nm).P o.op=true:=by rw [hop];rfl
  rw [z8 n1 n2 n3 n4,if_pos hv,hop] at h2
  rw [z8 n1 n2 n3 n4,if_pos hv,hop]
  have:aval (atCx cx nm).P { s with h:=k } (.slice t x lo hi mx)=aval (atCx cx nm).P s (.slice t x lo hi mx):=by
   simp only [aval,hev]
   rw [zqb hk.1]
  rw [this]
  exact h2
 case call c=>
  rw [hop] at hc
  simp only [chOf] at hc
  split at hc
  ·-- append
   rename_i hcal
   split at hc
   ·rename_i x y harg
    split at hc
    ·rename_i i kk m off len hx
     have hv:¬isVal (atCx cx nm).P (.call c)=true:=by simp [isVal,zcL,hcal]
     have hco:∀k,zbh (atCx cx nm).P { s with h:=k } c=Option.none:=fun k=>by simp [zbh,hcal]
     unfold fop at h0
     rw [hop] at h0
     dsimp only at h0
     rw [if_neg hv,hco s.h] at h0
     obtain ⟨hG,h1⟩:=h0
     unfold aeff zao at h1
     dsimp only [atCx] at h1
     rw [hcal] at h1
     dsimp only at h1
     rw [harg] at h1
     split at h1
     ·rename_i x' y' t u e1 e2
      simp only [List.cons.injEq,and_true] at e1
      obtain ⟨rfl,rfl⟩:=e1
      split at h1
      ·rename_i e hte
       obtain ⟨c1,c2,c3,c4,c5,h1⟩:=h1
       split at h1
       ·rename_i rows hr
        rw [hx] at h1
        dsimp only at h1
        split at h1
        ·rename_i k' xs hi
         obtain ⟨d1,d2,d3,d4,d5,d6,d7,q2,q3,q4⟩:=h1
         subst q4
         rw [zh hi] at hc
         simp only [Option.map_some,Option.some.injEq,Prod.mk.injEq] at hc
         obtain ⟨rfl,rfl⟩:=hc
         refine ⟨rfl,fun k hk R hR=>?_⟩
         unfold fop
         rw [hop]
         dsimp only
         rw [if_neg hv,hco k]
         refine ⟨hG,?_⟩
         unfold aeff zao
         dsimp only [atCx]
         rw [hcal]
         dsimp only
         rw [harg,e2]
         dsimp only
         rw [hte]
         dsimp only
         rw [hev k x,hev k y,zus hk.1,hr]
         dsimp only
         rw [hx]
         dsimp only
         rw [hk.2,hi]
         refine ⟨c1,c2,c3,c4,c5,d1,d2,d3,d4,d5,d6,d7,?_⟩
         rw [← q2,← q3] at hR
         exact hR
        ·exact h1.elim
       ·exact h1.elim
      ·exact h1.elim
     ·exact h1.elim
    ·cases hc
   ·cases hc
  ·-- len
   rename_i hcal
   split at hc
   ·rename_i x harg
    simp only [Option.some.injEq,Prod.mk.injEq] at hc
    obtain ⟨rfl,rfl⟩:=hc
    have hv:isVal (atCx cx nm).P (.call c)=true:=by simp [isVal,zcL,hcal,isX]
    refine ⟨hne (by rw [hop];simp [isEff,hcal]),fun k hk R hR=>?_⟩
    have h2:=h (fun g v _=>R g v k) hR
    unfold fop at h2 ⊢
    rw [hop] at h2 ⊢
    dsimp only at h2 ⊢
    rw [if_pos hv] at h2 ⊢
    have:aval (atCx cx nm).P { s with h:=k } (.call c)=aval (atCx cx nm).P s (.call c):=by
     simp only [aval,zfi,hcal,harg]
     split
     ·rename_i x' t e1 e2
      simp only [List.cons.injEq,and_true] at e1
      subst e1
      simp only [hev]
      rw [zut hk.1]
     ·rfl
    rw [this]
    exact h2
   ·cases hc
  ·-- min
   rename_i hcal
   simp only [Option.some.injEq,Prod.mk.injEq] at hc
   obtain ⟨rfl,rfl⟩:=hc
   have hv:isVal (atCx cx nm).P (.call c)=true:=by simp [isVal,zcL,hcal,isX]
   refine ⟨hne (by rw [hop];simp [isEff,hcal]),fun k hk R hR=>?_⟩
   have h2:=h (fun g v _=>R g v k) hR
   unfold fop at h2 ⊢
   rw [hop] at h2 ⊢
   dsimp only at h2 ⊢
   rw [if_pos hv] at h2 ⊢
   have:aval (atCx cx nm).P { s with h:=k } (.call c)=aval (atCx cx nm).P s (.call c):=by
    have he:AS.ev { s with h:=k } =s.ev:=funext (hev k)
    simp only [aval,zfi,hcal,he]
   rw [this]
   exact h2
  ·-- max
   rename_i hcal
   simp only [Option.some.injEq,Prod.mk.injEq] at hc
   obtain ⟨rfl,rfl⟩:=hc
   have hv:isVal (atCx cx nm).P (.call c)=true:=by simp [isVal,zcL,hcal,isX]
   refine ⟨hne (by rw [hop];simp [isEff,hcal]),fun k hk R hR=>?_⟩
   have h2:=h (fun g v _=>R g v k) hR
   unfold fop at h2 ⊢
   rw [hop] at h2 ⊢
   dsimp only at h2 ⊢
   rw [if_pos hv] at h2 ⊢
   have:aval (atCx cx nm).P { s with h:=k } (.call c)=aval (atCx cx nm).P s (.call c):=by
    have he:AS.ev { s with h:=k } =s.ev:=funext (hev k)
    simp only [aval,zfi,hcal,he]
   rw [this]
   exact h2
  ·-- a function's call
   split at hc
   ·rename_i hf
    simp only [Option.some.injEq,Prod.mk.injEq] at hc
    obtain ⟨rfl,rfl⟩:=hc
    obtain ⟨q1,q2⟩:=ff1 (by rw [hop];exact hf)
    rw [hop] at q1
    exact ⟨hne (by rw [hop];exact q1),fun k _ R hR=>q2 k R hR⟩
   ·cases hc
  ·cases hc
 all_goals (exact old (by rw [hop];rfl))
end
end Go.Aw
