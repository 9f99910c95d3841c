/- Lemmas. -/
import Derived.Test.YtgldbfelccddbaaGreatApa5
import Derived.ScopeJumps
set_option linter.all false
set_option maxRecDepth 100000
set_option maxHeartbeats 2000000
namespace Go.Aw
noncomputable section
open Go
structure Ent (P:Program) (f:FuncId) where
 e:List AV->Option (Prop×AV)
 ok:∀args pre r,e args=some (pre,r)->pre->r.ids= []/\ACall P f 0 args [] (λr' _=>r'=r)
section
variable {P : Program}
open Classical in
def Ent.of {X:Type} (f:FuncId) (A:X->List AV) (pre:X->Prop) (r:X->AV) (ok:∀x,pre x->(r x).ids= []/\ACall P f 0 (A x) [] (λr' _=>r'=r x)):Ent P f where
 e:=λargs=>if h:∃x,A x=args then some (pre h.choose,r h.choose) else none
 ok:=λargs p q h hp=>by
  split at h
  .rename_i J;simp only [aB,aJ] at h;obtain ⟨rfl,rfl⟩:=h;have h2:=ok J.choose hp;rw [J.choose_spec] at h2;exact h2
  .cases h
def Ent.of_app {X} {f} {A} {pre} {r} {ok:∀x,pre x->(r x).ids= []/\ACall P f 0 (A x) [] (λr' _=>r'=r x)} (inj:∀x y,A x=A y->x=y) (x:X):(Ent.of f A pre r ok).e (A x)=some (pre x,r x):=by
 have J:∃y,A y=A x:=⟨x,rfl⟩
 have h:=inj _ _ J.choose_spec;unfold Ent.of
 grind
def tadd {f:FuncId} (e:Ent P f) (t:Tab):Tab:=λg args=>if g=f then e.e args else t g args
def za {f} {t} (e:Ent P f) (h:TabOk P t):TabOk P (tadd e t):=⟨λg args pre r J hp=>by
 unfold tadd at J;split at J
 .rename_i hf;subst hf;exact e.ok _ _ _ J hp
 .exact h.ok _ _ _ _ J hp⟩
@[go_sem] def tadd_hit {f} (e:Ent P f) t args:tadd e t f args=e.e args:=aa rfl
@[go_sem] def zDO {f} (e:Ent P f) t g args:tadd e t g args=if g=f then e.e args else t g args:=rfl
end
structure PT (α:Type) where
 un:AV->Option α
 wr:α->AV
 ok:∀a x,un a=some x->a.le (wr x)
structure PTL (α:Type) where
 un:List AV->Option α
 wr:α->List AV
 ok:∀a x,un a=some x->AV.leL a (wr x)
open Classical in
def zav (c:AV):PT Unit where
 un:=λa=>if a=c then some () else none
 wr:=λ_=>c
 ok:=λa x h=>by
  split at h
  .rename_i e;subst e;exact AV.le_refl _
  .cases h
@[go_sem] def zDP c:(zav c).un c=some ():=by unfold zav;grind
open Classical in
def intT (k:IntKind):PT Int where
 un:=λa=>match a with| .d (.int J n)=>if J=k then some n else none|_=>none
 wr:=λn=> .d (.int k n)
 ok:=λa x h=>by
  split at h
  .split at h
   .rename_i e;subst e;cases h;simp only [AV.le]
   .cases h
  .cases h
@[go_sem] def intT_un k n:(intT k).un (.d (.int k n))=some n:=aa rfl
def strT:PT (List UInt8) where
 un:=λa=>match a with| .d (.str l)=>some l|_=>none
 wr:=λn=> .d (.str n)
 ok:=λa x h=>by
  split at h
  .cases h;simp only [AV.le]
  .cases h
@[go_sem] def strT_un l:strT.un (.d (.str l))=some l:=rfl
def boolT:PT Bool where
 un:=λa=>match a with| .d (.bool l)=>some l|_=>none
 wr:=λn=> .d (.bool n)
 ok:=λa x h=>by
  split at h
  .cases h;simp only [AV.le]
  .cases h
@[go_sem] def boolT_un l:boolT.un (.d (.bool l))=some l:=rfl
open Classical in
def slT {α:Type} (k:Nat) (g:α→List D) (hg:∀a b,g a=g b→a=b):PT (List α) where
 un:=fun a=>match a with
  | .d (.sl k' rows)=>if h:k'=k∧∃l:List α,rows=l.map g then some h.2.choose else none
  | .nils _=>some []
  |_=>none
 wr:=fun l=> .d (.sl k (l.map g))
 ok :=fun a x h=>by
  split at h
  ·split at h
   ·rename_i e
    cases h
    obtain ⟨rfl,e⟩:=e
    simp only [AV.le,D.sl.injEq,bt]
    exact e.choose_spec
   ·cases h
  ·cases h;simp only [AV.le,bM]
  ·cases h
def zsC {α:Type} {g:α->List D} (J:∀a b,g a=g b->a=b):∀ {l m:List α},l.map g=m.map g->l=m
 | [],[],_=>rfl
 | [],_::_,h=>fU
 |_::_,[],h=>fU
 |a::l,b::m,h=>by simp only [au,aX] at h;rw [J _ _ h.1,zsC J h.2]
@[go_sem] def zDQ {α} k g J (l:List α):(slT k g J).un (.d (.sl k (l.map g)))=some l:=by
 have hx:k=k/\∃m:List α,l.map g=m.map g:=⟨rfl,l,rfl⟩
 unfold slT;simp only [dif_pos hx];rw [zsC J hx.2.choose_spec.symm]
@[go_sem] def slT_nil {α} k (g:α->List D) J:(slT k g J).un (.d (.sl k []))=some []:=zDQ k g J []
@[go_sem] def slT_nils {α} k j (g:α->List D) J:(slT k g J).un (.nils j)=some []:=rfl
def nilL:PTL Unit where
 un:=λa=>match a with| []=>some ()|_=>none
 wr:=λ_=> []
 ok:=λa x h=>by
  split at h
  .simp only [AV.leL]
  .cases h
@[go_sem] def nilL_un:nilL.un []=some ():=rfl
def consL {α β:Type} (t:PT α) (ts:PTL β):PTL (α×β) where
 un:=λa=>match a with|x::r=>(t.un x).bind λy=>(ts.un r).map λz=>(y,z)|_=>none
 wr:=λp=>t.wr p.1::ts.wr p.2
 ok:=λa x h=>by
  split at h
  .obtain ⟨y,h1,h2⟩:=Option.bind_eq_some_iff.1 h;obtain ⟨z,J,h4⟩:=bF.1 h2;subst h4;exact ⟨t.ok _ _ h1,ts.ok _ _ J⟩
  .cases h
@[go_sem] def consL_un {α β} (t:PT α) (ts:PTL β) a r:(consL t ts).un (a::r)=(t.un a).bind λy=>(ts.un r).map λz=>(y,z):=rfl
def aggT {α β:Type} (ts:PTL β) (f:β->α) (g:α->β) (pc:∀y,g (f y)=y):PT α where
 un:=λa=>match a with| .agg cs=>(ts.un cs).map f|_=>none
 wr:=λx=> .agg (ts.wr (g x))
 ok:=λa x h=>by
  split at h
  .obtain ⟨y,h1,h2⟩:=bF.1 h;subst h2;simp only [AV.le,pc];exact ts.ok _ _ h1
  .cases h
@[go_sem] def aggT_un {α β} ts f (g:α->β) pc cs:(aggT ts f g pc).un (.agg cs)=(ts.un cs).map f:=rfl
def dpT {α β:Type} (ts:PTL β) (f:β->α) (g:α->β) (pc:∀y,g (f y)=y):PT α where
 un:=λa=>match a with| .dp cs=>(ts.un cs).map f|_=>none
 wr:=λx=> .dp (ts.wr (g x))
 ok:=λa x h=>by
  split at h
  .obtain ⟨y,h1,h2⟩:=bF.1 h;subst h2;simp only [AV.le,pc];exact ts.ok _ _ h1
  .cases h
@[go_sem] def dpT_un {α β} ts f (g:α->β) pc cs:(dpT ts f g pc).un (.dp cs)=(ts.un cs).map f:=rfl
open Classical in
def fnT {β:Type} (n:FuncId) (ts:PTL β):PT β where
 un:=fun a=>match a with| .fn f fs cs=>if f= .func n∧fs= [] then ts.un cs else none|_=>none
 wr:=fun x=> .fn (.func n) [] (ts.wr x)
 ok :=fun a x h=>by
  split at h
  ·split at h
   ·rename_i e
    refine' GA
    simp only [AV.le,AV.leL,bt]
    exact ts.ok _ _ h
   ·cases h
  ·cases h
@[go_sem] def fnT_un {β} n (ts:PTL β) cs:(fnT n ts).un (.fn (.func n) [] cs)=ts.un cs:=aa ⟨rfl,rfl⟩
def ACall.args_le {P} {f} {fl} {args args'} {h} {K} (J:AV.leL args args') (hc:ACall P f fl args' h K):ACall P f fl args h K:=
 ⟨hc.1,λE w vs hs hr=>hc.2 E w vs hs (Reps.le _ _ _ J hr)⟩
def Ent.ofL {P:Program} {X:Type} {f:FuncId} (ts:PTL X) (pre:X->Prop) (r:X->AV) (ok:∀x,pre x->(r x).ids= []/\ACall P f 0 (ts.wr x) [] (λr' _=>r'=r x)):Ent P f where
 e:=λargs=>(ts.un args).map λx=>(pre x,r x)
 ok:=λargs p q h hp=>by obtain ⟨x,h1,h2⟩:=bF.1 h;cases h2;exact ⟨(ok x hp).1,ACall.args_le (ts.ok _ _ h1) (ok x hp).2⟩
@[go_sem] def Ent.ofL_e {P} {X} {f} ts pre (r:X->AV) (ok:∀x,pre x->(r x).ids= []/\ACall P f 0 (ts.wr x) [] (λr' _=>r'=r x)) args:(Ent.ofL ts pre r ok).e args=(ts.un args).map λx=>(pre x,r x):=rfl
@[go_sem] def Ent.m1 {P:Program} {f:FuncId} {α1:Type} {pre:α1->Prop} {r:α1->AV} (t1:PT α1) (ok:∀J,pre J->ACall P f 0 [t1.wr J] [] λv _=>v=r J) (hid:∀J,(r J).ids= []:=by intros;rfl):Ent P f:= .ofL (consL t1 nilL) (λx=>pre x.1) (λx=>r x.1) (λx h=>⟨hid x.1,ok x.1 h⟩)
@[go_sem] def Ent.m2 {P:Program} {f:FuncId} {α1 α2:Type} {pre:α1->α2->Prop} {r:α1->α2->AV} (t1:PT α1) (t2:PT α2) (ok:∀J x2,pre J x2->ACall P f 0 [t1.wr J,t2.wr x2] [] λv _=>v=r J x2) (hid:∀J x2,(r J x2).ids= []:=by intros;rfl):Ent P f:= .ofL (consL t1 (consL t2 nilL)) (λx=>pre x.1 x.2.1) (λx=>r x.1 x.2.1) (λx h=>⟨hid x.1 x.2.1,ok x.1 x.2.1 h⟩)
@[go_sem] def Ent.m3 {P:Program} {f:FuncId} {α1 α2 α3:Type} {pre:α1->α2->α3->Prop} {r:α1->α2->α3->AV} (t1:PT α1) (t2:PT α2) (t3:PT α3) (ok:∀J x2 x3,pre J x2 x3->ACall P f 0 [t1.wr J,t2.wr x2,t3.wr x3] [] λv _=>v=r J x2 x3) (hid:∀J x2 x3,(r J x2 x3).ids= []:=by intros;rfl):Ent P f:= .ofL (consL t1 (consL t2 (consL t3 nilL))) (λx=>pre x.1 x.2.1 x.2.2.1) (λx=>r x.1 x.2.1 x.2.2.1) (λx h=>⟨hid x.1 x.2.1 x.2.2.1,ok x.1 x.2.1 x.2.2.1 h⟩)
@[go_sem] def Ent.m4 {P:Program} {f:FuncId} {α1 α2 α3 α4:Type} {pre:α1->α2->α3->α4->Prop} {r:α1->α2->α3->α4->AV} (t1:PT α1) (t2:PT α2) (t3:PT α3) (t4:PT α4) (ok:∀J x2 x3 x4,pre J x2 x3 x4->ACall P f 0 [t1.wr J,t2.wr x2,t3.wr x3,t4.wr x4] [] λv _=>v=r J x2 x3 x4) (hid:∀J x2 x3 x4,(r J x2 x3 x4).ids= []:=by intros;rfl):Ent P f:= .ofL (consL t1 (consL t2 (consL t3 (consL t4 nilL)))) (λx=>pre x.1 x.2.1 x.2.2.1 x.2.2.2.1) (λx=>r x.1 x.2.1 x.2.2.1 x.2.2.2.1) (λx h=>⟨hid x.1 x.2.1 x.2.2.1 x.2.2.2.1,ok x.1 x.2.1 x.2.2.1 x.2.2.2.1 h⟩)
@[go_sem] def Ent.m5 {P:Program} {f:FuncId} {α1 α2 α3 α4 α5:Type} {pre:α1->α2->α3->α4->α5->Prop} {r:α1->α2->α3->α4->α5->AV} (t1:PT α1) (t2:PT α2) (t3:PT α3) (t4:PT α4) (t5:PT α5) (ok:∀J x2 x3 x4 x5,pre J x2 x3 x4 x5->ACall P f 0 [t1.wr J,t2.wr x2,t3.wr x3,t4.wr x4,t5.wr x5] [] λv _=>v=r J x2 x3 x4 x5) (hid:∀J x2 x3 x4 x5,(r J x2 x3 x4 x5).ids= []:=by intros;rfl):Ent P f:= .ofL (consL t1 (consL t2 (consL t3 (consL t4 (consL t5 nilL))))) (λx=>pre x.1 x.2.1 x.2.2.1 x.2.2.2.1 x.2.2.2.2.1) (λx=>r x.1 x.2.1 x.2.2.1 x.2.2.2.1 x.2.2.2.2.1) (λx h=>⟨hid x.1 x.2.1 x.2.2.1 x.2.2.2.1 x.2.2.2.2.1,ok x.1 x.2.1 x.2.2.1 x.2.2.2.1 x.2.2.2.2.1 h⟩)
@[go_sem] def Ent.m6 {P:Program} {f:FuncId} {α1 α2 α3 α4 α5 α6:Type} {pre:α1->α2->α3->α4->α5->α6->Prop} {r:α1->α2->α3->α4->α5->α6->AV} (t1:PT α1) (t2:PT α2) (t3:PT α3) (t4:PT α4) (t5:PT α5) (t6:PT α6) (ok:∀J x2 x3 x4 x5 x6,pre J x2 x3 x4 x5 x6->ACall P f 0 [t1.wr J,t2.wr x2,t3.wr x3,t4.wr x4,t5.wr x5,t6.wr x6] [] λv _=>v=r J x2 x3 x4 x5 x6) (hid:∀J x2 x3 x4 x5 x6,(r J x2 x3 x4 x5 x6).ids= []:=by intros;rfl):Ent P f:= .ofL (consL t1 (consL t2 (consL t3 (consL t4 (consL t5 (consL t6 nilL)))))) (λx=>pre x.1 x.2.1 x.2.2.1 x.2.2.2.1 x.2.2.2.2.1 x.2.2.2.2.2.1) (λx=>r x.1 x.2.1 x.2.2.1 x.2.2.2.1 x.2.2.2.2.1 x.2.2.2.2.2.1) (λx h=>⟨hid x.1 x.2.1 x.2.2.1 x.2.2.2.1 x.2.2.2.2.1 x.2.2.2.2.2.1,ok x.1 x.2.1 x.2.2.1 x.2.2.2.1 x.2.2.2.2.1 x.2.2.2.2.2.1 h⟩)
def zwr {P} {f} {args} {r} (hc:ACall P f 0 args [] (λr' h'=>frz 9 h' r'=r)):ACall P f 0 args [] (λr' _=>r'=r):=by
 obtain ⟨ix,hc⟩:=hc;refine ⟨ix,λE w vs hs hr=>(hc E w vs hs hr).mono ?_⟩;rintro e w' ⟨v,E',r',h',rfl,rfl,ga,gn,J⟩;have jo:∀ (E:Env) b,¬Own E [] b:=λE b ⟨i,hi,_⟩=>gK;refine ⟨v, { O:=λ_=>none,C:=λ_=>0,M:=E.M,N:=E.N },_,[],rfl,rfl,?_,?_,?_⟩
 .exact ⟨λi o ho=>ky,λi j b h1=>fU,λb hb=>absurd hb fU,λb hb=>ga.mlt b (by rw [J.m];omega),λb hb=>ga.nlt b (by rw [J.n];omega)⟩
 .refine Rep.step (E:=frzE E') (h:= []) (λb _ hx=>?_) fU _ v (λj hj=>by unfold GoesOn;simp [hget]) (zwc ga 9 r' v gn);refine' Gz
  .grind
  .exact .inr (.inr (.inl (by rw [J.m];omega)))
  .exact .inr (.inr (.inr (by rw [J.n];omega)))
 .exact ⟨J.os,J.tape,J.output,J.size,λb hb _=>J.keep b hb fU,λb hb=>absurd hb fU,rfl,rfl,λi hi h=>fU⟩
def zws {cx} {s} {Q} {g} {ps:Array Tmp} {assign body} {f} {fs caps} fl {items} (I:List (List AV)->AHeap×Option (List (List AV))) J 
  (jV:AIter cx.P f fl fs caps [] items (λg h'=>(∀xs,g=some xs->xs=items)/\h'= [])) (hg:s.ev g=(true,.fn (.func f) fs caps)) (kV:cx.lone=true)
  (gy:∀i,(hget s.h i).isSome->i<fl) (nD:cx.fl<=fl) (gL:AV.idsL fs++AV.idsL caps= [])
  (hI:leH s.h (I []).1) (hIn:inH (I []).1 (idsH (I []).1)) (kv:(I []).2=s.g)
  (hlen:∀x∈items,x.length=ps.size) (jY:∀t∈ps.toList,t<cx.nt)
  (mS:∀xs x,(xs++ [x])<+:items->∀ (l:Nat) (r1:Rnd cx),AW (cx.inR l fl r1) assign (AsgK λs1=>∀r2:Rnd cx,AW (cx.inR l fl r2) body (ze (λh' g'=>leH h' (I (xs++ [x])).1/\inH (I (xs++ [x])).1 (idsH (I (xs++ [x])).1)/\g'=(I (xs++ [x])).2) J) s1)
   { t:=zeu ps.toList x (keepT (I xs).1 s.t),h:=(I xs).1,g:=(I xs).2 })
  (oe:Q .normal { t:=keepT (I items).1 s.t,h:=(I items).1,g:=(I items).2 })
  (p2:∀c h3 g3,J c h3 g3->AW cx c Q { t:=keepT h3 s.t,h:=h3,g:=g3 }):
  AW cx (.rangeFunc g ps assign body) Q s:=by
 have e1:hsel (λ_=>false) s.h= []:=by
  induction s.h with
  |nil=>rfl
  |cons a h ih=>simp only [hsel];grind
 have a7:hsel (λi=> !(λ_=>false) i) s.h=s.h:=zhc fU;refine zjh (Kit:=λg h'=>(∀xs,g=some xs->xs=items)/\h'= []) (items:=items) (fl:=fl) (λ_=>false) I J kV hg (by rw [e1];exact jV) gy nD ?_ ?_ fU hIn kv fU fU ?_ hlen jY mS ?_ ?_
 .intro i o _ h;cases h
 .grind
 .refine' Ie
 .grind
 .grind
def zkf {α β:Type} {g:α->β} (J:∀a b,g a=g b->a=b) {l l':List α} :(l.map g=l'.map g)=(l=l'):=by
 apply propext;constructor
 .intro h;induction l generalizing l' with
  |nil=>simp_all
  | cons a l ih=>
   cases l' with
   |nil=>grind
   |cons b l'=>
    grind
 .grind
def zbB {α β:Type} {g:α->List β} {l:List α} {i} {q} (h:l[i]?=some q):(l.map g).getD i []=g q:=by
 grind
def zdO {α:Type} {l:List α} {i} {q} (h:l[i]?=some q):l.drop i=q::l.drop (i+1):=by obtain ⟨hi,h⟩:=bP.1 h;rw [eJ hi,h]
def zcT {α:Type} {l:List α} {i} {q} (h:l[i]?=some q):l.take (i+1)=l.take i++ [q]:=by
 rw [dr,h];rfl
def zaD {α:Type} {l:List α} {i} (h:i<l.length):∃q,l[i]?=some q:=⟨l[i],fU⟩
def zw {α β:Type} (g:α->List β) (l:List α) i (hi:i<=l.length):
  (∃q,l[i]?=some q/\i<l.length/\decide ((i:Int)<(l.length:Int))=true/\(l.map g).getD i []=g q/\l.drop i=q::l.drop (i+1)/\l.take (i+1)=l.take i++ [q])\/(i=l.length/\decide ((i:Int)<(l.length:Int))=false):=by
 rcases aO i l.length with h|h
 .simp_all
 .grind
def hdR:Code->Option Nat
 | .region id _ _=>some id
 | .seq x _=>hdR x
 |_=>none
def hds {cx} {c} {Q} {s} n (h:hdR c=some n) (g:AW cx c Q s):AW cx c Q s:=g
def zkg {cx} {s} {c} {x y} {Q} (hc:s.ev c=(true,.d (.bool true))) (J:AW cx x Q s):AW cx (.cond c x y) Q s:=za1 hc fU fU
def zkh {cx} {s} {c} {x y} {Q} (hc:s.ev c=(true,.d (.bool false))) (J:AW cx y Q s):AW cx (.cond c x y) Q s:=za1 hc fU fU
def sl_ex {e} {Q:Nat->Prop} :(∃J,TD.slice e=TD.slice J/\Q J)=Q e:=by
 grind
def zmP {cx} {x y} {Q} {s} s1 (h1:AW cx x (thenK (λs'=>s'.le s1) Q) s) (h2:AW cx y Q s1):AW cx (.seq x y) Q s:=
 zaC λK hK=>h1.mono λe s' h=>by cases e<;>first|exact hK s' (aw_le s1 h h2)|exact h
def zV {fl} :∀ {h:AHeap},(h.all λp=>decide (p.1<fl))=true->∀i,(hget h i).isSome->i<fl
  | [],_,i,hi=>gK
  | (k,o)::r,hh,i,hi=>by
    simp only [bq,aq,ax] at hh;simp only [hget] at hi;split at hi
    · grind
    · exact zV hh.2 i hi
def zh9 {α:Type} {e} :∀ {rows:List (List D)},(∀r∈rows,∃a,r=e a)->∃l:List α,rows=l.map e
 | [],_=>⟨[],rfl⟩
 |r::rows,h=>by obtain ⟨a,rfl⟩:=h r fZ;obtain ⟨l,rfl⟩:=zh9 (e:=e) (rows:=rows) fU;exact ⟨a::l,rfl⟩
def zmQ {p} :∀ {h:AHeap},(∀q∈h,p q.1=false)->hsel p h= []
  | [],_=>rfl
  | (k,o)::r,hh=>by simp only [hsel];rw [U ig,zmQ fU]
def ACall.own {P} {f} {args} {fl fl'} {h} {K} (hc:ACall P f fl args [] K) (gy:(h.all λp=>decide (p.1<fl))=true) (gL:AV.idsL args= []) (hle:fl'<=fl) (J:∀r h',K r h'->(h'.all λp=>decide (fl<=p.1))=true):
  ACallAt P fl' f args h (λr h'=>∃h1,K r h1/\h'=h1++h):=by
 have ab:∀q∈h,q.1<fl:=λq hq=>fU;have e1:hsel (λi=>decide (fl<=i)) h= []:=zmQ fU;have e2:hsel (λi=> !decide (fl<=i)) h=h:=zhc fU
 have:=ACall.frame (P:=P) (f:=f) (args:=args) (fl:=fl) (fl':=fl') (h:=h) (K:=K) (p:=λi=>decide (fl<=i)) (by rw [e1];exact hc) (zV gy) fU (λi o ho hp=>by
   have:=zV gy i fU
   grind) fU hle (λr h' gR=>⟨λi hi hp=>by
    have:=zV gy i hi
    grind,λi hi=>by
    have h1:=J r h' gR;clear gR hc;induction h' with
    |nil=>simp [hget] at hi
    |cons q r ih=>
     simp only [bq,aq] at h1;obtain ⟨k,o⟩:=q;simp only [hget] at hi
     grind⟩)
 grind
def zf {n} (h0: -9223372036854775808<=n) (h1:n<9223372036854775808):IntKind.i64.wrap n=n:=iM
def zo {i:Nat} (h:i<9223372036854775807):IntKind.i64.wrap ((i:Int)+1)=((i+1:Nat):Int):=iM
def zDR {a b:Nat} :decide ((a:Int)<(b:Int))=decide (a<b):=by
 grind
def intD (n:Int):List D:= [.int .i64 n]
def strD (s:List UInt8):List D:= [.str s]
def zdu:∀a b,intD a=intD b->a=b:=by intro a b h;simpa [intD] using h
def zd7:∀a b,strD a=strD b->a=b:=by intro a b h;simpa [strD] using h
attribute [go_sem] sl_ex Nat.lt_irrefl Nat.zero_add zoq zf0 List.length_map or_self true_or or_true Nat.le_refl List.append_toArray List.range_zero List.append_eq Int.toNat_natCast IterK
open Go
inductive Ch where
 |none
 |put (i:Nat) (ob:AObj)
 |new (i:Nat) (ob:AObj)
def Ch.app:Ch->AHeap->AHeap
 | .none,h=>h
 | .put i ob,h=>hset h i ob
 | .new i ob,h=>(i,ob)::h
def Ch.at:Ch->Option Nat
 | .none=>Option.none
 | .put i _=>some i
 | .new i _=>some i
def zmR (h:AHeap) (c:Ch) (rd:List Nat) (k:AHeap):Prop:=
 (∀i∈rd,hget k i=hget h i)/\(match c with| .none=>True| .put i _=>hget k i=hget h i| .new i _=>hget k i=Option.none)
def chOf (nm:Nat) (P:Program) (s:AS) (op:Op) (h':AHeap):Option (Ch×List Nat):=
 match op with
 | .alloc _=>(hget h' nm).map fun ob=>(.new nm ob,[])
 | .buildSlice _ _ _=>some (match hget h' nm with|some ob=>(.new nm ob,[])|Option.none=>(.none,[]))
 | .makeSlice _ _ _=>(hget h' nm).map fun ob=>(.new nm ob,[])
 | .build _ _=>some (.none,[])
 | .index _ _ _=>some (.none,[])
 | .lookup _ m _ _=>(match (s.ev m).2 with
  | .amap _ _=>some (.none,[])
  |_=>Option.none)
 | .convert _ _ x=>some (.none,(s.ev x).2.ids)
 | .slice _ x _ _ _=>some (.none,(s.ev x).2.ids)
 | .call c=>(match c.callee with
  | .builtin .append=>(match c.args.toList with
   | [x,y]=>(match (s.ev x).2 with
    | .osl i _ _ _ _=>(hget h' i).map fun ob=>(.put i ob,(s.ev y).2.ids)
    |_=>Option.none)
   |_=>Option.none)
  | .builtin .len=>(match c.args.toList with
   | [x]=>some (.none,(s.ev x).2.ids)
   |_=>Option.none)
  | .builtin .min=>some (.none,[])
  | .builtin .max=>some (.none,[])
  | .value _=>if foot nm P s (.call c)= .cold then some (.none,[]) else Option.none
  |_=>Option.none)
 |op=>(match foot nm P s op with
  | .cold=>some (.none,[])
  | .on i=>if isEff op=true then (hget h' i).map fun ob=>(.put i ob,[]) else some (.none,[i])
  |_=>Option.none)
def atCx (cx:Cx) (J:Nat):Cx:= { cx with fl:=J }
section
variable {cx : Cx} {tab : Tab} {s : AS} {P : Program}
def zsD {k} {n} {v} (h:∀i∈v.ids,hget k i=hget s.h i):rowsK { s with h:=k } n v=rowsK s n v:=by
 unfold rowsK;cases v with
 |osl i _ _ _ _=>have:=h i jz;grind
 |vsl i _ _ _=>have:=h i jz;grind
 |d x=>grind
 |_=>rfl
def zzq {k} {n} {t} {v} (h:∀i∈v.ids,hget k i=hget s.h i):rowsT P { s with h:=k } n t v=rowsT P s n t v:=by unfold rowsT;rw [zsD h]
def zzr {k} {t} {v} (h:∀i∈v.ids,hget k i=hget s.h i):avLen P { s with h:=k } t v=avLen P s t v:=by
 unfold avLen AS.cur;generalize (ty P t).td=dd;cases v with
 |osl i _ _ _ _=>have:=h i jz;grind
 |d x=>grind
 |_=>grind
def zt0 {k} {t} {x} {lo hi mx} (h:∀i∈x.ids,hget k i=hget s.h i):zeq P { s with h:=k } t x lo hi mx=zeq P s t x lo hi mx:=by
 have J:∀y d,AS.bnd { s with h:=k } y d=AS.bnd s y d:=λy d=>by
  cases y with
  |none=>rfl
  |some y=>cases y<;>rfl
 unfold zeq AS.cur;simp only [J];cases x with
 |osl i _ _ _ _=>have:=h i jz;grind
 |vp i _=>have:=h i jz;grind
 |d x=>grind
 |_=>rfl
def zqz {k} {t} {ks} {vs} {y} {ok} :zda P { s with h:=k } t (.amap ks vs) y ok=zda P s t (.amap ks vs) y ok:=by
 unfold zda
 grind
def zzs {nm} (hnm:hget s.h nm=Option.none) {G} {o} {g} {v} {h'} (h:∀R:Bool→AV→AHeap→Prop,R g v h'→fop (atCx cx nm) tab s G o R) (hne:isEff o.op=false→h'=s.h)
  {c} {rd} (hc:chOf nm cx.P s o.op h'=some (c,rd)):
  h'=c.app s.h∧∀k:AHeap,zmR s.h c rd k→∀R:Bool→AV→AHeap→Prop,R g v (c.app k)→fop (atCx cx nm) tab { s with h:=k } G o R:=by
 have hev:∀ (k:AHeap) (x:Operand),AS.ev { s with h:=k } x=s.ev x:=fun k x=>lK
 have hkn:∀ (k:AHeap) (x:Operand),known { s with h:=k } x=known s x:=fun k x=>lK
 have hfs:fresh nm s.h=nm:=zjF hnm
 obtain ⟨ff1,ff2⟩:=zzp h hne
 have old:chOf nm cx.P s o.op h'=(match foot nm cx.P s o.op with
   | .cold=>some (.none,[])
   | .on i=>if isEff o.op=true then (hget h' i).map fun ob=>(.put i ob,[]) else some (.none,[i])
   |_=>Option.none)→h'=c.app s.h∧∀k:AHeap,zmR s.h c rd k→∀R:Bool→AV→AHeap→Prop,R g v (c.app k)→fop (atCx cx nm) tab { s with h:=k } G o R:=by
  intro e
  rw [e] at hc
  cases hf:foot nm cx.P s o.op with
  |cold=>
   rw [hf] at hc
   refine' IZ
   obtain ⟨q1,q2⟩:=ff1 hf
   exact ⟨hne q1,fun k _ R hR=>q2 k R hR⟩
  | on i=>
   rw [hf] at hc
   dsimp only at hc
   split at hc
   ·rename_i he
    obtain ⟨ob,q1,q2,_⟩:=(ff2 i hf s.h rfl).2 he
    rw [q1] at hc
    simp only [cz,aB,aJ] at hc
    obtain ⟨rfl,rfl⟩:=hc
    refine ⟨q2,fun k hk R hR=>?_⟩
    obtain ⟨ob',p1,p2,p3⟩:=(ff2 i hf k hk.2).2 he
    rw [q1] at p1
    cases p1
    exact p3 R hR
   ·rename_i he
    refine' IZ
    have he':isEff o.op=false:=fU
    exact ⟨hne he',fun k hk R hR=>(ff2 i hf k (hk.1 i fZ)).1 he' R hR⟩
  |new i=>grind
  |whole=>grind
 have h0:=h (fun g1 v1 h1=>g1=g∧v1=v∧h1=h') ⟨rfl,rfl,rfl⟩
 cases hop:o.op
 case alloc t=>
  refine' Cz
  refine' EA
  unfold aeff at h1
  dsimp only [atCx] at h1
  rw [hfs] at h1
  obtain ⟨q1,q2,q3,q4⟩:=h1
  subst q4
  simp only [chOf,hget,av,cz,aB,aJ] at hc
  refine' DM
  unfold aeff
  dsimp only [atCx]
  rw [zjF hk.2]
  refine ⟨q1,?_⟩
  rw [← q2,← q3] at hR
  exact hR
 case makeSlice t l m=>
  refine' Cz
  refine' EA
  unfold aeff zaU at h1
  dsimp only [atCx] at h1
  split at h1
  ·rename_i e gl n gc m' ht hl hm
   obtain ⟨c1,c2,c3,c4,c5,c6,c7,c8,c9,h1⟩:=h1
   split at h1
   ·rename_i z hz
    rw [hfs] at h1
    obtain ⟨q2,q3,q4⟩:=h1
    subst q4
    simp only [chOf,hget,av,cz,aB,aJ] at hc
    refine' DM
    unfold aeff zaU
    dsimp only [atCx]
    rw [ht,hev k l,hev k m,hl,hm]
    dsimp only
    rw [hz,zjF hk.2]
    refine ⟨c1,c2,c3,c4,c5,c6,c7,c8,c9,?_⟩
    rw [← q2,← q3] at hR
    exact hR
   ·grind
  ·grind
 case buildSlice t len parts=>
  refine' Cz
  refine' EA
  unfold aeff at h1
  dsimp only [atCx] at h1
  split at h1
  ·rename_i e ht
   obtain ⟨c1,c2,c3,c4,c5,c6,h1⟩:=h1
   split at h1
   ·rename_i ds hds
    rw [hfs] at h1
    obtain ⟨q2,q3,q4⟩:=h1
    subst q4
    simp only [chOf,hget,av,aB,aJ] at hc
    refine' DM
    unfold aeff
    dsimp only [atCx]
    rw [ht]
    simp only [hev]
    rw [hds,zjF hk.2]
    refine ⟨c1,c2,c3,c4,c5,c6,?_⟩
    rw [← q2,← q3] at hR
    exact hR
   ·rename_i hds
    obtain ⟨c7,q2,q3,q4⟩:=h1
    subst q4
    simp only [chOf,hnm,aB,aJ] at hc
    refine' DM
    unfold aeff
    dsimp only [atCx]
    rw [ht]
    simp only [hev]
    rw [hds]
    refine ⟨c1,c2,c3,c4,c5,c6,c7,?_⟩
    rw [← q2,← q3] at hR
    exact hR
  ·grind
 case build t parts=>
  refine' Cz
  have hv:¬isVal (atCx cx nm).P o.op=true:=qz
  refine' Gl
  rw [zax n1 n2 n3 n4,U hv,hop] at h2
  obtain ⟨hG,hdt,h1⟩:=h2
  rw [zax n1 n2 n3 n4,U hv,hop]
  refine ⟨hG,hdt,?_⟩
  unfold aeff at h1 ⊢
  dsimp only [atCx] at h1 ⊢
  simp only [hev]
  omega
 case convert a b x=>
  refine' Cz
  refine' Gl
  rw [zax n1 n2 n3 n4,hop] at h2
  rw [zax n1 n2 n3 n4,hop]
  split at h2
  ·rename_i hv
   rw [aa hv]
   have:aval (atCx cx nm).P { s with h:=k } (.convert a b x)=aval (atCx cx nm).P s (.convert a b x):=by simp only [aval,hev]
   grind
  ·rename_i hv
   rw [U hv]
   obtain ⟨hG,hdt,h1⟩:=h2
   refine ⟨hG,hdt,?_⟩
   unfold aeff zaU at h1 ⊢
   dsimp only [atCx] at h1 ⊢
   split at h1
   ·rename_i e ht1 ht2
    simp only [detOp,atCx,ht2] at hdt
    grind
   ·rename_i e ht1 ht2
    try rw [ht1,ht2]
    try dsimp only
    rw [hev k x,zsD hk.1]
    omega
   ·grind
 case index t x y=>
  refine' Cz
  simp only [chOf,aB,aJ] at hc
  refine' Dx
  have:aval (atCx cx nm).P { s with h:=k } (.index t x y)=aval (atCx cx nm).P s (.index t x y):=by simp only [aval,hev]
  grind
 case lookup t m y ok=>
  refine' Cz
  cases hm:(s.ev m).2<;>simp only [chOf,hm,aB,aJ,reduceCtorEq] at hc
  refine' Dx
  have:aval (atCx cx nm).P { s with h:=k } (.lookup t m y ok)=aval (atCx cx nm).P s (.lookup t m y ok):=by
   simp only [aval,hev,hm,zqz]
  grind
 case slice t x lo hi mx=>
  refine' Cz
  simp only [chOf,aB,aJ] at hc
  refine' Dx
  have:aval (atCx cx nm).P { s with h:=k } (.slice t x lo hi mx)=aval (atCx cx nm).P s (.slice t x lo hi mx):=by
   simp only [aval,hev]
   rw [zt0 hk.1]
  grind
 case call c=>
  rw [hop] at hc
  simp only [chOf] at hc
  split at hc
  ·-- append
   rename_i hcal
   split at hc
   ·rename_i x y harg
    split at hc
    ·rename_i i kk m off len hx
     have hv:¬isVal (atCx cx nm).P (.call c)=true:=by simp [isVal,zff,hcal]
     have hco:∀k,zbG (atCx cx nm).P { s with h:=k } c=Option.none:=fun k=>by simp [zbG,hcal]
     unfold fop at h0
     rw [hop] at h0
     dsimp only at h0
     rw [U hv,hco s.h] at h0
     obtain ⟨hG,h1⟩:=h0
     unfold aeff zaU at h1
     dsimp only [atCx] at h1
     rw [hcal] at h1
     dsimp only at h1
     rw [harg] at h1
     split at h1
     ·rename_i x' y' t u e1 e2
      simp only [aX,bW] at e1
      obtain ⟨rfl,rfl⟩:=e1
      split at h1
      ·rename_i e hte
       obtain ⟨c1,c2,c3,c4,c5,h1⟩:=h1
       split at h1
       ·rename_i rows hr
        rw [hx] at h1
        dsimp only at h1
        split at h1
        ·rename_i k' xs hi
         obtain ⟨d1,d2,d3,d4,h1⟩:=h1
         have key:∃ob,(h'=hset s.h i ob)∧∀R:Bool→AV→AHeap→Prop,∀k:AHeap,R g v (hset k i ob)→(if len=m then (xs.length+rows.length)*(ty cx.P e).bytes≤140737488355328∧xs.length+rows.length≤140737488355328∧R true (.osl i kk (m+rows.length) 0 (m+rows.length)) (hset k i (.arr k' (xs++rows))) else len+rows.length≤m∧R true (.osl i kk m 0 (len+rows.length)) (hset k i (.arr k' (rput xs len rows)))):=by
          grind
         obtain ⟨ob,rfl,key⟩:=key
         rw [zi hi] at hc
         simp only [cz,aB,aJ] at hc
         obtain ⟨rfl,rfl⟩:=hc
         refine ⟨rfl,fun k hk R hR=>?_⟩
         unfold fop
         rw [hop]
         dsimp only
         rw [U hv,hco k]
         refine ⟨hG,?_⟩
         unfold aeff zaU
         dsimp only [atCx]
         rw [hcal]
         dsimp only
         rw [harg,e2]
         dsimp only
         rw [hte]
         dsimp only
         rw [hev k x,hev k y,zzq hk.1,hr]
         dsimp only
         rw [hx]
         dsimp only
         rw [hk.2,hi]
         exact ⟨c1,c2,c3,c4,c5,d1,d2,d3,d4,key _ k hR⟩
        ·grind
       ·grind
      ·grind
     ·grind
    ·cases hc
   ·cases hc
  ·-- len
   rename_i hcal
   split at hc
   ·rename_i x harg
    refine' Dr
    have:aval (atCx cx nm).P { s with h:=k } (.call c)=aval (atCx cx nm).P s (.call c):=by
     simp only [aval,zgC,hcal,harg]
     split
     ·rename_i x' t e1 e2
      simp only [aX,bW] at e1
      subst e1
      simp only [hev]
      rw [zzr hk.1]
     ·rfl
    grind
   ·cases hc
  ·-- min
   rename_i hcal
   refine' Dr
   have:aval (atCx cx nm).P { s with h:=k } (.call c)=aval (atCx cx nm).P s (.call c):=by
    have he:AS.ev { s with h:=k } =s.ev:=fU
    simp only [aval,zgC,hcal,he]
   grind
  ·-- max
   rename_i hcal
   refine' Dr
   have:aval (atCx cx nm).P { s with h:=k } (.call c)=aval (atCx cx nm).P s (.call c):=by
    have he:AS.ev { s with h:=k } =s.ev:=fU
    simp only [aval,zgC,hcal,he]
   grind
  ·-- a function's call
   split at hc
   ·rename_i hf
    refine' IZ
    obtain ⟨q1,q2⟩:=ff1 (by rw [hop];exact hf)
    rw [hop] at q1
    exact ⟨hne (by rw [hop];exact q1),fun k _ R hR=>q2 k R hR⟩
   ·cases hc
  ·cases hc
 all_goals (exact old kK)
end
open Go
structure RG where
 o:Oper
 g:Bool
 v:AV
 c:Ch
 rd:List Nat
def appG (s:AS) (r:RG):AS:= { s with h:=r.c.app s.h }.put r.o.dst r.g r.v
def selG:List RG->(Nat->Bool)->AS->AS
 | [],_,s=>s
 |x::L,S,s=>selG L (λi=>S (i+1)) (if S 0=true then appG s x else s)
def lexG (L:List RG) (n:Nat) (s:AS):AS:=selG L (λi=>decide (i<n)) s
def zlN s r:(appG s r).h=r.c.app s.h:=by
 unfold appG AS.put;grind
def zDS s r:(appG s r).g=s.g:=by
 unfold appG AS.put;grind
def zmS s r k:lk (appG s r).t k=if r.o.dst=some k then some (r.g,r.v) else lk s.t k:=by unfold appG;rw [zwq]
def zot:∀ (L:List RG) (S:Nat->Bool) (s:AS),(selG L S s).g=s.g
 | [],_,_=>rfl
 |x::L,S,s=>by
  rw [selG,zot L];split
  .exact zDS _ _
  .rfl
def zki {Q:Nat->Prop} :∀ (L:List RG) (S S':Nat->Bool) (s s':AS),(∀k,Q k->lk s.t k=lk s'.t k)->(∀ (i:Nat) (r:RG),L[i]?=some r->(∃d,r.o.dst=some d/\Q d)->S i=S' i)->
  ∀k,Q k->lk (selG L S s).t k=lk (selG L S' s').t k
 | [],_,_,_,_,h,_=>h
 | x::L,S,S',s,s',h,hS=>by
  refine zki L _ _ _ _ (λk hk=>?_) fU;by_cases J:x.o.dst=some k
  .rw [hS 0 x rfl ⟨k,J,hk⟩];split
   .rw [zmS,zmS,aa J,aa J]
   .grind
  .have e1:∀ (b:Bool) (u:AS),lk (if b=true then appG u x else u).t k=lk u.t k:=λb u=>by
    split
    .rw [zmS,U J]
    .rfl
   rw [e1,e1]
   grind
def ziI {c:Ch} {h} {k} (hc:c.at≠some k):hget (c.app h) k=hget h k:=by
 cases c with
 |none=>rfl
 |put i ob=>exact zS (λe=>hc (by simp [Ch.at,e]))
 |new i ob=>
  have:i≠k:=λe=>hc (by simp [Ch.at,e]);simp [Ch.app,hget,this]
def zBG {c:Ch} {h h'} {k} (e:hget h k=hget h' k):hget (c.app h) k=hget (c.app h') k:=by
 by_cases hc:c.at=some k
 .cases c with
  |none=>cases hc
  |put i ob=>
   simp only [Ch.at,aB] at hc;subst hc;simp only [Ch.app];cases hh:hget h i with
   |none=>rw [zh8 hh,zh8 fU];exact e
   |some o=>rw [zi hh,zi (e ▸ hh)]
  |new i ob=>
   simp only [Ch.at,aB] at hc;subst hc;simp [Ch.app,hget]
 .rw [ziI hc,ziI hc,e]
def zia k:∀ (L:List RG) (S S':Nat->Bool) (s s':AS),hget s.h k=hget s'.h k->(∀ (i:Nat) (r:RG),L[i]?=some r->r.c.at=some k->S i=S' i)->hget (selG L S s).h k=hget (selG L S' s').h k
 | [],_,_,_,_,h,_=>h
 | x::L,S,S',s,s',h,hS=>by
  refine zia k L _ _ _ _ ?_ fU;by_cases hm:x.c.at=some k
  .rw [hS 0 x rfl hm];split
   .rw [zlN,zlN];exact zBG h
   .grind
  .have J:∀ (b:Bool) (u:AS),hget (if b=true then appG u x else u).h k=hget u.h k:=λb u=>by
    split
    .rw [zlN];exact ziI hm
    .rfl
   rw [J,J];exact h
def ziJ k:∀ (L:List RG) (S:Nat->Bool) (s:AS),(∀ (i:Nat) (r:RG),L[i]?=some r->S i=true->r.c.at≠some k)->hget (selG L S s).h k=hget s.h k
 | [],_,_,_=>rfl
 | x::L,S,s,J=>by
  rw [selG,ziJ k L _ _ fU];split
  .rename_i h0;rw [zlN];exact ziI fU
  .rfl
def zwt k:∀ (L:List RG) (n:Nat) (r:RG) (S:Nat->Bool) (s:AS),L[n]?=some r->S n=false->
  (∀ (i:Nat) (r':RG),L[i]?=some r'->n<i->S i=true->r.c.at=some k->r'.c.at≠some k)->hget (selG L (λi=>if i=n then true else S i) s).h k=hget (r.c.app (selG L S s).h) k
 | [],n,r,S,s,hr,_,_=>fU
 | x::L,0,r,S,s,hr,J,hl=>by
  have:x=r:=fU;subst this;simp only [selG,av,J,bj,aK,Nat.succ_ne_zero];by_cases hc:x.c.at=some k
  .have jo:∀ (i:Nat) (r':RG),L[i]?=some r'->S (i+1)=true->r'.c.at≠some k:=λi r' gn ga=>hl (i+1) r' fU fT ga hc;rw [ziJ k L _ _ jo,zlN];exact zBG (ziJ k L _ _ jo).symm
  .rw [ziI hc];refine zia k L _ _ _ _ ?_ fU;rw [zlN];exact ziI hc
 |x::L,n+1,r,S,s,hr,J,hl=>by have e0:(if (0:Nat)=n+1 then true else S 0)=S 0:=fU;simp only [selG,e0];have e1:(λi=>if i+1=n+1 then true else S (i+1))=(λi=>if i=n then true else S (i+1)):=fU;rw [e1];exact zwt k L n r (λi=>S (i+1)) _ fU J fU
def zfE:∀ (L:List RG) (s:AS),lexG L 0 s=s
 | [],s=>rfl
 |x::L,s=>by
  unfold lexG selG;have:=zfE L s;unfold lexG at this
  grind
def zgJ x L n s:lexG (x::L) (n+1) s=lexG L n (appG s x):=by unfold lexG;rw [selG];simp
def zou:∀ (L:List RG) (n:Nat) (s:AS) (r:RG),L[n]?=some r->lexG L (n+1) s=appG (lexG L n s) r
 | [],n,s,r,h=>fU
 |x::L,0,s,r,h=>by have:x=r:=fU;subst this;rw [zgJ,zfE,zfE]
 |x::L,n+1,s,r,h=>by rw [zgJ,zgJ];exact zou L n _ r fU
section
variable {cx : Cx} {E E0 : Env} {s s' : AS} {a : Act} {w w0 : World} {h h' h0 : AHeap}
def zfv (hh:∀k,hget h k=hget h' k):Own E h=Own E h':=by
 funext b;unfold Own
 grind
def zji (hh:∀k,hget h k=hget h' k) i:GoesOn E h E h' i:=by
 unfold GoesOn
 grind
def zqA (hh:∀k,hget h k=hget h' k) {x} {v} (J:Rep w E h x v):Rep w E h' x v:=
 Rep.step (λb _ hx=>by unfold Xs at hx |-;rwa [zfv hh]) fU x v (λj _=>zji hh j) J
def SatH.ext (J:SatH E h w) (hh:∀k,hget h k=hget h' k):SatH E h' w where
 heap:=λi o ho=>by
  rw [<-hh] at ho;have:=J.heap i o ho;have hX:∀b,b<w.heap.size->Xs E h' b->Xs E h b:=λb _ hx=>by unfold Xs at hx |-;rwa [zfv hh]
  cases o with
  |var cs=>
   refine' DJ;exact ⟨b,d,T,fz,h1,h2,Reps.step hX fU _ _ (λj _=>zji hh j) h3,h4⟩
  |tvar tt cs=>
   refine' DJ;exact ⟨b,d,T,fz,h1,h2,Reps.step hX fU _ _ (λj _=>zji hh j) h3,h4⟩
  |arr k xs=>
   refine' Dk;rcases this with g|⟨b,d,T,fz,h1,h2,h3,h4,h5,h6⟩
   .grind
   .exact .inr ⟨b,d,T,fz,h1,h2,h3,h4,RepRows.step hX fU _ _ _ h5,h6⟩
  |buf tt xs=>
   refine' Dk
   grind
  |strit l p=>exact this
  |omap es=>exact this
 inj:=λi j b hi hj=>J.inj i j b (by rwa [hh]) (by rwa [hh])
 own:=λb hb=>J.own b (by rwa [zfv hh])
 mlt:=J.mlt
 nlt:=J.nlt
def Sat.ext (J:Sat cx E s a w) (ht:∀k,lk s.t k=lk s'.t k) (hh:∀k,hget s.h k=hget s'.h k) (hg:s.g=s'.g):Sat cx E s' a w where
 slots:=λk g v hk=>by obtain ⟨x,h1,h2,h3⟩:=J.slots k g v fU;exact ⟨x,h1,λe=>zqA hh (h2 e),h3⟩
 nt:=J.nt
 hp:=J.hp.ext hh
 base:=J.base
 marks:=J.marks
 ghost:=by rw [<-hg,<-zfv hh];exact J.ghost
def Evo.ext {fl} (he:Evo fl E0 h0 w0 E h w) (hh:∀k,hget h k=hget h' k):Evo fl E0 h0 w0 E h' w where
 os:=he.os
 tape:=he.tape
 output:=he.output
 size:=he.size
 keep:=he.keep
 own:=λb hb=>he.own b (by rwa [zfv hh])
 m1:=he.m1
 m2:=he.m2
 n:=he.n
 go:=λi hi J=>by rw [<-hh] at J;obtain ⟨g1,g2⟩:=he.go i hi J;exact ⟨g1,g2.trans (zji hh i)⟩
def Evo.low {fl fl'} (he:Evo fl' E0 h0 w0 E h w) (J:fl<=fl'):Evo fl E0 h0 w0 E h w:=
 ⟨he.os,he.tape,he.output,he.size,he.keep,he.own,he.m1,he.m2,he.n,λi hi=>he.go i fT⟩
def Sat.at {nm} (J:Sat cx E s a w):Sat (atCx cx nm) E s a w:=⟨J.slots,J.nt,J.hp,J.base,J.marks,J.ghost⟩
def Sat.un {nm} (J:Sat (atCx cx nm) E s a w):Sat cx E s a w:=⟨J.slots,J.nt,J.hp,J.base,J.marks,J.ghost⟩
def Reach.un {nm} (J:cx.fl<=nm) {K} (hr:Reach (atCx cx nm) E h w K a w0):Reach cx E h w K a w0:=by obtain ⟨E1,s1,hk,hs,he⟩:=hr;exact ⟨E1,s1,hk,hs.un,he.low J⟩
end
def ownR (o:AV):List D->AV
 | []=>o
 |d::ds=> .tup (o::(d::ds).map .d)
def zov:∀ds:List D,AV.idsL (ds.map .d)= []
 | []=>rfl
 |_::ds=>by simp only [au,AV.idsL,AV.ids,zov ds,bm]
def zBH {P} {f} {args} {k} {rows} {ds} {h} {nm fl j0} (hc:ACall P f 0 args [] (fun r h'=>r=ownR (.osl j0 k rows.length 0 rows.length) ds∧h'= [(j0,.arr k rows)])) (hids:AV.idsL args= []) (hnm:hget h nm=none) (hfl:fl≤nm):
    ACallAt P fl f args h (fun r h'=>r=ownR (.osl nm k rows.length 0 rows.length) ds∧h'=(nm,.arr k rows)::h):=by
  obtain ⟨hen,hc⟩:=hc
  refine ⟨hen,fun E w vs hs hr=>?_⟩
  have hno:∀ (E:Env) b,¬Own E [] b:=fun E b ⟨i,hi,_⟩=>gK
  have hs0:SatH (bare (Xs E h)) [] w:=⟨fun i o ho=>ky,fun i j b h1=>mO,fun b hb=>absurd hb fU,fun _ h=>h.elim,fun b hb=>by
    rcases hb with hb|hb|hb
    · exact (hs.own b hb).1
    · exact hs.mlt b hb
    · exact hs.nlt b hb⟩
  have hX0:∀b,b<w.heap.size→Xs (bare (Xs E h)) [] b→Xs E h b:=fun b _ hx=>by
    refine' Gz
    · grind
    · exact hx.elim
    · exact hx
  have hr0:Reps w (bare (Xs E h)) [] args vs.toList:=Reps.step hX0 fU _ _ fU hr
  refine (hc _ w vs hs0 hr0).mono ?_
  rintro e w' ⟨v,E',r',h1,rfl,⟨rfl,rfl⟩,hs',hr',hev⟩
  have hkeep:∀b,b<w.heap.size→w'.heap[b]?=w.heap[b]?:=fun b hb=>hev.keep b hb fU
  obtain ⟨E2,hE2⟩:∃E2,E2=E.set nm (E'.O j0) (E'.C j0):=⟨_,rfl⟩
  have hO:E2.O nm=E'.O j0:=by rw [hE2];simp [Env.set]
  have hC:E2.C nm=E'.C j0:=by rw [hE2];simp [Env.set]
  have hob:=hs'.heap j0 (.arr k rows) iJ
  have hlt:∀b,E'.O j0=some b→w.heap.size≤b∧b<w'.heap.size:=fun b hb=>by
    have ho:Own E' [(j0,.arr k rows)] b:=⟨j0,iJ,hb⟩
    exact ⟨(hev.own b ho).elim fU id,(hs'.own b ho).1⟩
  have c:Chg E h w E2 ((nm,.arr k rows)::h) w' nm:=
    { os:=hev.os,tape:=hev.tape,output:=hev.output,size:=hev.size
      envO:=fun j e=>by rw [hE2];simp [Env.set,e]
      envC:=fun j e=>by rw [hE2];simp [Env.set,e]
      M:=by rw [hE2];rfl
      N:=by rw [hE2];rfl
      hh:=fun j e=>kT
      gi:=xh
      blk:=fun b hb _=>hkeep b hb
      new:=fun b _ hb=> .inr fU }
  have hXn:∀b,b<w'.heap.size→Xs E2 ((nm,.arr k rows)::h) b→Xs E' [(j0,.arr k rows)] b:=fun b _ hx=>by
    have hN:∀b,Xs E h b→Xs E' [(j0,.arr k rows)] b:=fun b hx=> .inr (.inr (by rw [hev.n];exact hx))
    rcases hx with ⟨j,hj,hb⟩|hx|hx
    · by_cases e:j=nm
      · subst e
        exact .inl ⟨j0,iJ,fU⟩
      · exact hN b (.inl ⟨j,by simpa [hget,bx e] using hj,by rw [← c.envO j e];omega⟩)
    · exact hN b (.inr (.inl (by rwa [c.M] at hx)))
    · exact hN b (.inr (.inr (by rwa [c.N] at hx)))
  have hs2:SatH E2 ((nm,.arr k rows)::h) w':=c.satH hs (fun o ho=>by
    simp only [hget,av,aB] at ho
    subst ho
    simp only [RepObj,hO,hC] at hob ⊢
    rcases hob with g|⟨b,d,T,fz,h1,h2,h3,h4,h5,h6⟩
    · grind
    · exact .inr ⟨b,d,T,fz,h1,h2,h3,h4,RepRows.step hXn fU _ _ _ h5,h6⟩)
  refine ⟨v,E2,_,_,rfl,⟨rfl,rfl⟩,hs2,?_,?_,fun x y hxy=>c.rep hxy⟩
  · have base:∀v,Rep w' E' [(j0,.arr k rows)] (.osl j0 k rows.length 0 rows.length) v→Rep w' E2 ((nm,.arr k rows)::h) (.osl nm k rows.length 0 rows.length) v:=by
      intro v hr'
      obtain ⟨q1,xs,q2,q3,q4,q5⟩:=hr'
      simp only [hget,av,aB,AObj.arr.injEq] at q2
      obtain ⟨-,rfl⟩:=q2
      refine ⟨q1,rows,iJ,q3,q4,?_⟩
      grind
    cases ds with
    |nil=>exact base v hr'
    | cons d ds=>
      simp only [ownR] at hr' ⊢
      obtain ⟨vs,rfl,hr'⟩:=hr'
      obtain ⟨x,r,e,h2,h3⟩:=hr'
      refine ⟨vs,rfl,?_⟩
      exact ⟨x,r,e,fU,Reps.step hXn fU _ _ (by rw [zov];simp) h3⟩
  · have ev:=c.evo (fl:=fl) fU
    exact ⟨ev.os,ev.tape,ev.output,ev.size,fun b hb _=>hkeep b hb,ev.own,c.M,c.N,ev.go⟩
def EvoC.ext {E E'} {h0 h h1 h'} {w w'} {fl fl'} (he:EvoC fl E h0 w E' h w') (wY:∀k,hget h0 k=hget h1 k) (hh:∀k,hget h k=hget h' k) (gy:∀k,(hget h k).isSome->k<fl\/fl'<=k):EvoC fl' E h1 w E' h' w' where
 os:=he.os
 tape:=he.tape
 output:=he.output
 size:=he.size
 keep:=λb J hn=>he.keep b J (by rwa [zfv wY])
 own:=λb J=>by rw [<-zfv hh] at J;rw [<-zfv wY];exact he.own b J
 m:=he.m
 n:=he.n
 go:=λi hi hs=>by
  rw [<-hh] at hs;rcases gy i hs with hl|hl
  .obtain ⟨g1,g2⟩:=he.go i hl hs;exact ⟨fU,((zji fU i).trans g2).trans (zji hh i)⟩
  .omega
def ACall.ext {P} {f} {args} {fl fl'} {h h'} {K} (hc:ACall P f fl args h K) (hh:∀k,hget h k=hget h' k) (gy:∀r h2,K r h2->∀k,(hget h2 k).isSome->k<fl\/fl'<=k):ACall P f fl' args h' K:=by refine ⟨hc.1,λE w vs hs hr=>?_⟩;have uT:∀k,hget h' k=hget h k:=λk=>(hh k).symm;refine (hc.2 E w vs (hs.ext uT) (Reps.step (λb _ hx=>by unfold Xs at hx |-;rwa [zfv uT]) fU _ _ (λj _=>zji uT j) hr)).mono ?_;rintro e w' ⟨v,E',r,h2,rfl,hk,ga,gn,J⟩;exact ⟨v,E',r,h2,rfl,hk,ga,gn,J.ext hh fU fU⟩
def inHp:AHeap->AHeap->Prop
 | [],_=>True
 |(i,o)::r,h=>hget h i=some o/\inHp r h
def hup:AHeap->AHeap->AHeap
 | [],h=>h
 |(i,o)::r,h=>hset (hup r h) i o
def zjK:∀ {hp h:AHeap},inHp hp h->∀ {k:Nat} {o:AObj},hget hp k=some o->hget h k=some o
  | [],_,_,k,o,J=>oK
  | (i,x)::r,h,hh,k,o,J=>by
    simp only [hget] at J;split at J
    · rename_i e;subst e;cases J;exact hh.1
    · exact zjK hh.2 J
def zsE {h} :∀ {hp:AHeap},(∀i,(hget hp i).isSome→(hget h i).isSome)→∀k,hget (hup hp h) k=(hget hp k).or (hget h k)
  | [],_,k=>by simp [hup,hget]
  | (i, o)::r,hh,k=>by
    have h0:∀j,(hget r j).isSome→(hget h j).isSome:=fun j hj=>by
      have:=hh j
      simp only [hget] at this
      grind
    have ih:=zsE h0
    simp only [hup,hget]
    by_cases e:i=k
    · subst e
      obtain ⟨o',ho'⟩:∃o',hget (hup r h) i=some o':=by
        rw [ih]
        have:=hh i iJ
        cases hr:hget r i with
        |none=>obtain ⟨o',e⟩:=bE.1 this;grind
        |some y=>grind
      rw [aa rfl,zi ho']
      rfl
    · rw [U e,zS fU,ih]
def zcU {P} {f} {args} {r0} {h hp j2} {jF fl} (hc:ACall P f jF args hp (λr h'=>r=r0/\h'=j2)) (hi:(hp.all λq=>decide (q.1<jF))=true) (hg:inHp hp h) (c6:inH hp (idsH hp)) (ha:inH hp (AV.idsL args)) (rj:j2.map (·.1)=hp.map (·.1)):
  ACallAt P fl f args h (λr h'=>r=r0/\h'=hup j2 h):=by
 have iq:∀ {q:AHeap} {k:Nat},(hget q k).isSome↔k∈q.map (·.1):=λ{q} {k} =>by
  induction q with
  |nil=>simp [hget]
  |cons x r ih=>
   simp only [hget,au,bg]
   grind
 have vm:∀k,(hget j2 k).isSome↔(hget hp k).isSome:=λk=>fU;have ri:=zV hi;obtain ⟨q6,wZ⟩:∃q6,q6=top fl h:=⟨_,rfl⟩
 have aZ:∀j,(hget h j).isSome->j<q6:=λj J=>by rw [wZ];exact zv3 J
 obtain ⟨p,pN⟩:∃p:Nat->Bool,p=λj=>(hget hp j).isSome||decide (q6<=j):=⟨_,rfl⟩
 have gJ:∀j,(hget hp j).isSome->p j=true:=λj J=>fU;have gZ:∀j,(hget h j).isSome->p j=true->(hget hp j).isSome:=λj J gZ=>fU
 have rl:∀j,(hget hp j).isSome->(hget h j).isSome:=λj J=>by obtain ⟨o,ho⟩:=bE.1 J;rw [zjK hg ho];rfl
 have et:∀k,hget hp k=hget (hsel p h) k:=λk=>by
  rw [zE];cases hk:hget hp k with
  |some o=>rw [aa fU,zjK hg hk]
  | none=>
   split
   .rename_i Bb;cases hh:hget h k with
    |none=>rfl
    |some o=>
     grind
   .rfl
 have fY:=hc.ext (fl':=q6) et fU
 have:=ACall.frame (fl':=fl) fY aZ fU (λj o ho n9 k hk=>by
  obtain ⟨o',iO⟩:=bE.1 (gZ j (by simp [ho]) n9);have e:=zjK hg iO;rw [ho] at e;cases e;refine gJ k (zfW c6 k ?_)
  have hm:∀ {q:AHeap} {j:Nat} {o:AObj},hget q j=some o->∀k∈o.ids,k∈idsH q:=λ{q} =>by
   induction q with
   |nil=>grind
   |cons x r ih=>
    intro j o J k hk;simp only [hget] at J;simp only [idsH,aS]
    grind
  grind) (λj J=>gJ j (zfW ha j J)) (by rw [wZ];exact zh3 _ _) fU
 refine ⟨this.1,λE w vs hs hr=>(this.2 E w vs hs hr).mono ?_⟩;rintro e w' ⟨v,E',r,h2,rfl,⟨h1,⟨rfl,rfl⟩,rfl⟩,ga,gn,a6,C6⟩
 have hex:∀k,hget (h1++hsel (λj=> !p j) h) k=hget (hup h1 h) k:=λk=>by
  rw [zdN,zE,zsE fU];cases hk:hget h1 k with
  |some o=>rfl
  | none=>
   split
   .rfl
   .rename_i Bb;cases hh:hget h k with
    |none=>rfl
    |some o=>
     grind
 exact ⟨v,E',r,_,rfl,⟨rfl,rfl⟩,ga.ext hex,zqA hex gn,a6.ext fU hex fU,λx y jI=>zqA hex fU⟩
def zsF {h} :∀ {l:List Nat},(∀i∈l,(hget h i).isSome)->inH h l
 | [],_=>trivial
 |i::r,hh=>⟨fU,zsF λj J=>hh j fU⟩
def zcq {P} {f} {args} {r0} {h} {i jF fl} {ob aZ} (hc:ACall P f jF args [(i,ob)] (λr h'=>r=r0/\h'= [(i,aZ)])) (hi:i<jF) (hg:hget h i=some ob) (c6:∀j∈ob.ids,j=i) (ha:∀j∈AV.idsL args,j=i):
  ACallAt P fl f args h (λr h'=>r=r0/\h'=hset h i aZ):=
 zcU hc fU ⟨hg,trivial⟩ (zsF λj J=>by simp only [idsH,bm] at J;simp [hget,c6 j J]) (zsF λj J=>by simp [hget,ha j J]) rfl
def zqB {h k} :∀ {hp:AHeap},inHp hp h->(∀i∈hp.map (·.1),hget k i=hget h i)->inHp hp k
 | [],_,_=>trivial
 |(i,o)::r,hh,he=>⟨(he i fZ).trans hh.1,zqB hh.2 λj J=>he j fU⟩
def zmT {h} :∀ {hp:AHeap},inHp hp h->hup hp h=h
 | [],_=>rfl
 |(i,o)::r,hh=>by rw [hup,zmT hh.2,ziF hh.1]
def gop (cx:Cx) (tab:Tab) (owns:List FuncId) (nm:Nat) (s:AS) (G:Bool) (o:Oper) (R:Bool->AV->Ch->List Nat->Prop):Prop:=
 let other:=fop (atCx cx nm) tab s G o (λg v h'=>match chOf nm cx.P s o.op h' with|some (c,rd)=>R g v c rd|none=>False)
 match o.op with
 | .call c=>(match zbG cx.P s c with
  |some (f,args,vc)=>if owns.contains f=true then G=true/\vc/\AV.idsL args= []/\∃k rows,(∀fl,ACall cx.P f fl args [] (λr h'=>r= .osl fl k rows.length 0 rows.length/\h'= [(fl,.arr k rows)]))/\R true (.osl nm k rows.length 0 rows.length) (.new nm (.arr k rows)) []
   else if owns.contains (f+1000000)=true then G=true/\vc/\∃i jF ob J aZ,hget s.h i=some ob/\i<jF/\(∀j∈ob.ids,j=i)/\(∀j∈AV.idsL args,j=i)/\ACall cx.P f jF args [(i,ob)] (λr h'=>r=J/\h'= [(i,aZ)])/\R true J (.put i aZ) []
   else if owns.contains (f+3000000)=true then G=true/\vc/\AV.idsL args= []/\∃j k rows d,ACall cx.P f 0 args [] (λr h'=>r= .tup [.osl j k rows.length 0 rows.length,.d d]/\h'= [(j,.arr k rows)])/\R true (.tup [.osl nm k rows.length 0 rows.length,.d d]) (.new nm (.arr k rows)) []
   else if owns.contains (f+2000000)=true then G=true/\vc/\∃hp jF J,(hp.all λq=>decide (q.1<jF))=true/\inHp hp s.h/\inH hp (idsH hp)/\inH hp (AV.idsL args)/\ACall cx.P f jF args hp (λr h'=>r=J/\h'=hp)/\R true J .none (hp.map (·.1))
   else if owns.contains (f+4000000)=true then G=true/\vc/\∃i ob aZ hp jF J,(((i,ob)::hp).all λq=>decide (q.1<jF))=true/\inHp ((i,ob)::hp) s.h/\inH ((i,ob)::hp) (idsH ((i,ob)::hp))/\inH ((i,ob)::hp) (AV.idsL args)/\ACall cx.P f jF args ((i,ob)::hp) (λr h'=>r=J/\h'=(i,aZ)::hp)/\R true J (.put i aZ) (hp.map (·.1)) else other
  |none=>other)
 | .build _ _=>(match G with
  |true=>other
  |false=>R false .any .none [])
 |_=>other
def touch (a b:Option Nat×List Nat):Bool:=match a.1 with
 |none=>false
 |some i=>b.1==some i||b.2.contains i
def confG (all:Array Oper) (J fb:Option Nat×List Nat) (a b:Oper):Bool:=
 (match a.dst with
  |some d=>(zmO all b).contains d||b.dst==some d
  |none=>false)||
 (match b.dst with
  |some d=>(zmO all a).contains d
  |none=>false)||
 (touch J fb||touch fb J)
def zb8 (ops:Array Oper) (F:List (Option Nat×List Nat)):Bool:=
 (List.range ops.size).all λj=>match ops[j]? with
  |some b=>(b.after.toList.all λe=> !Region.binds .any e||decide (e.on<j))&&(List.range j).all λi=>match ops[i]? with
   |some a=> !confG ops (F.getD i (none,[])) (F.getD j (none,[])) a b||anc ops (j+1) j i
   |none=>true
  |none=>true
def zBI (ops:Array Oper) (k:Nat):Bool:=(List.range ops.size).all λj=>decide (j<k)||(List.range j).all λi=>anc ops (j+1) j i
def zBJ (op:Op):Bool:=match op with
 | .call c=>(match c.callee with| .builtin .copy=>true| .builtin .clear=>true|_=>false)
 | .mapUpdate _ _ _ _=>true
 | .box _ _=>true
 |_=>false
def isYop (P:Program) (s:AS) (op:Op):Bool:=match op with
 | .call c=>(match zhP P s c with|some _=>true|none=>false)
 |_=>false
def gops (cx:Cx) (tab:Tab) (owns:List FuncId) (all:Array Oper):Nat->List Oper->List (Option Nat×List Nat)->(AS->Prop)->AS->Prop
 |_,[],F,K,s=>zb8 all F.reverse=true/\K s
 | J,o::r,F,K,s=>match zbu s all o.guard with
  |some G=>if (isYop cx.P s o.op||r.isEmpty&&(owns.contains 0||zBJ o.op))=true then zb8 all F.reverse=true/\zBI all F.length=true/\aopsY cx tab all (o::r) K s
   else dstOk cx.nt o.dst/\hget s.h J=none/\gop cx tab owns J s G o (λg v c rd=>gops cx tab owns all (J+1) r ((c.at,rd)::F) K ({ s with h:=c.app s.h }.put o.dst g v))
  |none=>False
section
variable {cx : Cx} {tab : Tab} {owns : List FuncId} {ops : Array Oper} {s : AS}
structure GLoc (cx:Cx) (all:Array Oper) (s:AS) (r:RG):Prop where
 put:∀i ob,r.c= .put i ob->(hget s.h i).isSome
 new:∀i ob,r.c= .new i ob->hget s.h i=none
 step:∃G,zbu s all r.o.guard=some G/\∀s':AS,(∀x∈zbD r.o.op,s.ev x=s'.ev x/\known s x=known s' x)->zbu s' all r.o.guard=some G->zmR s.h r.c r.rd s'.h->
  ∀ (E:Env) (a:Act) (w:World) (K:AS->Prop) (Q:Exit->Act->World->Prop),Sat cx E s' a w->K ({ s' with h:=r.c.app s'.h }.put r.o.dst r.g r.v)->
   if Region.wanted r.o (yielded all a.tmps) then r.o.wpIn cx.F 0 cx.P a w (Reach cx E s'.h w K) Q else (∀f,r.o.about cx.P w a.eval=some f->cx.F.fn f)/\Reach cx E s'.h w K (a.put r.o.dst undef) w
def Shaped (J:Nat) (h':AHeap) (c:Ch):Prop:=(∀i ob,c= .put i ob->hget h' i=some ob)/\(∀i ob,c= .new i ob->i=J)
def zkj {J} {h'} :Shaped J h' .none:=by
 constructor
 .grind
 .grind
def zlO {J} {h'} {ob} :Shaped J h' (.new J ob):=by constructor;all_goals grind
def zt1 {J i} {h'} {ob} (h:hget h' i=some ob):Shaped J h' (.put i ob):=by constructor;all_goals grind
def zkk {nm} {h'} {c} {rd l:List Nat} (h:(hget h' nm).map (λob=>(Ch.new nm ob,l))=some (c,rd)):Shaped nm h' c:=by obtain ⟨ob,e1,J⟩:=bF.1 h;cases J;exact zlO
def zkl {nm i} {h'} {c} {rd l:List Nat} (h:(hget h' i).map (λob=>(Ch.put i ob,l))=some (c,rd)):Shaped nm h' c:=by obtain ⟨ob,J,e2⟩:=bF.1 h;cases e2;exact zt1 J
def zbv {J} {h'} {c} {rd l:List Nat} (h:some (Ch.none,l)=some (c,rd)):Shaped J h' c:=by cases h;exact zkj
def zzt {J} {P} {op} {h'} {c} {rd} (hc:chOf J P s op h'=some (c,rd)):Shaped J h' c:=by
 unfold chOf at hc;split at hc
 case h_1=>exact zkk hc
 case h_2=>
  split at hc
  .cases hc;exact zlO
  .cases hc;exact zkj
 case h_3=>exact zkk hc
 case h_4=>exact zbv hc
 case h_5=>exact zbv hc
 case h_6=>
  split at hc
  .exact zbv hc
  .grind
 case h_7=>exact zbv hc
 case h_8=>exact zbv hc
 case h_9=>
  split at hc
  .split at hc
   .split at hc
    .exact zkl hc
    .grind
   .grind
  .split at hc
   .exact zbv hc
   .grind
  .exact zbv hc
  .exact zbv hc
  .split at hc
   .exact zbv hc
   .grind
  .grind
 case h_10=>
  split at hc
  .exact zbv hc
  .split at hc
   .exact zkl hc
   .exact zbv hc
  .grind
def zCl (ht:TabOk cx.P tab) {nm} {G} {o} {R} (hG:zbu s ops o.guard=some G) (hd:dstOk cx.nt o.dst) (nZ:hget s.h nm=none) (hl:cx.fl<=nm) (h:gop cx tab owns nm s G o R):
  ∃g v c rd,R g v c rd/\GLoc cx ops s ⟨o,g,v,c,rd⟩:=by
 have other:fop (atCx cx nm) tab s G o (λg v h'=>match chOf nm cx.P s o.op h' with|some (c,rd)=>R g v c rd|none=>False)->∃g v c rd,R g v c rd/\GLoc cx ops s ⟨o,g,v,c,rd⟩:=by
  intro h;obtain ⟨g,v,h',h1,h2,h3⟩:=zCj h;split at h1
  .rename_i c rd hc;obtain ⟨q1,q2⟩:=zzs nZ h2 h3 hc;obtain ⟨p1,p2⟩:=zzt hc;refine ⟨g,v,c,rd,h1,λi ob e=>?_,λi ob e=>?_,G,hG,?_⟩
   .have hi:=p1 i ob e;have e:c= .put i ob:=e;rw [q1,e] at hi;cases hh:hget s.h i with
    |none=>simp only [Ch.app] at hi;rw [zh8 hh,hh] at hi;cases hi
    |some o=>rfl
   .grind
   .intro s' J ab lN E a w K Q hs hK
    have hf:fop (atCx cx nm) tab s' G o (λg v h'=>K ({ s' with h:=h' }.put o.dst g v)):=by
     refine fop_e (s:= { s with h:=s'.h }) (λx hx=>?_) rfl fU;have e1:AS.ev { s with h:=s'.h } x=s.ev x:=lK;have e2:known { s with h:=s'.h } x=known s x:=lK
     grind
    have hw:=zhO (cx:=atCx cx nm) ht (Q:=λ_ _ _=>False) (E:=E) hs.at ab (zzk (K:=K) hd hf);split at hw
    .rename_i uU;rw [aa uU];exact za4 hw (λa w hr=>hr.un hl)
    .rename_i uU;rw [U uU];exact ⟨hw.1,hw.2.un hl⟩
  .grind
 unfold gop at h;split at h
 .rename_i c an;split at h
  .rename_i f args vc b9;split at h
   .obtain ⟨rfl,jb,gL,k,rows,jm,hR⟩:=h;refine' C5;refine ⟨jb,(zBH (ds:= []) (jm 0) gL lN.2 hl).mono ?_⟩;rintro r' h' ⟨rfl,rfl⟩;exact hK
   split at h
   .obtain ⟨rfl,jb,i,jF,ob,r0,aZ,pe,iX,c6,ha,jm,hR⟩:=h;refine' C5;refine ⟨jb,(zcq jm iX (lN.2.trans pe) c6 ha).mono ?_⟩;rintro r' h' ⟨rfl,rfl⟩;exact hK
   split at h
   .obtain ⟨rfl,jb,gL,j,k,rows,d,jm,hR⟩:=h;refine' C5;refine ⟨jb,(zBH (ds:= [d]) jm gL lN.2 hl).mono ?_⟩;rintro r' h' ⟨rfl,rfl⟩;exact hK
   split at h
   .obtain ⟨rfl,jb,hp,jF,r0,iX,pe,c6,ha,jm,hR⟩:=h;refine' C5;have q7:=zqB pe lN.1;refine ⟨jb,(zcU jm iX q7 c6 ha rfl).mono ?_⟩;rintro r' h' ⟨rfl,rfl⟩;rw [zmT q7];exact hK
   split at h
   .obtain ⟨rfl,jb,i,ob,aZ,hp,jF,r0,iX,pe,c6,ha,jm,hR⟩:=h;refine ⟨true,_,_,_,hR,(by intro j o2 e;cases e;simp [pe.1]),fU,true,hG,?_⟩;intro s' J ab lN E a w K Q hs hK;rw [an] at J;have lp:¬isVal cx.P (.call c)=true:=mI;have mi:zbG cx.P s' c=some (f,args,vc):=by rw [<-zhd (λx hx=>(J x hx).1)];exact b9
    rw [zdt hs.slots ab];refine zhN hs hd ?_;unfold aop1;rw [an];simp only [U lp,mi];have q7:=zqB pe.2 lN.1;refine ⟨jb,(zcU jm iX ⟨lN.2.trans pe.1,q7⟩ c6 ha rfl).mono ?_⟩;rintro r' h' ⟨rfl,rfl⟩;rw [hup,zmT q7];exact hK
   .grind
  .grind
 .cases G with
  |true=>exact other h
  |false=>
   refine ⟨false,.any,.none,[],h,(by intro i ob e;cases e),(by intro i ob e;cases e),false,hG,?_⟩;intro s' J ab lN E a w K Q hs hK;rw [zdt hs.slots ab];exact ⟨λ_ _=>trivial,E,_,hK,hs.put (λk e=>kQ) (λe=>gN) (λ_=>rfl),lT⟩
 .grind
def OutsG (cx:Cx) (all:Array Oper) (L:List RG) (s:AS):Prop:=∀ (i:Nat) (r:RG),L[i]?=some r->GLoc cx all (lexG L i s) r
def endG (cx:Cx) (tab:Tab) (ops:Array Oper) (L:List RG) (K:AS->Prop) (s:AS) (T:List Oper):Prop:=
 (∀j,L.length<=j->j<ops.size->∀i,i<j->anc ops (j+1) j i=true)/\aopsY cx tab ops T K s
def zow (J:TabOk cx.P tab):∀ (l:List Oper) (nm:Nat) (F:List RG) {K:AS->Prop} {s:AS},F.length+l.length=ops.size->cx.fl<=nm->gops cx tab owns ops nm l (F.map (λr=>(r.c.at,r.rd))).reverse K s->
  ∃ (L:List RG) (T:List Oper),L.map (·.o)++T=l/\zb8 ops ((F++L).map (λr=>(r.c.at,r.rd)))=true/\endG cx tab ops (F++L) K (lexG L L.length s) T/\OutsG cx ops L s
 | [],nm,F,K,s,gd,_,h=>⟨[],[],rfl,by simpa using h.1,⟨λj h1 h2=>fU,h.2⟩,λi r hr=>fU⟩
 | o::l,nm,F,K,s,gd,hl,h=>by
  simp only [gops] at h;split at h
  .rename_i G hG;split at h
   .obtain ⟨h1,h2,h3⟩:=h;refine ⟨[],o::l,rfl,fU,⟨λj hj pW i hi=>?_,by rw [show ([]:List RG).length=0 from rfl,zfE];omega⟩,λi r hr=>fU⟩;have h4:=bw.1 h2 j fU
    grind
   obtain ⟨hd,nZ,h⟩:=h;obtain ⟨g,v,c,rd,h1,h2⟩:=zCl J hG hd nZ hl h;obtain ⟨L,T,q1,q2,q3,q4⟩:=zow J l (nm+1) (F++ [⟨o,g,v,c,rd⟩]) fU fT sv;rw [aY,dv] at q2 q3;refine ⟨⟨o,g,v,c,rd⟩::L,T,fU,q2,by rw [aC,zgJ];exact q3,λi r hr=>?_⟩;cases i with
   |zero=>
    have:RG.mk o g v c rd=r:=fU;subst this;rw [zfE];omega
   |succ i=>
    rw [zgJ];exact q4 i r fU
  .grind
def zsG {F} (J:zb8 ops F=true) {i j} {a b} (py:i<j) (ha:ops[i]?=some a) (hb:ops[j]?=some b) (hc:confG ops (F.getD i (none,[])) (F.getD j (none,[])) a b=true):anc ops (j+1) j i=true:=by grind [zb8,confG,anc]
def zsH {F} (J:zb8 ops F=true) {j} {b} (hb:ops[j]?=some b):∀e∈b.after.toList,Region.binds .any e=true->e.on<j:=by grind [zb8,Region.binds]
def zkm {F} {listed} (hd:zb8 ops F=true) (hsz:listed.size=ops.size) (hr:Region.ready .any ops listed= []):∀i,i<ops.size→listed.getD i false=true:=by
 intro i
 induction i using Nat.strongRecOn with
 | _ i ih=>
  intro hi
  cases hl:listed.getD i false with
  |true=>rfl
  | false=>
   have hmem:i∈Region.ready .any ops listed:=by
    refine cX.2 ⟨?_,ops[i],fU,fun e he hb=>?_⟩
    ·grind
    ·have:=zsH hd (j:=i) (b:=ops[i]) fU e fU hb
     grind
   grind
def zmU {a b} {k} (J:a.1=some k) (hb:b.1=some k\/k∈b.2):touch a b=true:=by grind [touch]
def zox (ht:TabOk cx.P tab) {F} (hd:zb8 ops F=true) {n} (hanc:∀j,n≤j→j<ops.size→∀i,i<j→anc ops (j+1) j i=true) {E0} {h0} {w0} {K} :
  ∀ (T:List Oper) (k fuel:Nat) (listed:Array Bool) {s:AS} {E:Env} {a:Act} {w:World},n≤k→ops.toList.drop k=T→k≤ops.size→listed.size=ops.size→(∀i,i<ops.size→listed.getD i false=decide (i<k))→listed.toList.countP (fun b=>b==false)=fuel→
   Sat cx E s a w→Evo cx.fl E0 h0 w0 E s.h w→aopsY cx tab ops T K s→wpAnyIn cx.F 0 cx.P .any ops (fun e a' w'=>e= .normal∧Reach cx E0 h0 w0 K a' w') fuel listed a w
 | [],k,fuel,listed,s,E,a,w,hnk,hT,hk,hsz,hli,hc,hs,he,h=>by
  have hks:k=ops.size:=by
   have:=congrArg List.length hT
   grind
  have hr:Region.ready .any ops listed= []:=by
   cases hr:Region.ready .any ops listed with
   |nil=>rfl
   |cons i l=>
    have hi:i∈Region.ready .any ops listed:=fU
    obtain ⟨h1,o,h2,_⟩:=cX.1 hi
    grind
  have hf0:fuel=0:=by
   rw [← hc,eK]
   intro b hb
   obtain ⟨q,hq,rfl⟩:=List.getElem_of_mem hb
   have hq':q<ops.size:=fU
   simp_all
  subst hf0
  exact ⟨hr,rfl,E,s,h,hs,he⟩
 | o::T,k,0,listed,s,E,a,w,hnk,hT,hk,hsz,hli,hc,hs,he,h=>by
  have hks:k<ops.size:=by
   have:=congrArg List.length hT
   grind
  have h0:=eK.1 hc (listed[k]' fT) fZ
  simp_all
 | o ::T,k,fuel+1,listed,s,E,a,w,hnk,hT,hk,hsz,hli,hc,hs,he,h=>by
  have hks:k<ops.size:=by
   have:=congrArg List.length hT
   grind
  have hok:ops[k]?=some o:=by
   have:=congrArg (fun l:List Oper=>l[0]?) hT
   grind
  have hT':ops.toList.drop (k+1)=T:=by
   have:=congrArg (List.drop 1) hT
   simpa using this
  have hcl:∀ (i:Nat) o,ops[i]?=some o→listed.getD i false=true→∀e∈o.after.toList,Region.binds .any e=true→listed.getD e.on false=true:=fun i o hi hl e he hb=>by
   have hlt:i<ops.size:=(aI.1 hi).1
   rw [hli i hlt] at hl
   have h2:=zsH hd hi e he hb
   grind
  refine ⟨fun hr=>?_,fun i hi=>?_⟩
  ·have:=zkm hd hsz hr k hks
   grind
  obtain ⟨hun,o',hoi,hdep⟩:=cX.1 hi
  have hlt:i<ops.size:=(aI.1 hoi).1
  have hdep':∀o'',ops[i]?=some o''→∀e∈o''.after.toList,Region.binds .any e=true→listed.getD e.on false=true:=fun o'' ho' e he' hb=>fU
  have hun':listed[i]?=some false:=ig
  have hki:k≤i:=fU
  have hik:i=k:=by
   rcases Nat.eq_or_lt_of_le hki with h1|h1
   ·grind
   ·have:=zfD (S:=fun i=>listed.getD i false) hcl _ i k (hanc i fT hlt k h1) hdep'
    grind
  subst hik
  rw [hok] at hoi
  simp only [aopsY] at h
  split at h
  ·rename_i G hG
   have hw:=zkc (Q:=fun _ _ _=>False) ht hs hG h
   have next:∀a1 w1,Reach cx E s.h w (aopsY cx tab ops T K) a1 w1→wpAnyIn cx.F 0 cx.P .any ops (fun e a' w'=>e= .normal∧Reach cx E0 h0 w0 K a' w') fuel (listed.setIfInBounds i true) a1 w1:=by
    rintro a1 w1 ⟨E1,s1,hk1,hs2,he2⟩
    refine zox ht hd hanc T (i+1) fuel (listed.setIfInBounds i true) fT hT' fT fU (fun q hq=>?_) fU hs2 (he.trans he2) hk1
    ·rw [zsB listed i q fT]
     grind
   unfold wpOpIn
   rw [hok]
   dsimp only
   split at hw
   ·rename_i hwt
    rw [aa hwt]
    exact za4 hw next
   grind
  ·grind
def zwu (ht:TabOk cx.P tab) {L} {T} (hd:zb8 ops (L.map (fun r=>(r.c.at,r.rd)))=true) (hL:L.map (·.o)++T=ops.toList) {s0} (ho:OutsG cx ops L s0) {E0} {w0} {K} (hK:endG cx tab ops L K (lexG L L.length s0) T):
  ∀ (fuel:Nat) (listed:Array Bool) (E:Env) (a:Act) (w:World),listed.size=ops.size→listed.toList.countP (fun b=>b==false)=fuel→
   (∀ (i:Nat) o,ops[i]?=some o→listed.getD i false=true→∀e∈o.after.toList,Region.binds .any e=true→listed.getD e.on false=true)→(∀j,L.length≤j→listed.getD j false=false)→
   Sat cx E (selG L (fun i=>listed.getD i false) s0) a w→Evo cx.fl E0 s0.h w0 E (selG L (fun i=>listed.getD i false) s0).h w→
   wpAnyIn cx.F 0 cx.P .any ops (fun e a' w'=>e= .normal∧Reach cx E0 s0.h w0 K a' w') fuel listed a w:=by
 have hlen:L.length+T.length=ops.size:=by
  have:=congrArg List.length hL
  grind
 have hget:∀ (l:Nat) (r:RG),L[l]?=some r→ops[l]?=some r.o:=fun l r hr=>by
  have:=congrArg (fun x:List Oper=>x[l]?) hL
  grind
 have hfoot:∀ (l:Nat) (r:RG),L[l]?=some r→(L.map (fun r=>(r.c.at,r.rd))).getD l (none,[])=(r.c.at,r.rd):=fun l r hr=>fU
 have full:∀ (listed:Array Bool) (E:Env) (a:Act) (w:World),(∀i,i<L.length→listed.getD i false=true)→Sat cx E (selG L (fun i=>listed.getD i false) s0) a w→Evo cx.fl E0 s0.h w0 E (selG L (fun i=>listed.getD i false) s0).h w→
   Sat cx E (lexG L L.length s0) a w∧Evo cx.fl E0 s0.h w0 E (lexG L L.length s0).h w:=by
  intro listed E a w hall hs he
  have hSS:∀ (i:Nat) (r:RG),L[i]?=some r→listed.getD i false=decide (i<L.length):=fun i r hr=>fU
  have hh:∀k,Go.Aw.hget (selG L (fun i=>listed.getD i false) s0).h k=Go.Aw.hget (lexG L L.length s0).h k:=fun k=>zia k L _ _ _ _ rfl fU
  refine ⟨hs.ext (fun k=>zki (Q:=fun _=>True) L _ _ _ _ fU fU k trivial) hh ?_,he.ext hh⟩
  unfold lexG
  rw [zot,zot]
 have tail:∀ (fuel:Nat) (listed:Array Bool) (E:Env) (a:Act) (w:World),listed.size=ops.size→listed.toList.countP (fun b=>b==false)=fuel→(∀i,i<L.length→listed.getD i false=true)→(∀j,L.length≤j→listed.getD j false=false)→Sat cx E (selG L (fun i=>listed.getD i false) s0) a w→Evo cx.fl E0 s0.h w0 E (selG L (fun i=>listed.getD i false) s0).h w→
   wpAnyIn cx.F 0 cx.P .any ops (fun e a' w'=>e= .normal∧Reach cx E0 s0.h w0 K a' w') fuel listed a w:=by
  intro fuel listed E a w hsz hc hall hT hs he
  obtain ⟨h1,h2⟩:=full listed E a w hall hs he
  refine zox ht hd hK.1 T L.length fuel listed fU fU fT hsz (fun i hi=>?_) hc h1 h2 hK.2
  grind
 intro fuel
 induction fuel with
 |zero=>
  intro listed E a w hsz hc hcl hT hs he
  refine tail 0 listed E a w hsz hc (fun i hi=>?_) hT hs he
  have h0:=eK.1 hc (listed[i]' fT) fZ
  rw [fq,Array.getElem?_eq_getElem fT]
  grind
 | succ fuel ih=>
  intro listed E a w hsz hc hcl hT hs he
  by_cases hall:∀i,i<L.length→listed.getD i false=true
  ·grind
  refine ⟨fun hr=>absurd (fun i hi=>zkm hd hsz hr i fT) hall,fun i hi=>?_⟩
  obtain ⟨hun,o,hoi,hdep⟩:=cX.1 hi
  have hlt:i<ops.size:=(aI.1 hoi).1
  have hun':listed[i]?=some false:=ig
  have hSi:listed.getD i false=false:=fU
  have hdep':∀o',ops[i]?=some o'→∀e∈o'.after.toList,Region.binds .any e=true→listed.getD e.on false=true:=fun o' ho' e he' hb=>fU
  have hiL:i<L.length:=by
   rcases aO i L.length with h1|h1
   ·grind
   ·exact absurd (fun l hl=>zfD (S:=fun i=>listed.getD i false) hcl _ i l (hK.1 i h1 hlt l fT) hdep') hall
  obtain ⟨r,hr⟩:∃r,L[i]?=some r:=⟨_,bk hiL⟩
  have hro:r.o=o:=fU
  subst hro
  obtain ⟨hput,hnew,G,hG,hstep⟩:=ho i r hr
  have before:∀ (l:Nat) (r':RG),L[l]?=some r'→l<i→confG ops (r'.c.at,r'.rd) (r.c.at,r.rd) r'.o r.o=true→listed.getD l false=true:=fun l r' hr' hl hcf=>
   zfD (S:=fun i=>listed.getD i false) hcl _ i l (zsG hd hl (hget l r' hr') hoi fU) hdep'
  have behind:∀ (l:Nat) (r':RG),L[l]?=some r'→i<l→confG ops (r.c.at,r.rd) (r'.c.at,r'.rd) r.o r'.o=true→listed.getD l false=false:=fun l r' hr' hl hcf=>by
   cases hSl:listed.getD l false with
   |false=>rfl
   |true=>
    have:=zfD (S:=fun i=>listed.getD i false) hcl _ l i (zsG hd hl hoi (hget l r' hr') fU) (fun o' ho'=>hcl l o' ho' hSl)
    grind
  have agree:∀ (l:Nat) (r':RG),L[l]?=some r'→(l<i→confG ops (r'.c.at,r'.rd) (r.c.at,r.rd) r'.o r.o=true)→(i<l→confG ops (r.c.at,r.rd) (r'.c.at,r'.rd) r.o r'.o=true)→listed.getD l false=decide (l<i):=fun l r' hr' h1 h2=>by
   rcases fu l i with h|h|h
   ·grind
   ·grind
   ·grind
  have hslots:∀k,k∈zmO ops r.o→lk (selG L (fun i=>listed.getD i false) s0).t k=lk (lexG L i s0).t k:=
   zki (Q:=fun k=>k∈zmO ops r.o) L _ _ _ _ fZ (fun l r' hr' ⟨d,hd1,hd2⟩=>agree l r' hr'
    (fun _=>rP)
    (fun _=>rP))
  have hev:=zzo (s:=lexG L i s0) (s':=selG L (fun i=>listed.getD i false) s0) (l:=zbD r.o.op) (fun k hk=>(hslots k (List.mem_append_left _ hk)).symm)
  have hgd:zbu (selG L (fun i=>listed.getD i false) s0) ops r.o.guard=some G:=by
   rw [← hG]
   exact zqy (fun k hk=>hslots k (fv _ hk))
  have hname:∀k,r.c.at=some k∨k∈r.rd→Go.Aw.hget (selG L (fun i=>listed.getD i false) s0).h k=Go.Aw.hget (lexG L i s0).h k:=fun k hk=>
   zia k L _ _ _ _ rfl (fun l r' hr' hm=>agree l r' hr'
    (fun _=>by
     have:=zmU (a:=(r'.c.at,r'.rd)) (b:=(r.c.at,r.rd)) hm hk
     unfold confG;grind)
    (fun _=>by
     have:=zmU (a:=(r'.c.at,r'.rd)) (b:=(r.c.at,r.rd)) hm hk
     unfold confG;grind))
  have hgood:zmR (lexG L i s0).h r.c r.rd (selG L (fun i=>listed.getD i false) s0).h:=by
   refine ⟨fun k hk=>hname k (.inr hk),?_⟩
   cases hcc:r.c with
   |none=>trivial
   |put k ob=>exact hname k (.inl (by rw [hcc];rfl))
   |new k ob=>exact (hname k (.inl (by rw [hcc];rfl))).trans (hnew k ob hcc)
  have hw:=hstep (selG L (fun i=>listed.getD i false) s0) hev hgd hgood E a w (fun t=>t=({ selG L (fun i=>listed.getD i false) s0 with h:=r.c.app (selG L (fun i=>listed.getD i false) s0).h } :AS).put r.o.dst r.g r.v) (fun _ _ _=>False) hs rfl
  have next:∀a1 w1,Reach cx E (selG L (fun i=>listed.getD i false) s0).h w (fun t=>t=({ selG L (fun i=>listed.getD i false) s0 with h:=r.c.app (selG L (fun i=>listed.getD i false) s0).h } :AS).put r.o.dst r.g r.v) a1 w1→
    wpAnyIn cx.F 0 cx.P .any ops (fun e a' w'=>e= .normal∧Reach cx E0 s0.h w0 K a' w') fuel (listed.setIfInBounds i true) a1 w1:=by
   rintro a1 w1 ⟨E1,s1,rfl,hs1,he1⟩
   have hS':∀k,(listed.setIfInBounds i true).getD k false=if k=i then true else listed.getD k false:=fun k=>zsB listed i k fT
   have hfun:(fun k=>(listed.setIfInBounds i true).getD k false)=fun k=>if k=i then true else listed.getD k false:=funext hS'
   have hputh:(({ selG L (fun i=>listed.getD i false) s0 with h:=r.c.app (selG L (fun i=>listed.getD i false) s0).h } :AS).put r.o.dst r.g r.v).h=r.c.app (selG L (fun i=>listed.getD i false) s0).h:=by unfold AS.put;cases r.o.dst<;>rfl
   have hputg:(({ selG L (fun i=>listed.getD i false) s0 with h:=r.c.app (selG L (fun i=>listed.getD i false) s0).h } :AS).put r.o.dst r.g r.v).g=(selG L (fun i=>listed.getD i false) s0).g:=by unfold AS.put;cases r.o.dst<;>rfl
   have agree':∀ (l:Nat) (r':RG),L[l]?=some r'→(l<i→confG ops (r'.c.at,r'.rd) (r.c.at,r.rd) r'.o r.o=true)→(i<l→confG ops (r.c.at,r.rd) (r'.c.at,r'.rd) r.o r'.o=true)→(listed.setIfInBounds i true).getD l false=decide (l<i+1):=fun l r' hr' h1 h2=>by
    rw [hS']
    rcases fu l i with h|h|h
    ·rw [U fT,before l r' hr' h (h1 h),af fT]
    ·grind
    ·rw [U fT,behind l r' hr' h (h2 h),ag fT]
   have hlk':∀k,lk (({ selG L (fun i=>listed.getD i false) s0 with h:=r.c.app (selG L (fun i=>listed.getD i false) s0).h } :AS).put r.o.dst r.g r.v).t k=lk (selG L (fun k=>(listed.setIfInBounds i true).getD k false) s0).t k:=by
    intro k
    rw [zwq]
    split
    ·rename_i hk
     have e1:lk (selG L (fun k=>(listed.setIfInBounds i true).getD k false) s0).t k=lk (lexG L (i+1) s0).t k:=
      zki (Q:=fun j=>j=k) L _ _ _ _ fZ (fun l r' hr' ⟨d,hd1,hd2⟩=>agree' l r' hr'
       (fun _=>rP)
       (fun _=>rP)) k rfl
     rw [e1,zou L i s0 r hr,zmS,aa hk]
    ·rename_i hk
     refine zki (Q:=fun j=>j=k) L _ _ _ _ fZ (fun l r' hr' ⟨d,hd1,hd2⟩=>?_) k rfl
     rw [hS',U]
     grind
   have hheap:∀k,Go.Aw.hget (({ selG L (fun i=>listed.getD i false) s0 with h:=r.c.app (selG L (fun i=>listed.getD i false) s0).h } :AS).put r.o.dst r.g r.v).h k=Go.Aw.hget (selG L (fun k=>(listed.setIfInBounds i true).getD k false) s0).h k:=by
    intro k
    rw [hputh,hfun]
    refine (zwt k L i r (fun i=>listed.getD i false) s0 hr hSi (fun l r' hr' hl hsl hk hk'=>?_)).symm
    have:=behind l r' hr' hl (by
     have:=zmU (a:=(r.c.at,r.rd)) (b:=(r'.c.at,r'.rd)) hk (.inl hk')
     unfold confG;grind)
    grind
   refine ih (listed.setIfInBounds i true) E1 a1 w1 fU (zkd listed i fuel hun' hc) ?_ (fun j hj=>by rw [hS',U fT];grind) (hs1.ext hlk' hheap (by rw [hputg,zot,zot])) ?_
   ·intro l o' ho' hSl e he' hb
    rw [hS'] at hSl ⊢
    split
    ·rfl
    ·split at hSl
     ·grind
     ·grind
   ·exact (he.trans he1).ext hheap
  unfold wpOpIn
  rw [hoi]
  dsimp only
  split at hw
  ·rename_i hwt
   rw [aa hwt]
   exact za4 hw next
  ·grind
def zcu {id} {Q} tab owns (J:TabOk cx.P tab) (hm:cx.P.follows .mixedOrders=true) (h:gops cx tab owns ops (top cx.fl s.h) ops.toList [] (Q .normal) s):AW cx (.region id ops true) Q s:=by
 intro E a w hs;obtain ⟨L,T,hL,hd,hK,ho⟩:=zow J ops.toList _ [] fZ (zh3 _ _) h;have ga:=hs.drawn;have aZ:Evo cx.fl E s.h w E s.h { w with drawn:=w.drawn+1 } :=⟨rfl,rfl,rfl,fU,λ_ _ _ _=>rfl,λ_ h=> .inl h,λ_ h=>h,λ_ h=> .inl h,rfl,λi _ h=>⟨h,GoesOn.refl E _ i⟩⟩
 have h0:∀i,(Array.replicate ops.size false).getD i false=false:=λi=>by
  rw [fq,Array.getElem?_replicate]
  grind
 have hsel:selG L (λi=>(Array.replicate ops.size false).getD i false) s=s:=by
  have:(λi=>(Array.replicate ops.size false).getD i false)=λi=>decide (i<0):=by
   grind
  rw [this];exact zfE L s
 refine aT (wpIn_region_any hm (zwu J fU hL ho hK ops.size (Array.replicate ops.size false) E a _ fZ Bk fU fU fU (by rw [hsel];omega))) ?_
 grind
def zb9 {id} {y} {Q} tab owns (J:TabOk cx.P tab) (hm:cx.P.follows .mixedOrders=true) (h:∀K,(∀s',AW cx y Q s'->K s')->gops cx tab owns ops (top cx.fl s.h) ops.toList [] K s):AW cx (.seq (.region id ops true) y) Q s:=
 zaC λK hK=>zcu tab owns J hm (h K hK)
end
attribute [go_sem] hup gops zBJ isYop gop chOf Ch.app Ch.at atCx isEff List.contains_cons List.contains_nil Option.map_some List.isEmpty_cons List.isEmpty_nil
attribute [go_sem] foot footA footL List.reverse_cons List.reverse_nil
open Go
def rdy (L:List Bool) (o:Oper):Bool:=o.after.toList.all λe=> !Region.binds .any e||L.getD e.on false
def zmV (f:Nat->Oper->Prop) (L:List Bool):Nat->List Oper->Prop
 |_,[]=>True
 |i,o::r=>(if (!(L.getD i false)&&rdy L o)=true then f i o else True)/\zmV f L (i+1) r
def anyR (L:List Bool):Nat->List Oper->Bool
 |_,[]=>false
 |i,o::r=>(!(L.getD i false)&&rdy L o)||anyR L (i+1) r
abbrev Hot:=FuncId->List AV->AHeap->Option (AV×AHeap)
def HotOk (P:Program) (fl:Nat) (hot:Hot):Prop:=∀f args h r h',hot f args h=some (r,h')->∀K:AV->AHeap->Prop,K r h'->ACallAt P fl f args h K
def noHot:Hot:=λ_ _ _=>none
def zzu P fl:HotOk P fl noHot:=λ_ _ _ _ _ h=>gS
open Classical in
def hotOf (hot:Hot) (f:FuncId) (args:List AV) (h:AHeap) (r:AV) (h':AHeap):Hot:=λJ args' h1=>if ((J:Nat)==(f:Nat))=true then (if args'=args/\h1=h then some (r,h') else none) else hot J args' h1
def zzv {P} {fl} {hot} (J:HotOk P fl hot) {f} {args} {h} {r} {h'} (hc:∀K:AV->AHeap->Prop,K r h'->ACallAt P fl f args h K):HotOk P fl (hotOf hot f args h r h'):=by
 intro f1 C7 h1 r1 mc he K hK;unfold hotOf at he;split at he
 .rename_i hq;have hq:f1=f:=fU
  grind
 .exact J _ _ _ _ _ he K hK
def aopH (cx:Cx) (tab:Tab) (hot:Hot) (G:Bool) (o:Oper) (K:AS->Prop) (s:AS):Prop:=
 match o.op with
 | .call c=>(match zbG cx.P s c with
  |some (f,args,J)=>(match hot f args s.h with
   |some (r,h2)=>isVal cx.P (.call c)=false/\G=true/\dstOk cx.nt o.dst/\J/\K ({ s with h:=h2 }.put o.dst true r)
   |none=>aopY cx tab G o K s)
  |none=>aopY cx tab G o K s)
 |_=>aopY cx tab G o K s
def linY (cx:Cx) (tab:Tab) (hot:Hot) (all:Array Oper) (uV:List Oper) (K:AS->Prop):Nat->List Bool->AS->Prop
 |0,_,s=>K s
 | n+1,L,s=>anyR L 0 uV=true/\zmV (λi o=>match zbu s all o.guard with
   |some G=>aopH cx tab hot G o (linY cx tab hot all uV K n (L.set i true)) s
   |none=>False) L 0 uV
section
variable {cx : Cx} {tab : Tab} {hot : Hot} {ops : Array Oper} {K : AS -> Prop}
def zCm (ht:TabOk cx.P tab) (hh:HotOk cx.P cx.fl hot) {E} {s} {a} {w} {all} {o} {G} {K} {Q} (J:Sat cx E s a w) (hg:zbu s all o.guard=some G) (h:aopH cx tab hot G o K s):
  if Region.wanted o (yielded all a.tmps) then o.wpIn cx.F 0 cx.P a w (Reach cx E s.h w K) Q else (∀f,o.about cx.P w a.eval=some f->cx.F.fn f)/\Reach cx E s.h w K (a.put o.dst undef) w:=by
 unfold aopH at h;split at h
 .rename_i c an;split at h
  .rename_i f args vc b9;split at h
   .rename_i r h2 Bc;obtain ⟨h1,rfl,h3,h4,h5⟩:=h;refine zlG J hg ⟨h3,?_⟩;rw [an];dsimp only;rw [U fU];refine ⟨λ_=>?_,λe=>gN⟩;unfold aop1;rw [an];dsimp only;rw [U fU,b9];exact ⟨h4,hh _ _ _ _ _ Bc _ h5⟩
   .exact zkc ht J hg h
  .exact zkc ht J hg h
 .exact zkc ht J hg h
def zjj {F} {n} {P} {md} {Q Q'} (J:∀a w,Q .normal a w->Q' .normal a w) (hf:∀i K a w,wpOpIn F n P ops Q i K a w->wpOpIn F n P ops Q' i K a w):∀ (fuel:Nat) (sx:Array Bool) (a:Act) (w:World),wpAnyIn F n P md ops Q fuel sx a w->wpAnyIn F n P md ops Q' fuel sx a w
 |0,sx,a,w,h=>⟨h.1,J _ _ h.2⟩
 |fuel+1,sx,a,w,h=>⟨λhr=>J _ _ (h.1 hr),λi hi=>hf _ _ _ _ (wpOpIn_mono (λa w=>zjj J hf fuel _ a w) (h.2 i hi))⟩
def zt2 {f} {L} l:∀ (k i:Nat) (o:Oper),zmV f L k l->l[i]?=some o->L.getD (k+i) false=false->rdy L o=true->f (k+i) o:=by
 induction l with
 |nil=>grind
 | cons x r ih=>
  intro k i o h hi h1 h2;cases i with
  | zero=>
   simp only [eC,aB] at hi;subst hi;have J:=h.1
   grind
  |succ i=>
   have kA:r[i]?=some o:=fU;have:=ih (k+1) i o h.2 kA fU h2
   grind
def zwv {L} :∀ (l:List Oper) (k:Nat),anyR L k l=true->∃i o,l[i]?=some o/\L.getD (k+i) false=false/\rdy L o=true
 | [],k,h=>gS
 | x::r,k,h=>by
  simp only [anyR,aH,aq,bI] at h;rcases h with ⟨h1,h2⟩|h
  .exact ⟨0,x,rfl,h1,h2⟩
  .obtain ⟨i,o,h1,h2,J⟩:=zwv r (k+1) h;exact ⟨i+1,o,fU,fU,J⟩
def zf2 (l:Array Bool) i d:l.toList.getD i d=l.getD i d:=by
 simp_all
def zww (ht:TabOk cx.P tab) (hh:HotOk cx.P cx.fl hot):∀ (n:Nat) (listed:Array Bool) {s:AS} {E:Env} {a:Act} {w:World},listed.size=ops.size→listed.toList.countP (fun b=>b==false)=n→Sat cx E s a w→linY cx tab hot ops ops.toList K n listed.toList s→
  wpAnyIn cx.F 0 cx.P .any ops (fun e a' w'=>e= .normal∧Reach cx E s.h w K a' w') n listed a w
 | 0,listed,s,E,a,w,hsz,hc,hs,h=>by
  refine ⟨?_,rfl,zhK hs h⟩
  cases hr:Region.ready .any ops listed with
  |nil=>rfl
  |cons i l=>
   have hi:i∈Region.ready .any ops listed:=fU
   obtain ⟨h1,o,h2,_⟩:=cX.1 hi
   have hlt:i<ops.size:=(aI.1 h2).1
   have h0:=eK.1 hc (listed[i]' fT) fZ
   simp_all
 | n + 1,listed,s,E,a,w,hsz,hc,hs,h=>by
  obtain ⟨hany,halt⟩:=h
  refine ⟨fun hr=>?_,fun i hi=>?_⟩
  ·exfalso
   obtain ⟨i,o,h1,h2,h3⟩:=zwv _ _ hany
   rw [bL,zf2] at h2
   have hlt:i<ops.size:=(aI.1 sv).1
   have:i∈Region.ready .any ops listed:=cX.2 ⟨by
    grind,o,fU,fun e he hb=>by
    have:=bw.1 h3 e fU
    simp_all⟩
   grind
  ·obtain ⟨h1,o,h2,h3⟩:=cX.1 hi
   have hlt:i<ops.size:=(aI.1 h2).1
   have hl:listed[i]?=some false:=by
    simp_all
   have hst:=zt2 ops.toList 0 i o halt fU fU (by
    unfold rdy
    refine bw.2 fun e he=>?_
    rw [zf2]
    grind)
   rw [bL] at hst
   split at hst
   ·rename_i G hg
    have hcnt:(listed.setIfInBounds i true).toList.countP (fun b=>b==false)=n:=fU
    have hlist:(listed.setIfInBounds i true).toList=listed.toList.set i true:=fU
    have:=zCm ht hh (Q:=fun _ _ _=>False) hs hg hst
    have next:∀a1 w1,Reach cx E s.h w (linY cx tab hot ops ops.toList K n (listed.toList.set i true)) a1 w1→
      wpAnyIn cx.F 0 cx.P .any ops (fun e a' w'=>e= .normal∧Reach cx E s.h w K a' w') n (listed.setIfInBounds i true) a1 w1:=by
     rintro a1 w1 ⟨E1,s1,hk,hs1,he1⟩
     rw [← hlist] at hk
     have ih:=zww ht hh n (listed.setIfInBounds i true) fU hcnt hs1 hk
     refine zjj (fun a w h=>⟨rfl,h.2.trans he1⟩) (fun i K a w h=>?_) _ _ _ _ ih
     unfold wpOpIn at h ⊢
     split at h
     ·exact h
     ·split at h
      ·rename_i hw
       rw [aa hw]
       exact zj6 h fU (fun e a w h=>⟨h.1,h.2.trans he1⟩)
      ·grind
    unfold wpOpIn
    rw [h2]
    dsimp only
    split at this
    ·rename_i hw
     rw [aa hw]
     exact za4 this next
    ·grind
   ·grind
def zmW {s} {id} {Q} tab hot (ht:TabOk cx.P tab) (hh:HotOk cx.P cx.fl hot) (hm:cx.P.follows .mixedOrders=true) (h:linY cx tab hot ops ops.toList (Q .normal) ops.size (List.replicate ops.size false) s):AW cx (.region id ops true) Q s:=by
 intro E a w hs;have ga:=hs.drawn;have J:Evo cx.fl E s.h w E s.h { w with drawn:=w.drawn+1 } :=⟨rfl,rfl,rfl,fU,λ_ _ _ _=>rfl,λ_ h=> .inl h,λ_ h=>h,λ_ h=> .inl h,rfl,λi _ h=>⟨h,GoesOn.refl E _ i⟩⟩
 refine aT (wpIn_region_any hm (zww ht hh ops.size (Array.replicate ops.size false) fZ Bk ga (by rw [fw];exact h))) ?_;rintro e a' w' ⟨rfl,hr⟩;exact hr.trans J
end
attribute [go_sem] linY zmV anyR rdy Region.binds aopH noHot hotOf
open Go
def ACall.one {P} {f} {args} {fl fl' i} {ob} {h h2} {R:AV→AObj→Prop} (hc:ACall P f fl args [(i,ob)] (fun r h'=>∃ob',h'= [(i,ob')]∧R r ob'))
  (h1:hsel (fun j=>decide (j=i)||decide (fl≤j)) h= [(i,ob)]) (h2e:hsel (fun j=> !(decide (j=i)||decide (fl≤j))) h=h2) (hfl:∀i,(hget h i).isSome→i<fl) (hg:hget h i=some ob)
  (hcl:∀j∈ob.ids,j=i) (ha:∀j∈AV.idsL args,j=i) (hle:fl'≤fl):ACallAt P fl' f args h (fun r h'=>∃ob',R r ob'∧h'=(i,ob')::h2):=by
 have hi:i<fl:=fU
 have :=ACall.frame (P:=P) (f:=f) (args:=args) (fl:=fl) (fl':=fl') (h:=h) (p:=fun j=>decide (j=i)||decide (fl≤j)) (K:=fun r h'=>∃ob',h'= [(i,ob')]∧R r ob') (by rw [h1];exact hc) hfl fU
  (fun j o ho hp k hk=>by
   have hj:=hfl j (by simp [ho])
   have:j=i:=by
    have:j=i∨fl≤j:=by simpa using hp
    omega
   subst this
   rw [hg] at ho;cases ho
   simp [hcl k hk]) fU hle (fun r h' ⟨ob',he,_⟩=>by
    subst he
    refine ⟨fun j hj hp=>?_,fun j hj=>?_⟩
    ·have hjl:=hfl j hj
     have:j=i:=by
      grind
     subst this
     simp [hget]
    ·simp only [hget] at hj
     grind)
 grind
def zsI:∀ {h:AHeap} {i:Nat} {o:AObj},hget h i=some o->(i,o)∈h
  | [],i,o,J=>oK
  | (k,x)::r,i,o,J=>by
    simp only [hget] at J;split at J
    · grind
    · exact cY _ (zsI J)
def zD {P} {f} {args} {fl} {h} {K} p (hc:ACall P f fl args h (λr h'=>(hsel p h').all (λq=>q.2.ids.all p)=true/\r.ids.all p=true/\K r (hsel p h'))):ACall P f fl args h K:=by
 refine ⟨hc.1,λE w vs hs hr=>(hc.2 E w vs hs hr).mono ?_⟩;rintro e w' ⟨v,E',r,h',h1,⟨h2,h3,h4⟩,h5,h6,h7⟩
 have c6:Closed p h':=λi o ho hp j hj=>by
  have hg:hget (hsel p h') i=some o:=by rw [zE,aa hp];omega
  have:=bw.1 h2 _ (zsI hg)
  grind
 refine ⟨v,E',r,hsel p h',h1,h4,zmJ h5 c6,zwg fU h6,?_⟩;refine ⟨h7.os,h7.tape,h7.output,h7.size,h7.keep,λb ho=>h7.own b (zan ho),h7.m,h7.n,λi hi J=>?_⟩;rw [zE] at J;by_cases hp:p i=true
 .rw [aa hp] at J;obtain ⟨g1,g2⟩:=h7.go i hi J;exact ⟨g1,g2.trans (zg9 i hp)⟩
 .grind
attribute [go_sem] AObj.ids List.all_nil List.all_cons List.all_append
section
variable {F : Fence} {n : Nat} {P : Program} {Q : Exit -> Act -> World -> Prop} {a : Act} {w : World}
def zdP {b:Frame} {k} {cs} {c} :step P (lone (b.atR a (.code (.scope c)::k)) cs w)= .next (lone (b.atR a (.code c:: .inScope c::k)) cs w):=
 step_lone_go Bz
def zmY {b:Frame} {k} {cs} {c} :step P (lone (b.atR a (.inScope c::k)) cs w)= .next (lone (b.atR a k) cs w):=
 step_lone_go Bz
def zhQ {c} (h:c.wpIn F n P (Exit.noGoto Q) a w):(Code.scope c).wpIn F n P Q a w:=by
 intro b k cs kV hb hr;have h0:(lone (b.atR a (.code (.scope c)::k)) cs w).fenced P F:=ep hb hr rfl;obtain ⟨e,a₁,w₁,J,kg⟩:=h b (.inScope c::k) cs kV hb hr;cases e with
 |normal=>exact ⟨.normal,a₁,w₁,J,.head h0 zdP (StepsIn.trans kg (.one (ep hb hr rfl) zmY))⟩
 | exit id=>
  have hx:exitTo id (.inScope c::k)=exitTo id k:=by simp [exitTo]
  exact ⟨.exit id,a₁,w₁,J,λk' hk=> .head h0 zdP (kg.1 k' fU),
   λgn hk=>let ⟨k₁,h1,h2⟩:=kg.2 gn fU;⟨k₁,h1,.head h0 zdP h2⟩⟩
 |goto l=>exact J.elim
 |ret=>exact ⟨_,a₁,w₁,J,.of_steps (.one h0 zdP) kg⟩
 |panic ch=>exact ⟨_,a₁,w₁,J,.of_steps (.one h0 zdP) kg⟩
 |outgrown=>exact ⟨_,a₁,w₁,J,.of_steps (.one h0 zdP) kg⟩
end
def zBK (Q:Exit->AS->Prop):Exit->AS->Prop
 | .goto _,_=>False
 |e,s=>Q e s
attribute [go_sem] zBK
def zmZ {cx} {Q} {s} {c} (h:AW cx c (zBK Q) s):AW cx (.scope c) Q s:=by
 intro E a w hs;refine zhQ (aT (h E a w hs) ?_);intro e a1 w1 J;cases e with
 |goto l=>obtain ⟨_,_,h,_⟩:=J;exact h
 |_=>exact J
end
end Go.Aw
