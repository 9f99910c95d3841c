/-
 Parts of the proof: lemmas.
-/
import Derived.Test.YtgldbfelccddbaaGreatBeg5
import Derived.ScopeJumps
import Derived.KernelRfl
set_option maxRecDepth 100000
set_option maxHeartbeats 2000000
set_option linter.unusedSimpArgs false
set_option linter.unusedVariables false
namespace Go.Aw
open Go
structure Ent (P:Program) (f:FuncId) where
 e:List AV→Option (Prop×AV)
 ok:∀args pre r,e args=some (pre,r)→pre→r.ids= []∧ACall P f 0 args [] (fun r' _=>r'=r)
section
variable {P : Program}
open Classical in
noncomputable def Ent.of {X:Type} (f:FuncId) (A:X→List AV) (pre:X→Prop) (r:X→AV) (ok:∀x,pre x→(r x).ids= []∧ACall P f 0 (A x) [] (fun r' _=>r'=r x)):Ent P f where
 e:=fun args=>if h:∃x,A x=args then some (pre h.choose,r h.choose) else none
 ok:=fun args p q h hp=>by
  split at h
  ·rename_i hx
   simp only [Option.some.injEq,Prod.mk.injEq] at h
   obtain ⟨rfl,rfl⟩:=h
   have h2:=ok hx.choose hp
   rw [hx.choose_spec] at h2
   exact h2
  ·cases h
theorem Ent.of_app {X:Type} {f:FuncId} {A:X→List AV} {pre:X→Prop} {r:X→AV} {ok:∀x,pre x→(r x).ids= []∧ACall P f 0 (A x) [] (fun r' _=>r'=r x)} (inj:∀x y,A x=A y→x=y) (x:X):(Ent.of f A pre r ok).e (A x)=some (pre x,r x):=by
 have hx:∃y,A y=A x:=⟨x,rfl⟩
 have h:=inj _ _ hx.choose_spec
 unfold Ent.of
 simp only [dif_pos hx,h]
def tadd {f:FuncId} (e:Ent P f) (t:Tab):Tab:=fun g args=>if g=f then e.e args else t g args
theorem zb {f:FuncId} {t:Tab} (e:Ent P f) (h:TabOk P t):TabOk P (tadd e t):=⟨fun g args pre r hr hp=>by
 unfold tadd at hr
 split at hr
 ·rename_i hf;subst hf;exact e.ok _ _ _ hr hp
 ·exact h.ok _ _ _ _ hr hp⟩
@[go_sem] theorem tadd_hit {f:FuncId} (e:Ent P f) (t:Tab) (args:List AV):tadd e t f args=e.e args:=if_pos rfl
@[go_sem] theorem zqb {f:FuncId} (e:Ent P f) (t:Tab) (g:FuncId) (args:List AV):tadd e t g args=if g=f then e.e args else t g args:=rfl
end
structure PT (α:Type) where
 un:AV→Option α
 wr:α→AV
 ok:∀a x,un a=some x→a.le (wr x)
structure PTL (α:Type) where
 un:List AV→Option α
 wr:α→List AV
 ok:∀a x,un a=some x→AV.leL a (wr x)
open Classical in
noncomputable def zac (c:AV):PT Unit where
 un:=fun a=>if a=c then some () else none
 wr:=fun _=>c
 ok:=fun a x h=>by
  split at h
  ·rename_i e;subst e;exact AV.le_refl _
  ·cases h
@[go_sem] theorem zqc (c:AV):(zac c).un c=some ():=by unfold zac;exact if_pos rfl
open Classical in
noncomputable def intT (k:IntKind):PT Int where
 un:=fun a=>match a with| .d (.int k' n)=>if k'=k then some n else none|_=>none
 wr:=fun n=> .d (.int k n)
 ok:=fun a x h=>by
  split at h
  ·split at h
   ·rename_i e;subst e;cases h;simp only [AV.le]
   ·cases h
  ·cases h
@[go_sem] theorem intT_un (k:IntKind) (n:Int):(intT k).un (.d (.int k n))=some n:=if_pos rfl
def strT:PT (List UInt8) where
 un:=fun a=>match a with| .d (.str l)=>some l|_=>none
 wr:=fun n=> .d (.str n)
 ok:=fun a x h=>by
  split at h
  ·cases h;simp only [AV.le]
  ·cases h
@[go_sem] theorem strT_un (l:List UInt8):strT.un (.d (.str l))=some l:=rfl
def boolT:PT Bool where
 un:=fun a=>match a with| .d (.bool l)=>some l|_=>none
 wr:=fun n=> .d (.bool n)
 ok:=fun a x h=>by
  split at h
  ·cases h;simp only [AV.le]
  ·cases h
@[go_sem] theorem boolT_un (l:Bool):boolT.un (.d (.bool l))=some l:=rfl
open Classical in
noncomputable def slT {α:Type} (k:Nat) (g:α→List D) (hg:∀a b,g a=g b→a=b):PT (List α) where
 un:=fun a=>match a with
  | .d (.sl k' rows)=>if h:k'=k∧∃l:List α,rows=l.map g then some h.2.choose else none
  | .nils _=>some []
  |_=>none
 wr:=fun l=> .d (.sl k (l.map g))
 ok :=fun a x h=>by
  split at h
  ·split at h
   ·rename_i e
    cases h
    obtain ⟨rfl,e⟩:=e
    simp only [AV.le,D.sl.injEq,true_and]
    exact e.choose_spec
   ·cases h
  ·cases h;simp only [AV.le,List.map_nil]
  ·cases h
theorem zjj {α:Type} {g:α→List D} (hg:∀a b,g a=g b→a=b):∀ {l m:List α},l.map g=m.map g→l=m
 | [],[],_=>rfl
 | [],_::_,h=>by simp at h
 |_::_,[],h=>by simp at h
 |a::l,b::m,h=>by
  simp only [List.map_cons,List.cons.injEq] at h
  rw [hg _ _ h.1,zjj hg h.2]
@[go_sem] theorem slT_un {α:Type} (k:Nat) (g:α→List D) (hg:∀a b,g a=g b→a=b) (l:List α):(slT k g hg).un (.d (.sl k (l.map g)))=some l:=by
 have hx:k=k∧∃m:List α,l.map g=m.map g:=⟨rfl,l,rfl⟩
 unfold slT
 simp only [dif_pos hx]
 rw [zjj hg hx.2.choose_spec.symm]
@[go_sem] theorem slT_nils {α:Type} (k j:Nat) (g:α→List D) (hg:∀a b,g a=g b→a=b):(slT k g hg).un (.nils j)=some []:=rfl
def nilL:PTL Unit where
 un:=fun a=>match a with| []=>some ()|_=>none
 wr:=fun _=> []
 ok:=fun a x h=>by
  split at h
  ·simp only [AV.leL]
  ·cases h
@[go_sem] theorem nilL_un:nilL.un []=some ():=rfl
def consL {α β:Type} (t:PT α) (ts:PTL β):PTL (α×β) where
 un:=fun a=>match a with|x::r=>(t.un x).bind fun y=>(ts.un r).map fun z=>(y,z)|_=>none
 wr:=fun p=>t.wr p.1::ts.wr p.2
 ok:=fun a x h=>by
  split at h
  ·obtain ⟨y,h1,h2⟩:=Option.bind_eq_some_iff.1 h
   obtain ⟨z,h3,h4⟩:=Option.map_eq_some_iff.1 h2
   subst h4
   exact ⟨t.ok _ _ h1,ts.ok _ _ h3⟩
  ·cases h
@[go_sem] theorem consL_un {α β:Type} (t:PT α) (ts:PTL β) (a:AV) (r:List AV):(consL t ts).un (a::r)=(t.un a).bind fun y=>(ts.un r).map fun z=>(y,z):=rfl
def aggT {α β:Type} (ts:PTL β) (f:β→α) (g:α→β) (hfg:∀y,g (f y)=y):PT α where
 un:=fun a=>match a with| .agg cs=>(ts.un cs).map f|_=>none
 wr:=fun x=> .agg (ts.wr (g x))
 ok:=fun a x h=>by
  split at h
  ·obtain ⟨y,h1,h2⟩:=Option.map_eq_some_iff.1 h
   subst h2
   simp only [AV.le,hfg]
   exact ts.ok _ _ h1
  ·cases h
@[go_sem] theorem aggT_un {α β:Type} (ts:PTL β) (f:β→α) (g:α→β) (hfg:∀y,g (f y)=y) (cs:List AV):(aggT ts f g hfg).un (.agg cs)=(ts.un cs).map f:=rfl
theorem ACall.args_le {P:Program} {f:FuncId} {fl:Nat} {args args':List AV} {h:AHeap} {K:AV→AHeap→Prop} (hl:AV.leL args args') (hc:ACall P f fl args' h K):ACall P f fl args h K:=
 ⟨hc.1,fun E w vs hs hr=>hc.2 E w vs hs (Reps.le _ _ _ hl hr)⟩
def Ent.ofL {P:Program} {X:Type} {f:FuncId} (ts:PTL X) (pre:X→Prop) (r:X→AV) (ok:∀x,pre x→(r x).ids= []∧ACall P f 0 (ts.wr x) [] (fun r' _=>r'=r x)):Ent P f where
 e:=fun args=>(ts.un args).map fun x=>(pre x,r x)
 ok:=fun args p q h hp=>by
  obtain ⟨x,h1,h2⟩:=Option.map_eq_some_iff.1 h
  cases h2
  exact ⟨(ok x hp).1,ACall.args_le (ts.ok _ _ h1) (ok x hp).2⟩
@[go_sem] theorem Ent.ofL_e {P:Program} {X:Type} {f:FuncId} (ts:PTL X) (pre:X→Prop) (r:X→AV) (ok:∀x,pre x→(r x).ids= []∧ACall P f 0 (ts.wr x) [] (fun r' _=>r'=r x)) (args:List AV):(Ent.ofL ts pre r ok).e args=(ts.un args).map fun x=>(pre x,r x):=rfl
@[go_sem] def Ent.m1 {P:Program} {f:FuncId} {α1:Type} {pre:α1→Prop} {r:α1→AV} (t1:PT α1) (ok:∀x1,pre x1→ACall P f 0 [t1.wr x1] [] fun v _=>v=r x1) (hid:∀x1,(r x1).ids= []:=by intros;rfl):Ent P f:= .ofL (consL t1 nilL) (fun x=>pre x.1) (fun x=>r x.1) (fun x h=>⟨hid x.1,ok x.1 h⟩)
@[go_sem] def Ent.m2 {P:Program} {f:FuncId} {α1 α2:Type} {pre:α1→α2→Prop} {r:α1→α2→AV} (t1:PT α1) (t2:PT α2) (ok:∀x1 x2,pre x1 x2→ACall P f 0 [t1.wr x1,t2.wr x2] [] fun v _=>v=r x1 x2) (hid:∀x1 x2,(r x1 x2).ids= []:=by intros;rfl):Ent P f:= .ofL (consL t1 (consL t2 nilL)) (fun x=>pre x.1 x.2.1) (fun x=>r x.1 x.2.1) (fun x h=>⟨hid x.1 x.2.1,ok x.1 x.2.1 h⟩)
@[go_sem] def Ent.m3 {P:Program} {f:FuncId} {α1 α2 α3:Type} {pre:α1→α2→α3→Prop} {r:α1→α2→α3→AV} (t1:PT α1) (t2:PT α2) (t3:PT α3) (ok:∀x1 x2 x3,pre x1 x2 x3→ACall P f 0 [t1.wr x1,t2.wr x2,t3.wr x3] [] fun v _=>v=r x1 x2 x3) (hid:∀x1 x2 x3,(r x1 x2 x3).ids= []:=by intros;rfl):Ent P f:= .ofL (consL t1 (consL t2 (consL t3 nilL))) (fun x=>pre x.1 x.2.1 x.2.2.1) (fun x=>r x.1 x.2.1 x.2.2.1) (fun x h=>⟨hid x.1 x.2.1 x.2.2.1,ok x.1 x.2.1 x.2.2.1 h⟩)
@[go_sem] def Ent.m4 {P:Program} {f:FuncId} {α1 α2 α3 α4:Type} {pre:α1→α2→α3→α4→Prop} {r:α1→α2→α3→α4→AV} (t1:PT α1) (t2:PT α2) (t3:PT α3) (t4:PT α4) (ok:∀x1 x2 x3 x4,pre x1 x2 x3 x4→ACall P f 0 [t1.wr x1,t2.wr x2,t3.wr x3,t4.wr x4] [] fun v _=>v=r x1 x2 x3 x4) (hid:∀x1 x2 x3 x4,(r x1 x2 x3 x4).ids= []:=by intros;rfl):Ent P f:= .ofL (consL t1 (consL t2 (consL t3 (consL t4 nilL)))) (fun x=>pre x.1 x.2.1 x.2.2.1 x.2.2.2.1) (fun x=>r x.1 x.2.1 x.2.2.1 x.2.2.2.1) (fun x h=>⟨hid x.1 x.2.1 x.2.2.1 x.2.2.2.1,ok x.1 x.2.1 x.2.2.1 x.2.2.2.1 h⟩)
theorem zlG {P:Program} {f:FuncId} {args:List AV} {r:AV} (hc:ACall P f 0 args [] (fun r' h'=>frz 9 h' r'=r)):ACall P f 0 args [] (fun r' _=>r'=r):=by
 obtain ⟨hen,hc⟩:=hc
 refine ⟨hen,fun E w vs hs hr=>(hc E w vs hs hr).mono ?_⟩
 rintro e w' ⟨v,E',r',h',rfl,rfl,hs',hr',hev⟩
 have hno:∀ (E:Env) b,¬Own E [] b:=fun E b ⟨i,hi,_⟩=>by simp [hget] at hi
 refine ⟨v, { O:=fun _=>none,C:=fun _=>0,M:=E.M,N:=E.N },_,[],rfl,rfl,?_,?_,?_⟩
 ·exact ⟨fun i o ho=>by simp [hget] at ho,fun i j b h1=>by simp [hget] at h1,fun b hb=>absurd hb (hno _ b),fun b hb=>hs'.mlt b (by rw [hev.m];exact hb),fun b hb=>hs'.nlt b (by rw [hev.n];exact hb)⟩
 ·refine Rep.step (E:=frzE E') (h:= []) (fun b _ hx=>?_) (fun _ _ _=>rfl) _ v (fun j hj=>by unfold GoesOn;simp [hget]) (zls hs' 9 r' v hr')
  rcases hx with hx|hx|hx
  ·exact absurd hx (hno _ b)
  ·exact .inr (.inr (.inl (by rw [hev.m];exact hx)))
  ·exact .inr (.inr (.inr (by rw [hev.n];exact hx)))
 ·exact ⟨hev.os,hev.tape,hev.output,hev.size,fun b hb _=>hev.keep b hb (hno _ b),fun b hb=>absurd hb (hno _ b),rfl,rfl,fun i hi h=>by simp [hget] at h⟩
theorem zlH {cx:Cx} {s:AS} {Q:Exit→AS→Prop} {g:Operand} {ps:Array Tmp} {assign body:Code} {f:FuncId} {fs caps:List AV} (fl:Nat) {items:List (List AV)} (I:List (List AV)→AHeap×Option (List (List AV))) (J:Code→AHeap→Option (List (List AV))→Prop)
  (hit:AIter cx.P f fl fs caps [] items (fun g h'=>(∀xs,g=some xs→xs=items)∧h'= [])) (hg:s.ev g=(true,.fn (.func f) fs caps)) (hro:cx.lone=true)
  (hfl:∀i,(hget s.h i).isSome→i<fl) (hfc:cx.fl≤fl) (hids:AV.idsL fs++AV.idsL caps= [])
  (hI:leH s.h (I []).1) (hIn:inH (I []).1 (idsH (I []).1)) (hIg:(I []).2=s.g)
  (hlen:∀x∈items,x.length=ps.size) (hps:∀t∈ps.toList,t<cx.nt)
  (hround:∀xs x,(xs++ [x])<+:items→∀ (l:Nat) (r1:Rnd cx),AW (cx.inR l fl r1) assign (AsgK fun s1=>∀r2:Rnd cx,AW (cx.inR l fl r2) body (zh (fun h' g'=>leH h' (I (xs++ [x])).1∧inH (I (xs++ [x])).1 (idsH (I (xs++ [x])).1)∧g'=(I (xs++ [x])).2) J) s1)
   { t:=zaX ps.toList x (keepT (I xs).1 s.t),h:=(I xs).1,g:=(I xs).2 })
  (hdone:Q .normal { t:=keepT (I items).1 s.t,h:=(I items).1,g:=(I items).2 })
  (hstop:∀c h3 g3,J c h3 g3→AW cx c Q { t:=keepT h3 s.t,h:=h3,g:=g3 }):
  AW cx (.rangeFunc g ps assign body) Q s:=by
 have hs0:hsel (fun _=>false) s.h= []:=by
  induction s.h with
  |nil=>rfl
  |cons a h ih=>simp only [hsel];rw [if_neg (by simp)];exact ih
 have hs1:hsel (fun i=> !(fun _=>false) i) s.h=s.h:=zea (fun q _=>rfl)
 refine zdV (Kit:=fun g h'=>(∀xs,g=some xs→xs=items)∧h'= []) (items:=items) (fl:=fl) (fun _=>false) I J hro hg (by rw [hs0];exact hit) hfl hfc ?_ ?_ (by rw [hs1];exact hI) hIn hIg (fun _ _ _ _=>rfl) (fun _ _ _ _ _ _=>rfl) ?_ hlen hps hround ?_ ?_
 ·intro i o _ h;cases h
 ·rw [hids];intro j hj;simp at hj
 ·rintro g h' ⟨h1,rfl⟩
  exact ⟨fun i hi=>by simp [hget] at hi,h1⟩
 ·rintro h1 ⟨_,rfl⟩
  exact hdone
 ·rintro c h1 h3 g3 ⟨_,rfl⟩ hj
  exact hstop c h3 g3 hj
theorem zis {α β:Type} {g:α→β} (hg:∀a b,g a=g b→a=b) {l l':List α} :(l.map g=l'.map g)=(l=l'):=by
 apply propext
 constructor
 ·intro h
  induction l generalizing l' with
  |nil=>cases l'<;>simp_all
  | cons a l ih=>
   cases l' with
   |nil=>simp at h
   |cons b l'=>
    simp only [List.map_cons,List.cons.injEq] at h
    rw [hg _ _ h.1,ih h.2]
 ·rintro rfl;rfl
theorem zlI {α β:Type} {g:α→List β} {l:List α} {i:Nat} {q:α} (h:l[i]?=some q):(l.map g).getD i []=g q:=by
 rw [List.getD_eq_getElem?_getD,List.getElem?_map,h];rfl
theorem zgl {α:Type} {l:List α} {i:Nat} {q:α} (h:l[i]?=some q):l.drop i=q::l.drop (i+1):=by
 obtain ⟨hi,h⟩:=List.getElem?_eq_some_iff.1 h
 rw [List.drop_eq_getElem_cons hi,h]
theorem zcH {α:Type} {l:List α} {i:Nat} {q:α} (h:l[i]?=some q):l.take (i+1)=l.take i++ [q]:=by
 rw [List.take_add_one,h];rfl
theorem zey {α:Type} {l:List α} {i:Nat} (h:i<l.length):∃q,l[i]?=some q:=⟨l[i],List.getElem?_eq_getElem h⟩
theorem zaw {α β:Type} (g:α→List β) (l:List α) (i:Nat) (hi:i≤l.length):
  (∃q,l[i]?=some q∧i<l.length∧decide ((i:Int)<(l.length:Int))=true∧(l.map g).getD i []=g q∧l.drop i=q::l.drop (i+1)∧l.take (i+1)=l.take i++ [q])∨(i=l.length∧decide ((i:Int)<(l.length:Int))=false):=by
 rcases Nat.lt_or_ge i l.length with h|h
 ·obtain ⟨q,hq⟩:=zey h
  exact .inl ⟨q,hq,h,decide_eq_true (by omega),zlI hq,zgl hq,zcH hq⟩
 ·exact .inr ⟨by omega,decide_eq_false (by omega)⟩
def hdR:Code→Option Nat
 | .region id _ _=>some id
 | .seq x _=>hdR x
 |_=>none
theorem hds {cx:Cx} {c:Code} {Q:Exit→AS→Prop} {s:AS} (n:Nat) (h:hdR c=some n) (g:AW cx c Q s):AW cx c Q s:=g
theorem zez {cx:Cx} {s:AS} {c:Operand} {x y:Code} {Q:Exit→AS→Prop} (hc:s.ev c=(true,.d (.bool true))) (ht:AW cx x Q s):AW cx (.cond c x y) Q s:=zdz hc (fun _=>ht) (fun h=>by cases h)
theorem zeA {cx:Cx} {s:AS} {c:Operand} {x y:Code} {Q:Exit→AS→Prop} (hc:s.ev c=(true,.d (.bool false))) (hf:AW cx y Q s):AW cx (.cond c x y) Q s:=zdz hc (fun h=>by cases h) (fun _=>hf)
theorem sl_ex {e:Nat} {Q:Nat→Prop} :(∃e',TD.slice e=TD.slice e'∧Q e')=Q e:=by
 apply propext
 constructor
 ·rintro ⟨e',h,hq⟩;cases h;exact hq
 ·intro h;exact ⟨e,rfl,h⟩
theorem zdE {cx:Cx} {x y:Code} {Q:Exit→AS→Prop} {s:AS} (s1:AS) (h1:AW cx x (thenK (fun s'=>s'.le s1) Q) s) (h2:AW cx y Q s1):AW cx (.seq x y) Q s:=
 zbh fun K hK=>h1.mono fun e s' h=>by
  cases e<;>first|exact hK s' (aw_le s1 h h2)|exact h
theorem zat {fl:Nat} :∀ {h:AHeap},(h.all fun p=>decide (p.1<fl))=true→∀i,(hget h i).isSome→i<fl
  | [],_,i,hi=>by simp [hget] at hi
  | (k,o)::r,hh,i,hi=>by
    simp only [List.all_cons,Bool.and_eq_true,decide_eq_true_eq] at hh
    simp only [hget] at hi
    split at hi
    · rename_i e;subst e;exact hh.1
    · exact zat hh.2 i hi
theorem zjk {α:Type} {e:α→List D} :∀ {rows:List (List D)},(∀r∈rows,∃a,r=e a)→∃l:List α,rows=l.map e
 | [],_=>⟨[],rfl⟩
 |r::rows,h=>by
  obtain ⟨a,rfl⟩:=h r (by simp)
  obtain ⟨l,rfl⟩:=zjk (e:=e) (rows:=rows) (fun r hr=>h r (by simp [hr]))
  exact ⟨a::l,rfl⟩
theorem zlJ {p:Nat→Bool} :∀ {h:AHeap},(∀q∈h,p q.1=false)→hsel p h= []
  | [],_=>rfl
  | (k,o)::r,hh=>by
    simp only [hsel]
    rw [if_neg (by rw [hh (k,o) (by simp)];simp),zlJ (fun q hq=>hh q (by simp [hq]))]
theorem ACall.own {P:Program} {f:FuncId} {args:List AV} {fl fl':Nat} {h:AHeap} {K:AV→AHeap→Prop} (hc:ACall P f fl args [] K) (hfl:(h.all fun p=>decide (p.1<fl))=true) (hids:AV.idsL args= []) (hle:fl'≤fl) (hk:∀r h',K r h'→(h'.all fun p=>decide (fl≤p.1))=true):
  ACallAt P fl' f args h (fun r h'=>∃h1,K r h1∧h'=h1++h):=by
 have hlt:∀q∈h,q.1<fl:=fun q hq=>by simpa using List.all_eq_true.1 hfl q hq
 have e1:hsel (fun i=>decide (fl≤i)) h= []:=zlJ (fun q hq=>by have:=hlt q hq;simp;omega)
 have e2:hsel (fun i=> !decide (fl≤i)) h=h:=zea (fun q hq=>by have:=hlt q hq;simp;omega)
 have:=ACall.frame (P:=P) (f:=f) (args:=args) (fl:=fl) (fl':=fl') (h:=h) (K:=K) (p:=fun i=>decide (fl≤i)) (by rw [e1];exact hc) (zat hfl) (fun i hi=>by simpa using hi) (fun i o ho hp=>by
   have:=zat hfl i (by simp [ho])
   have:fl≤i:=by simpa using hp
   omega) (by rw [hids];intro j hj;simp at hj) hle (fun r h' hk'=>⟨fun i hi hp=>by
    have:=zat hfl i hi
    have:fl≤i:=by simpa using hp
    omega,fun i hi=>by
    have h1:=hk r h' hk'
    clear hk' hc
    induction h' with
    |nil=>simp [hget] at hi
    |cons q r ih=>
     simp only [List.all_cons,Bool.and_eq_true] at h1
     obtain ⟨k,o⟩:=q
     simp only [hget] at hi
     split at hi
     ·rename_i e;subst e;exact h1.1
     ·exact ih hi h1.2⟩)
 rw [e2] at this
 exact this
theorem zf {n:Int} (h0: -9223372036854775808≤n) (h1:n<9223372036854775808):IntKind.i64.wrap n=n:=by rw [IntKind.wrap_i64];omega
theorem zp {i:Nat} (h:i<9223372036854775807):IntKind.i64.wrap ((i:Int)+1)=((i+1:Nat):Int):=by rw [IntKind.wrap_i64];omega
def intD (n:Int):List D:= [.int .i64 n]
def strD (s:List UInt8):List D:= [.str s]
theorem zcp:∀a b,strD a=strD b→a=b:=by intro a b h;simpa [strD] using h
attribute [go_sem] sl_ex Nat.lt_irrefl Nat.zero_add zg7 znA List.length_map or_self true_or or_true Nat.le_refl List.append_toArray List.range_zero List.append_eq Int.toNat_natCast IterK
open Go
inductive Ch where
 |none
 |put (i:Nat) (ob:AObj)
 |new (i:Nat) (ob:AObj)
def Ch.app:Ch→AHeap→AHeap
 | .none,h=>h
 | .put i ob,h=>hset h i ob
 | .new i ob,h=>(i,ob)::h
def Ch.at:Ch→Option Nat
 | .none=>Option.none
 | .put i _=>some i
 | .new i _=>some i
def zgm (h:AHeap) (c:Ch) (rd:List Nat) (k:AHeap):Prop:=
 (∀i∈rd,hget k i=hget h i)∧(match c with| .none=>True| .put i _=>hget k i=hget h i| .new i _=>hget k i=Option.none)
def chOf (nm:Nat) (P:Program) (s:AS) (op:Op) (h':AHeap):Option (Ch×List Nat):=
 match op with
 | .alloc _=>(hget h' nm).map fun ob=>(.new nm ob,[])
 | .buildSlice _ _ _=>some (match hget h' nm with|some ob=>(.new nm ob,[])|Option.none=>(.none,[]))
 | .makeSlice _ _ _=>(hget h' nm).map fun ob=>(.new nm ob,[])
 | .build _ _=>some (.none,[])
 | .index _ _ _=>some (.none,[])
 | .lookup _ m _ _=>(match (s.ev m).2 with
  | .amap _ _=>some (.none,[])
  |_=>Option.none)
 | .convert _ _ x=>some (.none,(s.ev x).2.ids)
 | .slice _ x _ _ _=>some (.none,(s.ev x).2.ids)
 | .call c=>(match c.callee with
  | .builtin .append=>(match c.args.toList with
   | [x,y]=>(match (s.ev x).2 with
    | .osl i _ _ _ _=>(hget h' i).map fun ob=>(.put i ob,(s.ev y).2.ids)
    |_=>Option.none)
   |_=>Option.none)
  | .builtin .len=>(match c.args.toList with
   | [x]=>some (.none,(s.ev x).2.ids)
   |_=>Option.none)
  | .builtin .min=>some (.none,[])
  | .builtin .max=>some (.none,[])
  | .value _=>if foot nm P s (.call c)= .cold then some (.none,[]) else Option.none
  |_=>Option.none)
 |op=>(match foot nm P s op with
  | .cold=>some (.none,[])
  | .on i=>if isEff op=true then (hget h' i).map fun ob=>(.put i ob,[]) else some (.none,[i])
  |_=>Option.none)
def atCx (cx:Cx) (nm:Nat):Cx:= { cx with fl:=nm }
section
variable {cx : Cx} {tab : Tab} {s : AS} {P : Program}
theorem zjl {k:AHeap} {n:Nat} {v:AV} (h:∀i∈v.ids,hget k i=hget s.h i):rowsK { s with h:=k } n v=rowsK s n v:=by
 unfold rowsK
 cases v with
 |osl i _ _ _ _=>have:=h i (by simp [AV.ids]);simp only [this]
 |vsl i _ _ _=>have:=h i (by simp [AV.ids]);simp only [this]
 |d x=>cases x<;>rfl
 |_=>rfl
theorem znJ {k:AHeap} {n:Nat} {t:TypeId} {v:AV} (h:∀i∈v.ids,hget k i=hget s.h i):rowsT P { s with h:=k } n t v=rowsT P s n t v:=by
 unfold rowsT
 rw [zjl h]
theorem znK {k:AHeap} {t:TypeId} {v:AV} (h:∀i∈v.ids,hget k i=hget s.h i):avLen P { s with h:=k } t v=avLen P s t v:=by
 unfold avLen AS.cur
 generalize (ty P t).td=dd
 cases v with
 |osl i _ _ _ _=>have:=h i (by simp [AV.ids]);cases dd<;>simp only [this]
 |d x=>cases dd<;>cases x<;>rfl
 |_=>cases dd<;>rfl
theorem zki {k:AHeap} {t:TypeId} {x:AV} {lo hi mx:Option Operand} (h:∀i∈x.ids,hget k i=hget s.h i):za1 P { s with h:=k } t x lo hi mx=za1 P s t x lo hi mx:=by
 have hb:∀y d,AS.bnd { s with h:=k } y d=AS.bnd s y d:=fun y d=>by
  cases y with
  |none=>rfl
  |some y=>cases y<;>rfl
 unfold za1 AS.cur
 simp only [hb]
 cases x with
 |osl i _ _ _ _=>have:=h i (by simp [AV.ids]);simp only [this]
 |vp i _=>have:=h i (by simp [AV.ids]);simp only [this]
 |d x=>cases x<;>rfl
 |_=>rfl
theorem zit {k:AHeap} {t:TypeId} {ks:List D} {vs:List AV} {y:AV} {ok:Bool} :zav P { s with h:=k } t (.amap ks vs) y ok=zav P s t (.amap ks vs) y ok:=by
 unfold zav
 generalize (ty P t).td=td
 cases td<;>first|rfl|(cases y<;>rfl)
theorem znL {nm:Nat} (hnm:hget s.h nm=Option.none) {G:Bool} {o:Oper} {g:Bool} {v:AV} {h':AHeap} (h:∀R:Bool→AV→AHeap→Prop,R g v h'→fop (atCx cx nm) tab s G o R) (hne:isEff o.op=false→h'=s.h)
  {c:Ch} {rd:List Nat} (hc:chOf nm cx.P s o.op h'=some (c,rd)):
  h'=c.app s.h∧∀k:AHeap,zgm s.h c rd k→∀R:Bool→AV→AHeap→Prop,R g v (c.app k)→fop (atCx cx nm) tab { s with h:=k } G o R:=by
 have hev:∀ (k:AHeap) (x:Operand),AS.ev { s with h:=k } x=s.ev x:=fun k x=>by cases x<;>rfl
 have hkn:∀ (k:AHeap) (x:Operand),known { s with h:=k } x=known s x:=fun k x=>by cases x<;>rfl
 have hfs:fresh nm s.h=nm:=zd6 hnm
 obtain ⟨ff1,ff2⟩:=znI h hne
 have old:chOf nm cx.P s o.op h'=(match foot nm cx.P s o.op with
   | .cold=>some (.none,[])
   | .on i=>if isEff o.op=true then (hget h' i).map fun ob=>(.put i ob,[]) else some (.none,[i])
   |_=>Option.none)→h'=c.app s.h∧∀k:AHeap,zgm s.h c rd k→∀R:Bool→AV→AHeap→Prop,R g v (c.app k)→fop (atCx cx nm) tab { s with h:=k } G o R:=by
  intro e
  rw [e] at hc
  cases hf:foot nm cx.P s o.op with
  |cold=>
   rw [hf] at hc
   simp only [Option.some.injEq,Prod.mk.injEq] at hc
   obtain ⟨rfl,rfl⟩:=hc
   obtain ⟨q1,q2⟩:=ff1 hf
   exact ⟨hne q1,fun k _ R hR=>q2 k R hR⟩
  | on i=>
   rw [hf] at hc
   dsimp only at hc
   split at hc
   ·rename_i he
    obtain ⟨ob,q1,q2,_⟩:=(ff2 i hf s.h rfl).2 he
    rw [q1] at hc
    simp only [Option.map_some,Option.some.injEq,Prod.mk.injEq] at hc
    obtain ⟨rfl,rfl⟩:=hc
    refine ⟨q2,fun k hk R hR=>?_⟩
    obtain ⟨ob',p1,p2,p3⟩:=(ff2 i hf k hk.2).2 he
    rw [q1] at p1
    cases p1
    exact p3 R hR
   ·rename_i he
    simp only [Option.some.injEq,Prod.mk.injEq] at hc
    obtain ⟨rfl,rfl⟩:=hc
    have he':isEff o.op=false:=by simpa using he
    exact ⟨hne he',fun k hk R hR=>(ff2 i hf k (hk.1 i (by simp))).1 he' R hR⟩
  |new i=>rw [hf] at hc;cases hc
  |whole=>rw [hf] at hc;cases hc
 have h0:=h (fun g1 v1 h1=>g1=g∧v1=v∧h1=h') ⟨rfl,rfl,rfl⟩
 cases hop:o.op
 case alloc t=>
  rw [hop] at hc
  have n1:∀x,o.op= .move x→False:=by simp [hop]
  have n2:∀x,o.op= .assign x→False:=by simp [hop]
  have n3:∀x y z,o.op= .pick x y z→False:=by simp [hop]
  have n4:∀c,o.op= .call c→False:=by simp [hop]
  have hv:¬isVal (atCx cx nm).P o.op=true:=by rw [hop];simp [isVal,zbk]
  rw [zE n1 n2 n3 n4,if_neg hv,hop] at h0
  obtain ⟨hG,hdt,h1⟩:=h0
  unfold aeff at h1
  dsimp only [atCx] at h1
  rw [hfs] at h1
  obtain ⟨q1,q2,q3,q4⟩:=h1
  subst q4
  simp only [chOf,hget,if_true,Option.map_some,Option.some.injEq,Prod.mk.injEq] at hc
  obtain ⟨rfl,rfl⟩:=hc
  refine ⟨rfl,fun k hk R hR=>?_⟩
  rw [zE n1 n2 n3 n4,if_neg hv,hop]
  refine ⟨hG,hdt,?_⟩
  unfold aeff
  dsimp only [atCx]
  rw [zd6 hk.2]
  refine ⟨q1,?_⟩
  rw [← q2,← q3] at hR
  exact hR
 case makeSlice t l m=>
  rw [hop] at hc
  have n1:∀x,o.op= .move x→False:=by simp [hop]
  have n2:∀x,o.op= .assign x→False:=by simp [hop]
  have n3:∀x y z,o.op= .pick x y z→False:=by simp [hop]
  have n4:∀c,o.op= .call c→False:=by simp [hop]
  have hv:¬isVal (atCx cx nm).P o.op=true:=by rw [hop];simp [isVal,zbk]
  rw [zE n1 n2 n3 n4,if_neg hv,hop] at h0
  obtain ⟨hG,hdt,h1⟩:=h0
  unfold aeff zH at h1
  dsimp only [atCx] at h1
  split at h1
  ·rename_i e gl n gc m' ht hl hm
   obtain ⟨c1,c2,c3,c4,c5,c6,c7,c8,c9,h1⟩:=h1
   split at h1
   ·rename_i z hz
    rw [hfs] at h1
    obtain ⟨q2,q3,q4⟩:=h1
    subst q4
    simp only [chOf,hget,if_true,Option.map_some,Option.some.injEq,Prod.mk.injEq] at hc
    obtain ⟨rfl,rfl⟩:=hc
    refine ⟨rfl,fun k hk R hR=>?_⟩
    rw [zE n1 n2 n3 n4,if_neg hv,hop]
    refine ⟨hG,hdt,?_⟩
    unfold aeff zH
    dsimp only [atCx]
    rw [ht,hev k l,hev k m,hl,hm]
    dsimp only
    rw [hz,zd6 hk.2]
    refine ⟨c1,c2,c3,c4,c5,c6,c7,c8,c9,?_⟩
    rw [← q2,← q3] at hR
    exact hR
   ·exact h1.elim
  ·exact h1.elim
 case buildSlice t len parts=>
  rw [hop] at hc
  have n1:∀x,o.op= .move x→False:=by simp [hop]
  have n2:∀x,o.op= .assign x→False:=by simp [hop]
  have n3:∀x y z,o.op= .pick x y z→False:=by simp [hop]
  have n4:∀c,o.op= .call c→False:=by simp [hop]
  have hv:¬isVal (atCx cx nm).P o.op=true:=by rw [hop];simp [isVal,zbk]
  rw [zE n1 n2 n3 n4,if_neg hv,hop] at h0
  obtain ⟨hG,hdt,h1⟩:=h0
  unfold aeff at h1
  dsimp only [atCx] at h1
  split at h1
  ·rename_i e ht
   obtain ⟨c1,c2,c3,c4,c5,c6,h1⟩:=h1
   split at h1
   ·rename_i ds hds
    rw [hfs] at h1
    obtain ⟨q2,q3,q4⟩:=h1
    subst q4
    simp only [chOf,hget,if_true,Option.some.injEq,Prod.mk.injEq] at hc
    obtain ⟨rfl,rfl⟩:=hc
    refine ⟨rfl,fun k hk R hR=>?_⟩
    rw [zE n1 n2 n3 n4,if_neg hv,hop]
    refine ⟨hG,hdt,?_⟩
    unfold aeff
    dsimp only [atCx]
    rw [ht]
    simp only [hev]
    rw [hds,zd6 hk.2]
    refine ⟨c1,c2,c3,c4,c5,c6,?_⟩
    rw [← q2,← q3] at hR
    exact hR
   ·rename_i hds
    obtain ⟨c7,q2,q3,q4⟩:=h1
    subst q4
    simp only [chOf,hnm,Option.some.injEq,Prod.mk.injEq] at hc
    obtain ⟨rfl,rfl⟩:=hc
    refine ⟨rfl,fun k hk R hR=>?_⟩
    rw [zE n1 n2 n3 n4,if_neg hv,hop]
    refine ⟨hG,hdt,?_⟩
    unfold aeff
    dsimp only [atCx]
    rw [ht]
    simp only [hev]
    rw [hds]
    refine ⟨c1,c2,c3,c4,c5,c6,c7,?_⟩
    rw [← q2,← q3] at hR
    exact hR
  ·exact h1.elim
 case build t parts=>
  rw [hop] at hc
  have n1:∀x,o.op= .move x→False:=by simp [hop]
  have n2:∀x,o.op= .assign x→False:=by simp [hop]
  have n3:∀x y z,o.op= .pick x y z→False:=by simp [hop]
  have n4:∀c,o.op= .call c→False:=by simp [hop]
  have hv:¬isVal (atCx cx nm).P o.op=true:=by rw [hop];simp [isVal,zbk]
  simp only [chOf,Option.some.injEq,Prod.mk.injEq] at hc
  obtain ⟨rfl,rfl⟩:=hc
  refine ⟨hne (by rw [hop];rfl),fun k hk R hR=>?_⟩
  have h2:=h (fun g v _=>R g v k) hR
  rw [zE n1 n2 n3 n4,if_neg hv,hop] at h2
  obtain ⟨hG,hdt,h1⟩:=h2
  rw [zE n1 n2 n3 n4,if_neg hv,hop]
  refine ⟨hG,hdt,?_⟩
  unfold aeff at h1 ⊢
  dsimp only [atCx] at h1 ⊢
  simp only [hev]
  exact h1
 case convert a b x=>
  rw [hop] at hc
  have n1:∀x,o.op= .move x→False:=by simp [hop]
  have n2:∀x,o.op= .assign x→False:=by simp [hop]
  have n3:∀x y z,o.op= .pick x y z→False:=by simp [hop]
  have n4:∀c,o.op= .call c→False:=by simp [hop]
  simp only [chOf,Option.some.injEq,Prod.mk.injEq] at hc
  obtain ⟨rfl,rfl⟩:=hc
  refine ⟨hne (by rw [hop];rfl),fun k hk R hR=>?_⟩
  have h2:=h (fun g v _=>R g v k) hR
  rw [zE n1 n2 n3 n4,hop] at h2
  rw [zE n1 n2 n3 n4,hop]
  split at h2
  ·rename_i hv
   rw [if_pos hv]
   have:aval (atCx cx nm).P { s with h:=k } (.convert a b x)=aval (atCx cx nm).P s (.convert a b x):=by simp only [aval,hev]
   rw [this]
   exact h2
  ·rename_i hv
   rw [if_neg hv]
   obtain ⟨hG,hdt,h1⟩:=h2
   refine ⟨hG,hdt,?_⟩
   unfold aeff zH at h1 ⊢
   dsimp only [atCx] at h1 ⊢
   split at h1
   ·rename_i e ht1 ht2
    simp only [detOp,atCx,ht2] at hdt
    cases hdt
   ·rename_i e ht1 ht2
    try rw [ht1,ht2]
    try dsimp only
    rw [hev k x,zjl hk.1]
    exact h1
   ·exact h1.elim
 case index t x y=>
  rw [hop] at hc
  have n1:∀x,o.op= .move x→False:=by simp [hop]
  have n2:∀x,o.op= .assign x→False:=by simp [hop]
  have n3:∀x y z,o.op= .pick x y z→False:=by simp [hop]
  have n4:∀c,o.op= .call c→False:=by simp [hop]
  simp only [chOf,Option.some.injEq,Prod.mk.injEq] at hc
  obtain ⟨rfl,rfl⟩:=hc
  refine ⟨hne (by rw [hop];rfl),fun k hk R hR=>?_⟩
  have h2:=h (fun g v _=>R g v k) hR
  have hv:isVal (atCx cx nm).P o.op=true:=by rw [hop];rfl
  rw [zE n1 n2 n3 n4,if_pos hv,hop] at h2
  rw [zE n1 n2 n3 n4,if_pos hv,hop]
  have:aval (atCx cx nm).P { s with h:=k } (.index t x y)=aval (atCx cx nm).P s (.index t x y):=by simp only [aval,hev]
  rw [this]
  exact h2
 case lookup t m y ok=>
  rw [hop] at hc
  have n1:∀x,o.op= .move x→False:=by simp [hop]
  have n2:∀x,o.op= .assign x→False:=by simp [hop]
  have n3:∀x y z,o.op= .pick x y z→False:=by simp [hop]
  have n4:∀c,o.op= .call c→False:=by simp [hop]
  cases hm:(s.ev m).2<;>simp only [chOf,hm,Option.some.injEq,Prod.mk.injEq,reduceCtorEq] at hc
  obtain ⟨rfl,rfl⟩:=hc
  refine ⟨hne (by rw [hop];rfl),fun k hk R hR=>?_⟩
  have h2:=h (fun g v _=>R g v k) hR
  have hv:isVal (atCx cx nm).P o.op=true:=by rw [hop];rfl
  rw [zE n1 n2 n3 n4,if_pos hv,hop] at h2
  rw [zE n1 n2 n3 n4,if_pos hv,hop]
  have:aval (atCx cx nm).P { s with h:=k } (.lookup t m y ok)=aval (atCx cx nm).P s (.lookup t m y ok):=by
   simp only [aval,hev,hm,zit]
  rw [this]
  exact h2
 case slice t x lo hi mx=>
  rw [hop] at hc
  have n1:∀x,o.op= .move x→False:=by simp [hop]
  have n2:∀x,o.op= .assign x→False:=by simp [hop]
  have n3:∀x y z,o.op= .pick x y z→False:=by simp [hop]
  have n4:∀c,o.op= .call c→False:=by simp [hop]
  simp only [chOf,Option.some.injEq,Prod.mk.injEq] at hc
  obtain ⟨rfl,rfl⟩:=hc
  refine ⟨hne (by rw [hop];rfl),fun k hk R hR=>?_⟩
  have h2:=h (fun g v _=>R g v k) hR
  have hv:isVal (atCx cx nm).P o.op=true:=by rw [hop];rfl
  rw [zE n1 n2 n3 n4,if_pos hv,hop] at h2
  rw [zE n1 n2 n3 n4,if_pos hv,hop]
  have:aval (atCx cx nm).P { s with h:=k } (.slice t x lo hi mx)=aval (atCx cx nm).P s (.slice t x lo hi mx):=by
   simp only [aval,hev]
   rw [zki hk.1]
  rw [this]
  exact h2
 case call c=>
  rw [hop] at hc
  simp only [chOf] at hc
  split at hc
  ·-- append
   rename_i hcal
   split at hc
   ·rename_i x y harg
    split at hc
    ·rename_i i kk m off len hx
     have hv:¬isVal (atCx cx nm).P (.call c)=true:=by simp [isVal,zbk,hcal]
     have hco:∀k,z6 (atCx cx nm).P { s with h:=k } c=Option.none:=fun k=>by simp [z6,hcal]
     unfold fop at h0
     rw [hop] at h0
     dsimp only at h0
     rw [if_neg hv,hco s.h] at h0
     obtain ⟨hG,h1⟩:=h0
     unfold aeff zH at h1
     dsimp only [atCx] at h1
     rw [hcal] at h1
     dsimp only at h1
     rw [harg] at h1
     split at h1
     ·rename_i x' y' t u e1 e2
      simp only [List.cons.injEq,and_true] at e1
      obtain ⟨rfl,rfl⟩:=e1
      split at h1
      ·rename_i e hte
       obtain ⟨c1,c2,c3,c4,c5,h1⟩:=h1
       split at h1
       ·rename_i rows hr
        rw [hx] at h1
        dsimp only at h1
        split at h1
        ·rename_i k' xs hi
         obtain ⟨d1,d2,d3,d4,h1⟩:=h1
         have key:∃ob,(h'=hset s.h i ob)∧∀R:Bool→AV→AHeap→Prop,∀k:AHeap,R g v (hset k i ob)→(if len=m then (xs.length+rows.length)*(ty cx.P e).bytes≤140737488355328∧xs.length+rows.length≤140737488355328∧R true (.osl i kk (m+rows.length) 0 (m+rows.length)) (hset k i (.arr k' (xs++rows))) else len+rows.length≤m∧R true (.osl i kk m 0 (len+rows.length)) (hset k i (.arr k' (rput xs len rows)))):=by
          by_cases hlm:len=m
          ·rw [if_pos hlm] at h1
           obtain ⟨d6,d7,q2,q3,q4⟩:=h1
           refine ⟨_,q4.symm,fun R k hR=>?_⟩
           rw [if_pos hlm]
           rw [← q2,← q3] at hR
           exact ⟨d6,d7,hR⟩
          ·rw [if_neg hlm] at h1
           obtain ⟨d6,q2,q3,q4⟩:=h1
           refine ⟨_,q4.symm,fun R k hR=>?_⟩
           rw [if_neg hlm]
           rw [← q2,← q3] at hR
           exact ⟨d6,hR⟩
         obtain ⟨ob,rfl,key⟩:=key
         rw [ze hi] at hc
         simp only [Option.map_some,Option.some.injEq,Prod.mk.injEq] at hc
         obtain ⟨rfl,rfl⟩:=hc
         refine ⟨rfl,fun k hk R hR=>?_⟩
         unfold fop
         rw [hop]
         dsimp only
         rw [if_neg hv,hco k]
         refine ⟨hG,?_⟩
         unfold aeff zH
         dsimp only [atCx]
         rw [hcal]
         dsimp only
         rw [harg,e2]
         dsimp only
         rw [hte]
         dsimp only
         rw [hev k x,hev k y,znJ hk.1,hr]
         dsimp only
         rw [hx]
         dsimp only
         rw [hk.2,hi]
         exact ⟨c1,c2,c3,c4,c5,d1,d2,d3,d4,key _ k hR⟩
        ·exact h1.elim
       ·exact h1.elim
      ·exact h1.elim
     ·exact h1.elim
    ·cases hc
   ·cases hc
  ·-- len
   rename_i hcal
   split at hc
   ·rename_i x harg
    simp only [Option.some.injEq,Prod.mk.injEq] at hc
    obtain ⟨rfl,rfl⟩:=hc
    have hv:isVal (atCx cx nm).P (.call c)=true:=by simp [isVal,zbk,hcal,isX]
    refine ⟨hne (by rw [hop];simp [isEff,hcal]),fun k hk R hR=>?_⟩
    have h2:=h (fun g v _=>R g v k) hR
    unfold fop at h2 ⊢
    rw [hop] at h2 ⊢
    dsimp only at h2 ⊢
    rw [if_pos hv] at h2 ⊢
    have:aval (atCx cx nm).P { s with h:=k } (.call c)=aval (atCx cx nm).P s (.call c):=by
     simp only [aval,zb1,hcal,harg]
     split
     ·rename_i x' t e1 e2
      simp only [List.cons.injEq,and_true] at e1
      subst e1
      simp only [hev]
      rw [znK hk.1]
     ·rfl
    rw [this]
    exact h2
   ·cases hc
  ·-- min
   rename_i hcal
   simp only [Option.some.injEq,Prod.mk.injEq] at hc
   obtain ⟨rfl,rfl⟩:=hc
   have hv:isVal (atCx cx nm).P (.call c)=true:=by simp [isVal,zbk,hcal,isX]
   refine ⟨hne (by rw [hop];simp [isEff,hcal]),fun k hk R hR=>?_⟩
   have h2:=h (fun g v _=>R g v k) hR
   unfold fop at h2 ⊢
   rw [hop] at h2 ⊢
   dsimp only at h2 ⊢
   rw [if_pos hv] at h2 ⊢
   have:aval (atCx cx nm).P { s with h:=k } (.call c)=aval (atCx cx nm).P s (.call c):=by
    have he:AS.ev { s with h:=k } =s.ev:=funext (hev k)
    simp only [aval,zb1,hcal,he]
   rw [this]
   exact h2
  ·-- max
   rename_i hcal
   simp only [Option.some.injEq,Prod.mk.injEq] at hc
   obtain ⟨rfl,rfl⟩:=hc
   have hv:isVal (atCx cx nm).P (.call c)=true:=by simp [isVal,zbk,hcal,isX]
   refine ⟨hne (by rw [hop];simp [isEff,hcal]),fun k hk R hR=>?_⟩
   have h2:=h (fun g v _=>R g v k) hR
   unfold fop at h2 ⊢
   rw [hop] at h2 ⊢
   dsimp only at h2 ⊢
   rw [if_pos hv] at h2 ⊢
   have:aval (atCx cx nm).P { s with h:=k } (.call c)=aval (atCx cx nm).P s (.call c):=by
    have he:AS.ev { s with h:=k } =s.ev:=funext (hev k)
    simp only [aval,zb1,hcal,he]
   rw [this]
   exact h2
  ·-- a function's call
   split at hc
   ·rename_i hf
    simp only [Option.some.injEq,Prod.mk.injEq] at hc
    obtain ⟨rfl,rfl⟩:=hc
    obtain ⟨q1,q2⟩:=ff1 (by rw [hop];exact hf)
    rw [hop] at q1
    exact ⟨hne (by rw [hop];exact q1),fun k _ R hR=>q2 k R hR⟩
   ·cases hc
  ·cases hc
 all_goals (exact old (by rw [hop];rfl))
end
open Go
structure RG where
 o:Oper
 g:Bool
 v:AV
 c:Ch
 rd:List Nat
def appG (s:AS) (r:RG):AS:= { s with h:=r.c.app s.h }.put r.o.dst r.g r.v
def selG:List RG→(Nat→Bool)→AS→AS
 | [],_,s=>s
 |x::L,S,s=>selG L (fun i=>S (i+1)) (if S 0=true then appG s x else s)
def lexG (L:List RG) (n:Nat) (s:AS):AS:=selG L (fun i=>decide (i<n)) s
theorem zfD (s:AS) (r:RG):(appG s r).h=r.c.app s.h:=by
 unfold appG AS.put;cases r.o.dst<;>rfl
theorem zqd (s:AS) (r:RG):(appG s r).g=s.g:=by
 unfold appG AS.put;cases r.o.dst<;>rfl
theorem zgn (s:AS) (r:RG) (k:Nat):lk (appG s r).t k=if r.o.dst=some k then some (r.g,r.v) else lk s.t k:=by
 unfold appG
 rw [zlF]
theorem zhd:∀ (L:List RG) (S:Nat→Bool) (s:AS),(selG L S s).g=s.g
 | [],_,_=>rfl
 |x::L,S,s=>by
  rw [selG,zhd L]
  split
  ·exact zqd _ _
  ·rfl
theorem zeB {Q:Nat→Prop} :∀ (L:List RG) (S S':Nat→Bool) (s s':AS),(∀k,Q k→lk s.t k=lk s'.t k)→(∀ (i:Nat) (r:RG),L[i]?=some r→(∃d,r.o.dst=some d∧Q d)→S i=S' i)→
  ∀k,Q k→lk (selG L S s).t k=lk (selG L S' s').t k
 | [],_,_,_,_,h,_=>h
 | x::L,S,S',s,s',h,hS=>by
  refine zeB L _ _ _ _ (fun k hk=>?_) (fun i r hr hd=>hS (i+1) r (by simpa using hr) hd)
  by_cases hd:x.o.dst=some k
  ·rw [hS 0 x rfl ⟨k,hd,hk⟩]
   split
   ·rw [zgn,zgn,if_pos hd,if_pos hd]
   ·exact h k hk
  ·have e1:∀ (b:Bool) (u:AS),lk (if b=true then appG u x else u).t k=lk u.t k:=fun b u=>by
    split
    ·rw [zgn,if_neg hd]
    ·rfl
   rw [e1,e1]
   exact h k hk
theorem zdF {c:Ch} {h:AHeap} {k:Nat} (hc:c.at≠some k):hget (c.app h) k=hget h k:=by
 cases c with
 |none=>rfl
 |put i ob=>exact zr (fun e=>hc (by simp [Ch.at,e]))
 |new i ob=>
  have:i≠k:=fun e=>hc (by simp [Ch.at,e])
  simp [Ch.app,hget,this]
theorem zoL {c:Ch} {h h':AHeap} {k:Nat} (e:hget h k=hget h' k):hget (c.app h) k=hget (c.app h') k:=by
 by_cases hc:c.at=some k
 ·cases c with
  |none=>cases hc
  |put i ob=>
   simp only [Ch.at,Option.some.injEq] at hc
   subst hc
   simp only [Ch.app]
   cases hh:hget h i with
   |none=>rw [zc8 hh,zc8 (e ▸ hh)];exact e
   |some o=>rw [ze hh,ze (e ▸ hh)]
  |new i ob=>
   simp only [Ch.at,Option.some.injEq] at hc
   subst hc
   simp [Ch.app,hget]
 ·rw [zdF hc,zdF hc,e]
theorem zda (k:Nat):∀ (L:List RG) (S S':Nat→Bool) (s s':AS),hget s.h k=hget s'.h k→(∀ (i:Nat) (r:RG),L[i]?=some r→r.c.at=some k→S i=S' i)→hget (selG L S s).h k=hget (selG L S' s').h k
 | [],_,_,_,_,h,_=>h
 | x::L,S,S',s,s',h,hS=>by
  refine zda k L _ _ _ _ ?_ (fun i r hr hm=>hS (i+1) r (by simpa using hr) hm)
  by_cases hm:x.c.at=some k
  ·rw [hS 0 x rfl hm]
   split
   ·rw [zfD,zfD];exact zoL h
   ·exact h
  ·have e1:∀ (b:Bool) (u:AS),hget (if b=true then appG u x else u).h k=hget u.h k:=fun b u=>by
    split
    ·rw [zfD];exact zdF hm
    ·rfl
   rw [e1,e1]
   exact h
theorem zdG (k:Nat):∀ (L:List RG) (S:Nat→Bool) (s:AS),(∀ (i:Nat) (r:RG),L[i]?=some r→S i=true→r.c.at≠some k)→hget (selG L S s).h k=hget s.h k
 | [],_,_,_=>rfl
 | x::L,S,s,hS=>by
  rw [selG,zdG k L _ _ (fun i r hr hs=>hS (i+1) r (by simpa using hr) hs)]
  split
  ·rename_i h0
   rw [zfD]
   exact zdF (hS 0 x rfl h0)
  ·rfl
theorem zlK (k:Nat):∀ (L:List RG) (n:Nat) (r:RG) (S:Nat→Bool) (s:AS),L[n]?=some r→S n=false→
  (∀ (i:Nat) (r':RG),L[i]?=some r'→n<i→S i=true→r.c.at=some k→r'.c.at≠some k)→hget (selG L (fun i=>if i=n then true else S i) s).h k=hget (r.c.app (selG L S s).h) k
 | [],n,r,S,s,hr,_,_=>by simp at hr
 | x::L,0,r,S,s,hr,hS,hl=>by
  have:x=r:=by simpa using hr
  subst this
  simp only [selG,if_true,hS,Bool.false_eq_true,if_false,Nat.succ_ne_zero]
  by_cases hc:x.c.at=some k
  ·have hno:∀ (i:Nat) (r':RG),L[i]?=some r'→S (i+1)=true→r'.c.at≠some k:=fun i r' hr' hs'=>hl (i+1) r' (by simpa using hr') (by omega) hs' hc
   rw [zdG k L _ _ hno,zfD]
   exact zoL (zdG k L _ _ hno).symm
  ·rw [zdF hc]
   refine zda k L _ _ _ _ ?_ (fun _ _ _ _=>rfl)
   rw [zfD]
   exact zdF hc
 | x::L,n+1,r,S,s,hr,hS,hl=>by
  have e0:(if (0:Nat)=n+1 then true else S 0)=S 0:=if_neg (by omega)
  simp only [selG,e0]
  have e1:(fun i=>if i+1=n+1 then true else S (i+1))=(fun i=>if i=n then true else S (i+1)):=by
   funext i
   by_cases h:i=n
   ·simp [h]
   ·simp [h]
  rw [e1]
  exact zlK k L n r (fun i=>S (i+1)) _ (by simpa using hr) hS (fun i r' hr' hi hs'=>hl (i+1) r' (by simpa using hr') (by omega) hs')
theorem zbE:∀ (L:List RG) (s:AS),lexG L 0 s=s
 | [],s=>rfl
 |x::L,s=>by
  unfold lexG selG
  have:=zbE L s
  unfold lexG at this
  simpa using this
theorem zb6 (x:RG) (L:List RG) (n:Nat) (s:AS):lexG (x::L) (n+1) s=lexG L n (appG s x):=by
 unfold lexG
 rw [selG]
 simp
theorem zhe:∀ (L:List RG) (n:Nat) (s:AS) (r:RG),L[n]?=some r→lexG L (n+1) s=appG (lexG L n s) r
 | [],n,s,r,h=>by simp at h
 |x::L,0,s,r,h=>by
  have:x=r:=by simpa using h
  subst this
  rw [zb6,zbE,zbE]
 |x::L,n+1,s,r,h=>by
  rw [zb6,zb6]
  exact zhe L n _ r (by simpa using h)
section
variable {cx : Cx} {E E0 : Env} {s s' : AS} {a : Act} {w w0 : World} {h h' h0 : AHeap}
theorem zbt (hh:∀k,hget h k=hget h' k):Own E h=Own E h':=by
 funext b
 unfold Own
 simp only [hh]
theorem zdW (hh:∀k,hget h k=hget h' k) (i:Nat):GoesOn E h E h' i:=by
 unfold GoesOn
 rw [← hh]
 split<;>simp_all
theorem ziu (hh:∀k,hget h k=hget h' k) {x:AV} {v:Value} (hr:Rep w E h x v):Rep w E h' x v:=
 Rep.step (fun b _ hx=>by unfold Xs at hx ⊢;rwa [zbt hh]) (fun _ _ _=>rfl) x v (fun j _=>zdW hh j) hr
theorem SatH.ext (hs:SatH E h w) (hh:∀k,hget h k=hget h' k):SatH E h' w where
 heap:=fun i o ho=>by
  rw [← hh] at ho
  have:=hs.heap i o ho
  have hX:∀b,b<w.heap.size→Xs E h' b→Xs E h b:=fun b _ hx=>by unfold Xs at hx ⊢;rwa [zbt hh]
  cases o with
  |var cs=>
   simp only [RepObj] at this ⊢
   obtain ⟨b,d,T,fz,h1,h2,h3,h4⟩:=this
   exact ⟨b,d,T,fz,h1,h2,Reps.step hX (fun _ _ _=>rfl) _ _ (fun j _=>zdW hh j) h3,h4⟩
  |tvar tt cs=>
   simp only [RepObj] at this ⊢
   obtain ⟨b,d,T,fz,h1,h2,h3,h4⟩:=this
   exact ⟨b,d,T,fz,h1,h2,Reps.step hX (fun _ _ _=>rfl) _ _ (fun j _=>zdW hh j) h3,h4⟩
  |arr k xs=>
   simp only [RepObj] at this ⊢
   rcases this with g|⟨b,d,T,fz,h1,h2,h3,h4,h5,h6⟩
   ·exact .inl g
   ·exact .inr ⟨b,d,T,fz,h1,h2,h3,h4,RepRows.step hX (fun _ _ _=>rfl) _ _ _ h5,h6⟩
  |buf tt xs=>
   simp only [RepObj] at this ⊢
   rcases this with g|⟨b,d,T,fz,h1,h2,h3,h4,h5,h6⟩
   ·exact .inl g
   ·exact .inr ⟨b,d,T,fz,h1,h2,h3,h4,h5,h6⟩
  |strit l p=>exact this
  |omap es=>exact this
 inj:=fun i j b hi hj=>hs.inj i j b (by rwa [hh]) (by rwa [hh])
 own:=fun b hb=>hs.own b (by rwa [zbt hh])
 mlt:=hs.mlt
 nlt:=hs.nlt
theorem Sat.ext (hs:Sat cx E s a w) (ht:∀k,lk s.t k=lk s'.t k) (hh:∀k,hget s.h k=hget s'.h k) (hg:s.g=s'.g):Sat cx E s' a w where
 slots:=fun k g v hk=>by
  obtain ⟨x,h1,h2,h3⟩:=hs.slots k g v (by rw [ht];exact hk)
  exact ⟨x,h1,fun e=>ziu hh (h2 e),h3⟩
 nt:=hs.nt
 hp:=hs.hp.ext hh
 base:=hs.base
 marks:=hs.marks
 ghost:=by rw [← hg,← zbt hh];exact hs.ghost
theorem Evo.ext {fl:Nat} (he:Evo fl E0 h0 w0 E h w) (hh:∀k,hget h k=hget h' k):Evo fl E0 h0 w0 E h' w where
 os:=he.os
 tape:=he.tape
 output:=he.output
 size:=he.size
 keep:=he.keep
 own:=fun b hb=>he.own b (by rwa [zbt hh])
 m1:=he.m1
 m2:=he.m2
 n:=he.n
 go:=fun i hi hs=>by
  rw [← hh] at hs
  obtain ⟨g1,g2⟩:=he.go i hi hs
  exact ⟨g1,g2.trans (zdW hh i)⟩
theorem Evo.low {fl fl':Nat} (he:Evo fl' E0 h0 w0 E h w) (hl:fl≤fl'):Evo fl E0 h0 w0 E h w:=
 ⟨he.os,he.tape,he.output,he.size,he.keep,he.own,he.m1,he.m2,he.n,fun i hi=>he.go i (by omega)⟩
theorem Sat.at {nm:Nat} (hs:Sat cx E s a w):Sat (atCx cx nm) E s a w:=⟨hs.slots,hs.nt,hs.hp,hs.base,hs.marks,hs.ghost⟩
theorem Sat.un {nm:Nat} (hs:Sat (atCx cx nm) E s a w):Sat cx E s a w:=⟨hs.slots,hs.nt,hs.hp,hs.base,hs.marks,hs.ghost⟩
theorem Reach.un {nm:Nat} (hl:cx.fl≤nm) {K:AS→Prop} (hr:Reach (atCx cx nm) E h w K a w0):Reach cx E h w K a w0:=by
 obtain ⟨E1,s1,hk,hs,he⟩:=hr
 exact ⟨E1,s1,hk,hs.un,he.low hl⟩
end
def ownR (o:AV):List D→AV
 | []=>o
 |d::ds=> .tup (o::(d::ds).map .d)
theorem zhf:∀ds:List D,AV.idsL (ds.map .d)= []
 | []=>rfl
 |_::ds=>by simp only [List.map_cons,AV.idsL,AV.ids,zhf ds,List.append_nil]
theorem zoM {P:Program} {f:FuncId} {args:List AV} {k:Nat} {rows:List (List D)} {ds:List D} {h:AHeap} {nm fl j0:Nat} (hc:ACall P f 0 args [] (fun r h'=>r=ownR (.osl j0 k rows.length 0 rows.length) ds∧h'= [(j0,.arr k rows)])) (hids:AV.idsL args= []) (hnm:hget h nm=none) (hfl:fl≤nm):
    ACallAt P fl f args h (fun r h'=>r=ownR (.osl nm k rows.length 0 rows.length) ds∧h'=(nm,.arr k rows)::h):=by
  obtain ⟨hen,hc⟩:=hc
  refine ⟨hen,fun E w vs hs hr=>?_⟩
  have hno:∀ (E:Env) b,¬Own E [] b:=fun E b ⟨i,hi,_⟩=>by simp [hget] at hi
  have hs0:SatH (bare (Xs E h)) [] w:=⟨fun i o ho=>by simp [hget] at ho,fun i j b h1=>by simp [hget] at h1,fun b hb=>absurd hb (hno _ b),fun _ h=>h.elim,fun b hb=>by
    rcases hb with hb|hb|hb
    · exact (hs.own b hb).1
    · exact hs.mlt b hb
    · exact hs.nlt b hb⟩
  have hX0:∀b,b<w.heap.size→Xs (bare (Xs E h)) [] b→Xs E h b:=fun b _ hx=>by
    rcases hx with hx|hx|hx
    · exact absurd hx (hno _ b)
    · exact hx.elim
    · exact hx
  have hr0:Reps w (bare (Xs E h)) [] args vs.toList:=Reps.step hX0 (fun _ _ _=>rfl) _ _ (by rw [hids];simp) hr
  refine (hc _ w vs hs0 hr0).mono ?_
  rintro e w' ⟨v,E',r',h1,rfl,⟨rfl,rfl⟩,hs',hr',hev⟩
  have hkeep:∀b,b<w.heap.size→w'.heap[b]?=w.heap[b]?:=fun b hb=>hev.keep b hb (hno _ b)
  obtain ⟨E2,hE2⟩:∃E2,E2=E.set nm (E'.O j0) (E'.C j0):=⟨_,rfl⟩
  have hO:E2.O nm=E'.O j0:=by rw [hE2];simp [Env.set]
  have hC:E2.C nm=E'.C j0:=by rw [hE2];simp [Env.set]
  have hob:=hs'.heap j0 (.arr k rows) (by simp [hget])
  have hlt:∀b,E'.O j0=some b→w.heap.size≤b∧b<w'.heap.size:=fun b hb=>by
    have ho:Own E' [(j0,.arr k rows)] b:=⟨j0,by simp [hget],hb⟩
    exact ⟨(hev.own b ho).elim (fun h=>absurd h (hno _ b)) id,(hs'.own b ho).1⟩
  have c:Chg E h w E2 ((nm,.arr k rows)::h) w' nm:=
    { os:=hev.os,tape:=hev.tape,output:=hev.output,size:=hev.size
      envO:=fun j e=>by rw [hE2];simp [Env.set,e]
      envC:=fun j e=>by rw [hE2];simp [Env.set,e]
      M:=by rw [hE2];rfl
      N:=by rw [hE2];rfl
      hh:=fun j e=>by simp [hget,Ne.symm e]
      gi:=by unfold GoesOn;rw [hnm];trivial
      blk:=fun b hb _=>hkeep b hb
      new:=fun b _ hb=> .inr (hlt b (by rw [← hO];exact hb)) }
  have hXn:∀b,b<w'.heap.size→Xs E2 ((nm,.arr k rows)::h) b→Xs E' [(j0,.arr k rows)] b:=fun b _ hx=>by
    have hN:∀b,Xs E h b→Xs E' [(j0,.arr k rows)] b:=fun b hx=> .inr (.inr (by rw [hev.n];exact hx))
    rcases hx with ⟨j,hj,hb⟩|hx|hx
    · by_cases e:j=nm
      · subst e
        exact .inl ⟨j0,by simp [hget],by rw [← hO];exact hb⟩
      · exact hN b (.inl ⟨j,by simpa [hget,Ne.symm e] using hj,by rw [← c.envO j e];exact hb⟩)
    · exact hN b (.inr (.inl (by rwa [c.M] at hx)))
    · exact hN b (.inr (.inr (by rwa [c.N] at hx)))
  have hs2:SatH E2 ((nm,.arr k rows)::h) w':=c.satH hs (fun o ho=>by
    simp only [hget,if_true,Option.some.injEq] at ho
    subst ho
    simp only [RepObj,hO,hC] at hob ⊢
    rcases hob with g|⟨b,d,T,fz,h1,h2,h3,h4,h5,h6⟩
    · exact .inl g
    · exact .inr ⟨b,d,T,fz,h1,h2,h3,h4,RepRows.step hXn (fun _ _ _=>rfl) _ _ _ h5,h6⟩)
  refine ⟨v,E2,_,_,rfl,⟨rfl,rfl⟩,hs2,?_,?_,fun x y hxy=>c.rep hxy⟩
  · have base:∀v,Rep w' E' [(j0,.arr k rows)] (.osl j0 k rows.length 0 rows.length) v→Rep w' E2 ((nm,.arr k rows)::h) (.osl nm k rows.length 0 rows.length) v:=by
      intro v hr'
      simp only [Rep] at hr' ⊢
      obtain ⟨q1,xs,q2,q3,q4,q5⟩:=hr'
      simp only [hget,if_true,Option.some.injEq,AObj.arr.injEq] at q2
      obtain ⟨-,rfl⟩:=q2
      refine ⟨q1,rows,by simp [hget],q3,q4,?_⟩
      rw [hO,hC]
      exact q5
    cases ds with
    |nil=>exact base v hr'
    | cons d ds=>
      simp only [ownR] at hr' ⊢
      rw [Rep] at hr' ⊢
      obtain ⟨vs,rfl,hr'⟩:=hr'
      rw [Reps] at hr'
      obtain ⟨x,r,e,h2,h3⟩:=hr'
      refine ⟨vs,rfl,?_⟩
      rw [Reps]
      exact ⟨x,r,e,base x h2,Reps.step hXn (fun _ _ _=>rfl) _ _ (by rw [zhf];simp) h3⟩
  · have ev:=c.evo (fl:=fl) (.inr hfl)
    exact ⟨ev.os,ev.tape,ev.output,ev.size,fun b hb _=>hkeep b hb,ev.own,c.M,c.N,ev.go⟩
theorem EvoC.ext {E E':Env} {h0 h h1 h':AHeap} {w w':World} {fl fl':Nat} (he:EvoC fl E h0 w E' h w') (h0e:∀k,hget h0 k=hget h1 k) (hh:∀k,hget h k=hget h' k) (hfl:∀k,(hget h k).isSome→k<fl∨fl'≤k):EvoC fl' E h1 w E' h' w' where
 os:=he.os
 tape:=he.tape
 output:=he.output
 size:=he.size
 keep:=fun b hb hn=>he.keep b hb (by rwa [zbt h0e])
 own:=fun b hb=>by
  rw [← zbt hh] at hb
  rw [← zbt h0e]
  exact he.own b hb
 m:=he.m
 n:=he.n
 go:=fun i hi hs=>by
  rw [← hh] at hs
  rcases hfl i hs with hl|hl
  ·obtain ⟨g1,g2⟩:=he.go i hl hs
   exact ⟨by rwa [← h0e],((zdW (fun k=>(h0e k).symm) i).trans g2).trans (zdW hh i)⟩
  ·omega
theorem ACall.ext {P:Program} {f:FuncId} {args:List AV} {fl fl':Nat} {h h':AHeap} {K:AV→AHeap→Prop} (hc:ACall P f fl args h K) (hh:∀k,hget h k=hget h' k) (hfl:∀r h2,K r h2→∀k,(hget h2 k).isSome→k<fl∨fl'≤k):ACall P f fl' args h' K:=by
 refine ⟨hc.1,fun E w vs hs hr=>?_⟩
 have hh':∀k,hget h' k=hget h k:=fun k=>(hh k).symm
 refine (hc.2 E w vs (hs.ext hh') (Reps.step (fun b _ hx=>by unfold Xs at hx ⊢;rwa [zbt hh']) (fun _ _ _=>rfl) _ _ (fun j _=>zdW hh' j) hr)).mono ?_
 rintro e w' ⟨v,E',r,h2,rfl,hk,hs',hr',hev⟩
 exact ⟨v,E',r,h2,rfl,hk,hs',hr',hev.ext hh (fun _=>rfl) (hfl r h2 hk)⟩
def inHp:AHeap→AHeap→Prop
 | [],_=>True
 |(i,o)::r,h=>hget h i=some o∧inHp r h
def hup:AHeap→AHeap→AHeap
 | [],h=>h
 |(i,o)::r,h=>hset (hup r h) i o
theorem zed:∀ {hp h:AHeap},inHp hp h→∀ {k:Nat} {o:AObj},hget hp k=some o→hget h k=some o
  | [],_,_,k,o,hk=>by simp [hget] at hk
  | (i,x)::r,h,hh,k,o,hk=>by
    simp only [hget] at hk
    split at hk
    · rename_i e;subst e;cases hk;exact hh.1
    · exact zed hh.2 hk
theorem zjm {h:AHeap} :∀ {hp:AHeap},(∀i,(hget hp i).isSome→(hget h i).isSome)→∀k,hget (hup hp h) k=(hget hp k).or (hget h k)
  | [],_,k=>by simp [hup,hget]
  | (i, o)::r,hh,k=>by
    have h0:∀j,(hget r j).isSome→(hget h j).isSome:=fun j hj=>by
      have:=hh j
      simp only [hget] at this
      split at this
      · exact this rfl
      · exact this hj
    have ih:=zjm h0
    simp only [hup,hget]
    by_cases e:i=k
    · subst e
      obtain ⟨o',ho'⟩:∃o',hget (hup r h) i=some o':=by
        rw [ih]
        have:=hh i (by simp [hget])
        cases hr:hget r i with
        |none=>obtain ⟨o',e⟩:=Option.isSome_iff_exists.1 this;exact ⟨o',by simp [e]⟩
        |some y=>exact ⟨y,rfl⟩
      rw [if_pos rfl,ze ho']
      rfl
    · rw [if_neg e,zr (Ne.symm e),ih]
theorem zaj {P:Program} {f:FuncId} {args:List AV} {r0:AV} {h hp hp':AHeap} {fl1 fl:Nat} (hc:ACall P f fl1 args hp (fun r h'=>r=r0∧h'=hp')) (hi:(hp.all fun q=>decide (q.1<fl1))=true) (hg:inHp hp h) (hcl:inH hp (idsH hp)) (ha:inH hp (AV.idsL args)) (hsame:hp'.map (·.1)=hp.map (·.1)):
  ACallAt P fl f args h (fun r h'=>r=r0∧h'=hup hp' h):=by
 have hin:∀ {q:AHeap} {k:Nat},(hget q k).isSome↔k∈q.map (·.1):=fun {q} {k} =>by
  induction q with
  |nil=>simp [hget]
  | cons x r ih=>
   obtain ⟨i,o⟩:=x
   simp only [hget,List.map_cons,List.mem_cons]
   by_cases e:i=k
   ·simp [e]
   ·rw [if_neg e,ih]
    exact ⟨.inr,fun h=>h.resolve_left (Ne.symm e)⟩
 have hsm:∀k,(hget hp' k).isSome↔(hget hp k).isSome:=fun k=>by rw [hin,hin,hsame]
 have hlt1:=zat hi
 obtain ⟨fl2,hfl2⟩:∃fl2,fl2=top fl h:=⟨_,rfl⟩
 have hlt:∀j,(hget h j).isSome→j<fl2:=fun j hj=>by rw [hfl2];exact zli hj
 obtain ⟨p,hp0⟩:∃p:Nat→Bool,p=fun j=>(hget hp j).isSome||decide (fl2≤j):=⟨_,rfl⟩
 have hpi:∀j,(hget hp j).isSome→p j=true:=fun j hj=>by rw [hp0];simp [hj]
 have hpj:∀j,(hget h j).isSome→p j=true→(hget hp j).isSome:=fun j hj hpj=>by
  have:=hlt j hj
  rw [hp0] at hpj
  have:(hget hp j).isSome=true∨fl2≤j:=by simpa using hpj
  exact this.resolve_right (by omega)
 have hsub:∀j,(hget hp j).isSome→(hget h j).isSome:=fun j hj=>by
  obtain ⟨o,ho⟩:=Option.isSome_iff_exists.1 hj
  rw [zed hg ho];rfl
 have he1:∀k,hget hp k=hget (hsel p h) k:=fun k=>by
  rw [zk]
  cases hk:hget hp k with
  |some o=>rw [if_pos (hpi k (by simp [hk])),zed hg hk]
  | none=>
   split
   ·rename_i hpk
    cases hh:hget h k with
    |none=>rfl
    |some o=>
     have:=hpj k (by simp [hh]) hpk
     rw [hk] at this;cases this
   ·rfl
 have hc2:=hc.ext (fl':=fl2) he1 (fun r h2 hk k hs=> .inl (by
  obtain ⟨_,rfl⟩:=hk
  exact hlt1 k ((hsm k).1 hs)))
 have:=ACall.frame (fl':=fl) hc2 hlt (fun j hj=>by rw [hp0];simp;exact .inr hj) (fun j o ho hpj' k hk=>by
  obtain ⟨o',ho'⟩:=Option.isSome_iff_exists.1 (hpj j (by simp [ho]) hpj')
  have e:=zed hg ho'
  rw [ho] at e;cases e
  refine hpi k (zb0 hcl k ?_)
  have hm:∀ {q:AHeap} {j:Nat} {o:AObj},hget q j=some o→∀k∈o.ids,k∈idsH q:=fun {q} =>by
   induction q with
   |nil=>intro j o hj;simp [hget] at hj
   |cons x r ih=>
    obtain ⟨i,y⟩:=x
    intro j o hj k hk
    simp only [hget] at hj
    simp only [idsH,List.mem_append]
    split at hj
    ·cases hj;exact .inl hk
    ·exact .inr (ih hj k hk)
  exact hm ho' k hk) (fun j hj=>hpi j (zb0 ha j hj)) (by rw [hfl2];exact zcZ _ _) (fun r h' hk=>by
  obtain ⟨_,rfl⟩:=hk
  exact ⟨fun j hj hpj'=>(hsm j).2 (hpj j hj hpj'),fun j hj=>hpi j ((hsm j).1 hj)⟩)
 refine ⟨this.1,fun E w vs hs hr=>(this.2 E w vs hs hr).mono ?_⟩
 rintro e w' ⟨v,E',r,h2,rfl,⟨h1,⟨rfl,rfl⟩,rfl⟩,hs',hr',hev,hmv⟩
 have hex:∀k,hget (h1++hsel (fun j=> !p j) h) k=hget (hup h1 h) k:=fun k=>by
  rw [zaK,zk,zjm (fun j hj=>hsub j ((hsm j).1 hj))]
  cases hk:hget h1 k with
  |some o=>rfl
  | none=>
   simp only [Option.none_or]
   split
   ·rfl
   ·rename_i hpk
    cases hh:hget h k with
    |none=>rfl
    |some o=>
     have:=(hsm k).2 (hpj k (by simp [hh]) (by simpa using hpk))
     rw [hk] at this;cases this
 exact ⟨v,E',r,_,rfl,⟨rfl,rfl⟩,hs'.ext hex,ziu hex hr',hev.ext (fun _=>rfl) hex (fun k hk=>(Nat.lt_or_ge k fl).imp id id),fun x y hxy=>ziu hex (hmv x y hxy)⟩
theorem zlL {h:AHeap} :∀ {l:List Nat},(∀i∈l,(hget h i).isSome)→inH h l
 | [],_=>trivial
 |i::r,hh=>⟨hh i List.mem_cons_self,zlL fun j hj=>hh j (List.mem_cons_of_mem _ hj)⟩
theorem zan {P:Program} {f:FuncId} {args:List AV} {r0:AV} {h:AHeap} {i fl1 fl:Nat} {ob ob':AObj} (hc:ACall P f fl1 args [(i,ob)] (fun r h'=>r=r0∧h'= [(i,ob')])) (hi:i<fl1) (hg:hget h i=some ob) (hcl:∀j∈ob.ids,j=i) (ha:∀j∈AV.idsL args,j=i):
  ACallAt P fl f args h (fun r h'=>r=r0∧h'=hset h i ob'):=
 zaj hc (by simpa using hi) ⟨hg,trivial⟩ (zlL fun j hj=>by
  simp only [idsH,List.append_nil] at hj
  simp [hget,hcl j hj]) (zlL fun j hj=>by simp [hget,ha j hj]) rfl
theorem ziv {h k:AHeap} :∀ {hp:AHeap},inHp hp h→(∀i∈hp.map (·.1),hget k i=hget h i)→inHp hp k
 | [],_,_=>trivial
 |(i,o)::r,hh,he=>⟨(he i (by simp)).trans hh.1,ziv hh.2 fun j hj=>he j (by simp at hj ⊢;exact .inr hj)⟩
theorem zgo {h:AHeap} :∀ {hp:AHeap},inHp hp h→hup hp h=h
 | [],_=>rfl
 |(i,o)::r,hh=>by rw [hup,zgo hh.2,zdx hh.1]
def gop (cx:Cx) (tab:Tab) (owns:List FuncId) (nm:Nat) (s:AS) (G:Bool) (o:Oper) (R:Bool→AV→Ch→List Nat→Prop):Prop:=
 let other:=fop (atCx cx nm) tab s G o (fun g v h'=>match chOf nm cx.P s o.op h' with|some (c,rd)=>R g v c rd|none=>False)
 match o.op with
 | .call c=>(match z6 cx.P s c with
  |some (f,args,vc)=>if owns.contains f=true then G=true∧vc∧AV.idsL args= []∧∃k rows,(∀fl,ACall cx.P f fl args [] (fun r h'=>r= .osl fl k rows.length 0 rows.length∧h'= [(fl,.arr k rows)]))∧R true (.osl nm k rows.length 0 rows.length) (.new nm (.arr k rows)) []
   else if owns.contains (f+1000000)=true then G=true∧vc∧∃i fl1 ob r0 ob',hget s.h i=some ob∧i<fl1∧(∀j∈ob.ids,j=i)∧(∀j∈AV.idsL args,j=i)∧ACall cx.P f fl1 args [(i,ob)] (fun r h'=>r=r0∧h'= [(i,ob')])∧R true r0 (.put i ob') []
   else if owns.contains (f+3000000)=true then G=true∧vc∧AV.idsL args= []∧∃j k rows d,ACall cx.P f 0 args [] (fun r h'=>r= .tup [.osl j k rows.length 0 rows.length,.d d]∧h'= [(j,.arr k rows)])∧R true (.tup [.osl nm k rows.length 0 rows.length,.d d]) (.new nm (.arr k rows)) []
   else if owns.contains (f+2000000)=true then G=true∧vc∧∃hp fl1 r0,(hp.all fun q=>decide (q.1<fl1))=true∧inHp hp s.h∧inH hp (idsH hp)∧inH hp (AV.idsL args)∧ACall cx.P f fl1 args hp (fun r h'=>r=r0∧h'=hp)∧R true r0 .none (hp.map (·.1))
   else if owns.contains (f+4000000)=true then G=true∧vc∧∃i ob ob' hp fl1 r0,(((i,ob)::hp).all fun q=>decide (q.1<fl1))=true∧inHp ((i,ob)::hp) s.h∧inH ((i,ob)::hp) (idsH ((i,ob)::hp))∧inH ((i,ob)::hp) (AV.idsL args)∧ACall cx.P f fl1 args ((i,ob)::hp) (fun r h'=>r=r0∧h'=(i,ob')::hp)∧R true r0 (.put i ob') (hp.map (·.1)) else other
  |none=>other)
 | .build _ _=>(match G with
  |true=>other
  |false=>R false .any .none [])
 |_=>other
def touch (a b:Option Nat×List Nat):Bool:=match a.1 with
 |none=>false
 |some i=>b.1==some i||b.2.contains i
def confG (all:Array Oper) (fa fb:Option Nat×List Nat) (a b:Oper):Bool:=
 (match a.dst with
  |some d=>(zgk all b).contains d||b.dst==some d
  |none=>false)||
 (match b.dst with
  |some d=>(zgk all a).contains d
  |none=>false)||
 (touch fa fb||touch fb fa)
def zbe (ops:Array Oper) (F:List (Option Nat×List Nat)):Bool:=
 (List.range ops.size).all fun j=>match ops[j]? with
  |some b=>(b.after.toList.all fun e=> !Region.binds .any e||decide (e.on<j))&&(List.range j).all fun i=>match ops[i]? with
   |some a=> !confG ops (F.getD i (none,[])) (F.getD j (none,[])) a b||anc ops (j+1) j i
   |none=>true
  |none=>true
def zoN (ops:Array Oper) (k:Nat):Bool:=(List.range ops.size).all fun j=>decide (j<k)||(List.range j).all fun i=>anc ops (j+1) j i
def zoO (op:Op):Bool:=match op with
 | .call c=>(match c.callee with| .builtin .copy=>true| .builtin .clear=>true|_=>false)
 | .mapUpdate _ _ _ _=>true
 | .box _ _=>true
 |_=>false
def isYop (P:Program) (s:AS) (op:Op):Bool:=match op with
 | .call c=>(match zcG P s c with|some _=>true|none=>false)
 |_=>false
def gops (cx:Cx) (tab:Tab) (owns:List FuncId) (all:Array Oper):Nat→List Oper→List (Option Nat×List Nat)→(AS→Prop)→AS→Prop
 |_,[],F,K,s=>zbe all F.reverse=true∧K s
 | nm,o::r,F,K,s=>match zaa s all o.guard with
  |some G=>if (isYop cx.P s o.op||r.isEmpty&&(owns.contains 0||zoO o.op))=true then zbe all F.reverse=true∧zoN all F.length=true∧aopsY cx tab all (o::r) K s
   else dstOk cx.nt o.dst∧hget s.h nm=none∧gop cx tab owns nm s G o (fun g v c rd=>gops cx tab owns all (nm+1) r ((c.at,rd)::F) K ({ s with h:=c.app s.h }.put o.dst g v))
  |none=>False
section
variable {cx : Cx} {tab : Tab} {owns : List FuncId} {ops : Array Oper} {s : AS}
structure GLoc (cx:Cx) (all:Array Oper) (s:AS) (r:RG):Prop where
 put:∀i ob,r.c= .put i ob→(hget s.h i).isSome
 new:∀i ob,r.c= .new i ob→hget s.h i=none
 step:∃G,zaa s all r.o.guard=some G∧∀s':AS,(∀x∈zX r.o.op,s.ev x=s'.ev x∧known s x=known s' x)→zaa s' all r.o.guard=some G→zgm s.h r.c r.rd s'.h→
  ∀ (E:Env) (a:Act) (w:World) (K:AS→Prop) (Q:Exit→Act→World→Prop),Sat cx E s' a w→K ({ s' with h:=r.c.app s'.h }.put r.o.dst r.g r.v)→
   if Region.wanted r.o (yielded all a.tmps) then r.o.wpIn cx.F 0 cx.P a w (Reach cx E s'.h w K) Q else (∀f,r.o.about cx.P w a.eval=some f→cx.F.fn f)∧Reach cx E s'.h w K (a.put r.o.dst undef) w
def Shaped (nm:Nat) (h':AHeap) (c:Ch):Prop:=(∀i ob,c= .put i ob→hget h' i=some ob)∧(∀i ob,c= .new i ob→i=nm)
theorem zeC {nm:Nat} {h':AHeap} :Shaped nm h' .none:=by
 constructor
 ·intro i ob e;cases e
 ·intro i ob e;cases e
theorem zfE {nm:Nat} {h':AHeap} {ob:AObj} :Shaped nm h' (.new nm ob):=by
 constructor
 ·intro i ob e;cases e
 ·intro i ob e;cases e;rfl
theorem zkj {nm i:Nat} {h':AHeap} {ob:AObj} (h:hget h' i=some ob):Shaped nm h' (.put i ob):=by
 constructor
 ·intro i ob e;cases e;exact h
 ·intro i ob e;cases e
theorem zeD {nm:Nat} {h':AHeap} {c:Ch} {rd l:List Nat} (h:(hget h' nm).map (fun ob=>(Ch.new nm ob,l))=some (c,rd)):Shaped nm h' c:=by
 obtain ⟨ob,e1,e2⟩:=Option.map_eq_some_iff.1 h
 cases e2
 exact zfE
theorem zeE {nm i:Nat} {h':AHeap} {c:Ch} {rd l:List Nat} (h:(hget h' i).map (fun ob=>(Ch.put i ob,l))=some (c,rd)):Shaped nm h' c:=by
 obtain ⟨ob,e1,e2⟩:=Option.map_eq_some_iff.1 h
 cases e2
 exact zkj e1
theorem zU {nm:Nat} {h':AHeap} {c:Ch} {rd l:List Nat} (h:some (Ch.none,l)=some (c,rd)):Shaped nm h' c:=by
 cases h
 exact zeC
theorem znM {nm:Nat} {P:Program} {op:Op} {h':AHeap} {c:Ch} {rd:List Nat} (hc:chOf nm P s op h'=some (c,rd)):Shaped nm h' c:=by
 unfold chOf at hc
 split at hc
 case h_1=>exact zeD hc
 case h_2=>
  simp only [Option.some.injEq] at hc
  split at hc
  ·cases hc;exact zfE
  ·cases hc;exact zeC
 case h_3=>exact zeD hc
 case h_4=>exact zU hc
 case h_5=>exact zU hc
 case h_6=>
  split at hc
  ·exact zU hc
  ·cases hc
 case h_7=>exact zU hc
 case h_8=>exact zU hc
 case h_9=>
  split at hc
  ·split at hc
   ·split at hc
    ·exact zeE hc
    ·cases hc
   ·cases hc
  ·split at hc
   ·exact zU hc
   ·cases hc
  ·exact zU hc
  ·exact zU hc
  ·split at hc
   ·exact zU hc
   ·cases hc
  ·cases hc
 case h_10=>
  split at hc
  ·exact zU hc
  ·split at hc
   ·exact zeE hc
   ·exact zU hc
  ·cases hc
theorem zpf (ht:TabOk cx.P tab) {nm:Nat} {G:Bool} {o:Oper} {R:Bool→AV→Ch→List Nat→Prop} (hG:zaa s ops o.guard=some G) (hd:dstOk cx.nt o.dst) (hnm:hget s.h nm=none) (hl:cx.fl≤nm) (h:gop cx tab owns nm s G o R):
  ∃g v c rd,R g v c rd∧GLoc cx ops s ⟨o,g,v,c,rd⟩:=by
 have other:fop (atCx cx nm) tab s G o (fun g v h'=>match chOf nm cx.P s o.op h' with|some (c,rd)=>R g v c rd|none=>False)→∃g v c rd,R g v c rd∧GLoc cx ops s ⟨o,g,v,c,rd⟩:=by
  intro h
  obtain ⟨g,v,h',h1,h2,h3⟩:=zpd h
  split at h1
  ·rename_i c rd hc
   obtain ⟨q1,q2⟩:=znL hnm h2 h3 hc
   obtain ⟨p1,p2⟩:=znM hc
   refine ⟨g,v,c,rd,h1,fun i ob e=>?_,fun i ob e=>?_,G,hG,?_⟩
   ·have hi:=p1 i ob e
    have e:c= .put i ob:=e
    rw [q1,e] at hi
    cases hh:hget s.h i with
    |none=>simp only [Ch.app] at hi;rw [zc8 hh,hh] at hi;cases hi
    |some o=>rfl
   ·have e:c= .new i ob:=e
    rw [p2 i ob e];exact hnm
   ·intro s' hev hgd hgood E a w K Q hs hK
    dsimp only at hev hgd hgood hK ⊢
    have hf:fop (atCx cx nm) tab s' G o (fun g v h'=>K ({ s' with h:=h' }.put o.dst g v)):=by
     refine fop_e (s:= { s with h:=s'.h }) (fun x hx=>?_) rfl (q2 s'.h hgood _ hK)
     have:=hev x hx
     have e1:AS.ev { s with h:=s'.h } x=s.ev x:=by cases x<;>rfl
     have e2:known { s with h:=s'.h } x=known s x:=by cases x<;>rfl
     rw [e1,e2]
     exact this
    have hw:=zdB (cx:=atCx cx nm) ht (Q:=fun _ _ _=>False) (E:=E) hs.at hgd (znD (K:=K) hd hf)
    split at hw
    ·rename_i hwt
     rw [if_pos hwt]
     exact zZ hw (fun a w hr=>hr.un hl)
    ·rename_i hwt
     rw [if_neg hwt]
     exact ⟨hw.1,hw.2.un hl⟩
  ·exact h1.elim
 unfold gop at h
 dsimp only at h
 split at h
 ·rename_i c hop
  split at h
  ·rename_i f args vc hco
   split at h
   ·obtain ⟨rfl,hvc,hids,k,rows,hcall,hR⟩:=h
    refine ⟨true,_,_,_,hR,(by intro i ob e;cases e),(by intro i ob e;cases e;exact hnm),true,hG,?_⟩
    intro s' hev hgd hgood E a w K Q hs hK
    dsimp only at hev hgd hgood hK ⊢
    rw [hop] at hev
    have hnv:¬isVal cx.P (.call c)=true:=by rw [zby hco];decide
    have hco':z6 cx.P s' c=some (f,args,vc):=by rw [← zco (fun x hx=>(hev x hx).1)];exact hco
    rw [zaE hs.slots hgd]
    simp only [if_true]
    refine zcF hs hd ?_
    unfold aop1
    rw [hop]
    simp only [if_neg hnv,hco']
    refine ⟨hvc,(zoM (ds:= []) (hcall 0) hids hgood.2 hl).mono ?_⟩
    rintro r' h' ⟨rfl,rfl⟩
    exact hK
   split at h
   ·obtain ⟨rfl,hvc,i,fl1,ob,r0,ob',hgi,hil,hcl,ha,hcall,hR⟩:=h
    refine ⟨true,_,_,_,hR,(by intro i ob e;cases e;simp [hgi]),(by intro i ob e;cases e),true,hG,?_⟩
    intro s' hev hgd hgood E a w K Q hs hK
    dsimp only at hev hgd hgood hK ⊢
    rw [hop] at hev
    have hnv:¬isVal cx.P (.call c)=true:=by rw [zby hco];decide
    have hco':z6 cx.P s' c=some (f,args,vc):=by rw [← zco (fun x hx=>(hev x hx).1)];exact hco
    rw [zaE hs.slots hgd]
    simp only [if_true]
    refine zcF hs hd ?_
    unfold aop1
    rw [hop]
    simp only [if_neg hnv,hco']
    refine ⟨hvc,(zan hcall hil (hgood.2.trans hgi) hcl ha).mono ?_⟩
    rintro r' h' ⟨rfl,rfl⟩
    exact hK
   split at h
   ·obtain ⟨rfl,hvc,hids,j,k,rows,d,hcall,hR⟩:=h
    refine ⟨true,_,_,_,hR,(by intro i ob e;cases e),(by intro i ob e;cases e;exact hnm),true,hG,?_⟩
    intro s' hev hgd hgood E a w K Q hs hK
    dsimp only at hev hgd hgood hK ⊢
    rw [hop] at hev
    have hnv:¬isVal cx.P (.call c)=true:=by rw [zby hco];decide
    have hco':z6 cx.P s' c=some (f,args,vc):=by rw [← zco (fun x hx=>(hev x hx).1)];exact hco
    rw [zaE hs.slots hgd]
    simp only [if_true]
    refine zcF hs hd ?_
    unfold aop1
    rw [hop]
    simp only [if_neg hnv,hco']
    refine ⟨hvc,(zoM (ds:= [d]) hcall hids hgood.2 hl).mono ?_⟩
    rintro r' h' ⟨rfl,rfl⟩
    exact hK
   split at h
   ·obtain ⟨rfl,hvc,hp,fl1,r0,hil,hgi,hcl,ha,hcall,hR⟩:=h
    refine ⟨true,_,_,_,hR,(by intro i ob e;cases e),(by intro i ob e;cases e),true,hG,?_⟩
    intro s' hev hgd hgood E a w K Q hs hK
    dsimp only at hev hgd hgood hK ⊢
    rw [hop] at hev
    have hnv:¬isVal cx.P (.call c)=true:=by rw [zby hco];decide
    have hco':z6 cx.P s' c=some (f,args,vc):=by rw [← zco (fun x hx=>(hev x hx).1)];exact hco
    rw [zaE hs.slots hgd]
    simp only [if_true]
    refine zcF hs hd ?_
    unfold aop1
    rw [hop]
    simp only [if_neg hnv,hco']
    have hgs:=ziv hgi hgood.1
    refine ⟨hvc,(zaj hcall hil hgs hcl ha rfl).mono ?_⟩
    rintro r' h' ⟨rfl,rfl⟩
    rw [zgo hgs]
    exact hK
   split at h
   ·obtain ⟨rfl,hvc,i,ob,ob',hp,fl1,r0,hil,hgi,hcl,ha,hcall,hR⟩:=h
    refine ⟨true,_,_,_,hR,(by intro j o2 e;cases e;simp [hgi.1]),(by intro i ob e;cases e),true,hG,?_⟩
    intro s' hev hgd hgood E a w K Q hs hK
    dsimp only at hev hgd hgood hK ⊢
    rw [hop] at hev
    have hnv:¬isVal cx.P (.call c)=true:=by rw [zby hco];decide
    have hco':z6 cx.P s' c=some (f,args,vc):=by rw [← zco (fun x hx=>(hev x hx).1)];exact hco
    rw [zaE hs.slots hgd]
    simp only [if_true]
    refine zcF hs hd ?_
    unfold aop1
    rw [hop]
    simp only [if_neg hnv,hco']
    have hgs:=ziv hgi.2 hgood.1
    refine ⟨hvc,(zaj hcall hil ⟨hgood.2.trans hgi.1,hgs⟩ hcl ha rfl).mono ?_⟩
    rintro r' h' ⟨rfl,rfl⟩
    rw [hup,zgo hgs]
    exact hK
   ·exact other h
  ·exact other h
 ·cases G with
  |true=>exact other h
  |false=>
   refine ⟨false,.any,.none,[],h,(by intro i ob e;cases e),(by intro i ob e;cases e),false,hG,?_⟩
   intro s' hev hgd hgood E a w K Q hs hK
   dsimp only at hev hgd hgood hK ⊢
   rw [zaE hs.slots hgd]
   simp only [Bool.false_eq_true,if_false]
   exact ⟨fun _ _=>trivial,E,_,hK,hs.put (fun k e=>by rw [e] at hd;exact hd) (fun e=>by cases e) (fun _=>rfl),by cases o.dst<;>exact Evo.refl _ _ _ _⟩
 ·exact other h
def OutsG (cx:Cx) (all:Array Oper) (L:List RG) (s:AS):Prop:=∀ (i:Nat) (r:RG),L[i]?=some r→GLoc cx all (lexG L i s) r
def endG (cx:Cx) (tab:Tab) (ops:Array Oper) (L:List RG) (K:AS→Prop) (s:AS) (T:List Oper):Prop:=
 (∀j,L.length≤j→j<ops.size→∀i,i<j→anc ops (j+1) j i=true)∧aopsY cx tab ops T K s
theorem zhg (ht:TabOk cx.P tab):∀ (l:List Oper) (nm:Nat) (F:List RG) {K:AS→Prop} {s:AS},F.length+l.length=ops.size→cx.fl≤nm→gops cx tab owns ops nm l (F.map (fun r=>(r.c.at,r.rd))).reverse K s→
  ∃ (L:List RG) (T:List Oper),L.map (·.o)++T=l∧zbe ops ((F++L).map (fun r=>(r.c.at,r.rd)))=true∧endG cx tab ops (F++L) K (lexG L L.length s) T∧OutsG cx ops L s
 | [],nm,F,K,s,hsz,_,h=>⟨[],[],rfl,by simpa using h.1,⟨fun j h1 h2=>by simp at hsz h1;omega,h.2⟩,fun i r hr=>by simp at hr⟩
 | o::l,nm,F,K,s,hsz,hl,h=>by
  simp only [gops] at h
  split at h
  ·rename_i G hG
   split at h
   ·obtain ⟨h1,h2,h3⟩:=h
    rw [List.reverse_reverse] at h1
    refine ⟨[],o::l,rfl,by simpa using h1,⟨fun j hj hj2 i hi=>?_,by rw [show ([]:List RG).length=0 from rfl,zbE];exact h3⟩,fun i r hr=>by simp at hr⟩
    have h4:=List.all_eq_true.1 h2 j (by simpa using hj2)
    rw [Bool.or_eq_true,decide_eq_true_eq] at h4
    rw [List.append_nil] at hj
    rcases h4 with h4|h4
    ·simp at h4;omega
    ·exact List.all_eq_true.1 h4 i (by simpa using hi)
   obtain ⟨hd,hnm,h⟩:=h
   obtain ⟨g,v,c,rd,h1,h2⟩:=zpf ht hG hd hnm hl h
   obtain ⟨L,T,q1,q2,q3,q4⟩:=zhg ht l (nm+1) (F++ [⟨o,g,v,c,rd⟩]) (by simp only [List.length_append,List.length_cons,List.length_nil] at hsz ⊢;omega) (by omega) (by simpa using h1)
   rw [List.append_assoc,List.singleton_append] at q2 q3
   refine ⟨⟨o,g,v,c,rd⟩::L,T,by simp [q1],q2,by rw [List.length_cons,zb6];exact q3,fun i r hr=>?_⟩
   cases i with
   |zero=>
    have:RG.mk o g v c rd=r:=by simpa using hr
    subst this
    rw [zbE]
    exact h2
   |succ i=>
    rw [zb6]
    exact q4 i r (by simpa using hr)
  ·exact h.elim
theorem zjn {F:List (Option Nat×List Nat)} (hd:zbe ops F=true) {i j:Nat} {a b:Oper} (hij:i<j) (ha:ops[i]?=some a) (hb:ops[j]?=some b) (hc:confG ops (F.getD i (none,[])) (F.getD j (none,[])) a b=true):anc ops (j+1) j i=true:=by
 unfold zbe at hd
 have hj:j<ops.size:=(Array.getElem?_eq_some_iff.1 hb).1
 have:=List.all_eq_true.1 hd j (by simpa using hj)
 rw [hb] at this
 simp only [Bool.and_eq_true] at this
 have:=List.all_eq_true.1 this.2 i (by simpa using hij)
 rw [ha] at this
 dsimp only at this
 rw [hc] at this
 simpa using this
theorem zjo {F:List (Option Nat×List Nat)} (hd:zbe ops F=true) {j:Nat} {b:Oper} (hb:ops[j]?=some b):∀e∈b.after.toList,Region.binds .any e=true→e.on<j:=by
 unfold zbe at hd
 have hj:j<ops.size:=(Array.getElem?_eq_some_iff.1 hb).1
 have:=List.all_eq_true.1 hd j (by simpa using hj)
 rw [hb] at this
 simp only [Bool.and_eq_true] at this
 intro e he hbi
 have:=List.all_eq_true.1 this.1 e he
 simpa [hbi] using this
theorem zeF {F:List (Option Nat×List Nat)} {listed:Array Bool} (hd:zbe ops F=true) (hsz:listed.size=ops.size) (hr:Region.ready .any ops listed= []):∀i,i<ops.size→listed.getD i false=true:=by
 intro i
 induction i using Nat.strongRecOn with
 | _ i ih=>
  intro hi
  cases hl:listed.getD i false with
  |true=>rfl
  | false=>
   have hmem:i∈Region.ready .any ops listed:=by
    refine mem_ready.2 ⟨?_,ops[i],by simp [hi],fun e he hb=>?_⟩
    ·rw [Array.getD_eq_getD_getElem?] at hl ⊢
     rw [Array.getElem?_eq_getElem (by omega)] at hl ⊢
     exact hl
    ·have:=zjo hd (j:=i) (b:=ops[i]) (Array.getElem?_eq_getElem hi) e (Array.mem_toList_iff.2 he) hb
     exact ih _ this (by omega)
   rw [hr] at hmem
   cases hmem
theorem zgp {a b:Option Nat×List Nat} {k:Nat} (ha:a.1=some k) (hb:b.1=some k∨k∈b.2):touch a b=true:=by
 unfold touch
 rw [ha]
 rcases hb with hb|hb
 ·simp [hb]
 ·simp [hb]
theorem zhh (ht:TabOk cx.P tab) {F:List (Option Nat×List Nat)} (hd:zbe ops F=true) {n:Nat} (hanc:∀j,n≤j→j<ops.size→∀i,i<j→anc ops (j+1) j i=true) {E0:Env} {h0:AHeap} {w0:World} {K:AS→Prop} :
  ∀ (T:List Oper) (k fuel:Nat) (listed:Array Bool) {s:AS} {E:Env} {a:Act} {w:World},n≤k→ops.toList.drop k=T→k≤ops.size→listed.size=ops.size→(∀i,i<ops.size→listed.getD i false=decide (i<k))→listed.toList.countP (fun b=>b==false)=fuel→
   Sat cx E s a w→Evo cx.fl E0 h0 w0 E s.h w→aopsY cx tab ops T K s→wpAnyIn cx.F 0 cx.P .any ops (fun e a' w'=>e= .normal∧Reach cx E0 h0 w0 K a' w') fuel listed a w
 | [],k,fuel,listed,s,E,a,w,hnk,hT,hk,hsz,hli,hc,hs,he,h=>by
  have hks:k=ops.size:=by
   have:=congrArg List.length hT
   simp at this
   omega
  subst hks
  have hr:Region.ready .any ops listed= []:=by
   cases hr:Region.ready .any ops listed with
   |nil=>rfl
   |cons i l=>
    have hi:i∈Region.ready .any ops listed:=by rw [hr];simp
    obtain ⟨h1,o,h2,_⟩:=mem_ready.1 hi
    have hlt:i<ops.size:=(Array.getElem?_eq_some_iff.1 h2).1
    have h3:=hli i hlt
    rw [decide_eq_true hlt,Array.getD_eq_getD_getElem?,Array.getElem?_eq_getElem (by omega)] at h3
    rw [Array.getD_eq_getD_getElem?,Array.getElem?_eq_getElem (by omega)] at h1
    simp only [Option.getD_some] at h1 h3
    rw [h1] at h3;cases h3
  have hf0:fuel=0:=by
   rw [← hc,List.countP_eq_zero]
   intro b hb
   obtain ⟨q,hq,rfl⟩:=List.getElem_of_mem hb
   have hq':q<ops.size:=by simp at hq;omega
   have:=hli q hq'
   rw [decide_eq_true hq',Array.getD_eq_getD_getElem?,Array.getElem?_eq_getElem (by simpa using hq)] at this
   rw [Array.getElem_toList]
   simp only [Option.getD_some] at this
   rw [this]
   decide
  subst hf0
  exact ⟨hr,rfl,E,s,h,hs,he⟩
 | o::T,k,0,listed,s,E,a,w,hnk,hT,hk,hsz,hli,hc,hs,he,h=>by
  have hks:k<ops.size:=by
   have:=congrArg List.length hT
   simp at this
   omega
  have h0:=List.countP_eq_zero.1 hc (listed[k]'(by omega)) (by simp)
  have:=hli k hks
  rw [decide_eq_false (by omega),Array.getD_eq_getD_getElem?,Array.getElem?_eq_getElem (by omega)] at this
  simp only [Option.getD_some] at this
  rw [this] at h0
  exact absurd rfl h0
 | o ::T,k,fuel+1,listed,s,E,a,w,hnk,hT,hk,hsz,hli,hc,hs,he,h=>by
  have hks:k<ops.size:=by
   have:=congrArg List.length hT
   simp at this
   omega
  have hok:ops[k]?=some o:=by
   have:=congrArg (fun l:List Oper=>l[0]?) hT
   simp only [List.getElem?_drop,Nat.add_zero,List.getElem?_cons_zero,Array.getElem?_toList] at this
   exact this
  have hT':ops.toList.drop (k+1)=T:=by
   have:=congrArg (List.drop 1) hT
   rw [List.drop_drop] at this
   simpa using this
  have hcl:∀ (i:Nat) o,ops[i]?=some o→listed.getD i false=true→∀e∈o.after.toList,Region.binds .any e=true→listed.getD e.on false=true:=fun i o hi hl e he hb=>by
   have hlt:i<ops.size:=(Array.getElem?_eq_some_iff.1 hi).1
   rw [hli i hlt] at hl
   have h1:=of_decide_eq_true hl
   have h2:=zjo hd hi e he hb
   rw [hli _ (by omega)]
   exact decide_eq_true (by omega)
  refine ⟨fun hr=>?_,fun i hi=>?_⟩
  ·have:=zeF hd hsz hr k hks
   rw [hli k hks,decide_eq_false (by omega)] at this
   cases this
  obtain ⟨hun,o',hoi,hdep⟩:=mem_ready.1 hi
  have hlt:i<ops.size:=(Array.getElem?_eq_some_iff.1 hoi).1
  have hdep':∀o'',ops[i]?=some o''→∀e∈o''.after.toList,Region.binds .any e=true→listed.getD e.on false=true:=fun o'' ho' e he' hb=>by
   rw [hoi] at ho';cases ho'
   exact hdep e (by simpa using he') hb
  have hun':listed[i]?=some false:=by
   rw [Array.getD_eq_getD_getElem?,Array.getElem?_eq_getElem (by omega)] at hun
   rw [Array.getElem?_eq_getElem (by omega)]
   simpa using hun
  have hki:k≤i:=by
   rcases Nat.lt_or_ge i k with h1|h1
   ·have:=hli i hlt
    rw [decide_eq_true h1,Array.getD_eq_getD_getElem?,hun'] at this
    cases this
   ·exact h1
  have hik:i=k:=by
   rcases Nat.eq_or_lt_of_le hki with h1|h1
   ·exact h1.symm
   ·have:=zbD (S:=fun i=>listed.getD i false) hcl _ i k (hanc i (by omega) hlt k h1) hdep'
    rw [hli k hks,decide_eq_false (by omega)] at this
    cases this
  subst hik
  rw [hok] at hoi
  cases hoi
  simp only [aopsY] at h
  split at h
  ·rename_i G hG
   have hw:=zly (Q:=fun _ _ _=>False) ht hs hG h
   have next:∀a1 w1,Reach cx E s.h w (aopsY cx tab ops T K) a1 w1→wpAnyIn cx.F 0 cx.P .any ops (fun e a' w'=>e= .normal∧Reach cx E0 h0 w0 K a' w') fuel (listed.setIfInBounds i true) a1 w1:=by
    rintro a1 w1 ⟨E1,s1,hk1,hs2,he2⟩
    refine zhh ht hd hanc T (i+1) fuel (listed.setIfInBounds i true) (by omega) hT' (by omega) (by simpa using hsz) (fun q hq=>?_) (zhb listed i fuel hun' hc) hs2 (he.trans he2) hk1
    ·rw [zji listed i q (by omega)]
     split
     ·rename_i e
      rw [e,decide_eq_true (by omega)]
     ·rw [hli q hq]
      by_cases h1:q<i
      ·rw [decide_eq_true h1,decide_eq_true (by omega)]
      ·rw [decide_eq_false h1,decide_eq_false (by omega)]
   unfold wpOpIn
   rw [hok]
   dsimp only
   split at hw
   ·rename_i hwt
    rw [if_pos hwt]
    exact zZ hw next
   ·rename_i hwt
    rw [if_neg hwt]
    exact ⟨hw.1,next _ _ hw.2⟩
  ·exact h.elim
theorem zlM (ht:TabOk cx.P tab) {L:List RG} {T:List Oper} (hd:zbe ops (L.map (fun r=>(r.c.at,r.rd)))=true) (hL:L.map (·.o)++T=ops.toList) {s0:AS} (ho:OutsG cx ops L s0) {E0:Env} {w0:World} {K:AS→Prop} (hK:endG cx tab ops L K (lexG L L.length s0) T):
  ∀ (fuel:Nat) (listed:Array Bool) (E:Env) (a:Act) (w:World),listed.size=ops.size→listed.toList.countP (fun b=>b==false)=fuel→
   (∀ (i:Nat) o,ops[i]?=some o→listed.getD i false=true→∀e∈o.after.toList,Region.binds .any e=true→listed.getD e.on false=true)→(∀j,L.length≤j→listed.getD j false=false)→
   Sat cx E (selG L (fun i=>listed.getD i false) s0) a w→Evo cx.fl E0 s0.h w0 E (selG L (fun i=>listed.getD i false) s0).h w→
   wpAnyIn cx.F 0 cx.P .any ops (fun e a' w'=>e= .normal∧Reach cx E0 s0.h w0 K a' w') fuel listed a w:=by
 have hlen:L.length+T.length=ops.size:=by
  have:=congrArg List.length hL
  simpa using this
 have hget:∀ (l:Nat) (r:RG),L[l]?=some r→ops[l]?=some r.o:=fun l r hr=>by
  have hl:l<L.length:=(List.getElem?_eq_some_iff.1 hr).1
  have:=congrArg (fun x:List Oper=>x[l]?) hL
  simp only [List.getElem?_append_left (show l<(L.map (·.o)).length by simpa using hl),List.getElem?_map,hr,Option.map_some,Array.getElem?_toList] at this
  exact this.symm
 have hfoot:∀ (l:Nat) (r:RG),L[l]?=some r→(L.map (fun r=>(r.c.at,r.rd))).getD l (none,[])=(r.c.at,r.rd):=fun l r hr=>by simp [List.getD_eq_getElem?_getD,hr]
 have full:∀ (listed:Array Bool) (E:Env) (a:Act) (w:World),(∀i,i<L.length→listed.getD i false=true)→Sat cx E (selG L (fun i=>listed.getD i false) s0) a w→Evo cx.fl E0 s0.h w0 E (selG L (fun i=>listed.getD i false) s0).h w→
   Sat cx E (lexG L L.length s0) a w∧Evo cx.fl E0 s0.h w0 E (lexG L L.length s0).h w:=by
  intro listed E a w hall hs he
  have hSS:∀ (i:Nat) (r:RG),L[i]?=some r→listed.getD i false=decide (i<L.length):=fun i r hr=>by
   have hi:i<L.length:=(List.getElem?_eq_some_iff.1 hr).1
   rw [hall i (by omega),decide_eq_true hi]
  have hh:∀k,Go.Aw.hget (selG L (fun i=>listed.getD i false) s0).h k=Go.Aw.hget (lexG L L.length s0).h k:=fun k=>zda k L _ _ _ _ rfl (fun i r hr _=>hSS i r hr)
  refine ⟨hs.ext (fun k=>zeB (Q:=fun _=>True) L _ _ _ _ (fun _ _=>rfl) (fun i r hr _=>hSS i r hr) k trivial) hh ?_,he.ext hh⟩
  unfold lexG
  rw [zhd,zhd]
 have tail:∀ (fuel:Nat) (listed:Array Bool) (E:Env) (a:Act) (w:World),listed.size=ops.size→listed.toList.countP (fun b=>b==false)=fuel→(∀i,i<L.length→listed.getD i false=true)→(∀j,L.length≤j→listed.getD j false=false)→Sat cx E (selG L (fun i=>listed.getD i false) s0) a w→Evo cx.fl E0 s0.h w0 E (selG L (fun i=>listed.getD i false) s0).h w→
   wpAnyIn cx.F 0 cx.P .any ops (fun e a' w'=>e= .normal∧Reach cx E0 s0.h w0 K a' w') fuel listed a w:=by
  intro fuel listed E a w hsz hc hall hT hs he
  obtain ⟨h1,h2⟩:=full listed E a w hall hs he
  refine zhh ht hd hK.1 T L.length fuel listed (Nat.le_refl _) (by rw [← hL,List.drop_append_of_le_length (by simp),List.drop_of_length_le (by simp)];rfl) (by omega) hsz (fun i hi=>?_) hc h1 h2 hK.2
  ·by_cases h3:i<L.length
   ·rw [hall i h3,decide_eq_true h3]
   ·rw [hT i (by omega),decide_eq_false h3]
 intro fuel
 induction fuel with
 |zero=>
  intro listed E a w hsz hc hcl hT hs he
  refine tail 0 listed E a w hsz hc (fun i hi=>?_) hT hs he
  have h0:=List.countP_eq_zero.1 hc (listed[i]'(by omega)) (by simp)
  rw [Array.getD_eq_getD_getElem?,Array.getElem?_eq_getElem (by omega)]
  simpa using h0
 | succ fuel ih=>
  intro listed E a w hsz hc hcl hT hs he
  by_cases hall:∀i,i<L.length→listed.getD i false=true
  ·exact tail _ listed E a w hsz hc hall hT hs he
  refine ⟨fun hr=>absurd (fun i hi=>zeF hd hsz hr i (by omega)) hall,fun i hi=>?_⟩
  obtain ⟨hun,o,hoi,hdep⟩:=mem_ready.1 hi
  have hlt:i<ops.size:=(Array.getElem?_eq_some_iff.1 hoi).1
  have hun':listed[i]?=some false:=by
   rw [Array.getD_eq_getD_getElem?,Array.getElem?_eq_getElem (by omega)] at hun
   rw [Array.getElem?_eq_getElem (by omega)]
   simpa using hun
  have hSi:listed.getD i false=false:=by rw [Array.getD_eq_getD_getElem?,hun'];rfl
  have hdep':∀o',ops[i]?=some o'→∀e∈o'.after.toList,Region.binds .any e=true→listed.getD e.on false=true:=fun o' ho' e he' hb=>by
   rw [hoi] at ho';cases ho'
   exact hdep e (by simpa using he') hb
  have hiL:i<L.length:=by
   rcases Nat.lt_or_ge i L.length with h1|h1
   ·exact h1
   ·exact absurd (fun l hl=>zbD (S:=fun i=>listed.getD i false) hcl _ i l (hK.1 i h1 hlt l (by omega)) hdep') hall
  obtain ⟨r,hr⟩:∃r,L[i]?=some r:=⟨_,List.getElem?_eq_getElem hiL⟩
  have hro:r.o=o:=Option.some.inj ((hget i r hr).symm.trans hoi)
  subst hro
  obtain ⟨hput,hnew,G,hG,hstep⟩:=ho i r hr
  have before:∀ (l:Nat) (r':RG),L[l]?=some r'→l<i→confG ops (r'.c.at,r'.rd) (r.c.at,r.rd) r'.o r.o=true→listed.getD l false=true:=fun l r' hr' hl hcf=>
   zbD (S:=fun i=>listed.getD i false) hcl _ i l (zjn hd hl (hget l r' hr') hoi (by rw [hfoot l r' hr',hfoot i r hr];exact hcf)) hdep'
  have behind:∀ (l:Nat) (r':RG),L[l]?=some r'→i<l→confG ops (r.c.at,r.rd) (r'.c.at,r'.rd) r.o r'.o=true→listed.getD l false=false:=fun l r' hr' hl hcf=>by
   cases hSl:listed.getD l false with
   |false=>rfl
   |true=>
    have:=zbD (S:=fun i=>listed.getD i false) hcl _ l i (zjn hd hl hoi (hget l r' hr') (by rw [hfoot l r' hr',hfoot i r hr];exact hcf)) (fun o' ho'=>hcl l o' ho' hSl)
    rw [hSi] at this;cases this
  have agree:∀ (l:Nat) (r':RG),L[l]?=some r'→(l<i→confG ops (r'.c.at,r'.rd) (r.c.at,r.rd) r'.o r.o=true)→(i<l→confG ops (r.c.at,r.rd) (r'.c.at,r'.rd) r.o r'.o=true)→listed.getD l false=decide (l<i):=fun l r' hr' h1 h2=>by
   rcases Nat.lt_trichotomy l i with h|h|h
   ·rw [before l r' hr' h (h1 h),decide_eq_true h]
   ·subst h;rw [hSi];simp
   ·rw [behind l r' hr' h (h2 h),decide_eq_false (by omega)]
  have hslots:∀k,k∈zgk ops r.o→lk (selG L (fun i=>listed.getD i false) s0).t k=lk (lexG L i s0).t k:=
   zeB (Q:=fun k=>k∈zgk ops r.o) L _ _ _ _ (fun _ _=>rfl) (fun l r' hr' ⟨d,hd1,hd2⟩=>agree l r' hr'
    (fun _=>by unfold confG;rw [hd1];simp [hd2])
    (fun _=>by unfold confG;rw [hd1];simp [hd2]))
  have hev:=znH (s:=lexG L i s0) (s':=selG L (fun i=>listed.getD i false) s0) (l:=zX r.o.op) (fun k hk=>(hslots k (List.mem_append_left _ hk)).symm)
  have hgd:zaa (selG L (fun i=>listed.getD i false) s0) ops r.o.guard=some G:=by
   rw [← hG]
   exact zir (fun k hk=>hslots k (List.mem_append_right _ hk))
  have hname:∀k,r.c.at=some k∨k∈r.rd→Go.Aw.hget (selG L (fun i=>listed.getD i false) s0).h k=Go.Aw.hget (lexG L i s0).h k:=fun k hk=>
   zda k L _ _ _ _ rfl (fun l r' hr' hm=>agree l r' hr'
    (fun _=>by
     have:=zgp (a:=(r'.c.at,r'.rd)) (b:=(r.c.at,r.rd)) hm hk
     unfold confG;simp [this])
    (fun _=>by
     have:=zgp (a:=(r'.c.at,r'.rd)) (b:=(r.c.at,r.rd)) hm hk
     unfold confG;simp [this]))
  have hgood:zgm (lexG L i s0).h r.c r.rd (selG L (fun i=>listed.getD i false) s0).h:=by
   refine ⟨fun k hk=>hname k (.inr hk),?_⟩
   cases hcc:r.c with
   |none=>trivial
   |put k ob=>exact hname k (.inl (by rw [hcc];rfl))
   |new k ob=>exact (hname k (.inl (by rw [hcc];rfl))).trans (hnew k ob hcc)
  have hw:=hstep (selG L (fun i=>listed.getD i false) s0) hev hgd hgood E a w (fun t=>t=({ selG L (fun i=>listed.getD i false) s0 with h:=r.c.app (selG L (fun i=>listed.getD i false) s0).h } :AS).put r.o.dst r.g r.v) (fun _ _ _=>False) hs rfl
  have next:∀a1 w1,Reach cx E (selG L (fun i=>listed.getD i false) s0).h w (fun t=>t=({ selG L (fun i=>listed.getD i false) s0 with h:=r.c.app (selG L (fun i=>listed.getD i false) s0).h } :AS).put r.o.dst r.g r.v) a1 w1→
    wpAnyIn cx.F 0 cx.P .any ops (fun e a' w'=>e= .normal∧Reach cx E0 s0.h w0 K a' w') fuel (listed.setIfInBounds i true) a1 w1:=by
   rintro a1 w1 ⟨E1,s1,rfl,hs1,he1⟩
   have hS':∀k,(listed.setIfInBounds i true).getD k false=if k=i then true else listed.getD k false:=fun k=>zji listed i k (by omega)
   have hfun:(fun k=>(listed.setIfInBounds i true).getD k false)=fun k=>if k=i then true else listed.getD k false:=funext hS'
   have hputh:(({ selG L (fun i=>listed.getD i false) s0 with h:=r.c.app (selG L (fun i=>listed.getD i false) s0).h } :AS).put r.o.dst r.g r.v).h=r.c.app (selG L (fun i=>listed.getD i false) s0).h:=by unfold AS.put;cases r.o.dst<;>rfl
   have hputg:(({ selG L (fun i=>listed.getD i false) s0 with h:=r.c.app (selG L (fun i=>listed.getD i false) s0).h } :AS).put r.o.dst r.g r.v).g=(selG L (fun i=>listed.getD i false) s0).g:=by unfold AS.put;cases r.o.dst<;>rfl
   have agree':∀ (l:Nat) (r':RG),L[l]?=some r'→(l<i→confG ops (r'.c.at,r'.rd) (r.c.at,r.rd) r'.o r.o=true)→(i<l→confG ops (r.c.at,r.rd) (r'.c.at,r'.rd) r.o r'.o=true)→(listed.setIfInBounds i true).getD l false=decide (l<i+1):=fun l r' hr' h1 h2=>by
    rw [hS']
    rcases Nat.lt_trichotomy l i with h|h|h
    ·rw [if_neg (by omega),before l r' hr' h (h1 h),decide_eq_true (by omega)]
    ·subst h;rw [if_pos rfl];simp
    ·rw [if_neg (by omega),behind l r' hr' h (h2 h),decide_eq_false (by omega)]
   have hlk':∀k,lk (({ selG L (fun i=>listed.getD i false) s0 with h:=r.c.app (selG L (fun i=>listed.getD i false) s0).h } :AS).put r.o.dst r.g r.v).t k=lk (selG L (fun k=>(listed.setIfInBounds i true).getD k false) s0).t k:=by
    intro k
    rw [zlF]
    split
    ·rename_i hk
     have e1:lk (selG L (fun k=>(listed.setIfInBounds i true).getD k false) s0).t k=lk (lexG L (i+1) s0).t k:=
      zeB (Q:=fun j=>j=k) L _ _ _ _ (fun _ _=>rfl) (fun l r' hr' ⟨d,hd1,hd2⟩=>agree' l r' hr'
       (fun _=>by unfold confG;rw [hd1,hk,hd2];simp)
       (fun _=>by unfold confG;rw [hd1,hk,hd2];simp)) k rfl
     rw [e1,zhe L i s0 r hr,zgn,if_pos hk]
    ·rename_i hk
     refine zeB (Q:=fun j=>j=k) L _ _ _ _ (fun _ _=>rfl) (fun l r' hr' ⟨d,hd1,hd2⟩=>?_) k rfl
     rw [hS',if_neg]
     intro e
     subst e
     rw [hr] at hr';cases hr'
     rw [hd2] at hd1
     exact hk hd1
   have hheap:∀k,Go.Aw.hget (({ selG L (fun i=>listed.getD i false) s0 with h:=r.c.app (selG L (fun i=>listed.getD i false) s0).h } :AS).put r.o.dst r.g r.v).h k=Go.Aw.hget (selG L (fun k=>(listed.setIfInBounds i true).getD k false) s0).h k:=by
    intro k
    rw [hputh,hfun]
    refine (zlK k L i r (fun i=>listed.getD i false) s0 hr hSi (fun l r' hr' hl hsl hk hk'=>?_)).symm
    have:=behind l r' hr' hl (by
     have:=zgp (a:=(r.c.at,r.rd)) (b:=(r'.c.at,r'.rd)) hk (.inl hk')
     unfold confG;simp [this])
    rw [hsl] at this;cases this
   refine ih (listed.setIfInBounds i true) E1 a1 w1 (by simpa using hsz) (zhb listed i fuel hun' hc) ?_ (fun j hj=>by rw [hS',if_neg (by omega)];exact hT j hj) (hs1.ext hlk' hheap (by rw [hputg,zhd,zhd])) ?_
   ·intro l o' ho' hSl e he' hb
    rw [hS'] at hSl ⊢
    split
    ·rfl
    ·split at hSl
     ·rename_i hli
      subst hli
      exact hdep' o' ho' e he' hb
     ·exact hcl l o' ho' hSl e he' hb
   ·exact (he.trans he1).ext hheap
  unfold wpOpIn
  rw [hoi]
  dsimp only
  split at hw
  ·rename_i hwt
   rw [if_pos hwt]
   exact zZ hw next
  ·rename_i hwt
   rw [if_neg hwt]
   exact ⟨hw.1,next _ _ hw.2⟩
theorem zao {id:Nat} {Q:Exit→AS→Prop} (tab:Tab) (owns:List FuncId) (ht:TabOk cx.P tab) (hm:cx.P.follows .mixedOrders=true) (h:gops cx tab owns ops (top cx.fl s.h) ops.toList [] (Q .normal) s):AW cx (.region id ops true) Q s:=by
 intro E a w hs
 obtain ⟨L,T,hL,hd,hK,ho⟩:=zhg ht ops.toList _ [] (by simp) (zcZ _ _) h
 have hs':=hs.drawn
 have hev:Evo cx.fl E s.h w E s.h { w with drawn:=w.drawn+1 } :=⟨rfl,rfl,rfl,Nat.le_refl _,fun _ _ _ _=>rfl,fun _ h=> .inl h,fun _ h=>h,fun _ h=> .inl h,rfl,fun i _ h=>⟨h,GoesOn.refl E _ i⟩⟩
 have h0:∀i,(Array.replicate ops.size false).getD i false=false:=fun i=>by
  rw [Array.getD_eq_getD_getElem?,Array.getElem?_replicate]
  split<;>rfl
 have hsel:selG L (fun i=>(Array.replicate ops.size false).getD i false) s=s:=by
  have:(fun i=>(Array.replicate ops.size false).getD i false)=fun i=>decide (i<0):=by
   funext i;rw [h0];simp
  rw [this]
  exact zbE L s
 refine wpIn_mono (wpIn_region_any hm (zlM ht (by simpa using hd) hL ho hK ops.size (Array.replicate ops.size false) E a _ (by simp) (by rw [Array.toList_replicate,List.countP_replicate];rfl) (fun i o _ hi=>by rw [h0] at hi;cases hi) (fun _ _=>h0 _) (by rw [hsel];exact hs') (by rw [hsel];exact hev))) ?_
 rintro e a' w' ⟨rfl,hr⟩
 exact hr
theorem zaf {id:Nat} {y:Code} {Q:Exit→AS→Prop} (tab:Tab) (owns:List FuncId) (ht:TabOk cx.P tab) (hm:cx.P.follows .mixedOrders=true) (h:∀K,(∀s',AW cx y Q s'→K s')→gops cx tab owns ops (top cx.fl s.h) ops.toList [] K s):AW cx (.seq (.region id ops true) y) Q s:=
 zbh fun K hK=>zao tab owns ht hm (h K hK)
end
attribute [go_sem] hup gops zoO isYop gop chOf Ch.app Ch.at atCx isEff List.contains_cons List.contains_nil Option.map_some List.isEmpty_cons List.isEmpty_nil
attribute [go_sem] foot footA footL List.reverse_cons List.reverse_nil
open Go
open Classical in
section
variable {cx : Cx} {tab : Tab} {ops : Array Oper} {K : AS → Prop}
end
attribute [go_sem] Region.binds
open Go
theorem ACall.one {P:Program} {f:FuncId} {args:List AV} {fl fl' i:Nat} {ob:AObj} {h h2:AHeap} {R:AV→AObj→Prop} (hc:ACall P f fl args [(i,ob)] (fun r h'=>∃ob',h'= [(i,ob')]∧R r ob'))
  (h1:hsel (fun j=>decide (j=i)||decide (fl≤j)) h= [(i,ob)]) (h2e:hsel (fun j=> !(decide (j=i)||decide (fl≤j))) h=h2) (hfl:∀i,(hget h i).isSome→i<fl) (hg:hget h i=some ob)
  (hcl:∀j∈ob.ids,j=i) (ha:∀j∈AV.idsL args,j=i) (hle:fl'≤fl):ACallAt P fl' f args h (fun r h'=>∃ob',R r ob'∧h'=(i,ob')::h2):=by
 have hi:i<fl:=hfl i (by simp [hg])
 have :=ACall.frame (P:=P) (f:=f) (args:=args) (fl:=fl) (fl':=fl') (h:=h) (p:=fun j=>decide (j=i)||decide (fl≤j)) (K:=fun r h'=>∃ob',h'= [(i,ob')]∧R r ob') (by rw [h1];exact hc) hfl (fun j hj=>by simp;exact .inr hj)
  (fun j o ho hp k hk=>by
   have hj:=hfl j (by simp [ho])
   have:j=i:=by
    have:j=i∨fl≤j:=by simpa using hp
    omega
   subst this
   rw [hg] at ho;cases ho
   simp [hcl k hk]) (fun j hj=>by simp [ha j hj]) hle (fun r h' ⟨ob',he,_⟩=>by
    subst he
    refine ⟨fun j hj hp=>?_,fun j hj=>?_⟩
    ·have hjl:=hfl j hj
     have:j=i:=by
      have:j=i∨fl≤j:=by simpa using hp
      omega
     subst this
     simp [hget]
    ·simp only [hget] at hj
     split at hj
     ·rename_i e;simp [e]
     ·simp at hj)
 refine this.mono ?_
 rintro r h' ⟨h1',⟨ob',rfl,hR⟩,rfl⟩
 rw [h2e]
 exact ⟨ob',hR,rfl⟩
theorem zjp:∀ {h:AHeap} {i:Nat} {o:AObj},hget h i=some o→(i,o)∈h
  | [],i,o,hg=>by simp [hget] at hg
  | (k,x)::r,i,o,hg=>by
    simp only [hget] at hg
    split at hg
    · rename_i e;subst e;cases hg;exact List.mem_cons_self ..
    · exact List.mem_cons_of_mem _ (zjp hg)
theorem za7 {P:Program} {f:FuncId} {args:List AV} {fl:Nat} {h:AHeap} {K:AV→AHeap→Prop} (p:Nat→Bool) (hc:ACall P f fl args h (fun r h'=>(hsel p h').all (fun q=>q.2.ids.all p)=true∧r.ids.all p=true∧K r (hsel p h'))):ACall P f fl args h K:=by
 refine ⟨hc.1,fun E w vs hs hr=>(hc.2 E w vs hs hr).mono ?_⟩
 rintro e w' ⟨v,E',r,h',h1,⟨h2,h3,h4⟩,h5,h6,h7⟩
 have hcl:Closed p h':=fun i o ho hp j hj=>by
  have hg:hget (hsel p h') i=some o:=by rw [zk,if_pos hp];exact ho
  have:=List.all_eq_true.1 h2 _ (zjp hg)
  exact List.all_eq_true.1 this j hj
 refine ⟨v,E',r,hsel p h',h1,h4,zgd h5 hcl,zlv (fun j hj=>List.all_eq_true.1 h3 j hj) h6,?_⟩
 refine ⟨h7.os,h7.tape,h7.output,h7.size,h7.keep,fun b ho=>h7.own b (zB ho),h7.m,h7.n,fun i hi hl=>?_⟩
 rw [zk] at hl
 by_cases hp:p i=true
 ·rw [if_pos hp] at hl
  obtain ⟨g1,g2⟩:=h7.go i hi hl
  exact ⟨g1,g2.trans (zcm i hp)⟩
 ·rw [if_neg hp] at hl
  cases hl
attribute [go_sem] AObj.ids List.all_nil List.all_cons List.all_append
open Go
section
variable {F : Fence} {n : Nat} {P : Program} {Q : Exit → Act → World → Prop} {a : Act} {w : World}
theorem zaL {b:Frame} {k:List Item} {cs:List Frame} {c:Code} :step P (lone (b.atR a (.code (.scope c)::k)) cs w)= .next (lone (b.atR a (.code c:: .inScope c::k)) cs w):=
 step_lone_go (by simp [stepG,stepG.exec,Frame.atR])
theorem zgq {b:Frame} {k:List Item} {cs:List Frame} {c:Code} :step P (lone (b.atR a (.inScope c::k)) cs w)= .next (lone (b.atR a k) cs w):=
 step_lone_go (by simp [stepG,stepG.exec,Frame.atR])
theorem zcI {c:Code} (h:c.wpIn F n P (Exit.noGoto Q) a w):(Code.scope c).wpIn F n P Q a w:=by
 intro b k cs hro hb hr
 have h0:(lone (b.atR a (.code (.scope c)::k)) cs w).fenced P F:=fenced_calm hb hr rfl
 obtain ⟨e,a₁,w₁,hq,harr⟩:=h b (.inScope c::k) cs hro hb hr
 cases e with
 |normal=>exact ⟨.normal,a₁,w₁,hq,.head h0 zaL (StepsIn.trans harr (.one (fenced_calm hb hr rfl) zgq))⟩
 | exit id=>
  have hx:exitTo id (.inScope c::k)=exitTo id k:=by simp [exitTo]
  exact ⟨.exit id,a₁,w₁,hq,fun k' hk=> .head h0 zaL (harr.1 k' (by rw [hx];exact hk)),
   fun hr' hk=>let ⟨k₁,h1,h2⟩:=harr.2 hr' (by rw [hx];exact hk);⟨k₁,h1,.head h0 zaL h2⟩⟩
 |goto l=>exact hq.elim
 |ret=>exact ⟨_,a₁,w₁,hq,.of_steps (.one h0 zaL) harr⟩
 |panic ch=>exact ⟨_,a₁,w₁,hq,.of_steps (.one h0 zaL) harr⟩
 |outgrown=>exact ⟨_,a₁,w₁,hq,.of_steps (.one h0 zaL) harr⟩
end
def zoP (Q:Exit→AS→Prop):Exit→AS→Prop
 | .goto _,_=>False
 |e,s=>Q e s
attribute [go_sem] zoP
theorem zgr {cx:Cx} {Q:Exit→AS→Prop} {s:AS} {c:Code} (h:AW cx c (zoP Q) s):AW cx (.scope c) Q s:=by
 intro E a w hs
 refine zcI (wpIn_mono (h E a w hs) ?_)
 intro e a1 w1 hr
 cases e with
 |goto l=>obtain ⟨_,_,h,_⟩:=hr;exact h
 |_=>exact hr
open Go
theorem sa {P Q:Prop} (h:Q) (t:Q→P:=by first|exact zbs _ ‹TabOk _ _› |exact zaf _ [] ‹TabOk _ _› mx):P:=t h
theorem sb {P Q:Prop} (h:Q) (t:Q→P:=by first|exact zdC _ ‹TabOk _ _› |exact zh5|exact zh6|exact zi8|exact zfR|exact zao _ [] ‹TabOk _ _› mx):P:=t h
theorem sc {P Q:Prop} (h:Q) (t:Q→P:=by first|exact zcX|exact zgr|exact zez rfl|exact zeA rfl):P:=t h
theorem le0 {P:Prop} (t:P:=by simp only [AS.le,leT,leH,zh,AsgK,AV.le,AV.leL,AObj.le,inH,idsT,idsH,AV.ids,AV.idsL,AV.idsR,AObj.ids,lk,hget,go_sem,aeq,aeq.aeqF,simprocAttr]):P:=t
theorem le1 {P:Prop} (t:P:=by simp only [AS.le,leT,leH,zh,AsgK,AV.le,AV.leL,AObj.le,inH,idsT,idsH,AV.ids,AV.idsL,AV.idsR,AObj.ids,lk,hget,go_sem,aeq,aeq.aeqF,simprocAttr]<;>and_intros<;>rfl):P:=t
theorem lew {P:Prop} (t:P:=by simp only [AS.le,leT,leH,zh,AsgK,AV.le,AV.leL,AObj.le,inH,idsT,idsH,AV.ids,AV.idsL,AV.idsR,AObj.ids,lk,hget,go_sem,aeq,aeq.aeqF,simprocAttr,hwi]):P:=t
theorem lev {P:Prop} (t:P:=by simp only [AS.le,leT,leH,zh,AsgK,AV.le,AV.leL,AObj.le,inH,idsT,idsH,AV.ids,AV.idsL,AV.idsR,AObj.ids,lk,hget,go_sem,aeq,aeq.aeqF,simprocAttr,hwi]<;>and_intros<;>rfl):P:=t
def fxd (n:Nat):Nat:=n
theorem fx:fxd 0=0:=rfl
theorem tk {P:Program} :TabOk P noTab:=za P
theorem eqmp {A Q:Prop} (h:Q) (e:A=Q):A:=e ▸ h
section
variable {P : Prop} {cx : Cx} {y : Code} {Q : Exit → AS → Prop} {R : (AS → Prop) → Prop}
theorem wa (h:∀K:AS→Prop,(∀s',AW cx y Q s'→K s')→R K) (t:(∀K:AS→Prop,(∀s',AW cx y Q s'→K s')→R K)→P:=by
  intro h
  first
  |((first|refine zbs _ tk (fun K hK=>eqmp (h K hK) ?_)|refine zaf _ [] tk mx (fun K hK=>eqmp (h K hK) ?_));simp only [go_sem,aeq,aeq.aeqF,simprocAttr,fx];rfl)
  |exact zbh h):P:=t h
theorem xa (h:∀K:AS→Prop,(∀s',AW cx y Q s'→K s')→R K) (t:(∀K:AS→Prop,(∀s',AW cx y Q s'→K s')→R K)→P:=by
  intro h
  first
  |((first|refine zfc _ tk (fun K hK=>eqmp (h K hK) ?_)|refine zaf _ [] tk mx (fun K hK=>eqmp (h K hK) ?_));simp only [go_sem,aeq,aeq.aeqF,simprocAttr,fx];rfl)
  |exact zbh h):P:=t h
end
theorem wb {P Q:Prop} (h:Q) (t:Q→P:=by
  intro h
  first
  |((first|refine zdC _ tk (eqmp h ?_)|refine zh5 (eqmp h ?_)|refine zh6 (eqmp h ?_)|refine zi8 (eqmp h ?_)|refine zfR (eqmp h ?_)|refine zao _ [] tk mx (eqmp h ?_));simp only [go_sem,aeq,aeq.aeqF,simprocAttr,fx];rfl)
  |exact zcX h|exact zgr h|exact zez rfl h|exact zeA rfl h):P:=t h
theorem xb {P Q:Prop} (h:Q) (t:Q→P:=by
  intro h
  first
  |((first|refine zfA _ tk (eqmp h ?_)|refine zh5 (eqmp h ?_)|refine zh6 (eqmp h ?_)|refine zi8 (eqmp h ?_)|refine zfR (eqmp h ?_)|refine zao _ [] tk mx (eqmp h ?_));simp only [go_sem,aeq,aeq.aeqF,simprocAttr,fx];rfl)
  |exact zcX h|exact zgr h|exact zez rfl h|exact zeA rfl h):P:=t h
theorem wd {a b:Bool} {Q:Prop} (h:a=b→Q):a=b→Q:=h
theorem wn {R Y:Bool→Prop} (h:∀nb:Bool,(nb=true→R nb)→Y nb):∀nb:Bool,(nb=true→R nb)→Y nb:=h
@[go_sem] theorem cxY_fl {P:Program} {items:List (List AV)} (base nt fl:Nat) (y:Yo P items):(cxY P base nt fl y).fl=fl:=rfl
theorem zpg {cx:Cx} {Q:Exit→AS→Prop} {s:AS} (hin:inH (hsel (fun i=>decide (i<cx.fl)) s.h) (idsH (hsel (fun i=>decide (i<cx.fl)) s.h))) (h:Q .ret { t:=keepT (hsel (fun i=>decide (i<cx.fl)) s.h) s.t,h:=hsel (fun i=>decide (i<cx.fl)) s.h,g:=s.g }):AW cx .ret Q s:=zpc _ hin (zi8 h)
theorem xk {P Q:Prop} (h:Q) (t:Q→P:=by
  intro h
  refine zpg (by simp only [inH,idsH,hsel,AV.ids,AV.idsL,AV.idsR,AObj.ids,hget,go_sem,aeq,aeq.aeqF,simprocAttr]) (eqmp h ?_)
  simp only [go_sem,aeq,aeq.aeqF,simprocAttr,fx,hsel,keepT]
  rfl):P:=t h
theorem wl {P Q:Prop} (h:Q) (t:Q→P:=by
  intro h
  (first|refine (show AS.le _ _ from eqmp h ?_)|refine (show leH _ _ from eqmp h ?_)|refine (show inH _ _ from eqmp h ?_))
  simp only [AS.le,leT,leH,zh,AsgK,AV.le,AV.leL,AObj.le,inH,idsT,idsH,AV.ids,AV.idsL,AV.idsR,AObj.ids,lk,hget,go_sem,aeq,aeq.aeqF,simprocAttr,fx]
  rfl):P:=t h
theorem wc {P Q R:Prop} (h:Q) (g:R) (t:Q→R→P:=by first|with_reducible exact And.intro|exact zdz rfl):P:=t h g
theorem we {P:Prop} (t:P:=by first|with_reducible exact True.intro|((refine (show zbe _ _=true from ?_));kernel_rfl)|((refine (show zoN _ _=true from ?_));kernel_rfl)|omega|assumption):P:=t
section
variable {P : Program}
theorem bod {f:FuncId} {fn:Func} {c:Code} {nt fl:Nat} {args:List AV} {h:AHeap} {K:AV→AHeap→Prop} (hf:P.funcs[f]?=some fn) (hnt:fn.ntmps=nt)
  (haw:∀base,AW (cxOf P base nt fl) c (RetK P fn K) { t:=zL 0 args,h:=h,g:=some [] }) (hb:fn.body=some c:=by rfl) (he:(fn.name== "runtime.NumGoroutine")=false:=by kernel_rfl) (hi:fn.body.isNone=false:=by rfl) (hn:args.length≤nt:=by simp):ACall P f fl args h K:=
 zc0 hf hb (zbA hf he hi) hnt hn haw
theorem fbod {f:FuncId} {fn:Func} {c:Code} {nt:Nat} {args:List AV} {r:AV} (hf:P.funcs[f]?=some fn) (hnt:fn.ntmps=nt)
  (haw:∀base,AW (cxOf P base nt 0) c (RetK P fn (fun r' h'=>frz 9 h' r'=r)) { t:=zL 0 args,h:= [],g:=some [] }) (hb:fn.body=some c:=by rfl) (he:(fn.name== "runtime.NumGoroutine")=false:=by kernel_rfl) (hi:fn.body.isNone=false:=by rfl) (hn:args.length≤nt:=by simp):ACall P f 0 args [] (fun r' _=>r'=r):=
 zlG (zc0 hf hb (zbA hf he hi) hnt hn haw)
theorem itr {f:FuncId} {fn:Func} {c:Code} {nt fl:Nat} {pre caps:List AV} {h:AHeap} {items:List (List AV)} {K:Option (List (List AV))→AHeap→Prop} (hf:P.funcs[f]?=some fn) (hnt:fn.ntmps=nt)
  (haw:∀base (y:Yo P items),AW (cxY P base nt fl y) c (IterK K) { t:=zL 0 (pre++ .fn (.yield y.yl) [] []::caps),h:=h,g:=some [] }) (hb:fn.body=some c:=by rfl) (he:(fn.name== "runtime.NumGoroutine")=false:=by kernel_rfl) (hi:fn.body.isNone=false:=by rfl) (hres:fn.results= #[]:=by rfl) (hn:pre.length+caps.length+1≤nt:=by simp):AIter P f fl pre caps h items K:=
 zgf hf hb (zbA hf he hi) hnt hres hn haw
end
inductive Lo {P:Prop} (h:P):Prop|mk
theorem lo2 {P:Prop} (h:P) (u:Lo h):P:=h
inductive Stp (n:Nat):Prop|mk
theorem zP (n:Nat):Stp n:= .mk
theorem hdt {cx:Cx} {c:Code} {Q:Exit→AS→Prop} {s:AS} {n:Nat} (st:Stp n) (h:hdR c=some n) (g:AW cx c Q s):AW cx c Q s:=g
theorem zu {a b:Prop} (x:a) (y:b):a∧b:=⟨x,y⟩
theorem zF {a b c:Prop} (x:a) (y:b) (z:c):a∧b∧c:=⟨x,y,z⟩
theorem z7 {a b c d:Prop} (x:a) (y:b) (z:c) (u:d):a∧b∧c∧d:=⟨x,y,z,u⟩
theorem zad {a b c d e:Prop} (x:a) (y:b) (z:c) (u:d) (v:e):a∧b∧c∧d∧e:=⟨x,y,z,u,v⟩
theorem zA {a b c d e f:Prop} (x:a) (y:b) (z:c) (u:d) (v:e) (w:f):a∧b∧c∧d∧e∧f:=⟨x,y,z,u,v,w⟩
theorem natC:∀n:Nat,((n:Int)).toNat=n:=Int.toNat_natCast
inductive Ow (l:List FuncId):Prop|mk
theorem ownsL (l:List FuncId):Ow l:= .mk
theorem zeG {cx:Cx} {ops:Array Oper} {s:AS} {id:Nat} {Q:Exit→AS→Prop} (tab:Tab) {l:List FuncId} (_:Ow l) (ht:TabOk cx.P tab) (hm:cx.P.follows .mixedOrders=true) (h:gops cx tab l ops (top cx.fl s.h) ops.toList [] (Q .normal) s):AW cx (.region id ops true) Q s:=zao tab l ht hm h
theorem zcJ {cx:Cx} {ops:Array Oper} {s:AS} {id:Nat} {y:Code} {Q:Exit→AS→Prop} (tab:Tab) {l:List FuncId} (_:Ow l) (ht:TabOk cx.P tab) (hm:cx.P.follows .mixedOrders=true) (h:∀K,(∀s',AW cx y Q s'→K s')→gops cx tab l ops (top cx.fl s.h) ops.toList [] K s):AW cx (.seq (.region id ops true) y) Q s:=zaf tab l ht hm h
theorem wao {P:Prop} {cx:Cx} {y:Code} {Q:Exit→AS→Prop} {R:(AS→Prop)→Prop} (h:∀K:AS→Prop,(∀s',AW cx y Q s'→K s')→R K) (t:(∀K:AS→Prop,(∀s',AW cx y Q s'→K s')→R K)→P:=by
  intro h
  refine zcJ _ ow tk mx (fun K hK=>eqmp (h K hK) ?_);simp only [go_sem,aeq,aeq.aeqF,simprocAttr,fx];rfl):P:=t h
theorem wbo {P Q:Prop} (h:Q) (t:Q→P:=by
  intro h
  refine zeG _ ow tk mx (eqmp h ?_);simp only [go_sem,aeq,aeq.aeqF,simprocAttr,fx];rfl):P:=t h
section
variable {Q F : Prop} {P : Program} {T : Tab} {l : List FuncId} {n : Nat}
theorem walkW (fx:F) (tk:TabOk P T) (t:F→TabOk P T→Q:=by intro fx tk;repeat' (first|(refine hK _ ?_;clear hK K)|refine wa fun K hK=>?_|refine wb ?_|refine wc ?_ ?_|refine wn fun nb hnb=>?_|exact we|refine wd fun hc=>?_|clear hK K|(clear fx tk;apply_rules (newGoals:= .nonDependentOnly) (maxDepth:=1) only [lo2];constructor))):Q:=t fx tk
theorem walkR (fx:F) (tk:TabOk P T) (t:F→TabOk P T→Q:=by intro fx tk;repeat' (first|(refine hK _ ?_;clear hK K)|refine wa fun K hK=>?_|refine wb ?_|refine wc ?_ ?_|refine wl ?_|refine fun (r2:Rnd _)=>?_|refine wn fun nb hnb=>?_|exact ‹_<+:_› |exact we|refine wd fun hc=>?_|clear hK K|(clear fx tk;apply_rules (newGoals:= .nonDependentOnly) (maxDepth:=1) only [lo2];constructor))):Q:=t fx tk
theorem walkX (fx:F) (tk:TabOk P T) (t:F→TabOk P T→Q:=by intro fx tk;repeat' (first|refine xk ?_|(refine hK _ ?_;clear hK K)|refine xa fun K hK=>?_|refine xb ?_|refine wc ?_ ?_|refine wl ?_|refine fun (r2:Rnd _)=>?_|refine wn fun nb hnb=>?_|exact ‹_<+:_› |exact we|refine wd fun hc=>?_|clear hK K|(clear fx tk;apply_rules (newGoals:= .nonDependentOnly) (maxDepth:=1) only [lo2];constructor))):Q:=t fx tk
theorem zeH (st:Stp n) (fx:F) (tk:TabOk P T) (t:Stp n→F→TabOk P T→Q:=by intro st fx tk;repeat' (first|(refine hdt st rfl ?_;clear fx tk st;apply_rules (newGoals:= .nonDependentOnly) (maxDepth:=1) only [lo2];constructor)|(refine hK _ ?_;clear hK K)|refine wa fun K hK=>?_|refine wb ?_|refine wc ?_ ?_|refine wn fun nb hnb=>?_|exact we|refine wd fun hc=>?_|clear hK K|(clear fx tk st;apply_rules (newGoals:= .nonDependentOnly) (maxDepth:=1) only [lo2];constructor))):Q:=t st fx tk
theorem zoQ (st:Stp n) (fx:F) (tk:TabOk P T) (t:Stp n→F→TabOk P T→Q:=by intro st fx tk;repeat' (first|(refine hdt st rfl ?_;clear fx tk st;apply_rules (newGoals:= .nonDependentOnly) (maxDepth:=1) only [lo2];constructor)|(refine hK _ ?_;clear hK K)|refine wa fun K hK=>?_|refine wb ?_|refine wc ?_ ?_|refine wl ?_|refine fun (r2:Rnd _)=>?_|refine wn fun nb hnb=>?_|exact ‹_<+:_› |exact we|refine wd fun hc=>?_|clear hK K|(clear fx tk st;apply_rules (newGoals:= .nonDependentOnly) (maxDepth:=1) only [lo2];constructor))):Q:=t st fx tk
theorem zlN (ow:Ow l) (fx:F) (tk:TabOk P T) (t:Ow l→F→TabOk P T→Q:=by intro ow fx tk;repeat' (first|(refine hK _ ?_;clear hK K)|refine wao fun K hK=>?_|refine wbo ?_|refine wa fun K hK=>?_|refine wb ?_|refine wc ?_ ?_|refine wn fun nb hnb=>?_|exact we|refine wd fun hc=>?_|clear hK K|(clear fx tk ow;apply_rules (newGoals:= .nonDependentOnly) (maxDepth:=1) only [lo2];constructor))):Q:=t ow fx tk
theorem zc (fx:F) (t:F→Q:=by intro fx;repeat' (first|(refine hK _ ?_;clear hK K)|refine wa fun K hK=>?_|refine wb ?_|refine wc ?_ ?_|refine wn fun nb hnb=>?_|exact we|refine wd fun hc=>?_|clear hK K|(clear fx;apply_rules (newGoals:= .nonDependentOnly) (maxDepth:=1) only [lo2];constructor))):Q:=t fx
theorem zi (fx:F) (t:F→Q:=by intro fx;repeat' (first|(refine hK _ ?_;clear hK K)|refine wa fun K hK=>?_|refine wb ?_|refine wc ?_ ?_|refine wl ?_|refine fun (r2:Rnd _)=>?_|refine wn fun nb hnb=>?_|exact ‹_<+:_› |exact we|refine wd fun hc=>?_|clear hK K|(clear fx;apply_rules (newGoals:= .nonDependentOnly) (maxDepth:=1) only [lo2];constructor))):Q:=t fx
theorem zbm (fx:F) (t:F→Q:=by intro fx;repeat' (first|refine xk ?_|(refine hK _ ?_;clear hK K)|refine xa fun K hK=>?_|refine xb ?_|refine wc ?_ ?_|refine wl ?_|refine fun (r2:Rnd _)=>?_|refine wn fun nb hnb=>?_|exact ‹_<+:_› |exact we|refine wd fun hc=>?_|clear hK K|(clear fx;apply_rules (newGoals:= .nonDependentOnly) (maxDepth:=1) only [lo2];constructor))):Q:=t fx
theorem zar (st:Stp n) (fx:F) (t:Stp n→F→Q:=by intro st fx;repeat' (first|(refine hdt st rfl ?_;clear fx st;apply_rules (newGoals:= .nonDependentOnly) (maxDepth:=1) only [lo2];constructor)|(refine hK _ ?_;clear hK K)|refine wa fun K hK=>?_|refine wb ?_|refine wc ?_ ?_|refine wn fun nb hnb=>?_|exact we|refine wd fun hc=>?_|clear hK K|(clear fx st;apply_rules (newGoals:= .nonDependentOnly) (maxDepth:=1) only [lo2];constructor))):Q:=t st fx
theorem zcK (st:Stp n) (fx:F) (t:Stp n→F→Q:=by intro st fx;repeat' (first|(refine hdt st rfl ?_;clear fx st;apply_rules (newGoals:= .nonDependentOnly) (maxDepth:=1) only [lo2];constructor)|(refine hK _ ?_;clear hK K)|refine wa fun K hK=>?_|refine wb ?_|refine wc ?_ ?_|refine wl ?_|refine fun (r2:Rnd _)=>?_|refine wn fun nb hnb=>?_|exact ‹_<+:_› |exact we|refine wd fun hc=>?_|clear hK K|(clear fx st;apply_rules (newGoals:= .nonDependentOnly) (maxDepth:=1) only [lo2];constructor))):Q:=t st fx
theorem zph (st:Stp n) (fx:F) (t:Stp n→F→Q:=by intro st fx;repeat' (first|(refine hdt st rfl ?_;clear fx st;apply_rules (newGoals:= .nonDependentOnly) (maxDepth:=1) only [lo2];constructor)|refine xk ?_|(refine hK _ ?_;clear hK K)|refine xa fun K hK=>?_|refine xb ?_|refine wc ?_ ?_|refine wl ?_|refine fun (r2:Rnd _)=>?_|refine wn fun nb hnb=>?_|exact ‹_<+:_› |exact we|refine wd fun hc=>?_|clear hK K|(clear fx st;apply_rules (newGoals:= .nonDependentOnly) (maxDepth:=1) only [lo2];constructor))):Q:=t st fx
theorem zeI (ow:Ow l) (fx:F) (t:Ow l→F→Q:=by intro ow fx;repeat' (first|(refine hK _ ?_;clear hK K)|refine wao fun K hK=>?_|refine wbo ?_|refine wa fun K hK=>?_|refine wb ?_|refine wc ?_ ?_|refine wn fun nb hnb=>?_|exact we|refine wd fun hc=>?_|clear hK K|(clear fx ow;apply_rules (newGoals:= .nonDependentOnly) (maxDepth:=1) only [lo2];constructor))):Q:=t ow fx
end
end Go.Aw
