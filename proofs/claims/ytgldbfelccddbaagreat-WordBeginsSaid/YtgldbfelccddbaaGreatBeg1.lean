/-
 Parts of the proof: lemmas.
-/
import Derived.RangeFuncRecord
import Derived.WalkKit
import GoSem.Dispatch
import Derived.Laws.StructEq
import Derived.Laws.Cells
set_option maxRecDepth 100000
set_option maxHeartbeats 2000000
set_option linter.unusedSimpArgs false
set_option linter.unusedVariables false
namespace Go.Aw
open Go
inductive D where
 |int (k:IntKind) (n:Int)
 |bool (b:Bool)
 |str (l:List UInt8)
 |sl (k:Nat) (xs:List (List D))
 |nilp
 |nilif
 deriving Inhabited
def D.scal:D→Bool
 | .sl _ _=>false
 |_=>true
def valD:D→Value
 | .int k n=> .int k n
 | .bool b=> .bool b
 | .str l=> .string ⟨l.toArray⟩
 | .sl _ _=> .nilFunc
 | .nilp=> .pointer none
 | .nilif=> .nilIface
def esOk (es:List (D×D)) (mes:Array MapEntry):Prop:=
 (es.all fun p=>p.1.scal&&p.2.scal)=true∧mes.toList.map (fun e=>(e.key,e.val))=es.map fun p=>(valD p.1,valD p.2)
inductive AV where
 |d (x:D)
 |agg (cs:List AV)
 |tup (vs:List AV)
 |nils (k:Nat)
 |dp (cs:List AV)
 |vp (i off:Nat)
 |ap (i n k r off:Nat)
 |osl (i k n off len:Nat)
 |vsl (i k off len:Nat)
 |asl (k:Nat) (xs:List (List AV))
 |fn (f:Fn) (first cap:List AV)
 |nilfn
 |any
 |map (i:Nat)
 |nilmap
 |raw (v:Value)
 |tp (i off:Nat)
 |bsl (i n:Nat)
 |itr (i:Nat)
 |iface (t:Nat) (v:AV)
 |amap (ks:List D) (vs:List AV)
 deriving Inhabited
inductive AObj where
 |var (cs:List AV)
 |arr (k:Nat) (xs:List (List D))
 |strit (l:List UInt8) (pos:Nat)
 |omap (es:List (D×D))
 |tvar (t:TypeId) (cs:List AV)
 |buf (t:TypeId) (xs:List UInt8)
 deriving Inhabited
abbrev AHeap:=List (Nat×AObj)
def hget:AHeap→Nat→Option AObj
 | [],_=>none
 |(k,o)::r,n=>if k=n then some o else hget r n
def hset:AHeap→Nat→AObj→AHeap
 | [],_,_=> []
 |(k,o)::r,n,o'=>if k=n then (k,o')::r else (k,o)::hset r n o'
def hdel:AHeap→Nat→AHeap
 | [],_=> []
 |(k,o)::r,n=>if k=n then hdel r n else (k,o)::hdel r n
def top (fl:Nat):AHeap→Nat
 | []=>fl
 |(k,_)::r=>if top fl r≤k then k+1 else top fl r
def fresh (fl:Nat) (h:AHeap):Nat:=if (hget h fl).isSome=true then top fl h else fl
structure Env where
 O:Nat→Option Nat
 C:Nat→Nat
 M:Nat→Prop
 N:Nat→Prop
def Own (E:Env) (h:AHeap) (b:Nat):Prop:=∃i,(hget h i).isSome∧E.O i=some b
def Xs (E:Env) (h:AHeap) (b:Nat):Prop:=Own E h b∨E.M b∨E.N b
mutual
def RepD (W:World) (X:Nat→Prop):D→Value→Prop
 | .int k n,v=>v= .int k n
 | .bool b,v=>v= .bool b
 | .str l,v=>v= .string ⟨l.toArray⟩
 | .sl k xs,v=>(xs= []∧∃a cap,v= .slice a 0 cap)∨
   (∃a cap c T fz,v= .slice (some a) xs.length cap∧a.spot=none∧xs.length≤cap∧¬X a.block∧W.heap[a.block]?=some (.cells c T fz)∧RepRows W X k xs (c.toList.drop a.off))
 | .nilp,v=>v= .pointer none
 | .nilif,v=>v= .nilIface
def RepDs (W:World) (X:Nat→Prop):List D→List Value→Prop
 | [],vs=>vs= []
 |x::xs,vs=>∃v r,vs=v::r∧RepD W X x v∧RepDs W X xs r
def RepRows (W:World) (X:Nat→Prop) (k:Nat):List (List D)→List Value→Prop
 | [],_=>True
 |r::rs,vs=>r.length=k∧RepDs W X r (vs.take k)∧RepRows W X k rs (vs.drop k)
end
mutual
def Rep (W:World) (E:Env) (h:AHeap):AV→Value→Prop
 | .d x,v=>RepD W (Xs E h) x v
 | .agg cs,v=>∃vs,v= .agg vs∧Reps W E h cs vs.toList
 | .tup cs,v=>∃vs,v= .tuple vs∧Reps W E h cs vs.toList
 | .nils _,v=>v= .slice none 0 0
 | .dp cs,v=>∃a c T fz,v= .pointer (some a)∧a.spot=none∧¬Xs E h a.block∧W.heap[a.block]?=some (.cells c T fz)∧Reps W E h cs ((c.toList.drop a.off).take cs.length)
 | .vp i off,v=>∃b cs,hget h i=some (.var cs)∧E.O i=some b∧v= .pointer (some ⟨b,off,none⟩)
 | .ap i n k r off,v=>(∃p,v= .pointer p)∧∃xs,hget h i=some (.arr k xs)∧n≤xs.length∧(xs.length=n→∃b,E.O i=some b∧v= .pointer (some ⟨b,r*k+off,none⟩))
 | .osl i k n off len,v=>(∃p l c,v= .slice p l c)∧∃xs,hget h i=some (.arr k xs)∧n≤xs.length∧off+len≤n∧(xs.length=n→
   ((E.O i=none∧n=0)∧v= .slice none 0 0)∨(∃b,E.O i=some b∧v= .slice (some ⟨b,off*k,none⟩) len (E.C i - off))∨(off≠0∧len=0∧∃a cap,v= .slice a 0 cap))
 | .vsl i k off len,v=>∃b cs,hget h i=some (.var cs)∧E.O i=some b∧off+len*k≤cs.length∧∃cap,len≤cap∧v= .slice (some ⟨b,off,none⟩) len cap
 | .asl k xs,v=>∃a cap c T fz,v= .slice (some a) xs.length cap∧a.spot=none∧xs.length≤cap∧¬Xs E h a.block∧W.heap[a.block]?=some (.cells c T fz)∧RepARows W E h k xs (c.toList.drop a.off)
 | .fn f fs cs,v=>∃a b,v= .func f a b∧Reps W E h fs a.toList∧Reps W E h cs b.toList
 | .nilfn,v=>v= .nilFunc
 | .any,_=>True
 | .map i,v=>∃b es,hget h i=some (.omap es)∧E.O i=some b∧v= .map (some b)
 | .nilmap,v=>v= .map none
 | .raw u,v=>v=u
 | .tp i off,v=>∃b t cs,hget h i=some (.tvar t cs)∧E.O i=some b∧v= .pointer (some ⟨b,off,none⟩)
 | .bsl i n,v=>(∃p l c,v= .slice p l c)∧∃t xs,hget h i=some (.buf t xs)∧n≤xs.length∧(xs.length=n→((E.O i=none∧n=0)∧v= .slice none 0 0)∨(∃b,E.O i=some b∧v= .slice (some ⟨b,0,none⟩) n (E.C i)))
 | .itr i,v=>∃b l p,hget h i=some (.strit l p)∧E.O i=some b∧v= .pointer (some ⟨b,0,none⟩)
 | .iface t a,v=>∃x,v= .iface t x∧Rep W E h a x
 | .amap ks vs,v=>∃b mes clock,v= .map (some b)∧¬Xs E h b∧W.heap[b]?=some (.map mes clock)∧mes.toList.map (·.key)=ks.map valD∧Reps W E h vs (mes.toList.map (·.val))
def Reps (W:World) (E:Env) (h:AHeap):List AV→List Value→Prop
 | [],vs=>vs= []
 |x::xs,vs=>∃v r,vs=v::r∧Rep W E h x v∧Reps W E h xs r
def RepARows (W:World) (E:Env) (h:AHeap) (k:Nat):List (List AV)→List Value→Prop
 | [],_=>True
 |r::rs,vs=>r.length=k∧Reps W E h r (vs.take k)∧RepARows W E h k rs (vs.drop k)
end
def stays:Obj→Bool
 | .cells .. | .map .. =>true
 |_=>false
def zY (fz:Nat×Nat) (n:Nat):Prop:=∀o,o<n→¬(fz.1≤o∧o<fz.2)
def zdo:Nat:=9223372036854775808
def RepObj (W:World) (E:Env) (h:AHeap) (i:Nat):AObj→Prop
 | .var cs=>∃b c T fz,E.O i=some b∧W.heap[b]?=some (.cells c T fz)∧Reps W E h cs c.toList∧zY fz c.size
 | .arr k xs=>(E.O i=none∧(xs= []∨xs.length=zdo))∨(∃b c T fz,E.O i=some b∧W.heap[b]?=some (.cells c T fz)∧c.size=E.C i*k∧xs.length≤E.C i∧RepRows W (Xs E h) k xs c.toList∧zY fz c.size)
 | .strit l p=>∃b,E.O i=some b∧W.heap[b]?=some (.stringIter ⟨l.toArray⟩ p)
 | .omap es=>∃b mes clock,E.O i=some b∧W.heap[b]?=some (.map mes clock)∧esOk es mes
 | .tvar t cs=>∃b c T fz,E.O i=some b∧W.heap[b]?=some (.cells c T fz)∧Reps W E h cs c.toList∧(zY fz c.size∧T=t)
 | .buf t xs=>(E.O i=none∧(xs= []∨xs.length=zdo))∨(∃b c T fz,E.O i=some b∧W.heap[b]?=some (.cells c T fz)∧c.size=E.C i*1∧xs.length≤E.C i∧c.toList.take xs.length=xs.map (fun x=>Value.int .u8 x.toNat)∧(fz=(0,0)∧T=t∧E.C i≤9223372036854775807))
open Go
def XIn (W:World) (X' X:Nat→Prop):Prop:=∀b o,W.heap[b]?=some o→stays o=true→X' b→X b
def KIn (W W':World) (X:Nat→Prop):Prop:=∀b o,W.heap[b]?=some o→stays o=true→¬X b→W'.heap[b]?=some o
section
variable {W W' : World} {X X' : Nat → Prop}
mutual
theorem RepD.stepc (hX:XIn W X' X) (hK:KIn W W' X):
  ∀ (x:D) (v:Value),RepD W X x v→RepD W' X' x v
 | .int _ _,_,h=>by simpa only [RepD] using h
 | .bool _,_,h=>by simpa only [RepD] using h
 | .str _,_,h=>by simpa only [RepD] using h
 | .nilp,_,h=>by simpa only [RepD] using h
 | .nilif,_,h=>by simpa only [RepD] using h
 | .sl k xs,v,h=>by
  simp only [RepD] at h ⊢
  rcases h with h|⟨a,cap,c,T,fz,h1,h2,h3,h4,h5,h6⟩
  ·exact .inl h
  ·exact .inr ⟨a,cap,c,T,fz,h1,h2,h3,fun hx=>h4 (hX _ _ h5 rfl hx),hK _ _ h5 rfl h4,RepRows.stepc hX hK k xs _ h6⟩
theorem RepDs.stepc (hX:XIn W X' X) (hK:KIn W W' X):
  ∀ (xs:List D) (vs:List Value),RepDs W X xs vs→RepDs W' X' xs vs
 | [],_,h=>by simpa only [RepDs] using h
 |x::xs,_,h=>by
  simp only [RepDs] at h ⊢
  obtain ⟨v,r,h1,h2,h3⟩:=h
  exact ⟨v,r,h1,RepD.stepc hX hK x v h2,RepDs.stepc hX hK xs r h3⟩
theorem RepRows.stepc (hX:XIn W X' X) (hK:KIn W W' X) (k:Nat):
  ∀ (xs:List (List D)) (vs:List Value),RepRows W X k xs vs→RepRows W' X' k xs vs
 | [],_,_=>by simp only [RepRows]
 |r::rs,vs,h=>by
  simp only [RepRows] at h ⊢
  exact ⟨h.1,RepDs.stepc hX hK r _ h.2.1,RepRows.stepc hX hK k rs _ h.2.2⟩
end
theorem hK_of (hK:∀b,b<W.heap.size→¬X b→W'.heap[b]?=W.heap[b]?):KIn W W' X:=fun b _ h _ hx=>(hK b (Array.getElem?_eq_some_iff.1 h).1 hx).trans h
theorem hX_of {Y Y':Nat→Prop} (hX:∀b,b<W.heap.size→Y' b→Y b):XIn W Y' Y:=fun b _ h _ hx=>hX b (Array.getElem?_eq_some_iff.1 h).1 hx
theorem RepD.step (hX:∀b,b<W.heap.size→X' b→X b) (hK:∀b,b<W.heap.size→¬X b→W'.heap[b]?=W.heap[b]?) (x:D) (v:Value) (h:RepD W X x v):RepD W' X' x v:=RepD.stepc (hX_of hX) (hK_of hK) x v h
theorem RepDs.step (hX:∀b,b<W.heap.size→X' b→X b) (hK:∀b,b<W.heap.size→¬X b→W'.heap[b]?=W.heap[b]?) (x:List D) (v:List Value) (h:RepDs W X x v):RepDs W' X' x v:=RepDs.stepc (hX_of hX) (hK_of hK) x v h
theorem RepRows.step (hX:∀b,b<W.heap.size→X' b→X b) (hK:∀b,b<W.heap.size→¬X b→W'.heap[b]?=W.heap[b]?) (k:Nat) (x:List (List D)) (v:List Value) (h:RepRows W X k x v):RepRows W' X' k x v:=RepRows.stepc (hX_of hX) (hK_of hK) k x v h
end
mutual
def AV.ids:AV→List Nat
 | .d _| .nils _| .nilfn| .any| .nilmap| .raw _=> []
 | .agg cs| .tup cs| .dp cs| .amap _ cs=>AV.idsL cs
 | .vp i _| .tp i _| .bsl i _| .ap i _ _ _ _| .osl i _ _ _ _| .vsl i _ _ _| .map i| .itr i=> [i]
 | .asl _ xs=>AV.idsR xs
 | .fn _ fs cs=>AV.idsL fs++AV.idsL cs
 | .iface _ a=>a.ids
def AV.idsL:List AV→List Nat
 | []=> []
 |x::xs=>x.ids++AV.idsL xs
def AV.idsR:List (List AV)→List Nat
 | []=> []
 |x::xs=>AV.idsL x++AV.idsR xs
end
def AObj.ids:AObj→List Nat
 | .var cs=>AV.idsL cs
 | .tvar _ cs=>AV.idsL cs
 | .arr _ _| .strit _ _| .omap _| .buf _ _=> []
def GoesOn (E:Env) (h:AHeap) (E':Env) (h':AHeap) (i:Nat):Prop:=
 match hget h i with
 |some (.var cs)=>E'.O i=E.O i∧∃cs',hget h' i=some (.var cs')∧cs'.length=cs.length
 |some (.arr k xs)=>∃xs',hget h' i=some (.arr k xs')∧xs.length≤xs'.length∧(xs'.length=xs.length→E'.O i=E.O i∧E'.C i=E.C i)
 |some (.strit l _)=>E'.O i=E.O i∧∃p',hget h' i=some (.strit l p')
 |some (.omap _)=>E'.O i=E.O i∧∃es',hget h' i=some (.omap es')
 |some (.buf t xs)=>∃xs',hget h' i=some (.buf t xs')∧xs.length≤xs'.length∧(xs'.length=xs.length→E'.O i=E.O i∧E'.C i=E.C i)
 |some (.tvar t cs)=>E'.O i=E.O i∧∃cs',hget h' i=some (.tvar t cs')∧cs'.length=cs.length
 |none=>True
theorem GoesOn.refl (E:Env) (h:AHeap) (i:Nat):GoesOn E h E h i:=by
 unfold GoesOn
 split<;>simp_all
section
variable {W W' : World} {E E' : Env} {h h' : AHeap}
mutual
theorem Rep.stepc (hX:XIn W (Xs E' h') (Xs E h)) (hK:KIn W W' (Xs E h)):
  ∀ (a:AV) (v:Value),(∀i∈a.ids,GoesOn E h E' h' i)→Rep W E h a v→Rep W' E' h' a v
 | .d x,v,_,hr=>by simp only [Rep] at hr ⊢;exact RepD.stepc hX hK x v hr
 | .agg cs,v,hi,hr=>by
  simp only [Rep] at hr ⊢
  obtain ⟨vs,h1,h2⟩:=hr
  exact ⟨vs,h1,Reps.stepc hX hK cs _ (by simpa only [AV.ids] using hi) h2⟩
 | .tup cs,v,hi,hr=>by
  simp only [Rep] at hr ⊢
  obtain ⟨vs,h1,h2⟩:=hr
  exact ⟨vs,h1,Reps.stepc hX hK cs _ (by simpa only [AV.ids] using hi) h2⟩
 | .nils _,_,_,hr=>by simpa only [Rep] using hr
 | .nilfn,_,_,hr=>by simpa only [Rep] using hr
 | .nilmap,_,_,hr=>by simpa only [Rep] using hr
 | .raw _,_,_,hr=>by simpa only [Rep] using hr
 | .any,_,_,_=>by simp only [Rep]
 | .dp cs,v,hi,hr=>by
  simp only [Rep] at hr ⊢
  obtain ⟨a,c,T,fz,h1,h2,h3,h4,h5⟩:=hr
  exact ⟨a,c,T,fz,h1,h2,fun hx=>h3 (hX _ _ h4 rfl hx),hK _ _ h4 rfl h3,Reps.stepc hX hK cs _ (by simpa only [AV.ids] using hi) h5⟩
 | .vp i off,v,hi,hr=>by
  simp only [Rep] at hr ⊢
  obtain ⟨b,cs,h1,h2,h3⟩:=hr
  have hg:=hi i (by simp [AV.ids])
  simp only [GoesOn,h1] at hg
  obtain ⟨cs',hc,_⟩:=hg.2
  exact ⟨b,cs',hc,hg.1.trans h2,h3⟩
 | .tp i off,v,hi,hr=>by
  simp only [Rep] at hr ⊢
  obtain ⟨b,t,cs,h1,h2,h3⟩:=hr
  have hg:=hi i (by simp [AV.ids])
  simp only [GoesOn,h1] at hg
  obtain ⟨cs',hc,_⟩:=hg.2
  exact ⟨b,t,cs',hc,hg.1.trans h2,h3⟩
 | .bsl i n,v,hi,hr=>by
  simp only [Rep] at hr ⊢
  obtain ⟨h0,t,xs,h1,h2,h3⟩:=hr
  have hg:=hi i (by simp [AV.ids])
  simp only [GoesOn,h1] at hg
  obtain ⟨xs',hx,hl,he⟩:=hg
  refine ⟨h0,t,xs',hx,by omega,fun hn=>?_⟩
  obtain ⟨e1,e2⟩:=he (by omega)
  rw [e1,e2]
  exact h3 (by omega)
 | .ap i n k r off,v,hi,hr=>by
  simp only [Rep] at hr ⊢
  obtain ⟨h0,xs,h1,h2,h3⟩:=hr
  have hg:=hi i (by simp [AV.ids])
  simp only [GoesOn,h1] at hg
  obtain ⟨xs',hx,hl,he⟩:=hg
  refine ⟨h0,xs',hx,by omega,fun hn=>?_⟩
  obtain ⟨e1,e2⟩:=he (by omega)
  obtain ⟨b,hb,hv⟩:=h3 (by omega)
  exact ⟨b,e1.trans hb,hv⟩
 | .osl i k n off len,v,hi,hr=>by
  simp only [Rep] at hr ⊢
  obtain ⟨h0,xs,h1,h2,h4,h3⟩:=hr
  have hg:=hi i (by simp [AV.ids])
  simp only [GoesOn,h1] at hg
  obtain ⟨xs',hx,hl,he⟩:=hg
  refine ⟨h0,xs',hx,by omega,h4,fun hn=>?_⟩
  obtain ⟨e1,e2⟩:=he (by omega)
  rw [e1,e2]
  exact h3 (by omega)
 | .vsl i k off len,v,hi,hr=>by
  simp only [Rep] at hr ⊢
  obtain ⟨b,cs,h1,h2,h4,h3⟩:=hr
  have hg:=hi i (by simp [AV.ids])
  simp only [GoesOn,h1] at hg
  obtain ⟨cs',hc,hl⟩:=hg.2
  exact ⟨b,cs',hc,hg.1.trans h2,by omega,h3⟩
 | .asl k xs,v,hi,hr=>by
  simp only [Rep] at hr ⊢
  obtain ⟨a,cap,c,T,fz,h1,h2,h3,h4,h5,h6⟩:=hr
  exact ⟨a,cap,c,T,fz,h1,h2,h3,fun hx=>h4 (hX _ _ h5 rfl hx),hK _ _ h5 rfl h4,RepARows.stepc hX hK k xs _ (by simpa only [AV.ids] using hi) h6⟩
 | .fn f fs cs,v,hi,hr=>by
  simp only [Rep] at hr ⊢
  obtain ⟨a,b,h1,h2,h3⟩:=hr
  simp only [AV.ids,List.mem_append] at hi
  exact ⟨a,b,h1,Reps.stepc hX hK fs _ (fun i hm=>hi i (.inl hm)) h2,Reps.stepc hX hK cs _ (fun i hm=>hi i (.inr hm)) h3⟩
 | .map i,v,hi,hr=>by
  simp only [Rep] at hr ⊢
  obtain ⟨b,es,h1,h2,h3⟩:=hr
  have hg:=hi i (by simp [AV.ids])
  simp only [GoesOn,h1] at hg
  obtain ⟨es',he⟩:=hg.2
  exact ⟨b,es',he,hg.1.trans h2,h3⟩
 | .itr i,v,hi,hr=>by
  simp only [Rep] at hr ⊢
  obtain ⟨b,l,p,h1,h2,h3⟩:=hr
  have hg:=hi i (by simp [AV.ids])
  simp only [GoesOn,h1] at hg
  obtain ⟨p',he⟩:=hg.2
  exact ⟨b,l,p',he,hg.1.trans h2,h3⟩
 | .iface t a,v,hi,hr=>by
  simp only [Rep] at hr ⊢
  obtain ⟨x,h1,h2⟩:=hr
  exact ⟨x,h1,Rep.stepc hX hK a x (by simpa only [AV.ids] using hi) h2⟩
 | .amap ks vs,v,hi,hr=>by
  simp only [Rep] at hr ⊢
  obtain ⟨b,mes,clock,h1,h2,h3,h4,h5⟩:=hr
  exact ⟨b,mes,clock,h1,fun hx=>h2 (hX _ _ h3 rfl hx),hK _ _ h3 rfl h2,h4,Reps.stepc hX hK vs _ (by simpa only [AV.ids] using hi) h5⟩
theorem Reps.stepc (hX:XIn W (Xs E' h') (Xs E h)) (hK:KIn W W' (Xs E h)):
  ∀ (aZ:List AV) (vs:List Value),(∀i∈AV.idsL aZ,GoesOn E h E' h' i)→Reps W E h aZ vs→Reps W' E' h' aZ vs
 | [],_,_,hr=>by simpa only [Reps] using hr
 |x::xs,vs,hi,hr=>by
  simp only [Reps] at hr ⊢
  obtain ⟨v,r,h1,h2,h3⟩:=hr
  simp only [AV.idsL,List.mem_append] at hi
  exact ⟨v,r,h1,Rep.stepc hX hK x v (fun i hm=>hi i (.inl hm)) h2,Reps.stepc hX hK xs r (fun i hm=>hi i (.inr hm)) h3⟩
theorem RepARows.stepc (hX:XIn W (Xs E' h') (Xs E h)) (hK:KIn W W' (Xs E h)) (k:Nat):
  ∀ (aZ:List (List AV)) (vs:List Value),(∀i∈AV.idsR aZ,GoesOn E h E' h' i)→RepARows W E h k aZ vs→RepARows W' E' h' k aZ vs
 | [],_,_,_=>by simp only [RepARows]
 |x::xs,vs,hi,hr=>by
  simp only [RepARows] at hr ⊢
  simp only [AV.idsR,List.mem_append] at hi
  exact ⟨hr.1,Reps.stepc hX hK x _ (fun i hm=>hi i (.inl hm)) hr.2.1,RepARows.stepc hX hK k xs _ (fun i hm=>hi i (.inr hm)) hr.2.2⟩
end
theorem Rep.step (hX:∀b,b<W.heap.size→Xs E' h' b→Xs E h b) (hK:∀b,b<W.heap.size→¬Xs E h b→W'.heap[b]?=W.heap[b]?) (a:AV) (v:Value) (hi:∀i∈a.ids,GoesOn E h E' h' i) (hr:Rep W E h a v):Rep W' E' h' a v:=Rep.stepc (hX_of hX) (hK_of hK) a v hi hr
theorem Reps.step (hX:∀b,b<W.heap.size→Xs E' h' b→Xs E h b) (hK:∀b,b<W.heap.size→¬Xs E h b→W'.heap[b]?=W.heap[b]?) (a:List AV) (v:List Value) (hi:∀i∈AV.idsL a,GoesOn E h E' h' i) (hr:Reps W E h a v):Reps W' E' h' a v:=Reps.stepc (hX_of hX) (hK_of hK) a v hi hr
theorem RepARows.step (hX:∀b,b<W.heap.size→Xs E' h' b→Xs E h b) (hK:∀b,b<W.heap.size→¬Xs E h b→W'.heap[b]?=W.heap[b]?) (k:Nat) (a:List (List AV)) (v:List Value) (hi:∀i∈AV.idsR a,GoesOn E h E' h' i) (hr:RepARows W E h k a v):RepARows W' E' h' k a v:=RepARows.stepc (hX_of hX) (hK_of hK) k a v hi hr
end
open Go
section
variable {W : World} {E : Env} {h : AHeap} {X : Nat → Prop}
theorem Reps.length:∀ {aZ:List AV} {vs:List Value},Reps W E h aZ vs→vs.length=aZ.length
 | [],_,hr=>by simp only [Reps] at hr;subst hr;rfl
 |a::aZ,_,hr=>by
  simp only [Reps] at hr
  obtain ⟨v,r,rfl,_,h3⟩:=hr
  simp [Reps.length h3]
theorem RepDs.length:∀ {aZ:List D} {vs:List Value},RepDs W X aZ vs→vs.length=aZ.length
 | [],_,hr=>by simp only [RepDs] at hr;subst hr;rfl
 |a::aZ,_,hr=>by
  simp only [RepDs] at hr
  obtain ⟨v,r,rfl,_,h3⟩:=hr
  simp [RepDs.length h3]
theorem Reps.get:∀ {aZ:List AV} {vs:List Value},Reps W E h aZ vs→∀ {i:Nat} {a:AV},aZ[i]?=some a→∃v,vs[i]?=some v∧Rep W E h a v
 | [],_,_,i,a,hi=>by simp at hi
 |b::aZ,_,hr,i,a,hi=>by
  simp only [Reps] at hr
  obtain ⟨v,r,rfl,h2,h3⟩:=hr
  cases i with
  |zero=>simp at hi;subst hi;exact ⟨v,by simp,h2⟩
  |succ i=>simp at hi;simpa using Reps.get h3 hi
theorem Reps.take:∀ {aZ:List AV} {vs:List Value},Reps W E h aZ vs→∀n,Reps W E h (aZ.take n) (vs.take n)
 | [],_,hr,n=>by simp only [Reps] at hr;subst hr;simp [Reps]
 |b::aZ,_,hr,n=>by
  simp only [Reps] at hr
  obtain ⟨v,r,rfl,h2,h3⟩:=hr
  cases n with
  |zero=>simp [Reps]
  |succ n=>simp only [List.take_succ_cons,Reps];exact ⟨_,_,rfl,h2,Reps.take h3 n⟩
theorem Reps.drop:∀ {aZ:List AV} {vs:List Value},Reps W E h aZ vs→∀n,Reps W E h (aZ.drop n) (vs.drop n)
 | [],_,hr,n=>by simp only [Reps] at hr;subst hr;simp [Reps]
 |b::aZ,_,hr,n=>by
  simp only [Reps] at hr
  obtain ⟨v,r,rfl,h2,h3⟩:=hr
  cases n with
  |zero=>simp only [List.drop_zero,Reps];exact ⟨_,_,rfl,h2,h3⟩
  |succ n=>simp only [List.drop_succ_cons];exact Reps.drop h3 n
theorem Reps.append:∀ {aZ bs:List AV} {vs ws:List Value},Reps W E h aZ vs→Reps W E h bs ws→Reps W E h (aZ++bs) (vs++ws)
 | [],bs,_,ws,hr,hb=>by simp only [Reps] at hr;subst hr;simpa using hb
 |b::aZ,bs,_,ws,hr,hb=>by
  simp only [Reps] at hr
  obtain ⟨v,r,rfl,h2,h3⟩:=hr
  simp only [List.cons_append,Reps]
  exact ⟨_,_,rfl,h2,Reps.append h3 hb⟩
theorem Reps.set:∀ {aZ:List AV} {vs:List Value},Reps W E h aZ vs→∀ {i:Nat} {a:AV} {v:Value},Rep W E h a v→Reps W E h (aZ.set i a) (vs.set i v)
 | [],_,hr,i,a,v,_=>by simp only [Reps] at hr;subst hr;simp [Reps]
 |b::aZ,_,hr,i,a,x,hx=>by
  simp only [Reps] at hr
  obtain ⟨v,r,rfl,h2,h3⟩:=hr
  cases i with
  |zero=>simp only [List.set_cons_zero,Reps];exact ⟨_,_,rfl,hx,h3⟩
  |succ i=>simp only [List.set_cons_succ,Reps];exact ⟨_,_,rfl,h2,Reps.set h3 hx⟩
theorem Reps.map_d:∀ {aZ:List D} {vs:List Value},Reps W E h (aZ.map AV.d) vs↔RepDs W (Xs E h) aZ vs
 | [],_=>by simp [Reps,RepDs]
 |a::aZ,vs=>by simp only [List.map_cons,Reps,RepDs,Rep,Reps.map_d]
theorem RepRows.get {k:Nat} :∀ {xs:List (List D)} {vs:List Value},RepRows W X k xs vs→∀ {i:Nat} {r:List D},xs[i]?=some r→r.length=k∧RepDs W X r ((vs.drop (i*k)).take k)
 | [],_,_,i,r,hi=>by simp at hi
 | x::xs,vs,hr,i,r,hi=>by
  simp only [RepRows] at hr
  obtain ⟨h1,h2,h3⟩:=hr
  cases i with
  |zero=>simp at hi;subst hi;exact ⟨h1,by simpa using h2⟩
  |succ i=>
   simp at hi
   have:=RepRows.get h3 hi
   rw [List.drop_drop] at this
   rwa [show k+i*k=(i+1)*k by rw [Nat.succ_mul];omega] at this
theorem RepARows.get {k:Nat} :∀ {xs:List (List AV)} {vs:List Value},RepARows W E h k xs vs→∀ {i:Nat} {r:List AV},xs[i]?=some r→r.length=k∧Reps W E h r ((vs.drop (i*k)).take k)
 | [],_,_,i,r,hi=>by simp at hi
 | x::xs,vs,hr,i,r,hi=>by
  simp only [RepARows] at hr
  obtain ⟨h1,h2,h3⟩:=hr
  cases i with
  |zero=>simp at hi;subst hi;exact ⟨h1,by simpa using h2⟩
  |succ i=>
   simp at hi
   have:=RepARows.get h3 hi
   rw [List.drop_drop] at this
   rwa [show k+i*k=(i+1)*k by rw [Nat.succ_mul];omega] at this
theorem RepRows.drop {k:Nat} :∀ {xs:List (List D)} {vs:List Value},RepRows W X k xs vs→∀n,RepRows W X k (xs.drop n) (vs.drop (n*k))
 | [],_,_,n=>by simp [RepRows]
 |x::xs,vs,hr,0=>by simpa using hr
 |x::xs,vs,hr,n+1=>by
  simp only [RepRows] at hr
  have:=RepRows.drop hr.2.2 n
  rw [List.drop_drop] at this
  simp only [List.drop_succ_cons]
  rwa [show k+n*k=(n+1)*k by rw [Nat.succ_mul];omega] at this
theorem RepRows.take {k:Nat} :∀ {xs:List (List D)} {vs:List Value},RepRows W X k xs vs→∀n,RepRows W X k (xs.take n) vs
 | [],_,_,n=>by simp [RepRows]
 |x::xs,vs,hr,0=>by simp [RepRows]
 |x::xs,vs,hr,n+1=>by
  simp only [RepRows,List.take_succ_cons] at hr ⊢
  exact ⟨hr.1,hr.2.1,RepRows.take hr.2.2 n⟩
theorem RepRows.length_le {k:Nat} :∀ {xs:List (List D)} {vs:List Value},RepRows W X k xs vs→xs.length*k≤vs.length
 | [],_,_=>by simp
 |x::xs,vs,hr=>by
  simp only [RepRows] at hr
  have h1:=RepDs.length hr.2.1
  have h2:=RepRows.length_le hr.2.2
  rw [List.length_take] at h1
  rw [List.length_drop] at h2
  simp only [List.length_cons,Nat.succ_mul]
  have:=hr.1
  omega
theorem RepRows.congr {k:Nat} :∀ {xs:List (List D)} {vs ws:List Value},RepRows W X k xs vs→vs.take (xs.length*k)=ws.take (xs.length*k)→RepRows W X k xs ws
 | [],_,_,_,_=>by simp only [RepRows]
 | x::xs,vs,ws,hr,he=>by
  simp only [RepRows] at hr ⊢
  simp only [List.length_cons,Nat.succ_mul] at he
  have h1:vs.take k=ws.take k:=by
   have:=congrArg (List.take k) he
   rw [List.take_take,List.take_take] at this
   rwa [Nat.min_eq_left (by omega)] at this
  have h2:(vs.drop k).take (xs.length*k)=(ws.drop k).take (xs.length*k):=by
   have:=congrArg (List.drop k) he
   rw [List.drop_take,List.drop_take] at this
   rwa [show xs.length*k+k - k=xs.length*k by omega] at this
  exact ⟨hr.1,by rw [← h1];exact hr.2.1,RepRows.congr hr.2.2 h2⟩
theorem RepRows.append {k:Nat} :∀ {xs ys:List (List D)} {vs ws:List Value},RepRows W X k xs vs→RepRows W X k ys ws→vs.length=xs.length*k→RepRows W X k (xs++ys) (vs++ws)
 | [],ys,vs,ws,_,hy,hl=>by
  have:vs= []:=by simpa using hl
  subst this;simpa using hy
 | x::xs,ys,vs,ws,hr,hy,hl=>by
  simp only [RepRows,List.cons_append] at hr ⊢
  simp only [List.length_cons,Nat.succ_mul] at hl
  refine ⟨hr.1,?_,?_⟩
  ·rw [List.take_append_of_le_length (by omega)];exact hr.2.1
  ·rw [List.drop_append_of_le_length (by omega)]
   exact RepRows.append hr.2.2 hy (by rw [List.length_drop];omega)
end
open Go
structure AS where
 t:List (Nat×(Bool×AV))
 h:AHeap
 g:Option (List (List AV)):=some []
def lk:List (Nat×(Bool×AV))→Nat→Option (Bool×AV)
 | [],_=>none
 |(k,v)::r,n=>if k=n then some v else lk r n
def AS.put (s:AS) (d:Option Nat) (g:Bool) (v:AV):AS:=
 match d with
 |some k=> { s with t:=(k,(g,v))::s.t }
 |none=>s
def zfQ (P:Program) (l:Nat) (args:Array Value) (w:World) (R:Ending→World→Prop):Prop:=
 ∃fn tmps assign body,(Instr.yield l args).run P w= .ok (.round l fn tmps assign body) w∧RoundIn Fence.wide 0 P l fn tmps assign body w R
def bare (X:Nat→Prop):Env:= { O:=fun _=>none,C:=fun _=>0,M:=fun _=>False,N:=X }
structure Cx where
 P:Program
 ro:Option Nat
 base:Nat
 nt:Nat
 fl:Nat
 G:Option (List (List AV))→(Nat→Prop)→(Nat→Prop)→(Nat→Prop)→World→Prop
 stab:∀g M N A A' w w',(∀b,b<w.heap.size→¬A b→w'.heap[b]?=w.heap[b]?)→(∀b,A' b→A b∨w.heap.size≤b)→(∀b,A' b→b<w'.heap.size)→w.heap.size≤w'.heap.size→w'.tape=w.tape→w'.os=w.os→w'.output=w.output→G g M N A w→G g M N A' w'
 rq:Bool:=false
 yl:Nat:=0
 items:List (List AV):= []
 yok:∀xs x X M N A w (vs:Array Value),G (some xs) M N A w→(∀b,M b∨N b∨A b→X b)→Reps w (bare X) [] x vs.toList→(xs++ [x])<+:items→
  zfQ P yl vs w (fun e w'=>∃b M',e= .returned (.bool b)∧w'.os=w.os∧w'.tape=w.tape∧w'.output=w.output∧w.heap.size≤w'.heap.size∧(∀k,k<w.heap.size→¬M k→w'.heap[k]?=w.heap[k]?)∧
   (∀k,M k→M' k)∧(∀k,M' k→M k∨(w.heap.size≤k∧k<w'.heap.size))∧G (if b=true then some (xs++ [x]) else none) M' N A w')
def Cx.F (cx:Cx):Fence:= { Fence.wide with round:=cx.ro }
def Cx.lone (cx:Cx):Bool:=cx.ro.isNone&& !cx.rq
theorem Cx.lone_ok {cx:Cx} (h:cx.lone=true):cx.ro=none∧cx.rq=false:=by
 simpa [Cx.lone] using h
structure SatH (E:Env) (h:AHeap) (w:World):Prop where
 heap:∀i o,hget h i=some o→RepObj w E h i o
 inj:∀i j b,(hget h i).isSome→(hget h j).isSome→E.O i=some b→E.O j=some b→i=j
 own:∀b,Own E h b→b<w.heap.size∧¬E.M b∧¬E.N b
 mlt:∀b,E.M b→b<w.heap.size
 nlt:∀b,E.N b→b<w.heap.size
def zQ (ds:List Deferred) (b:Nat):Prop:=∃d∈ds,d.target= .collected b
def Marks (base:Nat) (E:Env) (w:World) (ds:List Deferred):Prop:=
 (∀d∈ds,∃r,d.target= .collected r∧w.heap[r]?=some (.deferred (some []))∧base≤r∧¬E.M r)∧(ds.map (fun d=>match d.target with| .collected r=>r|_=>0)).Nodup
def Slots (w:World) (E:Env) (s:AS) (a:Act):Prop:=
 ∀k g v,lk s.t k=some (g,v)→∃x,a.tmps[k]?=some x∧(g=true→Rep w E s.h v x)∧(g=false→x=undef)
theorem Marks.lt {base:Nat} {E:Env} {w:World} {ds:List Deferred} (hm:Marks base E w ds) {b:Nat} (hb:zQ ds b):b<w.heap.size:=by
 obtain ⟨d,hd,e⟩:=hb
 obtain ⟨r,h1,h2,_⟩:=hm.1 d hd
 rw [h1] at e
 cases e
 exact (Array.getElem?_eq_some_iff.1 h2).1
structure Sat (cx:Cx) (E:Env) (s:AS) (a:Act) (w:World):Prop where
 slots:Slots w E s a
 nt:a.tmps.size=cx.nt
 hp:SatH E s.h w
 base:cx.base≤w.heap.size∧(cx.rq=true→a.defers= [])
 marks:Marks cx.base E w a.defers
 ghost:cx.G s.g E.M E.N (fun b=>Own E s.h b∨zQ a.defers b) w
structure Evo (fl:Nat) (E:Env) (h:AHeap) (w:World) (E':Env) (h':AHeap) (w':World):Prop where
 os:w'.os=w.os
 tape:w'.tape=w.tape
 output:w'.output=w.output
 size:w.heap.size≤w'.heap.size
 keep:∀b,b<w.heap.size→¬Own E h b→¬E.M b→w'.heap[b]?=w.heap[b]?
 own:∀b,Own E' h' b→Own E h b∨w.heap.size≤b
 m1:∀b,E.M b→E'.M b
 m2:∀b,E'.M b→E.M b∨w.heap.size≤b
 n:E'.N=E.N
 go:∀i,i<fl→(hget h' i).isSome→(hget h i).isSome∧GoesOn E h E' h' i
theorem Evo.refl (fl:Nat) (E:Env) (h:AHeap) (w:World):Evo fl E h w E h w:=⟨rfl,rfl,rfl,Nat.le_refl _,fun _ _ _ _=>rfl,fun _ h=> .inl h,fun _ h=>h,fun _ h=> .inl h,rfl,fun i _ h=>⟨h,GoesOn.refl E _ i⟩⟩
theorem GoesOn.trans {E E' E'':Env} {h h' h'':AHeap} {i:Nat} (a:GoesOn E h E' h' i) (b:GoesOn E' h' E'' h'' i):GoesOn E h E'' h'' i:=by
 unfold GoesOn at*
 split at a
 ·rename_i cs hc
  obtain ⟨e1,cs',hc',hl⟩:=a
  rw [hc'] at b
  obtain ⟨e2,cs'',hc'',hl'⟩:=b
  try simp only [hc]
  exact ⟨e2.trans e1,cs'',hc'',by omega⟩
 ·rename_i k xs hc
  obtain ⟨xs',hc',hl,hE⟩:=a
  rw [hc'] at b
  obtain ⟨xs'',hc'',hl',hE'⟩:=b
  try simp only [hc]
  refine ⟨xs'',hc'',by omega,fun e=>?_⟩
  obtain ⟨f1,f2⟩:=hE (by omega)
  obtain ⟨f3,f4⟩:=hE' (by omega)
  exact ⟨f3.trans f1,f4.trans f2⟩
 ·rename_i l p hc
  obtain ⟨e1,p',hc'⟩:=a
  rw [hc'] at b
  obtain ⟨e2,p'',hc''⟩:=b
  try simp only [hc]
  exact ⟨e2.trans e1,p'',hc''⟩
 ·rename_i es hc
  obtain ⟨e1,es',hc'⟩:=a
  rw [hc'] at b
  obtain ⟨e2,es'',hc''⟩:=b
  try simp only [hc]
  exact ⟨e2.trans e1,es'',hc''⟩
 ·rename_i k xs hc
  obtain ⟨xs',hc',hl,hE⟩:=a
  rw [hc'] at b
  obtain ⟨xs'',hc'',hl',hE'⟩:=b
  try simp only [hc]
  refine ⟨xs'',hc'',by omega,fun e=>?_⟩
  obtain ⟨f1,f2⟩:=hE (by omega)
  obtain ⟨f3,f4⟩:=hE' (by omega)
  exact ⟨f3.trans f1,f4.trans f2⟩
 ·rename_i t cs hc
  obtain ⟨e1,cs',hc',hl⟩:=a
  rw [hc'] at b
  obtain ⟨e2,cs'',hc'',hl'⟩:=b
  try simp only [hc]
  exact ⟨e2.trans e1,cs'',hc'',by omega⟩
 ·rename_i hc
  try simp only [hc]
theorem Evo.trans {fl:Nat} {E E' E'':Env} {h h' h'':AHeap} {w w' w'':World} (a:Evo fl E h w E' h' w') (b:Evo fl E' h' w' E'' h'' w''):Evo fl E h w E'' h'' w'' where
 os:=b.os.trans a.os
 tape:=b.tape.trans a.tape
 output:=b.output.trans a.output
 size:=Nat.le_trans a.size b.size
 keep:=fun k hk ho hm=>(b.keep k (Nat.lt_of_lt_of_le hk a.size) (fun h=>(a.own k h).elim ho (fun h=>by omega)) (fun h=>(a.m2 k h).elim hm (fun h=>by omega))).trans (a.keep k hk ho hm)
 own:=fun k h=>(b.own k h).elim (fun h=>a.own k h) (fun h=> .inr (Nat.le_trans a.size h))
 m1:=fun k h=>b.m1 k (a.m1 k h)
 m2:=fun k h=>(b.m2 k h).elim (fun h=>a.m2 k h) (fun h=> .inr (Nat.le_trans a.size h))
 n:=b.n.trans a.n
 go:=fun i hi h=>by
  obtain ⟨h1,g1⟩:=b.go i hi h
  obtain ⟨h2,g2⟩:=a.go i hi h1
  exact ⟨h2,g2.trans g1⟩
def Reach (cx:Cx) (E:Env) (h:AHeap) (w:World) (K:AS→Prop) (a':Act) (w':World):Prop:=
 ∃E' s',K s'∧Sat cx E' s' a' w'∧Evo cx.fl E h w E' s'.h w'
def AW (cx:Cx) (c:Code) (Q:Exit→AS→Prop) (s:AS):Prop:=
 ∀E a w,Sat cx E s a w→c.wpIn cx.F 0 cx.P (fun e a' w'=>Reach cx E s.h w (Q e) a' w') a w
def thenK (K:AS→Prop) (Q:Exit→AS→Prop):Exit→AS→Prop
 | .normal,s=>K s
 |e,s=>Q e s
def zi7 (id:Nat) (Q:Exit→AS→Prop):Exit→AS→Prop
 | .exit id',s=>if id'=id then Q .normal s else Q (.exit id') s
 |e,s=>Q e s
section
variable {cx : Cx} {Q : Exit → AS → Prop} {s : AS}
theorem Reach.trans {E E':Env} {h h':AHeap} {w w':World} {K:AS→Prop} {a'':Act} {w'':World} (e:Evo cx.fl E h w E' h' w') (r:Reach cx E' h' w' K a'' w''):Reach cx E h w K a'' w'':=by
 obtain ⟨E2,s2,hk,hs,he⟩:=r
 exact ⟨E2,s2,hk,hs,e.trans he⟩
theorem Reach.mono {E:Env} {h:AHeap} {w:World} {K K':AS→Prop} {a'':Act} {w'':World} (r:Reach cx E h w K a'' w'') (hk:∀s,K s→K' s):Reach cx E h w K' a'' w'':=by
 obtain ⟨E2,s2,h2,hs,he⟩:=r
 exact ⟨E2,s2,hk _ h2,hs,he⟩
theorem AW.mono {c:Code} {Q':Exit→AS→Prop} (h:AW cx c Q s) (hq:∀e s,Q e s→Q' e s):AW cx c Q' s:=
 fun E a w hs=>wpIn_mono (h E a w hs) (fun e _ _ hr=>hr.mono (hq e))
theorem zbh {x y:Code} (h:∀K,(∀s',AW cx y Q s'→K s')→AW cx x (thenK K Q) s):AW cx (.seq x y) Q s:=by
 intro E a w hs
 refine wpIn_seq (wpIn_mono (h (AW cx y Q) (fun _ h=>h) E a w hs) ?_)
 intro e a1 w1 hr
 cases e with
 |normal=>
  obtain ⟨E1,s1,h1,hs1,he1⟩:=hr
  exact wpIn_mono (h1 E1 a1 w1 hs1) (fun e _ _ hr=>hr.trans he1)
 |_=>exact hr
theorem zcX {id:Nat} {c:Code} (h:AW cx c (zi7 id Q) s):AW cx (.block id c) Q s:=by
 intro E a w hs
 refine wpIn_block (wpIn_mono (h E a w hs) ?_)
 intro e a1 w1 hr
 cases e with
 |exit id'=>
  simp only [Exit.inBlock]
  split
  ·rename_i hid;subst hid;exact hr.mono (fun s h=>by simpa only [zi7,if_true] using h)
  ·rename_i hid;exact hr.mono (fun s h=>by simpa only [zi7,hid,if_false] using h)
 |_=>exact hr
theorem zdp {E:Env} {a:Act} {w:World} {K:AS→Prop} (hs:Sat cx E s a w) (h:K s):Reach cx E s.h w K a w:=⟨E,s,h,hs,Evo.refl _ _ _ _⟩
theorem zh5 (h:Q .normal s):AW cx .skip Q s:=fun _ _ _ hs=>wpIn_skip (zdp hs h)
theorem zfR {l:Nat} (h:Q .normal s):AW cx (.label l) Q s:=fun _ _ _ hs=>wpIn_label (zdp hs h)
theorem zh6 {id:Nat} (h:Q (.exit id) s):AW cx (.exit id) Q s:=fun _ _ _ hs=>wpIn_exit (zdp hs h)
theorem zi8 (h:Q .ret s):AW cx .ret Q s:=fun _ _ _ hs=>wpIn_ret (zdp hs h)
end
mutual
def AV.le:AV→AV→Prop
 |a,b=>match b with
  | .any=>True
  | .d y=>(match a with| .d x=>x=y| .nils _=>(match y with| .sl _ ys=>ys= []|_=>False)|_=>False)
  | .agg ys=>(match a with| .agg xs=>AV.leL xs ys|_=>False)
  | .tup ys=>(match a with| .tup xs=>AV.leL xs ys|_=>False)
  | .nils _=>(match a with| .nils _=>True|_=>False)
  | .dp ys=>(match a with| .dp xs=>AV.leL xs ys|_=>False)
  | .vp j p=>(match a with| .vp i o=>i=j∧o=p|_=>False)
  | .ap i' n' k' r' off'=>(match a with| .ap i n k r off=>i=i'∧n=n'∧k=k'∧r=r'∧off=off'|_=>False)
  | .osl i' k' n' off' len'=>(match a with| .osl i k n off len=>i=i'∧k=k'∧n=n'∧off=off'∧len=len'|_=>False)
  | .vsl i' k' off' len'=>(match a with| .vsl i k off len=>i=i'∧k=k'∧off=off'∧len=len'|_=>False)
  | .asl k' ys=>(match a with| .asl k xs=>k=k'∧xs=ys|_=>False)
  | .fn f' xs' ys'=>(match a with| .fn f xs ys=>f=f'∧AV.leL xs xs'∧AV.leL ys ys'|_=>False)
  | .nilfn=>(match a with| .nilfn=>True|_=>False)
  | .map j=>(match a with| .map i=>i=j|_=>False)
  | .nilmap=>(match a with| .nilmap=>True|_=>False)
  | .raw v=>(match a with| .raw u=>u=v|_=>False)
  | .tp j p=>(match a with| .tp i o=>i=j∧o=p|_=>False)
  | .bsl j p=>(match a with| .bsl i o=>i=j∧o=p|_=>False)
  | .itr j=>(match a with| .itr i=>i=j|_=>False)
  | .iface t' y=>(match a with| .iface t x=>t=t'∧x.le y|_=>False)
  | .amap ks' ys=>(match a with| .amap ks xs=>ks=ks'∧AV.leL xs ys|_=>False)
def AV.leL:List AV→List AV→Prop
 | [],ys=>ys= []
 |x::xs,ys=>(match ys with|y::ys=>x.le y∧AV.leL xs ys| []=>False)
end
def AObj.le:AObj→AObj→Prop
 | .var cs,b=>(match b with| .var cs'=>AV.leL cs cs'|_=>False)
 | .tvar t cs,b=>(match b with| .tvar t' cs'=>t=t'∧AV.leL cs cs'|_=>False)
 |a,b=>a=b
mutual
theorem AV.le_refl:∀a:AV,a.le a
 | .d _=>by simp only [AV.le]
 | .agg cs=>by simp only [AV.le];exact AV.leL_refl cs
 | .tup cs=>by simp only [AV.le];exact AV.leL_refl cs
 | .nils _=>by simp only [AV.le]
 | .dp cs=>by simp only [AV.le];exact AV.leL_refl cs
 | .vp _ _=>by simp only [AV.le,and_self]
 | .ap _ _ _ _ _=>by simp only [AV.le,and_self]
 | .osl _ _ _ _ _=>by simp only [AV.le,and_self]
 | .vsl _ _ _ _=>by simp only [AV.le,and_self]
 | .asl _ _=>by simp only [AV.le,and_self]
 | .fn _ xs ys=>by simp only [AV.le,true_and];exact ⟨AV.leL_refl xs,AV.leL_refl ys⟩
 | .nilfn=>by simp only [AV.le]
 | .any=>by simp only [AV.le]
 | .map _=>by simp only [AV.le]
 | .nilmap=>by simp only [AV.le]
 | .raw _=>by simp only [AV.le]
 | .tp _ _=>by simp only [AV.le,and_self]
 | .bsl _ _=>by simp only [AV.le,and_self]
 | .itr _=>by simp only [AV.le]
 | .iface _ v=>by simp only [AV.le,true_and];exact AV.le_refl v
 | .amap _ vs=>by simp only [AV.le,true_and];exact AV.leL_refl vs
theorem AV.leL_refl:∀aZ:List AV,AV.leL aZ aZ
 | []=>by simp only [AV.leL]
 |a::aZ=>by simp only [AV.leL];exact ⟨AV.le_refl a,AV.leL_refl aZ⟩
end
open Go
section
variable {W : World} {E : Env} {h : AHeap}
mutual
theorem Rep.le:∀ (a b:AV) (v:Value),a.le b→Rep W E h a v→Rep W E h b v
 |a,.any,v,_,_=>by simp only [Rep]
 | .d x,.d y,v,hl,hr=>by simp only [AV.le] at hl;subst hl;exact hr
 | .nils _,.d y,v,hl,hr=>by
  cases y<;>simp only [AV.le] at hl
  subst hl
  simp only [Rep] at hr ⊢
  simp only [RepD]
  exact .inl ⟨by simp,none,0,hr⟩
 | .agg xs,.agg ys,v,hl,hr=>by
  simp only [AV.le] at hl
  simp only [Rep] at hr ⊢
  obtain ⟨vs,h1,h2⟩:=hr
  exact ⟨vs,h1,Reps.le xs ys _ hl h2⟩
 | .tup xs,.tup ys,v,hl,hr=>by
  simp only [AV.le] at hl
  simp only [Rep] at hr ⊢
  obtain ⟨vs,h1,h2⟩:=hr
  exact ⟨vs,h1,Reps.le xs ys _ hl h2⟩
 | .nils _,.nils _,v,_,hr=>by simpa only [Rep] using hr
 | .dp xs,.dp ys,v,hl,hr=>by
  simp only [AV.le] at hl
  simp only [Rep] at hr ⊢
  obtain ⟨a,c,T,fz,h1,h2,h3,h4,h5⟩:=hr
  have h6:=Reps.le xs ys _ hl h5
  have:ys.length=xs.length:=by
   have e1:=Reps.length h5
   have e2:=Reps.length h6
   omega
  exact ⟨a,c,T,fz,h1,h2,h3,h4,by rw [this];exact h6⟩
 | .vp i o,.vp j p,v,hl,hr=>by simp only [AV.le] at hl;obtain ⟨rfl,rfl⟩:=hl;exact hr
 | .ap ..,.ap ..,v,hl,hr=>by simp only [AV.le] at hl;obtain ⟨rfl,rfl,rfl,rfl,rfl⟩:=hl;exact hr
 | .osl ..,.osl ..,v,hl,hr=>by simp only [AV.le] at hl;obtain ⟨rfl,rfl,rfl,rfl,rfl⟩:=hl;exact hr
 | .vsl ..,.vsl ..,v,hl,hr=>by simp only [AV.le] at hl;obtain ⟨rfl,rfl,rfl,rfl⟩:=hl;exact hr
 | .asl ..,.asl ..,v,hl,hr=>by simp only [AV.le] at hl;obtain ⟨rfl,rfl⟩:=hl;exact hr
 | .fn f xs ys,.fn f' xs' ys',v,hl,hr=>by
  simp only [AV.le] at hl
  obtain ⟨rfl,h1,h2⟩:=hl
  simp only [Rep] at hr ⊢
  obtain ⟨a,b,e,h3,h4⟩:=hr
  exact ⟨a,b,e,Reps.le _ _ _ h1 h3,Reps.le _ _ _ h2 h4⟩
 | .nilfn,.nilfn,v,_,hr=>hr
 | .nilmap,.nilmap,v,_,hr=>hr
 | .raw _,.raw _,v,hl,hr=>by simp only [AV.le] at hl;subst hl;exact hr
 | .tp ..,.tp ..,v,hl,hr=>by simp only [AV.le] at hl;obtain ⟨rfl,rfl⟩:=hl;exact hr
 | .bsl ..,.bsl ..,v,hl,hr=>by simp only [AV.le] at hl;obtain ⟨rfl,rfl⟩:=hl;exact hr
 | .map i,.map j,v,hl,hr=>by simp only [AV.le] at hl;subst hl;exact hr
 | .itr i,.itr j,v,hl,hr=>by simp only [AV.le] at hl;subst hl;exact hr
 | .iface t x,.iface t' y,v,hl,hr=>by
  simp only [AV.le] at hl
  obtain ⟨rfl,h1⟩:=hl
  simp only [Rep] at hr ⊢
  obtain ⟨z,e,h3⟩:=hr
  exact ⟨z,e,Rep.le x y _ h1 h3⟩
 | .amap ..,.amap ..,v,hl,hr=>by
  simp only [AV.le] at hl
  obtain ⟨rfl,h1⟩:=hl
  simp only [Rep] at hr ⊢
  obtain ⟨b,mes,cl,g1,g2,g3,g4,g5⟩:=hr
  exact ⟨b,mes,cl,g1,g2,g3,g4,Reps.le _ _ _ h1 g5⟩
theorem Reps.le:∀ (aZ bs:List AV) (vs:List Value),AV.leL aZ bs→Reps W E h aZ vs→Reps W E h bs vs
 | [],bs,vs,hl,hr=>by simp only [AV.leL] at hl;subst hl;exact hr
 |a::aZ,[],vs,hl,_=>by simp [AV.leL] at hl
 |a::aZ,b::bs,vs,hl,hr=>by
  simp only [AV.leL] at hl
  simp only [Reps] at hr ⊢
  obtain ⟨v,r,h1,h2,h3⟩:=hr
  exact ⟨v,r,h1,Rep.le a b v hl.1 h2,Reps.le aZ bs r hl.2 h3⟩
end
end
def leT (t:List (Nat×(Bool×AV))):List (Nat×(Bool×AV))→Prop
 | []=>True
 |(k,(g',v'))::r=>(match lk t k with|some (g,v)=>g'=g∧(g'=true→v.le v')|none=>False)∧leT t r
def leH (h:AHeap):AHeap→Prop
 | []=>True
 |(i,o')::r=>(match hget h i with|some o=>o.le o'|none=>False)∧leH h r
def idsT:List (Nat×(Bool×AV))→List Nat
 | []=> []
 |(_,(_,v))::r=>v.ids++idsT r
def idsH:AHeap→List Nat
 | []=> []
 |(_,o)::r=>o.ids++idsH r
def inH (h:AHeap):List Nat→Prop
 | []=>True
 |i::r=>(hget h i).isSome=true∧inH h r
def AS.le (s s':AS):Prop:=leT s.t s'.t∧leH s.h s'.h∧inH s'.h (idsT s'.t)∧inH s'.h (idsH s'.h)∧s.g=s'.g
theorem zb0 {h:AHeap} :∀ {l:List Nat},inH h l→∀i∈l,(hget h i).isSome=true
 | [],_,i,hm=>by simp at hm
 |j::r,hl,i,hm=>by
  simp only [inH] at hl
  rcases List.mem_cons.1 hm with rfl|hm
  ·exact hl.1
  ·exact zb0 hl.2 i hm
theorem zoC {t:List (Nat×(Bool×AV))} :∀ {t':List (Nat×(Bool×AV))},leT t t'→∀ {k:Nat} {g':Bool} {v':AV},lk t' k=some (g',v')→
    ∃v,lk t k=some (g',v)∧(g'=true→v.le v')
  | [],_,k,g',v',hk=>by simp [lk] at hk
  | (j,(gj,vj))::r,hl,k,g',v',hk=>by
    simp only [leT] at hl
    simp only [lk] at hk
    split at hk
    · rename_i hj;subst hj
      simp only [Option.some.injEq,Prod.mk.injEq] at hk
      obtain ⟨rfl,rfl⟩:=hk
      have h1:=hl.1
      split at h1
      · rename_i g v hg;exact ⟨v,by rw [hg,h1.1],h1.2⟩
      · exact h1.elim
    · exact zoC hl.2 hk
theorem zlb:∀ {t:List (Nat×(Bool×AV))} {k:Nat} {g:Bool} {v:AV},lk t k=some (g,v)→∀i∈v.ids,i∈idsT t
  | [],k,g,v,hk,_,_=>by simp [lk] at hk
  | (j,(gj,vj))::r,k,g,v,hk,i,hi=>by
    simp only [lk] at hk
    simp only [idsT,List.mem_append]
    split at hk
    · simp only [Option.some.injEq,Prod.mk.injEq] at hk
      obtain ⟨_,rfl⟩:=hk
      exact .inl hi
    · exact .inr (zlb hk i hi)
theorem za0 {h:AHeap} :∀ {h':AHeap},leH h h'→∀ {i:Nat} {o':AObj},hget h' i=some o'→∃o,hget h i=some o∧o.le o'
  | [],_,i,o',hk=>by simp [hget] at hk
  | (j,oj)::r,hl,i,o',hk=>by
    simp only [leH] at hl
    simp only [hget] at hk
    split at hk
    · rename_i hj;subst hj
      cases hk
      have h1:=hl.1
      split at h1
      · rename_i o ho;exact ⟨o,ho,h1⟩
      · exact h1.elim
    · exact za0 hl.2 hk
theorem zcY:∀ {h:AHeap} {i:Nat} {o:AObj},hget h i=some o→∀j∈o.ids,j∈idsH h
  | [],i,o,hk,_,_=>by simp [hget] at hk
  | (j,oj)::r,i,o,hk,m,hm=>by
    simp only [hget] at hk
    simp only [idsH,List.mem_append]
    split at hk
    · cases hk;exact .inl hm
    · exact .inr (zcY hk m hm)
theorem zdq:∀ {aZ bs:List AV},AV.leL aZ bs→aZ.length=bs.length
 | [],bs,hl=>by simp only [AV.leL] at hl;subst hl;rfl
 |a::aZ,[],hl=>by simp [AV.leL] at hl
 |a::aZ,b::bs,hl=>by simp only [AV.leL] at hl;simp [zdq hl.2]
theorem za8 {E:Env} {h h':AHeap} (hl:leH h h') {i:Nat} (hi:(hget h' i).isSome=true):GoesOn E h E h' i:=by
 obtain ⟨o',ho'⟩:=Option.isSome_iff_exists.1 hi
 obtain ⟨o,ho,hle⟩:=za0 hl ho'
 unfold GoesOn
 rw [ho]
 cases o with
 |var cs=>
  cases o'<;>simp only [AObj.le] at hle
  exact ⟨rfl,_,ho',(zdq hle).symm⟩
 |tvar tt cs=>
  cases o'<;>simp only [AObj.le] at hle
  obtain ⟨rfl,hle⟩:=hle
  exact ⟨rfl,_,ho',(zdq hle).symm⟩
 |arr k xs=>
  simp only [AObj.le] at hle;subst hle
  exact ⟨xs,ho',Nat.le_refl _,fun _=>⟨rfl,rfl⟩⟩
 |buf tt xs=>
  simp only [AObj.le] at hle;subst hle
  exact ⟨xs,ho',Nat.le_refl _,fun _=>⟨rfl,rfl⟩⟩
 |strit l p=>simp only [AObj.le] at hle;subst hle;exact ⟨rfl,p,ho'⟩
 |omap es=>simp only [AObj.le] at hle;subst hle;exact ⟨rfl,es,ho'⟩
theorem zeo {E:Env} {h h':AHeap} (hl:leH h h') {b:Nat} (ho:Own E h' b):Own E h b:=by
 obtain ⟨i,hi,hb⟩:=ho
 obtain ⟨o',ho'⟩:=Option.isSome_iff_exists.1 hi
 obtain ⟨o,ho,_⟩:=za0 hl ho'
 exact ⟨i,by simp [ho],hb⟩
theorem xs_le {E:Env} {h h':AHeap} (hl:leH h h') {b:Nat} (ho:Xs E h' b):Xs E h b:=ho.imp (zeo hl) id
theorem RepObj.le {W:World} {E:Env} {h h':AHeap} (hl:leH h h') {i:Nat} {o o':AObj} (hle:o.le o') (hids:∀j∈o'.ids,(hget h' j).isSome=true) (hr:RepObj W E h i o):RepObj W E h' i o':=by
 have hX:∀b,b<W.heap.size→Xs E h' b→Xs E h b:=fun _ _=>xs_le hl
 have hK:∀b,b<W.heap.size→¬Xs E h b→W.heap[b]?=W.heap[b]?:=fun _ _ _=>rfl
 cases o with
 |var cs=>
  cases o'<;>simp only [AObj.le] at hle
  simp only [RepObj] at hr ⊢
  obtain ⟨b,c,T,fz,h1,h2,h3,h4⟩:=hr
  exact ⟨b,c,T,fz,h1,h2,Reps.step hX hK _ _ (fun j hj=>za8 hl (hids j hj)) (Reps.le _ _ _ hle h3),h4⟩
 |tvar tt cs=>
  cases o'<;>simp only [AObj.le] at hle
  obtain ⟨rfl,hle⟩:=hle
  simp only [RepObj] at hr ⊢
  obtain ⟨b,c,T,fz,h1,h2,h3,h4⟩:=hr
  exact ⟨b,c,T,fz,h1,h2,Reps.step hX hK _ _ (fun j hj=>za8 hl (hids j hj)) (Reps.le _ _ _ hle h3),h4⟩
 |arr k xs=>
  simp only [AObj.le] at hle;subst hle
  simp only [RepObj] at hr ⊢
  rcases hr with hr|⟨b,c,T,fz,h1,h2,h3,h4,h5,h6⟩
  ·exact .inl hr
  ·exact .inr ⟨b,c,T,fz,h1,h2,h3,h4,RepRows.step hX hK k xs _ h5,h6⟩
 |buf tt xs=>
  simp only [AObj.le] at hle;subst hle
  simp only [RepObj] at hr ⊢
  rcases hr with hr|⟨b,c,T,fz,h1,h2,h3,h4,h5,h6⟩
  ·exact .inl hr
  ·exact .inr ⟨b,c,T,fz,h1,h2,h3,h4,h5,h6⟩
 |strit l p=>simp only [AObj.le] at hle;subst hle;exact hr
 |omap es=>simp only [AObj.le] at hle;subst hle;exact hr
theorem SatH.le {E:Env} {h h':AHeap} {w:World} (hs:SatH E h w) (hl:leH h h') (hi:inH h' (idsH h')):SatH E h' w where
 heap:=fun i o' ho'=>by
  obtain ⟨o,ho,hle⟩:=za0 hl ho'
  exact RepObj.le hl hle (fun j hj=>zb0 hi j (zcY ho' j hj)) (hs.heap i o ho)
 inj:=fun i j b h1 h2=>by
  obtain ⟨o1,e1⟩:=Option.isSome_iff_exists.1 h1
  obtain ⟨o2,e2⟩:=Option.isSome_iff_exists.1 h2
  obtain ⟨p1,f1,_⟩:=za0 hl e1
  obtain ⟨p2,f2,_⟩:=za0 hl e2
  exact hs.inj i j b (by simp [f1]) (by simp [f2])
 own:=fun b hb=>hs.own b (zeo hl hb)
 mlt:=hs.mlt
 nlt:=hs.nlt
theorem Sat.le {cx:Cx} {E:Env} {s s':AS} {a:Act} {w:World} (hs:Sat cx E s a w) (hl:s.le s'):Sat cx E s' a w:=by
 obtain ⟨hT,hH,hi1,hi2,hg⟩:=hl
 refine ⟨fun k g' v' hk=>?_,hs.nt,hs.hp.le hH hi2,hs.base,hs.marks,hg ▸ cx.stab _ _ _ _ _ w _ (fun _ _ _=>rfl) (fun _ hb=> .inl (hb.imp (zeo hH) id)) (fun b hb=>hb.elim (fun h=>(hs.hp.own b (zeo hH h)).1) hs.marks.lt) (Nat.le_refl _) rfl rfl rfl hs.ghost⟩
 obtain ⟨v,hk',hle⟩:=zoC hT hk
 obtain ⟨x,hx,hr,hu⟩:=hs.slots k g' v hk'
 refine ⟨x,hx,fun e=>?_,hu⟩
 exact Rep.step (fun _ _=>xs_le hH) (fun _ _ _=>rfl) v' x (fun j hj=>za8 hH (zb0 hi1 j (zlb hk j hj))) (Rep.le v v' x (hle e) (hr e))
theorem Evo.le {fl:Nat} {E:Env} {h h':AHeap} (hl:leH h h') (w:World):Evo fl E h w E h' w:=
 ⟨rfl,rfl,rfl,Nat.le_refl _,fun _ _ _ _=>rfl,fun _ hb=> .inl (zeo hl hb),fun _ hm=>hm,fun _ hm=> .inl hm,rfl,fun i _ hi=>⟨by
  obtain ⟨o',ho'⟩:=Option.isSome_iff_exists.1 hi
  obtain ⟨o,ho,_⟩:=za0 hl ho'
  simp [ho],za8 hl hi⟩⟩
section
variable {cx : Cx} {Q : Exit → AS → Prop} {s : AS}
theorem aw_le {c:Code} (s':AS) (hl:s.le s') (h:AW cx c Q s'):AW cx c Q s:=fun E a w hs=>
 wpIn_mono (h E a w (hs.le hl)) (fun _ _ _ hr=>hr.trans (Evo.le hl.2.1 w))
theorem zep {F:Fence} {n:Nat} {P:Program} {c:Code} {Q:Exit→Act→World→Prop} {a:Act} {w:World} {α:Type} (I:α→Act→World→Prop) (μ:α→Nat) (x0:α) (h₀:I x0 a w)
  (round:∀x a w,I x a w→c.wpIn F n P (Exit.then (fun a' w'=>∃y,I y a' w'∧μ y<μ x) Q) a w):(Code.loop c).wpIn F n P Q a w:=by
 intro b k cs hro hb hr
 have key:∀j x a w,μ x=j→I x a w→
   ∃e a' w',Q e a' w'∧ArrivesIn (Machine.fenced P F) P (lone (b.atR a (.code c:: .inLoop c::k)) cs w) b k cs e a' w':=by
  intro j
  induction j using Nat.strongRecOn with
  | _ j ih=>
   intro x a w hn hI
   obtain ⟨e,a₁,w₁,hq,harr⟩:=round x a w hI b (.inLoop c::k) cs hro hb hr
   cases e with
   |normal=>
    obtain ⟨y,hI₁,hlt⟩:=hq
    obtain ⟨e₂,a₂,w₂,hq₂,harr₂⟩:=ih (μ y) (hn ▸ hlt) y a₁ w₁ rfl hI₁
    exact ⟨e₂,a₂,w₂,hq₂,.of_steps (StepsIn.trans harr (.one (fenced_calm hb hr rfl) stepR_inLoop)) harr₂⟩
   |exit id=>exact ⟨_,a₁,w₁,hq,.pass (x:= .inLoop c) rfl (fun _ _=> .inl (by simp)) harr⟩
   |goto l=>exact ⟨_,a₁,w₁,hq,.pass (x:= .inLoop c) rfl (fun _ _=> .inl (by simp)) harr⟩
   |ret=>exact ⟨_,a₁,w₁,hq,.pass (x:= .inLoop c) rfl (fun _ _=> .inl (by simp)) harr⟩
   |panic ch=>exact ⟨_,a₁,w₁,hq,.pass (x:= .inLoop c) rfl (fun _ _=> .inl (by simp)) harr⟩
   |outgrown=>exact ⟨_,a₁,w₁,hq,.pass (x:= .inLoop c) rfl (fun _ _=> .inl (by simp)) harr⟩
 obtain ⟨e,a',w',hq,harr⟩:=key _ x0 a w rfl h₀
 exact ⟨e,a',w',hq,.of_steps (.one (fenced_calm hb hr rfl) stepR_loop) harr⟩
theorem zt {c:Code} {α:Type} (I:α→AS) (μ:α→Nat) (x0:α) (hl:s.le (I x0))
  (round:∀x,AW cx c (thenK (fun s'=>∃y,s'.le (I y)∧μ y<μ x) Q) (I x)):AW cx (.loop c) Q s:=by
 refine aw_le (I x0) hl ?_
 intro E a w hs
 refine zep (fun x a' w'=>∃E',Sat cx E' (I x) a' w'∧Evo cx.fl E (I x0).h w E' (I x).h w') μ x0 ⟨E,hs,Evo.refl _ _ _ _⟩ ?_
 rintro x a1 w1 ⟨E1,hs1,he1⟩
 refine wpIn_mono (round x E1 a1 w1 hs1) ?_
 intro e a2 w2 hr
 cases e with
 |normal=>
  obtain ⟨E2,s2,⟨y,hle,hlt⟩,hs2,he2⟩:=hr
  exact ⟨y,⟨E2,hs2.le hle,(he1.trans he2).trans (Evo.le hle.2.1 w2)⟩,hlt⟩
 |_=>exact hr.trans he1
end
open Go
inductive TD where
 |int (k:IntKind)|bool|str|slice (e:Nat)|arr (n e:Nat)|struct (fs:List (Nat×Nat))|ptr (e:Nat)|func|iface|map (k e:Nat)|bst (fs:List (Nat×Nat))|other
 deriving DecidableEq
structure TI where
 td:TD
 size:Nat
 bytes:Nat
 deriving DecidableEq
def tdOf:TypeDesc→TD
 | .int k=> .int k
 | .bool=> .bool
 | .string=> .str
 | .slice e=> .slice e
 | .array n e=> .arr n e
 | .struct fs=>if fs.any (fun f=>f.name== "_") then .bst (fs.toList.map fun f=>(f.offset,f.type)) else .struct (fs.toList.map fun f=>(f.offset,f.type))
 | .pointer e=> .ptr e
 | .func .. => .func
 | .interface _=> .iface
 | .map k e=> .map k e
 |_=> .other
def ty (P:Program) (t:TypeId):TI:=
 { td:=match P.underlying t with|some d=>tdOf d|none=> .other,size:=P.cellsOf t,bytes:=P.bytesOf t }
def TD.agg:TD→Bool
 | .struct _=>true
 | .arr .. =>true
 | .bst _=>true
 |_=>false
def zx (P:Program):Nat→TypeId→List AV
 |0,_=> [.any]
 |d+1,t=>
  match (ty P t).td with
  | .int k=> [.d (.int k 0)]
  | .bool=> [.d (.bool false)]
  | .str=> [.d (.str [])]
  | .slice e=> [.nils (ty P e).size]
  | .ptr _=> [.d .nilp]
  | .func=> [.nilfn]
  | .iface=> [.d .nilif]
  | .map .. => [.nilmap]
  | .struct fs=>fs.flatMap fun f=>zx P d f.2
  | .bst fs=>fs.flatMap fun f=>zx P d f.2
  | .arr n e=>(List.replicate n (zx P d e)).flatten
  | .other=> [.any]
def zI (P:Program):Nat→TypeId→Bool
 |0,_=>false
 |d+1,t=>
  match (ty P t).td with
  | .struct fs=>fs.any fun f=>decide ((ty P f.2).td= .ptr t)||zI P d f.2
  | .arr _ e=>zI P d e
  |_=>false
def AV.pt (b:Bool) (i o:Nat):AV:=if b then .tp i o else .vp i o
def AObj.vr (b:Bool) (t:TypeId) (cs:List AV):AObj:=if b then .tvar t cs else .var cs
@[go_sem] theorem pt_true (i o:Nat):AV.pt true i o= .tp i o:=rfl
@[go_sem] theorem pt_false (i o:Nat):AV.pt false i o= .vp i o:=rfl
@[go_sem] theorem vr_true (t:TypeId) (cs:List AV):AObj.vr true t cs= .tvar t cs:=rfl
@[go_sem] theorem vr_false (t:TypeId) (cs:List AV):AObj.vr false t cs= .var cs:=rfl
def gnd:AV→Value→Bool
 | .d (.int k n),.int k' n'=>k==k'&&n==n'
 | .d (.bool b),.bool b'=>b==b'
 | .d (.str l),.string s=>l==s.data.toList
 | .nils _,.slice none 0 0=>true
 | .d .nilp,.pointer none=>true
 | .nilfn,.nilFunc=>true
 | .d .nilif,.nilIface=>true
 | .nilmap,.map none=>true
 |_,_=>false
def gndL:List AV→List Value→Bool
 | [],[]=>true
 |a::aZ,v::vs=>gnd a v&&gndL aZ vs
 |_,_=>false
def zD (P:Program) (t:TypeId):Bool:=
 match P.info? t with
 |some i=>match i.zero with
  |some z=>gndL (zx P 12 t) z.cells.toList&&((ty P t).td.agg==(match z with| .agg _=>true|_=>false))&&z.cells.size==i.size
  |none=>false
 |none=>false
section
variable {W : World} {E : Env} {h : AHeap}
theorem zh7 {a:AV} {v:Value} (hg:gnd a v=true):Rep W E h a v:=by
 unfold gnd at hg
 split at hg<;>simp_all [Rep,RepD]
 all_goals (obtain ⟨rfl,rfl⟩:=hg;rfl)
theorem zeq:∀ {aZ:List AV} {vs:List Value},gndL aZ vs=true→Reps W E h aZ vs
 | [],[],_=>by simp [Reps]
 | [],_::_,hg=>by simp [gndL] at hg
 |_::_,[],hg=>by simp [gndL] at hg
 |a::aZ,v::vs,hg=>by
  simp only [gndL,Bool.and_eq_true] at hg
  simp only [Reps]
  exact ⟨v,vs,rfl,zh7 hg.1,zeq hg.2⟩
end
section
variable {P : Program} {t : TypeId}
theorem za9 {x:TD} (h:(ty P t).td=x) (hx:x≠ .other):∃d,P.underlying t=some d∧tdOf d=x:=by
 unfold ty at h
 cases hd:P.underlying t with
 |none=>simp [hd] at h;exact absurd h.symm hx
 |some d=>simp [hd] at h;exact ⟨d,rfl,h⟩
theorem zcB {k:IntKind} (h:(ty P t).td= .int k):P.underlying t=some (.int k):=by
 obtain ⟨d,hd,he⟩:=za9 h (by simp)
 cases d<;>simp only [tdOf] at he
 all_goals first|(simp_all;done)|(split at he<;>cases he)|cases he
theorem zch (h:(ty P t).td= .bool):P.underlying t=some .bool:=by
 obtain ⟨d,hd,he⟩:=za9 h (by simp)
 cases d<;>simp only [tdOf] at he
 all_goals first|(simp_all;done)|(split at he<;>cases he)|cases he
theorem zaC (h:(ty P t).td= .str):P.underlying t=some .string:=by
 obtain ⟨d,hd,he⟩:=za9 h (by simp)
 cases d<;>simp only [tdOf] at he
 all_goals first|(simp_all;done)|(split at he<;>cases he)|cases he
theorem zq {e:Nat} (h:(ty P t).td= .slice e):P.underlying t=some (.slice e):=by
 obtain ⟨d,hd,he⟩:=za9 h (by simp)
 cases d<;>simp only [tdOf] at he
 all_goals first|(simp_all;done)|(split at he<;>cases he)|cases he
theorem zba {n e:Nat} (h:(ty P t).td= .arr n e):P.underlying t=some (.array n e):=by
 obtain ⟨d,hd,he⟩:=za9 h (by simp)
 cases d<;>simp only [tdOf] at he
 all_goals first|(simp_all;done)|(split at he<;>cases he)|cases he
theorem zfS {k e:Nat} (h:(ty P t).td= .map k e):P.underlying t=some (.map k e):=by
 obtain ⟨d,hd,he⟩:=za9 h (by simp)
 cases d<;>simp only [tdOf] at he
 all_goals first|(simp_all;done)|(split at he<;>cases he)|cases he
theorem zbw {fs:List (Nat×Nat)} (h:(ty P t).td= .struct fs):∃gs,P.underlying t=some (.struct gs)∧gs.toList.map (fun f=>(f.offset,f.type))=fs∧∀f∈gs.toList,f.name≠ "_" :=by
 obtain ⟨d,hd,he⟩:=za9 h (by simp)
 cases d<;>simp only [tdOf] at he
 case struct gs=>
  split at he
  ·cases he
  ·rename_i hn
   injection he with he
   refine ⟨gs,hd,he,fun f hf e=>hn ?_⟩
   simp only [Array.any_eq_true',beq_iff_eq]
   exact ⟨f,by simpa using hf,e⟩
 all_goals cases he
theorem zh8 {d:TypeDesc} (h:P.underlying t=some d):∃i,P.info? t=some i∧i.size=(ty P t).size∧i.bytes=(ty P t).bytes:=by
 unfold Program.underlying at h
 cases hi:P.info? t with
 |none=>simp [hi] at h
 |some i=>exact ⟨i,rfl,by simp [ty,Program.cellsOf,hi],by simp [ty,Program.bytesOf,hi]⟩
theorem run_underlying {d:TypeDesc} (h:P.underlying t=some d) (w:World):(underlying t).run P w= .ok d w:=by
 simp [underlying,h]
theorem zo {d:TypeDesc} (h:P.underlying t=some d) (w:World):(sizeOf t).run P w= .ok (ty P t).size w:=by
 obtain ⟨i,h1,h2,_⟩:=zh8 h
 simp [sizeOf,typeInfo,h1,h2]
theorem td_of {d:TypeDesc} (h:P.underlying t=some d):(ty P t).td=tdOf d:=by simp [ty,h]
theorem zgS {d:TypeDesc} (h:P.underlying t=some d) (hne:(ty P t).td≠ .other) (w:World):(isAgg t).run P w= .ok (ty P t).td.agg w:=by
 simp only [isAgg,Sem.run_bind,run_underlying h,Result.andThen_ok]
 rw [td_of h] at hne ⊢
 cases d<;>simp only [tdOf] at hne ⊢
 case struct gs=>
  split
  ·simp [TD.agg]
  ·simp [TD.agg]
 all_goals simp [TD.agg]
theorem zak (h:(ty P t).td≠ .other):∃d,P.underlying t=some d:=let ⟨d,hd,_⟩:=za9 rfl h;⟨d,hd⟩
theorem zbL {z:Value} {i:TypeInfo} (h:P.info? t=some i) (hz:i.zero=some z) (w:World):(zeroValue t).run P w= .ok z w:=by
 simp [zeroValue,typeInfo,h,hz]
theorem zdr (h:zD P t=true):∃i z,P.info? t=some i∧i.zero=some z∧gndL (zx P 12 t) z.cells.toList=true∧((ty P t).td.agg=(match z with| .agg _=>true|_=>false))∧z.cells.size=i.size∧i.size=(ty P t).size:=by
 unfold zD at h
 split at h
 ·rename_i i hi
  split at h
  ·rename_i z hz
   simp only [Bool.and_eq_true,beq_iff_eq] at h
   exact ⟨i,z,hi,hz,h.1.1,h.1.2,h.2,by simp [ty,Program.cellsOf,hi]⟩
  ·cases h
 ·cases h
end
def cv:Value→AV
 | .int k n=> .d (.int k n)
 | .bool b=> .d (.bool b)
 | .string s=> .d (.str s.data.toList)
 | .slice none 0 0=> .nils 0
 | .pointer none=> .d .nilp
 | .nilFunc=> .nilfn
 | .map none=> .nilmap
 | .nilIface=> .d .nilif
 |_=> .any
def AS.ev (s:AS):Operand→Bool×AV
 | .tmp t=>(lk s.t t).getD (false,.any)
 | .const v=>(true,cv v)
 | .func f=>(true,.fn (.func f) [] [])
 | .global _=>(true,.any)
theorem zp0 {W:World} {E:Env} {h:AHeap} (v:Value):Rep W E h (cv v) v:=by
 unfold cv
 split<;>simp [Rep,RepD]
theorem ev_ok {E:Env} {s:AS} {a:Act} {w:World} (hs:Slots w E s a) (x:Operand) (hg:(s.ev x).1=true):Rep w E s.h (s.ev x).2 (a.eval x):=by
 cases x with
 | tmp t=>
  simp only [AS.ev] at hg ⊢
  cases hl:lk s.t t with
  |none=>simp [hl] at hg
  |some p=>
   obtain ⟨g,v⟩:=p
   simp only [hl,Option.getD_some] at hg ⊢
   obtain ⟨y,hy,hr,_⟩:=hs t g v hl
   simp only [Act.eval]
   rw [show a.tmps.getD t undef=y by simp [hy]]
   exact hr hg
 |const v=>exact zp0 v
 |func f=>simp [AS.ev,Rep,Act.eval,Reps]
 |global g=>simp [AS.ev,Rep]
open Go
def ibits (op:BinOp) (k:IntKind) (x y:Int):Int:=
 let a:=BitVec.ofInt k.bits x
 let b:=BitVec.ofInt k.bits y
 k.wrap (match op with
  | .and=>(a&&& b).toNat
  | .or=>(a ||| b).toNat
  | .xor=>(a ^^^ b).toNat
  |_=>(a&&& ~~~b).toNat)
def ishl (k:IntKind) (x y:Int):Int:=k.wrap (x*2 ^ (min y.toNat k.bits))
def ishr (k:IntKind) (x y:Int):Int:=x.fdiv (2 ^ (min y.toNat k.bits))
def abinI (op:BinOp) (k:IntKind) (a b:Int):Prop×AV:=
 match op with
 | .add=>(True,.d (.int k (k.wrap (a+b))))
 | .sub=>(True,.d (.int k (k.wrap (a - b))))
 | .mul=>(True,.d (.int k (k.wrap (a*b))))
 | .quo=>(b≠0,.d (.int k (k.wrap (a.tdiv b))))
 | .rem=>(b≠0,.d (.int k (a.tmod b)))
 | .and=>(True,.d (.int k (ibits .and k a b)))
 | .or=>(True,.d (.int k (ibits .or k a b)))
 | .xor=>(True,.d (.int k (ibits .xor k a b)))
 | .andNot=>(True,.d (.int k (ibits .andNot k a b)))
 | .eql=>(True,.d (.bool (a==b)))
 | .neq=>(True,.d (.bool (a !=b)))
 | .lss=>(True,.d (.bool (decide (a<b))))
 | .leq=>(True,.d (.bool (decide (a≤b))))
 | .gtr=>(True,.d (.bool (decide (b<a))))
 | .geq=>(True,.d (.bool (decide (b≤a))))
 |_=>(False,.any)
def abinS (op:BinOp) (a b:List UInt8):Prop×AV:=
 match op with
 | .add=>(a.length+b.length<9223372036854775808,.d (.str (a++b)))
 | .eql=>(True,.d (.bool (a==b)))
 | .neq=>(True,.d (.bool (a !=b)))
 | .lss=>(True,.d (.bool (Op.bytesLess a b)))
 | .leq=>(True,.d (.bool (Op.bytesLess a b||a==b)))
 | .gtr=>(True,.d (.bool (!(Op.bytesLess a b||a==b))))
 | .geq=>(True,.d (.bool (!Op.bytesLess a b)))
 |_=>(False,.any)
def abin (P:Program) (op:BinOp) (t:TypeId) (x y:AV):Prop×AV:=
 match x,y with
 | .d (.int k a),.d (.int k' b)=>
  (match op with
  | .shl=>(0≤b,.d (.int k (ishl k a b)))
  | .shr=>(0≤b,.d (.int k (ishr k a b)))
  |_=>(k=k'∧(abinI op k a b).1,(abinI op k a b).2))
 | .d (.str a),.d (.str b)=>abinS op a b
 | .d (.bool a),.d (.bool b)=>
  (match op with
  | .eql=>((ty P t).td= .bool,.d (.bool (a==b)))
  | .neq=>((ty P t).td= .bool,.d (.bool (a !=b)))
  |_=>(False,.any))
 |_,_=>(False,.any)
def aun (op:UnOp) (x:AV):Prop×AV:=
 match op,x with
 | .not,.d (.bool b)=>(True,.d (.bool (!b)))
 | .neg,.d (.int k n)=>(True,.d (.int k (k.wrap (0 - n))))
 | .xor,.d (.int k n)=>(True,.d (.int k (ibits .xor k (if k.signed then -1 else k.max) n)))
 |_,_=>(False,.any)
section
variable {P : Program} {W : World} {E : Env} {h : AHeap}
theorem zi9 (l:List UInt8):(⟨l.toArray⟩:ByteArray).toList=l:=by
 rw [ByteArray.toList_eq]
theorem znt {op:BinOp} {k:IntKind} {a b:Int} (hv:(abinI op k a b).1) (w:World) (t:TypeId) (hs:op≠ .shl∧op≠ .shr):
  ∃v,(binOp op t (.int k a) (.int k b)).run P w= .ok v w∧Rep W E h (abinI op k a b).2 v:=by
 cases op<;>simp only [abinI] at hv ⊢ <;>
  first
  |exact hv.elim
  |exact absurd rfl hs.1
  |exact absurd rfl hs.2
  |(simp [binOp,Op.intArith,Op.intCmp,Rep,RepD];done)
  |(simp [binOp,Op.intDiv,Rep,RepD,hv];done)
  |(simp [binOp,Op.intBits,Rep,RepD,ibits];done)
theorem znu {op:BinOp} {a b:List UInt8} (hv:(abinS op a b).1) (w:World) (t:TypeId):
  ∃v,(binOp op t (.string ⟨a.toArray⟩) (.string ⟨b.toArray⟩)).run P w= .ok v w∧Rep W E h (abinS op a b).2 v:=by
 have h1:=zi9 a
 have h2:=zi9 b
 cases op<;>simp only [abinS] at hv ⊢ <;>
  first
  |exact hv.elim
  |(simp [binOp,Op.stringOp,Rep,RepD,h1,h2];done)
  |(simp [binOp,Op.stringOp,Rep,RepD,h1,h2,bne];done)
  |skip
 all_goals
  have:¬(((a.length:Int)+(b.length:Int))>IntKind.i64.max):=by
   have:IntKind.i64.max=9223372036854775807:=by decide
   omega
  simp only [binOp,Op.stringOp,Sem.run_ite]
  rw [if_neg (by simpa [ByteArray.size] using this)]
  refine ⟨_,rfl,?_⟩
  simp only [Rep,RepD]
  congr 1
theorem zcv {t:TypeId} (h:P.underlying t=some .bool) (a b:Bool) (w:World):(Op.equal t (.bool a) (.bool b)).run P w= .ok (a==b) w:=by
 show (Op.equalIn (9999+1) t (.bool a) (.bool b)).run P w=_
 rw [Op.equalIn]
 simp only [Sem.run_bind,run_underlying h,Result.andThen_ok,Sem.run_pure]
theorem zo0 {op:BinOp} {t:TypeId} {x y:AV} {a b:Value} (hv:(abin P op t x y).1) (hx:Rep W E h x a) (hy:Rep W E h y b) (w:World):
  ∃v,(binOp op t a b).run P w= .ok v w∧Rep W E h (abin P op t x y).2 v:=by
 unfold abin at hv ⊢
 split at hv<;>rename_i hx0<;>try exact hv.elim
 ·-- integers
  rename_i k m k' n
  simp only [Rep,RepD] at hx hy
  subst hx hy
  split at hv
  ·simp [binOp,Op.shift,Rep,RepD,ishl,Int.not_lt.2 hv]
  ·simp [binOp,Op.shift,Rep,RepD,ishr,Int.not_lt.2 hv]
  ·rename_i h1 h2
   obtain ⟨rfl,hv⟩:=hv
   exact znt hv w t ⟨h1,h2⟩
 ·simp only [Rep,RepD] at hx hy
  subst hx hy
  exact znu hv w t
 ·simp only [Rep,RepD] at hx hy
  subst hx hy
  split at hv
  ·simp [binOp,zcv (zch hv),Rep,RepD]
  ·simp [binOp,zcv (zch hv),Rep,RepD,bne]
  ·exact hv.elim
theorem zp1 {op:UnOp} {x:AV} {a:Value} (hv:(aun op x).1) (hx:Rep W E h x a) (w:World):
  ∃v,(Op.unary op a).run P w= .ok v w∧Rep W E h (aun op x).2 v:=by
 unfold aun at hv ⊢
 split at hv
 ·simp only [Rep,RepD] at hx;subst hx;simp [Op.unary,Rep,RepD]
 ·simp only [Rep,RepD] at hx;subst hx;simp [Op.unary,Op.intArith,Rep,RepD]
 ·simp only [Rep,RepD] at hx;subst hx;simp [Op.unary,Op.intBits,Rep,RepD,ibits]
 ·exact hv.elim
def apart (P:Program) (t:TypeId) (cs:List AV) (off:Nat):AV:=
 if (ty P t).td.agg then .agg ((cs.drop off).take (ty P t).size) else cs.getD off .any
def psize (P:Program) (t:TypeId):Nat:=if (ty P t).td.agg then (ty P t).size else 1
theorem zaJ {t:TypeId} {cs:List AV} {vs:Array Value} {off:Nat} (ht:(ty P t).td≠ .other) (hr:Reps W E h cs vs.toList) (hb:off+psize P t≤cs.length) (w:World):
  ∃v,(part t vs off).run P w= .ok v w∧Rep W E h (apart P t cs off) v:=by
 obtain ⟨d,hd⟩:=zak ht
 have hl:=Reps.length hr
 simp only [part,Sem.run_bind,zgS hd ht,Result.andThen_ok]
 unfold apart
 unfold psize at hb
 cases hag:(ty P t).td.agg
 ·simp only [hag,Bool.false_eq_true,if_false] at hb ⊢
  have h1:cs[off]?=some (cs.getD off .any):=by rw [List.getD_eq_getElem?_getD,List.getElem?_eq_getElem (by omega)];rfl
  obtain ⟨v,hv,hrv⟩:=Reps.get hr h1
  have:vs[off]?=some v:=by simpa using hv
  exact ⟨v,by simp [this],hrv⟩
 ·simp only [if_true,Sem.run_bind,zo hd,Result.andThen_ok,Sem.run_pure]
  refine ⟨_,rfl,?_⟩
  simp only [Rep]
  exact ⟨_,rfl,by
   have:=(Reps.drop hr off).take (ty P t).size
   simpa [Array.toList_extract,List.extract_eq_take_drop] using this⟩
def eqIdx (d:Nat) (e:TypeId) (n:Nat) (xs ys:Array Value):List Nat→Sem Bool
 | []=>pure true
 | i::is=>do
   let a ← part e xs (i*n)
   let b ← part e ys (i*n)
   let r ← Op.equalIn d e a b
   if (!r)=true then pure false else eqIdx d e n xs ys is
def aeq (P:Program):Nat→TypeId→AV→AV→Prop×Bool
  |0,_,_,_=>(False,false)
  | d +1,t,x,y=>
    match (ty P t).td,x,y with
    | .bool,.d (.bool a),.d (.bool b)=>(True,a==b)
    | .int _,.d (.int k a),.d (.int k' b)=>(k=k',a==b)
    | .str,.d (.str a),.d (.str b)=>(True,a==b)
    | .struct fs,.agg xs,.agg ys=>(P.stoodInHeld t=false∧(aeqF fs xs ys fun f=>aeq P d f).1,(aeqF fs xs ys fun f=>aeq P d f).2)
    | .arr n e,.agg xs,.agg ys=>let r:=aeqF ((List.range n).map fun i=>(i*(ty P e).size,e)) xs ys fun f=>aeq P d f
      (r.1∧(ty P e).td≠ .other,r.2)
    |_,_,_=>(False,false)
 where
  aeqF (fs:List (Nat×Nat)) (xs ys:List AV) (r:TypeId→AV→AV→Prop×Bool):Prop×Bool:=
    match fs with
    | []=>(True,true)
    | f::fs=>let a:=r f.2 (apart P f.2 xs f.1) (apart P f.2 ys f.1)
      let b:=aeqF fs xs ys r
      ((ty P f.2).td≠ .other∧f.1+psize P f.2≤xs.length∧f.1+psize P f.2≤ys.length∧a.1∧b.1,a.2&&b.2)
theorem zja (w:World):∀ (d D:Nat) (t:TypeId) (x y:AV) (a b:Value),d≤D→(aeq P d t x y).1→Rep W E h x a→Rep W E h y b→
  (Op.equalIn D t a b).run P w= .ok (aeq P d t x y).2 w
 |0,D,t,x,y,a,b,_,hv,_,_=>by simp [aeq] at hv
 |d+1,0,t,x,y,a,b,hd,hv,_,_=>by omega
 | d + 1,D+1,t,x,y,a,b,hd,hv,hx,hy=>by
  unfold aeq at hv ⊢
  split at hv
  ·rename_i ht;simp only [Rep,RepD] at hx hy;subst hx hy
   rw [Go.run_equalIn_bool' w D t _ _ (zch ht)]
  ·rename_i ht;simp only [Rep,RepD] at hx hy;subst hx hy;subst hv
   rw [Go.run_equalIn_int w D t _ _ _ _ (zcB ht)]
  ·rename_i ht;simp only [Rep,RepD] at hx hy;subst hx hy
   rw [Go.run_equalIn_string w D t _ _ (zaC ht),zi9,zi9]
  ·rename_i fs xs ys ht
   simp only [Rep] at hx hy
   obtain ⟨us,rfl,hx⟩:=hx
   obtain ⟨vs,rfl,hy⟩:=hy
   obtain ⟨gs,hg,hfs,hn⟩:=zbw ht
   have hfo:P.fieldsOf t=gs:=by simp [Program.fieldsOf,hg]
   rw [Go.run_equalIn_struct w D t us vs (by rw [hfo];exact hg) hv.1,hfo]
   have hv2:=hv.2
   clear hv hg hfo ht
   subst hfs
   generalize hgl:gs.toList=gl at hv2 hn ⊢
   clear hgl
   induction gl with
   |nil=>simp [aeq.aeqF,Op.eqFields]
   |cons f gl ih=>
    simp only [List.map_cons,aeq.aeqF] at hv2 ⊢
    obtain ⟨h1,h2,h3,h4,h5⟩:=hv2
    obtain ⟨u,hu,hru⟩:=zaJ h1 hx h2 w
    obtain ⟨v,hv,hrv⟩:=zaJ h1 hy h3 w
    have hrec:=zja w d D f.type _ _ u v (by omega) h4 hru hrv
    simp only [Op.eqFields,if_pos (hn f (by simp)),Sem.run_bind,hu,hv,hrec,Result.andThen_ok,Sem.run_ite,Sem.run_pure]
    rw [ih h5 (fun g hg=>hn g (List.mem_cons_of_mem _ hg))]
    cases (aeq P d f.type (apart P f.type xs f.offset) (apart P f.type ys f.offset)).2<;>simp
  ·rename_i n e xs ys ht
   simp only [Rep] at hx hy
   obtain ⟨us,rfl,hx⟩:=hx
   obtain ⟨vs,rfl,hy⟩:=hy
   have ht':=zba ht
   obtain ⟨hv,he⟩:=hv
   obtain ⟨de,hde⟩:=zak he
   rw [Op.equalIn]
   simp only [Sem.run_bind,run_underlying ht',Result.andThen_ok,zo hde]
   have hgen:∀ (l:List Nat),(aeq.aeqF P (l.map fun i=>(i*(ty P e).size,e)) xs ys fun f=>aeq P d f).1→
     (eqIdx D e (ty P e).size us vs l).run P w= .ok (aeq.aeqF P (l.map fun i=>(i*(ty P e).size,e)) xs ys fun f=>aeq P d f).2 w:=by
    intro l
    induction l with
    |nil=>intro _;simp [aeq.aeqF,eqIdx]
    |cons i l ih=>
     intro hv
     simp only [List.map_cons,aeq.aeqF] at hv ⊢
     obtain ⟨h1,h2,h3,h4,h5⟩:=hv
     obtain ⟨u,hu,hru⟩:=zaJ h1 hx h2 w
     obtain ⟨v,hv,hrv⟩:=zaJ h1 hy h3 w
     have hrec:=zja w d D e _ _ u v (by omega) h4 hru hrv
     simp only [eqIdx,Sem.run_bind,hu,hv,hrec,Result.andThen_ok,Sem.run_ite,Sem.run_pure]
     rw [ih h5]
     cases (aeq P d e (apart P e xs (i*(ty P e).size)) (apart P e ys (i*(ty P e).size))).2<;>simp
   rw [← hgen (List.range n) hv]
   rw [Std.Legacy.Range.forIn_eq_forIn_range',List.range_eq_range',show List.range' [:n].start [:n].size [:n].step=List.range' 0 n by simp [Std.Legacy.Range.size]]
   generalize List.range' 0 n=l
   clear hgen hv ht'
   induction l generalizing w with
   |nil=>simp [eqIdx]
   | cons i l ih=>
    simp only [List.forIn_cons,eqIdx,Sem.run_bind]
    generalize (part e us (i*(ty P e).size)).run P w=r1
    cases r1 with
    | ok a w1=>
     simp only [Result.andThen_ok]
     generalize (part e vs (i*(ty P e).size)).run P w1=r2
     cases r2 with
     | ok b w2=>
      simp only [Result.andThen_ok]
      generalize (Op.equalIn D e a b).run P w2=r3
      cases r3 with
      | ok r w3=>
       cases r
       ·simp only [Result.andThen_ok,Bool.not_false,if_true,Sem.run_pure]
       ·simp only [Result.andThen_ok,Bool.not_true,Bool.false_eq_true,if_false,Sem.run_pure]
        exact ih w3
      |halt x w3=>simp [Result.andThen]
     |halt x w2=>simp [Result.andThen]
    |halt x w1=>simp [Result.andThen]
  ·exact hv.elim
end
open Go
theorem zn {W:World} {b:Nat} {c:Array Value} {T:TypeId} {fz:Nat×Nat} (h:W.heap[b]?=some (.cells c T fz)) (off:Nat):W.cell? ⟨b,off,none⟩=c[off]?:=by
 simp [World.cell?,h]
theorem zy {W:World} {b:Nat} {c:Array Value} {T:TypeId} {fz:Nat×Nat} (h:W.heap[b]?=some (.cells c T fz)) (off:Nat):W.frozen? ⟨b,off,none⟩=(fz.1≤off&&off<fz.2):=by
 simp [World.frozen?,h]
theorem Addr.add_none (b off n:Nat):(⟨b,off,none⟩:Addr).add n=⟨b,off+n,none⟩:=by
 unfold Addr.add;split<;>simp_all
section
variable {P : Program} {W : World} {E : Env} {h : AHeap}
theorem getD_some {α:Type} {l:List α} {i:Nat} {d:α} (hi:i<l.length):l[i]?=some (l.getD i d):=by
 rw [List.getD_eq_getElem?_getD,List.getElem?_eq_getElem hi];rfl
theorem Reps.of_get:∀ {aZ:List AV} {vs:List Value},vs.length=aZ.length→(∀j,j<aZ.length→∃v,vs[j]?=some v∧Rep W E h (aZ.getD j .any) v)→Reps W E h aZ vs
 | [],vs,hl,_=>by simp at hl;subst hl;simp [Reps]
 |a::aZ,[],hl,_=>by simp at hl
 |a::aZ,v::vs,hl,hg=>by
  simp only [Reps]
  obtain ⟨u,hu,hr⟩:=hg 0 (by simp)
  simp at hu;subst hu
  refine ⟨_,vs,rfl,by simpa using hr,Reps.of_get (by simpa using hl) (fun j hj=>?_)⟩
  obtain ⟨u,hu,hr⟩:=hg (j+1) (by simpa using hj)
  exact ⟨u,by simpa using hu,by simpa using hr⟩
def At (W:World) (E:Env) (h:AHeap) (b o:Nat) (cs:List AV) (off n:Nat):Prop:=
 ∃c T fz,W.heap[b]?=some (.cells c T fz)∧∀j,j<n→∃v,c[o+j]?=some v∧Rep W E h (cs.getD (off+j) .any) v
theorem zci {b o:Nat} {c:Array Value} {T:TypeId} {fz:Nat×Nat} {cs:List AV} (hb:W.heap[b]?=some (.cells c T fz)) (hr:Reps W E h cs ((c.toList.drop o).take cs.length)) {off n:Nat} (hn:off+n≤cs.length):At W E h b (o+off) cs off n:=by
 refine ⟨c,T,fz,hb,fun j hj=>?_⟩
 obtain ⟨v,hv,hr⟩:=Reps.get hr (getD_some (d:= .any) (show off+j<cs.length by omega))
 refine ⟨v,?_,hr⟩
 rw [List.getElem?_take_of_lt (by omega),List.getElem?_drop] at hv
 rw [← Array.getElem?_toList,show o+off+j=o+(off+j) by omega]
 exact hv
theorem zaO {t:TypeId} {b o:Nat} {cs:List AV} {off:Nat} (ht:(ty P t).td≠ .other) (ha:At W E h b o cs off (psize P t)) (hl:off+psize P t≤cs.length):
  ∃v,(loadVar t ⟨b,o,none⟩).run P W= .ok v W∧Rep W E h (apart P t cs off) v:=by
 obtain ⟨d,hd⟩:=zak ht
 obtain ⟨c,T,fz,hb,hc⟩:=ha
 simp only [loadVar,Sem.run_bind,zgS hd ht,Result.andThen_ok]
 unfold apart
 unfold psize at hc hl
 cases hag:(ty P t).td.agg
 ·simp only [hag,Bool.false_eq_true,if_false] at hc hl ⊢
  obtain ⟨v,hv,hr⟩:=hc 0 (by omega)
  refine ⟨v,?_,by simpa using hr⟩
  simp only [run_load,zn hb]
  rw [show o=o+0 from rfl,hv]
 ·simp only [hag,if_true] at hc hl
  simp only [if_true,Sem.run_bind,zo hd,Result.andThen_ok]
  have hlen:((c.toList.drop o).take (ty P t).size).length=(ty P t).size:=by
   rcases Nat.eq_zero_or_pos (ty P t).size with h0|h0
   ·simp [h0]
   ·obtain ⟨v,hv,_⟩:=hc ((ty P t).size - 1) (by omega)
    have:=(Array.getElem?_eq_some_iff.1 hv).1
    simp;omega
  have hget:∀j,j<(ty P t).size→((c.toList.drop o).take (ty P t).size)[j]?=c[o+j]?:=fun j hj=>by
   rw [List.getElem?_take_of_lt hj,List.getElem?_drop,← Array.getElem?_toList]
  have:=run_loadCells_list (P:=P) W ⟨b,o,none⟩ ((c.toList.drop o).take (ty P t).size) (fun j v hj=>by
   rw [Addr.add_none,zn hb]
   have hjl:j<(ty P t).size:=by
    have:=(List.getElem?_eq_some_iff.1 hj).1
    omega
   rw [← hget j hjl];exact hj)
  rw [hlen] at this
  rw [this]
  refine ⟨_,rfl,?_⟩
  simp only [Rep]
  refine ⟨_,rfl,Reps.of_get ?_ (fun j hj=>?_)⟩
  ·rw [hlen];simp;omega
  ·simp at hj
   obtain ⟨v,hv,hr⟩:=hc j (by omega)
   refine ⟨v,by rw [hget j (by omega)];exact hv,?_⟩
   rw [List.getD_eq_getElem?_getD,List.getElem?_take_of_lt (by omega),List.getElem?_drop,← List.getD_eq_getElem?_getD]
   exact hr
end
open Go
def alike:TD→D→Bool
 | .int k,.int k' _=>k==k'
 | .str,.str _=>true
 | .bool,.bool _=>true
 |_,_=>false
def sameS:D→D→Bool
 | .int _ a,.int _ b=>a==b
 | .str a,.str b=>a==b
 | .bool a,.bool b=>a==b
 |_,_=>false
def mix (k:D):List (D×D)→Option (Nat×D)
 | []=>none
 |p::r=>if sameS k p.1 then some (0,p.2) else (mix k r).map fun q=>(q.1+1,q.2)
def mat (k:D):List (D×D)→Option D
 | []=>none
 |p::r=>if sameS k p.1 then some p.2 else mat k r
def mput (k v:D):List (D×D)→List (D×D)
 | []=> [(k,v)]
 |p::r=>if sameS k p.1 then (k,v)::r else p::mput k v r
theorem zfT (k:D):∀es,mat k es=(mix k es).map (·.2)
 | []=>rfl
 |p::r=>by
  simp only [mat,mix]
  split
  ·rfl
  ·rw [zfT k r];cases mix k r<;>rfl
theorem zjb (k v:D):∀es,mput k v es=match mix k es with|some q=>es.set q.1 (k,v)|none=>es++ [(k,v)]
 | []=>rfl
 |p::r=>by
  simp only [mput,mix]
  split
  ·rfl
  ·rw [zjb k v r];cases mix k r<;>rfl
theorem zjc (k:D):∀es q,mix k es=some q→∃p,es[q.1]?=some p∧sameS k p.1=true∧p.2=q.2
 | [],q,h=>by cases h
 | p::r,q,h=>by
  simp only [mix] at h
  split at h
  ·rename_i hs
   cases h
   exact ⟨p,rfl,hs,rfl⟩
  ·cases hm:mix k r with
   |none=>rw [hm] at h;cases h
   |some q'=>
    rw [hm] at h
    cases h
    obtain ⟨p',h1,h2,h3⟩:=zjc k r q' hm
    exact ⟨p',by simpa using h1,h2,h3⟩
theorem zgT (a b:List UInt8):((⟨a.toArray⟩:ByteArray)==⟨b.toArray⟩)=(a==b):=by
 have:((⟨a.toArray⟩:ByteArray)==⟨b.toArray⟩)=(a.toArray==b.toArray):=rfl
 rw [this,Bool.eq_iff_iff]
 simp
theorem zfm {d:TypeDesc} {k x:D} (hk:alike (tdOf d) k=true) (hx:alike (tdOf d) x=true):Instr.sameNow d (valD k) (valD x)=some (sameS k x):=by
 cases d<;>simp only [tdOf] at hk hx<;>(try (split at hk))<;>(cases k<;>cases x<;>simp only [alike,beq_iff_eq,Bool.false_eq_true] at hk hx)
 all_goals (subst_vars;simp [Instr.sameNow,valD,sameS,zgT])
theorem zfn {d:TypeDesc} {k:D} (hk:alike (tdOf d) k=true):∀ (es:List (D×D)) (l:List MapEntry) (i:Nat),(es.all fun p=>alike (tdOf d) p.1)=true→
  l.map (fun e=>(e.key,e.val))=es.map (fun p=>(valD p.1,valD p.2))→Instr.findNow d (valD k) l i=some ((mix k es).map fun q=>(i+q.1,valD q.2))
 | [],l,i,_,h=>by
  cases l with
  |nil=>rfl
  |cons e l=>simp at h
 | p::r,l,i,ha,h=>by
  cases l with
  |nil=>simp at h
  | cons e l=>
   simp only [List.map_cons,List.cons.injEq,Prod.mk.injEq] at h
   simp only [List.all_cons,Bool.and_eq_true] at ha
   simp only [Instr.findNow,h.1.1,zfm hk ha.1,mix]
   cases hs:sameS k p.1 with
   |true=>simp [h.1.2]
   |false=>
    simp only [Bool.false_eq_true,if_false]
    rw [zfn hk r l (i+1) ha.2 h.2]
    cases mix k r with
    |none=>rfl
    |some q=>simp only [Option.map_some];congr 3;omega
def aix (k:D):List D→Option Nat
 | []=>none
 |x::r=>if sameS k x then some 0 else (aix k r).map (· +1)
theorem zer {d:TypeDesc} {k:D} (hk:alike (tdOf d) k=true):∀ (ks:List D) (l:List MapEntry) (i:Nat),(ks.all fun p=>alike (tdOf d) p)=true→
  l.map (·.key)=ks.map valD→Instr.findNow d (valD k) l i=some ((aix k ks).bind fun j=>(l[j]?).map fun e=>(i+j,e.val))
 | [],l,i,_,h=>by
  cases l with
  |nil=>rfl
  |cons e l=>simp at h
 | x ::r,l,i,ha,h=>by
  cases l with
  |nil=>simp at h
  | cons e l=>
   simp only [List.map_cons,List.cons.injEq] at h
   simp only [List.all_cons,Bool.and_eq_true] at ha
   simp only [Instr.findNow,h.1,zfm hk ha.1,aix]
   cases hs:sameS k x with
   |true=>simp
   | false=>
    simp only [Bool.false_eq_true,if_false]
    rw [zer hk r l (i+1) ha.2 h.2]
    cases aix k r with
    |none=>rfl
    |some j=>
     simp only [Option.bind_some,Option.map_some,List.getElem?_cons_succ]
     rw [show i+1+j=i+(j+1) by omega]
theorem zoD {k:D} :∀ {ks:List D} {j:Nat},aix k ks=some j→j<ks.length
 | [],j,h=>by cases h
 | x::r,j,h=>by
  simp only [aix] at h
  split at h
  ·cases h;simp
  ·cases hm:aix k r with
   |none=>rw [hm] at h;cases h
   |some q=>
    rw [hm] at h
    cases h
    have:=zoD hm
    simp only [List.length_cons];omega
def AS.esOf (s:AS) (i:Nat):Option (List (D×D)):=match hget s.h i with|some (.omap es)=>some es|_=>none
def zav (P:Program) (s:AS) (t:TypeId) (m k:AV) (ok:Bool):Prop×AV:=
 match (ty P t).td,m,k with
 | .map kt et,.map i,.d kd=>(match zx P 12 et,s.esOf i with
  | [.d z],some es=>(z.scal=true∧zD P et=true∧(ty P et).td.agg=false∧alike (ty P kt).td kd=true∧(es.all fun p=>alike (ty P kt).td p.1)=true,
    if ok then .tup [.d ((mat kd es).getD z),.d (.bool (mat kd es).isSome)] else .d ((mat kd es).getD z))
  |_,_=>(False,.any))
 | .map kt et,.amap ks vs,.d kd=>(match zx P 12 et with
  | [z]=>(zD P et=true∧(ty P et).td.agg=false∧alike (ty P kt).td kd=true∧(ks.all fun p=>alike (ty P kt).td p)=true,
    if ok then .tup [((aix kd ks).map fun j=>vs.getD j .any).getD z,.d (.bool (aix kd ks).isSome)] else ((aix kd ks).map fun j=>vs.getD j .any).getD z)
  |_=>(False,.any))
 |_,_,_=>(False,.any)
theorem zaU {W:World} {X:Nat→Prop} {x:D} {v:Value} (h:x.scal=true):RepD W X x v↔v=valD x:=by
 cases x<;>simp only [D.scal,Bool.false_eq_true] at h<;>simp only [RepD,valD]
section
variable {P : Program} {W : World} {E : Env} {s : AS}
theorem zcj {t:TypeId} {k:D} (h:alike (ty P t).td k=true):∃d,P.underlying t=some d∧tdOf d=(ty P t).td:=by
 have hne:(ty P t).td≠ .other:=fun e=>by rw [e] at h;cases k<;>cases h
 exact za9 rfl hne
theorem zck {td:TD} {k:D} (h:alike td k=true):k.scal=true:=by
 cases td<;>cases k<;>first|rfl|cases h
theorem za2 {t:TypeId} {k:D} (h:alike (ty P t).td k=true) (e:Bool) (w:World):(Instr.checkKey e 10000 t (valD k)).run P w= .ok () w:=by
 obtain ⟨d,hd,he⟩:=zcj h
 rw [← he] at h
 unfold Instr.checkKey
 rw [Sem.run_bind,run_underlying hd,Result.andThen_ok]
 cases d<;>simp only [tdOf] at h<;>(try (split at h))<;>(cases k<;>simp only [alike,Bool.false_eq_true] at h)<;>rfl
theorem zdN {t:TypeId} {k:D} (h:alike (ty P t).td k=true) {es:List (D×D)} {mes:Array MapEntry} (hes:esOk es mes) (ha:(es.all fun p=>alike (ty P t).td p.1)=true) (w:World):
  (Instr.findKey t (valD k) mes.toList).run P w= .ok ((mix k es).map fun q=>(q.1,valD q.2)) w:=by
 obtain ⟨d,hd,he⟩:=zcj h
 rw [← he] at h ha
 unfold Instr.findKey
 rw [Sem.run_bind,run_underlying hd,Result.andThen_ok,zfn h es mes.toList 0 ha hes.2]
 simp
theorem zjd {t:TypeId} (hz:zD P t=true) {z:AV} (he:zx P 12 t= [z]) (ha:(ty P t).td.agg=false) (w:World):∃v,(zeroValue t).run P w= .ok v w∧∀ (W:World) (E:Env) (h:AHeap),Rep W E h z v:=by
 obtain ⟨i,v,h1,h2,h3,h4,h5,h6⟩:=zdr hz
 refine ⟨v,zbL h1 h2 w,fun W E h=>?_⟩
 rw [he] at h3
 rw [ha] at h4
 cases v with
 |agg cs=>cases h4
 |_=>
  simp only [Value.cells,gndL,Bool.and_true] at h3
  exact zh7 h3
theorem zlc {t:TypeId} (hz:zD P t=true) {z:D} (hs:z.scal=true) (he:zx P 12 t= [.d z]) (ha:(ty P t).td.agg=false) (w:World):(zeroValue t).run P w= .ok (valD z) w:=by
 obtain ⟨v,h1,h2⟩:=zjd hz he ha w
 have:=h2 w ⟨fun _=>none,fun _=>0,fun _=>False,fun _=>False⟩ []
 simp only [Rep] at this
 rw [h1,(zaU hs).1 this]
theorem zh9 {t:TypeId} {m k:AV} {mv kv:Value} {ok:Bool} (hp:SatH E s.h W) (hv:(zav P s t m k ok).1) (hm:Rep W E s.h m mv) (hk:Rep W E s.h k kv):
  ∃v,(Instr.lookup t mv kv ok).run P W= .ok v W∧Rep W E s.h (zav P s t m k ok).2 v:=by
 unfold zav at hv ⊢
 split at hv
 ·rename_i kt et i kd ht
  try dsimp only at hv ⊢
  split at hv
  ·rename_i z es hz hes
   obtain ⟨h1,h2,h3,h4,h5⟩:=hv
   try dsimp only
   simp only [Rep] at hm hk
   obtain ⟨b,es',g1,g2,rfl⟩:=hm
   have hes':es'=es:=by
    unfold AS.esOf at hes
    rw [g1] at hes
    simpa using hes
   subst hes'
   have ho:=hp.heap i _ g1
   simp only [RepObj] at ho
   obtain ⟨b',mes,clock,q1,q2,q3⟩:=ho
   rw [g2] at q1
   cases q1
   rw [(zaU (zck h4)).1 hk]
   have hz0:=zlc h2 h1 hz h3
   have hv:(valD ((mat kd es').getD z))=((mix kd es').map fun q=>valD q.2).getD (valD z):=by
    rw [zfT];cases mix kd es'<;>rfl
   refine ⟨if ok then .tuple #[valD ((mat kd es').getD z),.bool (mat kd es').isSome] else valD ((mat kd es').getD z),?_,?_⟩
   ·unfold Instr.lookup
    simp only [Sem.run_bind,run_underlying (zfS ht),Result.andThen_ok]
    have hget:(getObj b).run P W= .ok (.map mes clock) W:=by simp [getObj,Sem.run,q2]
    simp only [Sem.run_bind,hget,Result.andThen_ok,Sem.run_pure,za2 h4,zdN h4 q3 h5]
    rw [zfT]
    cases mix kd es' with
    |none=>simp [hz0]
    |some q=>simp
   ·have hsc:((mat kd es').getD z).scal=true:=by
     rw [zfT]
     cases hm:mix kd es' with
     |none=>exact h1
     |some q=>
      obtain ⟨p,f1,f2,f3⟩:=zjc kd es' q hm
      have:=List.all_eq_true.1 q3.1 p (List.mem_of_getElem? f1)
      simp only [Bool.and_eq_true] at this
      simp only [Option.map_some,Option.getD_some]
      rw [← f3];exact this.2
    cases ok
    ·simp only [Bool.false_eq_true,if_false,Rep]
     exact (zaU hsc).2 rfl
    ·simp only [if_true,Rep,Reps]
     exact ⟨_,rfl,_,_,rfl,(zaU hsc).2 rfl,_,_,rfl,by simp [RepD],rfl⟩
  ·exact hv.elim
 ·rename_i kt et ks vs kd ht
  try dsimp only at hv ⊢
  split at hv
  ·rename_i z hz
   obtain ⟨h2,h3,h4,h5⟩:=hv
   try dsimp only
   simp only [Rep] at hm hk
   obtain ⟨b,mes,clock,rfl,_,q2,q3,q4⟩:=hm
   rw [(zaU (zck h4)).1 hk]
   obtain ⟨zv,hz0,hzr⟩:=zjd h2 hz h3 W
   have hf:(Instr.findKey kt (valD kd) mes.toList).run P W= .ok ((aix kd ks).bind fun j=>(mes.toList[j]?).map fun e=>(j,e.val)) W:=by
    obtain ⟨d,hd,he⟩:=zcj h4
    rw [← he] at h4 h5
    unfold Instr.findKey
    rw [Sem.run_bind,run_underlying hd,Result.andThen_ok,zer h4 ks mes.toList 0 h5 q3]
    simp
   have hlk:∀ (o:Option (Nat×Value)),(Instr.findKey kt (valD kd) mes.toList).run P W= .ok o W→(Instr.lookup t (.map (some b)) (valD kd) ok).run P W= .ok (if ok then .tuple #[(o.map (·.2)).getD zv,.bool o.isSome] else (o.map (·.2)).getD zv) W:=fun o ho=>by
    unfold Instr.lookup
    simp only [Sem.run_bind,run_underlying (zfS ht),Result.andThen_ok]
    have hget:(getObj b).run P W= .ok (.map mes clock) W:=by simp [getObj,Sem.run,q2]
    simp only [Sem.run_bind,hget,Result.andThen_ok,Sem.run_pure,za2 h4,ho]
    cases o with
    |none=>simp [hz0]
    |some q=>simp
   have hlen:mes.toList.length=ks.length:=by simpa using congrArg List.length q3
   cases hj:aix kd ks with
   | none=>
    rw [hj] at hf
    refine ⟨_,hlk _ hf,?_⟩
    cases ok
    ·exact hzr _ _ _
    ·simp only [if_true,Rep,Reps]
     exact ⟨_,rfl,_,_,rfl,hzr _ _ _,_,_,rfl,by simp [RepD],rfl⟩
   | some j=>
    have hl:=zoD hj
    obtain ⟨e,he⟩:∃e,mes.toList[j]?=some e:=⟨_,List.getElem?_eq_getElem (by omega)⟩
    rw [hj,Option.bind_some,he,Option.map_some] at hf
    have hlv:vs.length=mes.toList.length:=by simpa using (Reps.length q4).symm
    obtain ⟨x,hx,hr⟩:=Reps.get (i:=j) (a:=vs.getD j .any) q4 (by rw [List.getD_eq_getElem?_getD,List.getElem?_eq_getElem (by omega)];rfl)
    have hxe:x=e.val:=by
     rw [List.getElem?_map,he] at hx
     exact (Option.some.inj hx).symm
    subst hxe
    refine ⟨_,hlk _ hf,?_⟩
    cases ok
    ·exact hr
    ·simp only [if_true,Rep,Reps]
     exact ⟨_,rfl,_,_,rfl,hr,_,_,rfl,by simp [RepD],rfl⟩
  ·exact hv.elim
 ·exact hv.elim
end
open Go
def AS.bnd (s:AS) (x:Option Operand) (dflt:Int):Prop×Int:=
 match x with
 |none=>(True,dflt)
 |some x=>match s.ev x with
  |(g,.d (.int _ n))=>(g=true,n)
  |_=>(False,0)
def AS.cur (s:AS) (i n k:Nat):Prop:=
 match hget s.h i with
 |some (.arr k' xs)=>k'=k∧xs.length=n
 |_=>False
def zes (P:Program) (t:TypeId) (f:Nat):Option (Nat×Nat):=
 match (ty P t).td with
 | .struct fs=>fs[f]?
 |_=>none
def AV.isD:AV→Bool
 | .d _=>true
 |_=>false
def AV.oneD:AV→List D
 | .d x=> [x]
 |_=> []
def za1 (P:Program) (s:AS) (t:TypeId) (x:AV) (lo hi mx:Option Operand):Prop×AV:=
 let l:=s.bnd lo 0
 match x with
 | .d (.str b)=>
  let h:=s.bnd hi b.length
  (mx=none∧(ty P t).td= .str∧l.1∧h.1∧0≤l.2∧l.2≤h.2∧h.2≤b.length,.d (.str ((b.take h.2.toNat).drop l.2.toNat)))
 | .d (.sl k xs)=>
  let h:=s.bnd hi xs.length
  let m:=s.bnd mx xs.length
  ((mx≠none→hi≠none)∧(∃e,(ty P t).td= .slice e∧(ty P e).size=k∧(ty P e).td≠ .other)∧l.1∧h.1∧m.1∧0≤l.2∧l.2≤h.2∧h.2≤m.2∧m.2≤xs.length,.d (.sl k ((xs.take h.2.toNat).drop l.2.toNat)))
 | .osl i k n off len=>
  let h:=s.bnd hi len
  match mx with
  |none=>(s.cur i n k∧(∃e,(ty P t).td= .slice e∧(ty P e).size=k∧(ty P e).td≠ .other)∧l.1∧h.1∧0≤l.2∧l.2≤h.2∧h.2≤(if off=0 then n else len:Nat),.osl i k n (off+l.2.toNat) (h.2.toNat - l.2.toNat))
  |some m=>(hi≠none∧s.cur i n k∧(∃e,(ty P t).td= .slice e∧(ty P e).size=k∧(ty P e).td≠ .other)∧l.1∧h.1∧(s.bnd (some m) len).1∧0≤l.2∧l.2≤h.2∧h.2≤(s.bnd (some m) len).2∧(s.bnd (some m) len).2≤len,.any)
 | .vp i off=>
  match (ty P t).td with
  | .arr n e=>(lo=none∧hi=none∧mx=none∧(ty P e).td≠ .other∧(match hget s.h i with|some (.var cs)=>off+n*(ty P e).size≤cs.length|_=>False),.vsl i (ty P e).size off n)
  |_=>(False,.any)
 | .dp cs=>
  match (ty P t).td with
  | .arr n e=>(lo=none∧mx=none∧(ty P e).td≠ .other∧(s.bnd hi n).1∧0≤(s.bnd hi n).2∧(s.bnd hi n).2≤n∧n≤cs.length∧cs.all AV.isD=true,.d (.sl 1 ((cs.map AV.oneD).take (s.bnd hi n).2.toNat)))
  |_=>(False,.any)
 |_=>(False,.any)
def zbi (P:Program) (s:AS) (t:TypeId) (x:AV):Prop×AV:=
 match x with
 | .vp i off=>(match hget s.h i with
  |some (.var cs)=>((ty P t).td≠ .other∧off+psize P t≤cs.length,apart P t cs off)
  |_=>(False,.any))
 | .tp i off=>(match hget s.h i with
  |some (.tvar _ cs)=>((ty P t).td≠ .other∧off+psize P t≤cs.length,apart P t cs off)
  |_=>(False,.any))
 | .dp cs=>((ty P t).td≠ .other∧psize P t≤cs.length,apart P t cs 0)
 | .ap i n k r off=>(match hget s.h i with
  |some (.arr k' xs)=>(k'=k∧(ty P t).td≠ .other∧xs.length=n∧r<n∧off+psize P t≤k,apart P t ((xs.getD r []).map AV.d) off)
  |_=>(False,.any))
 |_=>(False,.any)
def zds (P:Program) (t:TypeId) (x:AV) (f:Nat):Prop×AV:=
 match zes P t f with
 |some (off,ft)=>(match x with
  | .agg cs=>((ty P ft).td≠ .other∧off+psize P ft≤cs.length,apart P ft cs off)
  |_=>(False,.any))
 |none=>(False,.any)
def zM (P:Program) (s:AS) (t:TypeId) (x:AV) (f:Nat):Prop×AV:=
 match zes P t f with
 |some (off,ft)=>(match x with
  | .vp i o=>((ty P ft).td≠ .other∧(ty P ft).size≠0,.vp i (o+off))
  | .tp i o=>((ty P ft).td≠ .other∧(ty P ft).size≠0,.tp i (o+off))
  | .dp cs=>((ty P ft).td≠ .other∧(ty P ft).size≠0∧off≤cs.length,.dp (cs.drop off))
  | .ap i n k r o=>(s.cur i n k∧(ty P ft).td≠ .other∧(ty P ft).size≠0,.ap i n k r (o+off))
  |_=>(False,.any))
 |none=>(False,.any)
def zN (P:Program) (s:AS) (t:TypeId) (x y:AV):Prop×AV:=
 match y with
 | .d (.int _ j)=>(match (ty P t).td,x with
  | .arr n e,.vp i off=>((ty P e).td≠ .other∧0≤j∧j<n,.vp i (off+j.toNat*(ty P e).size))
  | .arr n e,.ap i m k r off=>(s.cur i m k∧(ty P e).td≠ .other∧0≤j∧j<n,.ap i m k r (off+j.toNat*(ty P e).size))
  | .arr n e,.dp cs=>((ty P e).td≠ .other∧0≤j∧j<n∧n*(ty P e).size≤cs.length,.dp (cs.drop (j.toNat*(ty P e).size)))
  | .slice e,.d (.sl k xs)=>((ty P e).td≠ .other∧(ty P e).size=k∧0≤j∧j<xs.length,.dp ((xs.getD j.toNat []).map AV.d))
  | .slice e,.asl k xs=>((ty P e).td≠ .other∧(ty P e).size=k∧0≤j∧j<xs.length,.dp (xs.getD j.toNat []))
  | .slice e,.osl i k n off len=>(s.cur i n k∧(ty P e).td≠ .other∧(ty P e).size=k∧0≤j∧j<len,.ap i n k (off+j.toNat) 0)
  | .slice e,.vsl i k off len=>((ty P e).td≠ .other∧(ty P e).size=k∧0≤j∧j<len,.vp i (off+j.toNat*k))
  |_,_=>(False,.any))
 |_=>(False,.any)
def zdt (P:Program) (t:TypeId) (x y:AV):Prop×AV:=
 match y with
 | .d (.int _ j)=>(match (ty P t).td,x with
  | .arr n e,.agg cs=>((ty P e).td≠ .other∧0≤j∧j<n∧j.toNat*(ty P e).size+psize P e≤cs.length,apart P e cs (j.toNat*(ty P e).size))
  | .str,.d (.str l)=>(0≤j∧j<l.length,.d (.int .u8 ((l.getD j.toNat 0).toNat:Int)))
  |_,_=>(False,.any))
 |_=>(False,.any)
def zbx (P:Program) (src dst:TypeId) (x:AV):Prop×AV:=
 match x with
 | .d (.int _ n)=>(match (ty P dst).td with
  | .int k=>((ty P src).td≠ .other,.d (.int k (k.wrap n)))
  |_=>(False,.any))
 | .d (.str l)=>((ty P src).td= .str∧(ty P dst).td= .str,.d (.str l))
 |_=>(False,.any)
def avLen (P:Program) (s:AS) (t:TypeId) (x:AV):Prop×AV:=
 match (ty P t).td,x with
 | .arr n _,_=>(True,.d (.int .i64 n))
 | .str,.d (.str l)=>(True,.d (.int .i64 l.length))
 | .slice _,.d (.sl _ xs)=>(True,.d (.int .i64 xs.length))
 | .slice _,.asl _ xs=>(True,.d (.int .i64 xs.length))
 | .slice _,.nils _=>(True,.d (.int .i64 0))
 | .slice _,.osl i k n _ len=>(s.cur i n k,.d (.int .i64 len))
 | .slice _,.vsl _ _ _ len=>(True,.d (.int .i64 len))
 |_,_=>(False,.any)
def imin (x y:Int):Int:=if y<x then y else x
def imax (x y:Int):Int:=if y>x then y else x
def nilAV (op:BinOp) (b:Bool):Prop×AV:=
 match op with
 | .eql=>(True,.d (.bool b))
 | .neq=>(True,.d (.bool (!b)))
 |_=>(False,.any)
def abin2 (P:Program) (op:BinOp) (t:TypeId) (x y:AV):Prop×AV:=
 match x,y with
 | .agg xs,.agg ys=>
  let r:=aeq P 12 t (.agg xs) (.agg ys)
  (match op with
  | .eql=>(P.eqGuardType P.depth t=false∧r.1,.d (.bool r.2))
  | .neq=>(P.eqGuardType P.depth t=false∧r.1,.d (.bool (!r.2)))
  |_=>(False,.any))
 | .fn ..,.nilfn=>if (ty P t).td= .func then nilAV op false else (False,.any)
 | .nilfn,.nilfn=>if (ty P t).td= .func then nilAV op true else (False,.any)
 |x,y=>abin P op t x y
def zb1 (P:Program) (s:AS) (c:Call):Prop×AV:=
 match c.callee with
 | .builtin .len=>(match c.args.toList,c.argTypes.toList with
  | [x],[t]=>((s.ev x).1=true∧(avLen P s t (s.ev x).2).1,(avLen P s t (s.ev x).2).2)
  |_,_=>(False,.any))
 | .builtin .min=>(match c.args.toList.map s.ev with
  | [(gx,.d (.int k a)),(gy,.d (.int _ b))]=>(gx=true∧gy=true,.d (.int k (imin a b)))
  | [(gx,.d (.int k a)),(gy,.d (.int _ b)),(gz,.d (.int _ c))]=>(gx=true∧gy=true∧gz=true,.d (.int k (imin (imin a b) c)))
  |_=>(False,.any))
 | .builtin .max=>(match c.args.toList.map s.ev with
  | [(gx,.d (.int k a)),(gy,.d (.int _ b))]=>(gx=true∧gy=true,.d (.int k (imax a b)))
  |_=>(False,.any))
 |_=>(False,.any)
def zcl (P:Program) (T:TypeId) (ok:Bool) (x:AV):Prop×AV:=
  match x with
  | .iface t v=>if ok=true∧(ty P T).td≠ .iface∧(ty P T).td≠ .other then
      (if t=T then (True,.tup [v,.d (.bool true)])
       else (match zx P 12 T with
        | [z]=>(zD P T=true∧(ty P T).td.agg=false,.tup [z,.d (.bool false)])
        |_=>(False,.any)))
    else (False,.any)
  |_=>(False,.any)
def aval (P:Program) (s:AS):Op→Prop×AV
 | .binOp op t x y _=>((s.ev x).1=true∧(s.ev y).1=true∧(abin2 P op t (s.ev x).2 (s.ev y).2).1,(abin2 P op t (s.ev x).2 (s.ev y).2).2)
 | .unOp op _ x=>((s.ev x).1=true∧(aun op (s.ev x).2).1,(aun op (s.ev x).2).2)
 | .convert src dst x=>((s.ev x).1=true∧(zbx P src dst (s.ev x).2).1,(zbx P src dst (s.ev x).2).2)
 | .makeInterface t x=>((s.ev x).1=true∧(ty P t).td≠ .other∧(ty P t).td≠ .iface,.iface t (s.ev x).2)
 | .makeFunc f fs cs=>(((fs++cs).toList.all fun x=>(s.ev x).1)=true,.fn f (fs.toList.map fun x=>(s.ev x).2) (cs.toList.map fun x=>(s.ev x).2))
 | .field t x f=>((s.ev x).1=true∧(zds P t (s.ev x).2 f).1,(zds P t (s.ev x).2 f).2)
 | .fieldAddr t x f=>((s.ev x).1=true∧(zM P s t (s.ev x).2 f).1,(zM P s t (s.ev x).2 f).2)
 | .indexAddr t x y=>((s.ev x).1=true∧(s.ev y).1=true∧(zN P s t (s.ev x).2 (s.ev y).2).1,(zN P s t (s.ev x).2 (s.ev y).2).2)
 | .index t x y=>((s.ev x).1=true∧(s.ev y).1=true∧(zdt P t (s.ev x).2 (s.ev y).2).1,(zdt P t (s.ev x).2 (s.ev y).2).2)
 | .slice t x lo hi mx=>((s.ev x).1=true∧(za1 P s t (s.ev x).2 lo hi mx).1,(za1 P s t (s.ev x).2 lo hi mx).2)
 | .load t x=>((s.ev x).1=true∧(zbi P s t (s.ev x).2).1,(zbi P s t (s.ev x).2).2)
 | .nilCheck x=>((s.ev x).1=true∧(match (s.ev x).2 with| .vp .. =>True| .tp .. =>True| .dp .. =>True| .ap i n k _ _=>s.cur i n k| .fn (.func _) _ _=>True|_=>False),(s.ev x).2)
 | .extract x i=>(match s.ev x with
  |(g,.tup vs)=>(g=true∧i<vs.length,vs.getD i .any)
  |_=>(False,.any))
 | .lookup t x y ok=>((s.ev x).1=true∧(s.ev y).1=true∧(zav P s t (s.ev x).2 (s.ev y).2 ok).1,(zav P s t (s.ev x).2 (s.ev y).2 ok).2)
 | .call c=>zb1 P s c
 | .typeAssert x _ T ok=>((s.ev x).1=true∧(zcl P T ok (s.ev x).2).1,(zcl P T ok (s.ev x).2).2)
 |_=>(False,.any)
open Go
section
variable {P : Program} {W : World} {E : Env} {s : AS}
theorem SatH.var (hp:SatH E s.h W) {i:Nat} {cs:List AV} (h:hget s.h i=some (.var cs)):∃b c T fz,E.O i=some b∧W.heap[b]?=some (.cells c T fz)∧Reps W E s.h cs c.toList∧zY fz c.size:=by
 have:=hp.heap i _ h
 simpa only [RepObj] using this
theorem SatH.tvar (hp:SatH E s.h W) {i:Nat} {t:TypeId} {cs:List AV} (h:hget s.h i=some (.tvar t cs)):∃b c T fz,E.O i=some b∧W.heap[b]?=some (.cells c T fz)∧Reps W E s.h cs c.toList∧zY fz c.size∧T=t:=by
 have:=hp.heap i _ h
 simpa only [RepObj] using this
theorem zgU (hp:SatH E s.h W) {t:TypeId} {x:AV} {a:Value} (hv:(zbi P s t x).1) (hx:Rep W E s.h x a):
  ∃v,(Instr.loadAt t a).run P W= .ok v W∧Rep W E s.h (zbi P s t x).2 v:=by
 unfold zbi at hv ⊢
 split at hv
 ·rename_i i off
  split at hv
  ·rename_i cs hi
   obtain ⟨ht,hl⟩:=hv
   obtain ⟨b,c,T,fz,hO,hb,hr,_⟩:=hp.var hi
   simp only [Rep] at hx
   obtain ⟨b',cs',hi',hO',rfl⟩:=hx
   rw [hO] at hO';cases hO'
   simp only [Instr.loadAt,Instr.sureAddr,Sem.run_bind,Sem.run_pure,Result.andThen_ok]
   have ha:At W E s.h b (0+off) cs off (psize P t):=zci hb (by simpa [Reps.length hr ▸ List.take_length (l:=c.toList)] using hr) hl
   rw [Nat.zero_add] at ha
   exact zaO ht ha hl
  ·exact hv.elim
 ·rename_i i off
  split at hv
  ·rename_i tt cs hi
   obtain ⟨ht,hl⟩:=hv
   obtain ⟨b,c,T,fz,hO,hb,hr,_⟩:=hp.tvar hi
   simp only [Rep] at hx
   obtain ⟨b',t',cs',hi',hO',rfl⟩:=hx
   rw [hO] at hO';cases hO'
   simp only [Instr.loadAt,Instr.sureAddr,Sem.run_bind,Sem.run_pure,Result.andThen_ok]
   have ha:At W E s.h b (0+off) cs off (psize P t):=zci hb (by simpa [Reps.length hr ▸ List.take_length (l:=c.toList)] using hr) hl
   rw [Nat.zero_add] at ha
   exact zaO ht ha hl
  ·exact hv.elim
 ·rename_i cs
  obtain ⟨ht,hl⟩:=hv
  simp only [Rep] at hx
  obtain ⟨a,c,T,fz,rfl,hsp,_,hb,hr⟩:=hx
  obtain ⟨ab,ao,asp⟩:=a
  simp only at hsp hb hr
  subst hsp
  simp only [Instr.loadAt,Instr.sureAddr,Sem.run_bind,Sem.run_pure,Result.andThen_ok]
  have ha:At W E s.h ab (ao+0) cs 0 (psize P t):=zci hb hr (by omega)
  exact zaO ht ha (by omega)
 ·rename_i i n k r off
  split at hv
  ·rename_i k' xs hi
   obtain ⟨rfl,ht,hn,hrn,hl⟩:=hv
   simp only [Rep] at hx
   obtain ⟨-,xs',hi',hle,hv⟩:=hx
   rw [hi] at hi';cases hi'
   obtain ⟨b,hO,rfl⟩:=hv hn
   have hob:=hp.heap i _ hi
   simp only [RepObj] at hob
   rcases hob with ⟨h0,_⟩|⟨b',c,T,fz,hO',hb,hsz,hcap,hrows,_⟩
   ·rw [h0] at hO;cases hO
   ·rw [hO] at hO';cases hO'
    obtain ⟨hk,hrow⟩:=RepRows.get hrows (i:=r) (getD_some (d:= []) (by omega))
    simp only [Instr.loadAt,Instr.sureAddr,Sem.run_bind,Sem.run_pure,Result.andThen_ok]
    have hlen:((xs.getD r []).map AV.d).length=k':=by simpa using hk
    have ha:At W E s.h b (r*k'+off) ((xs.getD r []).map AV.d) off (psize P t):=zci hb (by rw [hlen];exact Reps.map_d.2 hrow) (by omega)
    exact zaO ht ha (by omega)
  ·exact hv.elim
 ·exact hv.elim
theorem zfo {t:TypeId} {f off ft:Nat} (h:zes P t f=some (off,ft)):∃gs,P.underlying t=some (.struct gs)∧∃g,gs[f]?=some g∧g.offset=off∧g.type=ft:=by
 unfold zes at h
 split at h
 ·rename_i fs ht
  obtain ⟨gs,hg,hfs,_⟩:=zbw ht
  subst hfs
  simp only [List.getElem?_map,Option.map_eq_some_iff] at h
  obtain ⟨g,hgf,he⟩:=h
  simp only [Prod.mk.injEq] at he
  exact ⟨gs,hg,g,by simpa using hgf,he.1,he.2⟩
 ·cases h
theorem zkb {t:TypeId} {x:AV} {f:Nat} {a:Value} (hv:(zds P t x f).1) (hx:Rep W E s.h x a):
  ∃v,(Instr.field t a f).run P W= .ok v W∧Rep W E s.h (zds P t x f).2 v:=by
 unfold zds at hv ⊢
 split at hv
 ·rename_i off ft hf
  obtain ⟨gs,hg,g,hgf,ho,ht⟩:=zfo hf
  split at hv
  ·simp only [Rep] at hx
   obtain ⟨vs,rfl,hr⟩:=hx
   subst ho ht
   simp only [Instr.field,Sem.run_bind,run_underlying hg,Result.andThen_ok,hgf,asAgg,Sem.run_pure]
   exact zaJ hv.1 hr hv.2 W
  ·exact hv.elim
 ·exact hv.elim
theorem zaP {g:Field} {b o:Nat} (ht:(ty P g.type).td≠ .other) (hz:(ty P g.type).size≠0):(fieldPlace ⟨b,o,none⟩ g).run P W= .ok ⟨b,o+g.offset,none⟩ W:=by
 obtain ⟨d,hd⟩:=zak ht
 simp [fieldPlace,zo hd,hz,Addr.add_none]
theorem ze3 {t:TypeId} {x:AV} {f:Nat} {a:Value} (hv:(zM P s t x f).1) (hx:Rep W E s.h x a):
  ∃v,(Instr.fieldAt t a f).run P W= .ok v W∧Rep W E s.h (zM P s t x f).2 v:=by
 unfold zM at hv ⊢
 split at hv
 ·rename_i off ft hf
  obtain ⟨gs,hg,g,hgf,ho,ht⟩:=zfo hf
  subst ho ht
  split at hv
  ·simp only [Rep] at hx ⊢
   obtain ⟨b,cs,h1,h2,rfl⟩:=hx
   simp only [Instr.fieldAt,Sem.run_bind,run_underlying hg,Result.andThen_ok,hgf,Instr.sureAddr,Sem.run_pure,zaP hv.1 hv.2]
   exact ⟨_,rfl,b,cs,h1,h2,rfl⟩
  ·simp only [Rep] at hx ⊢
   obtain ⟨b,t',cs,h1,h2,rfl⟩:=hx
   simp only [Instr.fieldAt,Sem.run_bind,run_underlying hg,Result.andThen_ok,hgf,Instr.sureAddr,Sem.run_pure,zaP hv.1 hv.2]
   exact ⟨_,rfl,b,t',cs,h1,h2,rfl⟩
  ·rename_i cs
   simp only [Rep] at hx ⊢
   obtain ⟨a,c,T,fz,rfl,hsp,hX,hb,hr⟩:=hx
   obtain ⟨ab,ao,asp⟩:=a
   simp only at hsp hb hr hX
   subst hsp
   simp only [Instr.fieldAt,Sem.run_bind,run_underlying hg,Result.andThen_ok,hgf,Instr.sureAddr,Sem.run_pure,zaP hv.1 hv.2.1]
   refine ⟨_,rfl,_,c,T,fz,rfl,rfl,hX,hb,?_⟩
   have:=Reps.drop hr g.offset
   rw [List.drop_take,List.drop_drop] at this
   simpa using this
  ·simp only [Rep] at hx ⊢
   obtain ⟨-,xs,h1,h2,h3⟩:=hx
   rename_i i n k r o
   obtain ⟨hc,hv1,hv2⟩:=hv
   have hn:xs.length=n:=by simpa [AS.cur,h1] using hc
   obtain ⟨b,hO,rfl⟩:=h3 hn
   simp only [Instr.fieldAt,Sem.run_bind,run_underlying hg,Result.andThen_ok,hgf,Instr.sureAddr,Sem.run_pure,zaP hv1 hv2]
   exact ⟨_,rfl,⟨_,rfl⟩,xs,h1,h2,fun _=>⟨b,hO,by rw [Nat.add_assoc]⟩⟩
  ·exact hv.elim
 ·exact hv.elim
theorem ze4 {cs:List AV} {c:Array Value} {o n:Nat} (hr:Reps W E s.h cs ((c.toList.drop o).take cs.length)):Reps W E s.h (cs.drop n) ((c.toList.drop (o+n)).take (cs.drop n).length):=by
 have:=Reps.drop hr n
 rw [List.drop_take,List.drop_drop] at this
 simpa using this
theorem ze5 (hp:SatH E s.h W) {t:TypeId} {x y:AV} {a i:Value} (hv:(zN P s t x y).1) (hx:Rep W E s.h x a) (hy:Rep W E s.h y i):
  ∃v,(Instr.indexAt t a i).run P W= .ok v W∧Rep W E s.h (zN P s t x y).2 v:=by
 unfold zN at hv ⊢
 split at hv
 ·rename_i k j
  simp only [Rep,RepD] at hy
  subst hy
  split at hv
  ·-- an array's variable
   rename_i n e ii off ht
   have hu:=zba ht
   obtain ⟨he,h0,h1⟩:=hv
   obtain ⟨de,hde⟩:=zak he
   simp only [Rep] at hx ⊢
   obtain ⟨b,cs,h2,h3,rfl⟩:=hx
   simp only [Instr.indexAt,asIntOf,Sem.run_bind,Sem.run_pure,Result.andThen_ok,run_underlying hu,Instr.sureAddr,zo hde]
   simp only [Sem.run_ite,h0,h1,and_self,if_true,Sem.run_bind,zo hde,Result.andThen_ok,Sem.run_pure,Addr.add_none]
   exact ⟨_,rfl,b,cs,h2,h3,rfl⟩
  ·rename_i n e ii m k r off ht
   have hu:=zba ht
   obtain ⟨hc,he,h0,h1⟩:=hv
   obtain ⟨de,hde⟩:=zak he
   simp only [Rep] at hx ⊢
   obtain ⟨-,xs,h2,h3,h4⟩:=hx
   obtain ⟨b,hO,rfl⟩:=h4 (by simpa [AS.cur,h2] using hc)
   simp only [Instr.indexAt,asIntOf,Sem.run_bind,Sem.run_pure,Result.andThen_ok,run_underlying hu,Instr.sureAddr,zo hde]
   simp only [Sem.run_ite,h0,h1,and_self,if_true,Sem.run_bind,zo hde,Result.andThen_ok,Sem.run_pure,Addr.add_none]
   exact ⟨_,rfl,⟨_,rfl⟩,xs,h2,h3,fun _=>⟨b,hO,by rw [Nat.add_assoc]⟩⟩
  ·rename_i n e cs ht
   have hu:=zba ht
   obtain ⟨he,h0,h1,_⟩:=hv
   obtain ⟨de,hde⟩:=zak he
   simp only [Rep] at hx ⊢
   obtain ⟨a,c,T,fz,rfl,hsp,hX,hb,hr⟩:=hx
   obtain ⟨ab,ao,asp⟩:=a
   simp only at hsp hb hr hX
   subst hsp
   simp only [Instr.indexAt,asIntOf,Sem.run_bind,Sem.run_pure,Result.andThen_ok,run_underlying hu,Instr.sureAddr,zo hde]
   simp only [Sem.run_ite,h0,h1,and_self,if_true,Sem.run_bind,zo hde,Result.andThen_ok,Sem.run_pure,Addr.add_none]
   exact ⟨_,rfl,_,c,T,fz,rfl,rfl,hX,hb,ze4 hr⟩
  ·rename_i e k xs ht
   have hu:=zq ht
   obtain ⟨he,hk,h0,h1⟩:=hv
   obtain ⟨de,hde⟩:=zak he
   simp only [Rep,RepD] at hx ⊢
   rcases hx with ⟨rfl,_⟩|⟨a,cap,c,T,fz,rfl,hsp,hcap,hX,hb,hr⟩
   ·simp at h1;omega
   obtain ⟨ab,ao,asp⟩:=a
   simp only at hsp hb hr hX
   subst hsp
   obtain ⟨hk2,hrow⟩:=RepRows.get hr (i:=j.toNat) (getD_some (d:= []) (by omega))
   simp only [Instr.indexAt,asIntOf,Sem.run_bind,Sem.run_pure,Result.andThen_ok,run_underlying hu,Instr.sureAddr,zo hde]
   simp only [Sem.run_ite,h0,h1,and_self,if_true,Sem.run_bind,zo hde,Result.andThen_ok,Sem.run_pure,Addr.add_none]
   refine ⟨_,rfl,_,c,T,fz,rfl,rfl,hX,hb,?_⟩
   rw [hk,← List.drop_drop,List.length_map,hk2]
   exact Reps.map_d.2 hrow
  ·rename_i e k xs ht
   have hu:=zq ht
   obtain ⟨he,hk,h0,h1⟩:=hv
   obtain ⟨de,hde⟩:=zak he
   simp only [Rep] at hx ⊢
   obtain ⟨a,cap,c,T,fz,rfl,hsp,hcap,hX,hb,hr⟩:=hx
   obtain ⟨ab,ao,asp⟩:=a
   simp only at hsp hb hr hX
   subst hsp
   obtain ⟨hk2,hrow⟩:=RepARows.get hr (i:=j.toNat) (getD_some (d:= []) (by omega))
   simp only [Instr.indexAt,asIntOf,Sem.run_bind,Sem.run_pure,Result.andThen_ok,run_underlying hu,Instr.sureAddr,zo hde]
   simp only [Sem.run_ite,h0,h1,and_self,if_true,Sem.run_bind,zo hde,Result.andThen_ok,Sem.run_pure,Addr.add_none]
   refine ⟨_,rfl,_,c,T,fz,rfl,rfl,hX,hb,?_⟩
   rw [hk,← List.drop_drop,hk2]
   exact hrow
  ·rename_i e ii k n off len ht
   have hu:=zq ht
   obtain ⟨hc,he,hk,h0,h1⟩:=hv
   obtain ⟨de,hde⟩:=zak he
   simp only [Rep] at hx ⊢
   obtain ⟨-,xs,h2,h3,h4,h5⟩:=hx
   rcases h5 (by simpa [AS.cur,h2] using hc) with ⟨⟨h6,h60⟩,rfl⟩|⟨b,hO,rfl⟩|⟨_,h7,_⟩
   ·-- the nil slice: no index is within
    omega
   ·simp only [Instr.indexAt,asIntOf,Sem.run_bind,Sem.run_pure,Result.andThen_ok,run_underlying hu,Instr.sureAddr,zo hde]
    simp only [Sem.run_ite,h0,h1,and_self,if_true,Sem.run_bind,zo hde,Result.andThen_ok,Sem.run_pure,Addr.add_none]
    exact ⟨_,rfl,⟨_,rfl⟩,xs,h2,h3,fun _=>⟨b,hO,by rw [hk,Nat.add_zero,Nat.add_mul]⟩⟩
   ·omega
  ·rename_i e ii k off len ht
   have hu:=zq ht
   obtain ⟨he,hk,h0,h1⟩:=hv
   obtain ⟨de,hde⟩:=zak he
   simp only [Rep] at hx ⊢
   obtain ⟨b,cs,h2,h3,_,cap,_,rfl⟩:=hx
   simp only [Instr.indexAt,asIntOf,Sem.run_bind,Sem.run_pure,Result.andThen_ok,run_underlying hu,Instr.sureAddr,zo hde]
   simp only [Sem.run_ite,h0,h1,and_self,if_true,Sem.run_bind,zo hde,Result.andThen_ok,Sem.run_pure,Addr.add_none]
   exact ⟨_,rfl,b,cs,h2,h3,by rw [hk]⟩
  ·exact hv.elim
 ·exact hv.elim
end
end Go.Aw
