/-
  Parts of the proof: AwData, AwStep, AwList, AwCore (short names; the readable texts lie in the repo, under wip).
-/
import Derived.RangeFuncRecord
import Derived.WalkKit
set_option maxRecDepth 100000
set_option maxHeartbeats 2000000
set_option linter.unusedSimpArgs false
set_option linter.unusedVariables false
namespace Go.Aw
open Go
inductive D where
 |int (k:IntKind) (n:Int)
 |bool (b:Bool)
 |str (l:List UInt8)
 |sl (k:Nat) (xs:List (List D))
 |nilp
 |nilif
 deriving Inhabited
def D.scal:D->Bool
 | .sl _ _=>false
 |_=>true
def valD:D->Value
 | .int k n=> .int k n
 | .bool b=> .bool b
 | .str l=> .string ⟨l.toArray⟩
 | .sl _ _=> .nilFunc
 | .nilp=> .pointer none
 | .nilif=> .nilIface
def esOk (es:List (D×D)) (mes:Array MapEntry):Prop:=
 (es.all λp=>p.1.scal&&p.2.scal)=true/\mes.toList.map (λe=>(e.key,e.val))=es.map λp=>(valD p.1,valD p.2)
inductive AV where
 |d (x:D)
 |agg (cs:List AV)
 |tup (vs:List AV)
 |nils (k:Nat)
 |dp (cs:List AV)
 |vp (i off:Nat)
 |ap (i n k r off:Nat)
 |osl (i k n off len:Nat)
 |vsl (i k off len:Nat)
 |asl (k:Nat) (xs:List (List AV))
 |fn (f:Fn) (first cap:List AV)
 |nilfn
 |any
 |map (i:Nat)
 |nilmap
 |raw (v:Value)
 |tp (i off:Nat)
 |bsl (i n:Nat)
 |itr (i:Nat)
 |iface (t:Nat) (v:AV)
 deriving Inhabited
inductive AObj where
 |var (cs:List AV)
 |arr (k:Nat) (xs:List (List D))
 |strit (l:List UInt8) (pos:Nat)
 |omap (es:List (D×D))
 |tvar (t:TypeId) (cs:List AV)
 |buf (t:TypeId) (xs:List UInt8)
 deriving Inhabited
abbrev AHeap:=List (Nat×AObj)
def hget:AHeap->Nat->Option AObj
 | [],_=>none
 |(k,o)::r,n=>if k=n then some o else hget r n
def hset:AHeap->Nat->AObj->AHeap
 | [],_,_=> []
 |(k,o)::r,n,o'=>if k=n then (k,o')::r else (k,o)::hset r n o'
def top (fl:Nat):AHeap->Nat
 | []=>fl
 |(k,_)::r=>if top fl r<=k then k+1 else top fl r
def fresh (fl:Nat) (h:AHeap):Nat:=if (hget h fl).isSome=true then top fl h else fl
structure Env where
 O:Nat->Option Nat
 C:Nat->Nat
 M:Nat->Prop
 N:Nat->Prop
def Own (E:Env) (h:AHeap) (b:Nat):Prop:=∃i,(hget h i).isSome/\E.O i=some b
def Xs (E:Env) (h:AHeap) (b:Nat):Prop:=Own E h b\/E.M b\/E.N b
mutual
def RepD (W:World) (X:Nat->Prop):D->Value->Prop
 | .int k n,v=>v= .int k n
 | .bool b,v=>v= .bool b
 | .str l,v=>v= .string ⟨l.toArray⟩
 | .sl k xs,v=>(xs= []/\∃a cap,v= .slice a 0 cap)\/
   (∃a cap c T fz,v= .slice (some a) xs.length cap/\a.spot=none/\xs.length<=cap/\¬X a.block/\W.heap[a.block]?=some (.cells c T fz)/\RepRows W X k xs (c.toList.drop a.off))
 | .nilp,v=>v= .pointer none
 | .nilif,v=>v= .nilIface
def RepDs (W:World) (X:Nat->Prop):List D->List Value->Prop
 | [],vs=>vs= []
 |x::xs,vs=>∃v r,vs=v::r/\RepD W X x v/\RepDs W X xs r
def RepRows (W:World) (X:Nat->Prop) (k:Nat):List (List D)->List Value->Prop
 | [],_=>True
 |r::rs,vs=>r.length=k/\RepDs W X r (vs.take k)/\RepRows W X k rs (vs.drop k)
end
mutual
def Rep (W:World) (E:Env) (h:AHeap):AV->Value->Prop
 | .d x,v=>RepD W (Xs E h) x v
 | .agg cs,v=>∃vs,v= .agg vs/\Reps W E h cs vs.toList
 | .tup cs,v=>∃vs,v= .tuple vs/\Reps W E h cs vs.toList
 | .nils _,v=>v= .slice none 0 0
 | .dp cs,v=>∃a c T fz,v= .pointer (some a)/\a.spot=none/\¬Xs E h a.block/\W.heap[a.block]?=some (.cells c T fz)/\Reps W E h cs ((c.toList.drop a.off).take cs.length)
 | .vp i off,v=>∃b cs,hget h i=some (.var cs)/\E.O i=some b/\v= .pointer (some ⟨b,off,none⟩)
 | .ap i n k r off,v=>(∃p,v= .pointer p)/\∃xs,hget h i=some (.arr k xs)/\n<=xs.length/\(xs.length=n->∃b,E.O i=some b/\v= .pointer (some ⟨b,r*k+off,none⟩))
 | .osl i k n off len,v=>(∃p l c,v= .slice p l c)/\∃xs,hget h i=some (.arr k xs)/\n<=xs.length/\off+len<=n/\(xs.length=n->
   ((E.O i=none/\n=0)/\v= .slice none 0 0)\/(∃b,E.O i=some b/\v= .slice (some ⟨b,off*k,none⟩) len (E.C i - off))\/(off≠0/\len=0/\∃a cap,v= .slice a 0 cap))
 | .vsl i k off len,v=>∃b cs,hget h i=some (.var cs)/\E.O i=some b/\off+len*k<=cs.length/\v= .slice (some ⟨b,off,none⟩) len len
 | .asl k xs,v=>∃a cap c T fz,v= .slice (some a) xs.length cap/\a.spot=none/\xs.length<=cap/\¬Xs E h a.block/\W.heap[a.block]?=some (.cells c T fz)/\RepARows W E h k xs (c.toList.drop a.off)
 | .fn f fs cs,v=>∃a b,v= .func f a b/\Reps W E h fs a.toList/\Reps W E h cs b.toList
 | .nilfn,v=>v= .nilFunc
 | .any,_=>True
 | .map i,v=>∃b es,hget h i=some (.omap es)/\E.O i=some b/\v= .map (some b)
 | .nilmap,v=>v= .map none
 | .raw u,v=>v=u
 | .tp i off,v=>∃b t cs,hget h i=some (.tvar t cs)/\E.O i=some b/\v= .pointer (some ⟨b,off,none⟩)
 | .bsl i n,v=>(∃p l c,v= .slice p l c)/\∃t xs,hget h i=some (.buf t xs)/\n<=xs.length/\(xs.length=n->((E.O i=none/\n=0)/\v= .slice none 0 0)\/(∃b,E.O i=some b/\v= .slice (some ⟨b,0,none⟩) n (E.C i)))
 | .itr i,v=>∃b l p,hget h i=some (.strit l p)/\E.O i=some b/\v= .pointer (some ⟨b,0,none⟩)
 | .iface t a,v=>∃x,v= .iface t x/\Rep W E h a x
def Reps (W:World) (E:Env) (h:AHeap):List AV->List Value->Prop
 | [],vs=>vs= []
 |x::xs,vs=>∃v r,vs=v::r/\Rep W E h x v/\Reps W E h xs r
def RepARows (W:World) (E:Env) (h:AHeap) (k:Nat):List (List AV)->List Value->Prop
 | [],_=>True
 |r::rs,vs=>r.length=k/\Reps W E h r (vs.take k)/\RepARows W E h k rs (vs.drop k)
end
def zbf (fz:Nat×Nat) (n:Nat):Prop:=∀o,o<n->¬(fz.1<=o/\o<fz.2)
def zid:Nat:=9223372036854775808
def RepObj (W:World) (E:Env) (h:AHeap) (i:Nat):AObj->Prop
 | .var cs=>∃b c T fz,E.O i=some b/\W.heap[b]?=some (.cells c T fz)/\Reps W E h cs c.toList/\zbf fz c.size
 | .arr k xs=>(E.O i=none/\(xs= []\/xs.length=zid))\/(∃b c T fz,E.O i=some b/\W.heap[b]?=some (.cells c T fz)/\c.size=E.C i*k/\xs.length<=E.C i/\RepRows W (Xs E h) k xs c.toList/\zbf fz c.size)
 | .strit l p=>∃b,E.O i=some b/\W.heap[b]?=some (.stringIter ⟨l.toArray⟩ p)
 | .omap es=>∃b mes clock,E.O i=some b/\W.heap[b]?=some (.map mes clock)/\esOk es mes
 | .tvar t cs=>∃b c T fz,E.O i=some b/\W.heap[b]?=some (.cells c T fz)/\Reps W E h cs c.toList/\(zbf fz c.size/\T=t)
 | .buf t xs=>(E.O i=none/\(xs= []\/xs.length=zid))\/(∃b c T fz,E.O i=some b/\W.heap[b]?=some (.cells c T fz)/\c.size=E.C i*1/\xs.length<=E.C i/\c.toList.take xs.length=xs.map (λx=>Value.int .u8 x.toNat)/\(fz=(0,0)/\T=t/\E.C i<=9223372036854775807))
open Go
section
variable {W W' : World} {X X' : Nat -> Prop}
mutual
theorem RepD.stepc (hX:∀b c T fz,W.heap[b]?=some (.cells c T fz)->X' b->X b) (hK:∀b c T fz,W.heap[b]?=some (.cells c T fz)->¬X b->W'.heap[b]?=some (.cells c T fz)):
  ∀ (x:D) (v:Value),RepD W X x v->RepD W' X' x v
 | .int _ _,_,h=>by simpa only [RepD] using h
 | .bool _,_,h=>by simpa only [RepD] using h
 | .str _,_,h=>by simpa only [RepD] using h
 | .nilp,_,h=>by simpa only [RepD] using h
 | .nilif,_,h=>by simpa only [RepD] using h
 | .sl k xs,v,h=>by
  simp only [RepD] at h ⊢;rcases h with h|⟨a,cap,c,T,fz,h1,h2,h3,h4,h5,h6⟩
  ·exact .inl h
  ·exact .inr ⟨a,cap,c,T,fz,h1,h2,h3,λhx=>h4 (hX _ _ _ _ h5 hx),hK _ _ _ _ h5 h4,RepRows.stepc hX hK k xs _ h6⟩
theorem RepDs.stepc (hX:∀b c T fz,W.heap[b]?=some (.cells c T fz)->X' b->X b) (hK:∀b c T fz,W.heap[b]?=some (.cells c T fz)->¬X b->W'.heap[b]?=some (.cells c T fz)):
  ∀ (xs:List D) (vs:List Value),RepDs W X xs vs->RepDs W' X' xs vs
 | [],_,h=>by simpa only [RepDs] using h
 |x::xs,_,h=>by simp only [RepDs] at h ⊢;obtain ⟨v,r,h1,h2,h3⟩:=h;exact ⟨v,r,h1,RepD.stepc hX hK x v h2,RepDs.stepc hX hK xs r h3⟩
theorem RepRows.stepc (hX:∀b c T fz,W.heap[b]?=some (.cells c T fz)->X' b->X b) (hK:∀b c T fz,W.heap[b]?=some (.cells c T fz)->¬X b->W'.heap[b]?=some (.cells c T fz)) (k:Nat):
  ∀ (xs:List (List D)) (vs:List Value),RepRows W X k xs vs->RepRows W' X' k xs vs
 | [],_,_=>by simp only [RepRows]
 |r::rs,vs,h=>by simp only [RepRows] at h ⊢;exact ⟨h.1,RepDs.stepc hX hK r _ h.2.1,RepRows.stepc hX hK k rs _ h.2.2⟩
end
theorem hK_of (hK:∀b,b<W.heap.size->¬X b->W'.heap[b]?=W.heap[b]?):∀b c T fz,W.heap[b]?=some (.cells c T fz)->¬X b->W'.heap[b]?=some (.cells c T fz):=
 λb _ _ _ h hx=>(hK b (Array.getElem?_eq_some_iff.1 h).1 hx).trans h
theorem hX_of {Y Y':Nat->Prop} (hX:∀b,b<W.heap.size->Y' b->Y b):∀b c T fz,W.heap[b]?=some (.cells c T fz)->Y' b->Y b:=
 λb _ _ _ h hx=>hX b (Array.getElem?_eq_some_iff.1 h).1 hx
theorem RepD.step (hX:∀b,b<W.heap.size->X' b->X b) (hK:∀b,b<W.heap.size->¬X b->W'.heap[b]?=W.heap[b]?) (x:D) (v:Value) (h:RepD W X x v):RepD W' X' x v:=RepD.stepc (hX_of hX) (hK_of hK) x v h
theorem RepDs.step (hX:∀b,b<W.heap.size->X' b->X b) (hK:∀b,b<W.heap.size->¬X b->W'.heap[b]?=W.heap[b]?) (x:List D) (v:List Value) (h:RepDs W X x v):RepDs W' X' x v:=RepDs.stepc (hX_of hX) (hK_of hK) x v h
theorem RepRows.step (hX:∀b,b<W.heap.size->X' b->X b) (hK:∀b,b<W.heap.size->¬X b->W'.heap[b]?=W.heap[b]?) (k:Nat) (x:List (List D)) (v:List Value) (h:RepRows W X k x v):RepRows W' X' k x v:=RepRows.stepc (hX_of hX) (hK_of hK) k x v h
end
mutual
def AV.ids:AV->List Nat
 | .d _| .nils _| .nilfn| .any| .nilmap| .raw _=> []
 | .agg cs| .tup cs| .dp cs=>AV.idsL cs
 | .vp i _| .tp i _| .bsl i _| .ap i _ _ _ _| .osl i _ _ _ _| .vsl i _ _ _| .map i| .itr i=> [i]
 | .asl _ xs=>AV.idsR xs
 | .fn _ fs cs=>AV.idsL fs++AV.idsL cs
 | .iface _ a=>a.ids
def AV.idsL:List AV->List Nat
 | []=> []
 |x::xs=>x.ids++AV.idsL xs
def AV.idsR:List (List AV)->List Nat
 | []=> []
 |x::xs=>AV.idsL x++AV.idsR xs
end
def AObj.ids:AObj->List Nat
 | .var cs=>AV.idsL cs
 | .tvar _ cs=>AV.idsL cs
 | .arr _ _| .strit _ _| .omap _| .buf _ _=> []
def GoesOn (E:Env) (h:AHeap) (E':Env) (h':AHeap) (i:Nat):Prop:=
 match hget h i with
 |some (.var cs)=>E'.O i=E.O i/\∃cs',hget h' i=some (.var cs')/\cs'.length=cs.length
 |some (.arr k xs)=>∃xs',hget h' i=some (.arr k xs')/\xs.length<=xs'.length/\(xs'.length=xs.length->E'.O i=E.O i/\E'.C i=E.C i)
 |some (.strit l _)=>E'.O i=E.O i/\∃p',hget h' i=some (.strit l p')
 |some (.omap _)=>E'.O i=E.O i/\∃es',hget h' i=some (.omap es')
 |some (.buf t xs)=>∃xs',hget h' i=some (.buf t xs')/\xs.length<=xs'.length/\(xs'.length=xs.length->E'.O i=E.O i/\E'.C i=E.C i)
 |some (.tvar t cs)=>E'.O i=E.O i/\∃cs',hget h' i=some (.tvar t cs')/\cs'.length=cs.length
 |none=>True
theorem GoesOn.refl (E:Env) (h:AHeap) (i:Nat):GoesOn E h E h i:=by unfold GoesOn;split<;>simp_all
section
variable {W W' : World} {E E' : Env} {h h' : AHeap}
mutual
theorem Rep.stepc (hX:∀b c T fz,W.heap[b]?=some (.cells c T fz)->Xs E' h' b->Xs E h b) (hK:∀b c T fz,W.heap[b]?=some (.cells c T fz)->¬Xs E h b->W'.heap[b]?=some (.cells c T fz)):
  ∀ (a:AV) (v:Value),(∀i∈a.ids,GoesOn E h E' h' i)->Rep W E h a v->Rep W' E' h' a v
 | .d x,v,_,hr=>by simp only [Rep] at hr ⊢;exact RepD.stepc hX hK x v hr
 | .agg cs,v,hi,hr=>by simp only [Rep] at hr ⊢;obtain ⟨vs,h1,h2⟩:=hr;exact ⟨vs,h1,Reps.stepc hX hK cs _ (by simpa only [AV.ids] using hi) h2⟩
 | .tup cs,v,hi,hr=>by simp only [Rep] at hr ⊢;obtain ⟨vs,h1,h2⟩:=hr;exact ⟨vs,h1,Reps.stepc hX hK cs _ (by simpa only [AV.ids] using hi) h2⟩
 | .nils _,_,_,hr=>by simpa only [Rep] using hr
 | .nilfn,_,_,hr=>by simpa only [Rep] using hr
 | .nilmap,_,_,hr=>by simpa only [Rep] using hr
 | .raw _,_,_,hr=>by simpa only [Rep] using hr
 | .any,_,_,_=>by simp only [Rep]
 | .dp cs,v,hi,hr=>by simp only [Rep] at hr ⊢;obtain ⟨a,c,T,fz,h1,h2,h3,h4,h5⟩:=hr;exact ⟨a,c,T,fz,h1,h2,λhx=>h3 (hX _ _ _ _ h4 hx),hK _ _ _ _ h4 h3,Reps.stepc hX hK cs _ (by simpa only [AV.ids] using hi) h5⟩
 | .vp i off,v,hi,hr=>by simp only [Rep] at hr ⊢;obtain ⟨b,cs,h1,h2,h3⟩:=hr;have hg:=hi i (by simp [AV.ids]);simp only [GoesOn,h1] at hg;obtain ⟨cs',hc,_⟩:=hg.2;exact ⟨b,cs',hc,hg.1.trans h2,h3⟩
 | .tp i off,v,hi,hr=>by simp only [Rep] at hr ⊢;obtain ⟨b,t,cs,h1,h2,h3⟩:=hr;have hg:=hi i (by simp [AV.ids]);simp only [GoesOn,h1] at hg;obtain ⟨cs',hc,_⟩:=hg.2;exact ⟨b,t,cs',hc,hg.1.trans h2,h3⟩
 | .bsl i n,v,hi,hr=>by simp only [Rep] at hr ⊢;obtain ⟨h0,t,xs,h1,h2,h3⟩:=hr;have hg:=hi i (by simp [AV.ids]);simp only [GoesOn,h1] at hg;obtain ⟨xs',hx,hl,he⟩:=hg;refine ⟨h0,t,xs',hx,by omega,λhn=>?_⟩;obtain ⟨e1,e2⟩:=he (by omega);rw [e1,e2];exact h3 (by omega)
 | .ap i n k r off,v,hi,hr=>by simp only [Rep] at hr ⊢;obtain ⟨h0,xs,h1,h2,h3⟩:=hr;have hg:=hi i (by simp [AV.ids]);simp only [GoesOn,h1] at hg;obtain ⟨xs',hx,hl,he⟩:=hg;refine ⟨h0,xs',hx,by omega,λhn=>?_⟩;obtain ⟨e1,e2⟩:=he (by omega);obtain ⟨b,hb,hv⟩:=h3 (by omega);exact ⟨b,e1.trans hb,hv⟩
 | .osl i k n off len,v,hi,hr=>by simp only [Rep] at hr ⊢;obtain ⟨h0,xs,h1,h2,h4,h3⟩:=hr;have hg:=hi i (by simp [AV.ids]);simp only [GoesOn,h1] at hg;obtain ⟨xs',hx,hl,he⟩:=hg;refine ⟨h0,xs',hx,by omega,h4,λhn=>?_⟩;obtain ⟨e1,e2⟩:=he (by omega);rw [e1,e2];exact h3 (by omega)
 | .vsl i k off len,v,hi,hr=>by simp only [Rep] at hr ⊢;obtain ⟨b,cs,h1,h2,h4,h3⟩:=hr;have hg:=hi i (by simp [AV.ids]);simp only [GoesOn,h1] at hg;obtain ⟨cs',hc,hl⟩:=hg.2;exact ⟨b,cs',hc,hg.1.trans h2,by omega,h3⟩
 | .asl k xs,v,hi,hr=>by simp only [Rep] at hr ⊢;obtain ⟨a,cap,c,T,fz,h1,h2,h3,h4,h5,h6⟩:=hr;exact ⟨a,cap,c,T,fz,h1,h2,h3,λhx=>h4 (hX _ _ _ _ h5 hx),hK _ _ _ _ h5 h4,RepARows.stepc hX hK k xs _ (by simpa only [AV.ids] using hi) h6⟩
 | .fn f fs cs,v,hi,hr=>by simp only [Rep] at hr ⊢;obtain ⟨a,b,h1,h2,h3⟩:=hr;simp only [AV.ids,List.mem_append] at hi;exact ⟨a,b,h1,Reps.stepc hX hK fs _ (λi hm=>hi i (.inl hm)) h2,Reps.stepc hX hK cs _ (λi hm=>hi i (.inr hm)) h3⟩
 | .map i,v,hi,hr=>by simp only [Rep] at hr ⊢;obtain ⟨b,es,h1,h2,h3⟩:=hr;have hg:=hi i (by simp [AV.ids]);simp only [GoesOn,h1] at hg;obtain ⟨es',he⟩:=hg.2;exact ⟨b,es',he,hg.1.trans h2,h3⟩
 | .itr i,v,hi,hr=>by simp only [Rep] at hr ⊢;obtain ⟨b,l,p,h1,h2,h3⟩:=hr;have hg:=hi i (by simp [AV.ids]);simp only [GoesOn,h1] at hg;obtain ⟨p',he⟩:=hg.2;exact ⟨b,l,p',he,hg.1.trans h2,h3⟩
 | .iface t a,v,hi,hr=>by simp only [Rep] at hr ⊢;obtain ⟨x,h1,h2⟩:=hr;exact ⟨x,h1,Rep.stepc hX hK a x (by simpa only [AV.ids] using hi) h2⟩
theorem Reps.stepc (hX:∀b c T fz,W.heap[b]?=some (.cells c T fz)->Xs E' h' b->Xs E h b) (hK:∀b c T fz,W.heap[b]?=some (.cells c T fz)->¬Xs E h b->W'.heap[b]?=some (.cells c T fz)):
  ∀ (aZ:List AV) (vs:List Value),(∀i∈AV.idsL aZ,GoesOn E h E' h' i)->Reps W E h aZ vs->Reps W' E' h' aZ vs
 | [],_,_,hr=>by simpa only [Reps] using hr
 |x::xs,vs,hi,hr=>by simp only [Reps] at hr ⊢;obtain ⟨v,r,h1,h2,h3⟩:=hr;simp only [AV.idsL,List.mem_append] at hi;exact ⟨v,r,h1,Rep.stepc hX hK x v (λi hm=>hi i (.inl hm)) h2,Reps.stepc hX hK xs r (λi hm=>hi i (.inr hm)) h3⟩
theorem RepARows.stepc (hX:∀b c T fz,W.heap[b]?=some (.cells c T fz)->Xs E' h' b->Xs E h b) (hK:∀b c T fz,W.heap[b]?=some (.cells c T fz)->¬Xs E h b->W'.heap[b]?=some (.cells c T fz)) (k:Nat):
  ∀ (aZ:List (List AV)) (vs:List Value),(∀i∈AV.idsR aZ,GoesOn E h E' h' i)->RepARows W E h k aZ vs->RepARows W' E' h' k aZ vs
 | [],_,_,_=>by simp only [RepARows]
 |x::xs,vs,hi,hr=>by simp only [RepARows] at hr ⊢;simp only [AV.idsR,List.mem_append] at hi;exact ⟨hr.1,Reps.stepc hX hK x _ (λi hm=>hi i (.inl hm)) hr.2.1,RepARows.stepc hX hK k xs _ (λi hm=>hi i (.inr hm)) hr.2.2⟩
end
theorem Rep.step (hX:∀b,b<W.heap.size->Xs E' h' b->Xs E h b) (hK:∀b,b<W.heap.size->¬Xs E h b->W'.heap[b]?=W.heap[b]?) (a:AV) (v:Value) (hi:∀i∈a.ids,GoesOn E h E' h' i) (hr:Rep W E h a v):Rep W' E' h' a v:=Rep.stepc (hX_of hX) (hK_of hK) a v hi hr
theorem Reps.step (hX:∀b,b<W.heap.size->Xs E' h' b->Xs E h b) (hK:∀b,b<W.heap.size->¬Xs E h b->W'.heap[b]?=W.heap[b]?) (a:List AV) (v:List Value) (hi:∀i∈AV.idsL a,GoesOn E h E' h' i) (hr:Reps W E h a v):Reps W' E' h' a v:=Reps.stepc (hX_of hX) (hK_of hK) a v hi hr
theorem RepARows.step (hX:∀b,b<W.heap.size->Xs E' h' b->Xs E h b) (hK:∀b,b<W.heap.size->¬Xs E h b->W'.heap[b]?=W.heap[b]?) (k:Nat) (a:List (List AV)) (v:List Value) (hi:∀i∈AV.idsR a,GoesOn E h E' h' i) (hr:RepARows W E h k a v):RepARows W' E' h' k a v:=RepARows.stepc (hX_of hX) (hK_of hK) k a v hi hr
end
open Go
section
variable {W : World} {E : Env} {h : AHeap} {X : Nat -> Prop}
theorem Reps.length:∀ {aZ:List AV} {vs:List Value},Reps W E h aZ vs->vs.length=aZ.length
 | [],_,hr=>by simp only [Reps] at hr;subst hr;rfl
 |a::aZ,_,hr=>by simp only [Reps] at hr;obtain ⟨v,r,rfl,_,h3⟩:=hr;simp [Reps.length h3]
theorem RepDs.length:∀ {aZ:List D} {vs:List Value},RepDs W X aZ vs->vs.length=aZ.length
 | [],_,hr=>by simp only [RepDs] at hr;subst hr;rfl
 |a::aZ,_,hr=>by simp only [RepDs] at hr;obtain ⟨v,r,rfl,_,h3⟩:=hr;simp [RepDs.length h3]
theorem Reps.get:∀ {aZ:List AV} {vs:List Value},Reps W E h aZ vs->∀ {i:Nat} {a:AV},aZ[i]?=some a->∃v,vs[i]?=some v/\Rep W E h a v
 | [],_,_,i,a,hi=>by simp at hi
 |b::aZ,_,hr,i,a,hi=>by
  simp only [Reps] at hr;obtain ⟨v,r,rfl,h2,h3⟩:=hr;cases i with
  |zero=>simp at hi;subst hi;exact ⟨v,by simp,h2⟩
  |succ i=>simp at hi;simpa using Reps.get h3 hi
theorem Reps.take:∀ {aZ:List AV} {vs:List Value},Reps W E h aZ vs->∀n,Reps W E h (aZ.take n) (vs.take n)
 | [],_,hr,n=>by simp only [Reps] at hr;subst hr;simp [Reps]
 |b::aZ,_,hr,n=>by
  simp only [Reps] at hr;obtain ⟨v,r,rfl,h2,h3⟩:=hr;cases n with
  |zero=>simp [Reps]
  |succ n=>simp only [List.take_succ_cons,Reps];exact ⟨_,_,rfl,h2,Reps.take h3 n⟩
theorem Reps.drop:∀ {aZ:List AV} {vs:List Value},Reps W E h aZ vs->∀n,Reps W E h (aZ.drop n) (vs.drop n)
 | [],_,hr,n=>by simp only [Reps] at hr;subst hr;simp [Reps]
 |b::aZ,_,hr,n=>by
  simp only [Reps] at hr;obtain ⟨v,r,rfl,h2,h3⟩:=hr;cases n with
  |zero=>simp only [List.drop_zero,Reps];exact ⟨_,_,rfl,h2,h3⟩
  |succ n=>simp only [List.drop_succ_cons];exact Reps.drop h3 n
theorem Reps.append:∀ {aZ bs:List AV} {vs ws:List Value},Reps W E h aZ vs->Reps W E h bs ws->Reps W E h (aZ++bs) (vs++ws)
 | [],bs,_,ws,hr,hb=>by simp only [Reps] at hr;subst hr;simpa using hb
 |b::aZ,bs,_,ws,hr,hb=>by simp only [Reps] at hr;obtain ⟨v,r,rfl,h2,h3⟩:=hr;simp only [List.cons_append,Reps];exact ⟨_,_,rfl,h2,Reps.append h3 hb⟩
theorem Reps.set:∀ {aZ:List AV} {vs:List Value},Reps W E h aZ vs->∀ {i:Nat} {a:AV} {v:Value},Rep W E h a v->Reps W E h (aZ.set i a) (vs.set i v)
 | [],_,hr,i,a,v,_=>by simp only [Reps] at hr;subst hr;simp [Reps]
 |b::aZ,_,hr,i,a,x,hx=>by
  simp only [Reps] at hr;obtain ⟨v,r,rfl,h2,h3⟩:=hr;cases i with
  |zero=>simp only [List.set_cons_zero,Reps];exact ⟨_,_,rfl,hx,h3⟩
  |succ i=>simp only [List.set_cons_succ,Reps];exact ⟨_,_,rfl,h2,Reps.set h3 hx⟩
theorem Reps.map_d:∀ {aZ:List D} {vs:List Value},Reps W E h (aZ.map AV.d) vs↔RepDs W (Xs E h) aZ vs
 | [],_=>by simp [Reps,RepDs]
 |a::aZ,vs=>by simp only [List.map_cons,Reps,RepDs,Rep,Reps.map_d]
theorem zcM:∀ (aZ:List D),AV.idsL (aZ.map AV.d)= []
 | []=>by simp [AV.idsL]
 |a::aZ=>by simp [AV.idsL,AV.ids,zcM aZ]
theorem RepRows.get {k:Nat} :∀ {xs:List (List D)} {vs:List Value},RepRows W X k xs vs->∀ {i:Nat} {r:List D},xs[i]?=some r->r.length=k/\RepDs W X r ((vs.drop (i*k)).take k)
 | [],_,_,i,r,hi=>by simp at hi
 | x::xs,vs,hr,i,r,hi=>by
  simp only [RepRows] at hr;obtain ⟨h1,h2,h3⟩:=hr;cases i with
  |zero=>simp at hi;subst hi;exact ⟨h1,by simpa using h2⟩
  |succ i=>
   simp at hi;have:=RepRows.get h3 hi;rw [List.drop_drop] at this;rwa [show k+i*k=(i+1)*k by rw [Nat.succ_mul];omega] at this
theorem RepARows.get {k:Nat} :∀ {xs:List (List AV)} {vs:List Value},RepARows W E h k xs vs->∀ {i:Nat} {r:List AV},xs[i]?=some r->r.length=k/\Reps W E h r ((vs.drop (i*k)).take k)
 | [],_,_,i,r,hi=>by simp at hi
 | x::xs,vs,hr,i,r,hi=>by
  simp only [RepARows] at hr;obtain ⟨h1,h2,h3⟩:=hr;cases i with
  |zero=>simp at hi;subst hi;exact ⟨h1,by simpa using h2⟩
  |succ i=>
   simp at hi;have:=RepARows.get h3 hi;rw [List.drop_drop] at this;rwa [show k+i*k=(i+1)*k by rw [Nat.succ_mul];omega] at this
theorem RepRows.drop {k:Nat} :∀ {xs:List (List D)} {vs:List Value},RepRows W X k xs vs->∀n,RepRows W X k (xs.drop n) (vs.drop (n*k))
 | [],_,_,n=>by simp [RepRows]
 |x::xs,vs,hr,0=>by simpa using hr
 |x::xs,vs,hr,n+1=>by simp only [RepRows] at hr;have:=RepRows.drop hr.2.2 n;rw [List.drop_drop] at this;simp only [List.drop_succ_cons];rwa [show k+n*k=(n+1)*k by rw [Nat.succ_mul];omega] at this
theorem RepRows.take {k:Nat} :∀ {xs:List (List D)} {vs:List Value},RepRows W X k xs vs->∀n,RepRows W X k (xs.take n) vs
 | [],_,_,n=>by simp [RepRows]
 |x::xs,vs,hr,0=>by simp [RepRows]
 |x::xs,vs,hr,n+1=>by simp only [RepRows,List.take_succ_cons] at hr ⊢;exact ⟨hr.1,hr.2.1,RepRows.take hr.2.2 n⟩
theorem RepRows.length_le {k:Nat} :∀ {xs:List (List D)} {vs:List Value},RepRows W X k xs vs->xs.length*k<=vs.length
 | [],_,_=>by simp
 |x::xs,vs,hr=>by simp only [RepRows] at hr;have h1:=RepDs.length hr.2.1;have h2:=RepRows.length_le hr.2.2;rw [List.length_take] at h1;rw [List.length_drop] at h2;simp only [List.length_cons,Nat.succ_mul];have:=hr.1;omega
theorem RepRows.congr {k:Nat} :∀ {xs:List (List D)} {vs ws:List Value},RepRows W X k xs vs->vs.take (xs.length*k)=ws.take (xs.length*k)->RepRows W X k xs ws
 | [],_,_,_,_=>by simp only [RepRows]
 | x::xs,vs,ws,hr,he=>by
  simp only [RepRows] at hr ⊢;simp only [List.length_cons,Nat.succ_mul] at he
  have h1:vs.take k=ws.take k:=by have:=congrArg (List.take k) he;rw [List.take_take,List.take_take] at this;rwa [Nat.min_eq_left (by omega)] at this
  have h2:(vs.drop k).take (xs.length*k)=(ws.drop k).take (xs.length*k):=by have:=congrArg (List.drop k) he;rw [List.drop_take,List.drop_take] at this;rwa [show xs.length*k+k - k=xs.length*k by omega] at this
  exact ⟨hr.1,by rw [<-h1];exact hr.2.1,RepRows.congr hr.2.2 h2⟩
theorem RepRows.append {k:Nat} :∀ {xs ys:List (List D)} {vs ws:List Value},RepRows W X k xs vs->RepRows W X k ys ws->vs.length=xs.length*k->RepRows W X k (xs++ys) (vs++ws)
 | [],ys,vs,ws,_,hy,hl=>by
  have:vs= []:=by simpa using hl
  subst this;simpa using hy
 | x::xs,ys,vs,ws,hr,hy,hl=>by
  simp only [RepRows,List.cons_append] at hr ⊢;simp only [List.length_cons,Nat.succ_mul] at hl;refine ⟨hr.1,?_,?_⟩
  ·rw [List.take_append_of_le_length (by omega)];exact hr.2.1
  ·rw [List.drop_append_of_le_length (by omega)];exact RepRows.append hr.2.2 hy (by rw [List.length_drop];omega)
end
open Go
structure AS where
 t:List (Nat×(Bool×AV))
 h:AHeap
 g:Option (List (List AV)):=some []
def lk:List (Nat×(Bool×AV))->Nat->Option (Bool×AV)
 | [],_=>none
 |(k,v)::r,n=>if k=n then some v else lk r n
def AS.put (s:AS) (d:Option Nat) (g:Bool) (v:AV):AS:=
 match d with
 |some k=> { s with t:=(k,(g,v))::s.t }
 |none=>s
def zkG (P:Program) (l:Nat) (args:Array Value) (w:World) (R:Ending->World->Prop):Prop:=
 ∃fn tmps assign body,(Instr.yield l args).run P w= .ok (.round l fn tmps assign body) w/\RoundIn Fence.wide 0 P l fn tmps assign body w R
def bare (X:Nat->Prop):Env:= { O:=λ_=>none,C:=λ_=>0,M:=λ_=>False,N:=X }
structure Cx where
 P:Program
 ro:Option Nat
 base:Nat
 nt:Nat
 fl:Nat
 G:Option (List (List AV))->(Nat->Prop)->(Nat->Prop)->(Nat->Prop)->World->Prop
 stab:∀g M N A A' w w',(∀b,b<w.heap.size->¬A b->w'.heap[b]?=w.heap[b]?)->(∀b,A' b->A b\/w.heap.size<=b)->(∀b,A' b->b<w'.heap.size)->w.heap.size<=w'.heap.size->w'.tape=w.tape->w'.os=w.os->w'.output=w.output->G g M N A w->G g M N A' w'
 yl:Nat:=0
 items:List (List AV):= []
 yok:∀xs x X M N A w (vs:Array Value),G (some xs) M N A w->(∀b,M b\/N b\/A b->X b)->Reps w (bare X) [] x vs.toList->(xs++ [x])<+:items->
  zkG P yl vs w (λe w'=>∃b M',e= .returned (.bool b)/\w'.os=w.os/\w'.tape=w.tape/\w'.output=w.output/\w.heap.size<=w'.heap.size/\(∀k,k<w.heap.size->¬M k->w'.heap[k]?=w.heap[k]?)/\
   (∀k,M k->M' k)/\(∀k,M' k->M k\/(w.heap.size<=k/\k<w'.heap.size))/\G (if b=true then some (xs++ [x]) else none) M' N A w')
def Cx.F (cx:Cx):Fence:= { Fence.wide with round:=cx.ro }
structure SatH (E:Env) (h:AHeap) (w:World):Prop where
 heap:∀i o,hget h i=some o->RepObj w E h i o
 inj:∀i j b,(hget h i).isSome->(hget h j).isSome->E.O i=some b->E.O j=some b->i=j
 own:∀b,Own E h b->b<w.heap.size/\¬E.M b/\¬E.N b
 mlt:∀b,E.M b->b<w.heap.size
 nlt:∀b,E.N b->b<w.heap.size
def zaV (ds:List Deferred) (b:Nat):Prop:=∃d∈ds,d.target= .collected b
def Marks (base:Nat) (E:Env) (w:World) (ds:List Deferred):Prop:=
 (∀d∈ds,∃r,d.target= .collected r/\w.heap[r]?=some (.deferred (some []))/\base<=r/\¬E.M r)/\(ds.map (λd=>match d.target with| .collected r=>r|_=>0)).Nodup
def Slots (w:World) (E:Env) (s:AS) (a:Act):Prop:=
 ∀k g v,lk s.t k=some (g,v)->∃x,a.tmps[k]?=some x/\(g=true->Rep w E s.h v x)/\(g=false->x=undef)
theorem Marks.lt {base:Nat} {E:Env} {w:World} {ds:List Deferred} (hm:Marks base E w ds) {b:Nat} (hb:zaV ds b):b<w.heap.size:=by obtain ⟨d,hd,e⟩:=hb;obtain ⟨r,h1,h2,_⟩:=hm.1 d hd;rw [h1] at e;cases e;exact (Array.getElem?_eq_some_iff.1 h2).1
structure Sat (cx:Cx) (E:Env) (s:AS) (a:Act) (w:World):Prop where
 slots:Slots w E s a
 nt:a.tmps.size=cx.nt
 hp:SatH E s.h w
 base:cx.base<=w.heap.size
 marks:Marks cx.base E w a.defers
 ghost:cx.G s.g E.M E.N (λb=>Own E s.h b\/zaV a.defers b) w
structure Evo (fl:Nat) (E:Env) (h:AHeap) (w:World) (E':Env) (h':AHeap) (w':World):Prop where
 os:w'.os=w.os
 tape:w'.tape=w.tape
 output:w'.output=w.output
 size:w.heap.size<=w'.heap.size
 keep:∀b,b<w.heap.size->¬Own E h b->¬E.M b->w'.heap[b]?=w.heap[b]?
 own:∀b,Own E' h' b->Own E h b\/w.heap.size<=b
 m1:∀b,E.M b->E'.M b
 m2:∀b,E'.M b->E.M b\/w.heap.size<=b
 n:E'.N=E.N
 go:∀i,i<fl->(hget h' i).isSome->(hget h i).isSome/\GoesOn E h E' h' i
theorem Evo.refl (fl:Nat) (E:Env) (h:AHeap) (w:World):Evo fl E h w E h w:=⟨rfl,rfl,rfl,Nat.le_refl _,λ_ _ _ _=>rfl,λ_ h=> .inl h,λ_ h=>h,λ_ h=> .inl h,rfl,λi _ h=>⟨h,GoesOn.refl E _ i⟩⟩
theorem GoesOn.trans {E E' E'':Env} {h h' h'':AHeap} {i:Nat} (a:GoesOn E h E' h' i) (b:GoesOn E' h' E'' h'' i):GoesOn E h E'' h'' i:=by
 unfold GoesOn at*;split at a
 ·rename_i cs hc;obtain ⟨e1,cs',hc',hl⟩:=a;rw [hc'] at b;obtain ⟨e2,cs'',hc'',hl'⟩:=b;try simp only [hc]
  exact ⟨e2.trans e1,cs'',hc'',by omega⟩
 ·rename_i k xs hc;obtain ⟨xs',hc',hl,hE⟩:=a;rw [hc'] at b;obtain ⟨xs'',hc'',hl',hE'⟩:=b;try simp only [hc]
  refine ⟨xs'',hc'',by omega,λe=>?_⟩;obtain ⟨f1,f2⟩:=hE (by omega);obtain ⟨f3,f4⟩:=hE' (by omega);exact ⟨f3.trans f1,f4.trans f2⟩
 ·rename_i l p hc;obtain ⟨e1,p',hc'⟩:=a;rw [hc'] at b;obtain ⟨e2,p'',hc''⟩:=b;try simp only [hc]
  exact ⟨e2.trans e1,p'',hc''⟩
 ·rename_i es hc;obtain ⟨e1,es',hc'⟩:=a;rw [hc'] at b;obtain ⟨e2,es'',hc''⟩:=b;try simp only [hc]
  exact ⟨e2.trans e1,es'',hc''⟩
 ·rename_i k xs hc;obtain ⟨xs',hc',hl,hE⟩:=a;rw [hc'] at b;obtain ⟨xs'',hc'',hl',hE'⟩:=b;try simp only [hc]
  refine ⟨xs'',hc'',by omega,λe=>?_⟩;obtain ⟨f1,f2⟩:=hE (by omega);obtain ⟨f3,f4⟩:=hE' (by omega);exact ⟨f3.trans f1,f4.trans f2⟩
 ·rename_i t cs hc;obtain ⟨e1,cs',hc',hl⟩:=a;rw [hc'] at b;obtain ⟨e2,cs'',hc'',hl'⟩:=b;try simp only [hc]
  exact ⟨e2.trans e1,cs'',hc'',by omega⟩
 ·rename_i hc;try simp only [hc]
theorem Evo.trans {fl:Nat} {E E' E'':Env} {h h' h'':AHeap} {w w' w'':World} (a:Evo fl E h w E' h' w') (b:Evo fl E' h' w' E'' h'' w''):Evo fl E h w E'' h'' w'' where
 os:=b.os.trans a.os
 tape:=b.tape.trans a.tape
 output:=b.output.trans a.output
 size:=Nat.le_trans a.size b.size
 keep:=λk hk ho hm=>(b.keep k (Nat.lt_of_lt_of_le hk a.size) (λh=>(a.own k h).elim ho (λh=>by omega)) (λh=>(a.m2 k h).elim hm (λh=>by omega))).trans (a.keep k hk ho hm)
 own:=λk h=>(b.own k h).elim (λh=>a.own k h) (λh=> .inr (Nat.le_trans a.size h))
 m1:=λk h=>b.m1 k (a.m1 k h)
 m2:=λk h=>(b.m2 k h).elim (λh=>a.m2 k h) (λh=> .inr (Nat.le_trans a.size h))
 n:=b.n.trans a.n
 go:=λi hi h=>by obtain ⟨h1,g1⟩:=b.go i hi h;obtain ⟨h2,g2⟩:=a.go i hi h1;exact ⟨h2,g2.trans g1⟩
def Reach (cx:Cx) (E:Env) (h:AHeap) (w:World) (K:AS->Prop) (a':Act) (w':World):Prop:=
 ∃E' s',K s'/\Sat cx E' s' a' w'/\Evo cx.fl E h w E' s'.h w'
def AW (cx:Cx) (c:Code) (Q:Exit->AS->Prop) (s:AS):Prop:=
 ∀E a w,Sat cx E s a w->c.wpIn cx.F 0 cx.P (λe a' w'=>Reach cx E s.h w (Q e) a' w') a w
def thenK (K:AS->Prop) (Q:Exit->AS->Prop):Exit->AS->Prop
 | .normal,s=>K s
 |e,s=>Q e s
def zo1 (id:Nat) (Q:Exit->AS->Prop):Exit->AS->Prop
 | .exit id',s=>if id'=id then Q .normal s else Q (.exit id') s
 |e,s=>Q e s
section
variable {cx : Cx} {Q : Exit -> AS -> Prop} {s : AS}
theorem Reach.trans {E E':Env} {h h':AHeap} {w w':World} {K:AS->Prop} {a'':Act} {w'':World} (e:Evo cx.fl E h w E' h' w') (r:Reach cx E' h' w' K a'' w''):Reach cx E h w K a'' w'':=by obtain ⟨E2,s2,hk,hs,he⟩:=r;exact ⟨E2,s2,hk,hs,e.trans he⟩
theorem Reach.mono {E:Env} {h:AHeap} {w:World} {K K':AS->Prop} {a'':Act} {w'':World} (r:Reach cx E h w K a'' w'') (hk:∀s,K s->K' s):Reach cx E h w K' a'' w'':=by obtain ⟨E2,s2,h2,hs,he⟩:=r;exact ⟨E2,s2,hk _ h2,hs,he⟩
theorem AW.mono {c:Code} {Q':Exit->AS->Prop} (h:AW cx c Q s) (hq:∀e s,Q e s->Q' e s):AW cx c Q' s:=
 λE a w hs=>wpIn_mono (h E a w hs) (λe _ _ hr=>hr.mono (hq e))
theorem zaM {x y:Code} (h:∀K,(∀s',AW cx y Q s'->K s')->AW cx x (thenK K Q) s):AW cx (.seq x y) Q s:=by
 intro E a w hs;refine wpIn_seq (wpIn_mono (h (AW cx y Q) (λ_ h=>h) E a w hs) ?_);intro e a1 w1 hr;cases e with
 |normal=>
  obtain ⟨E1,s1,h1,hs1,he1⟩:=hr;exact wpIn_mono (h1 E1 a1 w1 hs1) (λe _ _ hr=>hr.trans he1)
 |_=>exact hr
theorem za7 {id:Nat} {c:Code} (h:AW cx c (zo1 id Q) s):AW cx (.block id c) Q s:=by
 intro E a w hs;refine wpIn_block (wpIn_mono (h E a w hs) ?_);intro e a1 w1 hr;cases e with
 |exit id'=>
  simp only [Exit.inBlock];split
  ·rename_i hid;subst hid;exact hr.mono (λs h=>by simpa only [zo1,if_true] using h)
  ·rename_i hid;exact hr.mono (λs h=>by simpa only [zo1,hid,if_false] using h)
 |_=>exact hr
theorem zgg {E:Env} {a:Act} {w:World} {K:AS->Prop} (hs:Sat cx E s a w) (h:K s):Reach cx E s.h w K a w:=⟨E,s,h,hs,Evo.refl _ _ _ _⟩
theorem zeL (h:Q .normal s):AW cx .skip Q s:=λ_ _ _ hs=>wpIn_skip (zgg hs h)
theorem zkH {l:Nat} (h:Q .normal s):AW cx (.label l) Q s:=λ_ _ _ hs=>wpIn_label (zgg hs h)
theorem zeM {id:Nat} (h:Q (.exit id) s):AW cx (.exit id) Q s:=λ_ _ _ hs=>wpIn_exit (zgg hs h)
theorem zga (h:Q .ret s):AW cx .ret Q s:=λ_ _ _ hs=>wpIn_ret (zgg hs h)
end
mutual
def AV.le:AV->AV->Prop
 |a,b=>match b with
  | .any=>True
  | .d y=>(match a with| .d x=>x=y| .nils _=>(match y with| .sl _ ys=>ys= []|_=>False)|_=>False)
  | .agg ys=>(match a with| .agg xs=>AV.leL xs ys|_=>False)
  | .tup ys=>(match a with| .tup xs=>AV.leL xs ys|_=>False)
  | .nils _=>(match a with| .nils _=>True|_=>False)
  | .dp ys=>(match a with| .dp xs=>AV.leL xs ys|_=>False)
  | .vp j p=>(match a with| .vp i o=>i=j/\o=p|_=>False)
  | .ap i' n' k' r' off'=>(match a with| .ap i n k r off=>i=i'/\n=n'/\k=k'/\r=r'/\off=off'|_=>False)
  | .osl i' k' n' off' len'=>(match a with| .osl i k n off len=>i=i'/\k=k'/\n=n'/\off=off'/\len=len'|_=>False)
  | .vsl i' k' off' len'=>(match a with| .vsl i k off len=>i=i'/\k=k'/\off=off'/\len=len'|_=>False)
  | .asl k' ys=>(match a with| .asl k xs=>k=k'/\xs=ys|_=>False)
  | .fn f' xs' ys'=>(match a with| .fn f xs ys=>f=f'/\AV.leL xs xs'/\AV.leL ys ys'|_=>False)
  | .nilfn=>(match a with| .nilfn=>True|_=>False)
  | .map j=>(match a with| .map i=>i=j|_=>False)
  | .nilmap=>(match a with| .nilmap=>True|_=>False)
  | .raw v=>(match a with| .raw u=>u=v|_=>False)
  | .tp j p=>(match a with| .tp i o=>i=j/\o=p|_=>False)
  | .bsl j p=>(match a with| .bsl i o=>i=j/\o=p|_=>False)
  | .itr j=>(match a with| .itr i=>i=j|_=>False)
  | .iface t' y=>(match a with| .iface t x=>t=t'/\x.le y|_=>False)
def AV.leL:List AV->List AV->Prop
 | [],ys=>ys= []
 |x::xs,ys=>(match ys with|y::ys=>x.le y/\AV.leL xs ys| []=>False)
end
def AObj.le:AObj->AObj->Prop
 | .var cs,b=>(match b with| .var cs'=>AV.leL cs cs'|_=>False)
 | .tvar t cs,b=>(match b with| .tvar t' cs'=>t=t'/\AV.leL cs cs'|_=>False)
 |a,b=>a=b
mutual
theorem AV.le_refl:∀a:AV,a.le a
 | .d _=>by simp only [AV.le]
 | .agg cs=>by simp only [AV.le];exact AV.leL_refl cs
 | .tup cs=>by simp only [AV.le];exact AV.leL_refl cs
 | .nils _=>by simp only [AV.le]
 | .dp cs=>by simp only [AV.le];exact AV.leL_refl cs
 | .vp _ _=>by simp only [AV.le,and_self]
 | .ap _ _ _ _ _=>by simp only [AV.le,and_self]
 | .osl _ _ _ _ _=>by simp only [AV.le,and_self]
 | .vsl _ _ _ _=>by simp only [AV.le,and_self]
 | .asl _ _=>by simp only [AV.le,and_self]
 | .fn _ xs ys=>by simp only [AV.le,true_and];exact ⟨AV.leL_refl xs,AV.leL_refl ys⟩
 | .nilfn=>by simp only [AV.le]
 | .any=>by simp only [AV.le]
 | .map _=>by simp only [AV.le]
 | .nilmap=>by simp only [AV.le]
 | .raw _=>by simp only [AV.le]
 | .tp _ _=>by simp only [AV.le,and_self]
 | .bsl _ _=>by simp only [AV.le,and_self]
 | .itr _=>by simp only [AV.le]
 | .iface _ v=>by simp only [AV.le,true_and];exact AV.le_refl v
theorem AV.leL_refl:∀aZ:List AV,AV.leL aZ aZ
 | []=>by simp only [AV.leL]
 |a::aZ=>by simp only [AV.leL];exact ⟨AV.le_refl a,AV.leL_refl aZ⟩
end
end Go.Aw
