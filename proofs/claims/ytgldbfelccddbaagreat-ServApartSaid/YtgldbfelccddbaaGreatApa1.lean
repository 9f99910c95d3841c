/- Lemmas. -/
import Derived.Test.YtgldbfelccddbaaGreatApa0
import Derived.Test.YtgldbfelccddbaaGreatZ
import Derived.Test.YtgldbfelccddbaaGreatY
import Derived.RangeFuncRecord
import Derived.WalkKit
import GoSem.Dispatch
import Derived.Laws.StructEq
import Derived.Laws.Cells
set_option linter.all false
set_option maxRecDepth 100000
set_option maxHeartbeats 2000000
namespace Go.Aw
open Go
inductive D where
 |int (k:IntKind) (n:Int)
 |bool (b:Bool)
 |str (l:List UInt8)
 |sl (k:Nat) (xs:List (List D))
 |nilp
 |nilif
 deriving Inhabited
def D.scal:D->Bool
 | .sl _ _=>false
 |_=>true
def valD:D->Value
 | .int k n=> .int k n
 | .bool b=> .bool b
 | .str l=> .string ⟨l.toArray⟩
 | .sl _ _=> .nilFunc
 | .nilp=> .pointer none
 | .nilif=> .nilIface
def esOk (es:List (D×D)) (mes:Array MapEntry):Prop:=
 (es.all λp=>p.1.scal&&p.2.scal)=true/\mes.toList.map (λe=>(e.key,e.val))=es.map λp=>(valD p.1,valD p.2)
inductive AV where
 |d (x:D)
 |agg (cs:List AV)
 |tup (vs:List AV)
 |nils (k:Nat)
 |dp (cs:List AV)
 |vp (i off:Nat)
 |ap (i n k r off:Nat)
 |osl (i k n off len:Nat)
 |vsl (i k off len:Nat)
 |asl (k:Nat) (xs:List (List AV))
 |fn (f:Fn) (first cap:List AV)
 |nilfn
 |any
 |map (i:Nat)
 |nilmap
 |raw (v:Value)
 |tp (i off:Nat)
 |bsl (i n:Nat)
 |itr (i:Nat)
 |iface (t:Nat) (v:AV)
 |amap (ks:List D) (vs:List AV)
 deriving Inhabited
inductive AObj where
 |var (cs:List AV)
 |arr (k:Nat) (xs:List (List D))
 |strit (l:List UInt8) (pos:Nat)
 |omap (es:List (D×D))
 |tvar (t:TypeId) (cs:List AV)
 |buf (t:TypeId) (xs:List UInt8)
 deriving Inhabited
abbrev AHeap:=List (Nat×AObj)
def hget:AHeap->Nat->Option AObj
 | [],_=>none
 |(k,o)::r,n=>if k=n then some o else hget r n
def hset:AHeap->Nat->AObj->AHeap
 | [],_,_=> []
 |(k,o)::r,n,J=>if k=n then (k,J)::r else (k,o)::hset r n J
def hdel:AHeap->Nat->AHeap
 | [],_=> []
 |(k,o)::r,n=>if k=n then hdel r n else (k,o)::hdel r n
def top (fl:Nat):AHeap->Nat
 | []=>fl
 |(k,_)::r=>if top fl r<=k then k+1 else top fl r
def fresh (fl:Nat) (h:AHeap):Nat:=if (hget h fl).isSome=true then top fl h else fl
structure Env where
 O:Nat->Option Nat
 C:Nat->Nat
 M:Nat->Prop
 N:Nat->Prop
def Own (E:Env) (h:AHeap) (b:Nat):Prop:=∃i,(hget h i).isSome/\E.O i=some b
def Xs (E:Env) (h:AHeap) (b:Nat):Prop:=Own E h b\/E.M b\/E.N b
mutual
def RepD (W:World) (X:Nat->Prop):D->Value->Prop
 | .int k n,v=>v= .int k n
 | .bool b,v=>v= .bool b
 | .str l,v=>v= .string ⟨l.toArray⟩
 | .sl k xs,v=>(xs= []/\∃a cap,v= .slice a 0 cap)\/
   (∃a cap c T fz,v= .slice (some a) xs.length cap/\a.spot=none/\xs.length<=cap/\¬X a.block/\W.heap[a.block]?=some (.cells c T fz)/\RepRows W X k xs (c.toList.drop a.off))
 | .nilp,v=>v= .pointer none
 | .nilif,v=>v= .nilIface
def RepDs (W:World) (X:Nat->Prop):List D->List Value->Prop
 | [],vs=>vs= []
 |x::xs,vs=>∃v r,vs=v::r/\RepD W X x v/\RepDs W X xs r
def RepRows (W:World) (X:Nat->Prop) (k:Nat):List (List D)->List Value->Prop
 | [],_=>True
 |r::rs,vs=>r.length=k/\RepDs W X r (vs.take k)/\RepRows W X k rs (vs.drop k)
end
mutual
def Rep (W:World) (E:Env) (h:AHeap):AV->Value->Prop
 | .d x,v=>RepD W (Xs E h) x v
 | .agg cs,v=>∃vs,v= .agg vs/\Reps W E h cs vs.toList
 | .tup cs,v=>∃vs,v= .tuple vs/\Reps W E h cs vs.toList
 | .nils _,v=>v= .slice none 0 0
 | .dp cs,v=>∃a c T fz,v= .pointer (some a)/\a.spot=none/\¬Xs E h a.block/\W.heap[a.block]?=some (.cells c T fz)/\Reps W E h cs ((c.toList.drop a.off).take cs.length)
 | .vp i off,v=>∃b cs,hget h i=some (.var cs)/\E.O i=some b/\v= .pointer (some ⟨b,off,none⟩)
 | .ap i n k r off,v=>(∃p,v= .pointer p)/\∃xs,hget h i=some (.arr k xs)/\n<=xs.length/\(xs.length=n->∃b,E.O i=some b/\v= .pointer (some ⟨b,r*k+off,none⟩))
 | .osl i k n off len,v=>(∃p l c,v= .slice p l c)/\∃xs,hget h i=some (.arr k xs)/\n<=xs.length/\off+len<=n/\(xs.length=n->
   ((E.O i=none/\n=0)/\v= .slice none 0 0)\/(∃b,E.O i=some b/\v= .slice (some ⟨b,off*k,none⟩) len (E.C i - off))\/(off≠0/\len=0/\∃a cap,v= .slice a 0 cap))
 | .vsl i k off len,v=>∃b cs,hget h i=some (.var cs)/\E.O i=some b/\off+len*k<=cs.length/\∃cap,len<=cap/\v= .slice (some ⟨b,off,none⟩) len cap
 | .asl k xs,v=>∃a cap c T fz,v= .slice (some a) xs.length cap/\a.spot=none/\xs.length<=cap/\¬Xs E h a.block/\W.heap[a.block]?=some (.cells c T fz)/\RepARows W E h k xs (c.toList.drop a.off)
 | .fn f fs cs,v=>∃a b,v= .func f a b/\Reps W E h fs a.toList/\Reps W E h cs b.toList
 | .nilfn,v=>v= .nilFunc
 | .any,_=>True
 | .map i,v=>∃b es,hget h i=some (.omap es)/\E.O i=some b/\v= .map (some b)
 | .nilmap,v=>v= .map none
 | .raw u,v=>v=u
 | .tp i off,v=>∃b t cs,hget h i=some (.tvar t cs)/\E.O i=some b/\v= .pointer (some ⟨b,off,none⟩)
 | .bsl i n,v=>(∃p l c,v= .slice p l c)/\∃t xs,hget h i=some (.buf t xs)/\n<=xs.length/\(xs.length=n->((E.O i=none/\n=0)/\v= .slice none 0 0)\/(∃b,E.O i=some b/\v= .slice (some ⟨b,0,none⟩) n (E.C i)))
 | .itr i,v=>∃b l p,hget h i=some (.strit l p)/\E.O i=some b/\v= .pointer (some ⟨b,0,none⟩)
 | .iface t a,v=>∃x,v= .iface t x/\Rep W E h a x
 | .amap ks vs,v=>∃b mes clock,v= .map (some b)/\¬Xs E h b/\W.heap[b]?=some (.map mes clock)/\mes.toList.map (·.key)=ks.map valD/\Reps W E h vs (mes.toList.map (·.val))
def Reps (W:World) (E:Env) (h:AHeap):List AV->List Value->Prop
 | [],vs=>vs= []
 |x::xs,vs=>∃v r,vs=v::r/\Rep W E h x v/\Reps W E h xs r
def RepARows (W:World) (E:Env) (h:AHeap) (k:Nat):List (List AV)->List Value->Prop
 | [],_=>True
 |r::rs,vs=>r.length=k/\Reps W E h r (vs.take k)/\RepARows W E h k rs (vs.drop k)
end
def stays:Obj->Bool
 | .cells .. | .map .. =>true
 |_=>false
def zbz (fz:Nat×Nat) (n:Nat):Prop:=∀o,o<n->¬(fz.1<=o/\o<fz.2)
def zhJ:Nat:=9223372036854775808
def RepObj (W:World) (E:Env) (h:AHeap) (i:Nat):AObj->Prop
 | .var cs=>∃b c T fz,E.O i=some b/\W.heap[b]?=some (.cells c T fz)/\Reps W E h cs c.toList/\zbz fz c.size
 | .arr k xs=>(E.O i=none/\(xs= []\/xs.length=zhJ))\/(∃b c T fz,E.O i=some b/\W.heap[b]?=some (.cells c T fz)/\c.size=E.C i*k/\xs.length<=E.C i/\RepRows W (Xs E h) k xs c.toList/\zbz fz c.size)
 | .strit l p=>∃b,E.O i=some b/\W.heap[b]?=some (.stringIter ⟨l.toArray⟩ p)
 | .omap es=>∃b mes clock,E.O i=some b/\W.heap[b]?=some (.map mes clock)/\esOk es mes
 | .tvar t cs=>∃b c T fz,E.O i=some b/\W.heap[b]?=some (.cells c T fz)/\Reps W E h cs c.toList/\(zbz fz c.size/\T=t)
 | .buf t xs=>(E.O i=none/\(xs= []\/xs.length=zhJ))\/(∃b c T fz,E.O i=some b/\W.heap[b]?=some (.cells c T fz)/\c.size=E.C i*1/\xs.length<=E.C i/\c.toList.take xs.length=xs.map (λx=>Value.int .u8 x.toNat)/\(fz=(0,0)/\T=t/\E.C i<=9223372036854775807))
open Go
def XIn (W:World) (X' X:Nat->Prop):Prop:=∀b o,W.heap[b]?=some o->stays o=true->X' b->X b
def KIn (W W':World) (X:Nat->Prop):Prop:=∀b o,W.heap[b]?=some o->stays o=true->¬X b->W'.heap[b]?=some o
section
variable {W W' : World} {X X' : Nat -> Prop}
mutual
def RepD.stepc (hX:XIn W X' X) (hK:KIn W W' X):
  ∀ (x:D) (v:Value),RepD W X x v->RepD W' X' x v
 | .int _ _,_,h=>nK
 | .bool _,_,h=>nK
 | .str _,_,h=>nK
 | .nilp,_,h=>nK
 | .nilif,_,h=>nK
 | .sl k xs,v,h=>by
  simp only [RepD] at h |-;rcases h with h|⟨a,cap,c,T,fz,h1,h2,h3,J,h5,h6⟩
  .exact .inl h
  .exact .inr ⟨a,cap,c,T,fz,h1,h2,h3,λhx=>J (hX _ _ h5 rfl hx),hK _ _ h5 rfl J,RepRows.stepc hX hK k xs _ h6⟩
def RepDs.stepc (hX:XIn W X' X) (hK:KIn W W' X):
  ∀ (xs:List D) (vs:List Value),RepDs W X xs vs->RepDs W' X' xs vs
 | [],_,h=>by simpa only [RepDs] using h
 |x::xs,_,h=>by simp only [RepDs] at h |-;obtain ⟨v,r,h1,h2,J⟩:=h;exact ⟨v,r,h1,RepD.stepc hX hK x v h2,RepDs.stepc hX hK xs r J⟩
def RepRows.stepc (hX:XIn W X' X) (hK:KIn W W' X) (k:Nat):
  ∀ (xs:List (List D)) (vs:List Value),RepRows W X k xs vs->RepRows W' X' k xs vs
 | [],_,_=>xc
 |r::rs,vs,h=>by simp only [RepRows] at h |-;exact ⟨h.1,RepDs.stepc hX hK r _ h.2.1,RepRows.stepc hX hK k rs _ h.2.2⟩
end
def hK_of (hK:∀b,b<W.heap.size->¬X b->W'.heap[b]?=W.heap[b]?):KIn W W' X:=λb _ h _ J=>(hK b (aI.1 h).1 J).trans h
def hX_of {Y Y'} (hX:∀b,b<W.heap.size->Y' b->Y b):XIn W Y' Y:=λb _ h _ J=>hX b (aI.1 h).1 J
def RepD.step (hX:∀b,b<W.heap.size->X' b->X b) (hK:∀b,b<W.heap.size->¬X b->W'.heap[b]?=W.heap[b]?) x v (h:RepD W X x v):RepD W' X' x v:=RepD.stepc (hX_of hX) (hK_of hK) x v h
def RepDs.step (hX:∀b,b<W.heap.size->X' b->X b) (hK:∀b,b<W.heap.size->¬X b->W'.heap[b]?=W.heap[b]?) x v (h:RepDs W X x v):RepDs W' X' x v:=RepDs.stepc (hX_of hX) (hK_of hK) x v h
def RepRows.step (hX:∀b,b<W.heap.size->X' b->X b) (hK:∀b,b<W.heap.size->¬X b->W'.heap[b]?=W.heap[b]?) k x v (h:RepRows W X k x v):RepRows W' X' k x v:=RepRows.stepc (hX_of hX) (hK_of hK) k x v h
end
mutual
def AV.ids:AV->List Nat
 | .d _| .nils _| .nilfn| .any| .nilmap| .raw _=> []
 | .agg cs| .tup cs| .dp cs| .amap _ cs=>AV.idsL cs
 | .vp i _| .tp i _| .bsl i _| .ap i _ _ _ _| .osl i _ _ _ _| .vsl i _ _ _| .map i| .itr i=> [i]
 | .asl _ xs=>AV.idsR xs
 | .fn _ fs cs=>AV.idsL fs++AV.idsL cs
 | .iface _ a=>a.ids
def AV.idsL:List AV->List Nat
 | []=> []
 |x::xs=>x.ids++AV.idsL xs
def AV.idsR:List (List AV)->List Nat
 | []=> []
 |x::xs=>AV.idsL x++AV.idsR xs
end
def AObj.ids:AObj->List Nat
 | .var cs=>AV.idsL cs
 | .tvar _ cs=>AV.idsL cs
 | .arr _ _| .strit _ _| .omap _| .buf _ _=> []
def GoesOn (E:Env) (h:AHeap) (E':Env) (h':AHeap) (i:Nat):Prop:=
 match hget h i with
 |some (.var cs)=>E'.O i=E.O i/\∃cs',hget h' i=some (.var cs')/\cs'.length=cs.length
 |some (.arr k xs)=>∃xs',hget h' i=some (.arr k xs')/\xs.length<=xs'.length/\(xs'.length=xs.length->E'.O i=E.O i/\E'.C i=E.C i)
 |some (.strit l _)=>E'.O i=E.O i/\∃p',hget h' i=some (.strit l p')
 |some (.omap _)=>E'.O i=E.O i/\∃es',hget h' i=some (.omap es')
 |some (.buf t xs)=>∃xs',hget h' i=some (.buf t xs')/\xs.length<=xs'.length/\(xs'.length=xs.length->E'.O i=E.O i/\E'.C i=E.C i)
 |some (.tvar t cs)=>E'.O i=E.O i/\∃cs',hget h' i=some (.tvar t cs')/\cs'.length=cs.length
 |none=>True
def GoesOn.refl E h i:GoesOn E h E h i:=by
 unfold GoesOn
 grind
section
variable {W W' : World} {E E' : Env} {h h' : AHeap}
mutual
def Rep.stepc (hX:XIn W (Xs E' h') (Xs E h)) (hK:KIn W W' (Xs E h)):
  ∀ (a:AV) (v:Value),(∀i∈a.ids,GoesOn E h E' h' i)->Rep W E h a v->Rep W' E' h' a v
 | .d x,v,_,J=>by simp only [Rep] at J |-;exact RepD.stepc hX hK x v J
 | .agg cs,v,hi,J=>by refine' DV;obtain ⟨vs,h1,h2⟩:=J;exact ⟨vs,h1,Reps.stepc hX hK cs _ jP h2⟩
 | .tup cs,v,hi,J=>by refine' DV;obtain ⟨vs,h1,h2⟩:=J;exact ⟨vs,h1,Reps.stepc hX hK cs _ jP h2⟩
 | .nils _,_,_,J=>qK
 | .nilfn,_,_,J=>qK
 | .nilmap,_,_,J=>qK
 | .raw _,_,_,J=>qK
 | .any,_,_,_=>by simp only [Rep]
 | .dp cs,v,hi,J=>by refine' DV;obtain ⟨a,c,T,fz,h1,h2,h3,h4,h5⟩:=J;exact ⟨a,c,T,fz,h1,h2,λhx=>h3 (hX _ _ h4 rfl hx),hK _ _ h4 rfl h3,Reps.stepc hX hK cs _ jP h5⟩
 | .vp i off,v,hi,J=>by refine' DV;obtain ⟨b,cs,h1,h2,h3⟩:=J;refine' Eg;obtain ⟨cs',hc,_⟩:=hg.2;exact ⟨b,cs',hc,hg.1.trans h2,h3⟩
 | .tp i off,v,hi,J=>by refine' DV;obtain ⟨b,t,cs,h1,h2,h3⟩:=J;refine' Eg;obtain ⟨cs',hc,_⟩:=hg.2;exact ⟨b,t,cs',hc,hg.1.trans h2,h3⟩
 | .bsl i n,v,hi,J=>by refine' DV;obtain ⟨h0,t,xs,h1,h2,h3⟩:=J;refine' Eg;obtain ⟨xs',hx,hl,he⟩:=hg;refine ⟨h0,t,xs',hx,fT,λhn=>?_⟩;obtain ⟨e1,e2⟩:=he fT;rw [e1,e2];exact h3 fT
 | .ap i n k r off,v,hi,J=>by refine' DV;obtain ⟨h0,xs,h1,h2,h3⟩:=J;refine' Eg;obtain ⟨xs',hx,hl,he⟩:=hg;refine ⟨h0,xs',hx,fT,λhn=>?_⟩;obtain ⟨e1,e2⟩:=he fT;obtain ⟨b,hb,hv⟩:=h3 fT;exact ⟨b,e1.trans hb,hv⟩
 | .osl i k n off len,v,hi,J=>by refine' DV;obtain ⟨h0,xs,h1,h2,h4,h3⟩:=J;refine' Eg;obtain ⟨xs',hx,hl,he⟩:=hg;refine ⟨h0,xs',hx,fT,h4,λhn=>?_⟩;obtain ⟨e1,e2⟩:=he fT;rw [e1,e2];exact h3 fT
 | .vsl i k off len,v,hi,J=>by refine' DV;obtain ⟨b,cs,h1,h2,h4,h3⟩:=J;refine' Eg;obtain ⟨cs',hc,hl⟩:=hg.2;exact ⟨b,cs',hc,hg.1.trans h2,fT,h3⟩
 | .asl k xs,v,hi,J=>by refine' DV;obtain ⟨a,cap,c,T,fz,h1,h2,h3,h4,h5,h6⟩:=J;exact ⟨a,cap,c,T,fz,h1,h2,h3,λhx=>h4 (hX _ _ h5 rfl hx),hK _ _ h5 rfl h4,RepARows.stepc hX hK k xs _ jP h6⟩
 | .fn f fs cs,v,hi,J=>by refine' DV;obtain ⟨a,b,h1,h2,h3⟩:=J;simp only [AV.ids,aS] at hi;exact ⟨a,b,h1,Reps.stepc hX hK fs _ (λi hm=>hi i (.inl hm)) h2,Reps.stepc hX hK cs _ (λi hm=>hi i (.inr hm)) h3⟩
 | .map i,v,hi,J=>by refine' DV;obtain ⟨b,es,h1,h2,h3⟩:=J;refine' Eg;obtain ⟨es',he⟩:=hg.2;exact ⟨b,es',he,hg.1.trans h2,h3⟩
 | .itr i,v,hi,J=>by refine' DV;obtain ⟨b,l,p,h1,h2,h3⟩:=J;refine' Eg;obtain ⟨p',he⟩:=hg.2;exact ⟨b,l,p',he,hg.1.trans h2,h3⟩
 | .iface t a,v,hi,J=>by refine' DV;obtain ⟨x,h1,h2⟩:=J;exact ⟨x,h1,Rep.stepc hX hK a x jP h2⟩
 | .amap ks vs,v,hi,J=>by refine' DV;obtain ⟨b,mes,clock,h1,h2,h3,h4,h5⟩:=J;exact ⟨b,mes,clock,h1,λhx=>h2 (hX _ _ h3 rfl hx),hK _ _ h3 rfl h2,h4,Reps.stepc hX hK vs _ jP h5⟩
def Reps.stepc (hX:XIn W (Xs E' h') (Xs E h)) (hK:KIn W W' (Xs E h)):
  ∀ (aZ:List AV) (vs:List Value),(∀i∈AV.idsL aZ,GoesOn E h E' h' i)->Reps W E h aZ vs->Reps W' E' h' aZ vs
 | [],_,_,J=>by simpa only [Reps] using J
 |x::xs,vs,hi,J=>by simp only [Reps] at J |-;obtain ⟨v,r,h1,h2,h3⟩:=J;simp only [AV.idsL,aS] at hi;exact ⟨v,r,h1,Rep.stepc hX hK x v (λi hm=>hi i (.inl hm)) h2,Reps.stepc hX hK xs r (λi hm=>hi i (.inr hm)) h3⟩
def RepARows.stepc (hX:XIn W (Xs E' h') (Xs E h)) (hK:KIn W W' (Xs E h)) (k:Nat):
  ∀ (aZ:List (List AV)) (vs:List Value),(∀i∈AV.idsR aZ,GoesOn E h E' h' i)->RepARows W E h k aZ vs->RepARows W' E' h' k aZ vs
 | [],_,_,_=>by simp only [RepARows]
 |x::xs,vs,hi,J=>by simp only [RepARows] at J |-;simp only [AV.idsR,aS] at hi;exact ⟨J.1,Reps.stepc hX hK x _ (λi hm=>hi i (.inl hm)) J.2.1,RepARows.stepc hX hK k xs _ (λi hm=>hi i (.inr hm)) J.2.2⟩
end
def Rep.step (hX:∀b,b<W.heap.size->Xs E' h' b->Xs E h b) (hK:∀b,b<W.heap.size->¬Xs E h b->W'.heap[b]?=W.heap[b]?) a v (hi:∀i∈a.ids,GoesOn E h E' h' i) (J:Rep W E h a v):Rep W' E' h' a v:=Rep.stepc (hX_of hX) (hK_of hK) a v hi J
def Reps.step (hX:∀b,b<W.heap.size->Xs E' h' b->Xs E h b) (hK:∀b,b<W.heap.size->¬Xs E h b->W'.heap[b]?=W.heap[b]?) a v (hi:∀i∈AV.idsL a,GoesOn E h E' h' i) (J:Reps W E h a v):Reps W' E' h' a v:=Reps.stepc (hX_of hX) (hK_of hK) a v hi J
def RepARows.step (hX:∀b,b<W.heap.size->Xs E' h' b->Xs E h b) (hK:∀b,b<W.heap.size->¬Xs E h b->W'.heap[b]?=W.heap[b]?) k a v (hi:∀i∈AV.idsR a,GoesOn E h E' h' i) (J:RepARows W E h k a v):RepARows W' E' h' k a v:=RepARows.stepc (hX_of hX) (hK_of hK) k a v hi J
end
open Go
section
variable {W : World} {E : Env} {h : AHeap} {X : Nat -> Prop}
def Reps.length:∀ {aZ:List AV} {vs:List Value},Reps W E h aZ vs->vs.length=aZ.length
 | [],_,J=>by simp only [Reps] at J;grind
 |a::aZ,_,J=>by refine' Ip;obtain ⟨v,r,rfl,_,h3⟩:=J;simp [Reps.length h3]
def RepDs.length:∀ {aZ:List D} {vs:List Value},RepDs W X aZ vs->vs.length=aZ.length
 | [],_,J=>by simp only [RepDs] at J;grind
 |a::aZ,_,J=>by simp only [RepDs] at J;obtain ⟨v,r,rfl,_,h3⟩:=J;simp [RepDs.length h3]
def Reps.get:∀ {J:List AV} {vs:List Value},Reps W E h J vs->∀ {i:Nat} {a:AV},J[i]?=some a->∃v,vs[i]?=some v/\Rep W E h a v
 | [],_,_,i,a,hi=>fU
 |b::J,_,hr,i,a,hi=>by
  simp only [Reps] at hr;obtain ⟨v,r,rfl,h2,h3⟩:=hr;cases i with
  |zero=>grind
  |succ i=>simp at hi;simpa using Reps.get h3 hi
def Reps.take:∀ {aZ:List AV} {vs:List Value},Reps W E h aZ vs->∀n,Reps W E h (aZ.take n) (vs.take n)
 | [],_,J,n=>ux
 |b::aZ,_,J,n=>by
  refine' Ip;refine' FW;cases n with
  |zero=>simp [Reps]
  |succ n=>simp only [dI,Reps];exact ⟨_,_,rfl,h2,Reps.take h3 n⟩
def Reps.drop:∀ {aZ:List AV} {vs:List Value},Reps W E h aZ vs->∀n,Reps W E h (aZ.drop n) (vs.drop n)
 | [],_,J,n=>ux
 |b::aZ,_,J,n=>by
  refine' Ip;refine' FW;cases n with
  |zero=>simp only [cP,Reps];grind
  |succ n=>simp only [dg];exact Reps.drop h3 n
def Reps.append:∀ {aZ bs:List AV} {vs ws:List Value},Reps W E h aZ vs->Reps W E h bs ws->Reps W E h (aZ++bs) (vs++ws)
 | [],bs,_,ws,J,hb=>by simp only [Reps] at J;grind
 |b::aZ,bs,_,ws,J,hb=>by refine' Ip;refine' FW;simp only [bf,Reps];exact ⟨_,_,rfl,h2,Reps.append h3 hb⟩
def Reps.set:∀ {aZ:List AV} {vs:List Value},Reps W E h aZ vs->∀ {i:Nat} {a:AV} {v:Value},Rep W E h a v->Reps W E h (aZ.set i a) (vs.set i v)
 | [],_,J,i,a,v,_=>ux
 |b::aZ,_,J,i,a,x,hx=>by
  refine' Ip;refine' FW;cases i with
  |zero=>simp only [dh,Reps];grind
  |succ i=>simp only [cI,Reps];exact ⟨_,_,rfl,h2,Reps.set h3 hx⟩
def Reps.map_d:∀ {J:List D} {vs:List Value},Reps W E h (J.map AV.d) vs↔RepDs W (Xs E h) J vs
 | [],_=>by simp [Reps,RepDs]
 |a::J,vs=>by simp only [au,Reps,RepDs,Rep,Reps.map_d]
def zdi:∀ (J:List D),AV.idsL (J.map AV.d)= []
 | []=>by simp [AV.idsL]
 |a::J=>by simp [AV.idsL,AV.ids,zdi J]
def zn:∀ (J bs:List AV),AV.idsL (J++bs)=AV.idsL J++AV.idsL bs
 | [],bs=>by simp [AV.idsL]
 |a::J,bs=>by simp [AV.idsL,zn J bs]
def RepRows.get {k} :∀ {xs:List (List D)} {vs:List Value},RepRows W X k xs vs->∀ {i:Nat} {r:List D},xs[i]?=some r->r.length=k/\RepDs W X r ((vs.drop (i*k)).take k)
 | [],_,_,i,r,hi=>fU
 | x::xs,vs,J,i,r,hi=>by
  simp only [RepRows] at J;obtain ⟨h1,h2,h3⟩:=J;cases i with
  |zero=>grind
  |succ i=>
   simp at hi;have:=RepRows.get h3 hi;rw [bc] at this
   grind
def RepARows.get {k} :∀ {xs:List (List AV)} {vs:List Value},RepARows W E h k xs vs->∀ {i:Nat} {r:List AV},xs[i]?=some r->r.length=k/\Reps W E h r ((vs.drop (i*k)).take k)
 | [],_,_,i,r,hi=>fU
 | x::xs,vs,J,i,r,hi=>by
  simp only [RepARows] at J;obtain ⟨h1,h2,h3⟩:=J;cases i with
  |zero=>grind
  |succ i=>
   simp at hi;have:=RepARows.get h3 hi;rw [bc] at this
   grind
def RepRows.drop {k} :∀ {xs:List (List D)} {vs:List Value},RepRows W X k xs vs->∀n,RepRows W X k (xs.drop n) (vs.drop (n*k))
 | [],_,_,n=>mV
 |x::xs,vs,J,0=>fU
 |x::xs,vs,J,n+1=>by
  simp only [RepRows] at J;have:=RepRows.drop J.2.2 n;rw [bc] at this
  grind
def RepRows.take {k} :∀ {xs:List (List D)} {vs:List Value},RepRows W X k xs vs->∀n,RepRows W X k (xs.take n) vs
 | [],_,_,n=>fU
 |x::xs,vs,J,0=>mV
 |x::xs,vs,J,n+1=>by simp only [RepRows,dI] at J |-;exact ⟨J.1,J.2.1,RepRows.take J.2.2 n⟩
def RepRows.length_le {k} :∀ {xs:List (List D)} {vs:List Value},RepRows W X k xs vs->xs.length*k<=vs.length
 | [],_,_=>fZ
 |x::xs,vs,J=>by
  simp only [RepRows] at J;have h1:=RepDs.length J.2.1;have h2:=RepRows.length_le J.2.2;rw [az] at h1;rw [ak] at h2;simp only [aC,cQ]
  grind
def RepRows.congr {k} :∀ {xs:List (List D)} {vs ws:List Value},RepRows W X k xs vs->vs.take (xs.length*k)=ws.take (xs.length*k)->RepRows W X k xs ws
 | [],_,_,_,_=>xc
 | x::xs,vs,ws,J,he=>by
  simp only [RepRows] at J |-;simp only [aC,cQ] at he
  have h1:vs.take k=ws.take k:=by
   have:=congrArg (List.take k) he
   grind
  have h2:(vs.drop k).take (xs.length*k)=(ws.drop k).take (xs.length*k):=by
   have:=congrArg (List.drop k) he;rw [cw,cw] at this
   grind
  exact ⟨J.1,fU,RepRows.congr J.2.2 h2⟩
def RepRows.append {k} :∀ {xs ys:List (List D)} {vs ws:List Value},RepRows W X k xs vs->RepRows W X k ys ws->vs.length=xs.length*k->RepRows W X k (xs++ys) (vs++ws)
 | [],ys,vs,ws,_,hy,hl=>by simp_all
 | x::xs,ys,vs,ws,J,hy,hl=>by
  simp only [RepRows,bf] at J |-;simp only [aC,cQ] at hl;refine ⟨J.1,?_,?_⟩
  .grind
  .rw [en fT];exact RepRows.append J.2.2 hy fU
end
open Go
structure AS where
 t:List (Nat×(Bool×AV))
 h:AHeap
 g:Option (List (List AV)):=some []
def lk:List (Nat×(Bool×AV))->Nat->Option (Bool×AV)
 | [],_=>none
 |(k,v)::r,n=>if k=n then some v else lk r n
def AS.put (s:AS) (d:Option Nat) (g:Bool) (v:AV):AS:=
 match d with
 |some k=> { s with t:=(k,(g,v))::s.t }
 |none=>s
def zmr (P:Program) (l:Nat) (args:Array Value) (w:World) (R:Ending->World->Prop):Prop:=
 ∃fn tmps assign body,(Instr.yield l args).run P w= .ok (.round l fn tmps assign body) w/\RoundIn Fence.wide 0 P l fn tmps assign body w R
def bare (X:Nat->Prop):Env:= { O:=λ_=>none,C:=λ_=>0,M:=λ_=>False,N:=X }
structure Cx where
 P:Program
 ro:Option Nat
 base:Nat
 nt:Nat
 fl:Nat
 G:Option (List (List AV))->(Nat->Prop)->(Nat->Prop)->(Nat->Prop)->World->Prop
 stab:∀g M N A A' w w',(∀b,b<w.heap.size->¬A b->w'.heap[b]?=w.heap[b]?)->(∀b,A' b->A b\/w.heap.size<=b)->(∀b,A' b->b<w'.heap.size)->w.heap.size<=w'.heap.size->w'.tape=w.tape->w'.os=w.os->w'.output=w.output->G g M N A w->G g M N A' w'
 rq:Bool:=false
 yl:Nat:=0
 items:List (List AV):= []
 yok:∀xs x X M N A w (vs:Array Value),G (some xs) M N A w->(∀b,M b\/N b\/A b->X b)->Reps w (bare X) [] x vs.toList->(xs++ [x])<+:items->
  zmr P yl vs w (λe w'=>∃b M',e= .returned (.bool b)/\w'.os=w.os/\w'.tape=w.tape/\w'.output=w.output/\w.heap.size<=w'.heap.size/\(∀k,k<w.heap.size->¬M k->w'.heap[k]?=w.heap[k]?)/\
   (∀k,M k->M' k)/\(∀k,M' k->M k\/(w.heap.size<=k/\k<w'.heap.size))/\G (if b=true then some (xs++ [x]) else none) M' N A w')
def Cx.F (cx:Cx):Fence:= { Fence.wide with round:=cx.ro }
def Cx.lone (cx:Cx):Bool:=cx.ro.isNone&& !cx.rq
def Cx.lone_ok {cx:Cx} (h:cx.lone=true):cx.ro=none/\cx.rq=false:=by
 simpa [Cx.lone] using h
structure SatH (E:Env) (h:AHeap) (w:World):Prop where
 heap:∀i o,hget h i=some o->RepObj w E h i o
 inj:∀i j b,(hget h i).isSome->(hget h j).isSome->E.O i=some b->E.O j=some b->i=j
 own:∀b,Own E h b->b<w.heap.size/\¬E.M b/\¬E.N b
 mlt:∀b,E.M b->b<w.heap.size
 nlt:∀b,E.N b->b<w.heap.size
def zaL (ds:List Deferred) (b:Nat):Prop:=∃d∈ds,d.target= .collected b
def Marks (base:Nat) (E:Env) (w:World) (ds:List Deferred):Prop:=
 (∀d∈ds,∃r,d.target= .collected r/\w.heap[r]?=some (.deferred (some []))/\base<=r/\¬E.M r)/\(ds.map (λd=>match d.target with| .collected r=>r|_=>0)).Nodup
def Slots (w:World) (E:Env) (s:AS) (a:Act):Prop:=
 ∀k g v,lk s.t k=some (g,v)->∃x,a.tmps[k]?=some x/\(g=true->Rep w E s.h v x)/\(g=false->x=undef)
def Marks.lt {base} {E} {w} {ds} (hm:Marks base E w ds) {b} (J:zaL ds b):b<w.heap.size:=by
 obtain ⟨d,hd,e⟩:=J;obtain ⟨r,h1,h2,_⟩:=hm.1 d hd
 grind
structure Sat (cx:Cx) (E:Env) (s:AS) (a:Act) (w:World):Prop where
 slots:Slots w E s a
 nt:a.tmps.size=cx.nt
 hp:SatH E s.h w
 base:cx.base<=w.heap.size/\(cx.rq=true->a.defers= [])
 marks:Marks cx.base E w a.defers
 ghost:cx.G s.g E.M E.N (λb=>Own E s.h b\/zaL a.defers b) w
structure Evo (fl:Nat) (E:Env) (h:AHeap) (w:World) (E':Env) (h':AHeap) (w':World):Prop where
 os:w'.os=w.os
 tape:w'.tape=w.tape
 output:w'.output=w.output
 size:w.heap.size<=w'.heap.size
 keep:∀b,b<w.heap.size->¬Own E h b->¬E.M b->w'.heap[b]?=w.heap[b]?
 own:∀b,Own E' h' b->Own E h b\/w.heap.size<=b
 m1:∀b,E.M b->E'.M b
 m2:∀b,E'.M b->E.M b\/w.heap.size<=b
 n:E'.N=E.N
 go:∀i,i<fl->(hget h' i).isSome->(hget h i).isSome/\GoesOn E h E' h' i
def Evo.refl fl E h w:Evo fl E h w E h w:=⟨rfl,rfl,rfl,fU,λ_ _ _ _=>rfl,λ_ h=> .inl h,λ_ h=>h,λ_ h=> .inl h,rfl,λi _ h=>⟨h,GoesOn.refl E _ i⟩⟩
def GoesOn.trans {E E' E''} {h h' h''} {i} (a:GoesOn E h E' h' i) (b:GoesOn E' h' E'' h'' i):GoesOn E h E'' h'' i:=by
 unfold GoesOn at*;split at a
 .grind
 .grind
 .grind
 .grind
 .grind
 .grind
 .grind
def Evo.trans {fl} {E E' E''} {h h' h''} {w w' w''} (a:Evo fl E h w E' h' w') (b:Evo fl E' h' w' E'' h'' w''):Evo fl E h w E'' h'' w'' where
 os:=b.os.trans a.os
 tape:=b.tape.trans a.tape
 output:=b.output.trans a.output
 size:=aD a.size b.size
 keep:=λk J ho hm=>(b.keep k (aE J a.size) (λh=>(a.own k h).elim ho fU) (λh=>(a.m2 k h).elim hm fU)).trans (a.keep k J ho hm)
 own:=λk h=>(b.own k h).elim (λh=>a.own k h) (λh=> .inr (aD a.size h))
 m1:=λk h=>b.m1 k (a.m1 k h)
 m2:=λk h=>(b.m2 k h).elim (λh=>a.m2 k h) (λh=> .inr (aD a.size h))
 n:=b.n.trans a.n
 go:=λi hi h=>by refine' Iy
def Reach (cx:Cx) (E:Env) (h:AHeap) (w:World) (K:AS->Prop) (J:Act) (w':World):Prop:=
 ∃E' s',K s'/\Sat cx E' s' J w'/\Evo cx.fl E h w E' s'.h w'
def AW (cx:Cx) (c:Code) (Q:Exit->AS->Prop) (s:AS):Prop:=
 ∀E a w,Sat cx E s a w->c.wpIn cx.F 0 cx.P (λe J w'=>Reach cx E s.h w (Q e) J w') a w
def thenK (K:AS->Prop) (Q:Exit->AS->Prop):Exit->AS->Prop
 | .normal,s=>K s
 |e,s=>Q e s
def zsp (id:Nat) (Q:Exit->AS->Prop):Exit->AS->Prop
 | .exit sD,s=>if sD=id then Q .normal s else Q (.exit sD) s
 |e,s=>Q e s
section
variable {cx : Cx} {Q : Exit -> AS -> Prop} {s : AS}
def Reach.trans {E E'} {h h'} {w w'} {K} {p5} {w''} (e:Evo cx.fl E h w E' h' w') (r:Reach cx E' h' w' K p5 w''):Reach cx E h w K p5 w'':=by obtain ⟨E2,s2,J,hs,he⟩:=r;exact ⟨E2,s2,J,hs,e.trans he⟩
def Reach.mono {E} {h} {w} {K K'} {p5} {w''} (r:Reach cx E h w K p5 w'') (J:∀s,K s->K' s):Reach cx E h w K' p5 w'':=by obtain ⟨E2,s2,h2,hs,he⟩:=r;exact ⟨E2,s2,J _ h2,hs,he⟩
def AW.mono {c} {Q'} (h:AW cx c Q s) (J:∀e s,Q e s->Q' e s):AW cx c Q' s:=
 λE a w hs=>aT (h E a w hs) (λe _ _ hr=>hr.mono (J e))
def zaC {x y} (h:∀K,(∀s',AW cx y Q s'->K s')->AW cx x (thenK K Q) s):AW cx (.seq x y) Q s:=by
 intro E a w hs;refine wpIn_seq (aT (h (AW cx y Q) fU E a w hs) ?_);intro e a1 w1 J;cases e with
 |normal=>
  obtain ⟨E1,s1,h1,ab,et⟩:=J;exact aT (h1 E1 a1 w1 ab) (λe _ _ J=>J.trans et)
 |_=>exact J
def zbi {id} {c} (h:AW cx c (zsp id Q) s):AW cx (.block id c) Q s:=by
 intro E a w hs;refine wpIn_block (aT (h E a w hs) ?_);intro e a1 w1 J;cases e with
 |exit sD=>
  simp only [Exit.inBlock];split
  .rename_i hid;subst hid;exact J.mono (λs h=>by simpa only [zsp,av] using h)
  .rename_i hid;exact J.mono (λs h=>by simpa only [zsp,hid,aK] using h)
 |_=>exact J
def zhK {E} {a} {w} {K} (J:Sat cx E s a w) (h:K s):Reach cx E s.h w K a w:=⟨E,s,h,J,Evo.refl _ _ _ _⟩
def zfU (h:Q .normal s):AW cx .skip Q s:=λ_ _ _ J=>wpIn_skip (zhK J h)
def zms {l} (h:Q .normal s):AW cx (.label l) Q s:=λ_ _ _ J=>wpIn_label (zhK J h)
def zfV {id} (h:Q (.exit id) s):AW cx (.exit id) Q s:=λ_ _ _ J=>wpIn_exit (zhK J h)
def zhu (h:Q .ret s):AW cx .ret Q s:=λ_ _ _ J=>wpIn_ret (zhK J h)
end
mutual
def AV.le:AV->AV->Prop
 |a,b=>match b with
  | .any=>True
  | .d y=>(match a with| .d x=>x=y| .nils _=>(match y with| .sl _ ys=>ys= []|_=>False)|_=>False)
  | .agg ys=>(match a with| .agg xs=>AV.leL xs ys|_=>False)
  | .tup ys=>(match a with| .tup xs=>AV.leL xs ys|_=>False)
  | .nils _=>(match a with| .nils _=>True|_=>False)
  | .dp ys=>(match a with| .dp xs=>AV.leL xs ys|_=>False)
  | .vp j p=>(match a with| .vp i o=>i=j/\o=p|_=>False)
  | .ap i' n' J r' p6=>(match a with| .ap i n k r off=>i=i'/\n=n'/\k=J/\r=r'/\off=p6|_=>False)
  | .osl i' J n' p6 sE=>(match a with| .osl i k n off len=>i=i'/\k=J/\n=n'/\off=p6/\len=sE|_=>False)
  | .vsl i' J p6 sE=>(match a with| .vsl i k off len=>i=i'/\k=J/\off=p6/\len=sE|_=>False)
  | .asl J ys=>(match a with| .asl k xs=>k=J/\xs=ys|_=>False)
  | .fn f' xs' u6=>(match a with| .fn f xs ys=>f=f'/\AV.leL xs xs'/\AV.leL ys u6|_=>False)
  | .nilfn=>(match a with| .nilfn=>True|_=>False)
  | .map j=>(match a with| .map i=>i=j|_=>False)
  | .nilmap=>(match a with| .nilmap=>True|_=>False)
  | .raw v=>(match a with| .raw u=>u=v|_=>False)
  | .tp j p=>(match a with| .tp i o=>i=j/\o=p|_=>False)
  | .bsl j p=>(match a with| .bsl i o=>i=j/\o=p|_=>False)
  | .itr j=>(match a with| .itr i=>i=j|_=>False)
  | .iface t' y=>(match a with| .iface t x=>t=t'/\x.le y|_=>False)
  | .amap w3 ys=>(match a with| .amap ks xs=>ks=w3/\AV.leL xs ys|_=>False)
def AV.leL:List AV->List AV->Prop
 | [],ys=>ys= []
 |x::xs,ys=>(match ys with|y::ys=>x.le y/\AV.leL xs ys| []=>False)
end
def AObj.le:AObj->AObj->Prop
 | .var cs,b=>(match b with| .var cs'=>AV.leL cs cs'|_=>False)
 | .tvar t cs,b=>(match b with| .tvar J cs'=>t=J/\AV.leL cs cs'|_=>False)
 |a,b=>a=b
mutual
def AV.le_refl:∀a:AV,a.le a
 | .d _=>kS
 | .agg cs=>uF
 | .tup cs=>uF
 | .nils _=>kS
 | .dp cs=>uF
 | .vp _ _=>lu
 | .ap _ _ _ _ _=>lu
 | .osl _ _ _ _ _=>lu
 | .vsl _ _ _ _=>lu
 | .asl _ _=>lu
 | .fn _ xs ys=>by simp only [AV.le,bt];exact ⟨AV.leL_refl xs,AV.leL_refl ys⟩
 | .nilfn=>kS
 | .any=>kS
 | .map _=>kS
 | .nilmap=>kS
 | .raw _=>kS
 | .tp _ _=>lu
 | .bsl _ _=>lu
 | .itr _=>kS
 | .iface _ v=>by simp only [AV.le,bt];exact AV.le_refl v
 | .amap _ vs=>by simp only [AV.le,bt];exact AV.leL_refl vs
def AV.leL_refl:∀J:List AV,AV.leL J J
 | []=>by simp only [AV.leL]
 |a::J=>by simp only [AV.leL];exact ⟨AV.le_refl a,AV.leL_refl J⟩
end
open Go
section
variable {W : World} {E : Env} {h : AHeap}
mutual
def Rep.le:∀ (a b:AV) (v:Value),a.le b->Rep W E h a v->Rep W E h b v
 |a,.any,v,_,_=>by simp only [Rep]
 | .d x,.d y,v,J,hr=>pP
 | .nils _,.d y,v,J,hr=>by cases y<;>simp only [AV.le] at J;subst J;simp only [Rep] at hr |-;simp only [RepD];exact .inl ⟨fZ,none,0,hr⟩
 | .agg xs,.agg ys,v,J,hr=>by refine' GY
 | .tup xs,.tup ys,v,J,hr=>by refine' GY
 | .nils _,.nils _,v,_,hr=>vB
 | .dp xs,.dp ys,v,J,hr=>by
  simp only [AV.le] at J;simp only [Rep] at hr |-;obtain ⟨a,c,T,fz,h1,h2,h3,h4,h5⟩:=hr;have h6:=Reps.le xs ys _ J h5
  have:ys.length=xs.length:=by have e1:=Reps.length h5;have e2:=Reps.length h6;omega
  exact ⟨a,c,T,fz,h1,h2,h3,h4,by rw [this];exact h6⟩
 | .vp i o,.vp j p,v,J,hr=>pG
 | .ap ..,.ap ..,v,J,hr=>yu
 | .osl ..,.osl ..,v,J,hr=>yu
 | .vsl ..,.vsl ..,v,J,hr=>by simp only [AV.le] at J;obtain ⟨rfl,rfl,rfl,rfl⟩:=J;exact hr
 | .asl ..,.asl ..,v,J,hr=>pG
 | .fn f xs ys,.fn f' xs' u6,v,J,hr=>by simp only [AV.le] at J;obtain ⟨rfl,h1,h2⟩:=J;simp only [Rep] at hr |-;obtain ⟨a,b,e,h3,h4⟩:=hr;exact ⟨a,b,e,Reps.le _ _ _ h1 h3,Reps.le _ _ _ h2 h4⟩
 | .nilfn,.nilfn,v,_,hr=>hr
 | .nilmap,.nilmap,v,_,hr=>hr
 | .raw _,.raw _,v,J,hr=>pP
 | .tp ..,.tp ..,v,J,hr=>pG
 | .bsl ..,.bsl ..,v,J,hr=>pG
 | .map i,.map j,v,J,hr=>pP
 | .itr i,.itr j,v,J,hr=>pP
 | .iface t x,.iface t' y,v,J,hr=>by simp only [AV.le] at J;obtain ⟨rfl,h1⟩:=J;simp only [Rep] at hr |-;obtain ⟨z,e,h3⟩:=hr;exact ⟨z,e,Rep.le x y _ h1 h3⟩
 | .amap ..,.amap ..,v,J,hr=>by simp only [AV.le] at J;obtain ⟨rfl,h1⟩:=J;simp only [Rep] at hr |-;obtain ⟨b,mes,cl,g1,g2,g3,g4,g5⟩:=hr;exact ⟨b,mes,cl,g1,g2,g3,g4,Reps.le _ _ _ h1 g5⟩
def Reps.le:∀ (aZ bs:List AV) (vs:List Value),AV.leL aZ bs->Reps W E h aZ vs->Reps W E h bs vs
 | [],bs,vs,J,hr=>by simp only [AV.leL] at J;subst J;exact hr
 |a::aZ,[],vs,J,_=>by simp [AV.leL] at J
 |a::aZ,b::bs,vs,J,hr=>by simp only [AV.leL] at J;simp only [Reps] at hr |-;obtain ⟨v,r,h1,h2,h3⟩:=hr;exact ⟨v,r,h1,Rep.le a b v J.1 h2,Reps.le aZ bs r J.2 h3⟩
end
end
def leT (t:List (Nat×(Bool×AV))):List (Nat×(Bool×AV))->Prop
 | []=>True
 |(k,(g',J))::r=>(match lk t k with|some (g,v)=>g'=g/\(g'=true->v.le J)|none=>False)/\leT t r
def leH (h:AHeap):AHeap->Prop
 | []=>True
 |(i,J)::r=>(match hget h i with|some o=>o.le J|none=>False)/\leH h r
def idsT:List (Nat×(Bool×AV))->List Nat
 | []=> []
 |(_,(_,v))::r=>v.ids++idsT r
def idsH:AHeap->List Nat
 | []=> []
 |(_,o)::r=>o.ids++idsH r
def inH (h:AHeap):List Nat->Prop
 | []=>True
 |i::r=>(hget h i).isSome=true/\inH h r
def AS.le (s s':AS):Prop:=leT s.t s'.t/\leH s.h s'.h/\inH s'.h (idsT s'.t)/\inH s'.h (idsH s'.h)/\s.g=s'.g
def zfW {h} :∀ {l:List Nat},inH h l->∀i∈l,(hget h i).isSome=true
 | [],_,i,hm=>fU
 |j::r,J,i,hm=>by
  simp only [inH] at J;rcases bg.1 hm with rfl|hm
  .grind
  .exact zfW J.2 i hm
def zBx {t} :∀ {t':List (Nat×(Bool×AV))},leT t t'->∀ {k:Nat} {g':Bool} {v':AV},lk t' k=some (g',v')->
    ∃v,lk t k=some (g',v)/\(g'=true->v.le v')
  | [],_,k,g',v',J=>by simp [lk] at J
  | (j,(gj,vj))::r,hl,k,g',v',J=>by
    simp only [leT] at hl;simp only [lk] at J;split at J
    · grind
    · exact zBx hl.2 J
def zvW:∀ {t:List (Nat×(Bool×AV))} {k:Nat} {g:Bool} {v:AV},lk t k=some (g,v)->∀i∈v.ids,i∈idsT t
  | [],k,g,v,J,_,_=>by simp [lk] at J
  | (j,(gj,vj))::r,k,g,v,J,i,hi=>by
    simp only [lk] at J;simp only [idsT,aS];split at J
    · grind
    · exact .inr (zvW J i hi)
def zdL {h} :∀ {h':AHeap},leH h h'->∀ {i:Nat} {o':AObj},hget h' i=some o'->∃o,hget h i=some o/\o.le o'
  | [],_,i,o',J=>oK
  | (j,oj)::r,hl,i,o',J=>by
    simp only [leH] at hl;simp only [hget] at J;split at J
    · grind
    · exact zdL hl.2 J
def zg3:∀ {h:AHeap} {i:Nat} {o:AObj},hget h i=some o->∀j∈o.ids,j∈idsH h
  | [],i,o,J,_,_=>oK
  | (j,oj)::r,i,o,J,m,hm=>by
    simp only [hget] at J;simp only [idsH,aS];split at J
    · grind
    · exact .inr (zg3 J m hm)
def ziy:∀ {aZ bs:List AV},AV.leL aZ bs->aZ.length=bs.length
 | [],bs,J=>by simp only [AV.leL] at J;grind
 |a::aZ,[],J=>by simp [AV.leL] at J
 |a::aZ,b::bs,J=>by simp only [AV.leL] at J;simp [ziy J.2]
def zd9 {E} {h h'} (J:leH h h') {i} (hi:(hget h' i).isSome=true):GoesOn E h E h' i:=by
 obtain ⟨o',iO⟩:=bE.1 hi;obtain ⟨o,ho,hle⟩:=zdL J iO;unfold GoesOn;rw [ho];cases o with
 |var cs=>
  cases o'<;>simp only [AObj.le] at hle;exact ⟨rfl,_,iO,(ziy hle).symm⟩
 |tvar tt cs=>
  cases o'<;>simp only [AObj.le] at hle;obtain ⟨rfl,hle⟩:=hle;exact ⟨rfl,_,iO,(ziy hle).symm⟩
 |arr k xs=>
  simp only [AObj.le] at hle;grind
 |buf tt xs=>
  simp only [AObj.le] at hle;grind
 |strit l p=>simp only [AObj.le] at hle;grind
 |omap es=>simp only [AObj.le] at hle;grind
def zi7 {E} {h h'} (hl:leH h h') {b} (J:Own E h' b):Own E h b:=by obtain ⟨i,hi,hb⟩:=J;obtain ⟨o',iO⟩:=bE.1 hi;obtain ⟨o,J,_⟩:=zdL hl iO;exact ⟨i,fU,hb⟩
def xs_le {E} {h h'} (J:leH h h') {b} (ho:Xs E h' b):Xs E h b:=ho.imp (zi7 J) id
def RepObj.le {W} {E} {h h'} (hl:leH h h') {i} {o o'} (hle:o.le o') (gL:∀j∈o'.ids,(hget h' j).isSome=true) (J:RepObj W E h i o):RepObj W E h' i o':=by
 have hX:∀b,b<W.heap.size->Xs E h' b->Xs E h b:=λ_ _=>xs_le hl;have hK:∀b,b<W.heap.size->¬Xs E h b->W.heap[b]?=W.heap[b]?:=λ_ _ _=>rfl;cases o with
 |var cs=>
  cases o'<;>simp only [AObj.le] at hle;refine' Fe
 |tvar tt cs=>
  cases o'<;>simp only [AObj.le] at hle;obtain ⟨rfl,hle⟩:=hle;refine' Fe
 |arr k xs=>
  refine' FZ;simp only [RepObj] at J |-;rcases J with J|⟨b,c,T,fz,h1,h2,h3,h4,h5,h6⟩
  .grind
  .exact .inr ⟨b,c,T,fz,h1,h2,h3,h4,RepRows.step hX hK k xs _ h5,h6⟩
 |buf tt xs=>
  refine' FZ;simp only [RepObj] at J |-
  grind
 |strit l p=>simp only [AObj.le] at hle;subst hle;exact J
 |omap es=>simp only [AObj.le] at hle;subst hle;exact J
def SatH.le {E} {h h'} {w} (J:SatH E h w) (hl:leH h h') (hi:inH h' (idsH h')):SatH E h' w where
 heap:=λi o' iO=>by obtain ⟨o,ho,hle⟩:=zdL hl iO;exact RepObj.le hl hle (λj hj=>zfW hi j (zg3 iO j hj)) (J.heap i o ho)
 inj:=λi j b h1 h2=>by obtain ⟨o1,e1⟩:=bE.1 h1;obtain ⟨o2,e2⟩:=bE.1 h2;obtain ⟨p1,f1,_⟩:=zdL hl e1;obtain ⟨p2,f2,_⟩:=zdL hl e2;exact J.inj i j b fU fU
 own:=λb hb=>J.own b (zi7 hl hb)
 mlt:=J.mlt
 nlt:=J.nlt
def Sat.le {cx} {E} {s s'} {a} {w} (J:Sat cx E s a w) (hl:s.le s'):Sat cx E s' a w:=by obtain ⟨hT,hH,ia,lr,hg⟩:=hl;refine ⟨λk g' v' hk=>?_,J.nt,J.hp.le hH lr,J.base,J.marks,hg ▸ cx.stab _ _ _ _ _ w _ fU (λ_ hb=> .inl (hb.imp (zi7 hH) id)) (λb hb=>hb.elim (λh=>(J.hp.own b (zi7 hH h)).1) J.marks.lt) fU rfl rfl rfl J.ghost⟩;obtain ⟨v,gR,hle⟩:=zBx hT hk;obtain ⟨x,hx,hr,hu⟩:=J.slots k g' v gR;refine ⟨x,hx,λe=>?_,hu⟩;exact Rep.step (λ_ _=>xs_le hH) fU v' x (λj hj=>zd9 hH (zfW ia j (zvW hk j hj))) (Rep.le v v' x (hle e) (hr e))
def Evo.le {fl} {E} {h h'} (J:leH h h') w:Evo fl E h w E h' w:=
 ⟨rfl,rfl,rfl,fU,λ_ _ _ _=>rfl,λ_ hb=> .inl (zi7 J hb),λ_ hm=>hm,λ_ hm=> .inl hm,rfl,λi _ hi=>⟨by
  obtain ⟨o',iO⟩:=bE.1 hi;obtain ⟨o,ho,_⟩:=zdL J iO
  grind,zd9 J hi⟩⟩
section
variable {cx : Cx} {Q : Exit -> AS -> Prop} {s : AS}
def aw_le {c} s' (J:s.le s') (h:AW cx c Q s'):AW cx c Q s:=λE a w hs=>
 aT (h E a w (hs.le J)) (λ_ _ _ hr=>hr.trans (Evo.le J.2.1 w))
def zjZ {F} {n} {P} {c} {Q} {a} {w} {α:Type} (I:α->Act->World->Prop) (μ:α->Nat) x0 (h₀:I x0 a w)
  (round:∀x a w,I x a w->c.wpIn F n P (Exit.then (λa' w'=>∃y,I y a' w'/\μ y<μ x) Q) a w):(Code.loop c).wpIn F n P Q a w:=by
 intro b k cs kV hb hr
 have key:∀j x a w,μ x=j->I x a w->
   ∃e a' w',Q e a' w'/\ArrivesIn (Machine.fenced P F) P (lone (b.atR a (.code c:: .inLoop c::k)) cs w) b k cs e a' w':=by
  intro j;induction j using Nat.strongRecOn with
  | _ j ih=>
   intro x a w hn hI;obtain ⟨e,a₁,w₁,J,kg⟩:=round x a w hI b (.inLoop c::k) cs kV hb hr;cases e with
   |normal=>
    obtain ⟨y,w7,br⟩:=J;obtain ⟨e₂,a₂,w₂,xd,xe⟩:=ih (μ y) fU y a₁ w₁ rfl w7;exact ⟨e₂,a₂,w₂,xd,.of_steps (StepsIn.trans kg (.one (ep hb hr rfl) stepR_inLoop)) xe⟩
   |exit id=>exact ⟨_,a₁,w₁,J,.pass (x:= .inLoop c) rfl fU kg⟩
   |goto l=>exact ⟨_,a₁,w₁,J,.pass (x:= .inLoop c) rfl fU kg⟩
   |ret=>exact ⟨_,a₁,w₁,J,.pass (x:= .inLoop c) rfl fU kg⟩
   |panic ch=>exact ⟨_,a₁,w₁,J,.pass (x:= .inLoop c) rfl fU kg⟩
   |outgrown=>exact ⟨_,a₁,w₁,J,.pass (x:= .inLoop c) rfl fU kg⟩
 obtain ⟨e,a',w',J,kg⟩:=key _ x0 a w rfl h₀;exact ⟨e,a',w',J,.of_steps (.one (ep hb hr rfl) stepR_loop) kg⟩
def zk {c} {α:Type} (I:α->AS) (μ:α->Nat) x0 (hl:s.le (I x0))
  (round:∀x,AW cx c (thenK (λs'=>∃y,s'.le (I y)/\μ y<μ x) Q) (I x)):AW cx (.loop c) Q s:=by
 refine aw_le (I x0) hl ?_;intro E a w hs;refine zjZ (λx a' w'=>∃E',Sat cx E' (I x) a' w'/\Evo cx.fl E (I x0).h w E' (I x).h w') μ x0 ⟨E,hs,Evo.refl _ _ _ _⟩ ?_;rintro x a1 w1 ⟨E1,J,et⟩;refine aT (round x E1 a1 w1 J) ?_;intro e a2 w2 hr;cases e with
 |normal=>
  obtain ⟨E2,s2,⟨y,hle,an⟩,eg,e9⟩:=hr;exact ⟨y,⟨E2,eg.le hle,(et.trans e9).trans (Evo.le hle.2.1 w2)⟩,an⟩
 |_=>exact hr.trans et
end
open Go
inductive TD where
 |int (k:IntKind)|bool|str|slice (e:Nat)|arr (n e:Nat)|struct (fs:List (Nat×Nat))|ptr (e:Nat)|func|iface|map (k e:Nat)|bst (fs:List (Nat×Nat))|other
 deriving DecidableEq
structure TI where
 td:TD
 size:Nat
 bytes:Nat
 deriving DecidableEq
def tdOf:TypeDesc->TD
 | .int k=> .int k
 | .bool=> .bool
 | .string=> .str
 | .slice e=> .slice e
 | .array n e=> .arr n e
 | .struct fs=>if fs.any (λf=>f.name== "_") then .bst (fs.toList.map λf=>(f.offset,f.type)) else .struct (fs.toList.map λf=>(f.offset,f.type))
 | .pointer e=> .ptr e
 | .func .. => .func
 | .interface _=> .iface
 | .map k e=> .map k e
 |_=> .other
def ty (P:Program) (t:TypeId):TI:=
 { td:=match P.underlying t with|some d=>tdOf d|none=> .other,size:=P.cellsOf t,bytes:=P.bytesOf t }
def TD.agg:TD->Bool
 | .struct _=>true
 | .arr .. =>true
 | .bst _=>true
 |_=>false
def zK (P:Program):Nat->TypeId->List AV
 |0,_=> [.any]
 |d+1,t=>
  match (ty P t).td with
  | .int k=> [.d (.int k 0)]
  | .bool=> [.d (.bool false)]
  | .str=> [.d (.str [])]
  | .slice e=> [.nils (ty P e).size]
  | .ptr _=> [.d .nilp]
  | .func=> [.nilfn]
  | .iface=> [.d .nilif]
  | .map .. => [.nilmap]
  | .struct fs=>fs.flatMap λf=>zK P d f.2
  | .bst fs=>fs.flatMap λf=>zK P d f.2
  | .arr n e=>(List.replicate n (zK P d e)).flatten
  | .other=> [.any]
def zX (P:Program):Nat->TypeId->Bool
 |0,_=>false
 |d+1,t=>
  match (ty P t).td with
  | .struct fs=>fs.any λf=>decide ((ty P f.2).td= .ptr t)||zX P d f.2
  | .arr _ e=>zX P d e
  |_=>false
def AV.pt (b:Bool) (i o:Nat):AV:=if b then .tp i o else .vp i o
def AObj.vr (b:Bool) (t:TypeId) (cs:List AV):AObj:=if b then .tvar t cs else .var cs
def pt_true i o:AV.pt true i o= .tp i o:=rfl
def pt_false i o:AV.pt false i o= .vp i o:=rfl
def vr_true t cs:AObj.vr true t cs= .tvar t cs:=rfl
def vr_false t cs:AObj.vr false t cs= .var cs:=rfl
attribute [go_sem] pt_true pt_false vr_true vr_false
def gnd:AV->Value->Bool
 | .d (.int k n),.int J n'=>k==J&&n==n'
 | .d (.bool b),.bool b'=>b==b'
 | .d (.str l),.string s=>l==s.data.toList
 | .nils _,.slice none 0 0=>true
 | .d .nilp,.pointer none=>true
 | .nilfn,.nilFunc=>true
 | .d .nilif,.nilIface=>true
 | .nilmap,.map none=>true
 |_,_=>false
def gndL:List AV->List Value->Bool
 | [],[]=>true
 |a::J,v::vs=>gnd a v&&gndL J vs
 |_,_=>false
def zR (P:Program) (t:TypeId):Bool:=
 match P.info? t with
 |some i=>match i.zero with
  |some z=>gndL (zK P 12 t) z.cells.toList&&((ty P t).td.agg==(match z with| .agg _=>true|_=>false))&&z.cells.size==i.size
  |none=>false
 |none=>false
section
variable {W : World} {E : Env} {h : AHeap}
def zqa {a} {v} (J:gnd a v=true):Rep W E h a v:=by unfold gnd at J;split at J<;>simp_all [Rep,RepD];all_goals (obtain ⟨rfl,rfl⟩:=J;rfl)
def zj0:∀ {aZ:List AV} {vs:List Value},gndL aZ vs=true->Reps W E h aZ vs
 | [],[],_=>nr
 | [],_::_,J=>by simp [gndL] at J
 |_::_,[],J=>by simp [gndL] at J
 |a::aZ,v::vs,J=>by simp only [gndL,aq] at J;simp only [Reps];exact ⟨v,vs,rfl,zqa J.1,zj0 J.2⟩
end
section
variable {P : Program} {t : TypeId}
def zeQ {x} (h:(ty P t).td=x) (J:x≠ .other):∃d,P.underlying t=some d/\tdOf d=x:=by
 unfold ty at h
 grind
def zhL {k} (h:(ty P t).td= .int k):P.underlying t=some (.int k):=by refine' GB;cases d<;>simp only [tdOf] at he;all_goals grind
def zg4 (h:(ty P t).td= .bool):P.underlying t=some .bool:=by refine' GB;cases d<;>simp only [tdOf] at he;all_goals grind
def zdr (h:(ty P t).td= .str):P.underlying t=some .string:=by refine' GB;cases d<;>simp only [tdOf] at he;all_goals grind
def zY {e} (h:(ty P t).td= .slice e):P.underlying t=some (.slice e):=by refine' GB;cases d<;>simp only [tdOf] at he;all_goals grind
def zeR {n e} (h:(ty P t).td= .arr n e):P.underlying t=some (.array n e):=by refine' GB;cases d<;>simp only [tdOf] at he;all_goals grind
def zmt {k e} (h:(ty P t).td= .map k e):P.underlying t=some (.map k e):=by refine' GB;cases d<;>simp only [tdOf] at he;all_goals grind
def zfz {fs} (h:(ty P t).td= .struct fs):∃gs,P.underlying t=some (.struct gs)/\gs.toList.map (λf=>(f.offset,f.type))=fs/\∀f∈gs.toList,f.name≠ "_" :=by
 refine' GB;cases d<;>simp only [tdOf] at he
 case struct gs=>
  split at he
  .cases he
  .rename_i hn;injection he with he;refine ⟨gs,J,he,λf hf e=>hn ?_⟩;simp only [Array.any_eq_true',aF]
   grind
 all_goals cases he
def zqb {d} (h:P.underlying t=some d):∃i,P.info? t=some i/\i.size=(ty P t).size/\i.bytes=(ty P t).bytes:=by
 unfold Program.underlying at h;cases hi:P.info? t with
 |none=>grind
 |some i=>exact ⟨i,rfl,by simp [ty,Program.cellsOf,hi],by simp [ty,Program.bytesOf,hi]⟩
def run_underlying {d} (h:P.underlying t=some d) w:(underlying t).run P w= .ok d w:=by
 simp [underlying,h]
def zQ {d} (h:P.underlying t=some d) w:(sizeOf t).run P w= .ok (ty P t).size w:=by obtain ⟨i,h1,h2,_⟩:=zqb h;simp [sizeOf,typeInfo,h1,h2]
def td_of {d} (h:P.underlying t=some d):(ty P t).td=tdOf d:=by simp [ty,h]
def zn1 {d} (h:P.underlying t=some d) (b5:(ty P t).td≠ .other) w:(isAgg t).run P w= .ok (ty P t).td.agg w:=by
 simp only [isAgg,ai,run_underlying h,ah];rw [td_of h] at b5 |-;cases d<;>simp only [tdOf] at b5 |-
 case struct gs=>
  split
  .simp [TD.agg]
  .simp [TD.agg]
 all_goals simp [TD.agg]
def zcp (h:(ty P t).td≠ .other):∃d,P.underlying t=some d:=let ⟨d,J,_⟩:=zeQ rfl h;⟨d,J⟩
def zfX {z} {i} (h:P.info? t=some i) (J:i.zero=some z) w:(zeroValue t).run P w= .ok z w:=by
 simp [zeroValue,typeInfo,h,J]
def ziz (h:zR P t=true):∃i z,P.info? t=some i/\i.zero=some z/\gndL (zK P 12 t) z.cells.toList=true/\((ty P t).td.agg=(match z with| .agg _=>true|_=>false))/\z.cells.size=i.size/\i.size=(ty P t).size:=by
 unfold zR at h;split at h
 .rename_i i hi;split at h
  .rename_i z J;simp only [aq,aF] at h;exact ⟨i,z,hi,J,h.1.1,h.1.2,h.2,by simp [ty,Program.cellsOf,hi]⟩
  .cases h
 .cases h
end
def cv:Value->AV
 | .int k n=> .d (.int k n)
 | .bool b=> .d (.bool b)
 | .string s=> .d (.str s.data.toList)
 | .slice none 0 0=> .nils 0
 | .pointer none=> .d .nilp
 | .nilFunc=> .nilfn
 | .map none=> .nilmap
 | .nilIface=> .d .nilif
 |_=> .any
def AS.ev (s:AS):Operand->Bool×AV
 | .tmp t=>(lk s.t t).getD (false,.any)
 | .const v=>(true,cv v)
 | .func f=>(true,.fn (.func f) [] [])
 | .global _=>(true,.any)
def zDE {W} {E} {h} v:Rep W E h (cv v) v:=by unfold cv;split<;>simp [Rep,RepD]
def ev_ok {E} {s} {a} {w} (hs:Slots w E s a) x (J:(s.ev x).1=true):Rep w E s.h (s.ev x).2 (a.eval x):=by
 cases x with
 | tmp t=>
  simp only [AS.ev] at J |-;cases hl:lk s.t t with
  |none=>grind
  |some p=>
   obtain ⟨g,v⟩:=p;simp only [hl,eu] at J |-;obtain ⟨y,hy,hr,_⟩:=hs t g v hl;simp only [Act.eval];simp_all
 |const v=>exact zDE v
 |func f=>simp [AS.ev,Rep,Act.eval,Reps]
 |global g=>simp [AS.ev,Rep]
open Go
def ibits (op:BinOp) (k:IntKind) (x y:Int):Int:=
 let a:=BitVec.ofInt k.bits x
 let b:=BitVec.ofInt k.bits y
 k.wrap (match op with
  | .and=>(a&&& b).toNat
  | .or=>(a ||| b).toNat
  | .xor=>(a ^^^ b).toNat
  |_=>(a&&& ~~~b).toNat)
def ishl (k:IntKind) (x y:Int):Int:=k.wrap (x*2 ^ (min y.toNat k.bits))
def ishr (k:IntKind) (x y:Int):Int:=x.fdiv (2 ^ (min y.toNat k.bits))
def abinI (op:BinOp) (k:IntKind) (a b:Int):Prop×AV:=
 match op with
 | .add=>(True,.d (.int k (k.wrap (a+b))))
 | .sub=>(True,.d (.int k (k.wrap (a - b))))
 | .mul=>(True,.d (.int k (k.wrap (a*b))))
 | .quo=>(b≠0,.d (.int k (k.wrap (a.tdiv b))))
 | .rem=>(b≠0,.d (.int k (a.tmod b)))
 | .and=>(True,.d (.int k (ibits .and k a b)))
 | .or=>(True,.d (.int k (ibits .or k a b)))
 | .xor=>(True,.d (.int k (ibits .xor k a b)))
 | .andNot=>(True,.d (.int k (ibits .andNot k a b)))
 | .eql=>(True,.d (.bool (a==b)))
 | .neq=>(True,.d (.bool (a !=b)))
 | .lss=>(True,.d (.bool (decide (a<b))))
 | .leq=>(True,.d (.bool (decide (a<=b))))
 | .gtr=>(True,.d (.bool (decide (b<a))))
 | .geq=>(True,.d (.bool (decide (b<=a))))
 |_=>(False,.any)
def abinS (op:BinOp) (a b:List UInt8):Prop×AV:=
 match op with
 | .add=>(a.length+b.length<9223372036854775808,.d (.str (a++b)))
 | .eql=>(True,.d (.bool (a==b)))
 | .neq=>(True,.d (.bool (a !=b)))
 | .lss=>(True,.d (.bool (Op.bytesLess a b)))
 | .leq=>(True,.d (.bool (Op.bytesLess a b||a==b)))
 | .gtr=>(True,.d (.bool (!(Op.bytesLess a b||a==b))))
 | .geq=>(True,.d (.bool (!Op.bytesLess a b)))
 |_=>(False,.any)
def abin (P:Program) (op:BinOp) (t:TypeId) (x y:AV):Prop×AV:=
 match x,y with
 | .d (.int k a),.d (.int J b)=>
  (match op with
  | .shl=>(0<=b,.d (.int k (ishl k a b)))
  | .shr=>(0<=b,.d (.int k (ishr k a b)))
  |_=>(k=J/\(abinI op k a b).1,(abinI op k a b).2))
 | .d (.str a),.d (.str b)=>abinS op a b
 | .d (.bool a),.d (.bool b)=>
  (match op with
  | .eql=>((ty P t).td= .bool,.d (.bool (a==b)))
  | .neq=>((ty P t).td= .bool,.d (.bool (a !=b)))
  |_=>(False,.any))
 |_,_=>(False,.any)
def aun (op:UnOp) (x:AV):Prop×AV:=
 match op,x with
 | .not,.d (.bool b)=>(True,.d (.bool (!b)))
 | .neg,.d (.int k n)=>(True,.d (.int k (k.wrap (0 - n))))
 | .xor,.d (.int k n)=>(True,.d (.int k (ibits .xor k (if k.signed then -1 else k.max) n)))
 |_,_=>(False,.any)
section
variable {P : Program} {W : World} {E : Env} {h : AHeap}
def zsq l:(⟨l.toArray⟩:ByteArray).toList=l:=by
 simp_all
def zzb {op} {k} {a b} (J:(abinI op k a b).1) w t (hs:op≠ .shl/\op≠ .shr):
  ∃v,(binOp op t (.int k a) (.int k b)).run P w= .ok v w/\Rep W E h (abinI op k a b).2 v:=by
 cases op<;>simp only [abinI] at J ⊢ <;>
  first
  |exact J.elim
  |exact absurd rfl hs.1
  |exact absurd rfl hs.2
  |(simp [binOp,Op.intArith,Op.intCmp,Rep,RepD];done)
  |(simp [binOp,Op.intDiv,Rep,RepD,J];done)
  |(simp [binOp,Op.intBits,Rep,RepD,ibits];done)
def zzc {op} {a b} (J:(abinS op a b).1) w t:
  ∃v,(binOp op t (.string ⟨a.toArray⟩) (.string ⟨b.toArray⟩)).run P w= .ok v w/\Rep W E h (abinS op a b).2 v:=by
 have h1:=zsq a;have h2:=zsq b
 cases op<;>simp only [abinS] at J ⊢ <;>
  first
  |exact J.elim
  |(simp [binOp,Op.stringOp,Rep,RepD,h1,h2];done)
  |(simp [binOp,Op.stringOp,Rep,RepD,h1,h2,bne];done)
  |skip
 all_goals
  have:¬(((a.length:Int)+(b.length:Int))>IntKind.i64.max):=by have:IntKind.i64.max=9223372036854775807:=gb;omega
  simp only [binOp,Op.stringOp,ew];rw [U (by simpa [ByteArray.size] using this)];refine ⟨_,rfl,?_⟩;simp only [Rep,RepD];congr 1
def zhv {t} (h:P.underlying t=some .bool) a b w:(Op.equal t (.bool a) (.bool b)).run P w= .ok (a==b) w:=by show (Op.equalIn (9999+1) t (.bool a) (.bool b)).run P w=_;rw [Op.equalIn];simp only [ai,run_underlying h,ah,ar]
def zB7 {op} {t} {x y} {a b} (J:(abin P op t x y).1) (hx:Rep W E h x a) (hy:Rep W E h y b) w:
  ∃v,(binOp op t a b).run P w= .ok v w/\Rep W E h (abin P op t x y).2 v:=by
 unfold abin at J |-
 split at J<;>rename_i ki<;>try exact J.elim
 ·-- integers
  rename_i k m k' n
  simp only [Rep,RepD] at hx hy
  subst hx hy
  split at J
  .simp [binOp,Op.shift,Rep,RepD,ishl,Int.not_lt.2 J]
  .simp [binOp,Op.shift,Rep,RepD,ishr,Int.not_lt.2 J]
  .rename_i h1 h2
   obtain ⟨rfl,J⟩:=J
   exact zzb J w t ⟨h1,h2⟩
 .simp only [Rep,RepD] at hx hy
  subst hx hy
  exact zzc J w t
 .simp only [Rep,RepD] at hx hy
  subst hx hy
  split at J
  .simp [binOp,zhv (zg4 J),Rep,RepD]
  .simp [binOp,zhv (zg4 J),Rep,RepD,bne]
  .grind
def zDF {op} {x} {a} (hv:(aun op x).1) (J:Rep W E h x a) w:
  ∃v,(Op.unary op a).run P w= .ok v w/\Rep W E h (aun op x).2 v:=by
 unfold aun at hv |-;split at hv
 .simp only [Rep,RepD] at J;subst J;simp [Op.unary,Rep,RepD]
 .simp only [Rep,RepD] at J;subst J;simp [Op.unary,Op.intArith,Rep,RepD]
 .simp only [Rep,RepD] at J;subst J;simp [Op.unary,Op.intBits,Rep,RepD,ibits]
 .grind
def apart (P:Program) (t:TypeId) (cs:List AV) (off:Nat):AV:=
 if (ty P t).td.agg then .agg ((cs.drop off).take (ty P t).size) else cs.getD off .any
def psize (P:Program) (t:TypeId):Nat:=if (ty P t).td.agg then (ty P t).size else 1
def zdM {t} {cs} {vs} {off} (ht:(ty P t).td≠ .other) (J:Reps W E h cs vs.toList) (hb:off+psize P t<=cs.length) w:
  ∃v,(part t vs off).run P w= .ok v w/\Rep W E h (apart P t cs off) v:=by
 obtain ⟨d,hd⟩:=zcp ht;have hl:=Reps.length J;simp only [part,ai,zn1 hd ht,ah];unfold apart;unfold psize at hb;cases q8:(ty P t).td.agg
 .simp only [q8,bj,aK] at hb |-;have h1:cs[off]?=some (cs.getD off .any):=fU;obtain ⟨v,hv,xf⟩:=Reps.get J h1;have:vs[off]?=some v:=fU;exact ⟨v,by simp [this],xf⟩
 .simp only [av,ai,zQ hd,ah,ar];refine ⟨_,rfl,?_⟩;refine' Fg
  exact ⟨_,rfl,by have:=(Reps.drop J off).take (ty P t).size;simp_all⟩
def eqIdx (d:Nat) (e:TypeId) (n:Nat) (xs ys:Array Value):List Nat->Sem Bool
 | []=>pure true
 | i::is=>do
   let a <-part e xs (i*n)
   let b <-part e ys (i*n)
   let r <-Op.equalIn d e a b
   if (!r)=true then pure false else eqIdx d e n xs ys is
def aeq (P:Program):Nat→TypeId→AV→AV→Prop×Bool
  |0,_,_,_=>(False,false)
  | d +1,t,x,y=>
    match (ty P t).td,x,y with
    | .bool,.d (.bool a),.d (.bool b)=>(True,a==b)
    | .int _,.d (.int k a),.d (.int k' b)=>(k=k',a==b)
    | .str,.d (.str a),.d (.str b)=>(True,a==b)
    | .struct fs,.agg xs,.agg ys=>(P.stoodInHeld t=false∧(aeqF fs xs ys fun f=>aeq P d f).1,(aeqF fs xs ys fun f=>aeq P d f).2)
    | .arr n e,.agg xs,.agg ys=>let r:=aeqF ((List.range n).map fun i=>(i*(ty P e).size,e)) xs ys fun f=>aeq P d f
      (r.1∧(ty P e).td≠ .other,r.2)
    |_,_,_=>(False,false)
 where
  aeqF (fs:List (Nat×Nat)) (xs ys:List AV) (r:TypeId→AV→AV→Prop×Bool):Prop×Bool:=
    match fs with
    | []=>(True,true)
    | f::fs=>let a:=r f.2 (apart P f.2 xs f.1) (apart P f.2 ys f.1)
      let b:=aeqF fs xs ys r
      ((ty P f.2).td≠ .other∧f.1+psize P f.2≤xs.length∧f.1+psize P f.2≤ys.length∧a.1∧b.1,a.2&&b.2)
def zsr w:∀ (d D:Nat) (t:TypeId) (x y:AV) (a b:Value),d≤D→(aeq P d t x y).1→Rep W E h x a→Rep W E h y b→
  (Op.equalIn D t a b).run P w= .ok (aeq P d t x y).2 w
 |0,D,t,x,y,a,b,_,hv,_,_=>by simp [aeq] at hv
 |d+1,0,t,x,y,a,b,hd,hv,_,_=>fT
 | d + 1,D+1,t,x,y,a,b,hd,hv,hx,hy=>by
  unfold aeq at hv ⊢
  split at hv
  ·rename_i ht;simp only [Rep,RepD] at hx hy;subst hx hy
   rw [Go.run_equalIn_bool' w D t _ _ (zg4 ht)]
  ·rename_i ht;simp only [Rep,RepD] at hx hy;subst hx hy;subst hv
   rw [Go.run_equalIn_int w D t _ _ _ _ (zhL ht)]
  ·rename_i ht;simp only [Rep,RepD] at hx hy;subst hx hy
   rw [Go.run_equalIn_string w D t _ _ (zdr ht),zsq,zsq]
  ·rename_i fs xs ys ht
   refine' FI
   obtain ⟨gs,hg,hfs,hn⟩:=zfz ht
   have hfo:P.fieldsOf t=gs:=by simp [Program.fieldsOf,hg]
   rw [Go.run_equalIn_struct w D t us vs fU hv.1,hfo]
   have hv2:=hv.2
   clear hv hg hfo ht
   subst hfs
   generalize hgl:gs.toList=gl at hv2 hn ⊢
   clear hgl
   induction gl with
   |nil=>simp [aeq.aeqF,Op.eqFields]
   |cons f gl ih=>
    simp only [au,aeq.aeqF] at hv2 ⊢
    obtain ⟨h1,h2,h3,h4,h5⟩:=hv2
    obtain ⟨u,hu,hru⟩:=zdM h1 hx h2 w
    obtain ⟨v,hv,hrv⟩:=zdM h1 hy h3 w
    have hrec:=zsr w d D f.type _ _ u v fT h4 hru hrv
    simp only [Op.eqFields,aa (hn f fZ),ai,hu,hv,hrec,ah,ew,ar]
    grind
  ·rename_i n e xs ys ht
   refine' FI
   have ht':=zeR ht
   obtain ⟨hv,he⟩:=hv
   refine' Is
   rw [Op.equalIn]
   simp only [ai,run_underlying ht',ah,zQ hde]
   have hgen:∀ (l:List Nat),(aeq.aeqF P (l.map fun i=>(i*(ty P e).size,e)) xs ys fun f=>aeq P d f).1→
     (eqIdx D e (ty P e).size us vs l).run P w= .ok (aeq.aeqF P (l.map fun i=>(i*(ty P e).size,e)) xs ys fun f=>aeq P d f).2 w:=by
    intro l
    induction l with
    |nil=>intro _;simp [aeq.aeqF,eqIdx]
    |cons i l ih=>
     intro hv
     simp only [au,aeq.aeqF] at hv ⊢
     obtain ⟨h1,h2,h3,h4,h5⟩:=hv
     obtain ⟨u,hu,hru⟩:=zdM h1 hx h2 w
     obtain ⟨v,hv,hrv⟩:=zdM h1 hy h3 w
     have hrec:=zsr w d D e _ _ u v fT h4 hru hrv
     simp only [eqIdx,ai,hu,hv,hrec,ah,ew,ar]
     grind
   rw [← hgen (List.range n) hv]
   rw [Std.Legacy.Range.forIn_eq_forIn_range',List.range_eq_range',show List.range' [:n].start [:n].size [:n].step=List.range' 0 n by simp_all]
   generalize List.range' 0 n=l
   clear hgen hv ht'
   induction l generalizing w with
   |nil=>simp [eqIdx]
   | cons i l ih=>
    simp only [List.forIn_cons,eqIdx,ai]
    generalize (part e us (i*(ty P e).size)).run P w=r1
    cases r1 with
    | ok a w1=>
     simp only [ah]
     generalize (part e vs (i*(ty P e).size)).run P w1=r2
     cases r2 with
     | ok b w2=>
      simp only [ah]
      generalize (Op.equalIn D e a b).run P w2=r3
      cases r3 with
      | ok r w3=>
       simp_all
      |halt x w3=>simp_all
     |halt x w2=>simp_all
    |halt x w1=>simp_all
  ·grind
end
open Go
def zI {W:World} {b} {c} {T} {fz} (h:W.heap[b]?=some (.cells c T fz)) off:W.cell? ⟨b,off,none⟩=c[off]?:=by
 simp [World.cell?,h]
def zai {W:World} {b} {c} {T} {fz} (h:W.heap[b]?=some (.cells c T fz)) off:W.frozen? ⟨b,off,none⟩=(fz.1<=off&&off<fz.2):=by
 simp [World.frozen?,h]
def Addr.add_none b off n:(⟨b,off,none⟩:Addr).add n=⟨b,off+n,none⟩:=by
 unfold Addr.add;grind
section
variable {P : Program} {W : World} {E : Env} {h : AHeap}
def getD_some {α:Type} {l:List α} {i} {d} (hi:i<l.length):l[i]?=some (l.getD i d):=by
 grind
def Reps.of_get:∀ {J:List AV} {vs:List Value},vs.length=J.length->(∀j,j<J.length->∃v,vs[j]?=some v/\Rep W E h (J.getD j .any) v)->Reps W E h J vs
 | [],vs,hl,_=>by simp at hl;subst hl;simp [Reps]
 |a::J,[],hl,_=>fU
 |a::J,v::vs,hl,hg=>by
  simp only [Reps];obtain ⟨u,hu,hr⟩:=hg 0 fZ;simp at hu;subst hu;refine ⟨_,vs,rfl,fU,Reps.of_get fU (λj hj=>?_)⟩;obtain ⟨u,hu,hr⟩:=hg (j+1) fU
  grind
def At (W:World) (E:Env) (h:AHeap) (b o:Nat) (cs:List AV) (off n:Nat):Prop:=
 ∃c T fz,W.heap[b]?=some (.cells c T fz)/\∀j,j<n->∃v,c[o+j]?=some v/\Rep W E h (cs.getD (off+j) .any) v
def zg5 {b o} {c} {T} {fz} {cs} (hb:W.heap[b]?=some (.cells c T fz)) (J:Reps W E h cs ((c.toList.drop o).take cs.length)) {off n} (hn:off+n<=cs.length):At W E h b (o+off) cs off n:=by
 refine ⟨c,T,fz,hb,λj hj=>?_⟩;obtain ⟨v,hv,J⟩:=Reps.get J (getD_some (d:= .any) (show off+j<cs.length by omega))
 grind
def zd5 {t} {b o} {cs} {off} (ht:(ty P t).td≠ .other) (ha:At W E h b o cs off (psize P t)) (J:off+psize P t<=cs.length):
  ∃v,(loadVar t ⟨b,o,none⟩).run P W= .ok v W/\Rep W E h (apart P t cs off) v:=by
 obtain ⟨d,hd⟩:=zcp ht;obtain ⟨c,T,fz,hb,hc⟩:=ha;simp only [loadVar,ai,zn1 hd ht,ah];unfold apart;unfold psize at hc J;cases q8:(ty P t).td.agg
 .simp only [q8,bj,aK] at hc J |-;obtain ⟨v,hv,hr⟩:=hc 0 fT;refine ⟨v,?_,fU⟩;simp only [run_load,zI hb]
  grind
 .simp only [q8,av] at hc J;simp only [av,ai,zQ hd,ah]
  have hlen:((c.toList.drop o).take (ty P t).size).length=(ty P t).size:=by
   rcases cy (ty P t).size with h0|h0
   .grind
   .obtain ⟨v,hv,_⟩:=hc ((ty P t).size - 1) fT
    grind
  have hget:∀j,j<(ty P t).size->((c.toList.drop o).take (ty P t).size)[j]?=c[o+j]?:=λj hj=>by
   grind
  have:=run_loadCells_list (P:=P) W ⟨b,o,none⟩ ((c.toList.drop o).take (ty P t).size) (λj v hj=>by
   rw [Addr.add_none,zI hb]
   grind)
  rw [hlen] at this;rw [this];refine ⟨_,rfl,?_⟩;refine' Fg;refine ⟨_,rfl,Reps.of_get ?_ (λj hj=>?_)⟩
  .grind
  .grind
end
open Go
def alike:TD->D->Bool
 | .int k,.int J _=>k==J
 | .str,.str _=>true
 | .bool,.bool _=>true
 |_,_=>false
def sameS:D->D->Bool
 | .int _ a,.int _ b=>a==b
 | .str a,.str b=>a==b
 | .bool a,.bool b=>a==b
 |_,_=>false
def mix (k:D):List (D×D)->Option (Nat×D)
 | []=>none
 |p::r=>if sameS k p.1 then some (0,p.2) else (mix k r).map λq=>(q.1+1,q.2)
def mat (k:D):List (D×D)->Option D
 | []=>none
 |p::r=>if sameS k p.1 then some p.2 else mat k r
def mput (k v:D):List (D×D)->List (D×D)
 | []=> [(k,v)]
 |p::r=>if sameS k p.1 then (k,v)::r else p::mput k v r
def zmu k:∀es,mat k es=(mix k es).map (·.2)
 | []=>rfl
 |p::r=>by
  simp only [mat,mix];split
  .rfl
  .rw [zmu k r];cases mix k r<;>rfl
def zss k v:∀es,mput k v es=match mix k es with|some q=>es.set q.1 (k,v)|none=>es++ [(k,v)]
 | []=>rfl
 |p::r=>by
  simp only [mput,mix];split
  .rfl
  .rw [zss k v r];grind
def zst k:∀es q,mix k es=some q->∃p,es[q.1]?=some p/\sameS k p.1=true/\p.2=q.2
 | [],q,h=>gS
 | p::r,q,h=>by
  simp only [mix] at h;split at h
  .grind
  .cases hm:mix k r with
   |none=>grind
   |some q'=>
    rw [hm] at h;cases h;obtain ⟨p',h1,h2,J⟩:=zst k r q' hm
    grind
def zn2 (a b:List UInt8):((⟨a.toArray⟩:ByteArray)==⟨b.toArray⟩)=(a==b):=by
 have:((⟨a.toArray⟩:ByteArray)==⟨b.toArray⟩)=(a.toArray==b.toArray):=rfl
 grind
def zlv {d} {k x} (J:alike (tdOf d) k=true) (hx:alike (tdOf d) x=true):Instr.sameNow d (valD k) (valD x)=some (sameS k x):=by
 cases d<;>simp only [tdOf] at J hx<;>(try (split at J))<;>(cases k<;>cases x<;>simp only [alike,aF,bj] at J hx)
 all_goals (subst_vars;simp [Instr.sameNow,valD,sameS,zn2])
def zlw {d} {k} (hk:alike (tdOf d) k=true):∀ (es:List (D×D)) (l:List MapEntry) (i:Nat),(es.all λp=>alike (tdOf d) p.1)=true->
  l.map (λe=>(e.key,e.val))=es.map (λp=>(valD p.1,valD p.2))->Instr.findNow d (valD k) l i=some ((mix k es).map λq=>(i+q.1,valD q.2))
 | [],l,i,_,h=>by
  cases l with
  |nil=>rfl
  |cons e l=>grind
 | p::r,l,i,J,h=>by
  cases l with
  |nil=>grind
  | cons e l=>
   simp only [au,aX,aJ] at h;simp only [bq,aq] at J;simp only [Instr.findNow,h.1.1,zlv hk J.1,mix];cases hs:sameS k p.1 with
   |true=>grind
   |false=>
    simp only [bj,aK];rw [zlw hk r l (i+1) J.2 h.2];cases mix k r with
    |none=>rfl
    |some q=>grind
def aix (k:D):List D->Option Nat
 | []=>none
 |x::r=>if sameS k x then some 0 else (aix k r).map (· +1)
def zj1 {d} {k} (hk:alike (tdOf d) k=true):∀ (ks:List D) (l:List MapEntry) (i:Nat),(ks.all fun p=>alike (tdOf d) p)=true→
  l.map (·.key)=ks.map valD→Instr.findNow d (valD k) l i=some ((aix k ks).bind fun j=>(l[j]?).map fun e=>(i+j,e.val))
 | [],l,i,_,h=>by
  cases l with
  |nil=>rfl
  |cons e l=>grind
 | x ::r,l,i,ha,h=>by
  cases l with
  |nil=>grind
  | cons e l=>
   simp only [au,aX] at h
   simp only [bq,aq] at ha
   simp only [Instr.findNow,h.1,zlv hk ha.1,aix]
   cases hs:sameS k x with
   |true=>simp
   | false=>
    simp only [bj,aK]
    rw [zj1 hk r l (i+1) ha.2 h.2]
    cases aix k r with
    |none=>rfl
    |some j=>
     grind
def zBy {k} :∀ {ks:List D} {j:Nat},aix k ks=some j->j<ks.length
 | [],j,h=>gS
 | x::r,j,h=>by
  simp only [aix] at h;split at h
  .grind
  .cases hm:aix k r with
   |none=>grind
   |some q=>
    rw [hm] at h;cases h;have:=zBy hm
    grind
def AS.esOf (s:AS) (i:Nat):Option (List (D×D)):=match hget s.h i with|some (.omap es)=>some es|_=>none
def zda (P:Program) (s:AS) (t:TypeId) (m k:AV) (ok:Bool):Prop×AV:=
 match (ty P t).td,m,k with
 | .map kt et,.map i,.d kd=>(match zK P 12 et,s.esOf i with
  | [.d z],some es=>(z.scal=true∧zR P et=true∧(ty P et).td.agg=false∧alike (ty P kt).td kd=true∧(es.all fun p=>alike (ty P kt).td p.1)=true,
    if ok then .tup [.d ((mat kd es).getD z),.d (.bool (mat kd es).isSome)] else .d ((mat kd es).getD z))
  |_,_=>(False,.any))
 | .map kt et,.amap ks vs,.d kd=>(match zK P 12 et with
  | [z]=>(zR P et=true∧(ty P et).td.agg=false∧alike (ty P kt).td kd=true∧(ks.all fun p=>alike (ty P kt).td p)=true,
    if ok then .tup [((aix kd ks).map fun j=>vs.getD j .any).getD z,.d (.bool (aix kd ks).isSome)] else ((aix kd ks).map fun j=>vs.getD j .any).getD z)
  |_=>(False,.any))
 |_,_,_=>(False,.any)
def zea {W} {X} {x} {v} (h:x.scal=true):RepD W X x v↔v=valD x:=by
 cases x<;>simp only [D.scal,bj] at h<;>simp only [RepD,valD]
section
variable {P : Program} {W : World} {E : Env} {s : AS}
def zg6 {t} {k} (h:alike (ty P t).td k=true):∃d,P.underlying t=some d/\tdOf d=(ty P t).td:=by
 have b5:(ty P t).td≠ .other:=λe=>by rw [e] at h;cases k<;>cases h
 exact zeQ rfl b5
def zg7 {td} {k} (h:alike td k=true):k.scal=true:=by
 cases td<;>cases k<;>first|rfl|cases h
def zeA {t} {k} (h:alike (ty P t).td k=true) e w:(Instr.checkKey e 10000 t (valD k)).run P w= .ok () w:=by obtain ⟨d,J,he⟩:=zg6 h;rw [<-he] at h;unfold Instr.checkKey;rw [ai,run_underlying J,ah];cases d<;>simp only [tdOf] at h<;>(try (split at h))<;>(cases k<;>simp only [alike,bj] at h)<;>rfl
def zi8 {t} {k} (h:alike (ty P t).td k=true) {es} {mes} (p7:esOk es mes) (J:(es.all λp=>alike (ty P t).td p.1)=true) w:
  (Instr.findKey t (valD k) mes.toList).run P w= .ok ((mix k es).map λq=>(q.1,valD q.2)) w:=by obtain ⟨d,hd,he⟩:=zg6 h;rw [<-he] at h J;unfold Instr.findKey;rw [ai,run_underlying hd,ah,zlw h es mes.toList 0 J p7.2];simp
def zsu {t} (hz:zR P t=true) {z} (he:zK P 12 t= [z]) (ha:(ty P t).td.agg=false) w:∃v,(zeroValue t).run P w= .ok v w/\∀ (W:World) (E:Env) (h:AHeap),Rep W E h z v:=by
 obtain ⟨i,v,h1,h2,J,h4,h5,h6⟩:=ziz hz;refine ⟨v,zfX h1 h2 w,λW E h=>?_⟩;rw [he] at J;rw [ha] at h4;cases v with
 |agg cs=>cases h4
 |_=>
  simp only [Value.cells,gndL,cR] at J;exact zqa J
def zvX {t} (J:zR P t=true) {z} (hs:z.scal=true) (he:zK P 12 t= [.d z]) (ha:(ty P t).td.agg=false) w:(zeroValue t).run P w= .ok (valD z) w:=by obtain ⟨v,h1,h2⟩:=zsu J he ha w;have:=h2 w ⟨λ_=>none,λ_=>0,λ_=>False,λ_=>False⟩ [];simp only [Rep] at this;rw [h1,(zea hs).1 this]
def zqc {t} {m k} {mv kv} {ok} (hp:SatH E s.h W) (J:(zda P s t m k ok).1) (hm:Rep W E s.h m mv) (hk:Rep W E s.h k kv):
  ∃v,(Instr.lookup t mv kv ok).run P W= .ok v W/\Rep W E s.h (zda P s t m k ok).2 v:=by
 unfold zda at J |-;split at J
 .rename_i kt et i kd ht;try dsimp only at J |-
  split at J
  .rename_i z es hz p7;obtain ⟨h1,h2,h3,h4,h5⟩:=J;try dsimp only
   simp only [Rep] at hm hk;obtain ⟨b,es',g1,g2,rfl⟩:=hm
   have sF:es'=es:=by
    unfold AS.esOf at p7
    grind
   subst sF;have ho:=hp.heap i _ g1;simp only [RepObj] at ho;obtain ⟨b',mes,clock,q1,q2,q3⟩:=ho;rw [g2] at q1;cases q1;rw [(zea (zg7 h4)).1 hk];have jA:=zvX h2 h1 hz h3
   have J:(valD ((mat kd es').getD z))=((mix kd es').map λq=>valD q.2).getD (valD z):=by rw [zmu];cases mix kd es'<;>rfl
   refine ⟨if ok then .tuple #[valD ((mat kd es').getD z),.bool (mat kd es').isSome] else valD ((mat kd es').getD z),?_,?_⟩
   .refine' FK;simp only [ai,hget,ah,ar,zeA h4,zi8 h4 q3 h5];rw [zmu];cases mix kd es' with
    |none=>simp [jA]
    |some q=>simp
   .have lO:((mat kd es').getD z).scal=true:=by
     rw [zmu];cases hm:mix kd es' with
     |none=>exact h1
     |some q=>
      obtain ⟨p,f1,f2,f3⟩:=zst kd es' q hm;have:=bw.1 q3.1 p fU
      grind
    cases ok
    .simp only [bj,aK,Rep];exact (zea lO).2 rfl
    .simp only [av,Rep,Reps];exact ⟨_,rfl,_,_,rfl,(zea lO).2 rfl,_,_,rfl,by simp [RepD],rfl⟩
  .grind
 .rename_i kt et ks vs kd ht;try dsimp only at J |-
  split at J
  .rename_i z hz;obtain ⟨h2,h3,h4,h5⟩:=J;try dsimp only
   simp only [Rep] at hm hk;obtain ⟨b,mes,clock,rfl,_,q2,q3,q4⟩:=hm;rw [(zea (zg7 h4)).1 hk];obtain ⟨zv,jA,vb⟩:=zsu h2 hz h3 W
   have hf:(Instr.findKey kt (valD kd) mes.toList).run P W= .ok ((aix kd ks).bind λj=>(mes.toList[j]?).map λe=>(j,e.val)) W:=by obtain ⟨d,hd,he⟩:=zg6 h4;rw [<-he] at h4 h5;unfold Instr.findKey;rw [ai,run_underlying hd,ah,zj1 h4 ks mes.toList 0 h5 q3];simp
   have ra:∀ (o:Option (Nat×Value)),(Instr.findKey kt (valD kd) mes.toList).run P W= .ok o W->(Instr.lookup t (.map (some b)) (valD kd) ok).run P W= .ok (if ok then .tuple #[(o.map (·.2)).getD zv,.bool o.isSome] else (o.map (·.2)).getD zv) W:=λo ho=>by
    refine' FK;simp only [ai,hget,ah,ar,zeA h4,ho];cases o with
    |none=>simp [jA]
    |some q=>simp
   have hlen:mes.toList.length=ks.length:=by simpa using congrArg List.length q3
   cases hj:aix kd ks with
   | none=>
    rw [hj] at hf;refine ⟨_,ra _ hf,?_⟩;cases ok
    .grind
    .simp only [av,Rep,Reps];exact ⟨_,rfl,_,_,rfl,fU,_,_,rfl,by simp [RepD],rfl⟩
   | some j=>
    have hl:=zBy hj;obtain ⟨e,he⟩:∃e,mes.toList[j]?=some e:=⟨_,bk fT⟩
    rw [hj,fc,he,cz] at hf;have Bw:vs.length=mes.toList.length:=by simpa using (Reps.length q4).symm
    obtain ⟨x,hx,hr⟩:=Reps.get (i:=j) (a:=vs.getD j .any) q4 fU
    have xg:x=e.val:=by
     grind
    subst xg;refine ⟨_,ra _ hf,?_⟩;cases ok
    .exact hr
    .simp only [av,Rep,Reps];exact ⟨_,rfl,_,_,rfl,hr,_,_,rfl,by simp [RepD],rfl⟩
  .grind
 .grind
end
open Go
def AS.bnd (s:AS) (x:Option Operand) (xi:Int):Prop×Int:=
 match x with
 |none=>(True,xi)
 |some x=>match s.ev x with
  |(g,.d (.int _ n))=>(g=true,n)
  |_=>(False,0)
def AS.cur (s:AS) (i n k:Nat):Prop:=
 match hget s.h i with
 |some (.arr J xs)=>J=k/\xs.length=n
 |_=>False
def zj2 (P:Program) (t:TypeId) (f:Nat):Option (Nat×Nat):=
 match (ty P t).td with
 | .struct fs=>fs[f]?
 |_=>none
def AV.isD:AV->Bool
 | .d _=>true
 |_=>false
def AV.oneD:AV->List D
 | .d x=> [x]
 |_=> []
def zeq (P:Program) (s:AS) (t:TypeId) (x:AV) (lo hi mx:Option Operand):Prop×AV:=
 let l:=s.bnd lo 0
 match x with
 | .d (.str b)=>
  let h:=s.bnd hi b.length
  (mx=none/\(ty P t).td= .str/\l.1/\h.1/\0<=l.2/\l.2<=h.2/\h.2<=b.length,.d (.str ((b.take h.2.toNat).drop l.2.toNat)))
 | .d (.sl k xs)=>
  let h:=s.bnd hi xs.length
  let m:=s.bnd mx xs.length
  ((mx≠none->hi≠none)/\(∃e,(ty P t).td= .slice e/\(ty P e).size=k/\(ty P e).td≠ .other)/\l.1/\h.1/\m.1/\0<=l.2/\l.2<=h.2/\h.2<=m.2/\m.2<=xs.length,.d (.sl k ((xs.take h.2.toNat).drop l.2.toNat)))
 | .osl i k n off len=>
  let h:=s.bnd hi len
  match mx with
  |none=>(s.cur i n k/\(∃e,(ty P t).td= .slice e/\(ty P e).size=k/\(ty P e).td≠ .other)/\l.1/\h.1/\0<=l.2/\l.2<=h.2/\h.2<=(if off=0 then n else len:Nat),.osl i k n (off+l.2.toNat) (h.2.toNat - l.2.toNat))
  |some m=>(hi≠none/\s.cur i n k/\(∃e,(ty P t).td= .slice e/\(ty P e).size=k/\(ty P e).td≠ .other)/\l.1/\h.1/\(s.bnd (some m) len).1/\0<=l.2/\l.2<=h.2/\h.2<=(s.bnd (some m) len).2/\(s.bnd (some m) len).2<=len,.any)
 | .vp i off=>
  match (ty P t).td with
  | .arr n e=>(lo=none/\hi=none/\mx=none/\(ty P e).td≠ .other/\(match hget s.h i with|some (.var cs)=>off+n*(ty P e).size<=cs.length|_=>False),.vsl i (ty P e).size off n)
  |_=>(False,.any)
 | .dp cs=>
  match (ty P t).td with
  | .arr n e=>(lo=none/\mx=none/\(ty P e).td≠ .other/\(s.bnd hi n).1/\0<=(s.bnd hi n).2/\(s.bnd hi n).2<=n/\n<=cs.length/\cs.all AV.isD=true,.d (.sl 1 ((cs.map AV.oneD).take (s.bnd hi n).2.toNat)))
  |_=>(False,.any)
 |_=>(False,.any)
def zfd (P:Program) (s:AS) (t:TypeId) (x:AV):Prop×AV:=
 match x with
 | .vp i off=>(match hget s.h i with
  |some (.var cs)=>((ty P t).td≠ .other/\off+psize P t<=cs.length,apart P t cs off)
  |_=>(False,.any))
 | .tp i off=>(match hget s.h i with
  |some (.tvar _ cs)=>((ty P t).td≠ .other/\off+psize P t<=cs.length,apart P t cs off)
  |_=>(False,.any))
 | .dp cs=>((ty P t).td≠ .other/\psize P t<=cs.length,apart P t cs 0)
 | .ap i n k r off=>(match hget s.h i with
  |some (.arr J xs)=>(J=k/\(ty P t).td≠ .other/\xs.length=n/\r<n/\off+psize P t<=k,apart P t ((xs.getD r []).map AV.d) off)
  |_=>(False,.any))
 |_=>(False,.any)
def ziA (P:Program) (t:TypeId) (x:AV) (f:Nat):Prop×AV:=
 match zj2 P t f with
 |some (off,J)=>(match x with
  | .agg cs=>((ty P J).td≠ .other/\off+psize P J<=cs.length,apart P J cs off)
  |_=>(False,.any))
 |none=>(False,.any)
def zbe (P:Program) (s:AS) (t:TypeId) (x:AV) (f:Nat):Prop×AV:=
 match zj2 P t f with
 |some (off,J)=>(match x with
  | .vp i o=>((ty P J).td≠ .other/\(ty P J).size≠0,.vp i (o+off))
  | .tp i o=>((ty P J).td≠ .other/\(ty P J).size≠0,.tp i (o+off))
  | .dp cs=>((ty P J).td≠ .other/\(ty P J).size≠0/\off<=cs.length,.dp (cs.drop off))
  | .ap i n k r o=>(s.cur i n k/\(ty P J).td≠ .other/\(ty P J).size≠0,.ap i n k r (o+off))
  |_=>(False,.any))
 |none=>(False,.any)
def zbf (P:Program) (s:AS) (t:TypeId) (x y:AV):Prop×AV:=
 match y with
 | .d (.int _ j)=>(match (ty P t).td,x with
  | .arr n e,.vp i off=>((ty P e).td≠ .other/\0<=j/\j<n,.vp i (off+j.toNat*(ty P e).size))
  | .arr n e,.ap i m k r off=>(s.cur i m k/\(ty P e).td≠ .other/\0<=j/\j<n,.ap i m k r (off+j.toNat*(ty P e).size))
  | .arr n e,.dp cs=>((ty P e).td≠ .other/\0<=j/\j<n/\n*(ty P e).size<=cs.length,.dp (cs.drop (j.toNat*(ty P e).size)))
  | .slice e,.d (.sl k xs)=>((ty P e).td≠ .other/\(ty P e).size=k/\0<=j/\j<xs.length,.dp ((xs.getD j.toNat []).map AV.d))
  | .slice e,.asl k xs=>((ty P e).td≠ .other/\(ty P e).size=k/\0<=j/\j<xs.length,.dp (xs.getD j.toNat []))
  | .slice e,.osl i k n off len=>(s.cur i n k/\(ty P e).td≠ .other/\(ty P e).size=k/\0<=j/\j<len,.ap i n k (off+j.toNat) 0)
  | .slice e,.vsl i k off len=>((ty P e).td≠ .other/\(ty P e).size=k/\0<=j/\j<len,.vp i (off+j.toNat*k))
  |_,_=>(False,.any))
 |_=>(False,.any)
def ziB (P:Program) (t:TypeId) (x y:AV):Prop×AV:=
 match y with
 | .d (.int _ j)=>(match (ty P t).td,x with
  | .arr n e,.agg cs=>((ty P e).td≠ .other/\0<=j/\j<n/\j.toNat*(ty P e).size+psize P e<=cs.length,apart P e cs (j.toNat*(ty P e).size))
  | .str,.d (.str l)=>(0<=j/\j<l.length,.d (.int .u8 ((l.getD j.toNat 0).toNat:Int)))
  |_,_=>(False,.any))
 |_=>(False,.any)
def zfA (P:Program) (src dst:TypeId) (x:AV):Prop×AV:=
 match x with
 | .d (.int _ n)=>(match (ty P dst).td with
  | .int k=>((ty P src).td≠ .other,.d (.int k (k.wrap n)))
  |_=>(False,.any))
 | .d (.str l)=>((ty P src).td= .str/\(ty P dst).td= .str,.d (.str l))
 |_=>(False,.any)
def avLen (P:Program) (s:AS) (t:TypeId) (x:AV):Prop×AV:=
 match (ty P t).td,x with
 | .arr n _,_=>(True,.d (.int .i64 n))
 | .str,.d (.str l)=>(True,.d (.int .i64 l.length))
 | .slice _,.d (.sl _ xs)=>(True,.d (.int .i64 xs.length))
 | .slice _,.asl _ xs=>(True,.d (.int .i64 xs.length))
 | .slice _,.nils _=>(True,.d (.int .i64 0))
 | .slice _,.osl i k n _ len=>(s.cur i n k,.d (.int .i64 len))
 | .slice _,.vsl _ _ _ len=>(True,.d (.int .i64 len))
 |_,_=>(False,.any)
def imin (x y:Int):Int:=if y<x then y else x
def imax (x y:Int):Int:=if y>x then y else x
def nilAV (op:BinOp) (b:Bool):Prop×AV:=
 match op with
 | .eql=>(True,.d (.bool b))
 | .neq=>(True,.d (.bool (!b)))
 |_=>(False,.any)
def abin2 (P:Program) (op:BinOp) (t:TypeId) (x y:AV):Prop×AV:=
 match x,y with
 | .agg xs,.agg ys=>
  let r:=aeq P 12 t (.agg xs) (.agg ys)
  (match op with
  | .eql=>(P.eqGuardType P.depth t=false/\r.1,.d (.bool r.2))
  | .neq=>(P.eqGuardType P.depth t=false/\r.1,.d (.bool (!r.2)))
  |_=>(False,.any))
 | .fn ..,.nilfn=>if (ty P t).td= .func then nilAV op false else (False,.any)
 | .nilfn,.nilfn=>if (ty P t).td= .func then nilAV op true else (False,.any)
 |x,y=>abin P op t x y
def zgC (P:Program) (s:AS) (c:Call):Prop×AV:=
 match c.callee with
 | .builtin .len=>(match c.args.toList,c.argTypes.toList with
  | [x],[t]=>((s.ev x).1=true/\(avLen P s t (s.ev x).2).1,(avLen P s t (s.ev x).2).2)
  |_,_=>(False,.any))
 | .builtin .min=>(match c.args.toList.map s.ev with
  | [(J,.d (.int k a)),(gy,.d (.int _ b))]=>(J=true/\gy=true,.d (.int k (imin a b)))
  | [(J,.d (.int k a)),(gy,.d (.int _ b)),(gz,.d (.int _ c))]=>(J=true/\gy=true/\gz=true,.d (.int k (imin (imin a b) c)))
  |_=>(False,.any))
 | .builtin .max=>(match c.args.toList.map s.ev with
  | [(J,.d (.int k a)),(gy,.d (.int _ b))]=>(J=true/\gy=true,.d (.int k (imax a b)))
  |_=>(False,.any))
 |_=>(False,.any)
def zg8 (P:Program) (T:TypeId) (ok:Bool) (x:AV):Prop×AV:=
  match x with
  | .iface t v=>if ok=true∧(ty P T).td≠ .iface∧(ty P T).td≠ .other then
      (if t=T then (True,.tup [v,.d (.bool true)])
       else (match zK P 12 T with
        | [z]=>(zR P T=true∧(ty P T).td.agg=false,.tup [z,.d (.bool false)])
        |_=>(False,.any)))
    else (False,.any)
  |_=>(False,.any)
def aval (P:Program) (s:AS):Op->Prop×AV
 | .binOp op t x y _=>((s.ev x).1=true/\(s.ev y).1=true/\(abin2 P op t (s.ev x).2 (s.ev y).2).1,(abin2 P op t (s.ev x).2 (s.ev y).2).2)
 | .unOp op _ x=>((s.ev x).1=true/\(aun op (s.ev x).2).1,(aun op (s.ev x).2).2)
 | .convert src dst x=>((s.ev x).1=true/\(zfA P src dst (s.ev x).2).1,(zfA P src dst (s.ev x).2).2)
 | .makeInterface t x=>((s.ev x).1=true/\(ty P t).td≠ .other/\(ty P t).td≠ .iface,.iface t (s.ev x).2)
 | .makeFunc f fs cs=>(((fs++cs).toList.all λx=>(s.ev x).1)=true,.fn f (fs.toList.map λx=>(s.ev x).2) (cs.toList.map λx=>(s.ev x).2))
 | .field t x f=>((s.ev x).1=true/\(ziA P t (s.ev x).2 f).1,(ziA P t (s.ev x).2 f).2)
 | .fieldAddr t x f=>((s.ev x).1=true/\(zbe P s t (s.ev x).2 f).1,(zbe P s t (s.ev x).2 f).2)
 | .indexAddr t x y=>((s.ev x).1=true/\(s.ev y).1=true/\(zbf P s t (s.ev x).2 (s.ev y).2).1,(zbf P s t (s.ev x).2 (s.ev y).2).2)
 | .index t x y=>((s.ev x).1=true/\(s.ev y).1=true/\(ziB P t (s.ev x).2 (s.ev y).2).1,(ziB P t (s.ev x).2 (s.ev y).2).2)
 | .slice t x lo hi mx=>((s.ev x).1=true/\(zeq P s t (s.ev x).2 lo hi mx).1,(zeq P s t (s.ev x).2 lo hi mx).2)
 | .load t x=>((s.ev x).1=true/\(zfd P s t (s.ev x).2).1,(zfd P s t (s.ev x).2).2)
 | .nilCheck x=>((s.ev x).1=true/\(match (s.ev x).2 with| .vp .. =>True| .tp .. =>True| .dp .. =>True| .ap i n k _ _=>s.cur i n k| .fn (.func _) _ _=>True|_=>False),(s.ev x).2)
 | .extract x i=>(match s.ev x with
  |(g,.tup vs)=>(g=true/\i<vs.length,vs.getD i .any)
  |_=>(False,.any))
 | .lookup t x y ok=>((s.ev x).1=true/\(s.ev y).1=true/\(zda P s t (s.ev x).2 (s.ev y).2 ok).1,(zda P s t (s.ev x).2 (s.ev y).2 ok).2)
 | .call c=>zgC P s c
 | .typeAssert x _ T ok=>((s.ev x).1=true/\(zg8 P T ok (s.ev x).2).1,(zg8 P T ok (s.ev x).2).2)
 |_=>(False,.any)
section
variable {P : Program} {W : World} {E : Env} {s : AS}
def SatH.var (hp:SatH E s.h W) {i} {cs} (h:hget s.h i=some (.var cs)):∃b c T fz,E.O i=some b/\W.heap[b]?=some (.cells c T fz)/\Reps W E s.h cs c.toList/\zbz fz c.size:=by have:=hp.heap i _ h;simpa only [RepObj] using this
def SatH.tvar (hp:SatH E s.h W) {i} {t} {cs} (h:hget s.h i=some (.tvar t cs)):∃b c T fz,E.O i=some b/\W.heap[b]?=some (.cells c T fz)/\Reps W E s.h cs c.toList/\zbz fz c.size/\T=t:=by have:=hp.heap i _ h;simpa only [RepObj] using this
def zn3 (hp:SatH E s.h W) {t} {x} {a} (J:(zfd P s t x).1) (hx:Rep W E s.h x a):
  ∃v,(Instr.loadAt t a).run P W= .ok v W/\Rep W E s.h (zfd P s t x).2 v:=by
 unfold zfd at J |-;split at J
 .rename_i i off;split at J
  .rename_i cs hi;obtain ⟨ht,hl⟩:=J;obtain ⟨b,c,T,fz,hO,hb,hr,_⟩:=hp.var hi;refine' Fz;obtain ⟨b',cs',kA,nI,rfl⟩:=hx;refine' Fh
  .grind
 .rename_i i off;split at J
  .rename_i tt cs hi;obtain ⟨ht,hl⟩:=J;obtain ⟨b,c,T,fz,hO,hb,hr,_⟩:=hp.tvar hi;refine' Fz;obtain ⟨b',t',cs',kA,nI,rfl⟩:=hx;refine' Fh
  .grind
 .rename_i cs;obtain ⟨ht,hl⟩:=J;refine' Fz;obtain ⟨a,c,T,fz,rfl,ef,_,hb,hr⟩:=hx;obtain ⟨ab,ao,p8⟩:=a;simp only at ef hb hr;subst ef;simp only [Instr.loadAt,Instr.sureAddr,ai,ar,ah];have ha:At W E s.h ab (ao+0) cs 0 (psize P t):=zg5 hb hr fT;exact zd5 ht ha fT
 .rename_i i n k r off;split at J
  .rename_i k' xs hi;obtain ⟨rfl,ht,hn,Bx,hl⟩:=J;refine' Fz;obtain ⟨-,xs',kA,hle,J⟩:=hx;rw [hi] at kA;cases kA;obtain ⟨b,hO,rfl⟩:=J hn;have ec:=hp.heap i _ hi;refine' Hs;rcases ec with ⟨h0,_⟩|⟨b',c,T,fz,nI,hb,gd,lP,pj,_⟩
   .grind
   .rw [hO] at nI;cases nI;obtain ⟨hk,bs⟩:=RepRows.get pj (i:=r) (getD_some (d:= []) fT);simp only [Instr.loadAt,Instr.sureAddr,ai,ar,ah];have hlen:((xs.getD r []).map AV.d).length=k':=fU;have ha:At W E s.h b (r*k'+off) ((xs.getD r []).map AV.d) off (psize P t):=zg5 hb (by rw [hlen];exact Reps.map_d.2 bs) fT;exact zd5 ht ha fT
  .grind
 .grind
def zlx {t} {f off ft} (h:zj2 P t f=some (off,ft)):∃gs,P.underlying t=some (.struct gs)/\∃g,gs[f]?=some g/\g.offset=off/\g.type=ft:=by
 unfold zj2 at h;split at h
 .rename_i fs J;obtain ⟨gs,hg,rb,_⟩:=zfz J
  grind
 .cases h
def ztQ {t} {x} {f} {a} (J:(ziA P t x f).1) (hx:Rep W E s.h x a):
  ∃v,(Instr.field t a f).run P W= .ok v W/\Rep W E s.h (ziA P t x f).2 v:=by
 unfold ziA at J |-;split at J
 .rename_i off ft hf;obtain ⟨gs,hg,g,pk,ho,ht⟩:=zlx hf;split at J
  .refine' Fz;obtain ⟨vs,rfl,hr⟩:=hx;subst ho ht;simp only [Instr.field,ai,run_underlying hg,ah,pk,asAgg,ar];exact zdM J.1 hr J.2 W
  .grind
 .grind
def zd6 {g} {b o} (J:(ty P g.type).td≠ .other) (hz:(ty P g.type).size≠0):(fieldPlace ⟨b,o,none⟩ g).run P W= .ok ⟨b,o+g.offset,none⟩ W:=by obtain ⟨d,hd⟩:=zcp J;simp [fieldPlace,zQ hd,hz,Addr.add_none]
def zld {t} {x} {f} {a} (J:(zbe P s t x f).1) (hx:Rep W E s.h x a):
  ∃v,(Instr.fieldAt t a f).run P W= .ok v W/\Rep W E s.h (zbe P s t x f).2 v:=by
 unfold zbe at J |-;split at J
 .rename_i off ft hf;obtain ⟨gs,hg,g,pk,ho,ht⟩:=zlx hf;subst ho ht;split at J
  .refine' G1;obtain ⟨b,cs,h1,h2,rfl⟩:=hx;refine' Ji
   grind
  .refine' G1;obtain ⟨b,t',cs,h1,h2,rfl⟩:=hx;refine' Ji
   grind
  .rename_i cs;refine' G1;obtain ⟨a,c,T,fz,rfl,ef,hX,hb,hr⟩:=hx;refine' FB;simp only [Instr.fieldAt,ai,run_underlying hg,ah,pk,Instr.sureAddr,ar,zd6 J.1 J.2.1];refine ⟨_,rfl,_,c,T,fz,rfl,rfl,hX,hb,?_⟩;have:=Reps.drop hr g.offset;rw [cw,bc] at this
   grind
  .refine' G1;obtain ⟨-,xs,h1,h2,h3⟩:=hx;rename_i i n k r o;obtain ⟨hc,mX,pn⟩:=J;have hn:xs.length=n:=by simpa [AS.cur,h1] using hc
   obtain ⟨b,hO,rfl⟩:=h3 hn;simp only [Instr.fieldAt,ai,run_underlying hg,ah,pk,Instr.sureAddr,ar,zd6 mX pn];simp_all
  .grind
 .grind
def zle {cs} {c:Array Value} {o n} (J:Reps W E s.h cs ((c.toList.drop o).take cs.length)):Reps W E s.h (cs.drop n) ((c.toList.drop (o+n)).take (cs.drop n).length):=by
 have:=Reps.drop J n;rw [cw,bc] at this
 grind
def zlf (hp:SatH E s.h W) {t} {x y} {a i} (hv:(zbf P s t x y).1) (J:Rep W E s.h x a) (hy:Rep W E s.h y i):
  ∃v,(Instr.indexAt t a i).run P W= .ok v W/\Rep W E s.h (zbf P s t x y).2 v:=by
 unfold zbf at hv |-
 split at hv
 .rename_i k j
  simp only [Rep,RepD] at hy
  subst hy
  split at hv
  ·-- an array's variable
   rename_i n e ii off ht
   have hu:=zeR ht
   obtain ⟨he,h0,h1⟩:=hv
   obtain ⟨de,jB⟩:=zcp he
   refine' DV
   obtain ⟨b,cs,h2,h3,rfl⟩:=J
   refine' C9
   grind
  .rename_i n e ii m k r off ht
   have hu:=zeR ht
   obtain ⟨hc,he,h0,h1⟩:=hv
   obtain ⟨de,jB⟩:=zcp he
   refine' DV
   obtain ⟨-,xs,h2,h3,h4⟩:=J
   obtain ⟨b,hO,rfl⟩:=h4 (by simpa [AS.cur,h2] using hc)
   refine' C9
   simp_all
  .rename_i n e cs ht
   have hu:=zeR ht
   obtain ⟨he,h0,h1,_⟩:=hv
   obtain ⟨de,jB⟩:=zcp he
   refine' DV
   obtain ⟨a,c,T,fz,rfl,ef,hX,hb,hr⟩:=J
   refine' FB
   refine' C9
   exact ⟨_,rfl,_,c,T,fz,rfl,rfl,hX,hb,zle hr⟩
  .rename_i e k xs ht
   refine' Gd
   simp only [Rep,RepD] at J |-
   rcases J with ⟨rfl,_⟩|⟨a,cap,c,T,fz,rfl,ef,lP,hX,hb,hr⟩
   .grind
   refine' FB
   obtain ⟨mY,a8⟩:=RepRows.get hr (i:=j.toNat) (getD_some (d:= []) fT)
   refine' C9
   refine ⟨_,rfl,_,c,T,fz,rfl,rfl,hX,hb,?_⟩
   rw [hk,<-bc,al,mY]
   exact Reps.map_d.2 a8
  .rename_i e k xs ht
   refine' Gd
   refine' DV
   obtain ⟨a,cap,c,T,fz,rfl,ef,lP,hX,hb,hr⟩:=J
   refine' FB
   obtain ⟨mY,a8⟩:=RepARows.get hr (i:=j.toNat) (getD_some (d:= []) fT)
   refine' C9
   refine ⟨_,rfl,_,c,T,fz,rfl,rfl,hX,hb,?_⟩
   simp_all
  .rename_i e ii k n off len ht
   have hu:=zY ht
   obtain ⟨hc,he,hk,h0,h1⟩:=hv
   obtain ⟨de,jB⟩:=zcp he
   refine' DV
   obtain ⟨-,xs,h2,h3,h4,h5⟩:=J
   rcases h5 (by simpa [AS.cur,h2] using hc) with ⟨⟨h6,xj⟩,rfl⟩|⟨b,hO,rfl⟩|⟨_,h7,_⟩
   ·-- the nil slice: no index is within
    omega
   .refine' C9
    exact ⟨_,rfl,⟨_,rfl⟩,xs,h2,h3,λ_=>⟨b,hO,fU⟩⟩
   .omega
  .rename_i e ii k off len ht
   refine' Gd
   refine' DV
   obtain ⟨b,cs,h2,h3,_,cap,_,rfl⟩:=J
   refine' C9
   grind
  .grind
 .grind
end
end Go.Aw
