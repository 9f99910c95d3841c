/-
  Parts of the proof: AwArr, AwMapEff (short names; the readable texts lie in the repo, under wip).
-/
import Derived.Test.YtbmlikkofegdeaaGreatDoorPiece4
import Derived.Test.YtbmlikkofegdeaaGreatDoorPiece3
set_option maxRecDepth 100000
set_option maxHeartbeats 2000000
set_option linter.unusedSimpArgs false
set_option linter.unusedVariables false
namespace Go.Aw
open Go
def AV.toD:AV->Option D
 | .d x=>some x
 | .nils k=>some (.sl k [])
 |_=>none
def toDs:List AV->Option (List D)
 | []=>some []
 |a::aZ=>match a.toD,toDs aZ with
  |some x,some xs=>some (x::xs)
  |_,_=>none
def zj3:List (List AV)->Option (List (List D))
 | []=>some []
 |a::aZ=>match toDs a,zj3 aZ with
  |some x,some xs=>some (x::xs)
  |_,_=>none
def AV.tag (P:Program) (t:TypeId) (v:AV):AV:=
 match v with
 | .nils k=>(match (ty P t).td with
  | .slice e=> .nils (ty P e).size
  |_=> .nils k)
 |v=>v
section
variable {P : Program} {W : World} {E : Env} {h : AHeap} {X : Nat -> Prop}
theorem Rep.tag {a:AV} {v:Value} {t:TypeId} (hr:Rep W E h a v):Rep W E h (a.tag P t) v:=by
 unfold AV.tag;split
 ·split<;>simpa only [Rep] using hr
 ·exact hr
theorem Rep.toD {a:AV} {x:D} {v:Value} (hr:Rep W E h a v) (hd:a.toD=some x):RepD W (Xs E h) x v:=by
 cases a<;>simp only [AV.toD,Option.some.injEq,reduceCtorEq] at hd
 ·subst hd;simpa only [Rep] using hr
 ·subst hd;simp only [Rep] at hr;simp only [RepD];exact .inl ⟨by simp,none,0,hr⟩
theorem Reps.toDs:∀ {aZ:List AV} {xs:List D} {vs:List Value},Reps W E h aZ vs->toDs aZ=some xs->RepDs W (Xs E h) xs vs
 | [],xs,vs,hr,hd=>by simp only [Aw.toDs,Option.some.injEq] at hd;subst hd;simpa only [Reps,RepDs] using hr
 | a::aZ,xs,vs,hr,hd=>by
  simp only [Aw.toDs] at hd;split at hd
  ·rename_i x ys h1 h2;cases hd;simp only [Reps] at hr;obtain ⟨v,r,rfl,h3,h4⟩:=hr;simp only [RepDs];exact ⟨v,r,rfl,h3.toD h1,Reps.toDs h4 h2⟩
  ·cases hd
theorem RepDs.set:∀ {aZ:List D} {vs:List Value},RepDs W X aZ vs->∀ {i:Nat} {a:D} {v:Value},RepD W X a v->RepDs W X (aZ.set i a) (vs.set i v)
 | [],_,hr,i,a,v,_=>by simp only [RepDs] at hr;subst hr;simp [RepDs]
 |b::aZ,_,hr,i,a,x,hx=>by
  simp only [RepDs] at hr;obtain ⟨v,r,rfl,h2,h3⟩:=hr;cases i with
  |zero=>simp only [List.set_cons_zero,RepDs];exact ⟨_,_,rfl,hx,h3⟩
  |succ i=>simp only [List.set_cons_succ,RepDs];exact ⟨_,_,rfl,h2,RepDs.set h3 hx⟩
theorem RepDs.putL:∀ {cs:List D} {c:List Value},RepDs W X cs c->∀ (o:Nat) {vs:List D} {us:List Value},RepDs W X vs us->RepDs W X (putL cs o vs) (putL c o us)
 |cs,c,hr,o,[],us,hu=>by simp only [RepDs] at hu;subst hu;exact hr
 |cs,c,hr,o,v::vs,us,hu=>by simp only [RepDs] at hu;obtain ⟨u,r,rfl,h1,h2⟩:=hu;exact RepDs.putL (hr.set h1) (o+1) h2
theorem zlZ {α:Type} :∀ (us cs:List α) (o k:Nat),o+us.length<=k->(putL cs o us).take k=putL (cs.take k) o us
 | [],cs,o,k,_=>rfl
 |u::us,cs,o,k,hl=>by simp only [putL,List.length_cons] at hl ⊢;rw [zlZ us _ _ _ (by omega),List.take_set]
theorem zl0 {α:Type} :∀ (us cs:List α) (o k:Nat),k<=o->(putL cs o us).drop k=putL (cs.drop k) (o - k) us
 | [],cs,o,k,_=>rfl
 |u::us,cs,o,k,hl=>by simp only [putL];rw [zl0 us _ _ _ (by omega),List.drop_set,if_neg (by omega),show o+1 - k=o - k+1 by omega]
theorem zhD {α:Type} :∀ (us cs:List α) (o k:Nat),k<=o->(putL cs o us).take k=cs.take k
 | [],cs,o,k,_=>rfl
 |u::us,cs,o,k,hl=>by simp only [putL];rw [zhD us _ _ _ (by omega),List.take_set_of_le (by omega)]
theorem zhE {α:Type} :∀ (us cs:List α) (o k:Nat),o+us.length<=k->(putL cs o us).drop k=cs.drop k
 | [],cs,o,k,_=>rfl
 |u::us,cs,o,k,hl=>by simp only [putL,List.length_cons] at hl ⊢;rw [zhE us _ _ _ (by omega),List.drop_set,if_pos (by omega)]
theorem RepRows.put {k:Nat} :∀ {xs:List (List D)} {vs:List Value},RepRows W X k xs vs->∀ {r o:Nat} {ds:List D} {us:List Value},r<xs.length->o+us.length<=k->RepDs W X ds us->
  RepRows W X k (xs.set r (Aw.putL (xs.getD r []) o ds)) (Aw.putL vs (r*k+o) us)
 | [],vs,_,r,o,ds,us,hr,_,_=>by simp at hr
 |x::xs,vs,hx,0,o,ds,us,_,ho,hd=>by
  simp only [RepRows,List.set_cons_zero,List.getD_cons_zero,Nat.zero_mul,Nat.zero_add] at hx ⊢;refine ⟨by rw [zdO];exact hx.1,?_,?_⟩
  ·rw [zlZ _ _ _ _ ho];exact hx.2.1.putL o hd
  ·rw [zhE _ _ _ _ ho];exact hx.2.2
 | x::xs,vs,hx,r+1,o,ds,us,hr,ho,hd=>by
  simp only [RepRows,List.set_cons_succ,List.getD_cons_succ,List.length_cons] at hx hr ⊢;refine ⟨hx.1,?_,?_⟩
  ·rw [zhD _ _ _ _ (by rw [Nat.succ_mul];omega)];exact hx.2.1
  ·rw [zl0 _ _ _ _ (by rw [Nat.succ_mul];omega),show (r+1)*k+o - k=r*k+o by rw [Nat.succ_mul];omega];exact RepRows.put hx.2.2 (by omega) ho hd
theorem zwB {w:World} {k:Nat} {i:Nat} {xs xs':List (List D)} (hi:hget h i=some (.arr k xs)) (hl:xs'.length=xs.length) {b:Nat} (hb:E.O i=some b) (ob:Obj):Chg E h w E (hset h i (.arr k xs')) (World.row w b ob) i where
 os:=rfl
 tape:=rfl
 output:=rfl
 size:=by simp
 envO:=λj e=>rfl
 envC:=λj e=>rfl
 M:=rfl
 N:=rfl
 hh:=λj e=>zH e
 gi:=by unfold GoesOn;rw [hi];exact ⟨xs',zh hi,by omega,λ_=>⟨rfl,rfl⟩⟩
 blk:=λk hk hn=>zdP (λe=>hn ⟨by simp [hi],by rw [hb,e]⟩)
 new:=λk _ hk=> .inl ⟨by simp [hi],hk⟩
theorem znw {cx:Cx} {s:AS} {a:Act} {w:World} (hs:Sat cx E s a w) {i k:Nat} {xs:List (List D)} (hi:hget s.h i=some (.arr k xs)) {r o:Nat} {ds:List D} {us:List Value} (hd:RepDs w (Xs E s.h) ds us)
  (hr:r<xs.length) (ho:o+us.length<=k) {b:Nat} {c:Array Value} {T:TypeId} {fz:Nat×Nat} (hb:E.O i=some b) (hc:w.heap[b]?=some (.cells c T fz)):
  Sat cx E { s with h:=hset s.h i (.arr k (xs.set r (Aw.putL (xs.getD r []) o ds))) } a (World.row w b (.cells (putA c (r*k+o) us) T fz))/\Evo cx.fl E s.h w E (hset s.h i (.arr k (xs.set r (Aw.putL (xs.getD r []) o ds)))) (World.row w b (.cells (putA c (r*k+o) us) T fz)):=by
 have ch:=zwB (E:=E) (w:=w) hi (xs':=xs.set r (Aw.putL (xs.getD r []) o ds)) (by simp) hb (.cells (putA c (r*k+o) us) T fz);refine ⟨ch.sat hs (λob ho=>?_),ch.evo (.inl (by simp [hi]))⟩;rw [zh hi] at ho;cases ho;have:=hs.hp.heap i _ hi;simp only [RepObj] at this ⊢;rcases this with ⟨h0,_⟩|⟨b',c',T',fz',h1,h2,h3,h4,h5,h6⟩
 ·rw [hb] at h0;cases h0
 rw [hb] at h1;cases h1;rw [hc] at h2;cases h2;refine .inr ⟨b,putA c (r*k+o) us,T,fz,hb,zel (Array.getElem?_eq_some_iff.1 hc).1,by rw [zcz];exact h3,by simpa using h4,?_,by rw [zcz];exact h6⟩;rw [zci];have hd':RepDs (World.row w b (.cells (putA c (r*k+o) us) T fz)) (Xs E (hset s.h i (.arr k (xs.set r (Aw.putL (xs.getD r []) o ds))))) ds us:=RepDs.step ch.hX ch.hK _ _ hd;exact RepRows.put (ch.rows h5) hr ho hd'
theorem zgi {cx:Cx} {s:AS} {a:Act} {w:World} (hs:Sat cx E s a w) {k cap:Nat} {xs:List (List D)} {vs:Array Value} (hr:RepRows w (Xs E s.h) k xs vs.toList) (hl:xs.length<=cap) (hz:vs.size=cap*k) (T:TypeId) (w':World) (hw:w'=w.alloc (.cells vs T)):
  Sat cx (E.set (fresh cx.fl s.h) (some w.heap.size) cap) { s with h:=(fresh cx.fl s.h,.arr k xs)::s.h } a w'/\Evo cx.fl E s.h w (E.set (fresh cx.fl s.h) (some w.heap.size) cap) ((fresh cx.fl s.h,.arr k xs)::s.h) w'/\
  Rep w' (E.set (fresh cx.fl s.h) (some w.heap.size) cap) ((fresh cx.fl s.h,.arr k xs)::s.h) (.osl (fresh cx.fl s.h) k xs.length 0 xs.length) (.slice (some ⟨w.heap.size,0,none⟩) xs.length cap):=by
 subst hw;have c:=zg4 cx.fl hs.hp (.cells vs T) (.arr k xs) cap;refine ⟨c.sat hs (λo ho=>?_),c.evo (.inr (zbb _ _)),?_⟩
 ·simp [hget] at ho;subst ho;simp only [RepObj];exact .inr ⟨w.heap.size,vs,T,(0,0),by simp [Env.set],zdb w _,by simpa [Env.set] using hz,by simpa [Env.set] using hl,c.rows hr,by simp [zbf]⟩
 ·simp only [Rep];exact ⟨⟨_,_,_,rfl⟩,xs,by simp [hget],Nat.le_refl _,by omega,λ_=> .inr (.inl ⟨w.heap.size,by simp [Env.set],by simp [Env.set]⟩)⟩
theorem zl1 {cx:Cx} {s:AS} {a:Act} {w:World} (hs:Sat cx E s a w) (ob:Obj):Sat cx E s a (w.alloc ob)/\Evo cx.fl E s.h w E s.h (w.alloc ob)/\(∀x v,Rep w E s.h x v->Rep (w.alloc ob) E s.h x v):=by
 have hk:∀b,b<w.heap.size->(w.alloc ob).heap[b]?=w.heap[b]?:=λb hb=>by show (w.heap.push ob)[b]?=_;rw [Array.getElem?_push,if_neg (by omega)]
 have hev:Evo cx.fl E s.h w E s.h (w.alloc ob):=⟨rfl,rfl,rfl,by simp,λb hb _ _=>hk b hb,λ_ hb=> .inl hb,λ_ hm=>hm,λ_ hm=> .inl hm,rfl,λi _ hi=>⟨hi,GoesOn.refl E _ i⟩⟩
 have hrep:∀x v,Rep w E s.h x v->Rep (w.alloc ob) E s.h x v:=λx v hr=>Rep.step (λ_ _ hx=>hx) (λb hb _=>hk b hb) x v (λj _=>GoesOn.refl E s.h j) hr;refine ⟨⟨λj g v hj=>?_,hs.nt,⟨λi o ho=>?_,hs.hp.inj,λb hb=>?_,λb hb=>?_,λb hb=>?_⟩,by have:=hs.base;simp;omega,?_,?_⟩,hev,hrep⟩
 ·obtain ⟨x,h1,h2,h3⟩:=hs.slots j g v hj;exact ⟨x,h1,λe=>hrep _ _ (h2 e),h3⟩
 ·have:=hs.hp.heap i o ho;have hlt:∀b,E.O i=some b->b<w.heap.size:=λb hb=>(hs.hp.own b ⟨i,by simp [ho],hb⟩).1;cases o with
  |var cs=>
   simp only [RepObj] at this ⊢;obtain ⟨b,d,T,fz,h1,h2,h3,h4⟩:=this;exact ⟨b,d,T,fz,h1,(hk b (hlt b h1)).trans h2,Reps.step (λ_ _ hx=>hx) (λb hb _=>hk b hb) _ _ (λj _=>GoesOn.refl E s.h j) h3,h4⟩
  |tvar tt cs=>
   simp only [RepObj] at this ⊢;obtain ⟨b,d,T,fz,h1,h2,h3,h4⟩:=this;exact ⟨b,d,T,fz,h1,(hk b (hlt b h1)).trans h2,Reps.step (λ_ _ hx=>hx) (λb hb _=>hk b hb) _ _ (λj _=>GoesOn.refl E s.h j) h3,h4⟩
  |arr k xs=>
   simp only [RepObj] at this ⊢;rcases this with h0|⟨b,d,T,fz,h1,h2,h3,h4,h5,h6⟩
   ·exact .inl h0
   ·exact .inr ⟨b,d,T,fz,h1,(hk b (hlt b h1)).trans h2,h3,h4,RepRows.step (λ_ _ hx=>hx) (λb hb _=>hk b hb) _ _ _ h5,h6⟩
  |buf tt xs=>
   simp only [RepObj] at this ⊢;rcases this with h0|⟨b,d,T,fz,h1,h2,h3,h4,h5,h6⟩
   ·exact .inl h0
   ·exact .inr ⟨b,d,T,fz,h1,(hk b (hlt b h1)).trans h2,h3,h4,h5,h6⟩
  |strit l p=>
   simp only [RepObj] at this ⊢;obtain ⟨b,h1,h2⟩:=this;exact ⟨b,h1,(hk b (hlt b h1)).trans h2⟩
  |omap es=>
   simp only [RepObj] at this ⊢;obtain ⟨b,m,cl,h1,h2,h3⟩:=this;exact ⟨b,m,cl,h1,(hk b (hlt b h1)).trans h2,h3⟩
 ·have:=hs.hp.own b hb;exact ⟨by simp;omega,this.2⟩
 ·have:=hs.hp.mlt b hb;simp;omega
 ·have:=hs.hp.nlt b hb;simp;omega
 ·exact hs.marks.step (λ_ _ h=>h) (λr hr _=>hk r (Array.getElem?_eq_some_iff.1 hr).1)
 ·exact cx.stab _ _ _ _ _ _ _ (λb hb _=>hk b hb) (λ_ hb=> .inl hb) (λb hb=>by have:=hb.elim (λh=>(hs.hp.own b h).1) hs.marks.lt;simp;omega) (by simp) rfl rfl rfl hs.ghost
def fillL (pl:Nat->Option (Nat×Nat)):List AV->List (Nat×AV)->Prop×List AV
 |cs,[]=>(True,cs)
 | cs,(i,v)::r=>match pl i with
  |some (off,sz)=>let q:=fillL pl (Aw.putL cs off v.cells) r
   (v.cells.length=sz/\v.cellsOk=true/\off+sz<=cs.length/\q.1,q.2)
  |none=>(False,cs)
theorem zj4 (off:Nat):∀ (l:List Value) (j:Nat) (c:Array Value),(l.zipIdx j).foldl (λ(cs:Array Value) (p:Value×Nat)=>cs.setIfInBounds (off+p.2) p.1) c=putA c (off+j) l
 | [],j,c=>rfl
 |v::l,j,c=>by simp only [List.zipIdx_cons,List.foldl_cons,putA];exact zj4 off l (j+1) _
theorem zkK {pl:Nat→Option (Nat×Nat)} :∀ (parts:List (Nat×AV)) (vals:List (Nat×Value)) (cs:List AV) (c:Array Value),(fillL pl cs parts).1→Reps W E h cs c.toList→
    (parts.length=vals.length∧∀ (j i:Nat) (x:AV),parts[j]?=some (i,x)→∃v,vals[j]?=some (i,v)∧Rep W E h x v)→∃c',Instr.fill pl c vals=some c'∧Reps W E h (fillL pl cs parts).2 c'.toList
  | [],vals,cs,c,_,hr,hl=>by
    have:vals= []:=by
      have:=hl.1;simp at this;exact List.eq_nil_of_length_eq_zero this.symm
    subst this
    exact ⟨c,rfl,hr⟩
  |(i,x)::parts,[],cs,c,_,_,hl=>by simp at hl
  | (i, x)::parts,(i',v)::vals,cs,c,hv,hr,hl=>by
    obtain ⟨v',h1,h2⟩:=hl.2 0 i x rfl
    simp only [List.getElem?_cons_zero,Option.some.injEq,Prod.mk.injEq] at h1
    obtain ⟨rfl,rfl⟩:=h1
    simp only [fillL] at hv ⊢
    cases hp:pl i' with
    |none=>simp [hp] at hv
    | some p=>
      obtain ⟨off,sz⟩:=p
      simp only [hp] at hv ⊢
      obtain ⟨g1,g2,g3,g4⟩:=hv
      obtain ⟨g5,g6⟩:=h2.cells g2
      have e1:=Reps.length g5
      have e2:=Reps.length hr
      have hsz:v.cells.size=sz:=by rw [← g1,← e1];simp
      obtain ⟨c',q1,q2⟩:=zkK parts vals (Aw.putL cs off x.cells) (putA c off v.cells.toList) g4 (by rw [zci];exact hr.putL off g5)
        ⟨by have:=hl.1;simpa using this,fun j a y hj=>hl.2 (j+1) a y (by simpa using hj)⟩
      refine ⟨c',?_,q2⟩
      have hcs:c.size=cs.length:=by rw [← e2];simp
      simp only [Instr.fill,hp,hsz,ne_eq,not_true_eq_false,decide_false,Bool.false_or]
      rw [if_neg (by simp;omega)]
      rw [← q1]
      congr 1
      have:=zj4 off v.cells.toList 0 c
      rw [Nat.add_zero] at this
      rw [← this,← Array.toList_zipIdx,Array.foldl_toList]
end
open Go
section
variable {P : Program} {W : World} {E : Env} {h : AHeap}
theorem zwC {w:World} {i:Nat} {es es':List (D×D)} (hi:hget h i=some (.omap es)) {b:Nat} (hb:E.O i=some b) (ob:Obj):Chg E h w E (hset h i (.omap es')) (World.row w b ob) i where
 os:=rfl
 tape:=rfl
 output:=rfl
 size:=by simp
 envO:=λj e=>rfl
 envC:=λj e=>rfl
 M:=rfl
 N:=rfl
 hh:=λj e=>zH e
 gi:=by unfold GoesOn;rw [hi];exact ⟨rfl,es',zh hi⟩
 blk:=λk hk hn=>zdP (λe=>hn ⟨by simp [hi],by rw [hb,e]⟩)
 new:=λk _ hk=> .inl ⟨by simp [hi],hk⟩
theorem zwD {cx:Cx} {s:AS} {a:Act} {w:World} (hs:Sat cx E s a w) {i:Nat} {es es':List (D×D)} (hi:hget s.h i=some (.omap es)) {b:Nat} (hb:E.O i=some b) {mes mes':Array MapEntry} {c c':Nat} (hc:w.heap[b]?=some (.map mes c)) (ho:esOk es' mes'):
  Sat cx E { s with h:=hset s.h i (.omap es') } a (World.row w b (.map mes' c'))/\Evo cx.fl E s.h w E (hset s.h i (.omap es')) (World.row w b (.map mes' c')):=by have ch:=zwC (E:=E) (w:=w) hi (es':=es') hb (.map mes' c');refine ⟨ch.sat hs (λob hob=>?_),ch.evo (.inl (by simp [hi]))⟩;rw [zh hi] at hob;cases hob;simp only [RepObj];exact ⟨b,mes',c',hb,zel (Array.getElem?_eq_some_iff.1 hc).1,ho⟩
theorem zx4 {w:World} {i:Nat} {l:List UInt8} {p p':Nat} (hi:hget h i=some (.strit l p)) {b:Nat} (hb:E.O i=some b) (ob:Obj):Chg E h w E (hset h i (.strit l p')) (World.row w b ob) i where
 os:=rfl
 tape:=rfl
 output:=rfl
 size:=by simp
 envO:=λj e=>rfl
 envC:=λj e=>rfl
 M:=rfl
 N:=rfl
 hh:=λj e=>zH e
 gi:=by unfold GoesOn;rw [hi];exact ⟨rfl,p',zh hi⟩
 blk:=λj hj hn=>zdP (λe=>hn ⟨by simp [hi],by rw [hb,e]⟩)
 new:=λj _ hj=> .inl ⟨by simp [hi],hj⟩
theorem zx5 {cx:Cx} {s:AS} {a:Act} {w:World} (hs:Sat cx E s a w) {i:Nat} {l:List UInt8} {p p':Nat} (hi:hget s.h i=some (.strit l p)) {b:Nat} (hb:E.O i=some b) (hlt:b<w.heap.size):
  Sat cx E { s with h:=hset s.h i (.strit l p') } a (World.row w b (.stringIter ⟨l.toArray⟩ p'))/\Evo cx.fl E s.h w E (hset s.h i (.strit l p')) (World.row w b (.stringIter ⟨l.toArray⟩ p')):=by have ch:=zx4 (E:=E) (w:=w) hi (p':=p') hb (.stringIter ⟨l.toArray⟩ p');refine ⟨ch.sat hs (λob hob=>?_),ch.evo (.inl (by simp [hi]))⟩;rw [zh hi] at hob;cases hob;simp only [RepObj];exact ⟨b,hb,zel hlt⟩
theorem zp7 {cx:Cx} {s:AS} {a:Act} {w:World} (hs:Sat cx E s a w) (l:List UInt8):
  Sat cx (E.set (fresh cx.fl s.h) (some w.heap.size) 0) { s with h:=(fresh cx.fl s.h,.strit l 0)::s.h } a (w.alloc (.stringIter ⟨l.toArray⟩ 0))/\Evo cx.fl E s.h w (E.set (fresh cx.fl s.h) (some w.heap.size) 0) ((fresh cx.fl s.h,.strit l 0)::s.h) (w.alloc (.stringIter ⟨l.toArray⟩ 0))/\
  Rep (w.alloc (.stringIter ⟨l.toArray⟩ 0)) (E.set (fresh cx.fl s.h) (some w.heap.size) 0) ((fresh cx.fl s.h,.strit l 0)::s.h) (.itr (fresh cx.fl s.h)) (.pointer (some ⟨w.heap.size,0,none⟩)):=by
 have c:=zg4 cx.fl hs.hp (.stringIter ⟨l.toArray⟩ 0) (.strit l 0) 0;refine ⟨c.sat hs (λo ho=>?_),c.evo (.inr (zbb _ _)),?_⟩
 ·simp [hget] at ho;subst ho;simp only [RepObj];exact ⟨w.heap.size,by simp [Env.set],zdb w _⟩
 ·simp only [Rep];exact ⟨_,l,0,by simp [hget],by simp [Env.set],rfl⟩
theorem znx {cx:Cx} {s:AS} {a:Act} {w:World} (hs:Sat cx E s a w):
  Sat cx (E.set (fresh cx.fl s.h) (some w.heap.size) 0) { s with h:=(fresh cx.fl s.h,.omap [])::s.h } a (w.alloc (.map #[] 0))/\Evo cx.fl E s.h w (E.set (fresh cx.fl s.h) (some w.heap.size) 0) ((fresh cx.fl s.h,.omap [])::s.h) (w.alloc (.map #[] 0))/\
  Rep (w.alloc (.map #[] 0)) (E.set (fresh cx.fl s.h) (some w.heap.size) 0) ((fresh cx.fl s.h,.omap [])::s.h) (.map (fresh cx.fl s.h)) (.map (some w.heap.size)):=by
 have c:=zg4 cx.fl hs.hp (.map #[] 0) (.omap []) 0;refine ⟨c.sat hs (λo ho=>?_),c.evo (.inr (zbb _ _)),?_⟩
 ·simp [hget] at ho;subst ho;simp only [RepObj];exact ⟨w.heap.size,#[],0,by simp [Env.set],zdb w _,rfl,rfl⟩
 ·simp only [Rep];exact ⟨_,[],by simp [hget],by simp [Env.set],rfl⟩
theorem zuk {es:List (D×D)} {mes:Array MapEntry} (ho:esOk es mes) {k v:D} (hk:k.scal=true) (hv:v.scal=true) (born:Nat):
  esOk (mput k v es) (match mix k es with|some q=>mes.modify q.1 (λe=> { e with key:=valD k,val:=valD v })|none=>mes.push { key:=valD k,val:=valD v,born:=born }):=by
 rw [zo4];cases hm:mix k es with
 |none=>
  refine ⟨by simp [ho.1,hk,hv],?_⟩;simp [ho.2]
 | some q=>
  obtain ⟨p,h1,h2,h3⟩:=zo5 k es q hm;refine ⟨?_,?_⟩
  ·simp only [List.all_eq_true] at*;intro x hx;rcases List.mem_or_eq_of_mem_set hx with hx|rfl
   ·exact List.all_eq_true.1 ho.1 x hx
   ·simp [hk,hv]
  ·apply List.ext_getElem?;intro j;have hj:=congrArg (λl=>l[j]?) ho.2;simp only [List.getElem?_map,Array.getElem?_toList] at hj ⊢;rw [Array.getElem?_modify,List.getElem?_set];by_cases e:q.1=j
   ·subst e;simp only [if_true];rw [h1] at hj;have hlt:q.1<es.length:=(List.getElem?_eq_some_iff.1 h1).1;cases hme:mes[q.1]? with
    |none=>rw [hme] at hj;cases hj
    |some e=>simp [hlt]
   ·simp only [if_neg e];exact hj
theorem zrI {td:TD} {k x:D} (hk:alike td k=true) (hx:alike td x=true) (h:sameS k x=true):valD x=valD k:=by
 cases td<;>cases k<;>cases x<;>simp_all [alike,sameS,valD]
theorem zl2 {td:TD} {k:D} (hk:alike td k=true):Instr.sameBits 10000 (valD k) (valD k)=true:=by
 cases td<;>cases k<;>first|(cases hk;done)|skip
 all_goals simp [Instr.sameBits,valD,zlW]
theorem zp8 {b:Nat} {mes:Array MapEntry} {c:Nat} {w:World} (hb:w.heap[b]?=some (.map mes c)):(getObj b).run P w= .ok (.map mes c) w:=by simp [getObj,Sem.run,hb]
theorem zj5 {b:Nat} {mes:Array MapEntry} {c:Nat} {w:World} (hb:w.heap[b]?=some (.map mes c)) (o:Obj):(setObj b o).run P w= .ok () (World.row w b o):=by
 simp [setObj,Sem.run,hb,World.row]
theorem zjF {t kt et:TypeId} (ht:(ty P t).td= .map kt et) {b:Nat} {es:List (D×D)} {mes:Array MapEntry} {c:Nat} {w:World} (hb:w.heap[b]?=some (.map mes c)) (ho:esOk es mes) {k v:D} (hk:alike (ty P kt).td k=true) (ha:(es.all λp=>alike (ty P kt).td p.1)=true):
  ∃c',(Instr.mapUpdate t (.map (some b)) (valD k) (valD v)).run P w= .ok () (World.row w b (.map (match mix k es with|some q=>mes.modify q.1 (λe=> { e with key:=valD k,val:=valD v })|none=>mes.push { key:=valD k,val:=valD v,born:=c }) c')):=by
 unfold Instr.mapUpdate;simp only [Sem.run_bind,run_underlying (zrA ht),Result.andThen_ok,zp8 hb,zgw hk,zhC hk ho ha];cases hm:mix k es with
 |none=>
  refine ⟨c+1,?_⟩;simp only [Option.map_none,zj5 hb]
 | some q=>
  obtain ⟨p,h1,h2,h3⟩:=zo5 k es q hm;refine ⟨c,?_⟩;have hj:=congrArg (λl=>l[q.1]?) ho.2;simp only [List.getElem?_map,Array.getElem?_toList,h1,Option.map_some] at hj;cases hme:mes[q.1]? with
  |none=>rw [hme] at hj;cases hj
  |some e=>
   rw [hme] at hj;simp only [Option.map_some,Option.some.injEq,Prod.mk.injEq] at hj;have hp:=List.all_eq_true.1 ha p (List.mem_of_getElem? h1);have hkey:e.key=valD k:=by rw [hj.1];exact zrI hk hp h2
   have hg:((mes[q.1]?).map (·.key)).getD (valD k)=valD k:=by rw [hme];simp [hkey]
   simp only [Option.map_some,hg,Instr.keyThatStays,zl2 hk,if_true];rw [Sem.run_bind,Sem.run_pure,Result.andThen_ok,zj5 hb]
end
end Go.Aw
