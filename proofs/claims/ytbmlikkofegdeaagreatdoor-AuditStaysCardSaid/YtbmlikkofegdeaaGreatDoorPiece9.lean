/-
 Calls of functions that only read, by a table of their contracts: whatever the caller owns is told to them as data.
-/
import Derived.Test.YtbmlikkofegdeaaGreatDoorPiece8
set_option maxRecDepth 100000
set_option maxHeartbeats 2000000
set_option linter.unusedSimpArgs false
set_option linter.unusedVariables false
namespace Go.Aw
open Go
def frz:Nat->AHeap->AV->AV
 |0,_,a=>(match a with
  | .d x=> .d x
  |_=> .any)
 | n+1,h,a=>(match a with
  | .d x=> .d x
  | .nils k=> .d (.sl k [])
  | .agg cs=> .agg (cs.map (frz n h))
  | .tup cs=> .tup (cs.map (frz n h))
  | .dp cs=> .dp (cs.map (frz n h))
  | .fn f fs cs=> .fn f (fs.map (frz n h)) (cs.map (frz n h))
  | .asl k rows=> .asl k (rows.map (List.map (frz n h)))
  | .nilfn=> .nilfn
  | .nilmap=> .nilmap
  | .iface t v=> .iface t (frz n h v)
  | .vp i off=>(match hget h i with
   |some (.var cs)=> .dp ((cs.drop off).map (frz n h))
   |_=> .any)
  | .osl i k m off len=>(match hget h i with
   |some (.arr k' xs)=>if k=k'/\m=xs.length/\off+len<=m then .d (.sl k ((xs.drop off).take len)) else .any
   |_=> .any)
  |_=> .any)
mutual
def AV.scal:AV->Bool
 | .d x=>x.scal
 | .agg cs=>AV.scalL cs
 | .tup cs=>AV.scalL cs
 | .nilfn=>true
 | .nilmap=>true
 |_=>false
def AV.scalL:List AV->Bool
 | []=>true
 |x::xs=>x.scal&&AV.scalL xs
end
def Tab:=FuncId->List AV->Option (Prop×AV)
def noTab:Tab:=λ_ _=>none
structure TabOk (P:Program) (tab:Tab):Prop where
 ok:∀f args pre r,tab f args=some (pre,r)->pre->r.ids= []/\ACall P f 0 args [] (λr' _=>r'=r)
theorem zb (P:Program):TabOk P noTab:=⟨λ_ _ _ _ h=>by cases h⟩
section
variable {P : Program} {W W' : World} {E E' : Env} {h h' : AHeap}
theorem RepD.scal {X X':Nat->Prop} {x:D} {v:Value} (hs:x.scal=true) (hr:RepD W X x v):RepD W' X' x v:=by
 cases x<;>simp_all [D.scal,RepD]
mutual
theorem Rep.scal:∀ (a:AV) (v:Value),a.scal=true->Rep W E h a v->Rep W' E' h' a v
 | .d x,v,hs,hr=>by simp only [Rep,AV.scal] at*;exact RepD.scal hs hr
 | .agg cs,v,hs,hr=>by simp only [Rep,AV.scal] at*;obtain ⟨vs,rfl,h2⟩:=hr;exact ⟨vs,rfl,Reps.scal cs _ hs h2⟩
 | .tup cs,v,hs,hr=>by simp only [Rep,AV.scal] at*;obtain ⟨vs,rfl,h2⟩:=hr;exact ⟨vs,rfl,Reps.scal cs _ hs h2⟩
 | .nilfn,v,hs,hr=>by simpa only [Rep] using hr
 | .nilmap,v,hs,hr=>by simpa only [Rep] using hr
 | .nils _,_,hs,_| .dp _,_,hs,_| .vp _ _,_,hs,_| .ap _ _ _ _ _,_,hs,_| .osl _ _ _ _ _,_,hs,_| .vsl _ _ _ _,_,hs,_| .asl _ _,_,hs,_| .fn _ _ _,_,hs,_| .any,_,hs,_| .map _,_,hs,_| .itr _,_,hs,_| .iface _ _,_,hs,_| .raw _,_,hs,_| .tp _ _,_,hs,_| .bsl _ _,_,hs,_=>by simp [AV.scal] at hs
theorem Reps.scal:∀ (aZ:List AV) (vs:List Value),AV.scalL aZ=true->Reps W E h aZ vs->Reps W' E' h' aZ vs
 | [],vs,_,hr=>by simpa only [Reps] using hr
 |x::xs,vs,hs,hr=>by simp only [Reps,AV.scalL,Bool.and_eq_true] at*;obtain ⟨v,r,rfl,h2,h3⟩:=hr;exact ⟨v,r,rfl,Rep.scal x v hs.1 h2,Reps.scal xs r hs.2 h3⟩
end
def frzE (E:Env):Env:= { O:=λ_=>none,C:=λ_=>0,M:=λ_=>False,N:=λb=>E.M b\/E.N b }
theorem frzX {b:Nat} (hx:Xs (frzE E) [] b):Xs E h b:=by
 rcases hx with ⟨i,hi,_⟩|hx|hx
 ·simp [hget] at hi
 ·exact hx.elim
 ·exact hx.elim (λh=> .inr (.inl h)) (λh=> .inr (.inr h))
theorem zrN {b:Nat} (hs:SatH E h W) (ho:Own E h b):¬Xs (frzE E) [] b:=by
 rintro (⟨i,hi,_⟩|hx|hx)
 ·simp [hget] at hi
 ·exact hx.elim
 ·exact hx.elim (hs.own b ho).2.1 (hs.own b ho).2.2
theorem Reps.mapOf {f:AV->AV} (hf:∀a v,Rep W E h a v->Rep W E' h' (f a) v):∀ {aZ:List AV} {vs:List Value},Reps W E h aZ vs->Reps W E' h' (aZ.map f) vs
 | [],vs,hr=>by simpa only [Reps,List.map_nil] using hr
 |x::xs,vs,hr=>by simp only [Reps,List.map_cons] at*;obtain ⟨v,r,rfl,h2,h3⟩:=hr;exact ⟨v,r,rfl,hf _ _ h2,Reps.mapOf hf h3⟩
theorem RepARows.mapOf {f:AV->AV} {k:Nat} (hf:∀a v,Rep W E h a v->Rep W E' h' (f a) v):∀ {aZ:List (List AV)} {vs:List Value},RepARows W E h k aZ vs->RepARows W E' h' k (aZ.map (List.map f)) vs
 | [],vs,hr=>by simp only [RepARows,List.map_nil]
 |x::xs,vs,hr=>by simp only [RepARows,List.map_cons] at*;obtain ⟨h1,h2,h3⟩:=hr;exact ⟨by simpa using h1,Reps.mapOf hf h2,RepARows.mapOf hf h3⟩
theorem zrO (hs:SatH E h W):∀ (n:Nat) (a:AV) (v:Value),Rep W E h a v->Rep W (frzE E) [] (frz n h a) v:=by
 have hd:∀ (x:D) (v:Value),Rep W E h (.d x) v->Rep W (frzE E) [] (.d x) v:=λx v hr=>by simp only [Rep] at*;exact RepD.step (λ_ _=>frzX) (λ_ _ _=>rfl) x v hr
 intro n;induction n with
 |zero=>
  intro a v hr;cases a<;>first|exact hd _ _ hr|(simp only [frz,Rep])
 | succ n ih=>
  intro a v hr;have ihs:∀ {aZ:List AV} {vs:List Value},Reps W E h aZ vs->Reps W (frzE E) [] (aZ.map (frz n h)) vs:=λhr=>Reps.mapOf ih hr;cases a with
  |d x=>exact hd _ _ hr
  |nils k=>simp only [frz,Rep,RepD] at*;exact .inl ⟨trivial,none,0,hr⟩
  |agg cs=>simp only [frz,Rep] at*;obtain ⟨vs,rfl,h2⟩:=hr;exact ⟨vs,rfl,ihs h2⟩
  |tup cs=>simp only [frz,Rep] at*;obtain ⟨vs,rfl,h2⟩:=hr;exact ⟨vs,rfl,ihs h2⟩
  |dp cs=>
   simp only [frz,Rep] at*;obtain ⟨a,c,T,fz,rfl,h2,h3,h4,h5⟩:=hr;exact ⟨a,c,T,fz,rfl,h2,λhx=>h3 (frzX hx),h4,by rw [List.length_map];exact ihs h5⟩
  |fn f fs cs=>
   simp only [frz,Rep] at*;obtain ⟨a,b,rfl,h2,h3⟩:=hr;exact ⟨a,b,rfl,ihs h2,ihs h3⟩
  |asl k rows=>
   simp only [frz,Rep] at*;obtain ⟨a,cap,c,T,fz,rfl,h2,h3,h4,h5,h6⟩:=hr;exact ⟨a,cap,c,T,fz,by simp,h2,by simpa using h3,λhx=>h4 (frzX hx),h5,RepARows.mapOf ih h6⟩
  |nilfn=>simp only [frz,Rep] at*;exact hr
  |nilmap=>simp only [frz,Rep] at*;exact hr
  |iface t x=>simp only [frz,Rep] at*;obtain ⟨y,rfl,h2⟩:=hr;exact ⟨y,rfl,ih _ _ h2⟩
  | vp i off=>
   simp only [frz];split
   ·rename_i cs hi;simp only [Rep] at*;obtain ⟨b,cs',h1,h2,rfl⟩:=hr;rw [hi] at h1;cases h1;have ho:=hs.heap i _ hi;simp only [RepObj] at ho;obtain ⟨b',c,T,fz,g1,g2,g3,_⟩:=ho;rw [h2] at g1;cases g1;refine ⟨⟨b,off,none⟩,c,T,fz,rfl,rfl,zrN hs ⟨i,by simp [hi],h2⟩,g2,?_⟩;have:=ihs (Reps.drop g3 off);rw [List.take_of_length_le (by have:=Reps.length g3;simp at this ⊢;omega)];exact this
   ·simp only [Rep]
  | osl i k m off len=>
   simp only [frz];split
   ·rename_i k' xs hi;split
    ·rename_i hc;obtain ⟨rfl,rfl,hle⟩:=hc;simp only [Rep,RepD] at*;obtain ⟨_,xs',h1,_,h3,h4⟩:=hr;rw [hi] at h1;cases h1;have hlen:((xs.drop off).take len).length=len:=by simp;omega
     have ho:=hs.heap i _ hi;simp only [RepObj] at ho;rcases h4 rfl with ⟨⟨g1,g10⟩,rfl⟩|⟨b,g1,rfl⟩|⟨g1,rfl,a,cap,rfl⟩
     ·obtain rfl:xs= []:=List.length_eq_zero_iff.1 g10;exact .inl ⟨by simp,none,0,rfl⟩
     ·rcases ho with ⟨q1,_⟩|⟨b',c,T,fz,q1,q2,q3,q4,q5,_⟩
      ·rw [g1] at q1;cases q1
      ·rw [g1] at q1;cases q1;refine .inr ⟨⟨b,off*k,none⟩,E.C i - off,c,T,fz,by rw [hlen],rfl,by rw [hlen];omega,zrN hs ⟨i,by simp [hi],g1⟩,q2,?_⟩;exact RepRows.step (λ_ _=>frzX) (λ_ _ _=>rfl) _ _ _ ((RepRows.drop q5 off).take len)
     ·exact .inl ⟨by simp,a,cap,rfl⟩
    ·simp only [Rep]
   ·simp only [Rep]
  |_=>simp only [frz,Rep]
theorem ACall.read {f:FuncId} {args:List AV} {r:AV} {n fl:Nat} (hc:ACall P f 0 (args.map (frz n h)) [] (λr' _=>r'=r)) (hsc:r.scal=true):ACallAt P fl f args h (λr' h'=>r'=r/\h'=h):=by
 obtain ⟨hen,hc⟩:=hc;refine ⟨hen,λE w vs hs hr=>?_⟩;have hs0:SatH (frzE E) [] w:=⟨λi o ho=>by simp [hget] at ho,λi j b h1=>by simp [hget] at h1,λb ⟨i,hi,_⟩=>by simp [hget] at hi,λ_ h=>h.elim,λb hb=>hb.elim (hs.mlt b) (hs.nlt b)⟩
 refine (hc (frzE E) w vs hs0 (Reps.mapOf (zrO hs n) hr)).mono ?_;rintro e w' ⟨v,E',r',h',rfl,rfl,hs',hr',hev⟩;have hkeep:∀b,b<w.heap.size->w'.heap[b]?=w.heap[b]?:=λb hb=>hev.keep b hb (λ⟨i,hi,_⟩=>by simp [hget] at hi);have hrep:∀x y,Rep w E h x y->Rep w' E h x y:=λx y hxy=>Rep.step (λ_ _ hx=>hx) (λb hb _=>hkeep b hb) x y (λj _=>GoesOn.refl E h j) hxy;refine ⟨v,E,_,h,rfl,⟨rfl,rfl⟩,?_,Rep.scal _ _ hsc hr',⟨hev.os,hev.tape,hev.output,hev.size,λb hb _=>hkeep b hb,λb hb=> .inl hb,rfl,rfl,λi _ hi=>⟨hi,GoesOn.refl E h i⟩⟩,hrep⟩;refine ⟨λi o ho=>?_,hs.inj,λb hb=>⟨Nat.lt_of_lt_of_le (hs.own b hb).1 hev.size,(hs.own b hb).2⟩,λb hb=>Nat.lt_of_lt_of_le (hs.mlt b hb) hev.size,λb hb=>Nat.lt_of_lt_of_le (hs.nlt b hb) hev.size⟩;have:=hs.heap i o ho;have hlt:∀b,E.O i=some b->b<w.heap.size:=λb hb=>(hs.own b ⟨i,by simp [ho],hb⟩).1;cases o with
 |var cs=>
  simp only [RepObj] at this ⊢;obtain ⟨b,d,T,fz,h1,h2,h3,h4⟩:=this;exact ⟨b,d,T,fz,h1,(hkeep b (hlt b h1)).trans h2,Reps.step (λ_ _ hx=>hx) (λb hb _=>hkeep b hb) _ _ (λj _=>GoesOn.refl E h j) h3,h4⟩
 |tvar tt cs=>
  simp only [RepObj] at this ⊢;obtain ⟨b,d,T,fz,h1,h2,h3,h4⟩:=this;exact ⟨b,d,T,fz,h1,(hkeep b (hlt b h1)).trans h2,Reps.step (λ_ _ hx=>hx) (λb hb _=>hkeep b hb) _ _ (λj _=>GoesOn.refl E h j) h3,h4⟩
 |arr k xs=>
  simp only [RepObj] at this ⊢;rcases this with h0|⟨b,d,T,fz,h1,h2,h3,h4,h5,h6⟩
  ·exact .inl h0
  ·exact .inr ⟨b,d,T,fz,h1,(hkeep b (hlt b h1)).trans h2,h3,h4,RepRows.step (λ_ _ hx=>hx) (λb hb _=>hkeep b hb) _ _ _ h5,h6⟩
 |buf tt xs=>
  simp only [RepObj] at this ⊢;rcases this with h0|⟨b,d,T,fz,h1,h2,h3,h4,h5,h6⟩
  ·exact .inl h0
  ·exact .inr ⟨b,d,T,fz,h1,(hkeep b (hlt b h1)).trans h2,h3,h4,h5,h6⟩
 |strit l p=>
  simp only [RepObj] at this ⊢;obtain ⟨b,h1,h2⟩:=this;exact ⟨b,h1,(hkeep b (hlt b h1)).trans h2⟩
 |omap es=>
  simp only [RepObj] at this ⊢;obtain ⟨b,mm,cl,h1,h2,h3⟩:=this;exact ⟨b,mm,cl,h1,(hkeep b (hlt b h1)).trans h2,h3⟩
mutual
theorem zrP:∀ (a:AV) (n:Nat) (h h':AHeap),a.ids= []->frz n h a=frz n h' a
 | .d x,n,h,h',_=>by cases n<;>rfl
 | .nils k,n,h,h',_=>by cases n<;>rfl
 | .agg cs,n,h,h',hi=>by
  cases n with
  |zero=>rfl
  |succ n=>simp only [frz];rw [zdr cs n h h' (by simpa only [AV.ids] using hi)]
 | .tup cs,n,h,h',hi=>by
  cases n with
  |zero=>rfl
  |succ n=>simp only [frz];rw [zdr cs n h h' (by simpa only [AV.ids] using hi)]
 | .dp cs,n,h,h',hi=>by
  cases n with
  |zero=>rfl
  |succ n=>simp only [frz];rw [zdr cs n h h' (by simpa only [AV.ids] using hi)]
 | .fn f fs cs,n,h,h',hi=>by
  simp only [AV.ids,List.append_eq_nil_iff] at hi;cases n with
  |zero=>rfl
  |succ n=>simp only [frz];rw [zdr fs n h h' hi.1,zdr cs n h h' hi.2]
 | .asl k rows,n,h,h',hi=>by
  cases n with
  |zero=>rfl
  |succ n=>simp only [frz];rw [zpa rows n h h' (by simpa only [AV.ids] using hi)]
 | .nilfn,n,h,h',_=>by cases n<;>rfl
 | .nilmap,n,h,h',_=>by cases n<;>rfl
 | .raw _,n,h,h',_=>by cases n<;>rfl
 | .any,n,h,h',_=>by cases n<;>rfl
 | .iface t v,n,h,h',hi=>by
  cases n with
  |zero=>rfl
  |succ n=>simp only [frz];rw [zrP v n h h' (by simpa only [AV.ids] using hi)]
 | .vp _ _,_,_,_,hi| .tp _ _,_,_,_,hi| .bsl _ _,_,_,_,hi| .ap _ _ _ _ _,_,_,_,hi| .osl _ _ _ _ _,_,_,_,hi| .vsl _ _ _ _,_,_,_,hi| .map _,_,_,_,hi| .itr _,_,_,_,hi=>by simp [AV.ids] at hi
theorem zdr:∀ (aZ:List AV) (n:Nat) (h h':AHeap),AV.idsL aZ= []->aZ.map (frz n h)=aZ.map (frz n h')
 | [],_,_,_,_=>rfl
 |x::xs,n,h,h',hi=>by simp only [AV.idsL,List.append_eq_nil_iff] at hi;simp only [List.map_cons];rw [zrP x n h h' hi.1,zdr xs n h h' hi.2]
theorem zpa:∀ (aZ:List (List AV)) (n:Nat) (h h':AHeap),AV.idsR aZ= []->aZ.map (List.map (frz n h))=aZ.map (List.map (frz n h'))
 | [],_,_,_,_=>rfl
 |x::xs,n,h,h',hi=>by simp only [AV.idsR,List.append_eq_nil_iff] at hi;simp only [List.map_cons];rw [zdr x n h h' hi.1,zpa xs n h h' hi.2]
end
theorem ACall.data {f:FuncId} {args:List AV} {r:AV} {n fl:Nat} (hc:ACall P f 0 (args.map (frz n h)) [] (λr' _=>r'=r)) (hids:AV.idsL args= []) (hri:r.ids= []):ACallAt P fl f args h (λr' h'=>r'=r/\h'=h):=by
 obtain ⟨hen,hc⟩:=hc;refine ⟨hen,λE w vs hs hr=>?_⟩
 have hs0:SatH (bare (Xs E h)) [] w:=⟨λi o ho=>by simp [hget] at ho,λi j b h1=>by simp [hget] at h1,λb ⟨i,hi,_⟩=>by simp [hget] at hi,λ_ h=>h.elim,λb hb=>by
  rcases hb with hb|hb|hb
  ·exact (hs.own b hb).1
  ·exact hs.mlt b hb
  ·exact hs.nlt b hb⟩
 have hX0:∀b,b<w.heap.size->Xs (bare (Xs E h)) [] b->Xs E h b:=λb _ hx=>by
  rcases hx with ⟨i,hi,_⟩|hx|hx
  ·simp [hget] at hi
  ·exact hx.elim
  ·exact hx
 have hr0:Reps w (bare (Xs E h)) [] args vs.toList:=Reps.step hX0 (λ_ _ _=>rfl) _ _ (by rw [hids];simp) hr;have hr1:Reps w (frzE (bare (Xs E h))) [] (args.map (frz n [])) vs.toList:=Reps.mapOf (zrO hs0 n) hr0;rw [zdr args n [] h hids] at hr1;have hs1:SatH (frzE (bare (Xs E h))) [] w:=⟨λi o ho=>by simp [hget] at ho,λi j b h1=>by simp [hget] at h1,λb ⟨i,hi,_⟩=>by simp [hget] at hi,λ_ h=>h.elim,λb hb=>hs0.nlt b (hb.elim (λh=>h.elim) id)⟩
 refine (hc _ w vs hs1 hr1).mono ?_;rintro e w' ⟨v,E',r',h',rfl,rfl,hs',hr',hev⟩;have hkeep:∀b,b<w.heap.size->w'.heap[b]?=w.heap[b]?:=λb hb=>hev.keep b hb (λ⟨i,hi,_⟩=>by simp [hget] at hi);have hrep:∀x y,Rep w E h x y->Rep w' E h x y:=λx y hxy=>Rep.step (λ_ _ hx=>hx) (λb hb _=>hkeep b hb) x y (λj _=>GoesOn.refl E h j) hxy;refine ⟨v,E,_,h,rfl,⟨rfl,rfl⟩,?_,?_,⟨hev.os,hev.tape,hev.output,hev.size,λb hb _=>hkeep b hb,λb hb=> .inl hb,rfl,rfl,λi _ hi=>⟨hi,GoesOn.refl E h i⟩⟩,hrep⟩
 ·refine ⟨λi o ho=>?_,hs.inj,λb hb=>⟨Nat.lt_of_lt_of_le (hs.own b hb).1 hev.size,(hs.own b hb).2⟩,λb hb=>Nat.lt_of_lt_of_le (hs.mlt b hb) hev.size,λb hb=>Nat.lt_of_lt_of_le (hs.nlt b hb) hev.size⟩;have:=hs.heap i o ho;have hlt:∀b,E.O i=some b->b<w.heap.size:=λb hb=>(hs.own b ⟨i,by simp [ho],hb⟩).1;cases o with
  |var cs=>
   simp only [RepObj] at this ⊢;obtain ⟨b,d,T,fz,h1,h2,h3,h4⟩:=this;exact ⟨b,d,T,fz,h1,(hkeep b (hlt b h1)).trans h2,Reps.step (λ_ _ hx=>hx) (λb hb _=>hkeep b hb) _ _ (λj _=>GoesOn.refl E h j) h3,h4⟩
  |tvar tt cs=>
   simp only [RepObj] at this ⊢;obtain ⟨b,d,T,fz,h1,h2,h3,h4⟩:=this;exact ⟨b,d,T,fz,h1,(hkeep b (hlt b h1)).trans h2,Reps.step (λ_ _ hx=>hx) (λb hb _=>hkeep b hb) _ _ (λj _=>GoesOn.refl E h j) h3,h4⟩
  |arr k xs=>
   simp only [RepObj] at this ⊢;rcases this with h0|⟨b,d,T,fz,h1,h2,h3,h4,h5,h6⟩
   ·exact .inl h0
   ·exact .inr ⟨b,d,T,fz,h1,(hkeep b (hlt b h1)).trans h2,h3,h4,RepRows.step (λ_ _ hx=>hx) (λb hb _=>hkeep b hb) _ _ _ h5,h6⟩
  |buf tt xs=>
   simp only [RepObj] at this ⊢;rcases this with h0|⟨b,d,T,fz,h1,h2,h3,h4,h5,h6⟩
   ·exact .inl h0
   ·exact .inr ⟨b,d,T,fz,h1,(hkeep b (hlt b h1)).trans h2,h3,h4,h5,h6⟩
  |strit l p=>
   simp only [RepObj] at this ⊢;obtain ⟨b,h1,h2⟩:=this;exact ⟨b,h1,(hkeep b (hlt b h1)).trans h2⟩
  |omap es=>
   simp only [RepObj] at this ⊢;obtain ⟨b,mm,cl,h1,h2,h3⟩:=this;exact ⟨b,mm,cl,h1,(hkeep b (hlt b h1)).trans h2,h3⟩
 ·refine Rep.step (E:=E') (h:=h') (λb _ hx=>?_) (λ_ _ _=>rfl) _ v (by rw [hri];simp) hr';refine .inr (.inr ?_);rw [hev.n];exact .inr hx
theorem ACallAt.mono {f:FuncId} {fl:Nat} {args:List AV} {K K':AV->AHeap->Prop} (hc:ACallAt P fl f args h K) (hk:∀r h,K r h->K' r h):ACallAt P fl f args h K':=
 ⟨hc.1,λE w vs hs hr=>(hc.2 E w vs hs hr).mono λe w' ⟨v,E',r,h',h1,h2,h3⟩=>⟨v,E',r,h',h1,hk _ _ h2,h3⟩⟩
end
def aopS (cx:Cx) (G:Bool) (o:Oper) (K:AS->Prop) (s:AS):Prop:=
 dstOk cx.nt o.dst/\if G=true then aop1 cx o K s else K (s.put o.dst false .any)
def zdQ (P:Program):Op->Bool
 | .move _=>true
 | .assign _=>true
 | .pick _ _ _=>true
 |op=>isVal P op
def aopT (cx:Cx) (tab:Tab) (G:Bool) (o:Oper) (K:AS->Prop) (s:AS):Prop:=
 match o.op with
 | .call c=>if isVal cx.P (.call c) then aop cx G o K s else
  (match zbh cx.P s c with
  |some (f,args,vc)=>(match tab f (args.map (frz 9 s.h)) with
   |some (pre,r)=>dstOk cx.nt o.dst/\(G=true->vc/\pre/\(r.scal=true\/AV.idsL args= []))/\K (s.put o.dst G r)
   |none=>aopS cx G o K s)
  |none=>aopS cx G o K s)
 |op=>if zdQ cx.P op then aop cx G o K s else aopS cx G o K s
def aopsT (cx:Cx) (tab:Tab) (all:Array Oper):List Oper->(AS->Prop)->AS->Prop
 | [],K,s=>K s
 |o::r,K,s=>match zbi s all o.guard with
  |some G=>aopT cx tab G o (aopsT cx tab all r K) s
  |none=>False
section
variable {cx : Cx} {tab : Tab} {E : Env} {s : AS} {a : Act} {w : World}
theorem zev {all:Array Oper} {o:Oper} {G:Bool} (hs:Slots w E s a) (hg:zbi s all o.guard=some G):Region.wanted o (yielded all a.tmps)=G:=by
 unfold zbi at hg;unfold Region.wanted;cases ho:o.guard with
 |none=>simp [ho] at hg;simp [hg]
 | some p=>
  obtain ⟨j,want⟩:=p;simp only [ho] at hg ⊢;unfold yielded;cases hj:(all[j]?).bind (·.dst) with
  |none=>simp [hj] at hg
  | some d=>
   simp only [hj] at hg;cases hl:lk s.t d with
   |none=>simp [hl] at hg
   | some q=>
    obtain ⟨g,v⟩:=q;obtain ⟨x,hx,hr,hu⟩:=hs d g v hl;simp only [hl] at hg;simp only [Option.bind_some,hx];split at hg
    ·rename_i g' b e;simp only [Option.some.injEq,Prod.mk.injEq] at e hg;obtain ⟨rfl,rfl⟩:=e;subst hg;cases g with
     |true=>
      have:=hr rfl;simp only [Rep,RepD] at this;subst this;cases b<;>cases want<;>rfl
     |false=>
      have:=hu rfl;subst this;simp [undef]
    ·rename_i v' e;simp only [Option.some.injEq,Prod.mk.injEq] at e hg;obtain ⟨rfl,rfl⟩:=e;subst hg;have:=hu rfl;subst this;simp [undef]
    ·cases hg
theorem zkP {o:Oper} {G:Bool} {K:AS->Prop} (hq:zdQ cx.P o.op=false) (h:aopS cx G o K s):aop cx G o K s:=by
 obtain ⟨hd,h⟩:=h;refine ⟨hd,?_⟩;split
 ·rename_i x he;rw [he] at hq;cases hq
 ·rename_i x he;rw [he] at hq;cases hq
 ·rename_i x y z he;rw [he] at hq;cases hq
 ·have hv:isVal cx.P o.op=false:=by cases hop:o.op<;>rw [hop] at hq<;>first|exact hq|rfl
  rw [if_neg (by simp [hv])];cases G
  ·exact ⟨(λe=>by cases e),λ_=>by simpa using h⟩
  ·exact ⟨(λ_=>by simpa using h),λe=>by cases e⟩
theorem ziq (ht:TabOk cx.P tab) {all:Array Oper} {o:Oper} {G:Bool} {K:AS->Prop} {Q:Exit->Act->World->Prop} (hs:Sat cx E s a w) (hg:zbi s all o.guard=some G) (h:aopT cx tab G o K s):
  if Region.wanted o (yielded all a.tmps) then o.wpIn cx.F 0 cx.P a w (Reach cx E s.h w K) Q else (∀f,o.about cx.P w a.eval=some f->cx.F.fn f)/\Reach cx E s.h w K (a.put o.dst undef) w:=by
 unfold aopT at h;split at h
 ·rename_i c hop;split at h
  ·exact zj9 hs hg h
  ·rename_i hnv;split at h
   ·rename_i f args vc hcall;split at h
    ·rename_i pre r htab;obtain ⟨hd,hv,hk⟩:=h;rw [zev hs.slots hg];cases G with
     | true=>
      obtain ⟨hvc,hpre,hor⟩:=hv rfl;obtain ⟨hri,hc⟩:=ht.ok _ _ _ _ htab hpre;simp only [if_true];refine zg8 hs hd ?_;unfold aop1;rw [hop];simp only [hnv,hcall]
      have hcc:ACallAt cx.P cx.fl f args s.h (λr' h'=>r'=r/\h'=s.h):=by
       rcases hor with hsc|hids
       ·exact hc.read hsc
       ·exact hc.data hids hri
      refine ⟨hvc,hcc.mono ?_⟩;rintro r' h' ⟨rfl,rfl⟩;exact hk
     |false=>
      simp only [Bool.false_eq_true,if_false];exact ⟨λ_ _=>trivial,E,_,hk,hs.put (λk e=>by rw [e] at hd;exact hd) (λe=>by cases e) (λ_=>rfl),by cases o.dst<;>exact Evo.refl _ _ _ _⟩
    ·exact zj9 hs hg (zkP (by rw [hop];simpa [zdQ] using hnv) h)
   ·exact zj9 hs hg (zkP (by rw [hop];simpa [zdQ] using hnv) h)
 ·split at h
  ·exact zj9 hs hg h
  ·rename_i hq;exact zj9 hs hg (zkP (by simpa using hq) h)
theorem zkQ (ht:TabOk cx.P tab) {all:Array Oper} :∀ (l:List Nat) (ops:List Oper) {K:AS->Prop} {s:AS} {E:Env} {a:Act} {w:World},l.map (all[·]?)=ops.map some->Sat cx E s a w->aopsT cx tab all ops K s->
  wpOpsIn cx.F 0 cx.P all (λe a' w'=>e= .normal/\Reach cx E s.h w K a' w') l a w
 | [],ops,K,s,E,a,w,hl,hs,h=>by
  have:ops= []:=by simpa using hl.symm
  subst this;exact ⟨rfl,zgg hs h⟩
 |i::l,[],K,s,E,a,w,hl,hs,h=>by simp at hl
 | i::l,o::ops,K,s,E,a,w,hl,hs,h=>by
  simp only [List.map_cons,List.cons.injEq] at hl;obtain ⟨hi,hl⟩:=hl;simp only [aopsT] at h;split at h
  ·rename_i G hg;simp only [wpOpsIn,hi];have:=ziq ht (Q:=λ_ _ _=>False) hs hg h;split at this
   ·rename_i hw;rw [if_pos hw];refine zbx this ?_;rintro a1 w1 ⟨E1,s1,hk,hs1,he1⟩;have ih:=zkQ ht l ops hl hs1 hk;refine zaR _ ih ?_;rintro e a2 w2 ⟨rfl,hr⟩;exact ⟨rfl,hr.trans he1⟩
   ·rename_i hw;rw [if_neg hw];refine ⟨this.1,?_⟩;obtain ⟨E1,s1,hk,hs1,he1⟩:=this.2;have ih:=zkQ ht l ops hl hs1 hk;refine zaR _ ih ?_;rintro e a2 w2 ⟨rfl,hr⟩;exact ⟨rfl,hr.trans he1⟩
  ·exact h.elim
theorem zan {id:Nat} {ops:Array Oper} {Q:Exit->AS->Prop} (tab:Tab) (ht:TabOk cx.P tab) (h:aopsT cx tab ops ops.toList (Q .normal) s):AW cx (.region id ops false) Q s:=λE a w hs=>
 wpIn_region (zaR _ (zkQ ht _ _ (zim ops) hs h) (by rintro e a' w' ⟨rfl,hr⟩;exact hr))
theorem zi {id:Nat} {ops:Array Oper} {y:Code} {Q:Exit->AS->Prop} (tab:Tab) (ht:TabOk cx.P tab) (h:∀K,(∀s',AW cx y Q s'->K s')->aopsT cx tab ops ops.toList K s):AW cx (.seq (.region id ops false) y) Q s:=
 zaM λK hK=>zan tab ht (h K hK)
end
@[go_sem] theorem frz_d (n:Nat) (h:AHeap) (x:D):frz n h (.d x)= .d x:=by cases n<;>rfl
@[go_sem] theorem frz_nils (n:Nat) (h:AHeap) (k:Nat):frz (n+1) h (.nils k)= .d (.sl k []):=rfl
@[go_sem] theorem frz_agg (n:Nat) (h:AHeap) (cs:List AV):frz (n+1) h (.agg cs)= .agg (cs.map (frz n h)):=rfl
@[go_sem] theorem frz_tup (n:Nat) (h:AHeap) (cs:List AV):frz (n+1) h (.tup cs)= .tup (cs.map (frz n h)):=rfl
@[go_sem] theorem frz_dp (n:Nat) (h:AHeap) (cs:List AV):frz (n+1) h (.dp cs)= .dp (cs.map (frz n h)):=rfl
@[go_sem] theorem frz_fn (n:Nat) (h:AHeap) (f:Fn) (fs cs:List AV):frz (n+1) h (.fn f fs cs)= .fn f (fs.map (frz n h)) (cs.map (frz n h)):=rfl
@[go_sem] theorem frz_asl (n:Nat) (h:AHeap) (k:Nat) (rows:List (List AV)):frz (n+1) h (.asl k rows)= .asl k (rows.map (List.map (frz n h))):=rfl
@[go_sem] theorem zx9 (n:Nat) (h:AHeap):frz (n+1) h .nilfn= .nilfn:=rfl
@[go_sem] theorem zxV (n:Nat) (h:AHeap):frz (n+1) h .nilmap= .nilmap:=rfl
@[go_sem] theorem zya (n:Nat) (h:AHeap) (t:Nat) (v:AV):frz (n+1) h (.iface t v)= .iface t (frz n h v):=rfl
@[go_sem] theorem frz_vp (n:Nat) (h:AHeap) (i off:Nat):frz (n+1) h (.vp i off)=(match hget h i with
   |some (.var cs)=> .dp ((cs.drop off).map (frz n h))
   |_=> .any):=rfl
@[go_sem] theorem frz_osl (n:Nat) (h:AHeap) (i k m off len:Nat):frz (n+1) h (.osl i k m off len)=(match hget h i with
   |some (.arr k' xs)=>if k=k'/\m=xs.length/\off+len<=m then .d (.sl k ((xs.drop off).take len)) else .any
   |_=> .any):=rfl
@[go_sem] theorem zxW (f:FuncId) (l:List AV):noTab f l=none:=rfl
attribute [go_sem] aopsT aopT aopS zdQ AV.scal AV.scalL D.scal AV.ids AV.idsL AV.idsR
end Go.Aw
