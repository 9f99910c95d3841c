/-
  Parts of the proof: AwFrz, AwIter, AwRange, AwRange2, AwRange3, AwDraw, AwDraw2, AwDraw3, AwDraw4, AwDraw5, AwDraw6 (short names; the readable texts lie in the repo, under wip).
-/
import Derived.Test.YtglmbboafmmnpaaGreatDoorPart2
import Derived.OrdersIn
set_option maxRecDepth 100000
set_option maxHeartbeats 2000000
set_option linter.unusedSimpArgs false
set_option linter.unusedVariables false
namespace Go.Aw
open Go
mutual
def AV.fz (i:Nat) (o:AObj):AV→AV
 | .osl j k m off len=>if j=i then (match o with
  | .arr k' xs=>if k=k'∧m=xs.length∧off+len≤m then .d (.sl k ((xs.drop off).take len)) else .any
  |_=> .any) else .osl j k m off len
 | .ap j n k r off=>if j=i then .any else .ap j n k r off
 | .vp j off=>if j=i then (match o with
  | .var cs=>if ((AV.idsL cs).all fun l=>l !=i)=true then .dp (cs.drop off) else .any
  |_=> .any) else .vp j off
 | .vsl j k off len=>if j=i then .any else .vsl j k off len
 | .map j=>if j=i then .any else .map j
 | .itr j=>if j=i then .any else .itr j
 | .agg cs=> .agg (AV.fzL i o cs)
 | .tup cs=> .tup (AV.fzL i o cs)
 | .dp cs=> .dp (AV.fzL i o cs)
 | .fn f fs cs=> .fn f (AV.fzL i o fs) (AV.fzL i o cs)
 | .asl k rows=> .asl k (AV.fzR i o rows)
 | .iface t v=> .iface t (v.fz i o)
 | .d x=> .d x
 | .nils k=> .nils k
 | .nilfn=> .nilfn
 | .any=> .any
 | .nilmap=> .nilmap
 | .raw v=> .raw v
 | .tp j off=>if j=i then .any else .tp j off
 | .bsl j n=>if j=i then .any else .bsl j n
def AV.fzL (i:Nat) (o:AObj):List AV→List AV
 | []=> []
 |x::xs=>x.fz i o::AV.fzL i o xs
def AV.fzR (i:Nat) (o:AObj):List (List AV)→List (List AV)
 | []=> []
 |x::xs=>AV.fzL i o x::AV.fzR i o xs
end
def AObj.fz (i:Nat) (o:AObj):AObj→AObj
 | .var cs=> .var (AV.fzL i o cs)
 | .tvar t cs=> .tvar t (AV.fzL i o cs)
 |x=>x
def hfz (i:Nat) (o:AObj):AHeap→AHeap
 | []=> []
 |(j,x)::r=>if j=i then hfz i o r else (j,AObj.fz i o x)::hfz i o r
def tfz (i:Nat) (o:AObj):List (Nat×(Bool×AV))→List (Nat×(Bool×AV))
 | []=> []
 |(k,(g,v))::r=>(k,(g,v.fz i o))::tfz i o r
theorem zjW:∀ {cs:List AV} {n l:Nat},l∈AV.idsL (cs.drop n)→l∈AV.idsL cs
 | [],n,l,h=>by simpa using h
 |x::xs,0,l,h=>h
 |x::xs,n+1,l,h=>by
  simp only [AV.idsL,List.mem_append]
  exact .inr (zjW h)
theorem zev (i:Nat) (o:AObj):∀cs:List AV,(AV.fzL i o cs).length=cs.length
 | []=>rfl
 |x::xs=>by simp [AV.fzL,zev i o xs]
theorem zfO (i:Nat) (o:AObj):∀cs:List (List AV),(AV.fzR i o cs).length=cs.length
 | []=>rfl
 |x::xs=>by simp [AV.fzR,zfO i o xs]
theorem zc2 (i:Nat) (o:AObj):∀ (h:AHeap) (j:Nat),hget (hfz i o h) j=if j=i then none else (hget h j).map (AObj.fz i o)
  | [],j=>by simp [hfz,hget]
  | (k,x)::r,j=>by
    simp only [hfz,hget]
    by_cases hk:k=i
    · rw [if_pos hk,zc2 i o r j]
      by_cases hj:j=i
      · simp [hj]
      · rw [if_neg hj,if_neg hj,if_neg (by rintro rfl;exact hj hk)]
    · rw [if_neg hk]
      simp only [hget]
      by_cases hkj:k=j
      · subst hkj;simp [hk]
      · rw [if_neg hkj,if_neg hkj];exact zc2 i o r j
theorem zsW (i:Nat) (o:AObj):∀ (t:List (Nat×(Bool×AV))) (k:Nat),lk (tfz i o t) k=(lk t k).map fun q=>(q.1,q.2.fz i o)
  | [],k=>by simp [tfz,lk]
  | (j,(g,v))::r,k=>by
    simp only [tfz,lk]
    by_cases e:j=k
    · simp [e]
    · simp only [e,if_false];exact zsW i o r k
section
variable {w : World} {E : Env} {h : AHeap} {i : Nat} {o : AObj}
theorem zdk (j:Nat) (hj:j≠i):GoesOn E h E (hfz i o h) j:=by
 unfold GoesOn
 rw [zc2,if_neg hj]
 cases e:hget h j with
 |none=>trivial
 |some x=>cases x<;>simp [AObj.fz,zev]
theorem zjX {b:Nat} (ho:Own E (hfz i o h) b):Own E h b:=by
 obtain ⟨j,hj,hb⟩:=ho
 rw [zc2] at hj
 split at hj
 ·simp at hj
 ·exact ⟨j,by simpa using hj,hb⟩
theorem fz_xs {b:Nat} (ho:Xs E (hfz i o h) b):Xs E h b:=ho.imp zjX id
theorem zpf (hs:SatH E h w) (hi:hget h i=some o) {b:Nat} (hb:E.O i=some b):¬Xs E (hfz i o h) b:=by
 have ho:Own E h b:=⟨i,by simp [hi],hb⟩
 have:=hs.own b ho
 rintro (hx|hx|hx)
 ·obtain ⟨j,hj,hb'⟩:=hx
  rw [zc2] at hj
  split at hj
  ·simp at hj
  ·rename_i hne
   exact hne (hs.inj j i b (by simpa using hj) (by simp [hi]) hb' hb)
 ·exact this.2.1 hx
 ·exact this.2.2 hx
mutual
theorem zpg (hs:SatH E h w) (hi:hget h i=some o):∀ (a:AV) (v:Value),Rep w E h a v→Rep w E (hfz i o h) (a.fz i o) v
 | .osl j k m off len,v,hr=>by
  simp only [AV.fz]
  split
  ·rename_i e;subst e
   split
   ·rename_i k' xs
    split
    ·rename_i hc
     obtain ⟨rfl,rfl,hle⟩:=hc
     simp only [Rep,RepD] at hr ⊢
     obtain ⟨_,xs',h1,_,h3,h4⟩:=hr
     rw [hi] at h1;cases h1
     have hlen:((xs.drop off).take len).length=len:=by simp;omega
     have hob:=hs.heap j _ hi
     simp only [RepObj] at hob
     rcases h4 rfl with ⟨⟨g1,g10⟩,rfl⟩|⟨b,g1,rfl⟩|⟨g1,rfl,a,cap,rfl⟩
     ·obtain rfl:xs= []:=List.length_eq_zero_iff.1 g10
      exact .inl ⟨by simp,none,0,rfl⟩
     ·rcases hob with ⟨q1,_⟩|⟨b',c,T,fz,q1,q2,q3,q4,q5,_⟩
      ·rw [g1] at q1;cases q1
      ·rw [g1] at q1;cases q1
       exact .inr ⟨⟨b,off*k,none⟩,E.C j - off,c,T,fz,by rw [hlen],rfl,by rw [hlen];omega,zpf hs hi g1,q2,RepRows.step (fun _ _=>fz_xs) (fun _ _ _=>rfl) _ _ _ ((RepRows.drop q5 off).take len)⟩
     ·exact .inl ⟨by simp,a,cap,rfl⟩
    ·simp only [Rep]
   ·simp only [Rep]
  ·rename_i e
   exact Rep.step (fun _ _=>fz_xs) (fun _ _ _=>rfl) (.osl j k m off len) v (fun l hl=>by simp only [AV.ids,List.mem_singleton] at hl;subst hl;exact zdk _ e) hr
 | .ap j n k r off,v,hr=>by
  simp only [AV.fz]
  split
  ·simp only [Rep]
  ·rename_i e
   exact Rep.step (fun _ _=>fz_xs) (fun _ _ _=>rfl) (.ap j n k r off) v (fun l hl=>by simp only [AV.ids,List.mem_singleton] at hl;subst hl;exact zdk _ e) hr
 | .vp j off,v,hr=>by
  simp only [AV.fz]
  split
  ·rename_i e;subst e
   split
   ·rename_i cs
    split
    ·rename_i hc
     simp only [Rep] at hr ⊢
     obtain ⟨b,cs',g1,g2,rfl⟩:=hr
     rw [hi] at g1;cases g1
     have hob:=hs.heap j _ hi
     simp only [RepObj] at hob
     obtain ⟨b',c,T,fz,q1,q2,q3,q4⟩:=hob
     rw [g2] at q1;cases q1
     have h5:=Reps.drop q3 off
     have hl:=Reps.length h5
     refine ⟨⟨b,off,none⟩,c,T,fz,rfl,rfl,zpf hs hi g2,q2,?_⟩
     rw [List.take_of_length_le (Nat.le_of_eq hl)]
     exact Reps.step (fun _ _=>fz_xs) (fun _ _ _=>rfl) _ _ (fun l hl=>zdk _ (by
      have:=List.all_eq_true.1 hc l (zjW hl)
      simpa using this)) h5
    ·simp only [Rep]
   ·simp only [Rep]
  ·rename_i e
   exact Rep.step (fun _ _=>fz_xs) (fun _ _ _=>rfl) (.vp j off) v (fun l hl=>by simp only [AV.ids,List.mem_singleton] at hl;subst hl;exact zdk _ e) hr
 | .tp j off,v,hr=>by
  simp only [AV.fz]
  split
  ·simp only [Rep]
  ·rename_i e
   exact Rep.step (fun _ _=>fz_xs) (fun _ _ _=>rfl) (.tp j off) v (fun l hl=>by simp only [AV.ids,List.mem_singleton] at hl;subst hl;exact zdk _ e) hr
 | .bsl j n,v,hr=>by
  simp only [AV.fz]
  split
  ·simp only [Rep]
  ·rename_i e
   exact Rep.step (fun _ _=>fz_xs) (fun _ _ _=>rfl) (.bsl j n) v (fun l hl=>by simp only [AV.ids,List.mem_singleton] at hl;subst hl;exact zdk _ e) hr
 | .vsl j k off len,v,hr=>by
  simp only [AV.fz]
  split
  ·simp only [Rep]
  ·rename_i e
   exact Rep.step (fun _ _=>fz_xs) (fun _ _ _=>rfl) (.vsl j k off len) v (fun l hl=>by simp only [AV.ids,List.mem_singleton] at hl;subst hl;exact zdk _ e) hr
 | .map j,v,hr=>by
  simp only [AV.fz]
  split
  ·simp only [Rep]
  ·rename_i e
   exact Rep.step (fun _ _=>fz_xs) (fun _ _ _=>rfl) (.map j) v (fun l hl=>by simp only [AV.ids,List.mem_singleton] at hl;subst hl;exact zdk _ e) hr
 | .itr j,v,hr=>by
  simp only [AV.fz]
  split
  ·simp only [Rep]
  ·rename_i e
   exact Rep.step (fun _ _=>fz_xs) (fun _ _ _=>rfl) (.itr j) v (fun l hl=>by simp only [AV.ids,List.mem_singleton] at hl;subst hl;exact zdk _ e) hr
 | .agg cs,v,hr=>by
  simp only [AV.fz,Rep] at hr ⊢
  obtain ⟨vs,h1,h2⟩:=hr
  exact ⟨vs,h1,zdK hs hi cs _ h2⟩
 | .tup cs,v,hr=>by
  simp only [AV.fz,Rep] at hr ⊢
  obtain ⟨vs,h1,h2⟩:=hr
  exact ⟨vs,h1,zdK hs hi cs _ h2⟩
 | .dp cs,v,hr=>by
  simp only [AV.fz,Rep] at hr ⊢
  obtain ⟨a,c,T,fz,h1,h2,h3,h4,h5⟩:=hr
  exact ⟨a,c,T,fz,h1,h2,fun hx=>h3 (fz_xs hx),h4,by rw [zev];exact zdK hs hi cs _ h5⟩
 | .fn f fs cs,v,hr=>by
  simp only [AV.fz,Rep] at hr ⊢
  obtain ⟨a,b,h1,h2,h3⟩:=hr
  exact ⟨a,b,h1,zdK hs hi fs _ h2,zdK hs hi cs _ h3⟩
 | .asl k rows,v,hr=>by
  simp only [AV.fz,Rep] at hr ⊢
  obtain ⟨a,cap,c,T,fz,h1,h2,h3,h4,h5,h6⟩:=hr
  exact ⟨a,cap,c,T,fz,by rw [zfO];exact h1,h2,by rw [zfO];exact h3,fun hx=>h4 (fz_xs hx),h5,zph hs hi k rows _ h6⟩
 | .iface t x,v,hr=>by
  simp only [AV.fz,Rep] at hr ⊢
  obtain ⟨y,h1,h2⟩:=hr
  exact ⟨y,h1,zpg hs hi x y h2⟩
 | .d x,v,hr=>by
  simp only [AV.fz,Rep] at hr ⊢
  exact RepD.step (fun _ _=>fz_xs) (fun _ _ _=>rfl) x v hr
 | .nils k,v,hr=>by simpa only [AV.fz,Rep] using hr
 | .nilfn,v,hr=>by simpa only [AV.fz,Rep] using hr
 | .any,v,hr=>by simp only [AV.fz,Rep]
 | .nilmap,v,hr=>by simpa only [AV.fz,Rep] using hr
 | .raw _,v,hr=>by simpa only [AV.fz,Rep] using hr
theorem zdK (hs:SatH E h w) (hi:hget h i=some o):∀ (aZ:List AV) (vs:List Value),Reps w E h aZ vs→Reps w E (hfz i o h) (AV.fzL i o aZ) vs
 | [],vs,hr=>by simpa only [AV.fzL,Reps] using hr
 |x::xs,vs,hr=>by
  simp only [AV.fzL,Reps] at hr ⊢
  obtain ⟨v,r,h1,h2,h3⟩:=hr
  exact ⟨v,r,h1,zpg hs hi x v h2,zdK hs hi xs r h3⟩
theorem zph (hs:SatH E h w) (hi:hget h i=some o) (k:Nat):∀ (aZ:List (List AV)) (vs:List Value),RepARows w E h k aZ vs→RepARows w E (hfz i o h) k (AV.fzR i o aZ) vs
 | [],vs,hr=>by simp only [AV.fzR,RepARows]
 |x::xs,vs,hr=>by
  simp only [AV.fzR,RepARows] at hr ⊢
  exact ⟨by rw [zev];exact hr.1,zdK hs hi x _ hr.2.1,zph hs hi k xs _ hr.2.2⟩
end
theorem zuI (hs:SatH E h w) (hi:hget h i=some o):SatH E (hfz i o h) w where
 heap:=fun j x hx=>by
  rw [zc2] at hx
  split at hx
  ·cases hx
  ·obtain ⟨y,hy,rfl⟩:=Option.map_eq_some_iff.1 hx
   have:=hs.heap j y hy
   cases y with
   |var cs=>
    simp only [AObj.fz,RepObj] at this ⊢
    obtain ⟨b,c,T,fz,g1,g2,g3,g4⟩:=this
    exact ⟨b,c,T,fz,g1,g2,zdK hs hi _ _ g3,g4⟩
   |tvar tt cs=>
    simp only [AObj.fz,RepObj] at this ⊢
    obtain ⟨b,c,T,fz,g1,g2,g3,g4⟩:=this
    exact ⟨b,c,T,fz,g1,g2,zdK hs hi _ _ g3,g4⟩
   |arr k xs=>
    simp only [AObj.fz,RepObj] at this ⊢
    rcases this with g|⟨b,c,T,fz,g1,g2,g3,g4,g5,g6⟩
    ·exact .inl g
    ·exact .inr ⟨b,c,T,fz,g1,g2,g3,g4,RepRows.step (fun _ _=>fz_xs) (fun _ _ _=>rfl) _ _ _ g5,g6⟩
   |buf tt xs=>
    simp only [AObj.fz,RepObj] at this ⊢
    rcases this with g|⟨b,c,T,fz,g1,g2,g3,g4,g5,g6⟩
    ·exact .inl g
    ·exact .inr ⟨b,c,T,fz,g1,g2,g3,g4,g5,g6⟩
   |strit l q=>exact this
   |omap es=>exact this
 inj:=fun a b c ha hb=>by
  rw [zc2] at ha hb
  split at ha
  ·simp at ha
  ·split at hb
   ·simp at hb
   ·exact hs.inj a b c (by simpa using ha) (by simpa using hb)
 own:=fun b hb=>hs.own b (zjX hb)
 mlt:=hs.mlt
 nlt:=hs.nlt
def AS.fz (s:AS) (i:Nat) (o:AObj):AS:= { t:=tfz i o s.t,h:=hfz i o s.h,g:=s.g }
theorem zaQ {cx:Cx} {c:Code} {Q:Exit→AS→Prop} {s:AS} (i:Nat) {o:AObj} (hi:hget s.h i=some o) (h:AW cx c Q (s.fz i o)):AW cx c Q s:=fun E a w hs=>by
  have hs':Sat cx E (s.fz i o) a w:=
    { slots:=fun k g v hk=>by
        have hk':lk (tfz i o s.t) k=some (g,v):=hk
        rw [zsW] at hk'
        obtain ⟨q,hq,e⟩:=Option.map_eq_some_iff.1 hk'
        obtain ⟨g',v'⟩:=q
        simp only [Prod.mk.injEq] at e
        obtain ⟨rfl,rfl⟩:=e
        obtain ⟨x,h1,h2,h3⟩:=hs.slots k g' v' hq
        exact ⟨x,h1,fun e=>zpg hs.hp hi v' x (h2 e),h3⟩
      nt:=hs.nt
      hp:=zuI hs.hp hi
      base:=hs.base
      marks:=hs.marks
      ghost:=cx.stab _ _ _ _ _ w _ (fun _ _ _=>rfl) (fun _ hb=> .inl (hb.imp zjX id)) (fun b hb=>hb.elim (fun h=>(hs.hp.own b (zjX h)).1) hs.marks.lt) (Nat.le_refl _) rfl rfl rfl hs.ghost }
  refine wpIn_mono (h E a w hs') (fun _ _ _ hr=>hr.trans ?_)
  exact ⟨rfl,rfl,rfl,Nat.le_refl _,fun _ _ _ _=>rfl,fun b hb=> .inl (zjX hb),fun _ h=>h,fun _ h=> .inl h,rfl,fun j _ hj=>by
    have hj':(hget (hfz i o s.h) j).isSome:=hj
    rw [zc2] at hj'
    split at hj'
    · simp at hj'
    · rename_i hne
      exact ⟨by simpa using hj',zdk j hne⟩⟩
theorem zcd {cx:Cx} {c:Code} {Q:Exit→AS→Prop} {s:AS} (t:Nat) (k:Nat) (hk:lk s.t t=some (true,.nils k)) (h:AW cx c Q { s with t:=(t,(true,.osl (fresh cx.fl s.h) k 0 0 0))::s.t,h:=(fresh cx.fl s.h,.arr k [])::s.h }):AW cx c Q s:=fun E a w hs=>by
  have cc:Chg E s.h w (E.set (fresh cx.fl s.h) none 0) ((fresh cx.fl s.h,.arr k [])::s.h) w (fresh cx.fl s.h):=
    { os:=rfl,tape:=rfl,output:=rfl,size:=Nat.le_refl _,envO:=fun j e=>by simp [Env.set,e],envC:=fun j e=>by simp [Env.set,e],M:=rfl,N:=rfl,hh:=fun j e=>by simp [hget,Ne.symm e],
      gi:=by simp [GoesOn,zb0]
      blk:=fun b hb _=>rfl
      new:=fun b _ hb=>by simp [Env.set] at hb }
  have hs1:=cc.sat (t:=s.t) (g:=s.g) hs (fun o ho=>by
    simp [hget] at ho
    subst ho
    simp only [RepObj]
    exact .inl ⟨by simp [Env.set],.inl trivial⟩)
  obtain ⟨x,h1,h2,h3⟩:=hs.slots t true _ hk
  have hx:x= .slice none 0 0:=by have:=h2 rfl;simpa only [Rep] using this
  subst hx
  refine wpIn_mono (h _ a w ⟨fun j g v hj=>?_,hs1.nt,hs1.hp,hs1.base,hs1.marks,hs1.ghost⟩) (fun _ _ _ hr=>hr.trans (cc.evo (.inr (zaT _ _))))
  simp only [lk] at hj
  split at hj
  · rename_i e;subst e
    simp only [Option.some.injEq,Prod.mk.injEq] at hj
    obtain ⟨rfl,rfl⟩:=hj
    refine ⟨_,h1,fun _=>?_,fun e=>by cases e⟩
    simp only [Rep]
    exact ⟨⟨_,_,_,rfl⟩,[],by simp [hget],by simp,by simp,fun _=> .inl ⟨by simp [Env.set],trivial⟩⟩
  · exact hs1.slots j g v hj
theorem zpi {cx:Cx} {c:Code} {Q:Exit→AS→Prop} {s:AS} (i o k:Nat) {cs:List AV} (hi:hget s.h i=some (.var cs)) (ho:cs[o]?=some (.nils k))
    (h:AW cx c Q { s with h:=(fresh cx.fl s.h,.arr k [])::hset s.h i (.var (cs.set o (.osl (fresh cx.fl s.h) k 0 0 0))) }):AW cx c Q s:=fun E a w hs=>by
  have hne:fresh cx.fl s.h≠i:=fun e=>by
    have:=zb0 cx.fl s.h
    rw [e,hi] at this;cases this
  have cc:Chg E s.h w (E.set (fresh cx.fl s.h) none 0) ((fresh cx.fl s.h,.arr k [])::s.h) w (fresh cx.fl s.h):=
    { os:=rfl,tape:=rfl,output:=rfl,size:=Nat.le_refl _,envO:=fun j e=>by simp [Env.set,e],envC:=fun j e=>by simp [Env.set,e],M:=rfl,N:=rfl,hh:=fun j e=>by simp [hget,Ne.symm e],
      gi:=by simp [GoesOn,zb0]
      blk:=fun b hb _=>rfl
      new:=fun b _ hb=>by simp [Env.set] at hb }
  have hs1:=cc.sat (t:=s.t) (g:=s.g) hs (fun o ho=>by
    simp [hget] at ho
    subst ho
    simp only [RepObj]
    exact .inl ⟨by simp [Env.set],.inl trivial⟩)
  have hi1:hget ((fresh cx.fl s.h,.arr k [])::s.h) i=some (.var cs):=by simp [hget,hne,hi]
  have e1:(fresh cx.fl s.h,AObj.arr k [])::hset s.h i (.var (cs.set o (.osl (fresh cx.fl s.h) k 0 0 0)))=hset ((fresh cx.fl s.h,.arr k [])::s.h) i (.var (cs.set o (.osl (fresh cx.fl s.h) k 0 0 0))):=by
    simp [hset,hne]
  obtain ⟨E1,hE1⟩:∃E1,E1=E.set (fresh cx.fl s.h) none 0:=⟨_,rfl⟩
  rw [← hE1] at hs1 cc
  obtain ⟨b,c',T,fz,g1,g2,g3,g4⟩:=hs1.hp.var hi1
  have ch:=zlk (w:=w) hs1.hp hi1 (cs':=cs.set o (.osl (fresh cx.fl s.h) k 0 0 0)) (by simp) g1 (.cells c' T fz)
  have hrow:World.row w b (.cells c' T fz)=w:=by
    obtain ⟨hlt,hb'⟩:=Array.getElem?_eq_some_iff.1 g2
    unfold World.row
    rw [← hb',Array.setIfInBounds_def,dif_pos hlt,Array.set_getElem_self]
  rw [hrow] at ch
  have hs2:=ch.sat (t:=s.t) (g:=s.g) hs1 (fun ob hob=>by
    rw [ze hi1] at hob
    cases hob
    simp only [RepObj]
    refine ⟨b,c',T,fz,g1,g2,?_,g4⟩
    have h3:=ch.reps g3
    obtain ⟨v,hv,hr⟩:=Reps.get g3 ho
    simp only [Rep] at hr
    have hset:=h3.set (i:=o) (a:= .osl (fresh cx.fl s.h) k 0 0 0) (v:= .slice none 0 0) (by
      simp only [Rep]
      refine ⟨⟨_,_,_,rfl⟩,[],?_,by simp,by simp,fun _=> .inl ⟨by rw [hE1];simp [Env.set],trivial⟩⟩
      rw [zB (by simpa using hne)]
      simp [hget])
    subst hr
    have:c'.toList.set o (.slice none 0 0)=c'.toList:=by
      apply List.ext_getElem?
      intro j
      rw [List.getElem?_set]
      split
      · rename_i e;subst e
        split
        · exact hv.symm
        · rename_i hlt
          rw [List.getElem?_eq_none (by omega)]
      · rfl
    rw [this] at hset
    exact hset)
  rw [← e1] at hs2 ch
  refine wpIn_mono (h E1 a w hs2) (fun _ _ _ hr=>hr.trans ((cc.evo (.inr (zaT _ _))).trans (ch.evo (.inl (by rw [hi1];rfl)))))
theorem zgD {p:Nat→Bool} :∀ {h:AHeap},(∀q∈h,p q.1=true)→hsel p h=h
  | [],_=>rfl
  | (k,o)::r,hh=>by
    simp only [hsel]
    rw [if_pos (hh (k,o) (by simp)),zgD (fun q hq=>hh q (by simp [hq]))]
end
attribute [go_sem] AS.fz tfz hfz AObj.fz AV.fz AV.fzL AV.fzR List.all_nil List.all_cons List.all_append
open Go
structure Yo (P:Program) (items:List (List AV)) where
 yl:Nat
 G:Option (List (List AV))→(Nat→Prop)→(Nat→Prop)→(Nat→Prop)→World→Prop
 stab:∀g M N A A' w w',(∀b,b<w.heap.size→¬A b→w'.heap[b]?=w.heap[b]?)→(∀b,A' b→A b∨w.heap.size≤b)→(∀b,A' b→b<w'.heap.size)→w.heap.size≤w'.heap.size→w'.tape=w.tape→w'.os=w.os→w'.output=w.output→G g M N A w→G g M N A' w'
 yok:∀xs x X M N A w (vs:Array Value),G (some xs) M N A w→(∀b,M b∨N b∨A b→X b)→Reps w (bare X) [] x vs.toList→(xs++ [x])<+:items→
  ziK P yl vs w (fun e w'=>∃b M',e= .returned (.bool b)∧w'.os=w.os∧w'.tape=w.tape∧w'.output=w.output∧w.heap.size≤w'.heap.size∧(∀k,k<w.heap.size→¬M k→w'.heap[k]?=w.heap[k]?)∧
   (∀k,M k→M' k)∧(∀k,M' k→M k∨(w.heap.size≤k∧k<w'.heap.size))∧G (if b=true then some (xs++ [x]) else none) M' N A w')
def cxY (P:Program) {items:List (List AV)} (base nt fl:Nat) (y:Yo P items):Cx:= { P:=P,ro:=none,base:=base,nt:=nt,fl:=fl,G:=y.G,stab:=y.stab,yl:=y.yl,items:=items,yok:=y.yok }
def AIter (P:Program) (f:FuncId) (fl:Nat) (pre caps:List AV) (h:AHeap) (items:List (List AV)) (K:Option (List (List AV))→AHeap→Prop):Prop:=
 zfe P f∧∀ (y:Yo P items) E w (us vs:Array Value),SatH E h w→Reps w E h pre us.toList→Reps w E h caps vs.toList→y.G (some []) E.M E.N (Own E h) w→
  Calls P f (us++ #[Value.func (.yield y.yl) #[] #[]]++vs) w (fun e w'=>∃v E' h' g,e= .returned v∧K g h'∧SatH E' h' w'∧Evo fl E h w E' h' w'∧y.G g E'.M E'.N (Own E' h') w')
def IterK (K:Option (List (List AV))→AHeap→Prop):Exit→AS→Prop
 | .normal,s=>K s.g s.h
 | .ret,s=>K s.g s.h
 |_,_=>False
section
variable {P : Program}
theorem zjY {f:FuncId} {fn:Func} {c:Code} {nt fl:Nat} {pre caps:List AV} {h:AHeap} {items:List (List AV)} {K:Option (List (List AV))→AHeap→Prop} (hf:P.funcs[f]?=some fn) (hb:fn.body=some c) (hnt:fn.ntmps=nt) (hres:fn.results= #[]) (hn:pre.length+caps.length+1≤nt) (y:Yo P items)
  (haw:∀base,AW (cxY P base nt fl y) c (IterK K) { t:=zaP 0 (pre++ .fn (.yield y.yl) [] []::caps),h:=h,g:=some [] }) {E:Env} {w:World} {us vs:Array Value} (hs:SatH E h w) (hp:Reps w E h pre us.toList) (hc:Reps w E h caps vs.toList) (hG:y.G (some []) E.M E.N (Own E h) w):
  Calls P f (us++ #[Value.func (.yield y.yl) #[] #[]]++vs) w (fun e w'=>∃v E' h' g,e= .returned v∧K g h'∧SatH E' h' w'∧Evo fl E h w E' h' w'∧y.G g E'.M E'.N (Own E' h') w'):=by
 refine (callsIn_wide (n:=0)).1 (callsIn_of_wp_marks hf hb trivial ?_ rfl)
 subst hnt
 have hargs:Reps w E h (pre++ .fn (.yield y.yl) [] []::caps) (us++ #[Value.func (.yield y.yl) #[] #[]]++vs).toList:=by
  simp only [Array.toList_append,List.append_assoc]
  refine hp.append ?_
  simp only [List.singleton_append,Reps]
  exact ⟨_,_,rfl,by simp [Rep,Reps],hc⟩
 have hlen:=Reps.length hargs
 have hsat:Sat (cxY P w.heap.size fn.ntmps fl y) E { t:=zaP 0 (pre++ .fn (.yield y.yl) [] []::caps),h:=h,g:=some [] } { tmps:=(us++ #[Value.func (.yield y.yl) #[] #[]]++vs)++Array.replicate (fn.ntmps - (us++ #[Value.func (.yield y.yl) #[] #[]]++vs).size) undef,defers:= [] } w:=by
  refine ⟨fun k g v hk=>?_,?_,hs,Nat.le_refl _,⟨by simp,by simp⟩,?_⟩
  ·obtain ⟨rfl,_,hv⟩:=zd9 _ 0 k hk
   obtain ⟨x,hx,hrx⟩:=Reps.get hargs hv
   have hx':(us++ #[Value.func (.yield y.yl) #[] #[]]++vs)[k]?=some x:=by rw [← Array.getElem?_toList];simpa using hx
   have hk':=(Array.getElem?_eq_some_iff.1 hx').1
   exact ⟨x,by rw [Array.getElem?_append_left hk'];exact hx',fun _=>hrx,fun e=>by cases e⟩
  ·have:(us++ #[Value.func (.yield y.yl) #[] #[]]++vs).size=pre.length+(caps.length+1):=by
    have:=hlen
    rw [Array.length_toList] at this
    simpa using this
   show (_++Array.replicate _ undef).size=fn.ntmps
   rw [Array.size_append,Array.size_replicate]
   omega
  ·exact y.stab _ _ _ _ _ w _ (fun _ _ _=>rfl) (fun b hb=> .inl (hb.elim id (fun ⟨d,hd,_⟩=>by simp at hd))) (fun b hb=>hb.elim (fun h=>(hs.own b h).1) (fun ⟨d,hd,_⟩=>by simp at hd)) (Nat.le_refl _) rfl rfl rfl hG
 refine wpIn_mono (haw w.heap.size E _ w hsat) ?_
 intro e a2 w2 hr2
 have key:Reach (cxY P w.heap.size fn.ntmps fl y) E h w (fun s=>K s.g s.h) a2 w2→LeavesInM Fence.wide 0 P fn a2.tmps (fun e w'=>∃v E' h' g,e= .returned v∧K g h'∧SatH E' h' w'∧Evo fl E h w E' h' w'∧y.G g E'.M E'.N (Own E' h') w') a2.defers .returning w2:=by
  rintro ⟨E2,s2,hK,hs2,he2⟩
  refine zea a2.defers w2 hs2.marks (fun w3 sh hoth=>?_)
  have hp3:SatH E2 s2.h w3:=hs2.hp.refit sh rfl rfl (fun _ _ h=>h) (fun b hb=>(hs2.hp.own b hb).2) hs2.hp.mlt hs2.hp.nlt
  refine ⟨.tuple #[],by rw [zil,hres];simp,_,E2,s2.h,s2.g,rfl,hK,hp3,?_,?_⟩
  ·refine ⟨sh.os.trans he2.os,sh.tape.trans he2.tape,sh.output.trans he2.output,by rw [sh.size];exact he2.size,fun b hb ho hm=>(sh.low b hb).trans (he2.keep b hb ho hm),he2.own,he2.m1,he2.m2,he2.n,he2.go⟩
  ·exact y.stab _ _ _ _ _ w2 _ (fun b _ hb=>hoth b (fun hm=>hb (.inr hm))) (fun b hb=> .inl (.inl hb)) (fun b hb=>(hp3.own b hb).1) (by rw [sh.size];exact Nat.le_refl _) sh.tape sh.os sh.output hs2.ghost
 cases e with
 |normal=>exact key hr2
 |ret=>exact key hr2
 |exit id=>obtain ⟨_,_,h,_⟩:=hr2;exact h.elim
 |goto id=>obtain ⟨_,_,h,_⟩:=hr2;exact h.elim
 |panic c=>obtain ⟨_,_,h,_⟩:=hr2;exact h.elim
 |outgrown=>obtain ⟨_,_,h,_⟩:=hr2;exact h.elim
theorem ziV {f:FuncId} {fn:Func} {c:Code} {nt fl:Nat} {pre caps:List AV} {h:AHeap} {items:List (List AV)} {K:Option (List (List AV))→AHeap→Prop} (hf:P.funcs[f]?=some fn) (hb:fn.body=some c) (hen:zfe P f) (hnt:fn.ntmps=nt) (hres:fn.results= #[]) (hn:pre.length+caps.length+1≤nt)
  (haw:∀base (y:Yo P items),AW (cxY P base nt fl y) c (IterK K) { t:=zaP 0 (pre++ .fn (.yield y.yl) [] []::caps),h:=h,g:=some [] }):AIter P f fl pre caps h items K:=
 ⟨hen,fun y _ _ _ _ hs hp hc hG=>zjY hf hb hnt hres hn y (fun base=>haw base y) hs hp hc hG⟩
end
def zfP (P:Program) (s:AS) (c:Call):Option (Nat×List AV×Prop):=
 match c.callee with
 | .value f=>match s.ev f with
  |(g,.fn (.yield l) [] [])=>some (l,((c.args.toList.zip (c.argTypes.toList++List.replicate c.args.size 0)).map fun p=>(s.ev p.1).2.tag P p.2),g=true∧(c.args.toList.all fun x=>(s.ev x).1)=true)
  |_=>none
 |_=>none
def aopY (cx:Cx) (tab:Tab) (G:Bool) (o:Oper) (K:AS→Prop) (s:AS):Prop:=
 match o.op with
 | .call c=>(match zfP cx.P s c with
  |some (l,args,vc)=>dstOk cx.nt o.dst∧(if G=true then vc∧l=cx.yl∧AV.idsL args= []∧(match s.g with
   |some xs=>(xs++ [args])<+:cx.items∧K ({ s with g:=some (xs++ [args]) }.put o.dst true (.d (.bool true)))∧K ({ s with g:=none }.put o.dst true (.d (.bool false)))
   |none=>False) else K (s.put o.dst false (.d (.bool false))))
  |none=>aopT cx tab G o K s)
 |_=>aopT cx tab G o K s
def aopsY (cx:Cx) (tab:Tab) (all:Array Oper):List Oper→(AS→Prop)→AS→Prop
 | [],K,s=>K s
 |o::r,K,s=>match zaH s all o.guard with
  |some G=>aopY cx tab G o (aopsY cx tab all r K) s
  |none=>False
section
variable {cx : Cx} {tab : Tab} {E : Env} {s : AS} {a : Act} {w : World}
theorem zlw {ro:Option Nat} {P:Program} {l:Nat} {f:FuncId} {tmps:Array Value} {assign body:Code} {w:World} {R:Ending→World→Prop} (n:Nat) (h:RoundIn Fence.wide n P l f tmps assign body w R):RoundIn { Fence.wide with round:=ro } n P l f tmps assign body w R:=h
theorem zro {o:Oper} {c:Call} (hop:o.op= .call c) {l:Nat} {args:List AV} {vc:Prop} (hy:zfP cx.P s c=some (l,args,vc)) {K:AS→Prop} {Q:Exit→Act→World→Prop} (hs:Sat cx E s a w) (hd:dstOk cx.nt o.dst) (hvc:vc) (hl:l=cx.yl) (hids:AV.idsL args= [])
    {xs:List (List AV)} (hg:s.g=some xs) (hpre:(xs++ [args])<+:cx.items) (k1:K ({ s with g:=some (xs++ [args]) }.put o.dst true (.d (.bool true)))) (k2:K ({ s with g:=none }.put o.dst true (.d (.bool false)))):
    o.wpIn cx.F 0 cx.P a w (Reach cx E s.h w K) Q:=by
  obtain ⟨dst,op,ot,pos,after,guard⟩:=o
  dsimp only at hop hd k1 k2
  subst hop
  obtain ⟨callee,cargs,ctypes⟩:=c
  have hdst:∀k,dst=some k→k<cx.nt:=fun k e=>by rw [e] at hd;exact hd
  cases callee with
  |invoke r m=>simp [zfP] at hy
  |builtin b=>simp [zfP] at hy
  | value fo=>
    simp only [zfP] at hy
    split at hy
    case h_2=>cases hy
    case h_1 g n hef=>
      simp only [Option.some.injEq,Prod.mk.injEq] at hy
      obtain ⟨rfl,rfl,rfl⟩:=hy
      obtain ⟨hgd,hall⟩:=hvc
      subst hl
      have hf:=ev_ok hs.slots fo (by rw [hef];exact hgd)
      rw [hef] at hf
      simp only [Rep] at hf
      obtain ⟨pf,qc,hfv,hfs,hcs⟩:=hf
      have hpf:pf= #[]:=by simp only [Reps] at hfs;simpa using hfs
      have hqc:qc= #[]:=by simp only [Reps] at hcs;simpa using hcs
      subst hpf hqc
      have hargs:Reps w E s.h ((cargs.toList.zip (ctypes.toList++List.replicate cargs.size 0)).map fun p=>(s.ev p.1).2.tag cx.P p.2) (cargs.map a.eval).toList:=by
        have key:∀ (l:List Operand) (ts:List TypeId),l.length≤ts.length→(l.all fun x=>(s.ev x).1)=true→Reps w E s.h ((l.zip ts).map fun p=>(s.ev p.1).2.tag cx.P p.2) (l.map a.eval):=by
          intro l
          induction l with
          |nil=>intro ts _ _;simp [Reps]
          | cons x l ih=>
            intro ts hl ha
            cases ts with
            |nil=>simp at hl
            | cons t ts=>
              simp only [List.all_cons,Bool.and_eq_true] at ha
              simp only [List.zip_cons_cons,List.map_cons,Reps]
              exact ⟨_,_,rfl,Rep.tag (ev_ok hs.slots x ha.1),ih ts (by simpa using hl) ha.2⟩
        rw [Array.toList_map]
        exact key _ _ (by simp) hall
      obtain ⟨X,hX⟩:∃X:Nat→Prop,X=fun b=>Xs E s.h b∨zaA a.defers b:=⟨_,rfl⟩
      have hb:Reps w (bare X) [] ((cargs.toList.zip (ctypes.toList++List.replicate cargs.size 0)).map fun p=>(s.ev p.1).2.tag cx.P p.2) (cargs.map a.eval).toList:=by
        refine Reps.stepc (fun b c T fz hc hx=>?_) (fun _ _ _ _ h _=>h) _ _ (by rw [hids];simp) hargs
        rcases hx with ⟨i,hi,_⟩|hx|hx
        · simp [hget] at hi
        · exact hx.elim
        · rw [hX] at hx
          rcases hx with hx|⟨d,hdm,hdt⟩
          · exact hx
          · obtain ⟨r,h1,h2,_⟩:=hs.marks.1 d hdm
            rw [h1] at hdt
            cases hdt
            rw [h2] at hc;cases hc
      have hgh:=hs.ghost
      rw [hg] at hgh
      obtain ⟨fn,tmps,assign,body,hrun,hround⟩:=cx.yok xs _ X E.M E.N _ w (cargs.map a.eval) hgh (fun b hb=>by
        rw [hX]
        rcases hb with hb|hb|hb|hb
        · exact .inl (.inr (.inl hb))
        · exact .inl (.inr (.inr hb))
        · exact .inl (.inl hb)
        · exact .inr hb) hb hpre
      refine ⟨fun _ _=>trivial,?_⟩
      rw [Oper.semAt_eq _ _ _ (by simp)]
      have hexec:(execOp a.eval ⟨dst,.call ⟨.value fo,cargs,ctypes⟩,ot,pos,after,guard⟩).run cx.P w= .ok (.round cx.yl fn tmps assign body) w:=by
        simp only [execOp,resolve,hfv,Deferred.ofValue,Sem.run_bind,Sem.run_pure,Result.andThen_ok,invoke]
        have e1:(#[]:Array Value)++cargs.map a.eval=cargs.map a.eval:=by simp
        rw [e1]
        exact hrun
      rw [hexec]
      simp only [Oper.uponIn_round]
      refine ⟨(fun h=>by cases h),?_⟩
      refine (zlw _ hround).mono ?_
      rintro e w' ⟨b,M',rfl,q1,q2,q3,q4,q5,q6,q7,q8⟩
      obtain ⟨E',hE'⟩:∃E':Env,E'= { E with M:=M' } :=⟨_,rfl⟩
      have hO:E'.O=E.O:=by rw [hE']
      have hC:E'.C=E.C:=by rw [hE']
      have hM:E'.M=M':=by rw [hE']
      have hN:E'.N=E.N:=by rw [hE']
      have hown:∀k,Own E' s.h k↔Own E s.h k:=fun k=>by unfold Own;rw [hO]
      have hXk:∀k,k<w.heap.size→Xs E' s.h k→Xs E s.h k:=fun k hk hx=>by
        rcases hx with hx|hx|hx
        · exact .inl ((hown k).1 hx)
        · rw [hM] at hx
          rcases q7 k hx with h|h
          · exact .inr (.inl h)
          · omega
        · exact .inr (.inr (by rwa [hN] at hx))
      have hKk:∀k,k<w.heap.size→¬Xs E s.h k→w'.heap[k]?=w.heap[k]?:=fun k hk hx=>q5 k hk (fun hm=>hx (.inr (.inl hm)))
      have hKo:∀k,Own E s.h k→w'.heap[k]?=w.heap[k]?:=fun k ho=>q5 k (hs.hp.own k ho).1 (hs.hp.own k ho).2.1
      have hgo:∀j,GoesOn E s.h E' s.h j:=fun j=>by
        unfold GoesOn
        rw [hO,hC]
        split<;>simp_all
      have hrep:∀x y,Rep w E s.h x y→Rep w' E' s.h x y:=fun x y hxy=>Rep.step hXk hKk x y (fun j _=>hgo j) hxy
      have hp':SatH E' s.h w':=by
        refine ⟨fun i ob ho=>?_,by rw [hO];exact hs.hp.inj,fun k hk=>?_,fun k hk=>?_,fun k hk=>?_⟩
        · have:=hs.hp.heap i ob ho
          have hoi:∀k,E.O i=some k→w'.heap[k]?=w.heap[k]?:=fun k hk=>hKo k ⟨i,by simp [ho],hk⟩
          cases ob with
          | var cs=>
            simp only [RepObj,hO] at this ⊢
            obtain ⟨b,c,T,fz,g1,g2,g3,g4⟩:=this
            exact ⟨b,c,T,fz,g1,(hoi b g1).trans g2,Reps.step hXk hKk _ _ (fun j _=>hgo j) g3,g4⟩
          | tvar tt cs=>
            simp only [RepObj,hO] at this ⊢
            obtain ⟨b,c,T,fz,g1,g2,g3,g4⟩:=this
            exact ⟨b,c,T,fz,g1,(hoi b g1).trans g2,Reps.step hXk hKk _ _ (fun j _=>hgo j) g3,g4⟩
          | arr k xs=>
            simp only [RepObj,hO,hC] at this ⊢
            rcases this with g|⟨b,c,T,fz,g1,g2,g3,g4,g5,g6⟩
            · exact .inl g
            · exact .inr ⟨b,c,T,fz,g1,(hoi b g1).trans g2,g3,g4,RepRows.step hXk hKk _ _ _ g5,g6⟩
          | buf tt xs=>
            simp only [RepObj,hO,hC] at this ⊢
            rcases this with g|⟨b,c,T,fz,g1,g2,g3,g4,g5,g6⟩
            · exact .inl g
            · exact .inr ⟨b,c,T,fz,g1,(hoi b g1).trans g2,g3,g4,g5,g6⟩
          | strit l q=>
            simp only [RepObj,hO] at this ⊢
            obtain ⟨b,g1,g2⟩:=this
            exact ⟨b,g1,(hoi b g1).trans g2⟩
          | omap es=>
            simp only [RepObj,hO] at this ⊢
            obtain ⟨b,m,cl,g1,g2,g3⟩:=this
            exact ⟨b,m,cl,g1,(hoi b g1).trans g2,g3⟩
        · have ho:=hs.hp.own k ((hown k).1 hk)
          refine ⟨Nat.lt_of_lt_of_le ho.1 q4,fun hm=>?_,by rw [hN];exact ho.2.2⟩
          rw [hM] at hm
          rcases q7 k hm with h|h
          · exact ho.2.1 h
          · omega
        · rw [hM] at hk
          rcases q7 k hk with h|h
          · exact Nat.lt_of_lt_of_le (hs.hp.mlt k h) q4
          · exact h.2
        · rw [hN] at hk;exact Nat.lt_of_lt_of_le (hs.hp.nlt k hk) q4
      have hev:Evo cx.fl E s.h w E' s.h w':=⟨q1,q2,q3,q4,fun k hk _ hm=>q5 k hk hm,fun k hk=> .inl ((hown k).1 hk),fun k hk=>by rw [hM];exact q6 k hk,fun k hk=>by rw [hM] at hk;exact (q7 k hk).imp id (·.1),hN,fun i _ hi=>⟨hi,hgo i⟩⟩
      have hsat:∀g',cx.G g' M' E.N (fun b=>Own E s.h b∨zaA a.defers b) w'→Sat cx E' { s with g:=g' } a w':=fun g' hG=>
        { slots:=fun k gg v hk=>by
            obtain ⟨x,h1,h2,h3⟩:=hs.slots k gg v hk
            exact ⟨x,h1,fun e=>hrep _ _ (h2 e),h3⟩
          nt:=hs.nt
          hp:=hp'
          base:=Nat.le_trans hs.base q4
          marks:=⟨fun d hd=>by
            obtain ⟨r,h1,h2,h3,h4⟩:=hs.marks.1 d hd
            have hr:=(Array.getElem?_eq_some_iff.1 h2).1
            exact ⟨r,h1,(q5 r hr h4).trans h2,h3,fun hm=>by
              rw [hM] at hm
              rcases q7 r hm with h|h
              · exact h4 h
              · omega⟩,hs.marks.2⟩
          ghost:=by
            rw [hM,hN]
            refine cx.stab _ _ _ _ _ w' _ (fun _ _ _=>rfl) (fun k hk=> .inl (hk.imp (hown k).1 id)) (fun k hk=>hk.elim (fun h=>(hp'.own k h).1) (fun h=>Nat.lt_of_lt_of_le (hs.marks.lt h) q4)) (Nat.le_refl _) rfl rfl rfl hG }
      cases b with
      | true=>
        simp only [if_true] at q8
        have:=hsat _ q8
        exact ⟨E',_,k1,this.put hdst (fun _=>by simp [Rep,RepD]) (fun e=>by cases e),by cases dst<;>exact hev⟩
      | false=>
        simp only [Bool.false_eq_true,if_false] at q8
        have:=hsat _ q8
        exact ⟨E',_,k2,this.put hdst (fun _=>by simp [Rep,RepD]) (fun e=>by cases e),by cases dst<;>exact hev⟩
theorem ziW (ht:TabOk cx.P tab) {all:Array Oper} {o:Oper} {G:Bool} {K:AS→Prop} {Q:Exit→Act→World→Prop} (hs:Sat cx E s a w) (hg:zaH s all o.guard=some G) (h:aopY cx tab G o K s):
  if Region.wanted o (yielded all a.tmps) then o.wpIn cx.F 0 cx.P a w (Reach cx E s.h w K) Q else (∀f,o.about cx.P w a.eval=some f→cx.F.fn f)∧Reach cx E s.h w K (a.put o.dst undef) w:=by
 unfold aopY at h
 split at h
 ·rename_i c hop
  split at h
  ·rename_i l args vc hy
   obtain ⟨hd,h⟩:=h
   rw [zdq hs.slots hg]
   cases G with
   | true=>
    simp only [if_true] at h ⊢
    obtain ⟨h1,h2,h3,h4⟩:=h
    split at h4
    ·rename_i xs hx
     exact zro hop hy hs hd h1 h2 h3 hx h4.1 h4.2.1 h4.2.2
    ·exact h4.elim
   |false=>
    simp only [Bool.false_eq_true,if_false] at h ⊢
    exact ⟨fun _ _=>trivial,E,_,h,hs.put (fun k e=>by rw [e] at hd;exact hd) (fun e=>by cases e) (fun _=>rfl),by cases o.dst<;>exact Evo.refl _ _ _ _⟩
  ·exact zfN ht hs hg h
 ·exact zfN ht hs hg h
theorem zgE (ht:TabOk cx.P tab) {all:Array Oper} :∀ (l:List Nat) (ops:List Oper) {K:AS→Prop} {s:AS} {E:Env} {a:Act} {w:World},l.map (all[·]?)=ops.map some→Sat cx E s a w→aopsY cx tab all ops K s→
  wpOpsIn cx.F 0 cx.P all (fun e a' w'=>e= .normal∧Reach cx E s.h w K a' w') l a w
 | [],ops,K,s,E,a,w,hl,hs,h=>by
  have:ops= []:=by simpa using hl.symm
  subst this
  exact ⟨rfl,zeU hs h⟩
 |i::l,[],K,s,E,a,w,hl,hs,h=>by simp at hl
 | i::l,o::ops,K,s,E,a,w,hl,hs,h=>by
  simp only [List.map_cons,List.cons.injEq] at hl
  obtain ⟨hi,hl⟩:=hl
  simp only [aopsY] at h
  split at h
  ·rename_i G hg
   simp only [wpOpsIn,hi]
   have:=ziW ht (Q:=fun _ _ _=>False) hs hg h
   split at this
   ·rename_i hw
    rw [if_pos hw]
    refine zaU this ?_
    rintro a1 w1 ⟨E1,s1,hk,hs1,he1⟩
    have ih:=zgE ht l ops hl hs1 hk
    refine zaF _ ih ?_
    rintro e a2 w2 ⟨rfl,hr⟩
    exact ⟨rfl,hr.trans he1⟩
   ·rename_i hw
    rw [if_neg hw]
    refine ⟨this.1,?_⟩
    obtain ⟨E1,s1,hk,hs1,he1⟩:=this.2
    have ih:=zgE ht l ops hl hs1 hk
    refine zaF _ ih ?_
    rintro e a2 w2 ⟨rfl,hr⟩
    exact ⟨rfl,hr.trans he1⟩
  ·exact h.elim
theorem zin {id:Nat} {ops:Array Oper} {Q:Exit→AS→Prop} (tab:Tab) (ht:TabOk cx.P tab) (h:aopsY cx tab ops ops.toList (Q .normal) s):AW cx (.region id ops false) Q s:=fun E a w hs=>
 wpIn_region (zaF _ (zgE ht _ _ (zgX ops) hs h) (by rintro e a' w' ⟨rfl,hr⟩;exact hr))
theorem zhX {id:Nat} {ops:Array Oper} {y:Code} {Q:Exit→AS→Prop} (tab:Tab) (ht:TabOk cx.P tab) (h:∀K,(∀s',AW cx y Q s'→K s')→aopsY cx tab ops ops.toList K s):AW cx (.seq (.region id ops false) y) Q s:=
 zj fun K hK=>zin tab ht (h K hK)
def keepT (h:AHeap) (t:List (Nat×(Bool×AV))):List (Nat×(Bool×AV)):=t.map fun q=>(q.1,(q.2.1,if (q.2.2.ids.all fun i=>(hget h i).isSome)=true then q.2.2 else .any))
theorem ziX {h:AHeap} :∀ (t:List (Nat×(Bool×AV))) (k:Nat),lk (keepT h t) k=(lk t k).map fun q=>(q.1,if (q.2.ids.all fun i=>(hget h i).isSome)=true then q.2 else .any)
  | [],k=>rfl
  | (j,(g,v))::r,k=>by
    have ih:=ziX (h:=h) r k
    unfold keepT at ih ⊢
    simp only [List.map_cons,lk]
    by_cases e:j=k
    · simp [e]
    · simp only [e,if_false];exact ih
theorem zy {c:Code} {Q:Exit→AS→Prop} (p:Nat→Bool) (hin:inH (hsel p s.h) (idsH (hsel p s.h))) (h:AW cx c Q { t:=keepT (hsel p s.h) s.t,h:=hsel p s.h,g:=s.g }):AW cx c Q s:=fun E a w hs=>by
  have hcl:zgj p s.h:=fun i o ho hp j hj=>by
    have h1:hget (hsel p s.h) i=some o:=by rw [zk,if_pos hp];exact ho
    have:=zeV hin j (zes h1 j hj)
    rw [zk] at this
    split at this
    · assumption
    · simp at this
  have hs':Sat cx E { t:=keepT (hsel p s.h) s.t,h:=hsel p s.h,g:=s.g } a w:=
    { slots:=fun k g v hk=>by
        have hk':lk (keepT (hsel p s.h) s.t) k=some (g,v):=hk
        rw [ziX] at hk'
        obtain ⟨q,hq,e⟩:=Option.map_eq_some_iff.1 hk'
        obtain ⟨g',v'⟩:=q
        simp only [Prod.mk.injEq] at e
        obtain ⟨rfl,rfl⟩:=e
        obtain ⟨x,h1,h2,h3⟩:=hs.slots k g' v' hq
        refine ⟨x,h1,fun e=>?_,h3⟩
        split
        · rename_i hall
          refine zpe (fun j hj=>?_) (h2 e)
          have:=List.all_eq_true.1 hall j hj
          rw [zk] at this
          split at this
          · assumption
          · simp at this
        · simp only [Rep]
      nt:=hs.nt
      hp:=zlv hs.hp hcl
      base:=hs.base
      marks:=hs.marks
      ghost:=cx.stab _ _ _ _ _ w _ (fun _ _ _=>rfl) (fun _ hb=> .inl (hb.imp zD id)) (fun b hb=>hb.elim (fun h=>(hs.hp.own b (zD h)).1) hs.marks.lt) (Nat.le_refl _) rfl rfl rfl hs.ghost }
  refine wpIn_mono (h E a w hs') (fun _ _ _ hr=>hr.trans ?_)
  exact ⟨rfl,rfl,rfl,Nat.le_refl _,fun _ _ _ _=>rfl,fun b hb=> .inl (zD hb),fun _ h=>h,fun _ h=> .inl h,rfl,fun j _ hj=>by
    have hj':(hget (hsel p s.h) j).isSome:=hj
    rw [zk] at hj'
    split at hj'
    · rename_i hp
      exact ⟨hj',zc1 j hp⟩
    · simp at hj'⟩
end
attribute [go_sem] aopsY aopY zfP cxY IterK keepT
open Go
structure Rnd (cx:Cx) where
 G:Option (List (List AV))→(Nat→Prop)→(Nat→Prop)→(Nat→Prop)→World→Prop
 stab:∀g M N A A' w w',(∀b,b<w.heap.size→¬A b→w'.heap[b]?=w.heap[b]?)→(∀b,A' b→A b∨w.heap.size≤b)→(∀b,A' b→b<w'.heap.size)→w.heap.size≤w'.heap.size→w'.tape=w.tape→w'.os=w.os→w'.output=w.output→G g M N A w→G g M N A' w'
 yok:∀xs x X M N A w (vs:Array Value),G (some xs) M N A w→(∀b,M b∨N b∨A b→X b)→Reps w (bare X) [] x vs.toList→(xs++ [x])<+:cx.items→
  ziK cx.P cx.yl vs w (fun e w'=>∃b M',e= .returned (.bool b)∧w'.os=w.os∧w'.tape=w.tape∧w'.output=w.output∧w.heap.size≤w'.heap.size∧(∀k,k<w.heap.size→¬M k→w'.heap[k]?=w.heap[k]?)∧
   (∀k,M k→M' k)∧(∀k,M' k→M k∨(w.heap.size≤k∧k<w'.heap.size))∧G (if b=true then some (xs++ [x]) else none) M' N A w')
def Cx.inR (cx:Cx) (l fl:Nat) (r:Rnd cx):Cx:= { P:=cx.P,ro:=some l,base:=cx.base,nt:=cx.nt,fl:=fl,G:=r.G,stab:=r.stab,yl:=cx.yl,items:=cx.items,yok:=r.yok }
def zd2:List Tmp→List AV→List (Nat×(Bool×AV))→List (Nat×(Bool×AV))
 |t::ts,v::vs,r=>zd2 ts vs ((t,(true,v))::r)
 |_,_,r=>r
def zc (Kn:AHeap→Option (List (List AV))→Prop) (J:Code→AHeap→Option (List (List AV))→Prop):Exit→AS→Prop
 | .normal,s=>Kn s.h s.g
 | .ret,s=>J .ret s.h s.g
 | .exit id,s=>J (.exit id) s.h s.g
 | .goto t,s=>J (.goto t) s.h s.g
 |_,_=>False
def AsgK (K:AS→Prop):Exit→AS→Prop
 | .normal,s=>K s
 |_,_=>False
section
variable {cx : Cx} {E : Env} {s : AS} {a : Act} {w : World} {h : AHeap}
theorem zgk {E:Env} {a:Act} {w:World} {h:AHeap} {g:Option (List (List AV))} :∀ (ps:List Tmp) (xs:List AV) (vs:List Value) (t:List (Nat×(Bool×AV))) (tmps:Array Value),ps.length=vs.length→(∀p∈ps,p<tmps.size)→Reps w E h xs vs→Slots w E ⟨t,h,g⟩ { tmps:=tmps,defers:=a.defers } →
  Slots w E ⟨zd2 ps xs t,h,g⟩ { tmps:=(ps.zip vs).foldl (fun (t:Array Value) (q:Tmp×Value)=>t.setIfInBounds q.1 q.2) tmps,defers:=a.defers }
 | [],xs,vs,t,tmps,hl,_,hr,hs=>by
  have:vs= []:=by simpa using hl.symm
  subst this
  simpa [zd2] using hs
 |p::ps,[],vs,t,tmps,hl,_,hr,hs=>by
  simp only [Reps] at hr;subst hr;simp at hl
 | p::ps,x::xs,vs,t,tmps,hl,hb,hr,hs=>by
  simp only [Reps] at hr
  obtain ⟨v,r,rfl,h1,h2⟩:=hr
  simp only [List.zip_cons_cons,List.foldl_cons,zd2]
  refine zgk ps xs r _ _ (by simpa using hl) (fun q hq=>by simpa using hb q (by simp [hq])) h2 ?_
  intro k g v' hk
  simp only [lk] at hk
  split at hk
  ·rename_i e;subst e
   simp only [Option.some.injEq,Prod.mk.injEq] at hk
   obtain ⟨rfl,rfl⟩:=hk
   exact ⟨v,by simp [hb p (by simp)],fun _=>h1,fun e=>by cases e⟩
  ·rename_i e
   obtain ⟨y,q1,q2⟩:=hs k g v' hk
   exact ⟨y,by simp only;rw [Array.getElem?_setIfInBounds_ne e];exact q1,q2⟩
theorem SatH.others {E':Env} {w':World} (hs:SatH E h w) (hO:E'.O=E.O) (hC:E'.C=E.C) (hX:∀b,b<w.heap.size→Xs E' h b→Xs E h b) (hK:∀b c T fz,w.heap[b]?=some (.cells c T fz)→¬Xs E h b→w'.heap[b]?=some (.cells c T fz)) (hown:∀b,Own E h b→w'.heap[b]?=w.heap[b]?) (hsz:w.heap.size≤w'.heap.size)
  (ho:∀b,Own E h b→¬E'.M b∧¬E'.N b) (hm:∀b,E'.M b→b<w'.heap.size) (hn:∀b,E'.N b→b<w'.heap.size):SatH E' h w'∧(∀x v,Rep w E h x v→Rep w' E' h x v):=by
 have hgo:∀j,GoesOn E h E' h j:=fun j=>by
  unfold GoesOn
  rw [hO,hC]
  split<;>simp_all
 have hXc:∀b c T fz,w.heap[b]?=some (.cells c T fz)→Xs E' h b→Xs E h b:=hX_of hX
 refine ⟨⟨fun i o hi=>?_,by rw [hO];exact hs.inj,fun b hb=>?_,hm,hn⟩,fun x v hr=>Rep.stepc hXc hK x v (fun j _=>hgo j) hr⟩
 ·have:=hs.heap i o hi
  have hoi:∀b,E.O i=some b→w'.heap[b]?=w.heap[b]?:=fun b hb=>hown b ⟨i,by simp [hi],hb⟩
  cases o with
  |var cs=>
   simp only [RepObj,hO] at this ⊢
   obtain ⟨b,c,T,fz,g1,g2,g3,g4⟩:=this
   exact ⟨b,c,T,fz,g1,(hoi b g1).trans g2,Reps.stepc hXc hK _ _ (fun j _=>hgo j) g3,g4⟩
  |tvar tt cs=>
   simp only [RepObj,hO] at this ⊢
   obtain ⟨b,c,T,fz,g1,g2,g3,g4⟩:=this
   exact ⟨b,c,T,fz,g1,(hoi b g1).trans g2,Reps.stepc hXc hK _ _ (fun j _=>hgo j) g3,g4⟩
  |arr k xs=>
   simp only [RepObj,hO,hC] at this ⊢
   rcases this with g|⟨b,c,T,fz,g1,g2,g3,g4,g5,g6⟩
   ·exact .inl g
   ·exact .inr ⟨b,c,T,fz,g1,(hoi b g1).trans g2,g3,g4,RepRows.stepc hXc hK _ _ _ g5,g6⟩
  |buf tt xs=>
   simp only [RepObj,hO,hC] at this ⊢
   rcases this with g|⟨b,c,T,fz,g1,g2,g3,g4,g5,g6⟩
   ·exact .inl g
   ·exact .inr ⟨b,c,T,fz,g1,(hoi b g1).trans g2,g3,g4,g5,g6⟩
  |strit l q=>
   simp only [RepObj,hO] at this ⊢
   obtain ⟨b,g1,g2⟩:=this
   exact ⟨b,g1,(hoi b g1).trans g2⟩
  |omap es=>
   simp only [RepObj,hO] at this ⊢
   obtain ⟨b,m,cl,g1,g2,g3⟩:=this
   exact ⟨b,m,cl,g1,(hoi b g1).trans g2,g3⟩
 ·have hb':Own E h b:=by
   obtain ⟨i,hi,he⟩:=hb
   exact ⟨i,hi,by rw [← hO];exact he⟩
  exact ⟨Nat.lt_of_lt_of_le (hs.own b hb').1 hsz,ho b hb'⟩
structure Far (fl:Nat) (E0:Env) (h0:AHeap) (w0:World) (E:Env) (h:AHeap) (w:World):Prop where
 os:w.os=w0.os
 tape:w.tape=w0.tape
 output:w.output=w0.output
 size:w0.heap.size≤w.heap.size
 keep:∀b,b<w0.heap.size→¬Own E0 h0 b→¬E0.M b→w.heap[b]?=w0.heap[b]?
 own:∀b,Own E h b→Own E0 h0 b∨w0.heap.size≤b
 m1:∀b,E0.M b→E.M b
 m2:∀b,E.M b→E0.M b∨w0.heap.size≤b
 go:∀i,i<fl→(hget h i).isSome→(hget h0 i).isSome∧GoesOn E0 h0 E h i
structure Kept (cx:Cx) (l d fl:Nat) (p:Nat→Bool) (E0:Env) (h0:AHeap) (w0:World) (ds:List Deferred) (M1 N1 A1:Nat→Prop) (E2:Env) (hI:AHeap) (gI:Option (List (List AV))) (w:World):Prop where
 hp:SatH E2 hI w
 names:∀i,(hget hI i).isSome→p i=false
 n1:∀b,N1 b↔E0.N b
 a1:∀b,A1 b→Own E0 (hsel p h0) b∨w0.heap.size+2≤b
 n2:∀b,E2.N b↔E0.N b∨A1 b∨b=l∨b=d
 am:∀b,A1 b→¬E2.M b
 m1:∀b,Own E2 hI b∨E2.M b→M1 b
 ml:M1 l∧M1 d
 far:Far fl E0 h0 w0 E2 hI w
 own0:∀b,Own E2 hI b→Own E0 (hsel (fun i=> !p i) h0) b∨w0.heap.size+2≤b
 m0:∀b,E2.M b→E0.M b∨w0.heap.size+2≤b
 size:w0.heap.size+2≤w.heap.size
 dd:w.heap[d]?=some (.deferred (some []))
 ghost:cx.G gI E2.M E0.N (fun b=>Own E2 hI b∨A1 b∨b=l∨b=d∨zaA ds b) w
section
variable {cx : Cx} {l d fl : Nat} {p : Nat → Bool} {E0 : Env} {h0 : AHeap} {w0 : World} {ds : List Deferred}
theorem Far.block {E2:Env} {hI:AHeap} {w:World} (f:Far fl E0 h0 w0 E2 hI w):∀b,b<w0.heap.size→Xs E0 h0 b∨w.heap[b]?=w0.heap[b]?:=fun b hb=>by
 by_cases h1:Own E0 h0 b
 ·exact .inl (.inl h1)
 ·by_cases h2:E0.M b
  ·exact .inl (.inr (.inl h2))
  ·exact .inr (f.keep b hb h1 h2)
theorem Kept.step (hl:l=w0.heap.size+1) (hd:d=w0.heap.size) (hs0:SatH E0 h0 w0) (hmk:∀b,zaA ds b→b<w0.heap.size) {M1 N1 A1 A1':Nat→Prop} {E2:Env} {hI:AHeap} {gI:Option (List (List AV))} {w w':World}
  (k:Kept cx l d fl p E0 h0 w0 ds M1 N1 A1 E2 hI gI w) (hk:∀b,b<w.heap.size→¬A1 b→w'.heap[b]?=w.heap[b]?) (hA:∀b,A1' b→A1 b∨w.heap.size≤b) (hAb:∀b,A1' b→b<w'.heap.size) (hsz:w.heap.size≤w'.heap.size) (ht:w'.tape=w.tape) (ho:w'.os=w.os) (hout:w'.output=w.output):
  ∃E2',Kept cx l d fl p E0 h0 w0 ds M1 N1 A1' E2' hI gI w'∧¬A1 l:=by
 have hnl:¬A1 l:=fun h=>by
  rcases k.a1 l h with h|h
  ·have:=(hs0.own l (zD h)).1;omega
  ·omega
 have hnd:¬A1 d:=fun h=>by
  rcases k.a1 d h with h|h
  ·have:=(hs0.own d (zD h)).1;omega
  ·omega
 have hsz0:=k.size
 obtain ⟨E2',hE⟩:∃E2':Env,E2'= { E2 with N:=fun b=>E0.N b∨A1' b∨b=l∨b=d } :=⟨_,rfl⟩
 have hO:E2'.O=E2.O:=by rw [hE]
 have hC:E2'.C=E2.C:=by rw [hE]
 have hM:E2'.M=E2.M:=by rw [hE]
 have hN:∀b,E2'.N b↔E0.N b∨A1' b∨b=l∨b=d:=fun b=>by rw [hE]
 have hown:∀b,Own E2' hI b↔Own E2 hI b:=fun b=>by unfold Own;rw [hO]
 have hX:∀b,b<w.heap.size→Xs E2' hI b→Xs E2 hI b:=by
  rintro b hb (hx|hx|hx)
  ·exact .inl ((hown b).1 hx)
  ·exact .inr (.inl (by rwa [hM] at hx))
  ·refine .inr (.inr ((k.n2 b).2 ?_))
   rcases (hN b).1 hx with hx|hx|hx
   ·exact .inl hx
   ·rcases hA b hx with h|h
    ·exact .inr (.inl h)
    ·omega
   ·exact .inr (.inr hx)
 have hnown:∀b,Own E2 hI b→¬A1 b:=fun b hb ha=>(k.hp.own b hb).2.2 ((k.n2 b).2 (.inr (.inl ha)))
 obtain ⟨hp', -⟩:=k.hp.others (E':=E2') (w':=w') hO hC hX (fun b c T fz hc hx=>(hk b (Array.getElem?_eq_some_iff.1 hc).1 (fun ha=>hx (.inr (.inr ((k.n2 b).2 (.inr (.inl ha))))))).trans hc) (fun b hb=>hk b (k.hp.own b hb).1 (hnown b hb)) hsz
  (fun b hb=>⟨by rw [hM];exact (k.hp.own b hb).2.1,fun hn=>by
   rcases (hN b).1 hn with hn|hn|hn
   ·exact (k.hp.own b hb).2.2 ((k.n2 b).2 (.inl hn))
   ·rcases hA b hn with h|h
    ·exact hnown b hb h
    ·have:=(k.hp.own b hb).1;omega
   ·exact (k.hp.own b hb).2.2 ((k.n2 b).2 (.inr (.inr hn)))⟩)
  (fun b hb=>Nat.lt_of_lt_of_le (k.hp.mlt b (by rwa [hM] at hb)) hsz)
  (fun b hb=>by
   rcases (hN b).1 hb with hn|hn|hn|hn
   ·exact Nat.lt_of_lt_of_le (hs0.nlt b hn) (by omega)
   ·exact hAb b hn
   ·omega
   ·omega)
 refine ⟨E2',⟨hp',k.names,k.n1,fun b hb=>?_,hN,fun b hb hm=>?_,fun b hb=>?_,k.ml,⟨ho.trans k.far.os,ht.trans k.far.tape,hout.trans k.far.output,Nat.le_trans k.far.size hsz,fun b hb h1 h2=>?_,fun b hb=>k.far.own b ((hown b).1 hb),fun b hb=>by rw [hM];exact k.far.m1 b hb,fun b hb=>k.far.m2 b (by rwa [hM] at hb),fun i hi hg=>?_⟩,
  fun b hb=>k.own0 b ((hown b).1 hb),fun b hb=>k.m0 b (by rwa [hM] at hb),by omega,(hk d (by omega) hnd).trans k.dd,?_⟩,hnl⟩
 ·rcases hA b hb with h|h
  ·exact k.a1 b h
  ·exact .inr (by omega)
 ·rw [hM] at hm
  rcases hA b hb with h|h
  ·exact k.am b h hm
  ·have:=k.hp.mlt b hm;omega
 ·rw [hM] at hb
  exact k.m1 b (hb.imp (hown b).1 id)
 ·refine (hk b (by have:=k.far.size;omega) (fun ha=>?_)).trans (k.far.keep b hb h1 h2)
  rcases k.a1 b ha with h|h
  ·exact h1 (zD h)
  ·omega
 ·obtain ⟨g1,g2⟩:=k.far.go i hi hg
  refine ⟨g1,?_⟩
  unfold GoesOn at g2 ⊢
  rw [hO,hC]
  exact g2
 ·rw [hM]
  refine cx.stab _ _ _ _ _ w _ (fun b hb hn=>hk b hb (fun h=>hn (.inr (.inl h)))) (fun b hb=>?_) (fun b hb=>?_) hsz ht ho hout k.ghost
  ·rcases hb with h|h|h
   ·exact .inl (.inl ((hown b).1 h))
   ·rcases hA b h with h|h
    ·exact .inl (.inr (.inl h))
    ·exact .inr h
   ·exact .inl (.inr (.inr h))
  ·rcases hb with h|h|h|h|h
   ·exact (hp'.own b h).1
   ·exact hAb b h
   ·omega
   ·omega
   ·have:=hmk b h;omega
end
def rnd (cx:Cx) (l d:Nat) (N0 Z:Nat→Prop) (rc:Loop) (ds:List Deferred) (hd:Z d) (hl:Z l) (hz:∀b,zaA ds b→Z b):Rnd cx where
 G:=fun g M N A w=>cx.G g M N0 (fun b=>A b∨Z b) w∧(∀b,Z b→¬A b∧¬M b∧b<w.heap.size)∧w.heap[l]?=some (.loop rc)∧w.heap[d]?=some (.deferred (some []))∧(∀b,N0 b∨(Z b∧¬zaA ds b)→N b)∧(∀b,zaA ds b→w.heap[b]?=some (.deferred (some [])))
 stab:=fun g M N A A' w w' hk hA hAb hsz ht ho hout ⟨q1,q2,q3,q4,q5,q6⟩=>by
  have hZ:∀b,Z b→w'.heap[b]?=w.heap[b]?:=fun b hb=>hk b (q2 b hb).2.2 (q2 b hb).1
  refine ⟨cx.stab _ _ _ _ _ w _ (fun b hb hn=>hk b hb (fun h=>hn (.inl h))) (fun b hb=>?_) (fun b hb=>?_) hsz ht ho hout q1,fun b hb=>⟨fun ha=>?_,(q2 b hb).2.1,Nat.lt_of_lt_of_le (q2 b hb).2.2 hsz⟩,(hZ l hl).trans q3,(hZ d hd).trans q4,q5,fun b hb=>(hZ b (hz b hb)).trans (q6 b hb)⟩
  ·rcases hb with h|h
   ·exact (hA b h).imp .inl id
   ·exact .inl (.inr h)
  ·rcases hb with h|h
   ·exact hAb b h
   ·exact Nat.lt_of_lt_of_le (q2 b h).2.2 hsz
  ·rcases hA b ha with h|h
   ·exact (q2 b hb).1 h
   ·have:=(q2 b hb).2.2;omega
 yok :=fun xs x X M N A w vs ⟨q1,q2,q3,q4,q5,q6⟩ hX hr hpre=>by
  obtain ⟨fn,tmps,assign,body,hrun,hround⟩:=cx.yok xs x (fun b=>X b∨zaA ds b) M N0 (fun b=>A b∨Z b) w vs q1 (fun b hb=>by
   rcases hb with hb|hb|hb|hb
   ·exact .inl (hX b (.inl hb))
   ·exact .inl (hX b (.inr (.inl (q5 b (.inl hb)))))
   ·exact .inl (hX b (.inr (.inr hb)))
   ·by_cases hm:zaA ds b
    ·exact .inr hm
    ·exact .inl (hX b (.inr (.inl (q5 b (.inr ⟨hb,hm⟩)))))) (Reps.stepc (E:=bare X) (E':=bare fun b=>X b∨zaA ds b) (h:= []) (h':= []) (fun b c T fz hc hx=>by
    rcases hx with ⟨i,hi,_⟩|hx|hx
    ·simp [hget] at hi
    ·exact hx.elim
    ·rcases hx with hx|hx
     ·exact .inr (.inr hx)
     ·rw [q6 b hx] at hc;cases hc) (fun _ _ _ _ h _=>h) _ _ (fun j _=>by simp [GoesOn,hget]) hr) hpre
  refine ⟨fn,tmps,assign,body,hrun,hround.mono ?_⟩
  rintro e w' ⟨b,M',h1,h2,h3,h4,h5,h6,h7,h8,h9⟩
  have hZ:∀b,Z b→w'.heap[b]?=w.heap[b]?:=fun b hb=>h6 b (q2 b hb).2.2 (q2 b hb).2.1
  exact ⟨b,M',h1,h2,h3,h4,h5,h6,h7,h8,h9,fun k hk=>⟨(q2 k hk).1,fun hm=>by
   rcases h8 k hm with h|h
   ·exact (q2 k hk).2.1 h
   ·have:=(q2 k hk).2.2;omega,Nat.lt_of_lt_of_le (q2 k hk).2.2 h5⟩,(hZ l hl).trans q3,(hZ d hd).trans q4,q5,fun k hk=>(hZ k (hz k hk)).trans (q6 k hk)⟩
section
variable {cx : Cx} {s : AS}
def zaR (cx:Cx) (l d fl:Nat) (p:Nat→Bool) (E0:Env) (h0:AHeap) (w0:World) (ds:List Deferred) (I:List (List AV)→AHeap×Option (List (List AV))) (J:Code→AHeap→Option (List (List AV))→Prop) (rec:LoopState→Option Code→Loop)
  (g:Option (List (List AV))) (M1 N1 A1:Nat→Prop) (w:World):Prop:=
 match g with
 |some xs=>∃E2,Kept cx l d fl p E0 h0 w0 ds M1 N1 A1 E2 (I xs).1 (I xs).2 w∧w.heap[l]?=some (.loop (rec .ready none))
 |none=>∃E2 c h3 g3,Kept cx l d fl p E0 h0 w0 ds M1 N1 A1 E2 h3 g3 w∧w.heap[l]?=some (.loop (rec .done (some c)))∧J c h3 g3
theorem zfQ {E0 E2:Env} {h0 hI:AHeap} {w0 w:World} {a:Act} {t:List (Nat×(Bool×AV))} {g g':Option (List (List AV))} (hs:Slots w0 E0 ⟨t,h0,g⟩ a)
  (hX:∀b c T fz,w0.heap[b]?=some (.cells c T fz)→Xs E2 hI b→Xs E0 h0 b) (hK:∀b c T fz,w0.heap[b]?=some (.cells c T fz)→¬Xs E0 h0 b→w.heap[b]?=some (.cells c T fz)) (hgo:∀j,(hget hI j).isSome→GoesOn E0 h0 E2 hI j):
  Slots w E2 ⟨keepT hI t,hI,g'⟩ a:=fun k gg v hk=>by
 have hk':lk (keepT hI t) k=some (gg,v):=hk
 rw [ziX] at hk'
 obtain ⟨q,hq,e⟩:=Option.map_eq_some_iff.1 hk'
 obtain ⟨g1,v1⟩:=q
 simp only [Prod.mk.injEq] at e
 obtain ⟨rfl,rfl⟩:=e
 obtain ⟨x,h1,h2,h3⟩:=hs k g1 v1 hq
 refine ⟨x,h1,fun e=>?_,h3⟩
 split
 ·rename_i hall
  exact Rep.stepc hX hK _ _ (fun j hj=>hgo j (List.all_eq_true.1 hall j hj)) (h2 e)
 ·simp only [Rep]
end
end
open Go
structure EvoL (l fl:Nat) (E:Env) (h:AHeap) (w:World) (E':Env) (h':AHeap) (w':World):Prop where
 os:w'.os=w.os
 tape:w'.tape=w.tape
 output:w'.output=w.output
 size:w.heap.size≤w'.heap.size
 keep:∀b,b<w.heap.size→¬Own E h b→¬E.M b→b≠l→w'.heap[b]?=w.heap[b]?
 own:∀b,Own E' h' b→Own E h b∨w.heap.size≤b
 m1:∀b,E.M b→E'.M b
 m2:∀b,E'.M b→E.M b∨w.heap.size≤b
 n:E'.N=E.N
 go:∀i,i<fl→(hget h' i).isSome→(hget h i).isSome∧GoesOn E h E' h' i
theorem Evo.l {l fl:Nat} {E E':Env} {h h':AHeap} {w w':World} (e:Evo fl E h w E' h' w'):EvoL l fl E h w E' h' w':=
 ⟨e.os,e.tape,e.output,e.size,fun b hb ho hm _=>e.keep b hb ho hm,e.own,e.m1,e.m2,e.n,e.go⟩
theorem EvoL.put {l fl:Nat} {E:Env} {h:AHeap} {w:World} (o:Obj):EvoL l fl E h w E h (w.putObj l o):=
 ⟨rfl,rfl,rfl,by simp,fun b _ _ _ hb=>World.putObj_heap_other hb,fun _ h=> .inl h,fun _ h=>h,fun _ h=> .inl h,rfl,fun i _ h=>⟨h,GoesOn.refl E _ i⟩⟩
theorem EvoL.trans {l fl:Nat} {E E' E'':Env} {h h' h'':AHeap} {w w' w'':World} (a:EvoL l fl E h w E' h' w') (b:EvoL l fl E' h' w' E'' h'' w''):EvoL l fl E h w E'' h'' w'' where
 os:=b.os.trans a.os
 tape:=b.tape.trans a.tape
 output:=b.output.trans a.output
 size:=Nat.le_trans a.size b.size
 keep:=fun k hk ho hm hl=>(b.keep k (Nat.lt_of_lt_of_le hk a.size) (fun h=>(a.own k h).elim ho (fun h=>by omega)) (fun h=>(a.m2 k h).elim hm (fun h=>by omega)) hl).trans (a.keep k hk ho hm hl)
 own:=fun k h=>(b.own k h).elim (fun h=>a.own k h) (fun h=> .inr (Nat.le_trans a.size h))
 m1:=fun k h=>b.m1 k (a.m1 k h)
 m2:=fun k h=>(b.m2 k h).elim (fun h=>a.m2 k h) (fun h=> .inr (Nat.le_trans a.size h))
 n:=b.n.trans a.n
 go:=fun i hi h=>by
  obtain ⟨h1,g1⟩:=b.go i hi h
  obtain ⟨h2,g2⟩:=a.go i hi h1
  exact ⟨h2,g2.trans g1⟩
section
variable {cx : Cx} {l d fl : Nat} {p : Nat → Bool} {E0 : Env} {h0 : AHeap} {w0 : World} {ds : List Deferred}
theorem Kept.round (hl:l=w0.heap.size+1) (hd:d=w0.heap.size) {M1 N1 A1:Nat→Prop} {E2 E4:Env} {hI h4 h':AHeap} {gI g':Option (List (List AV))} {w w4:World}
  (k:Kept cx l d fl p E0 h0 w0 ds M1 N1 A1 E2 hI gI w) (e:EvoL l fl E2 hI w E4 h4 w4) (hs4:SatH E4 h4 w4) (hs':SatH E4 h' w4) (hown:∀b,Own E4 h' b→Own E4 h4 b) (hgo:∀i,(hget h' i).isSome→(hget h4 i).isSome∧GoesOn E4 h4 E4 h' i) (hn:∀i,(hget h' i).isSome→p i=false) (hdd:w4.heap[d]?=some (.deferred (some [])))
  (hG:cx.G g' E4.M E0.N (fun b=>Own E4 h' b∨A1 b∨b=l∨b=d∨zaA ds b) w4):
  Kept cx l d fl p E0 h0 w0 ds (fun b=>M1 b∨(w.heap.size≤b∧b<w4.heap.size)) N1 A1 E4 h' g' w4 where
 hp:=hs'
 names:=hn
 n1:=k.n1
 a1:=k.a1
 n2:=fun b=>by rw [e.n];exact k.n2 b
 am:=fun b hb hm=>by
  have:=k.hp.nlt b ((k.n2 b).2 (.inr (.inl hb)))
  rcases e.m2 b hm with h|h
  ·exact k.am b hb h
  ·omega
 m1:=fun b hb=>by
  rcases hb with hb|hb
  ·rcases e.own b (hown b hb) with h|h
   ·exact .inl (k.m1 b (.inl h))
   ·exact .inr ⟨h,(hs4.own b (hown b hb)).1⟩
  ·rcases e.m2 b hb with h|h
   ·exact .inl (k.m1 b (.inr h))
   ·exact .inr ⟨h,hs4.mlt b hb⟩
 ml:=⟨.inl k.ml.1,.inl k.ml.2⟩
 far:=by
  refine ⟨e.os.trans k.far.os,e.tape.trans k.far.tape,e.output.trans k.far.output,Nat.le_trans k.far.size e.size,fun b hb h1 h2=>?_,fun b hb=>?_,fun b hb=>e.m1 b (k.far.m1 b hb),fun b hb=>?_,fun i hi hg=>?_⟩
  ·refine (e.keep b (Nat.lt_of_lt_of_le hb k.far.size) (fun h=>?_) (fun h=>?_) (by omega)).trans (k.far.keep b hb h1 h2)
   ·rcases k.far.own b h with h|h
    ·exact h1 h
    ·omega
   ·rcases k.far.m2 b h with h|h
    ·exact h2 h
    ·omega
  ·rcases e.own b (hown b hb) with h|h
   ·exact k.far.own b h
   ·exact .inr (Nat.le_trans k.far.size h)
  ·rcases e.m2 b hb with h|h
   ·exact k.far.m2 b h
   ·exact .inr (Nat.le_trans k.far.size h)
  ·obtain ⟨hg4,q5⟩:=hgo i hg
   obtain ⟨q1,q2⟩:=e.go i hi hg4
   obtain ⟨q3,q4⟩:=k.far.go i hi q1
   exact ⟨q3,(q4.trans q2).trans q5⟩
 own0:=fun b hb=>by
  rcases e.own b (hown b hb) with h|h
  ·exact k.own0 b h
  ·exact .inr (Nat.le_trans k.size h)
 m0:=fun b hb=>by
  rcases e.m2 b hb with h|h
  ·exact k.m0 b h
  ·exact .inr (Nat.le_trans k.size h)
 size:=Nat.le_trans k.size e.size
 dd:=hdd
 ghost:=hG
theorem ziY {cx1 cx2:Cx} {E:Env} {s:AS} {a:Act} {w:World} {l:Nat} {rc:Loop} (o:Obj) (hs:Sat cx1 E s a w) (hl:w.heap[l]?=some (.loop rc)) (hb:cx2.base=cx1.base) (hn:cx2.nt=cx1.nt)
    (hG:cx2.G s.g E.M E.N (fun b=>Own E s.h b∨zaA a.defers b) (w.putObj l o)):Sat cx2 E s a (w.putObj l o):=by
  have hll:=(Array.getElem?_eq_some_iff.1 hl).1
  have hne:∀ (b:Nat) (ob:Obj),w.heap[b]?=some ob→(∀r,ob≠ .loop r)→b≠l:=fun b ob hb ho e=>by
    subst e
    rw [hl] at hb;cases hb
    exact ho _ rfl
  have hown:∀b,Own E s.h b→b≠l:=fun b ⟨i,hi,hb⟩=>by
    obtain ⟨ob,ho⟩:=Option.isSome_iff_exists.1 hi
    have:=hs.hp.heap i ob ho
    cases ob with
    |var cs=>simp only [RepObj] at this;obtain ⟨b',c,T,fz,g1,g2,_⟩:=this;rw [hb] at g1;cases g1;exact hne _ _ g2 (by simp)
    |tvar tt cs=>simp only [RepObj] at this;obtain ⟨b',c,T,fz,g1,g2,_⟩:=this;rw [hb] at g1;cases g1;exact hne _ _ g2 (by simp)
    | arr k xs=>
      simp only [RepObj] at this
      rcases this with ⟨g1,_⟩|⟨b',c,T,fz,g1,g2,_⟩
      · rw [hb] at g1;cases g1
      · rw [hb] at g1;cases g1;exact hne _ _ g2 (by simp)
    | buf tt xs=>
      simp only [RepObj] at this
      rcases this with ⟨g1,_⟩|⟨b',c,T,fz,g1,g2,_⟩
      · rw [hb] at g1;cases g1
      · rw [hb] at g1;cases g1;exact hne _ _ g2 (by simp)
    |strit l' q=>simp only [RepObj] at this;obtain ⟨b',g1,g2⟩:=this;rw [hb] at g1;cases g1;exact hne _ _ g2 (by simp)
    |omap es=>simp only [RepObj] at this;obtain ⟨b',m,cl,g1,g2,_⟩:=this;rw [hb] at g1;cases g1;exact hne _ _ g2 (by simp)
  obtain ⟨hp',hrep⟩:=hs.hp.others (E':=E) (w':=w.putObj l o) rfl rfl (fun _ _ h=>h) (fun b c T fz hc _=>(World.putObj_heap_other (hne b _ hc (by simp))).trans hc) (fun b hb=>World.putObj_heap_other (hown b hb)) (by simp)
    (fun b hb=>(hs.hp.own b hb).2) (fun b hb=>by simpa using hs.hp.mlt b hb) (fun b hb=>by simpa using hs.hp.nlt b hb)
  exact { slots:=fun k g v hk=>by
            obtain ⟨x,h1,h2,h3⟩:=hs.slots k g v hk
            exact ⟨x,h1,fun e=>hrep _ _ (h2 e),h3⟩
          nt:=hs.nt.trans hn.symm
          hp:=hp'
          base:=by rw [hb];simpa using hs.base
          marks:=⟨fun d hd=>by
            obtain ⟨r,h1,h2,h3,h4⟩:=hs.marks.1 d hd
            exact ⟨r,h1,(World.putObj_heap_other (hne r _ h2 (by simp))).trans h2,by rw [hb];exact h3,h4⟩,hs.marks.2⟩
          ghost:=hG }
theorem zjZ {s:AS} {a:Act} {ps:Array Tmp} {assign body:Code} {fn:FuncId} {items:List (List AV)} (hl:l=w0.heap.size+1) (hd:d=w0.heap.size) (hs0:Sat cx E0 s a w0)
  (I:List (List AV)→AHeap×Option (List (List AV))) (J:Code→AHeap→Option (List (List AV))→Prop)
  (hnames:∀xs,xs<+:items→∀i,(hget (I xs).1 i).isSome→p i=false) (hJ:∀c h3 g3,J c h3 g3→∀i,(hget h3 i).isSome→p i=false)
  (hlen:∀x∈items,x.length=ps.size) (hps:∀t∈ps.toList,t<cx.nt) (hfl:∀i,(hget s.h i).isSome→i<fl)
  (hround:∀xs x,(xs++ [x])<+:items→∀ (l:Nat) (r1:Rnd cx),AW (cx.inR l fl r1) assign (AsgK fun s1=>∀r2:Rnd cx,AW (cx.inR l fl r2) body (zc (fun h' g'=>leH h' (I (xs++ [x])).1∧inH (I (xs++ [x])).1 (idsH (I (xs++ [x])).1)∧g'=(I (xs++ [x])).2) J) s1)
   { t:=zd2 ps.toList x (keepT (I xs).1 s.t),h:=(I xs).1,g:=(I xs).2 })
  (rec:LoopState→Option Code→Loop) (hrec:rec=fun st pe=> { state:=st,pending:=pe,fn:=fn,tmps:=a.tmps,params:=ps,assign:=assign,body:=body,defers:=d }):
  ∀xs x X M N A w (vs:Array Value),zaR cx l d fl p E0 s.h w0 a.defers I J rec (some xs) M N A w→(∀b,M b∨N b∨A b→X b)→Reps w (bare X) [] x vs.toList→(xs++ [x])<+:items→
  ziK cx.P l vs w (fun e w'=>∃b M',e= .returned (.bool b)∧w'.os=w.os∧w'.tape=w.tape∧w'.output=w.output∧w.heap.size≤w'.heap.size∧(∀k,k<w.heap.size→¬M k→w'.heap[k]?=w.heap[k]?)∧
   (∀k,M k→M' k)∧(∀k,M' k→M k∨(w.heap.size≤k∧k<w'.heap.size))∧zaR cx l d fl p E0 s.h w0 a.defers I J rec (if b=true then some (xs++ [x]) else none) M' N A w'):=by
 intro xs x X M N A w vs hG hX hr hpre
 simp only [zaR] at hG
 obtain ⟨E2,k,hrl⟩:=hG
 have hmk:∀b,zaA a.defers b→b<w0.heap.size:=fun b hb=>hs0.marks.lt hb
 have hxin:x∈items:=by
  obtain ⟨t,rfl⟩:=hpre
  simp
 have hxl:=hlen x hxin
 have hvl:vs.size=ps.size:=by
  have:=Reps.length hr
  simp at this;omega
 obtain ⟨Z,hZ⟩:∃Z:Nat→Prop,Z=fun b=>A b∨b=l∨b=d∨zaA a.defers b:=⟨_,rfl⟩
 have zd:Z d:=by rw [hZ];exact .inr (.inr (.inl rfl))
 have zl:Z l:=by rw [hZ];exact .inr (.inl rfl)
 have zm:∀b,zaA a.defers b→Z b:=fun b hb=>by rw [hZ];exact .inr (.inr (.inr hb))
 have hxpre:xs<+:items:=(List.prefix_append xs [x]).trans hpre
 have hsz:=k.size
 have hmk2:∀b,zaA a.defers b→w.heap[b]?=some (.deferred (some [])):=fun b ⟨dd,hdm,hdt⟩=>by
  obtain ⟨r,h1,h2,h3,h4⟩:=hs0.marks.1 dd hdm
  rw [h1] at hdt
  cases hdt
  exact (k.far.keep b (Array.getElem?_eq_some_iff.1 h2).1 (hs0.hp.not_mark h2) h4).trans h2
 have hmM:∀b,zaA a.defers b→¬E2.M b:=fun b hb hm=>by
  have hlt:=hmk b hb
  obtain ⟨dd,hdm,hdt⟩:=hb
  obtain ⟨r,h1,h2,h3,h4⟩:=hs0.marks.1 dd hdm
  rw [h1] at hdt
  cases hdt
  rcases k.far.m2 b hm with h|h
  ·exact h4 h
  ·omega
 have hZM:∀b,Z b→¬Own E2 (I xs).1 b∧¬E2.M b∧b<w.heap.size:=fun b hb=>by
  rw [hZ] at hb
  rcases hb with hb|rfl|rfl|hb
  ·have hn:=(k.n2 b).2 (.inr (.inl hb))
   exact ⟨fun ho=>(k.hp.own b ho).2.2 hn,k.am b hb,k.hp.nlt b hn⟩
  ·refine ⟨fun ho=>?_,fun hm=>?_,by omega⟩
   ·rcases k.own0 _ ho with h|h
    ·have:=(hs0.hp.own _ (zD h)).1;omega
    ·omega
   ·rcases k.m0 _ hm with h|h
    ·have:=hs0.hp.mlt _ h;omega
    ·omega
  ·refine ⟨fun ho=>?_,fun hm=>?_,by omega⟩
   ·rcases k.own0 _ ho with h|h
    ·have:=(hs0.hp.own _ (zD h)).1;omega
    ·omega
   ·rcases k.m0 _ hm with h|h
    ·have:=hs0.hp.mlt _ h;omega
    ·omega
  ·exact ⟨k.hp.not_mark (hmk2 b hb),hmM b hb,(Array.getElem?_eq_some_iff.1 (hmk2 b hb)).1⟩
 have hX0:∀b c T fz,w0.heap[b]?=some (.cells c T fz)→Xs E2 (I xs).1 b→Xs E0 s.h b:=fun b c T fz hc hx=>by
  have hb:=(Array.getElem?_eq_some_iff.1 hc).1
  rcases hx with hx|hx|hx
  ·rcases k.far.own b hx with h|h
   ·exact .inl h
   ·omega
  ·rcases k.far.m2 b hx with h|h
   ·exact .inr (.inl h)
   ·omega
  ·rcases (k.n2 b).1 hx with h|h|h|h
   ·exact .inr (.inr h)
   ·rcases k.a1 b h with h|h
    ·exact .inl (zD h)
    ·omega
   ·omega
   ·omega
 have hK0:∀b c T fz,w0.heap[b]?=some (.cells c T fz)→¬Xs E0 s.h b→w.heap[b]?=some (.cells c T fz):=fun b c T fz hc hx=>by
  rcases k.far.block b (Array.getElem?_eq_some_iff.1 hc).1 with h|h
  ·exact absurd h hx
  ·exact h.trans hc
 have hgo0:∀j,(hget (I xs).1 j).isSome→GoesOn E0 s.h E2 (I xs).1 j:=fun j hj=>by
  by_cases hj0:(hget s.h j).isSome
  ·exact (k.far.go j (hfl j hj0) hj).2
  ·unfold GoesOn
   split
   ·rename_i cs hh;exact (hj0 (by simp [hh])).elim
   ·rename_i k xs hh;exact (hj0 (by simp [hh])).elim
   ·rename_i l p hh;exact (hj0 (by simp [hh])).elim
   ·rename_i es hh;exact (hj0 (by simp [hh])).elim
   ·rename_i tt cs hh;exact (hj0 (by simp [hh])).elim
   ·rename_i tt cs hh;exact (hj0 (by simp [hh])).elim
   ·trivial
 have hsl0:Slots w E2 ⟨keepT (I xs).1 s.t,(I xs).1,(I xs).2⟩ a:=zfQ (g:=s.g) hs0.slots hX0 hK0 hgo0
 have hr2:Reps w E2 (I xs).1 x vs.toList:=Reps.stepc (E:=bare X) (h:= []) (fun b c T fz hc hx=>by
   refine .inr (.inr ?_)
   rcases hx with hx|hx|hx
   ·exact hX b (.inl (k.m1 b (.inl hx)))
   ·exact hX b (.inl (k.m1 b (.inr hx)))
   ·rcases (k.n2 b).1 hx with h|h|h|h
    ·exact hX b (.inr (.inl ((k.n1 b).2 h)))
    ·exact hX b (.inr (.inr h))
    ·rw [h];exact hX l (.inl k.ml.1)
    ·rw [h];exact hX d (.inl k.ml.2)) (fun _ _ _ _ h _=>h) _ _ (fun j _=>by simp [GoesOn,hget]) hr
 have hsl:=zgk (a:=a) (g:=(I xs).2) ps.toList x vs.toList (keepT (I xs).1 s.t) a.tmps (by simp [hvl]) (fun t ht=>by have:=hps t ht;rw [hs0.nt];exact this) hr2 hsl0
 obtain ⟨tmps,htm⟩:∃tmps,tmps=(ps.toList.zip vs.toList).foldl (fun (t:Array Value) (q:Tmp×Value)=>t.setIfInBounds q.1 q.2) a.tmps:=⟨_,rfl⟩
 have htm2:(ps.zip vs).foldl (fun (t:Array Value) (x:Tmp×Value)=>match x with|(t',v)=>t.setIfInBounds t' v) a.tmps=tmps:=by
  rw [htm,← Array.foldl_toList,Array.toList_zip]
 have htsz:∀ (l:List (Tmp×Value)) (t:Array Value),(l.foldl (fun (t:Array Value) (q:Tmp×Value)=>t.setIfInBounds q.1 q.2) t).size=t.size:=by
  intro l
  induction l with
  |nil=>intro t;rfl
  |cons q l ih=>intro t;simp only [List.foldl_cons];rw [ih];simp
 have hrun:=run_yield (P:=cx.P) (args:=vs) hrl (by rw [hrec];exact hvl)
 rw [hrec] at hrun
 dsimp only at hrun
 rw [htm2] at hrun
 obtain ⟨r1,hr1⟩:∃r1:Rnd cx,r1=rnd cx l d E0.N Z (rec .ready none) a.defers zd zl zm:=⟨_,rfl⟩
 have hsat1:Sat (cx.inR l fl r1) E2 { t:=zd2 ps.toList x (keepT (I xs).1 s.t),h:=(I xs).1,g:=(I xs).2 } { tmps:=tmps,defers:= [] } w:=by
  refine ⟨fun kk g v hk=>by rw [htm];exact hsl kk g v hk,?_,k.hp,Nat.le_trans hs0.base k.far.size,⟨by simp,by simp⟩,?_⟩
  ·show tmps.size=cx.nt
   rw [htm,htsz];exact hs0.nt
  ·rw [hr1]
   show cx.G _ _ _ _ _∧_
   refine ⟨?_,fun b hb=>⟨fun ho=>?_,(hZM b hb).2⟩,hrl,k.dd,fun b hb=>?_,hmk2⟩
   ·refine cx.stab _ _ _ _ _ w _ (fun _ _ _=>rfl) (fun b hb=> .inl ?_) (fun b hb=>?_) (Nat.le_refl _) rfl rfl rfl k.ghost
    ·rcases hb with (hb|⟨dd,hdd,_⟩)|hb
     ·exact .inl hb
     ·simp at hdd
     ·rw [hZ] at hb;exact .inr hb
    ·rcases hb with (hb|⟨dd,hdd,_⟩)|hb
     ·exact (k.hp.own b hb).1
     ·simp at hdd
     ·exact (hZM b hb).2.2
   ·rcases ho with ho|⟨dd,hdd,_⟩
    ·exact (hZM b hb).1 ho
    ·simp at hdd
   ·refine (k.n2 b).2 ?_
    rcases hb with hb|⟨hb,hnm⟩
    ·exact .inl hb
    ·rw [hZ] at hb
     rcases hb with hb|hb|hb|hb
     ·exact .inr (.inl hb)
     ·exact .inr (.inr (.inl hb))
     ·exact .inr (.inr (.inr hb))
     ·exact absurd hb hnm
 refine ⟨fn,tmps,assign,body,hrun,roundIn_of_wpIn trivial ?_⟩
 refine wpIn_mono (hround xs x hpre l r1 E2 _ w hsat1) ?_
 intro e a1 w1 hre
 cases e with
 | normal=>
  obtain ⟨E3,s3,hbody,hs3,he3⟩:=hre
  have hg3:=hs3.ghost
  rw [hr1] at hg3
  obtain ⟨q1,q2,q3,q4,q5,q6⟩:=hg3
  have hbr:=run_beginRound (P:=cx.P) q3 (by rw [hrec])
  refine ⟨_,hbr,?_⟩
  obtain ⟨r2,hr2e⟩:∃r2:Rnd cx,r2=rnd cx l d E0.N Z { rec .ready none with state:= .busy } a.defers zd zl zm:=⟨_,rfl⟩
  have hne:∀b,b≠l→(w1.putObj l (.loop { rec .ready none with state:= .busy })).heap[b]?=w1.heap[b]?:=fun b hb=>World.putObj_heap_other hb
  have hdl:d≠l:=by omega
  have hsat2:Sat (cx.inR l fl r2) E3 s3 a1 (w1.putObj l (.loop { rec .ready none with state:= .busy })):=by
   refine ziY _ hs3 q3 rfl rfl ?_
   rw [hr2e]
   refine ⟨cx.stab _ _ _ _ _ w1 _ (fun b _ hb=>hne b (fun e=>hb (by rw [e];exact .inr zl))) (fun b hb=> .inl hb) (fun b hb=>?_) (by simp) rfl rfl rfl q1,fun b hb=>⟨(q2 b hb).1,(q2 b hb).2.1,by simpa using (q2 b hb).2.2⟩,World.putObj_heap_same (Array.getElem?_eq_some_iff.1 q3).1,(hne d hdl).trans q4,q5,fun b hb=>(hne b (fun e=>by
    rw [e] at hb
    have:=hmk _ hb;omega)).trans (q6 b hb)⟩
   rw [World.putObj_size]
   rcases hb with hb|hb
   ·rcases hb with hb|hb
    ·exact (hs3.hp.own b hb).1
    ·exact hs3.marks.lt hb
   ·exact (q2 b hb).2.2
  refine wpIn_mono (hbody r2 E3 a1 _ hsat2) ?_
  have fin:∀ (jump:Option Code) (a4:Act) (w3:World) (E4:Env) (s4:AS),Sat (cx.inR l fl r2) E4 s4 a4 w3→Evo fl E3 s3.h (w1.putObj l (.loop { rec .ready none with state:= .busy })) E4 s4.h w3→
    (∀w4,w4.heap[l]?=some (.loop (rec (if jump.isNone then .ready else .done) jump))→(∀h',SatH E4 h' w4→(∀b,Own E4 h' b→Own E4 s4.h b)→(∀i,(hget h' i).isSome→(hget s4.h i).isSome∧GoesOn E4 s4.h E4 h' i)→(∀i,(hget h' i).isSome→p i=false)→Kept cx l d fl p E0 s.h w0 a.defers (fun b=>M b∨(w.heap.size≤b∧b<w4.heap.size)) N A E4 h' s4.g w4)→SatH E4 s4.h w4→
     zaR cx l d fl p E0 s.h w0 a.defers I J rec (if jump.isNone=true then some (xs++ [x]) else none) (fun b=>M b∨(w.heap.size≤b∧b<w4.heap.size)) N A w4)→
    ∃v w',(Instr.endRound l jump).run cx.P w3= .ok v w'∧(∃b M',(Ending.returned v:Ending)= .returned (.bool b)∧w'.os=w.os∧w'.tape=w.tape∧w'.output=w.output∧w.heap.size≤w'.heap.size∧(∀k,k<w.heap.size→¬M k→w'.heap[k]?=w.heap[k]?)∧
     (∀k,M k→M' k)∧(∀k,M' k→M k∨(w.heap.size≤k∧k<w'.heap.size))∧zaR cx l d fl p E0 s.h w0 a.defers I J rec (if b=true then some (xs++ [x]) else none) M' N A w'):=by
   intro jump a4 w3 E4 s4 hs4 he4 hfin
   have hg4:=hs4.ghost
   rw [hr2e] at hg4
   obtain ⟨t1,t2,t3,t4,t5,t6⟩:=hg4
   have hend:=run_endRound (P:=cx.P) jump t3
   obtain ⟨w4,hw4⟩:∃w4,w4=w3.putObj l (.loop (rec (if jump.isNone then .ready else .done) jump)):=⟨_,rfl⟩
   have hend':(Instr.endRound l jump).run cx.P w3= .ok (.bool jump.isNone) w4:=by
    rw [hend,hw4,hrec]
   have hl4:w4.heap[l]?=some (.loop (rec (if jump.isNone then .ready else .done) jump)):=by rw [hw4];exact World.putObj_heap_same (Array.getElem?_eq_some_iff.1 t3).1
   have hne4:∀b,b≠l→w4.heap[b]?=w3.heap[b]?:=fun b hb=>by rw [hw4];exact World.putObj_heap_other hb
   have hG4:∀h',(∀b,Own E4 h' b→Own E4 s4.h b)→cx.G s4.g E4.M E0.N (fun b=>Own E4 h' b∨A b∨b=l∨b=d∨zaA a.defers b) w4:=fun h' hown=>by
    refine cx.stab _ _ _ _ _ w3 _ (fun b _ hb=>hne4 b (fun e=>hb (by rw [e];exact .inr zl))) (fun b hb=> .inl ?_) (fun b hb=>?_) (by rw [hw4];simp) (by rw [hw4];rfl) (by rw [hw4];rfl) (by rw [hw4];rfl) t1
    ·rcases hb with hb|hb
     ·exact .inl (.inl (hown b hb))
     ·exact .inr (by rw [hZ];exact hb)
    ·rw [hw4,World.putObj_size]
     rcases hb with hb|hb
     ·exact (hs4.hp.own b (hown b hb)).1
     ·exact (t2 b (by rw [hZ];exact hb)).2.2
   have hs4':SatH E4 s4.h w4:=by
    rw [hw4]
    exact (ziY (cx1:=cx.inR l fl r2) (cx2:=cxOf cx.P cx.base cx.nt fl) _ hs4 t3 rfl rfl trivial).hp
   have hev:EvoL l fl E2 (I xs).1 w E4 s4.h w4:=by
    rw [hw4]
    exact ((he3.l.trans (EvoL.put _)).trans he4.l).trans (EvoL.put _)
   refine ⟨_,w4,hend',jump.isNone,fun b=>M b∨(w.heap.size≤b∧b<w4.heap.size),rfl,hev.os,hev.tape,hev.output,hev.size,fun kk hk hm=>hev.keep kk hk (fun h=>hm (k.m1 kk (.inl h))) (fun h=>hm (k.m1 kk (.inr h))) (fun e=>hm (by rw [e];exact k.ml.1)),fun kk hk=> .inl hk,fun kk hk=>hk,?_⟩
   exact hfin w4 hl4 (fun h' hs' hown hgo hn=>k.round hl hd hev hs4' hs' hown hgo hn ((hne4 d hdl).trans t4) (hG4 h' hown)) hs4'
  rintro e a4 w3 hr4
  cases e with
  | normal=>
   obtain ⟨E4,s4,⟨hle,hin,hgg⟩,hs4,he4⟩:=hr4
   refine fin none a4 w3 E4 s4 hs4 he4 (fun w4 hl4 hk4 hs4'=>?_)
   simp only [Option.isNone_none,if_true,zaR]
   have:=hk4 (I (xs++ [x])).1 (hs4'.le hle hin) (fun b hb=>zgc hle hb) (fun i hg=>⟨by
    obtain ⟨o',ho'⟩:=Option.isSome_iff_exists.1 hg
    obtain ⟨o,ho,_⟩:=zbq hle ho'
    simp [ho],zbO hle hg⟩) (hnames _ hpre)
   rw [hgg] at this
   exact ⟨E4,this,hl4⟩
  |ret=>
   obtain ⟨E4,s4,hj,hs4,he4⟩:=hr4
   refine fin (some .ret) a4 w3 E4 s4 hs4 he4 (fun w4 hl4 hk4 hs4'=>?_)
   simp only [Option.isNone_some,Bool.false_eq_true,if_false,zaR]
   exact ⟨E4,_,_,_,hk4 s4.h hs4' (fun _ h=>h) (fun i h=>⟨h,GoesOn.refl E4 _ i⟩) (hJ _ _ _ hj),hl4,hj⟩
  |exit id=>
   obtain ⟨E4,s4,hj,hs4,he4⟩:=hr4
   refine fin (some (.exit id)) a4 w3 E4 s4 hs4 he4 (fun w4 hl4 hk4 hs4'=>?_)
   simp only [Option.isNone_some,Bool.false_eq_true,if_false,zaR]
   exact ⟨E4,_,_,_,hk4 s4.h hs4' (fun _ h=>h) (fun i h=>⟨h,GoesOn.refl E4 _ i⟩) (hJ _ _ _ hj),hl4,hj⟩
  |goto id=>
   obtain ⟨E4,s4,hj,hs4,he4⟩:=hr4
   refine fin (some (.goto id)) a4 w3 E4 s4 hs4 he4 (fun w4 hl4 hk4 hs4'=>?_)
   simp only [Option.isNone_some,Bool.false_eq_true,if_false,zaR]
   exact ⟨E4,_,_,_,hk4 s4.h hs4' (fun _ h=>h) (fun i h=>⟨h,GoesOn.refl E4 _ i⟩) (hJ _ _ _ hj),hl4,hj⟩
  |panic ch=>obtain ⟨_,_,h,_⟩:=hr4;exact h.elim
  |outgrown=>obtain ⟨_,_,h,_⟩:=hr4;exact h.elim
 |ret=>obtain ⟨_,_,h,_⟩:=hre;exact h.elim
 |exit id=>obtain ⟨_,_,h,_⟩:=hre;exact h.elim
 |goto id=>obtain ⟨_,_,h,_⟩:=hre;exact h.elim
 |panic ch=>obtain ⟨_,_,h,_⟩:=hre;exact h.elim
 |outgrown=>obtain ⟨_,_,h,_⟩:=hre;exact h.elim
end
open Go
section
variable {cx : Cx} {s : AS} {Q : Exit → AS → Prop}
theorem zgl {g:Operand} {ps:Array Tmp} {assign body:Code} {f:FuncId} {fs caps:List AV} {fl:Nat} {items:List (List AV)} {Kit:Option (List (List AV))→AHeap→Prop} (p:Nat→Bool) (I:List (List AV)→AHeap×Option (List (List AV))) (J:Code→AHeap→Option (List (List AV))→Prop)
    (hro:cx.ro=none) (hg:s.ev g=(true,.fn (.func f) fs caps)) (hit:AIter cx.P f fl fs caps (hsel p s.h) items Kit)
    (hfl:∀i,(hget s.h i).isSome→i<fl) (hfc:cx.fl≤fl) (hcl:zgj p s.h) (hids:∀j∈AV.idsL fs++AV.idsL caps,p j=true)
    (hI:leH (hsel (fun i=> !p i) s.h) (I []).1) (hIn:inH (I []).1 (idsH (I []).1)) (hIg:(I []).2=s.g)
    (hnames:∀xs,xs<+:items→∀i,(hget (I xs).1 i).isSome→p i=false) (hJ:∀c h3 g3,J c h3 g3→∀i,(hget h3 i).isSome→p i=false) (hK1:∀g h',Kit g h'→(∀i,(hget h' i).isSome→p i=true)∧(∀xs,g=some xs→xs=items))
    (hlen:∀x∈items,x.length=ps.size) (hps:∀t∈ps.toList,t<cx.nt)
    (hround:∀xs x,(xs++ [x])<+:items→∀ (l:Nat) (r1:Rnd cx),AW (cx.inR l fl r1) assign (AsgK fun s1=>∀r2:Rnd cx,AW (cx.inR l fl r2) body (zc (fun h' g'=>leH h' (I (xs++ [x])).1∧inH (I (xs++ [x])).1 (idsH (I (xs++ [x])).1)∧g'=(I (xs++ [x])).2) J) s1)
      { t:=zd2 ps.toList x (keepT (I xs).1 s.t),h:=(I xs).1,g:=(I xs).2 })
    (hdone:∀h1,Kit (some items) h1→Q .normal { t:=keepT (h1++(I items).1) s.t,h:=h1++(I items).1,g:=(I items).2 })
    (hstop:∀c h1 h3 g3,Kit none h1→J c h3 g3→AW cx c Q { t:=keepT (h1++h3) s.t,h:=h1++h3,g:=g3 }):
    AW cx (.rangeFunc g ps assign body) Q s:=by
  intro E0 a w0 hs0
  refine wpIn_rangeFunc ?_
  intro fn hfn
  obtain ⟨l,hl⟩:∃l,l=w0.heap.size+1:=⟨_,rfl⟩
  obtain ⟨d,hd⟩:∃d,d=w0.heap.size:=⟨_,rfl⟩
  obtain ⟨rec,hrec⟩:∃rec:LoopState→Option Code→Loop,rec=fun st pe=> { state:=st,pending:=pe,fn:=fn,tmps:=a.tmps,params:=ps,assign:=assign,body:=body,defers:=d } :=⟨_,rfl⟩
  obtain ⟨w1,hw1⟩:∃w1,w1=(w0.alloc (.deferred (some []))).alloc (.loop (rec .ready none)):=⟨_,rfl⟩
  have hsz1:w1.heap.size=w0.heap.size+2:=by rw [hw1];simp
  have hk1:∀b,b<w0.heap.size→w1.heap[b]?=w0.heap[b]?:=fun b hb=>by
    rw [hw1]
    show ((w0.heap.push _).push _)[b]?=_
    rw [Array.getElem?_push,if_neg (by simp;omega),Array.getElem?_push,if_neg (by omega)]
  have hd1:w1.heap[d]?=some (.deferred (some [])):=by
    rw [hw1,hd]
    show ((w0.heap.push _).push _)[w0.heap.size]?=_
    rw [Array.getElem?_push,if_neg (by simp),Array.getElem?_push,if_pos rfl]
  have hl1:w1.heap[l]?=some (.loop (rec .ready none)):=by
    rw [hw1,hl]
    show ((w0.heap.push _).push _)[w0.heap.size+1]?=_
    rw [Array.getElem?_push,if_pos (by simp)]
  have hfv:=ev_ok hs0.slots g (by rw [hg])
  rw [hg] at hfv
  simp only [Rep] at hfv
  obtain ⟨pf,qc,hgv,hfs,hcs⟩:=hfv
  have hids1:∀j∈AV.idsL fs,p j=true:=fun j hj=>hids j (List.mem_append_left _ hj)
  have hids2:∀j∈AV.idsL caps,p j=true:=fun j hj=>hids j (List.mem_append_right _ hj)
  have hmk:∀b,zaA a.defers b→b<w0.heap.size:=fun b hb=>hs0.marks.lt hb
  have howns:∀b,Own E0 (hsel p s.h) b→¬Own E0 (hsel (fun i=> !p i) s.h) b:=by
    rintro b ⟨i,hi,hb⟩ ⟨j,hj,hb'⟩
    rw [zk] at hi hj
    split at hi
    · rename_i hpi
      split at hj
      · rename_i hpj
        have:=hs0.hp.inj i j b hi hj hb hb'
        subst this
        rw [hpi] at hpj;cases hpj
      · simp at hj
    · simp at hi
  obtain ⟨E1,hE1⟩:∃E1:Env,E1= { O:=E0.O,C:=E0.C,M:=fun b=>Own E0 (hsel (fun i=> !p i) s.h) b∨E0.M b∨b=l∨b=d,N:=E0.N } :=⟨_,rfl⟩
  have hX1:∀b,b<w0.heap.size→Xs E1 (hsel p s.h) b→Xs E0 s.h b:=by
    rw [hE1]
    rintro b hb (hx|(hx|hx|hx|hx)|hx)
    · exact .inl (zD hx)
    · exact .inl (zD hx)
    · exact .inr (.inl hx)
    · omega
    · omega
    · exact .inr (.inr hx)
  have hgo1:∀j,p j=true→GoesOn E0 s.h E1 (hsel p s.h) j:=fun j hj=>by
    rw [hE1]
    unfold GoesOn
    rw [zk,if_pos hj]
    split<;>simp_all
  have hs1:SatH E1 (hsel p s.h) w1:=by
    refine ⟨fun i o ho=>?_,fun i j b hi hj h1 h2=>?_,fun b hb=>?_,fun b hb=>?_,fun b hb=>?_⟩
    · have ho':=ho
      rw [zk] at ho'
      split at ho'
      · rename_i hpi
        have:=hs0.hp.heap i o ho'
        have hidso:=hcl i o ho' hpi
        have hlt:∀b,E0.O i=some b→w1.heap[b]?=w0.heap[b]?:=fun b hb=>hk1 b (hs0.hp.own b ⟨i,by simp [ho'],hb⟩).1
        have hO:E1.O=E0.O:=by rw [hE1]
        have hC:E1.C=E0.C:=by rw [hE1]
        cases o with
        | var cs=>
          simp only [RepObj,hO] at this ⊢
          obtain ⟨b,c,T,fz,g1,g2,g3,g4⟩:=this
          exact ⟨b,c,T,fz,g1,(hlt b g1).trans g2,Reps.step hX1 (fun b hb _=>hk1 b hb) _ _ (fun j hj=>hgo1 j (hidso j hj)) g3,g4⟩
        | tvar tt cs=>
          simp only [RepObj,hO] at this ⊢
          obtain ⟨b,c,T,fz,g1,g2,g3,g4⟩:=this
          exact ⟨b,c,T,fz,g1,(hlt b g1).trans g2,Reps.step hX1 (fun b hb _=>hk1 b hb) _ _ (fun j hj=>hgo1 j (hidso j hj)) g3,g4⟩
        | arr k xs=>
          simp only [RepObj,hO,hC] at this ⊢
          rcases this with g|⟨b,c,T,fz,g1,g2,g3,g4,g5,g6⟩
          · exact .inl g
          · exact .inr ⟨b,c,T,fz,g1,(hlt b g1).trans g2,g3,g4,RepRows.step hX1 (fun b hb _=>hk1 b hb) _ _ _ g5,g6⟩
        | buf tt xs=>
          simp only [RepObj,hO,hC] at this ⊢
          rcases this with g|⟨b,c,T,fz,g1,g2,g3,g4,g5,g6⟩
          · exact .inl g
          · exact .inr ⟨b,c,T,fz,g1,(hlt b g1).trans g2,g3,g4,g5,g6⟩
        | strit l q=>
          simp only [RepObj,hO] at this ⊢
          obtain ⟨b,g1,g2⟩:=this
          exact ⟨b,g1,(hlt b g1).trans g2⟩
        | omap es=>
          simp only [RepObj,hO] at this ⊢
          obtain ⟨b,m,cl,g1,g2,g3⟩:=this
          exact ⟨b,m,cl,g1,(hlt b g1).trans g2,g3⟩
      · cases ho'
    · rw [hE1] at h1 h2
      rw [zk] at hi hj
      split at hi
      · split at hj
        · exact hs0.hp.inj i j b hi hj h1 h2
        · simp at hj
      · simp at hi
    · have hb':Own E0 (hsel p s.h) b:=by rw [hE1] at hb;exact hb
      have:=hs0.hp.own b (zD hb')
      rw [hE1]
      refine ⟨by omega,?_,this.2.2⟩
      rintro (hx|hx|hx|hx)
      · exact howns b hb' hx
      · exact this.2.1 hx
      · omega
      · omega
    · rw [hE1] at hb
      rcases hb with hx|hx|hx|hx
      · have:=(hs0.hp.own b (zD hx)).1;omega
      · have:=hs0.hp.mlt b hx;omega
      · omega
      · omega
    · rw [hE1] at hb
      have:=hs0.hp.nlt b hb;omega
  have hfs1:Reps w1 E1 (hsel p s.h) fs pf.toList:=Reps.step hX1 (fun b hb _=>hk1 b hb) _ _ (fun j hj=>hgo1 j (hids1 j hj)) hfs
  have hcs1:Reps w1 E1 (hsel p s.h) caps qc.toList:=Reps.step hX1 (fun b hb _=>hk1 b hb) _ _ (fun j hj=>hgo1 j (hids2 j hj)) hcs
  obtain ⟨E2,hE2⟩:∃E2:Env,E2= { O:=E0.O,C:=E0.C,M:=E0.M,N:=fun b=>E0.N b∨Own E0 (hsel p s.h) b∨b=l∨b=d } :=⟨_,rfl⟩
  have hown2:∀b,Own E2 (I []).1 b→Own E0 (hsel (fun i=> !p i) s.h) b:=fun b hb=>by
    have:Own E0 (I []).1 b:=by rw [hE2] at hb;exact hb
    exact zgc hI this
  have hX2:∀b,b<w0.heap.size→Xs E2 (I []).1 b→Xs E0 s.h b:=by
    intro b hb hx
    rcases hx with hx|hx|hx
    · exact .inl (zD (hown2 b hx))
    · rw [hE2] at hx;exact .inr (.inl hx)
    · rw [hE2] at hx
      rcases hx with hx|hx|hx|hx
      · exact .inr (.inr hx)
      · exact .inl (zD hx)
      · omega
      · omega
  have hO2:E2.O=E0.O:=by rw [hE2]
  have hC2:E2.C=E0.C:=by rw [hE2]
  have hM2:E2.M=E0.M:=by rw [hE2]
  have hs2:SatH E2 (I []).1 w1:=by
    have hp0:∀i o,hget (hsel (fun i=> !p i) s.h) i=some o→RepObj w0 E0 s.h i o:=fun i o ho=>by
      rw [zk] at ho
      split at ho
      · exact hs0.hp.heap i o ho
      · cases ho
    refine ⟨fun i o ho=>?_,fun i j b hi hj h1 h2=>?_,fun b hb=>?_,fun b hb=>?_,fun b hb=>?_⟩
    · obtain ⟨o1,ho1,hle⟩:=zbq hI ho
      have hr:=hp0 i o1 ho1
      have hlt:∀b,E0.O i=some b→w1.heap[b]?=w0.heap[b]?:=fun b hb=>hk1 b (hs0.hp.own b ⟨i,by
        rw [zk] at ho1
        split at ho1
        · simp [ho1]
        · simp at ho1,hb⟩).1
      have hgoI:∀j,(hget (I []).1 j).isSome→GoesOn E0 s.h E2 (I []).1 j:=fun j hj=>by
        have hj1:=zbO (E:=E0) hI hj
        have hj2:(hget (hsel (fun i=> !p i) s.h) j).isSome:=by
          obtain ⟨o',ho'⟩:=Option.isSome_iff_exists.1 hj
          obtain ⟨oo,hoo,_⟩:=zbq hI ho'
          simp [hoo]
        have hpj:(!p j)=true:=by
          rw [zk] at hj2
          split at hj2
          · assumption
          · simp at hj2
        have hj3:=(zc1 (E:=E0) (h:=s.h) (p:=fun i=> !p i) j hpj).trans hj1
        unfold GoesOn at hj3 ⊢
        rw [hO2,hC2]
        exact hj3
      have hidsI:∀j∈o.ids,(hget (I []).1 j).isSome:=fun j hj=>zeV hIn j (zes ho j hj)
      cases o1 with
      | var cs=>
        cases o<;>simp only [AObj.le] at hle
        simp only [RepObj,hO2] at hr ⊢
        obtain ⟨b,c,T,fz,g1,g2,g3,g4⟩:=hr
        exact ⟨b,c,T,fz,g1,(hlt b g1).trans g2,Reps.step hX2 (fun b hb _=>hk1 b hb) _ _ (fun j hj=>hgoI j (hidsI j hj)) (Reps.le _ _ _ hle g3),g4⟩
      | tvar tt cs=>
        cases o<;>simp only [AObj.le] at hle
        obtain ⟨rfl,hle⟩:=hle
        simp only [RepObj,hO2] at hr ⊢
        obtain ⟨b,c,T,fz,g1,g2,g3,g4⟩:=hr
        exact ⟨b,c,T,fz,g1,(hlt b g1).trans g2,Reps.step hX2 (fun b hb _=>hk1 b hb) _ _ (fun j hj=>hgoI j (hidsI j hj)) (Reps.le _ _ _ hle g3),g4⟩
      | arr k xs=>
        simp only [AObj.le] at hle;subst hle
        simp only [RepObj,hO2,hC2] at hr ⊢
        rcases hr with g|⟨b,c,T,fz,g1,g2,g3,g4,g5,g6⟩
        · exact .inl g
        · exact .inr ⟨b,c,T,fz,g1,(hlt b g1).trans g2,g3,g4,RepRows.step hX2 (fun b hb _=>hk1 b hb) _ _ _ g5,g6⟩
      | buf tt xs=>
        simp only [AObj.le] at hle;subst hle
        simp only [RepObj,hO2,hC2] at hr ⊢
        rcases hr with g|⟨b,c,T,fz,g1,g2,g3,g4,g5,g6⟩
        · exact .inl g
        · exact .inr ⟨b,c,T,fz,g1,(hlt b g1).trans g2,g3,g4,g5,g6⟩
      | strit l q=>
        simp only [AObj.le] at hle;subst hle
        simp only [RepObj,hO2] at hr ⊢
        obtain ⟨b,g1,g2⟩:=hr
        exact ⟨b,g1,(hlt b g1).trans g2⟩
      | omap es=>
        simp only [AObj.le] at hle;subst hle
        simp only [RepObj,hO2] at hr ⊢
        obtain ⟨b,m,cl,g1,g2,g3⟩:=hr
        exact ⟨b,m,cl,g1,(hlt b g1).trans g2,g3⟩
    · rw [hO2] at h1 h2
      have key:∀i,(hget (I []).1 i).isSome→(hget s.h i).isSome:=fun i hi=>by
        obtain ⟨o',ho'⟩:=Option.isSome_iff_exists.1 hi
        obtain ⟨oo,hoo,_⟩:=zbq hI ho'
        rw [zk] at hoo
        split at hoo
        · simp [hoo]
        · cases hoo
      exact hs0.hp.inj i j b (key i hi) (key j hj) h1 h2
    · have hb':=hown2 b hb
      have:=hs0.hp.own b (zD hb')
      rw [hE2]
      refine ⟨by omega,this.2.1,?_⟩
      rintro (hx|hx|hx|hx)
      · exact this.2.2 hx
      · exact howns b hx hb'
      · omega
      · omega
    · rw [hM2] at hb
      have:=hs0.hp.mlt b hb;omega
    · rw [hE2] at hb
      rcases hb with hx|hx|hx|hx
      · have:=hs0.hp.nlt b hx;omega
      · have:=(hs0.hp.own b (zD hx)).1;omega
      · omega
      · omega
  have hkept:Kept cx l d fl p E0 s.h w0 a.defers E1.M E1.N (Own E1 (hsel p s.h)) E2 (I []).1 (I []).2 w1:=by
    have hO1:∀b,Own E1 (hsel p s.h) b↔Own E0 (hsel p s.h) b:=fun b=>by rw [hE1];exact Iff.rfl
    refine ⟨hs2,hnames [] (List.nil_prefix),fun b=>by rw [hE1],fun b hb=> .inl ((hO1 b).1 hb),fun b=>by rw [hE2];simp only [hO1],fun b hb hm=>?_,fun b hb=>?_,?_,⟨by rw [hw1];rfl,by rw [hw1];rfl,by rw [hw1];rfl,by omega,fun b hb _ _=>hk1 b hb,fun b hb=> .inl (zD (hown2 b hb)),fun b hb=>by rwa [hM2],fun b hb=> .inl (by rwa [hM2] at hb),fun i hi hg=>?_⟩,fun b hb=> .inl (hown2 b hb),fun b hb=> .inl (by rwa [hM2] at hb),by omega,hd1,?_⟩
    · rw [hM2] at hm
      exact (hs0.hp.own b (zD ((hO1 b).1 hb))).2.1 hm
    · rw [hE1]
      rcases hb with hb|hb
      · exact .inl (hown2 b hb)
      · exact .inr (.inl (by rwa [hM2] at hb))
    · rw [hE1];exact ⟨.inr (.inr (.inl rfl)),.inr (.inr (.inr rfl))⟩
    · have hj1:=zbO (E:=E0) hI hg
      have hj2:(hget (hsel (fun i=> !p i) s.h) i).isSome:=by
        obtain ⟨o',ho'⟩:=Option.isSome_iff_exists.1 hg
        obtain ⟨oo,hoo,_⟩:=zbq hI ho'
        simp [hoo]
      have hpj:(!p i)=true:=by
        rw [zk] at hj2
        split at hj2
        · assumption
        · simp at hj2
      have hj3:=(zc1 (E:=E0) (h:=s.h) (p:=fun i=> !p i) i hpj).trans hj1
      refine ⟨by rw [zk,if_pos hpj] at hj2;exact hj2,?_⟩
      unfold GoesOn at hj3 ⊢
      rw [hO2,hC2]
      exact hj3
    · rw [hIg,hM2]
      refine cx.stab _ _ _ _ _ w0 _ (fun b hb _=>hk1 b hb) (fun b hb=>?_) (fun b hb=>?_) (by omega) (by rw [hw1];rfl) (by rw [hw1];rfl) (by rw [hw1];rfl) hs0.ghost
      · rcases hb with hb|hb|hb|hb|hb
        · exact .inl (.inl (zD (hown2 b hb)))
        · exact .inl (.inl (zD ((hO1 b).1 hb)))
        · exact .inr (by omega)
        · exact .inr (by omega)
        · exact .inl (.inr hb)
      · rcases hb with hb|hb|hb|hb|hb
        · have:=(hs0.hp.own b (zD (hown2 b hb))).1;omega
        · have:=(hs0.hp.own b (zD ((hO1 b).1 hb))).1;omega
        · omega
        · omega
        · have:=hmk b hb;omega
  let y : Yo cx.P items:=
    { yl:=l
      G:=zaR cx l d fl p E0 s.h w0 a.defers I J rec
      stab:=fun gg M N A A' w w' hk hA hAb hsz ht ho hout hG=>by
        cases gg with
        | some xs=>
          simp only [zaR] at hG ⊢
          obtain ⟨E3,k,hrl⟩:=hG
          obtain ⟨E3',k',hnl⟩:=k.step hl hd hs0.hp hmk hk hA hAb hsz ht ho hout
          exact ⟨E3',k',(hk l (by have:=k.size;omega) hnl).trans hrl⟩
        | none=>
          simp only [zaR] at hG ⊢
          obtain ⟨E3,c,h3,g3,k,hrl,hj⟩:=hG
          obtain ⟨E3',k',hnl⟩:=k.step hl hd hs0.hp hmk hk hA hAb hsz ht ho hout
          exact ⟨E3',c,h3,g3,k',(hk l (by have:=k.size;omega) hnl).trans hrl,hj⟩
      yok:=zjZ hl hd hs0 I J hnames hJ hlen hps hfl hround rec hrec }
  obtain ⟨hen,hcall⟩:=hit
  have hG1:zaR cx l d fl p E0 s.h w0 a.defers I J rec (some []) E1.M E1.N (Own E1 (hsel p s.h)) w1:=by
    simp only [zaR]
    exact ⟨E2,hkept,hl1⟩
  have hcalls:=hcall y E1 w1 pf qc hs1 hfs1 hcs1 hG1
  refine ⟨l,[{ target:= .collected d,args:= #[] }],w1, { target:= .fn (.func f) qc,args:=pf++ #[Value.func (.yield l) #[] #[]] },w1,f,pf++ #[Value.func (.yield l) #[] #[]]++qc,w1,?_,?_,fun _ _=>trivial,?_,fun h=>(by cases h),?_⟩
  · have hround0:cx.F.round=none:=hro
    rw [hround0,hw1,hrec,hl,hd]
    exact run_enterLoop_outer fn a.tmps ps assign body
  · simp only [resolve,rangeCall,hgv,Deferred.ofValue,Sem.run_pure,Sem.run_bind]
    simp [Act.eval]
  · simp only [invoke]
    exact hen _ _
  · refine (ziR 0 hcalls).mono ?_
    rintro e w5 ⟨v,E5,h5,g5,rfl,hKit,hs5,hev5,hG5⟩
    have hG5':zaR cx l d fl p E0 s.h w0 a.defers I J rec g5 E5.M E5.N (Own E5 h5) w5:=hG5
    obtain ⟨hn5,hit5⟩:=hK1 g5 h5 hKit
    have fin:∀ (st:LoopState) (pe:Option Code) (E4:Env) (hI':AHeap) (gI':Option (List (List AV))),st≠ .busy→Kept cx l d fl p E0 s.h w0 a.defers E5.M E5.N (Own E5 h5) E4 hI' gI' w5→w5.heap[l]?=some (.loop (rec st pe))→
        ∃w6 E6,(Instr.endLoop l).run cx.P w5= .ok pe w6∧Sat cx E6 { t:=keepT (h5++hI') s.t,h:=h5++hI',g:=gI' } { a with defers:= { target:= .collected d,args:= #[] } ::a.defers } w6∧Evo cx.fl E0 s.h w0 E6 (h5++hI') w6:=by
      intro st pe E4 hI' gI' hst k hrl
      have hend:=run_endLoop (P:=cx.P) hrl (by rw [hrec];exact hst)
      obtain ⟨w6,hw6⟩:∃w6,w6=w5.putObj l (.loop { rec st pe with state:= .exhausted }):=⟨_,rfl⟩
      have hsz5:=k.size
      have ap:Apart p E5 h5 E4 hI' E4.M E0.N:=
        { n1:=hn5,n2:=k.names,o1:=fun b hb=> .inr ((k.n2 b).2 (.inr (.inl hb))),o2:=fun b hb=> .inl (k.m1 b (.inl hb)),m1:=fun b hb=> .inl (k.m1 b (.inr hb)),m2:=fun b hb=> .inl hb,k1:=fun b hb=> .inr ((k.n1 b).2 hb),k2:=fun b hb=> .inr ((k.n2 b).2 (.inl hb)) }
      have hs6':=ap.sat hs5 k.hp k.hp.mlt (fun b hb=>k.hp.nlt b ((k.n2 b).2 (.inl hb)))
      obtain ⟨E6,hE6⟩:∃E6,E6=joinE p E5 E4 E4.M E0.N:=⟨_,rfl⟩
      rw [← hE6] at hs6'
      have hM6:E6.M=E4.M:=by rw [hE6];rfl
      have hN6:E6.N=E0.N:=by rw [hE6];rfl
      have hown6:∀b,Own E6 (h5++hI') b→Own E5 h5 b∨Own E4 hI' b:=fun b hb=>by rw [hE6] at hb;exact ap.own hb
      have ho5:∀b,Own E5 h5 b→Own E0 s.h b∨w1.heap.size≤b:=fun b hb=>(hev5.own b hb).imp (fun h=>by rw [hE1] at h;exact zD h) id
      have hgoE:∀j,(hget (h5++hI') j).isSome→GoesOn E0 s.h E6 (h5++hI') j∧(j<fl→(hget s.h j).isSome):=fun j hj=>by
        by_cases hpj:p j=true
        · have hj5:(hget h5 j).isSome:=by rw [ap.get1 hpj] at hj;exact hj
          have key:j<fl→(hget s.h j).isSome∧GoesOn E0 s.h E6 (h5++hI') j:=fun hjf=>by
            obtain ⟨q1,q2⟩:=hev5.go j hjf hj5
            rw [zk,if_pos hpj] at q1
            refine ⟨q1,?_⟩
            have q3:GoesOn E0 s.h E5 h5 j:=by
              unfold GoesOn at q2 ⊢
              rw [zk,if_pos hpj,hE1] at q2
              exact q2
            rw [hE6]
            exact q3.trans (ap.goes1 j)
          by_cases hj0:(hget s.h j).isSome
          · exact ⟨(key (hfl j hj0)).2,fun _=>hj0⟩
          · refine ⟨?_,fun hjf=>(key hjf).1⟩
            unfold GoesOn
            split
            · rename_i cs hh;exact (hj0 (by simp [hh])).elim
            · rename_i k xs hh;exact (hj0 (by simp [hh])).elim
            · rename_i l p hh;exact (hj0 (by simp [hh])).elim
            · rename_i es hh;exact (hj0 (by simp [hh])).elim
            · rename_i tt cs hh;exact (hj0 (by simp [hh])).elim
            · rename_i tt cs hh;exact (hj0 (by simp [hh])).elim
            · trivial
        · have hpj':p j=false:=by simpa using hpj
          have hj4:(hget hI' j).isSome:=by rw [ap.get2 hpj'] at hj;exact hj
          by_cases hj0:(hget s.h j).isSome
          · refine ⟨?_,fun _=>hj0⟩
            rw [hE6]
            exact (k.far.go j (hfl j hj0) hj4).2.trans (ap.goes2 j)
          · refine ⟨?_,fun hjf=>(k.far.go j hjf hj4).1⟩
            unfold GoesOn
            split
            · rename_i cs hh;exact (hj0 (by simp [hh])).elim
            · rename_i k xs hh;exact (hj0 (by simp [hh])).elim
            · rename_i l p hh;exact (hj0 (by simp [hh])).elim
            · rename_i es hh;exact (hj0 (by simp [hh])).elim
            · rename_i tt cs hh;exact (hj0 (by simp [hh])).elim
            · rename_i tt cs hh;exact (hj0 (by simp [hh])).elim
            · trivial
      have hXf:∀b c T fz,w0.heap[b]?=some (.cells c T fz)→Xs E6 (h5++hI') b→Xs E0 s.h b:=fun b c T fz hc hx=>by
        have hb:=(Array.getElem?_eq_some_iff.1 hc).1
        rcases hx with hx|hx|hx
        · rcases hown6 b hx with h|h
          · rcases ho5 b h with h|h
            · exact .inl h
            · omega
          · rcases k.far.own b h with h|h
            · exact .inl h
            · omega
        · rw [hM6] at hx
          rcases k.far.m2 b hx with h|h
          · exact .inr (.inl h)
          · omega
        · rw [hN6] at hx;exact .inr (.inr hx)
      have hKf:∀b c T fz,w0.heap[b]?=some (.cells c T fz)→¬Xs E0 s.h b→w5.heap[b]?=some (.cells c T fz):=fun b c T fz hc hx=>by
        rcases k.far.block b (Array.getElem?_eq_some_iff.1 hc).1 with h|h
        · exact absurd h hx
        · exact h.trans hc
      have hslots:Slots w5 E6 ⟨keepT (h5++hI') s.t,h5++hI',gI'⟩ a:=zfQ (g:=s.g) hs0.slots hXf hKf (fun j hj=>(hgoE j hj).1)
      have hdM:¬E4.M d:=fun hm=>by
        rcases k.m0 d hm with h|h
        · have:=hs0.hp.mlt d h;omega
        · omega
      have hmarks5:Marks cx.base E6 w5 ({ target:= .collected d,args:= #[] } ::a.defers):=by
        have hb0:=hs0.base
        refine ⟨fun dd hdd=>?_,?_⟩
        · rcases List.mem_cons.1 hdd with rfl|hdd
          · exact ⟨d,rfl,k.dd,by omega,by rw [hM6];exact hdM⟩
          · obtain ⟨r,q1,q2,q3,q4⟩:=hs0.marks.1 dd hdd
            have hr:=(Array.getElem?_eq_some_iff.1 q2).1
            refine ⟨r,q1,(k.far.keep r hr (hs0.hp.not_mark q2) q4).trans q2,q3,fun hm=>?_⟩
            rw [hM6] at hm
            rcases k.far.m2 r hm with h|h
            · exact q4 h
            · omega
        · simp only [List.map_cons,List.nodup_cons]
          refine ⟨?_,hs0.marks.2⟩
          simp only [List.mem_map,not_exists,not_and]
          intro dd hdd e
          obtain ⟨r,q1,q2,q3,q4⟩:=hs0.marks.1 dd hdd
          have hr:=(Array.getElem?_eq_some_iff.1 q2).1
          rw [q1] at e
          simp only at e
          omega
      have hghost5:cx.G gI' E6.M E6.N (fun b=>Own E6 (h5++hI') b∨zaA ({ target:= .collected d,args:= #[] } ::a.defers) b) (w5.putObj l (.loop { rec st pe with state:= .exhausted })):=by
        rw [hM6,hN6]
        refine cx.stab _ _ _ _ _ w5 _ (fun b _ hb=>World.putObj_heap_other (fun e=>hb (by rw [e];exact .inr (.inr (.inl rfl))))) (fun b hb=> .inl ?_) (fun b hb=>?_) (by simp) rfl rfl rfl k.ghost
        · rcases hb with hb|⟨dd,hdd,hdt⟩
          · rcases hown6 b hb with h|h
            · exact .inr (.inl h)
            · exact .inl h
          · rcases List.mem_cons.1 hdd with rfl|hdd
            · have:b=d:=by simpa using hdt.symm
              exact .inr (.inr (.inr (.inl this)))
            · exact .inr (.inr (.inr (.inr ⟨dd,hdd,hdt⟩)))
        · rw [World.putObj_size]
          rcases hb with hb|hb
          · exact (hs6'.own b hb).1
          · exact hmarks5.lt hb
      have hsat5:Sat (cxOf cx.P cx.base cx.nt cx.fl) E6 { t:=keepT (h5++hI') s.t,h:=h5++hI',g:=gI' } { a with defers:= { target:= .collected d,args:= #[] } ::a.defers } w5:=
        { slots:=fun kk g v hk=>hslots kk g v hk,nt:=hs0.nt,hp:=hs6',base:=Nat.le_trans hs0.base k.far.size,marks:=hmarks5,ghost:=trivial }
      refine ⟨w6,E6,?_,?_,?_⟩
      · rw [hend,hw6,hrec]
      · rw [hw6]
        exact ziY (cx1:=cxOf cx.P cx.base cx.nt cx.fl) (cx2:=cx) _ hsat5 hrl rfl rfl hghost5
      · rw [hw6]
        refine ⟨k.far.os,k.far.tape,k.far.output,by simpa using k.far.size,fun b hb h1 h2=>?_,fun b hb=>?_,fun b hb=>by rw [hM6];exact k.far.m1 b hb,fun b hb=>by rw [hM6] at hb;exact k.far.m2 b hb,hN6,fun i hi hg=>?_⟩
        · exact (World.putObj_heap_other (by omega)).trans (k.far.keep b hb h1 h2)
        · rcases hown6 b hb with h|h
          · rcases ho5 b h with h|h
            · exact .inl h
            · exact .inr (by omega)
          · exact k.far.own b h
        · exact ⟨(hgoE i hg).2 (by omega),(hgoE i hg).1⟩
    cases g5 with
    | some xs=>
      have hxs:=hit5 xs rfl
      subst hxs
      simp only [zaR] at hG5'
      obtain ⟨E4,k,hrl⟩:=hG5'
      obtain ⟨w6,E6,h1,h2,h3⟩:=fin .ready none E4 _ _ (by simp) k hrl
      exact ⟨none,w6,h1,E6,_,hdone h5 hKit,h2,h3⟩
    | none=>
      simp only [zaR] at hG5'
      obtain ⟨E4,c,h3',g3',k,hrl,hj⟩:=hG5'
      obtain ⟨w6,E6,h1,h2,h3⟩:=fin .done (some c) E4 _ _ (by simp) k hrl
      refine ⟨some c,w6,h1,?_⟩
      exact wpIn_mono (hstop c h5 h3' g3' hKit hj E6 _ w6 h2) (fun _ _ _ hr=>hr.trans h3)
end
attribute [go_sem] Cx.inR zd2 AsgK zc
open Go
def zaE:Op→List Operand
 | .move x=> [x]
 | .assign x=> [x]
 | .pick c a b=> [c,a,b]
 | .binOp _ _ x y _=> [x,y]
 | .unOp _ _ x=> [x]
 | .convert _ _ x=> [x]
 | .makeInterface _ x=> [x]
 | .makeFunc _ fs cs=>(fs++cs).toList
 | .field _ x _=> [x]
 | .fieldAddr _ x _=> [x]
 | .indexAddr _ x y=> [x,y]
 | .index _ x y=> [x,y]
 | .slice _ x lo hi mx=>x::(lo.toList++hi.toList++mx.toList)
 | .load _ x=> [x]
 | .nilCheck x=> [x]
 | .range _ x=> [x]
 | .next x _=> [x]
 | .extract x _=> [x]
 | .call c=>(match c.callee with| .value f=> [f]|_=> [])++c.args.toList
 | .box _ x=> [x]
 | .build _ parts=>parts.toList.map (·.2)
 | .buildSlice _ _ parts=>parts.toList.map (·.2)
 | .store _ x y=> [x,y]
 | .makeSlice _ x y=> [x,y]
 | .lookup _ x y _=> [x,y]
 | .mapUpdate _ x y z=> [x,y,z]
 |_=> []
def detOp (P:Program):Op→Bool
 | .binOp _ _ _ _ _=>false
 | .lookup _ _ _ _=>false
 | .makeMap _ _=>false
 | .range _ _=>false
 | .next _ _=>false
 | .convert _ d _=>(match (ty P d).td with| .slice _=>false|_=>true)
 |_=>true
def isEff:Op→Bool
 | .alloc _=>true
 | .makeSlice _ _ _=>true
 | .call c=>(match c.callee with| .builtin .append=>true| .builtin .copy=>true| .builtin .clear=>true|_=>false)
 | .box _ _=>true
 | .buildSlice _ _ _=>true
 | .store _ _ _=>true
 | .mapUpdate _ _ _ _=>true
 |_=>false
def fop (cx:Cx) (tab:Tab) (s:AS) (G:Bool) (o:Oper) (R:Bool→AV→AHeap→Prop):Prop:=
 match o.op with
 | .move x=>known s x=true∧R (G&&(s.ev x).1) ((s.ev x).2.tag cx.P o.type) s.h
 | .assign x=>known s x=true∧R (G&&(s.ev x).1) ((s.ev x).2.tag cx.P o.type) s.h
 | .pick c a b=>(match s.ev c with
  |(gc,.d (.bool c))=>(G=true→gc=true∧(c=true→(s.ev a).1=true∧(s.ev a).2.isB=true)∧(c=false→(s.ev b).1=true∧(s.ev b).2.isB=true))∧R G (.d (.bool (bif c then (s.ev a).2.toB else (s.ev b).2.toB))) s.h
  |_=>False)
 | .call c=>if isVal cx.P (.call c) then (G=true→(aval cx.P s (.call c)).1)∧R G (aval cx.P s (.call c)).2 s.h else
  (match zaW cx.P s c with
  |some (f,args,vc)=>(match tab f (args.map (frz 9 s.h)) with
   |some (pre,r)=>(G=true→vc∧pre∧(r.scal=true∨AV.idsL args= []))∧R G r s.h
   |none=>False)
  |none=>G=true∧aeff cx.fl cx.P s (.call c) (fun r h'=>R true r h'))
 |op=>if isVal cx.P op then (G=true→(aval cx.P s op).1)∧R G (aval cx.P s op).2 s.h else G=true∧detOp cx.P op=true∧aeff cx.fl cx.P s op (fun r h'=>R true r h')
section
variable {cx : Cx} {tab : Tab} {P : Program} {s s' : AS}
theorem znI {fl:Nat} {op:Op} {K:AV→AHeap→Prop} (hdet:detOp P op=true) (h:zam fl P s op K):∃r h',K r h'∧(∀K',K' r h'→zam fl P s op K')∧(isEff op=false→h'=s.h):=by
 unfold zam at h
 split at h
 ·rename_i src dt x
  split at h
  ·rename_i e hs hd
   split at h
   ·rename_i g l hx
    exact ⟨_,_,h.2.2,fun K' hk=>by unfold zam;dsimp only;rw [hs,hd];dsimp only;rw [hx];exact ⟨h.1,h.2.1,hk⟩,fun e=>by simp [detOp,hd] at hdet⟩
   ·exact h.elim
  ·rename_i e hs hd
   split at h
   ·rename_i rows hr
    exact ⟨_,_,h.2.2.2,fun K' hk=>by unfold zam;dsimp only;rw [hs,hd];dsimp only;rw [hr];exact ⟨h.1,h.2.1,h.2.2.1,hk⟩,fun _=>rfl⟩
   ·exact h.elim
  ·exact h.elim
 ·cases hdet
 ·rename_i t l c
  split at h
  ·rename_i e gl n gc m ht hl hc
   obtain ⟨h1,h2,h3,h4,h5,h6,h7,h8,h9,h⟩:=h
   split at h
   ·rename_i z hz
    exact ⟨_,_,h,fun K' hk=>by unfold zam;dsimp only;rw [ht,hl,hc];dsimp only;rw [hz];exact ⟨h1,h2,h3,h4,h5,h6,h7,h8,h9,hk⟩,fun e=>by cases e⟩
   ·exact h.elim
  ·exact h.elim
 ·cases hdet
 ·cases hdet
 ·cases hdet
 ·rename_i t m k v
  split at h
  ·rename_i kt et gm i gk kd gv vd ht hm hk hv
   obtain ⟨h1,h2,h3,h4,h⟩:=h
   split at h
   ·rename_i es hes
    exact ⟨_,_,h.2.2,fun K' hk'=>by unfold zam;dsimp only;rw [ht,hm,hk,hv];dsimp only;refine ⟨h1,h2,h3,h4,?_⟩;rw [hes];exact ⟨h.1,h.2.1,hk'⟩,fun e=>by cases e⟩
   ·exact h.elim
  ·exact h.elim
 ·rename_i c
  split at h
  ·rename_i hcal
   split at h
   ·rename_i x y t u ha ht
    split at h
    ·rename_i e hte
     obtain ⟨h1,h2,h3,h4,h5,h⟩:=h
     split at h
     ·rename_i rows hr
      split at h
      ·rename_i k hx
       exact ⟨_,_,h.2.2,fun K' hk=>by unfold zam;dsimp only;rw [hcal];dsimp only;rw [ha,ht];dsimp only;rw [hte];refine ⟨h1,h2,h3,h4,h5,?_⟩;rw [hr];dsimp only;rw [hx];exact ⟨h.1,h.2.1,hk⟩,fun e=>by simp [isEff,hcal] at e⟩
      ·rename_i i k m off len hx
       split at h
       ·rename_i k' xs hi
        obtain ⟨g1,g2,g3,g4,g5,g6,g7,h⟩:=h
        exact ⟨_,_,h,fun K' hk=>by unfold zam;dsimp only;rw [hcal];dsimp only;rw [ha,ht];dsimp only;rw [hte];refine ⟨h1,h2,h3,h4,h5,?_⟩;rw [hr];dsimp only;rw [hx];dsimp only;rw [hi];exact ⟨g1,g2,g3,g4,g5,g6,g7,hk⟩,fun e=>by simp [isEff,hcal] at e⟩
       ·exact h.elim
      ·exact h.elim
     ·exact h.elim
    ·exact h.elim
   ·exact h.elim
  ·rename_i hcal
   split at h
   ·rename_i x y t u ha ht
    split at h
    ·rename_i e hte
     obtain ⟨h1,h2,h3,h4,h⟩:=h
     split at h
     ·rename_i rows hr
      split at h
      ·rename_i i k m off len hx
       split at h
       ·rename_i k' xs hi
        obtain ⟨g1,g2,g3,g4,g5,h⟩:=h
        exact ⟨_,_,h,fun K' hk=>by unfold zam;dsimp only;rw [hcal];dsimp only;rw [ha,ht];dsimp only;rw [hte];refine ⟨h1,h2,h3,h4,?_⟩;rw [hr];dsimp only;rw [hx];dsimp only;rw [hi];exact ⟨g1,g2,g3,g4,g5,hk⟩,fun e=>by simp [isEff,hcal] at e⟩
       ·exact h.elim
      ·exact h.elim
     ·exact h.elim
    ·exact h.elim
   ·exact h.elim
  ·rename_i hcal
   split at h
   ·rename_i x t ha ht
    split at h
    ·rename_i e hte
     obtain ⟨h1,h2,h3,h4,h⟩:=h
     split at h
     ·rename_i z hz
      split at h
      ·rename_i i k m off len hx
       split at h
       ·rename_i k' xs hi
        obtain ⟨g1,g2,g3,g4,h⟩:=h
        exact ⟨_,_,h,fun K' hk=>by unfold zam;dsimp only;rw [hcal];dsimp only;rw [ha,ht];dsimp only;rw [hte];refine ⟨h1,h2,h3,h4,?_⟩;rw [hz];dsimp only;rw [hx];dsimp only;rw [hi];exact ⟨g1,g2,g3,g4,hk⟩,fun e=>by simp [isEff,hcal] at e⟩
       ·exact h.elim
      ·exact h.elim
     ·exact h.elim
    ·exact h.elim
   ·exact h.elim
  ·exact h.elim
 ·exact h.elim
theorem zmX {fl:Nat} {op:Op} {K:AV→AHeap→Prop} (hdet:detOp P op=true) (h:aeff fl P s op K):∃r h',K r h'∧(∀K',K' r h'→aeff fl P s op K')∧(isEff op=false→h'=s.h):=by
 unfold aeff at h
 split at h
 ·exact ⟨_,_,h.2,fun K' hk=>by unfold aeff;exact ⟨h.1,hk⟩,fun e=>by cases e⟩
 ·exact ⟨_,_,h.2.2,fun K' hk=>by unfold aeff;exact ⟨h.1,h.2.1,hk⟩,fun e=>by cases e⟩
 ·rename_i t parts
  obtain ⟨h1,h2,h3⟩:=h
  split at h3
  ·rename_i fs hf
   exact ⟨_,_,h3.2.2,fun K' hk=>by unfold aeff;dsimp only;rw [hf];exact ⟨h1,h2,h3.1,h3.2.1,hk⟩,fun _=>rfl⟩
  ·rename_i n e hf
   exact ⟨_,_,h3.2.2,fun K' hk=>by unfold aeff;dsimp only;rw [hf];exact ⟨h1,h2,h3.1,h3.2.1,hk⟩,fun _=>rfl⟩
  ·exact h3.elim
 ·rename_i t len parts
  split at h
  ·rename_i e hf
   obtain ⟨h1,h2,h3,h4,h5,h6,h7⟩:=h
   split at h7
   ·rename_i ds hds
    exact ⟨_,_,h7,fun K' hk=>by unfold aeff;dsimp only;rw [hf];refine ⟨h1,h2,h3,h4,h5,h6,?_⟩;rw [hds];exact hk,fun e=>by cases e⟩
   ·rename_i hds
    exact ⟨_,_,h7.2,fun K' hk=>by unfold aeff;dsimp only;rw [hf];refine ⟨h1,h2,h3,h4,h5,h6,?_⟩;rw [hds];exact ⟨h7.1,hk⟩,fun e=>by cases e⟩
  ·exact h.elim
 ·rename_i t x y
  obtain ⟨h1,h2,h3,h4,h5,h6⟩:=h
  split at h6
  ·rename_i i o hx
   split at h6
   ·rename_i cs hi
    exact ⟨_,_,h6.2,fun K' hk=>by unfold aeff;dsimp only;refine ⟨h1,h2,h3,h4,h5,?_⟩;rw [hx];dsimp only;rw [hi];exact ⟨h6.1,hk⟩,fun e=>by cases e⟩
   ·exact h6.elim
  ·rename_i i o hx
   split at h6
   ·rename_i tt cs hi
    exact ⟨_,_,h6.2,fun K' hk=>by unfold aeff;dsimp only;refine ⟨h1,h2,h3,h4,h5,?_⟩;rw [hx];dsimp only;rw [hi];exact ⟨h6.1,hk⟩,fun e=>by cases e⟩
   ·exact h6.elim
  ·rename_i i n k r o hx
   split at h6
   ·rename_i k' xs hi
    obtain ⟨g1,g2,g3,g4,g5⟩:=h6
    split at g5
    ·rename_i ds hds
     exact ⟨_,_,g5,fun K' hk=>by unfold aeff;dsimp only;refine ⟨h1,h2,h3,h4,h5,?_⟩;rw [hx];dsimp only;rw [hi];refine ⟨g1,g2,g3,g4,?_⟩;rw [hds];exact hk,fun e=>by cases e⟩
    ·exact g5.elim
   ·exact h6.elim
  ·exact h6.elim
 ·rename_i op n1 n2 n3 n4 n5
  obtain ⟨r,h',q1,q2,q3⟩:=znI hdet h
  refine ⟨r,h',q1,fun K' hk=>?_,q3⟩
  have:=q2 K' hk
  unfold aeff
  split
  ·rename_i t;exact (n1 t rfl).elim
  ·rename_i t x;exact (n2 t x rfl).elim
  ·rename_i t x;exact (n3 t x rfl).elim
  ·rename_i t x y;exact (n4 t x y rfl).elim
  ·rename_i t x y;exact (n5 t x y rfl).elim
  ·exact this
theorem zaa {G:Bool} {o:Oper} {R:Bool→AV→AHeap→Prop} (n1:∀x,o.op= .move x→False) (n2:∀x,o.op= .assign x→False) (n3:∀x y z,o.op= .pick x y z→False) (n4:∀c,o.op= .call c→False):
  fop cx tab s G o R↔(if isVal cx.P o.op=true then (G=true→(aval cx.P s o.op).1)∧R G (aval cx.P s o.op).2 s.h else G=true∧detOp cx.P o.op=true∧aeff cx.fl cx.P s o.op (fun r h'=>R true r h')):=by
 unfold fop
 split
 ·rename_i x ho;exact (n1 x ho).elim
 ·rename_i x ho;exact (n2 x ho).elim
 ·rename_i x y z ho;exact (n3 x y z ho).elim
 ·rename_i x ho;exact (n4 x ho).elim
 ·exact Iff.rfl
theorem zpj {G:Bool} {o:Oper} {R:Bool→AV→AHeap→Prop} (h:fop cx tab s G o R):∃g v h',R g v h'∧(∀R':Bool→AV→AHeap→Prop,R' g v h'→fop cx tab s G o R')∧(isEff o.op=false→h'=s.h):=by
 unfold fop at h
 split at h
 ·rename_i x ho
  exact ⟨_,_,_,h.2,fun R' hk=>by unfold fop;rw [ho];exact ⟨h.1,hk⟩,fun _=>rfl⟩
 ·rename_i x ho
  exact ⟨_,_,_,h.2,fun R' hk=>by unfold fop;rw [ho];exact ⟨h.1,hk⟩,fun _=>rfl⟩
 ·rename_i c a b ho
  split at h
  ·rename_i g1 c1 h1
   exact ⟨_,_,_,h.2,fun R' hk=>by unfold fop;rw [ho];dsimp only;rw [h1];exact ⟨h.1,hk⟩,fun _=>rfl⟩
  ·exact h.elim
 ·rename_i c ho
  split at h
  ·rename_i hv
   exact ⟨_,_,_,h.2,fun R' hk=>by unfold fop;rw [ho];dsimp only;rw [if_pos hv];exact ⟨h.1,hk⟩,fun _=>rfl⟩
  ·rename_i hv
   split at h
   ·rename_i f args vc hc
    split at h
    ·rename_i pre r ht
     exact ⟨_,_,_,h.2,fun R' hk=>by unfold fop;rw [ho];dsimp only;rw [if_neg hv,hc];dsimp only;rw [ht];exact ⟨h.1,hk⟩,fun _=>rfl⟩
    ·exact h.elim
   ·rename_i hc
    obtain ⟨rfl,h⟩:=h
    obtain ⟨r,h',q1,q2,q3⟩:=zmX rfl h
    exact ⟨true,r,h',q1,fun R' hk=>by unfold fop;rw [ho];dsimp only;rw [if_neg hv,hc];exact ⟨rfl,q2 _ hk⟩,by rw [ho];exact q3⟩
 ·rename_i n1 n2 n3 n4
  split at h
  ·rename_i hv
   refine ⟨_,_,_,h.2,fun R' hk=>?_,fun _=>rfl⟩
   unfold fop
   split
   ·rename_i x ho;exact (n1 x ho).elim
   ·rename_i x ho;exact (n2 x ho).elim
   ·rename_i x y z ho;exact (n3 x y z ho).elim
   ·rename_i x ho;exact (n4 x ho).elim
   ·rw [if_pos hv];exact ⟨h.1,hk⟩
  ·rename_i hv
   obtain ⟨rfl,hdt,h⟩:=h
   obtain ⟨r,h',q1,q2,q3⟩:=zmX hdt h
   refine ⟨true,r,h',q1,fun R' hk=>?_,q3⟩
   unfold fop
   split
   ·rename_i x ho;exact (n1 x ho).elim
   ·rename_i x ho;exact (n2 x ho).elim
   ·rename_i x y z ho;exact (n3 x y z ho).elim
   ·rename_i x ho;exact (n4 x ho).elim
   ·rw [if_neg hv];exact ⟨rfl,hdt,q2 _ hk⟩
theorem zmY {G:Bool} {o:Oper} {K:AS→Prop} (hd:dstOk cx.nt o.dst) (h:fop cx tab s G o (fun g v h'=>K ({ s with h:=h' }.put o.dst g v))):aopT cx tab G o K s:=by
 unfold fop at h
 split at h
 ·rename_i x ho
  unfold aopT;rw [ho];dsimp only;rw [if_pos (show zcR cx.P _=true from rfl)];unfold aop;rw [ho];exact ⟨hd,h⟩
 ·rename_i x ho
  unfold aopT;rw [ho];dsimp only;rw [if_pos (show zcR cx.P _=true from rfl)];unfold aop;rw [ho];exact ⟨hd,h⟩
 ·rename_i c a b ho
  unfold aopT;rw [ho];dsimp only;rw [if_pos (show zcR cx.P _=true from rfl)];unfold aop;rw [ho]
  refine ⟨hd,?_⟩
  dsimp only
  split at h
  ·rename_i g1 c1 h1
   rw [h1];exact h
  ·exact h.elim
 ·rename_i c ho
  unfold aopT;rw [ho];dsimp only
  split at h
  ·rename_i hv
   rw [if_pos hv];unfold aop;rw [ho];dsimp only;rw [if_pos hv];exact ⟨hd,h⟩
  ·rename_i hv
   rw [if_neg hv]
   split at h
   ·rename_i f args vc hc
    rw [hc]
    dsimp only
    split at h
    ·rename_i pre r ht
     rw [ht];exact ⟨hd,h⟩
    ·exact h.elim
   ·rename_i hc
    rw [hc]
    obtain ⟨rfl,h⟩:=h
    refine ⟨hd,?_⟩
    rw [if_pos rfl]
    unfold aop1
    rw [ho];dsimp only
    rw [if_neg hv,hc]
    exact h
 ·rename_i n1 n2 n3 n4
  have hq:zcR cx.P o.op=isVal cx.P o.op:=by
   unfold zcR
   split
   ·rename_i x ho;exact (n1 x ho).elim
   ·rename_i x ho;exact (n2 x ho).elim
   ·rename_i x y z ho;exact (n3 x y z ho).elim
   ·rfl
  have e1:aopT cx tab G o K s=if zcR cx.P o.op then aop cx G o K s else aopS cx G o K s:=by
   unfold aopT
   split
   ·rename_i x ho;exact (n4 x ho).elim
   ·rfl
  rw [e1,hq]
  split at h
  ·rename_i hv
   rw [if_pos hv]
   refine ⟨hd,?_⟩
   split
   ·rename_i x ho;exact (n1 x ho).elim
   ·rename_i x ho;exact (n2 x ho).elim
   ·rename_i x y z ho;exact (n3 x y z ho).elim
   ·rw [if_pos hv];exact h
  ·rename_i hv
   rw [if_neg hv]
   obtain ⟨rfl, -,h⟩:=h
   refine ⟨hd,?_⟩
   rw [if_pos rfl]
   unfold aop1
   split
   ·rename_i x ho;exact (n1 x ho).elim
   ·rename_i x ho;exact (n2 x ho).elim
   ·rename_i x y z ho;exact (n3 x y z ho).elim
   ·rename_i x ho;exact (n4 x ho).elim
   ·rw [if_neg hv];exact h
theorem zuJ {i:Nat} (hh:s.h=s'.h):s.esOf i=s'.esOf i:=by unfold AS.esOf;rw [hh]
theorem znJ {t:TypeId} {x y:AV} {ok:Bool} (hh:s.h=s'.h):zcw P s t x y ok=zcw P s' t x y ok:=by unfold zcw AS.esOf;rw [hh]
theorem zrp {t:TypeId} {x:AV} (hh:s.h=s'.h):zc0 P s t x=zc0 P s' t x:=by unfold zc0;rw [hh]
theorem ziZ {t:TypeId} {x:AV} {f:Nat} (hh:s.h=s'.h):z2 P s t x f=z2 P s' t x f:=by unfold z2 AS.cur;rw [hh]
theorem zi0 {t:TypeId} {x y:AV} (hh:s.h=s'.h):zaB P s t x y=zaB P s' t x y:=by unfold zaB AS.cur;rw [hh]
theorem zts {t:TypeId} {x:AV} (hh:s.h=s'.h):avLen P s t x=avLen P s' t x:=by unfold avLen AS.cur;rw [hh]
theorem bnd_e {x:Option Operand} {d:Int} (he:∀y∈x.toList,s.ev y=s'.ev y):s.bnd x d=s'.bnd x d:=by
 cases x with
 |none=>rfl
 |some y=>simp only [AS.bnd,he y (by simp)]
theorem all_e {l:List Operand} (he:∀y∈l,s.ev y=s'.ev y):(l.all fun x=>(s.ev x).1)=l.all fun x=>(s'.ev x).1:=by
 induction l with
 |nil=>rfl
 |cons a l ih=>simp only [List.all_cons,he a (by simp),ih (fun y hy=>he y (by simp [hy]))]
theorem map_e {l:List Operand} (he:∀y∈l,s.ev y=s'.ev y):(l.map fun x=>(s.ev x).2)=l.map fun x=>(s'.ev x).2:=List.map_congr_left fun y hy=>by rw [he y hy]
theorem zip_e {l:List Operand} (he:∀y∈l,s.ev y=s'.ev y) (ts:List TypeId):((l.zip ts).map fun p=>(s.ev p.1).2.tag P p.2)=(l.zip ts).map fun p=>(s'.ev p.1).2.tag P p.2:=
 List.map_congr_left fun p hp=>by rw [he p.1 (List.of_mem_zip hp).1]
theorem zsX {l:List (Nat×Operand)} (he:∀y∈l.map (·.2),s.ev y=s'.ev y):(l.all fun p=>(s.ev p.2).1)=l.all fun p=>(s'.ev p.2).1:=by
 induction l with
 |nil=>rfl
 |cons a l ih=>simp only [List.all_cons,he a.2 (by simp),ih (fun y hy=>he y (by simp only [List.map_cons,List.mem_cons];exact .inr hy))]
theorem zsY {l:List (Nat×Operand)} (he:∀y∈l.map (·.2),s.ev y=s'.ev y) (f:Nat→TypeId):(l.map fun p=>(p.1,((s.ev p.2).2.tag P (f p.1))))=l.map fun p=>(p.1,((s'.ev p.2).2.tag P (f p.1))):=
 List.map_congr_left fun p hp=>by rw [he p.2 (List.mem_map.2 ⟨p,hp,rfl⟩)]
end
open Go
section
variable {cx : Cx} {tab : Tab} {P : Program} {s s' : AS}
theorem zpk {t:TypeId} {x:AV} {lo hi mx:Option Operand} (hl:∀y∈lo.toList,s.ev y=s'.ev y) (hhi:∀y∈hi.toList,s.ev y=s'.ev y) (hm:∀y∈mx.toList,s.ev y=s'.ev y) (hh:s.h=s'.h):zcp P s t x lo hi mx=zcp P s' t x lo hi mx:=by
 unfold zcp
 simp only [bnd_e hl,bnd_e hhi,bnd_e hm,AS.cur,hh]
theorem zrq {c:Call} (he:∀y∈c.args.toList,s.ev y=s'.ev y) (hh:s.h=s'.h):zfc P s c=zfc P s' c:=by
 have hm:c.args.toList.map s.ev=c.args.toList.map s'.ev:=List.map_congr_left he
 unfold zfc
 rw [hm]
 split
 ·split
  ·rename_i x t hx ht
   rw [he x (by rw [hx];simp),zts hh]
  ·rfl
 ·rfl
 ·rfl
 ·rfl
theorem zsZ {op:Op} (he:∀x∈zaE op,s.ev x=s'.ev x) (hh:s.h=s'.h):aval P s op=aval P s' op:=by
 cases op
 case makeFunc f fs cs=>
  simp only [zaE,Array.toList_append,List.mem_append] at he
  simp only [aval,Array.toList_append,List.all_append,all_e (fun y hy=>he y (.inl hy)),all_e (fun y hy=>he y (.inr hy)),map_e (fun y hy=>he y (.inl hy)),map_e (fun y hy=>he y (.inr hy))]
 case slice t x lo hi mx=>
  simp only [zaE,List.mem_cons,List.mem_append] at he
  simp only [aval,he x (.inl rfl),zpk (fun y hy=>he y (.inr (.inl (.inl hy)))) (fun y hy=>he y (.inr (.inl (.inr hy)))) (fun y hy=>he y (.inr (.inr hy))) hh]
 case call c=>
  simp only [zaE,List.mem_append] at he
  simp only [aval,zrq (fun y hy=>he y (.inr hy)) hh]
 all_goals
  simp only [zaE,List.mem_cons,List.not_mem_nil,or_false,forall_eq_or_imp,forall_eq] at he
  simp only [aval,he,hh,znJ hh,zrp hh,ziZ hh,zi0 hh,AS.cur]
theorem zff {c:Call} (he:∀x∈zaE (.call c),s.ev x=s'.ev x):zaW P s c=zaW P s' c:=by
 simp only [zaE,List.mem_append] at he
 unfold zaW
 split
 ·rename_i f hf
  rw [hf] at he
  rw [he f (.inl (by simp)),all_e (fun y hy=>he y (.inr hy)),zip_e (fun y hy=>he y (.inr hy))]
 ·rfl
theorem zpl {k:Nat} {x:AV} (hh:s.h=s'.h):rowsK s k x=rowsK s' k x:=by unfold rowsK;rw [hh]
theorem zpm {k:Nat} {t:TypeId} {x:AV} (hh:s.h=s'.h):rowsT P s k t x=rowsT P s' k t x:=by unfold rowsT;rw [zpl hh]
theorem zpn {x:AV} {R:Bool→Prop} (hh:s.h=s'.h):zd8 s x R=zd8 s' x R:=by unfold zd8 AS.cur;rw [hh]
theorem zrr {fl:Nat} {op:Op} {K:AV→AHeap→Prop} (he:∀x∈zaE op,s.ev x=s'.ev x) (hh:s.h=s'.h) (h:zam fl P s op K):zam fl P s' op K:=by
  cases op
  case call c=>
    simp only [zaE,List.mem_append] at he
    unfold zam at h ⊢
    dsimp only at h ⊢
    split at h
    · rename_i hcal
      try rw [hcal]
      try dsimp only
      split at h
      · rename_i x y t u ha ht
        try rw [ha,ht]
        try dsimp only
        rw [ha] at he
        rw [← he x (.inr (by simp)),← he y (.inr (by simp)),← hh]
        split at h
        · rename_i e hte
          try rw [hte]
          try dsimp only
          rw [← zpm hh]
          exact h
        · exact h.elim
      · exact h.elim
    · rename_i hcal
      try rw [hcal]
      try dsimp only
      split at h
      · rename_i x y t u ha ht
        try rw [ha,ht]
        try dsimp only
        rw [ha] at he
        rw [← he x (.inr (by simp)),← he y (.inr (by simp)),← hh]
        split at h
        · rename_i e hte
          try rw [hte]
          try dsimp only
          rw [← zpm hh]
          exact h
        · exact h.elim
      · exact h.elim
    · rename_i hcal
      try rw [hcal]
      try dsimp only
      split at h
      · rename_i x t ha ht
        try rw [ha,ht]
        try dsimp only
        rw [ha] at he
        rw [← he x (.inr (by simp)),← hh]
        split at h
        · rename_i e hte
          try rw [hte]
          try dsimp only
          exact h
        · exact h.elim
      · exact h.elim
    · exact h.elim
  all_goals first
    | (simp only [zaE,List.mem_cons,List.not_mem_nil,or_false,forall_eq_or_imp,forall_eq] at he
       simp only [zam,he,hh,zuJ hh,zpl hh,zpn hh] at h ⊢ <;>exact h)
    |(simp only [zam,hh] at h ⊢ <;>exact h)
theorem zs0 {fl:Nat} {op:Op} {K:AV→AHeap→Prop} (he:∀x∈zaE op,s.ev x=s'.ev x) (hh:s.h=s'.h) (h:aeff fl P s op K):aeff fl P s' op K:=by
  cases op
  case build t parts=>
    simp only [zaE] at he
    have e1:=zsX he
    have e2:∀f:Nat→TypeId,(parts.toList.map fun p=>(p.1,((s.ev p.2).2.tag P (f p.1))))=parts.toList.map fun p=>(p.1,((s'.ev p.2).2.tag P (f p.1))):=fun f=>zsY he f
    simp only [aeff] at h ⊢
    rw [← e1,← hh]
    refine ⟨h.1,h.2.1,?_⟩
    have h3:=h.2.2
    split at h3
    · rename_i fs hf
      rw [← e2 (fun i=>(fs.getD i (0,0)).2)]
      exact h3
    · rename_i n e hf
      rw [← e2 (fun _=>e)]
      exact h3
    · exact h3
  case buildSlice t len parts=>
    simp only [zaE] at he
    have e1:=zsX he
    have e2:∀f:Nat→TypeId,(parts.toList.map fun p=>(p.1,((s.ev p.2).2.tag P (f p.1))))=parts.toList.map fun p=>(p.1,((s'.ev p.2).2.tag P (f p.1))):=fun f=>zsY he f
    simp only [aeff] at h ⊢
    split at h
    · rename_i e hf
      rw [← e1,← hh,← e2 (fun _=>e)]
      exact h
    · exact h
  all_goals first
    |(have h2:=zrr (fl:=fl) (K:=K) he hh (by simpa only [aeff] using h);simpa only [aeff] using h2)
    | (simp only [zaE,List.mem_cons,List.not_mem_nil,or_false,forall_eq_or_imp,forall_eq] at he
       simp only [aeff,he,hh] at h ⊢ <;>exact h)
    |(simp only [aeff,hh] at h ⊢ <;>exact h)
theorem fop_e {G:Bool} {o:Oper} {R:Bool→AV→AHeap→Prop} (he:∀x∈zaE o.op,s.ev x=s'.ev x∧known s x=known s' x) (hh:s.h=s'.h) (h:fop cx tab s G o R):fop cx tab s' G o R:=by
 have he1:∀x∈zaE o.op,s.ev x=s'.ev x:=fun x hx=>(he x hx).1
 unfold fop at h
 split at h
 ·rename_i x ho
  rw [ho] at he
  have:=he x (by simp [zaE])
  rw [this.1,this.2,hh] at h
  unfold fop;rw [ho];exact h
 ·rename_i x ho
  rw [ho] at he
  have:=he x (by simp [zaE])
  rw [this.1,this.2,hh] at h
  unfold fop;rw [ho];exact h
 ·rename_i c a b ho
  rw [ho] at he1
  simp only [zaE,List.mem_cons,List.not_mem_nil,or_false,forall_eq_or_imp,forall_eq] at he1
  rw [he1.1,he1.2.1,he1.2.2,hh] at h
  unfold fop;rw [ho];exact h
 ·rename_i c ho
  rw [ho] at he1
  have hae:∀ (K:AV→AHeap→Prop),aeff cx.fl cx.P s (.call c) K→aeff cx.fl cx.P s' (.call c) K:=fun K hk=>zs0 he1 hh hk
  rw [zsZ he1 hh,zff he1,hh] at h
  unfold fop;rw [ho];dsimp only
  split at h
  ·rename_i hv;rw [if_pos hv];exact h
  ·rename_i hv
   rw [if_neg hv]
   split at h
   ·exact h
   ·exact ⟨h.1,hae _ h.2⟩
 ·rename_i n1 n2 n3 n4
  rw [zsZ he1 hh,hh] at h
  refine (zaa n1 n2 n3 n4).mpr ?_
  split at h
  ·rename_i hv
   rw [if_pos hv];exact h
  ·rename_i hv
   rw [if_neg hv]
   exact ⟨h.1,h.2.1,zs0 he1 hh h.2.2⟩
end
open Go
def anc (ops:Array Oper):Nat→Nat→Nat→Bool
 |0,_,_=>false
 |f+1,j,i=>match ops[j]? with
  |some o=>o.after.toList.any fun e=>Region.binds .any e&&(e.on==i||(decide (i<e.on)&&anc ops f e.on i))
  |none=>false
def gslot (all:Array Oper) (o:Oper):List Nat:=
 match o.guard with
 |some (j,_)=>(match (all[j]?).bind (·.dst) with
  |some d=> [d]
  |none=> [])
 |none=> []
def zeb (all:Array Oper) (o:Oper):List Nat:=
 ((zaE o.op).filterMap fun
  | .tmp t=>some t
  |_=>none)++gslot all o
abbrev Res:=Oper×Bool×AV×AHeap
theorem zj0 (s:AS) (d:Option Nat) (g:Bool) (v:AV) (k:Nat):lk (s.put d g v).t k=if d=some k then some (g,v) else lk s.t k:=by
 unfold AS.put
 cases d with
 |none=>simp
 |some j=>
  simp only [lk,Option.some.injEq]
section
variable {cx : Cx} {tab : Tab}
theorem Sat.of_lk {E:Env} {s s':AS} {a:Act} {w:World} (hs:Sat cx E s a w) (ht:∀k,lk s.t k=lk s'.t k) (hh:s.h=s'.h) (hg:s.g=s'.g):Sat cx E s' a w where
 slots:=fun k g v hk=>by
  obtain ⟨x,h1,h2,h3⟩:=hs.slots k g v (by rw [ht];exact hk)
  exact ⟨x,h1,fun e=>by rw [← hh];exact h2 e,h3⟩
 nt:=hs.nt
 hp:=by rw [← hh];exact hs.hp
 base:=hs.base
 marks:=hs.marks
 ghost:=by rw [← hg,← hh];exact hs.ghost
theorem Sat.drawn {E:Env} {s:AS} {a:Act} {w:World} (hs:Sat cx E s a w):Sat cx E s a { w with drawn:=w.drawn+1 } where
 slots:=fun k g v hk=>by
  obtain ⟨x,h1,h2,h3⟩:=hs.slots k g v hk
  exact ⟨x,h1,fun e=>Rep.step (W:=w) (W':= { w with drawn:=w.drawn+1 }) (fun _ _ h=>h) (fun _ _ _=>rfl) _ _ (fun j _=>GoesOn.refl E s.h j) (h2 e),h3⟩
 nt:=hs.nt
 hp:=hs.hp.refit ⟨rfl,rfl,rfl,rfl,fun _ _=>rfl,fun _ _ h _ _=>h⟩ (base:=0) rfl rfl (fun _ _ h=>h) (fun b hb=>(hs.hp.own b hb).2) hs.hp.mlt hs.hp.nlt
 base:=hs.base
 marks:=hs.marks
 ghost:=cx.stab _ _ _ _ _ w _ (fun _ _ _=>rfl) (fun _ hb=> .inl hb) (fun b hb=>hb.elim (fun h=>(hs.hp.own b h).1) hs.marks.lt) (Nat.le_refl _) rfl rfl rfl hs.ghost
theorem zcC {ops:Array Oper} {S:Nat→Bool} (hc:∀ (i:Nat) o,ops[i]?=some o→S i=true→∀e∈o.after.toList,Region.binds .any e=true→S e.on=true):∀ (f j i:Nat),anc ops f j i=true→(∀o,ops[j]?=some o→∀e∈o.after.toList,Region.binds .any e=true→S e.on=true)→S i=true
 |0,_,_,h,_=>by cases h
 | f+1,j,i,h,hj=>by
  unfold anc at h
  split at h
  ·rename_i o ho
   obtain ⟨e,he,h⟩:=List.any_eq_true.1 h
   simp only [Bool.and_eq_true,Bool.or_eq_true,beq_iff_eq] at h
   obtain ⟨hb,h⟩:=h
   have hS:=hj o ho e he hb
   rcases h with rfl|⟨_,h⟩
   ·exact hS
   ·exact zcC hc f _ i h (fun o' ho'=>hc _ o' ho' hS)
  ·cases h
theorem zmZ {s s':AS} {l:List Operand} (h:∀k,k∈(l.filterMap fun| .tmp t=>some t|_=>none)→lk s.t k=lk s'.t k):∀x∈l,s.ev x=s'.ev x∧known s x=known s' x:=by
 intro x hx
 cases x with
 |tmp t=>
  have:=h t (List.mem_filterMap.2 ⟨.tmp t,hx,rfl⟩)
  exact ⟨by simp only [AS.ev,this],by simp only [known,this]⟩
 |_=>exact ⟨rfl,rfl⟩
theorem zg0 {s s':AS} {all:Array Oper} {o:Oper} (h:∀k∈gslot all o,lk s.t k=lk s'.t k):zaH s all o.guard=zaH s' all o.guard:=by
 unfold gslot at h
 unfold zaH
 cases hg:o.guard with
 |none=>rfl
 | some p=>
  obtain ⟨j,want⟩:=p
  rw [hg] at h
  dsimp only at h ⊢
  cases hj:(all[j]?).bind (·.dst) with
  |none=>rfl
  |some d=>
   rw [hj] at h
   dsimp only at h ⊢
   rw [h d (by simp)]
end
open Go
theorem zgF (l:Array Bool) (i k:Nat) (hi:i<l.size):(l.setIfInBounds i true).getD k false=if k=i then true else l.getD k false:=by
 simp only [Array.getD_eq_getD_getElem?]
 by_cases h:k=i
 ·subst h
  rw [if_pos rfl,Array.getElem?_setIfInBounds_self_of_lt hi]
  rfl
 ·rw [if_neg h,Array.getElem?_setIfInBounds_ne (Ne.symm h)]
theorem zec (l:Array Bool) (i:Nat) (n:Nat) (hi:l[i]?=some false) (hc:l.toList.countP (fun b=>b==false)=n+1):(l.setIfInBounds i true).toList.countP (fun b=>b==false)=n:=by
 obtain ⟨hlt,he⟩:=Array.getElem?_eq_some_iff.1 hi
 rw [Array.toList_setIfInBounds,List.countP_set (by simpa using hlt)]
 have:l.toList[i]'(by simpa using hlt)=false:=by simpa using he
 rw [this,hc]
 simp
section
variable {cx : Cx} {tab : Tab} {ops : Array Oper}
end
attribute [go_sem] fop detOp
open Go
inductive Foot where
 |cold|on (i:Nat)|new (i:Nat)|whole
 deriving DecidableEq
def Foot.meets:Foot→Foot→Bool
 | .cold,_=>false
 |_,.cold=>false
 | .on i,.on j=>i==j
 | .on i,.new j=>i==j
 | .new i,.on j=>i==j
 |_,_=>true
def footA:AV→Foot
 | .vp _ _=> .cold
 | .tp _ _=> .cold
 | .dp _=> .cold
 | .d _=> .cold
 | .ap i _ _ _ _=> .on i
 | .osl i _ _ _ _=> .on i
 |_=> .whole
def footL:AV→Foot
 | .vp i _=> .on i
 | .tp i _=> .on i
 | .dp _=> .cold
 | .ap i _ _ _ _=> .on i
 |_=> .whole
def foot (fl:Nat) (P:Program) (s:AS) (op:Op):Foot:=
 match op with
 | .alloc _=> .new (fresh fl s.h)
 | .call c=>(match zaW P s c with
  |some (_,args,_)=>if AV.idsL args= [] then .cold else .whole
  |none=> .whole)
 | .move _=> .cold
 | .assign _=> .cold
 | .pick _ _ _=> .cold
 | .binOp o t x y u=>if isVal P (.binOp o t x y u) then .cold else .whole
 | .unOp _ _ _=> .cold
 | .extract _ _=> .cold
 | .makeFunc _ _ _=> .cold
 | .field _ _ _=> .cold
 | .fieldAddr _ x _=>footA (s.ev x).2
 | .nilCheck x=>footA (s.ev x).2
 | .indexAddr _ x _=>footA (s.ev x).2
 | .load _ x=>footL (s.ev x).2
 | .store _ x _=>(match (s.ev x).2 with
  | .vp i _=> .on i
  | .tp i _=> .on i
  | .ap i _ _ _ _=> .on i
  |_=> .whole)
 |_=> .whole
def confF (all:Array Oper) (fa fb:Foot) (a b:Oper):Bool:=
 (match a.dst with
  |some d=>(zeb all b).contains d||b.dst==some d
  |none=>false)||
 (match b.dst with
  |some d=>(zeb all a).contains d
  |none=>false)||
 ((isEff a.op||isEff b.op)&&fa.meets fb)
def zV (ops:Array Oper) (F:List Foot):Bool:=
 (List.range ops.size).all fun j=>match ops[j]? with
  |some b=>(b.after.toList.all fun e=> !Region.binds .any e||decide (e.on<j))&&(List.range j).all fun i=>match ops[i]? with
   |some a=> !confF ops (F.getD i .whole) (F.getD j .whole) a b||anc ops (j+1) j i
   |none=>true
  |none=>true
abbrev ResF:=Res×Foot
def effH (r:ResF) (h:AHeap):AHeap:=
 if isEff r.1.1.op=true then (match r.2 with
  | .on i=>(match hget r.1.2.2.2 i with
   |some o=>hset h i o
   |none=>h)
  | .new i=>(match hget r.1.2.2.2 i with
   |some o=>(i,o)::h
   |none=>h)
  |_=>r.1.2.2.2) else h
def appF (s:AS) (r:ResF):AS:= { s with h:=effH r s.h }.put r.1.1.dst r.1.2.1 r.1.2.2.1
def selF:List ResF→(Nat→Bool)→AS→AS
 | [],_,s=>s
 |x::L,S,s=>selF L (fun i=>S (i+1)) (if S 0=true then appF s x else s)
theorem zbX (s:AS) (r:ResF):(appF s r).h=effH r s.h:=by
 unfold appF AS.put;cases r.1.1.dst<;>rfl
theorem zuK (s:AS) (r:ResF):(appF s r).g=s.g:=by
 unfold appF AS.put;cases r.1.1.dst<;>rfl
theorem zi1 (s:AS) (r:ResF) (k:Nat):lk (appF s r).t k=if r.1.1.dst=some k then some (r.1.2.1,r.1.2.2.1) else lk s.t k:=by
 unfold appF
 rw [zj0]
theorem zg1 {Q:Nat→Prop} :∀ (L:List ResF) (S S':Nat→Bool) (s s':AS),(∀k,Q k→lk s.t k=lk s'.t k)→(∀ (i:Nat) (r:ResF),L[i]?=some r→(∃d,r.1.1.dst=some d∧Q d)→S i=S' i)→
  ∀k,Q k→lk (selF L S s).t k=lk (selF L S' s').t k
 | [],_,_,_,_,h,_=>h
 | x::L,S,S',s,s',h,hS=>by
  refine zg1 L _ _ _ _ (fun k hk=>?_) (fun i r hr hd=>hS (i+1) r (by simpa using hr) hd)
  by_cases hd:x.1.1.dst=some k
  ·have:=hS 0 x rfl ⟨k,hd,hk⟩
   rw [this]
   split
   ·rw [zi1,zi1,if_pos hd,if_pos hd]
   ·exact h k hk
  ·have e1:∀ (b:Bool) (u:AS),lk (if b=true then appF u x else u).t k=lk u.t k:=fun b u=>by
    split
    ·rw [zi1,if_neg hd]
    ·rfl
   rw [e1,e1]
   exact h k hk
theorem zio:∀ (L:List ResF) (S S':Nat→Bool) (s s':AS),s.h=s'.h→(∀ (i:Nat) (r:ResF),L[i]?=some r→isEff r.1.1.op=true→S i=S' i)→(selF L S s).h=(selF L S' s').h
 | [],_,_,_,_,h,_=>h
 | x::L,S,S',s,s',h,hS=>by
  refine zio L _ _ _ _ ?_ (fun i r hr he=>hS (i+1) r (by simpa using hr) he)
  by_cases he:isEff x.1.1.op=true
  ·have:=hS 0 x rfl he
   rw [this]
   split
   ·rw [zbX,zbX,h]
   ·exact h
  ·have e1:∀ (b:Bool) (u:AS),(if b=true then appF u x else u).h=u.h:=fun b u=>by
    split
    ·rw [zbX];unfold effH;rw [if_neg he]
    ·rfl
   rw [e1,e1]
   exact h
theorem zdr:∀ {h:AHeap} {j:Nat} {o:AObj},hget h j=none→hset h j o=h
  | [],_,_,_=>rfl
  | (k,x)::r,j,o,hn=>by
    simp only [hget] at hn
    simp only [hset]
    split
    · rename_i e;rw [if_pos e] at hn;cases hn
    · rename_i e
      rw [if_neg e] at hn
      rw [zdr hn]
theorem zj1 (k:Nat):∀ (L:List ResF) (S S':Nat→Bool) (s s':AS),hget s.h k=hget s'.h k→(∀ (i:Nat) (r:ResF),L[i]?=some r→isEff r.1.1.op=true→r.2.meets (.on k)=true→S i=S' i)→
  (∀ (i:Nat) (r:ResF),L[i]?=some r→isEff r.1.1.op=true→r.2≠ .cold)→hget (selF L S s).h k=hget (selF L S' s').h k
 | [],_,_,_,_,h,_,_=>h
 | x :: L,S,S',s,s',h,hS,hc=>by
  refine zj1 k L _ _ _ _ ?_ (fun i r hr he hm=>hS (i+1) r (by simpa using hr) he hm) (fun i r hr he=>hc (i+1) r (by simpa using hr) he)
  by_cases he:isEff x.1.1.op=true
  ·by_cases hm:x.2.meets (.on k)=true
   ·have:=hS 0 x rfl he hm
    rw [this]
    split
    ·rw [zbX,zbX]
     unfold effH
     rw [if_pos he,if_pos he]
     split
     ·rename_i j hj
      rw [hj] at hm
      have hjk:j=k:=by simpa [Foot.meets] using hm
      subst hjk
      split
      ·rename_i o ho
       by_cases hs:(hget s.h j).isSome
       ·obtain ⟨o1,h1⟩:=Option.isSome_iff_exists.1 hs
        rw [ze h1,ze (h ▸ h1)]
       ·have n1:hget s.h j=none:=by simpa using hs
        rw [zdr n1,zdr (h ▸ n1)];exact h
      ·exact h
     ·rename_i j hj
      rw [hj] at hm
      have hjk:j=k:=by simpa [Foot.meets] using hm
      subst hjk
      split
      ·simp [hget]
      ·exact h
     ·rfl
    ·exact h
   ·have hat:∃j,(x.2= .on j∨x.2= .new j)∧j≠k:=by
     have:=hc 0 x rfl he
     cases hx:x.2 with
     |cold=>exact absurd hx this
     |on j=>refine ⟨j,.inl rfl,?_⟩;rintro rfl;exact hm (by rw [hx];simp [Foot.meets])
     |new j=>refine ⟨j,.inr rfl,?_⟩;rintro rfl;exact hm (by rw [hx];simp [Foot.meets])
     |whole=>exact absurd (by rw [hx];rfl) hm
    obtain ⟨j,hj,hne⟩:=hat
    have e1:∀ (b:Bool) (u:AS),hget (if b=true then appF u x else u).h k=hget u.h k:=fun b u=>by
     split
     ·rw [zbX]
      unfold effH
      rw [if_pos he]
      rcases hj with hj|hj
      ·rw [hj]
       dsimp only
       split
       ·exact zB (Ne.symm hne)
       ·rfl
      ·rw [hj]
       dsimp only
       split
       ·simp [hget,hne]
       ·rfl
     ·rfl
    rw [e1,e1]
    exact h
  ·have e1:∀ (b:Bool) (u:AS),(if b=true then appF u x else u).h=u.h:=fun b u=>by
    split
    ·rw [zbX];unfold effH;rw [if_neg he]
    ·rfl
   rw [e1,e1]
   exact h
theorem zg2:∀ (h:AHeap) {i j:Nat} {a b:AObj},i≠j→hset (hset h i a) j b=hset (hset h j b) i a
  | [],i,j,a,b,_=>rfl
  | (k, x)::r,i,j,a,b,hne=>by
    by_cases h1:k=i
    · subst h1
      simp [hset,hne]
    · by_cases h2:k=j
      · subst h2
        simp [hset,h1]
      · simp [hset,h1,h2,zg2 r hne]
theorem zj2 (k:Nat) (ob:AObj):∀ (L:List ResF) (S:Nat→Bool) (s:AS),(∀ (i:Nat) (r:ResF),L[i]?=some r→isEff r.1.1.op=true→S i=true→∃j,(r.2= .on j∨r.2= .new j)∧j≠k)→
  ∀s2:AS,s2.h=hset s.h k ob→(selF L S s2).h=hset (selF L S s).h k ob
 | [],_,s,_,s2,h2=>h2
 | x ::L,S,s,hS,s2,h2=>by
  refine zj2 k ob L _ _ (fun i r hr he hs=>hS (i+1) r (by simpa using hr) he hs) _ ?_
  split
  ·rename_i hs0
   rw [zbX,zbX,h2]
   unfold effH
   split
   ·rename_i he
    obtain ⟨j,hj,hne⟩:=hS 0 x rfl he hs0
    rcases hj with hj|hj
    ·rw [hj]
     dsimp only
     split
     ·exact zg2 _ (Ne.symm hne)
     ·rfl
    ·rw [hj]
     dsimp only
     split
     ·simp [hset,hne]
     ·rfl
   ·rfl
  ·exact h2
theorem zpo (k:Nat) (ob:AObj):∀ (L:List ResF) (n:Nat) (r:ResF) (S:Nat→Bool) (s:AS),L[n]?=some r→S n=false→isEff r.1.1.op=true→r.2= .on k→hget r.1.2.2.2 k=some ob→
  (∀ (i:Nat) (r':ResF),L[i]?=some r'→n<i→isEff r'.1.1.op=true→S i=true→∃j,(r'.2= .on j∨r'.2= .new j)∧j≠k)→
  (selF L (fun i=>if i=n then true else S i) s).h=hset (selF L S s).h k ob
 | [],n,r,S,s,hr,_,_,_,_,_=>by simp at hr
 |x::L,0,r,S,s,hr,hS,he,hf,ho,hl=>by
  have:x=r:=by simpa using hr
  subst this
  simp only [selF,if_true,hS,Bool.false_eq_true,if_false,Nat.succ_ne_zero]
  refine zj2 k ob L _ _ (fun i r' hr' he' hs'=>hl (i+1) r' (by simpa using hr') (by omega) he' hs') _ ?_
  rw [zbX]
  unfold effH
  rw [if_pos he,hf]
  dsimp only
  rw [ho]
 | x::L,n+1,r,S,s,hr,hS,he,hf,ho,hl=>by
  have e0:(if (0:Nat)=n+1 then true else S 0)=S 0:=if_neg (by omega)
  simp only [selF,e0]
  have e1:(fun i=>if i+1=n+1 then true else S (i+1))=(fun i=>if i=n then true else S (i+1)):=by
   funext i
   by_cases h:i=n
   ·simp [h]
   ·simp [h]
  rw [e1]
  exact zpo k ob L n r (fun i=>S (i+1)) _ (by simpa using hr) hS he hf ho (fun i r' hr' hi he' hs'=>hl (i+1) r' (by simpa using hr') (by omega) he' hs')
theorem zfg (k:Nat) (ob:AObj):∀ (L:List ResF) (S:Nat→Bool) (s:AS),(∀ (i:Nat) (r:ResF),L[i]?=some r→isEff r.1.1.op=true→S i=true→∃j,r.2= .on j∧j≠k)→
  ∀s2:AS,s2.h=(k,ob)::s.h→(selF L S s2).h=(k,ob)::(selF L S s).h
 | [],_,s,_,s2,h2=>h2
 | x::L,S,s,hS,s2,h2=>by
  refine zfg k ob L _ _ (fun i r hr he hs=>hS (i+1) r (by simpa using hr) he hs) _ ?_
  split
  ·rename_i hs0
   rw [zbX,zbX,h2]
   unfold effH
   split
   ·rename_i he
    obtain ⟨j,hj,hne⟩:=hS 0 x rfl he hs0
    rw [hj]
    dsimp only
    split
    ·simp [hset,Ne.symm hne]
    ·rfl
   ·rfl
  ·exact h2
theorem zg3 (k:Nat) (ob:AObj):∀ (L:List ResF) (n:Nat) (r:ResF) (S:Nat→Bool) (s:AS),L[n]?=some r→S n=false→isEff r.1.1.op=true→r.2= .new k→hget r.1.2.2.2 k=some ob→
  (∀ (i:Nat) (r':ResF),L[i]?=some r'→n<i→isEff r'.1.1.op=true→S i=true→∃j,r'.2= .on j∧j≠k)→
  (∀ (i:Nat) (r':ResF),L[i]?=some r'→i<n→isEff r'.1.1.op=true→S i=true→True)→
  (selF L (fun i=>if i=n then true else S i) s).h=(k,ob)::(selF L S s).h
 | [],n,r,S,s,hr,_,_,_,_,_,_=>by simp at hr
 |x::L,0,r,S,s,hr,hS,he,hf,ho,hl,_=>by
  have:x=r:=by simpa using hr
  subst this
  simp only [selF,if_true,hS,Bool.false_eq_true,if_false,Nat.succ_ne_zero]
  refine zfg k ob L _ _ (fun i r' hr' he' hs'=>hl (i+1) r' (by simpa using hr') (by omega) he' hs') _ ?_
  rw [zbX]
  unfold effH
  rw [if_pos he,hf]
  dsimp only
  rw [ho]
 | x::L,n+1,r,S,s,hr,hS,he,hf,ho,hl,hb=>by
  have e0:(if (0:Nat)=n+1 then true else S 0)=S 0:=if_neg (by omega)
  simp only [selF,e0]
  have e1:(fun i=>if i+1=n+1 then true else S (i+1))=(fun i=>if i=n then true else S (i+1)):=by
   funext i
   by_cases h:i=n
   ·simp [h]
   ·simp [h]
  rw [e1]
  exact zg3 k ob L n r (fun i=>S (i+1)) _ (by simpa using hr) hS he hf ho (fun i r' hr' hi he' hs'=>hl (i+1) r' (by simpa using hr') (by omega) he' hs') (fun _ _ _ _ _ _=>trivial)
theorem zj3:∀ (h:AHeap) (k:Nat) (ob:AObj),(hset h k ob).map (·.1)=h.map (·.1)
  | [],_,_=>rfl
  | (j,x)::r,k,ob=>by
    simp only [hset]
    split
    · rename_i e;subst e;rfl
    · simp [zj3 r k ob]
theorem zj4:∀ (L:List ResF) (S S':Nat→Bool) (s s':AS),s.h.map (·.1)=s'.h.map (·.1)→(∀ (i:Nat) (r:ResF),L[i]?=some r→isEff r.1.1.op=true→(∀j,r.2≠ .on j)→S i=S' i)→(selF L S s).h.map (·.1)=(selF L S' s').h.map (·.1)
 | [],_,_,_,_,h,_=>h
 | x ::L,S,S',s,s',h,hS=>by
  refine zj4 L _ _ _ _ ?_ (fun i r hr he hn=>hS (i+1) r (by simpa using hr) he hn)
  by_cases he:isEff x.1.1.op=true
  ·by_cases hn:∀j,x.2≠ .on j
   ·rw [hS 0 x rfl he hn]
    split
    ·rw [zbX,zbX]
     unfold effH
     rw [if_pos he,if_pos he]
     split
     ·rename_i j hj;exact absurd hj (hn j)
     ·split
      ·simp [h]
      ·exact h
     ·rfl
    ·exact h
   ·obtain ⟨j,hj⟩:∃j,x.2= .on j:=by
     cases hx:x.2 with
     |on j=>exact ⟨j,rfl⟩
     |_=>exact absurd (fun j=>by rw [hx];exact fun e=>by cases e) hn
    have e1:∀ (b:Bool) (u:AS),(if b=true then appF u x else u).h.map (·.1)=u.h.map (·.1):=fun b u=>by
     split
     ·rw [zbX]
      unfold effH
      rw [if_pos he,hj]
      dsimp only
      split
      ·exact zj3 _ _ _
      ·rfl
     ·rfl
    rw [e1,e1]
    exact h
  ·have e1:∀ (b:Bool) (u:AS),(if b=true then appF u x else u).h=u.h:=fun b u=>by
    split
    ·rw [zbX];unfold effH;rw [if_neg he]
    ·rfl
   rw [e1,e1]
   exact h
theorem zj5:∀ {h h':AHeap} {i:Nat},h.map (·.1)=h'.map (·.1)→(hget h i).isSome=(hget h' i).isSome
  | [],[],_,_=>rfl
  | [],_::_,_,e=>by simp at e
  |_::_,[],_,e=>by simp at e
  | (k,x)::r,(k',x')::r',i,e=>by
    simp only [List.map_cons,List.cons.injEq] at e
    simp only [hget]
    rw [e.1]
    split
    · rfl
    · exact zj5 e.2
theorem zm0 {fl:Nat} :∀ {h h':AHeap},h.map (·.1)=h'.map (·.1)→top fl h=top fl h'
  | [],[],_=>rfl
  | [],_::_,e=>by simp at e
  |_::_,[],e=>by simp at e
  | (k,x)::r,(k',x')::r',e=>by
    simp only [List.map_cons,List.cons.injEq] at e
    simp only [top]
    rw [e.1,zm0 e.2]
theorem znK {fl:Nat} {h h':AHeap} (e:h.map (·.1)=h'.map (·.1)):fresh fl h=fresh fl h':=by
 unfold fresh
 rw [zj5 e,zm0 e]
theorem zj6:∀ (L:List ResF) (S:Nat→Bool) (s:AS),(selF L S s).g=s.g
 | [],_,_=>rfl
 |x::L,S,s=>by
  rw [selF,zj6 L]
  split
  ·exact zuK _ _
  ·rfl
def lexF (L:List ResF) (n:Nat) (s:AS):AS:=selF L (fun i=>decide (i<n)) s
theorem zed:∀ (L:List ResF) (s:AS),lexF L 0 s=s
 | [],s=>rfl
 |x::L,s=>by
  unfold lexF selF
  have:=zed L s
  unfold lexF at this
  simpa using this
theorem zee (x:ResF) (L:List ResF) (n:Nat) (s:AS):lexF (x::L) (n+1) s=lexF L n (appF s x):=by
 unfold lexF
 rw [selF]
 simp
theorem zg4:∀ (L:List ResF) (n:Nat) (s:AS) (r:ResF),L[n]?=some r→lexF L (n+1) s=appF (lexF L n s) r
 | [],n,s,r,h=>by simp at h
 |x::L,0,s,r,h=>by
  have:x=r:=by simpa using h
  subst this
  rw [zee,zed,zed]
 |x::L,n+1,s,r,h=>by
  rw [zee,zee]
  exact zg4 L n _ r (by simpa using h)
section
variable {cx : Cx} {tab : Tab} {s : AS}
def fopsF (cx:Cx) (tab:Tab) (all:Array Oper):List Oper→List Foot→(AS→Prop)→AS→Prop
 | [],F,K,s=>zV all F.reverse=true∧K s
 |o::r,F,K,s=>match zaH s all o.guard with
  |some G=>dstOk cx.nt o.dst∧fop cx tab s G o (fun g v h'=>fopsF cx tab all r (foot cx.fl cx.P s o.op::F) K ({ s with h:=h' }.put o.dst g v))
  |none=>False
theorem zgG {k:AHeap} {i n kk:Nat} (e:hget k i=hget s.h i):AS.cur { s with h:=k } i n kk=AS.cur s i n kk:=by unfold AS.cur;dsimp only;rw [e]
theorem zd3 {P:Program} {t:TypeId} {x y:AV} {k:AHeap} (hf:footA x= .cold∨∃i,footA x= .on i∧hget k i=hget s.h i):zaB P { s with h:=k } t x y=zaB P s t x y:=by
 unfold zaB
 cases y with
 | d z=>
  cases z with
  | int kk j=>
   dsimp only
   generalize (ty P t).td=dd
   cases x with
   | osl i k' n off len=>
    have e:hget k i=hget s.h i:=by
     rcases hf with h|⟨j,h,e⟩
     ·cases h
     ·simp only [footA,Foot.on.injEq] at h;subst h;exact e
    cases dd<;>first|rfl|simp only [zgG e]
   | ap i n k' r off=>
    have e:hget k i=hget s.h i:=by
     rcases hf with h|⟨j,h,e⟩
     ·cases h
     ·simp only [footA,Foot.on.injEq] at h;subst h;exact e
    cases dd<;>first|rfl|simp only [zgG e]
   |d z=>cases dd<;>cases z<;>rfl
   |_=>cases dd<;>rfl
  |_=>rfl
 |_=>rfl
theorem zd4 {P:Program} {t:TypeId} {x:AV} {f:Nat} {k:AHeap} (hf:footA x= .cold∨∃i,footA x= .on i∧hget k i=hget s.h i):z2 P { s with h:=k } t x f=z2 P s t x f:=by
 unfold z2
 split
 ·cases x with
  | ap i n k' r off=>
   have e:hget k i=hget s.h i:=by
    rcases hf with h|⟨j,h,e⟩
    ·cases h
    ·simp only [footA,Foot.on.injEq] at h;subst h;exact e
   simp only [zgG e]
  |_=>rfl
 ·rfl
theorem ziq {P:Program} {x:Operand} {k:AHeap} (hf:footA (s.ev x).2= .cold∨∃i,footA (s.ev x).2= .on i∧hget k i=hget s.h i):aval P { s with h:=k } (.nilCheck x)=aval P s (.nilCheck x):=by
 have hev:AS.ev { s with h:=k } x=s.ev x:=by cases x<;>rfl
 simp only [aval,hev]
 generalize s.ev x=q at hf ⊢
 obtain ⟨g,v⟩:=q
 cases v with
 | ap i n k' r off=>
  have e:hget k i=hget s.h i:=by
   rcases hf with h|⟨j,h,e⟩
   ·cases h
   ·simp only [footA,Foot.on.injEq] at h;subst h;exact e
  simp only [zgG e]
 |fn f fs cs=>rcases hf with h|⟨j,h,_⟩<;>cases h
 |_=>rfl
theorem zg5 {P:Program} {t:TypeId} {x:AV} {k:AHeap} (hf:footL x= .cold∨∃i,footL x= .on i∧hget k i=hget s.h i):zc0 P { s with h:=k } t x=zc0 P s t x:=by
 unfold zc0
 cases x with
 | ap i n k' r off=>
  have e:hget k i=hget s.h i:=by
   rcases hf with h|⟨j,h,e⟩
   ·cases h
   ·simp only [footL,Foot.on.injEq] at h;subst h;exact e
  simp only [e]
 | vp i off=>
  have e:hget k i=hget s.h i:=by
   rcases hf with h|⟨j,h,e⟩
   ·cases h
   ·simp only [footL,Foot.on.injEq] at h;subst h;exact e
  simp only [e]
 | tp i off=>
  have e:hget k i=hget s.h i:=by
   rcases hf with h|⟨j,h,e⟩
   ·cases h
   ·simp only [footL,Foot.on.injEq] at h;subst h;exact e
  simp only [e]
 |_=>rfl
theorem zgH {G:Bool} {o:Oper} {g:Bool} {v:AV} {h':AHeap} (h:∀R:Bool→AV→AHeap→Prop,R g v h'→fop cx tab s G o R) (hne:isEff o.op=false→h'=s.h):
  (foot cx.fl cx.P s o.op= .cold→isEff o.op=false∧∀ (k:AHeap) (R:Bool→AV→AHeap→Prop),R g v k→fop cx tab { s with h:=k } G o R)∧
  (∀i,foot cx.fl cx.P s o.op= .on i→∀ (k:AHeap),hget k i=hget s.h i→(isEff o.op=false→∀R:Bool→AV→AHeap→Prop,R g v k→fop cx tab { s with h:=k } G o R)∧
   (isEff o.op=true→∃ob,hget h' i=some ob∧h'=hset s.h i ob∧∀R:Bool→AV→AHeap→Prop,R g v (hset k i ob)→fop cx tab { s with h:=k } G o R)):=by
 have hev:∀ (k:AHeap) (x:Operand),AS.ev { s with h:=k } x=s.ev x:=fun k x=>by cases x<;>rfl
 have hkn:∀ (k:AHeap) (x:Operand),known { s with h:=k } x=known s x:=fun k x=>by cases x<;>rfl
 have val:∀ (k:AHeap),isVal cx.P o.op=true→(∀x,o.op= .move x→False)→(∀x,o.op= .assign x→False)→(∀x y z,o.op= .pick x y z→False)→(∀c,o.op= .call c→False)→aval cx.P { s with h:=k } o.op=aval cx.P s o.op→
   ∀ (k':AHeap) (R:Bool→AV→AHeap→Prop),k'=k→R g v k'→fop cx tab { s with h:=k } G o R:=by
  intro k hv n1 n2 n3 n4 ha k' R hk hR
  subst hk
  have h1:=h (fun g v _=>R g v k') hR
  rw [zaa n1 n2 n3 n4,if_pos hv] at h1 ⊢
  rw [ha]
  exact h1
 have nv:∀ (k:AHeap) (R:Bool→AV→AHeap→Prop),isVal cx.P o.op=true→(∀x,o.op= .move x→False)→(∀x,o.op= .assign x→False)→(∀x y z,o.op= .pick x y z→False)→(∀c,o.op= .call c→False)→aval cx.P { s with h:=k } o.op=aval cx.P s o.op→R g v k→fop cx tab { s with h:=k } G o R:=fun k R hv n1 n2 n3 n4 ha hR=>val k hv n1 n2 n3 n4 ha k R rfl hR
 have cur:∀ (k:AHeap) (i n kk:Nat),hget k i=hget s.h i→AS.cur { s with h:=k } i n kk=AS.cur s i n kk:=fun k i n kk e=>by unfold AS.cur;dsimp only;rw [e]
 constructor
 ·intro hf
  cases hop:o.op
  case move x=>
   refine ⟨rfl,fun k R hR=>?_⟩
   have h1:=h (fun g v _=>R g v k) hR
   unfold fop at h1 ⊢
   rw [hop] at h1 ⊢
   simp only [hev,hkn] at h1 ⊢
   exact h1
  case assign x=>
   refine ⟨rfl,fun k R hR=>?_⟩
   have h1:=h (fun g v _=>R g v k) hR
   unfold fop at h1 ⊢
   rw [hop] at h1 ⊢
   simp only [hev,hkn] at h1 ⊢
   exact h1
  case pick c a b=>
   refine ⟨rfl,fun k R hR=>?_⟩
   have h1:=h (fun g v _=>R g v k) hR
   unfold fop at h1 ⊢
   rw [hop] at h1 ⊢
   simp only [hev] at h1 ⊢
   exact h1
  case binOp bo t x y u=>
   rw [hop] at hf
   simp only [foot] at hf
   split at hf
   ·rename_i hv
    refine ⟨rfl,fun k R hR=>nv k R (by rw [hop];exact hv) (by simp [hop]) (by simp [hop]) (by simp [hop]) (by simp [hop]) (by rw [hop];simp only [aval,hev]) hR⟩
   ·cases hf
  case unOp a b c=>exact ⟨rfl,fun k R hR=>nv k R (by rw [hop];rfl) (by simp [hop]) (by simp [hop]) (by simp [hop]) (by simp [hop]) (by rw [hop];simp only [aval,hev]) hR⟩
  case extract a b=>exact ⟨rfl,fun k R hR=>nv k R (by rw [hop];rfl) (by simp [hop]) (by simp [hop]) (by simp [hop]) (by simp [hop]) (by rw [hop];simp only [aval,hev]) hR⟩
  case makeFunc a b c=>exact ⟨rfl,fun k R hR=>nv k R (by rw [hop];rfl) (by simp [hop]) (by simp [hop]) (by simp [hop]) (by simp [hop]) (by rw [hop];simp only [aval,hev]) hR⟩
  case field a b c=>exact ⟨rfl,fun k R hR=>nv k R (by rw [hop];rfl) (by simp [hop]) (by simp [hop]) (by simp [hop]) (by simp [hop]) (by rw [hop];simp only [aval,hev]) hR⟩
  case fieldAddr a x c=>
   rw [hop] at hf
   simp only [foot] at hf
   refine ⟨rfl,fun k R hR=>nv k R (by rw [hop];rfl) (by simp [hop]) (by simp [hop]) (by simp [hop]) (by simp [hop]) ?_ hR⟩
   rw [hop]
   simp only [aval,hev,zd4 (.inl hf)]
  case nilCheck x=>
   rw [hop] at hf
   simp only [foot] at hf
   refine ⟨rfl,fun k R hR=>nv k R (by rw [hop];rfl) (by simp [hop]) (by simp [hop]) (by simp [hop]) (by simp [hop]) ?_ hR⟩
   rw [hop]
   exact ziq (.inl hf)
  case indexAddr a x y=>
   rw [hop] at hf
   simp only [foot] at hf
   refine ⟨rfl,fun k R hR=>nv k R (by rw [hop];rfl) (by simp [hop]) (by simp [hop]) (by simp [hop]) (by simp [hop]) ?_ hR⟩
   rw [hop]
   simp only [aval,hev,zd3 (.inl hf)]
  case load a x=>
   rw [hop] at hf
   simp only [foot] at hf
   refine ⟨rfl,fun k R hR=>nv k R (by rw [hop];rfl) (by simp [hop]) (by simp [hop]) (by simp [hop]) (by simp [hop]) ?_ hR⟩
   rw [hop]
   simp only [aval,hev,zg5 (.inl hf)]
  case store a x y=>
   rw [hop] at hf
   simp only [foot] at hf
   split at hf<;>cases hf
  case call c=>
   rw [hop] at hf
   simp only [foot] at hf
   cases hco:zaW cx.P s c with
   |none=>rw [hco] at hf;cases hf
   | some q=>
    obtain ⟨f,args,vc⟩:=q
    rw [hco] at hf
    dsimp only at hf
    split at hf
    ·rename_i hids
     have hco':∀k,zaW cx.P { s with h:=k } c=some (f,args,vc):=fun k=>by
      rw [← hco];unfold zaW;cases c.callee<;>simp only [hev]
     obtain ⟨fo,hcal⟩:∃fo,c.callee= .value fo:=by
      unfold zaW at hco
      cases hc:c.callee<;>rw [hc] at hco<;>first|exact ⟨_,rfl⟩|cases hco
     refine ⟨by simp [isEff,hcal],fun k R hR=>?_⟩
     have h1:=h (fun g v _=>R g v k) hR
     unfold fop at h1 ⊢
     rw [hop] at h1 ⊢
     dsimp only at h1 ⊢
     have hv:¬isVal cx.P (.call c)=true:=by simp [isVal,zcg,hcal]
     rw [if_neg hv,hco] at h1
     rw [if_neg hv,hco']
     dsimp only at h1 ⊢
     rw [zcx args 9 k s.h hids]
     cases htb:tab f (args.map (frz 9 s.h)) with
     |none=>rw [htb] at h1;exact h1.elim
     |some pr=>
      obtain ⟨pre,r⟩:=pr
      rw [htb] at h1
      exact h1
    ·cases hf
  all_goals (rw [hop] at hf;simp only [foot] at hf;cases hf)
 ·intro i hf k hk
  cases hop:o.op
  case binOp bo t x y u=>
   rw [hop] at hf
   simp only [foot] at hf
   split at hf<;>cases hf
  case fieldAddr a x c=>
   rw [hop] at hf
   simp only [foot] at hf
   refine ⟨fun _ R hR=>nv k R (by rw [hop];rfl) (by simp [hop]) (by simp [hop]) (by simp [hop]) (by simp [hop]) ?_ hR,fun e=>by cases e⟩
   rw [hop]
   simp only [aval,hev,zd4 (.inr ⟨i,hf,hk⟩)]
  case nilCheck x=>
   rw [hop] at hf
   simp only [foot] at hf
   refine ⟨fun _ R hR=>nv k R (by rw [hop];rfl) (by simp [hop]) (by simp [hop]) (by simp [hop]) (by simp [hop]) ?_ hR,fun e=>by cases e⟩
   rw [hop]
   exact ziq (.inr ⟨i,hf,hk⟩)
  case indexAddr a x y=>
   rw [hop] at hf
   simp only [foot] at hf
   refine ⟨fun _ R hR=>nv k R (by rw [hop];rfl) (by simp [hop]) (by simp [hop]) (by simp [hop]) (by simp [hop]) ?_ hR,fun e=>by cases e⟩
   rw [hop]
   simp only [aval,hev,zd3 (.inr ⟨i,hf,hk⟩)]
  case load a x=>
   rw [hop] at hf
   simp only [foot] at hf
   refine ⟨fun _ R hR=>nv k R (by rw [hop];rfl) (by simp [hop]) (by simp [hop]) (by simp [hop]) (by simp [hop]) ?_ hR,fun e=>by cases e⟩
   rw [hop]
   simp only [aval,hev,zg5 (.inr ⟨i,hf,hk⟩)]
  case store t x y=>
   rw [hop] at hf
   simp only [foot] at hf
   refine ⟨fun e=>(by cases e),fun _=>?_⟩
   have h1:=h (fun g1 v1 h1=>g1=g∧v1=v∧h1=h') ⟨rfl,rfl,rfl⟩
   have n1:∀x,o.op= .move x→False:=by simp [hop]
   have n2:∀x,o.op= .assign x→False:=by simp [hop]
   have n3:∀x y z,o.op= .pick x y z→False:=by simp [hop]
   have n4:∀c,o.op= .call c→False:=by simp [hop]
   rw [zaa n1 n2 n3 n4] at h1
   have hv:¬isVal cx.P o.op=true:=by rw [hop];simp [isVal,zcg]
   rw [if_neg hv,hop] at h1
   obtain ⟨rfl,hdt,h1⟩:=h1
   unfold aeff at h1
   dsimp only at h1
   obtain ⟨q1,q2,q3,q4,q5,h1⟩:=h1
   split at h1
   ·rename_i i' off hx
    rw [hx] at hf
    simp only [Foot.on.injEq] at hf
    subst hf
    split at h1
    ·rename_i cs hi
     obtain ⟨q6,q7,q8,q9⟩:=h1
     refine ⟨_,by rw [← q9];exact ze hi,q9.symm,fun R hR=>?_⟩
     rw [zaa n1 n2 n3 n4,if_neg hv,hop]
     refine ⟨q7.symm ▸ rfl,hdt,?_⟩
     unfold aeff
     dsimp only
     simp only [hev]
     refine ⟨q1,q2,q3,q4,q5,?_⟩
     rw [hx]
     dsimp only
     rw [hk,hi]
     refine ⟨q6,?_⟩
     rw [← q7,← q8] at hR
     exact hR
    ·exact h1.elim
   ·rename_i i' off hx
    rw [hx] at hf
    simp only [Foot.on.injEq] at hf
    subst hf
    split at h1
    ·rename_i tt cs hi
     obtain ⟨q6,q7,q8,q9⟩:=h1
     refine ⟨_,by rw [← q9];exact ze hi,q9.symm,fun R hR=>?_⟩
     rw [zaa n1 n2 n3 n4,if_neg hv,hop]
     refine ⟨q7.symm ▸ rfl,hdt,?_⟩
     unfold aeff
     dsimp only
     simp only [hev]
     refine ⟨q1,q2,q3,q4,q5,?_⟩
     rw [hx]
     dsimp only
     rw [hk,hi]
     refine ⟨q6,?_⟩
     rw [← q7,← q8] at hR
     exact hR
    ·exact h1.elim
   ·rename_i i' n' kk r off hx
    rw [hx] at hf
    simp only [Foot.on.injEq] at hf
    subst hf
    split at h1
    ·rename_i kx xs hi
     obtain ⟨g1,g2,g3,g4,h1⟩:=h1
     split at h1
     ·rename_i ds hds
      obtain ⟨q7,q8,q9⟩:=h1
      refine ⟨_,by rw [← q9];exact ze hi,q9.symm,fun R hR=>?_⟩
      rw [zaa n1 n2 n3 n4,if_neg hv,hop]
      refine ⟨q7.symm ▸ rfl,hdt,?_⟩
      unfold aeff
      dsimp only
      simp only [hev]
      refine ⟨q1,q2,q3,q4,q5,?_⟩
      rw [hx]
      dsimp only
      rw [hk,hi]
      refine ⟨g1,g2,g3,g4,?_⟩
      rw [hds]
      rw [← q7,← q8] at hR
      exact hR
     ·exact h1.elim
    ·exact h1.elim
   ·rename_i n5 n56 n6
    split at hf
    ·rename_i a b hx;exact (n5 _ _ hx).elim
    ·rename_i a b hx;exact (n56 _ _ hx).elim
    ·rename_i a b c d e hx;exact (n6 _ _ _ _ _ hx).elim
    ·cases hf
  case call c=>
   rw [hop] at hf
   simp only [foot] at hf
   split at hf
   ·split at hf<;>cases hf
   ·cases hf
  all_goals (rw [hop] at hf;simp only [foot] at hf;cases hf)
theorem zpp {G:Bool} {o:Oper} {g:Bool} {v:AV} {h':AHeap} (h:∀R:Bool→AV→AHeap→Prop,R g v h'→fop cx tab s G o R) {i:Nat} (hf:foot cx.fl cx.P s o.op= .new i):
  isEff o.op=true∧∃ob,h'=(i,ob)::s.h∧∀k:AHeap,fresh cx.fl k=i→∀R:Bool→AV→AHeap→Prop,R g v ((i,ob)::k)→fop cx tab { s with h:=k } G o R:=by
 cases hop:o.op
 case alloc t=>
  rw [hop] at hf
  simp only [foot,Foot.new.injEq] at hf
  refine ⟨rfl,?_⟩
  have h1:=h (fun g1 v1 h1=>g1=g∧v1=v∧h1=h') ⟨rfl,rfl,rfl⟩
  have n1:∀x,o.op= .move x→False:=by simp [hop]
  have n2:∀x,o.op= .assign x→False:=by simp [hop]
  have n3:∀x y z,o.op= .pick x y z→False:=by simp [hop]
  have n4:∀c,o.op= .call c→False:=by simp [hop]
  rw [zaa n1 n2 n3 n4] at h1
  have hv:¬isVal cx.P o.op=true:=by rw [hop];simp [isVal,zcg]
  rw [if_neg hv,hop] at h1
  obtain ⟨rfl,hdt,h1⟩:=h1
  unfold aeff at h1
  dsimp only at h1
  obtain ⟨q1,q2,q3,q4⟩:=h1
  refine ⟨_,by rw [← q4,hf],fun k hk R hR=>?_⟩
  rw [zaa n1 n2 n3 n4,if_neg hv,hop]
  refine ⟨rfl,hdt,?_⟩
  unfold aeff
  dsimp only
  refine ⟨q1,?_⟩
  rw [hk]
  rw [← q2,← q3,hf] at hR
  exact hR
 case binOp bo t x y u=>
  rw [hop] at hf
  simp only [foot] at hf
  split at hf<;>cases hf
 case store a x y=>
  rw [hop] at hf
  simp only [foot] at hf
  split at hf<;>cases hf
 case nilCheck x=>
  rw [hop] at hf
  simp only [foot,footA] at hf
  split at hf<;>cases hf
 case fieldAddr a x c=>
  rw [hop] at hf
  simp only [foot,footA] at hf
  split at hf<;>cases hf
 case indexAddr a x c=>
  rw [hop] at hf
  simp only [foot,footA] at hf
  split at hf<;>cases hf
 case load a x=>
  rw [hop] at hf
  simp only [foot,footL] at hf
  split at hf<;>cases hf
 case call c=>
  rw [hop] at hf
  simp only [foot] at hf
  split at hf
  ·split at hf<;>cases hf
  ·cases hf
 all_goals (rw [hop] at hf;simp only [foot] at hf;cases hf)
end
open Go
section
variable {cx : Cx} {tab : Tab} {ops : Array Oper}
def OutsF (cx:Cx) (tab:Tab) (all:Array Oper) (L:List ResF) (s:AS):Prop:=
 ∀ (i:Nat) (r:ResF),L[i]?=some r→∃G,zaH (lexF L i s) all r.1.1.guard=some G∧dstOk cx.nt r.1.1.dst∧(∀R:Bool→AV→AHeap→Prop,R r.1.2.1 r.1.2.2.1 r.1.2.2.2→fop cx tab (lexF L i s) G r.1.1 R)∧(isEff r.1.1.op=false→r.1.2.2.2=(lexF L i s).h)∧r.2=foot cx.fl cx.P (lexF L i s) r.1.1.op
theorem zpq {s:AS} {G:Bool} {o:Oper} {g:Bool} {v:AV} {h':AHeap} (h:∀R:Bool→AV→AHeap→Prop,R g v h'→fop cx tab s G o R) (hne:isEff o.op=false→h'=s.h):effH ((o,g,v,h'),foot cx.fl cx.P s o.op) s.h=h':=by
 unfold effH
 dsimp only
 split
 ·rename_i he
  obtain ⟨f1,f2⟩:=zgH h hne
  split
  ·rename_i i hf
   obtain ⟨ob,q1,q2,_⟩:=(f2 i hf s.h rfl).2 he
   rw [q1]
   exact q2.symm
  ·rename_i i hf
   obtain ⟨_,ob,q1,_⟩:=zpp h hf
   rw [q1]
   simp [hget]
  ·rfl
 ·rename_i he
  exact (hne (by simpa using he)).symm
theorem zir {all:Array Oper} :∀ (l:List Oper) (F:List Foot) {K:AS→Prop} {s:AS},fopsF cx tab all l F K s→∃L:List ResF,L.map (·.1.1)=l∧zV all (F.reverse++L.map (·.2))=true∧K (lexF L L.length s)∧OutsF cx tab all L s
 | [],F,K,s,h=>⟨[],rfl,by simpa using h.1,h.2,fun i r hr=>by simp at hr⟩
 | o::l,F,K,s,h=>by
  simp only [fopsF] at h
  split at h
  ·rename_i G hG
   obtain ⟨hd,h⟩:=h
   obtain ⟨g,v,h',h1,h2,h3⟩:=zpj h
   have e:({ s with h:=h' } :AS).put o.dst g v=appF s ((o,g,v,h'),foot cx.fl cx.P s o.op):=by
    unfold appF
    rw [zpq h2 h3]
   rw [e] at h1
   obtain ⟨L,q1,q2,q3,q4⟩:=zir l _ h1
   refine ⟨((o,g,v,h'),foot cx.fl cx.P s o.op)::L,by simp [q1],by simpa using q2,by rw [List.length_cons,zee];exact q3,fun i r hr=>?_⟩
   cases i with
   |zero=>
    have:((o,g,v,h'),foot cx.fl cx.P s o.op)=r:=by simpa using hr
    subst this
    rw [zed]
    exact ⟨G,hG,hd,h2,h3,rfl⟩
   |succ i=>
    rw [zee]
    exact q4 i r (by simpa using hr)
  ·exact h.elim
theorem zm1 {F:List Foot} (hd:zV ops F=true) {i j:Nat} {a b:Oper} (hij:i<j) (ha:ops[i]?=some a) (hb:ops[j]?=some b) (hc:confF ops (F.getD i .whole) (F.getD j .whole) a b=true):anc ops (j+1) j i=true:=by
 unfold zV at hd
 have hj:j<ops.size:=(Array.getElem?_eq_some_iff.1 hb).1
 have:=List.all_eq_true.1 hd j (by simpa using hj)
 rw [hb] at this
 simp only [Bool.and_eq_true] at this
 have:=List.all_eq_true.1 this.2 i (by simpa using hij)
 rw [ha] at this
 dsimp only at this
 rw [hc] at this
 simpa using this
theorem zrs {F:List Foot} (hd:zV ops F=true) {j:Nat} {b:Oper} (hb:ops[j]?=some b):∀e∈b.after.toList,Region.binds .any e=true→e.on<j:=by
 unfold zV at hd
 have hj:j<ops.size:=(Array.getElem?_eq_some_iff.1 hb).1
 have:=List.all_eq_true.1 hd j (by simpa using hj)
 rw [hb] at this
 simp only [Bool.and_eq_true] at this
 intro e he hbi
 have:=List.all_eq_true.1 this.1 e he
 simpa [hbi] using this
theorem zlx {F:List Foot} {listed:Array Bool} (hd:zV ops F=true) (hsz:listed.size=ops.size) (hr:Region.ready .any ops listed= []):∀i,i<ops.size→listed.getD i false=true:=by
 intro i
 induction i using Nat.strongRecOn with
 | _ i ih=>
  intro hi
  cases hl:listed.getD i false with
  |true=>rfl
  | false=>
   have hmem:i∈Region.ready .any ops listed:=by
    refine mem_ready.2 ⟨?_,ops[i],by simp [hi],fun e he hb=>?_⟩
    ·rw [Array.getD_eq_getD_getElem?] at hl ⊢
     rw [Array.getElem?_eq_getElem (by omega)] at hl ⊢
     exact hl
    ·have:=zrs hd (j:=i) (b:=ops[i]) (Array.getElem?_eq_getElem hi) e (Array.mem_toList_iff.2 he) hb
     exact ih _ this (by omega)
   rw [hr] at hmem
   cases hmem
theorem zpr (ht:TabOk cx.P tab) {L:List ResF} (hd:zV ops (L.map (·.2))=true) (hL:L.map (·.1.1)=ops.toList) {s0:AS} (ho:OutsF cx tab ops L s0) {E0:Env} {w0:World} {K:AS→Prop} (hK:K (lexF L L.length s0)):
  ∀ (fuel:Nat) (listed:Array Bool) (E:Env) (a:Act) (w:World),listed.size=ops.size→listed.toList.countP (fun b=>b==false)=fuel→
   (∀ (i:Nat) o,ops[i]?=some o→listed.getD i false=true→∀e∈o.after.toList,Region.binds .any e=true→listed.getD e.on false=true)→
   Sat cx E (selF L (fun i=>listed.getD i false) s0) a w→Evo cx.fl E0 s0.h w0 E (selF L (fun i=>listed.getD i false) s0).h w→
   wpAnyIn cx.F 0 cx.P .any ops (fun e a' w'=>e= .normal∧Reach cx E0 s0.h w0 K a' w') fuel listed a w:=by
 have hlen:L.length=ops.size:=by
  have:=congrArg List.length hL
  simpa using this
 have hget:∀ (l:Nat) (r:ResF),L[l]?=some r→ops[l]?=some r.1.1:=fun l r hr=>by
  have:=congrArg (fun x:List Oper=>x[l]?) hL
  simp only [List.getElem?_map,hr,Option.map_some,Array.getElem?_toList] at this
  exact this.symm
 have hfoot:∀ (l:Nat) (r:ResF),L[l]?=some r→(L.map (·.2)).getD l .whole=r.2:=fun l r hr=>by simp [List.getD_eq_getElem?_getD,hr]
 have hcold:∀ (l:Nat) (r:ResF),L[l]?=some r→isEff r.1.1.op=true→r.2≠ .cold:=fun l r hr he hc=>by
  obtain ⟨G,_,_,h2,h3,h4⟩:=ho l r hr
  have:=((zgH h2 h3).1 (h4 ▸ hc)).1
  rw [he] at this;cases this
 have done:∀ (listed:Array Bool) (E:Env) (a:Act) (w:World),(∀i,i<ops.size→listed.getD i false=true)→Sat cx E (selF L (fun i=>listed.getD i false) s0) a w→Evo cx.fl E0 s0.h w0 E (selF L (fun i=>listed.getD i false) s0).h w→
   (Exit.normal=Exit.normal∧Reach cx E0 s0.h w0 K a w):=by
  intro listed E a w hall hs he
  have hSS:∀ (i:Nat) (r:ResF),L[i]?=some r→listed.getD i false=decide (i<L.length):=fun i r hr=>by
   have hi:i<L.length:=(List.getElem?_eq_some_iff.1 hr).1
   rw [hall i (by omega),decide_eq_true hi]
  have hh:(selF L (fun i=>listed.getD i false) s0).h=(lexF L L.length s0).h:=zio L _ _ _ _ rfl (fun i r hr _=>hSS i r hr)
  refine ⟨rfl,E,lexF L L.length s0,hK,hs.of_lk (fun k=>zg1 (Q:=fun _=>True) L _ _ _ _ (fun _ _=>rfl) (fun i r hr _=>hSS i r hr) k trivial) hh ?_,hh ▸ he⟩
  unfold lexF
  rw [zj6,zj6]
 intro fuel
 induction fuel with
 | zero=>
  intro listed E a w hsz hc hcl hs he
  have hall:∀i,i<ops.size→listed.getD i false=true:=fun i hi=>by
   have h0:=List.countP_eq_zero.1 hc (listed[i]'(by omega)) (by simp)
   rw [Array.getD_eq_getD_getElem?,Array.getElem?_eq_getElem (by omega)]
   simpa using h0
  refine ⟨?_,done listed E a w hall hs he⟩
  cases hr:Region.ready .any ops listed with
  |nil=>rfl
  |cons i l=>
   have hi:i∈Region.ready .any ops listed:=by rw [hr];simp
   obtain ⟨h1,o,h2,_⟩:=mem_ready.1 hi
   have hlt:i<ops.size:=(Array.getElem?_eq_some_iff.1 h2).1
   have h3:=hall i hlt
   rw [Array.getD_eq_getD_getElem?,Array.getElem?_eq_getElem (by omega)] at h1 h3
   simp only [Option.getD_some] at h1 h3
   rw [h1] at h3;cases h3
 | succ fuel ih=>
  intro listed E a w hsz hc hcl hs he
  refine ⟨fun hr=>done listed E a w (zlx hd hsz hr) hs he,fun i hi=>?_⟩
  obtain ⟨hun,o,hoi,hdep⟩:=mem_ready.1 hi
  have hlt:i<ops.size:=(Array.getElem?_eq_some_iff.1 hoi).1
  have hun':listed[i]?=some false:=by
   rw [Array.getD_eq_getD_getElem?,Array.getElem?_eq_getElem (by omega)] at hun
   rw [Array.getElem?_eq_getElem (by omega)]
   simpa using hun
  have hSi:listed.getD i false=false:=by rw [Array.getD_eq_getD_getElem?,hun'];rfl
  obtain ⟨r,hr⟩:∃r,L[i]?=some r:=⟨_,List.getElem?_eq_getElem (by omega)⟩
  have hro:r.1.1=o:=Option.some.inj ((hget i r hr).symm.trans hoi)
  obtain ⟨G,hG,hdst,hfop,hfh,hft⟩:=ho i r hr
  rw [hro] at hG hdst hfop hfh hft
  have hdep':∀o',ops[i]?=some o'→∀e∈o'.after.toList,Region.binds .any e=true→listed.getD e.on false=true:=fun o' ho' e he' hb=>by
   rw [hoi] at ho';cases ho'
   exact hdep e (by simpa using he') hb
  have before:∀ (l:Nat) (r':ResF),L[l]?=some r'→l<i→confF ops r'.2 r.2 r'.1.1 o=true→listed.getD l false=true:=fun l r' hr' hl hcf=>
   zcC (S:=fun i=>listed.getD i false) hcl _ i l (zm1 hd hl (hget l r' hr') hoi (by rw [hfoot l r' hr',hfoot i r hr];exact hcf)) hdep'
  have behind:∀ (l:Nat) (r':ResF),L[l]?=some r'→i<l→confF ops r.2 r'.2 o r'.1.1=true→listed.getD l false=false:=fun l r' hr' hl hcf=>by
   cases hSl:listed.getD l false with
   |false=>rfl
   |true=>
    have:=zcC (S:=fun i=>listed.getD i false) hcl _ l i (zm1 hd hl hoi (hget l r' hr') (by rw [hfoot l r' hr',hfoot i r hr];exact hcf)) (fun o' ho'=>hcl l o' ho' hSl)
    rw [hSi] at this;cases this
  have agree:∀ (l:Nat) (r':ResF),L[l]?=some r'→(l<i→confF ops r'.2 r.2 r'.1.1 o=true)→(i<l→confF ops r.2 r'.2 o r'.1.1=true)→listed.getD l false=decide (l<i):=fun l r' hr' h1 h2=>by
   rcases Nat.lt_trichotomy l i with h|h|h
   ·rw [before l r' hr' h (h1 h),decide_eq_true h]
   ·subst h;rw [hSi];simp
   ·rw [behind l r' hr' h (h2 h),decide_eq_false (by omega)]
  have hslots:∀k,k∈zeb ops o→lk (selF L (fun i=>listed.getD i false) s0).t k=lk (lexF L i s0).t k:=
   zg1 (Q:=fun k=>k∈zeb ops o) L _ _ _ _ (fun _ _=>rfl) (fun l r' hr' ⟨d,hd1,hd2⟩=>agree l r' hr'
    (fun _=>by unfold confF;rw [hd1];simp [hd2])
    (fun _=>by unfold confF;rw [hd1];simp [hd2]))
  have hev:=zmZ (s:=lexF L i s0) (s':=selF L (fun i=>listed.getD i false) s0) (l:=zaE o.op) (fun k hk=>(hslots k (List.mem_append_left _ hk)).symm)
  have hgd:zaH (selF L (fun i=>listed.getD i false) s0) ops o.guard=some G:=by
   rw [← hG]
   exact zg0 (fun k hk=>hslots k (List.mem_append_right _ hk))
  have hev2:∀k:AHeap,∀x∈zaE o.op,({ lexF L i s0 with h:=k } :AS).ev x=(selF L (fun i=>listed.getD i false) s0).ev x∧known { lexF L i s0 with h:=k } x=known (selF L (fun i=>listed.getD i false) s0) x:=fun k x hx=>by
   have h1:=hev x hx
   have e1:AS.ev { lexF L i s0 with h:=k } x=(lexF L i s0).ev x:=by cases x<;>rfl
   have e2:known { lexF L i s0 with h:=k } x=known (lexF L i s0) x:=by cases x<;>rfl
   rw [e1,e2]
   exact h1
  obtain ⟨ff1,ff2⟩:=zgH hfop hfh
  have hmeetW:∀f:Foot,f≠ .cold→f.meets .whole=true∧Foot.whole.meets f=true:=fun f hf=>by cases f<;>first|exact absurd rfl hf|exact ⟨rfl,rfl⟩
  have hmeetS:∀f g:Foot,f.meets g=g.meets f:=fun f g=>by
   cases f<;>cases g<;>simp [Foot.meets,Bool.beq_comm]
  obtain ⟨hres,hfS,hheap'⟩:∃hres:AHeap,(∀R:Bool→AV→AHeap→Prop,R r.1.2.1 r.1.2.2.1 hres→fop cx tab (selF L (fun i=>listed.getD i false) s0) G o R)∧
    hres=(selF L (fun k=>(listed.setIfInBounds i true).getD k false) s0).h:=by
   have hS':∀k,(listed.setIfInBounds i true).getD k false=if k=i then true else listed.getD k false:=fun k=>zgF listed i k (by omega)
   have hquiet:isEff o.op=false→(selF L (fun i=>listed.getD i false) s0).h=(selF L (fun k=>(listed.setIfInBounds i true).getD k false) s0).h:=fun hq=>
    zio L _ _ _ _ rfl (fun l r' hr' hef'=>by
     rw [hS',if_neg]
     intro e
     subst e
     rw [hr] at hr';cases hr'
     rw [hro,hq] at hef'
     cases hef')
   cases hf:r.2 with
   |cold=>
    obtain ⟨hq,hc1⟩:=ff1 (hft ▸ hf)
    exact ⟨_,fun R hR=>fop_e (s:= { lexF L i s0 with h:=(selF L (fun i=>listed.getD i false) s0).h }) (hev2 _) rfl (hc1 _ R hR),hquiet hq⟩
   | on k=>
    have hagk:Go.Aw.hget (selF L (fun i=>listed.getD i false) s0).h k=Go.Aw.hget (lexF L i s0).h k:=
     zj1 k L _ _ _ _ rfl (fun l r' hr' hef hm=>agree l r' hr' (fun _=>by unfold confF;rw [hf];simp [hef,hm]) (fun _=>by unfold confF;rw [hf,hmeetS];simp [hef,hm])) hcold
    obtain ⟨g1,g2⟩:=ff2 k (hft ▸ hf) _ hagk
    cases heo:isEff o.op with
    |false=>exact ⟨_,fun R hR=>fop_e (s:= { lexF L i s0 with h:=(selF L (fun i=>listed.getD i false) s0).h }) (hev2 _) rfl (g1 heo R hR),hquiet heo⟩
    | true=>
     obtain ⟨ob,q1,q2,q3⟩:=g2 heo
     refine ⟨_,fun R hR=>fop_e (s:= { lexF L i s0 with h:=(selF L (fun i=>listed.getD i false) s0).h }) (hev2 _) rfl (q3 R hR),?_⟩
     have:=zpo k ob L i r (fun i=>listed.getD i false) s0 hr hSi (by rw [hro];exact heo) hf q1 (fun l r' hr' hl hef hsl=>by
      have hnm:¬(r.2.meets r'.2=true):=fun hm=>by
       have:=behind l r' hr' hl (by unfold confF;simp [hef,hm])
       rw [hsl] at this;cases this
      rw [hf] at hnm
      cases hx:r'.2 with
      |cold=>exact absurd hx (hcold l r' hr' hef)
      |on j=>refine ⟨j,.inl rfl,?_⟩;rintro rfl;exact hnm (by rw [hx];simp [Foot.meets])
      |new j=>refine ⟨j,.inr rfl,?_⟩;rintro rfl;exact hnm (by rw [hx];simp [Foot.meets])
      |whole=>exact absurd (by rw [hx];rfl) hnm)
     rw [← this]
     congr 1
     congr 1
     funext l
     exact (hS' l).symm
   | new k=>
    obtain ⟨heo,ob,q1,q2⟩:=zpp hfop (hft ▸ hf)
    have hkeys:(selF L (fun i=>listed.getD i false) s0).h.map (·.1)=(lexF L i s0).h.map (·.1):=
     zj4 L _ _ _ _ rfl (fun l r' hr' hef hno=>by
      have hm:r'.2.meets r.2=true:=by
       rw [hf]
       cases hx:r'.2 with
       |cold=>exact absurd hx (hcold l r' hr' hef)
       |on j=>exact absurd hx (hno j)
       |new j=>rfl
       |whole=>rfl
      exact agree l r' hr' (fun _=>by unfold confF;simp [hef,hm]) (fun _=>by unfold confF;rw [hmeetS];simp [hef,hm]))
    have hk0:fresh cx.fl (lexF L i s0).h=k:=by
     have hx:=hft.symm.trans hf
     cases hop:o.op<;>rw [hop] at hx heo<;>simp only [foot,isEff] at hx heo<;>first|exact Foot.new.inj hx|(cases hx;done)|(cases heo;done)|(split at hx<;>first|(cases hx;done)|(split at hx<;>cases hx))
    have hfr:fresh cx.fl (selF L (fun i=>listed.getD i false) s0).h=k:=(znK hkeys).trans hk0
    refine ⟨_,fun R hR=>fop_e (s:= { lexF L i s0 with h:=(selF L (fun i=>listed.getD i false) s0).h }) (hev2 _) rfl (q2 _ hfr R hR),?_⟩
    have:=zg3 k ob L i r (fun i=>listed.getD i false) s0 hr hSi (by rw [hro];exact heo) hf (by rw [q1];simp [Go.Aw.hget]) (fun l r' hr' hl hef hsl=>by
     have hnm:¬(r.2.meets r'.2=true):=fun hm=>by
      have:=behind l r' hr' hl (by unfold confF;simp [hef,hm])
      rw [hsl] at this;cases this
     rw [hf] at hnm
     cases hx:r'.2 with
     |cold=>exact absurd hx (hcold l r' hr' hef)
     |on j=>refine ⟨j,rfl,?_⟩;rintro rfl;exact hnm (by rw [hx];simp [Foot.meets])
     |new j=>exact absurd (by rw [hx];rfl) hnm
     |whole=>exact absurd (by rw [hx];rfl) hnm) (fun _ _ _ _ _ _=>trivial)
    rw [← this]
    congr 1
    congr 1
    funext l
    exact (hS' l).symm
   | whole=>
    have hhw:(selF L (fun i=>listed.getD i false) s0).h=(lexF L i s0).h∨isEff o.op=false:= .inl (zio L _ _ _ _ rfl (fun l r' hr' hef=>agree l r' hr' (fun _=>by unfold confF;rw [hf];simp [hef,(hmeetW _ (hcold l r' hr' hef)).1]) (fun _=>by unfold confF;rw [hf];simp [hef,(hmeetW _ (hcold l r' hr' hef)).2])))
    have hhw:(selF L (fun i=>listed.getD i false) s0).h=(lexF L i s0).h:=zio L _ _ _ _ rfl (fun l r' hr' hef=>agree l r' hr' (fun _=>by unfold confF;rw [hf];simp [hef,(hmeetW _ (hcold l r' hr' hef)).1]) (fun _=>by unfold confF;rw [hf];simp [hef,(hmeetW _ (hcold l r' hr' hef)).2]))
    refine ⟨r.1.2.2.2,fun R hR=>fop_e (fun x hx=>hev x hx) hhw.symm (hfop R hR),?_⟩
    cases heo:isEff o.op with
    |false=>rw [hfh heo,← hhw];exact hquiet heo
    | true=>
     have e1:(selF L (fun k=>(listed.setIfInBounds i true).getD k false) s0).h=(lexF L (i+1) s0).h:=
      zio L _ _ _ _ rfl (fun l r' hr' hef'=>by
       rw [hS']
       rcases Nat.lt_trichotomy l i with h|h|h
       ·rw [if_neg (by omega),before l r' hr' h (by unfold confF;rw [hf];simp [hef',(hmeetW _ (hcold l r' hr' hef')).1]),decide_eq_true (by omega)]
       ·subst h;rw [if_pos rfl];simp
       ·rw [if_neg (by omega),behind l r' hr' h (by unfold confF;rw [hf];simp [hef',(hmeetW _ (hcold l r' hr' hef')).2]),decide_eq_false (by omega)])
     rw [e1,zg4 L i s0 r hr,zbX]
     unfold effH
     rw [hro,if_pos heo,hf]
  have hw:=zfN ht (Q:=fun _ _ _=>False) hs hgd (zmY (K:=fun t=>t=({ selF L (fun i=>listed.getD i false) s0 with h:=hres } :AS).put o.dst r.1.2.1 r.1.2.2.1) hdst (hfS _ rfl))
  have next:∀a1 w1,Reach cx E (selF L (fun i=>listed.getD i false) s0).h w (fun t=>t=({ selF L (fun i=>listed.getD i false) s0 with h:=hres } :AS).put o.dst r.1.2.1 r.1.2.2.1) a1 w1→
    wpAnyIn cx.F 0 cx.P .any ops (fun e a' w'=>e= .normal∧Reach cx E0 s0.h w0 K a' w') fuel (listed.setIfInBounds i true) a1 w1:=by
   rintro a1 w1 ⟨E1,s1,rfl,hs1,he1⟩
   have hS':∀k,(listed.setIfInBounds i true).getD k false=if k=i then true else listed.getD k false:=fun k=>zgF listed i k (by omega)
   have hputh:(({ selF L (fun i=>listed.getD i false) s0 with h:=hres } :AS).put o.dst r.1.2.1 r.1.2.2.1).h=hres:=by unfold AS.put;cases o.dst<;>rfl
   have hputg:(({ selF L (fun i=>listed.getD i false) s0 with h:=hres } :AS).put o.dst r.1.2.1 r.1.2.2.1).g=(selF L (fun i=>listed.getD i false) s0).g:=by unfold AS.put;cases o.dst<;>rfl
   have agree':∀ (l:Nat) (r':ResF),L[l]?=some r'→(l<i→confF ops r'.2 r.2 r'.1.1 o=true)→(i<l→confF ops r.2 r'.2 o r'.1.1=true)→(listed.setIfInBounds i true).getD l false=decide (l<i+1):=fun l r' hr' h1 h2=>by
    rw [hS']
    rcases Nat.lt_trichotomy l i with h|h|h
    ·rw [if_neg (by omega),before l r' hr' h (h1 h),decide_eq_true (by omega)]
    ·subst h;rw [if_pos rfl];simp
    ·rw [if_neg (by omega),behind l r' hr' h (h2 h),decide_eq_false (by omega)]
   have hlk':∀k,lk (({ selF L (fun i=>listed.getD i false) s0 with h:=hres } :AS).put o.dst r.1.2.1 r.1.2.2.1).t k=lk (selF L (fun k=>(listed.setIfInBounds i true).getD k false) s0).t k:=by
    intro k
    rw [zj0]
    split
    ·rename_i hk
     have e1:lk (selF L (fun k=>(listed.setIfInBounds i true).getD k false) s0).t k=lk (lexF L (i+1) s0).t k:=
      zg1 (Q:=fun j=>j=k) L _ _ _ _ (fun _ _=>rfl) (fun l r' hr' ⟨d,hd1,hd2⟩=>agree' l r' hr'
       (fun _=>by unfold confF;rw [hd1,hk,hd2];simp)
       (fun _=>by unfold confF;rw [hd1,hk,hd2];simp)) k rfl
     rw [e1,zg4 L i s0 r hr,zi1,hro,if_pos hk]
    ·rename_i hk
     refine zg1 (Q:=fun j=>j=k) L _ _ _ _ (fun _ _=>rfl) (fun l r' hr' ⟨d,hd1,hd2⟩=>?_) k rfl
     rw [hS',if_neg]
     intro e
     subst e
     rw [hr] at hr';cases hr'
     rw [hro,hd2] at hd1
     exact hk hd1
   refine ih (listed.setIfInBounds i true) E1 a1 w1 (by simpa using hsz) (zec listed i fuel hun' hc) ?_ (hs1.of_lk hlk' (hputh.trans hheap') (by rw [hputg,zj6,zj6])) ?_
   ·intro l o' ho' hSl e he' hb
    rw [hS'] at hSl ⊢
    split
    ·rfl
    ·split at hSl
     ·rename_i hli
      subst hli
      exact hdep' o' ho' e he' hb
     ·exact hcl l o' ho' hSl e he' hb
   ·rw [← hheap',← hputh]
    exact he.trans he1
  unfold wpOpIn
  rw [hoi]
  dsimp only
  split at hw
  ·rename_i hwt
   rw [if_pos hwt]
   exact zaU hw next
  ·rename_i hwt
   rw [if_neg hwt]
   exact ⟨hw.1,next _ _ hw.2⟩
theorem zbR {id:Nat} {Q:Exit→AS→Prop} {s:AS} (tab:Tab) (ht:TabOk cx.P tab) (hm:cx.P.follows .mixedOrders=true) (h:fopsF cx tab ops ops.toList [] (Q .normal) s):AW cx (.region id ops true) Q s:=by
 intro E a w hs
 obtain ⟨L,hL,hd,hK,ho⟩:=zir ops.toList [] h
 have hs':=hs.drawn
 have hev:Evo cx.fl E s.h w E s.h { w with drawn:=w.drawn+1 } :=⟨rfl,rfl,rfl,Nat.le_refl _,fun _ _ _ _=>rfl,fun _ h=> .inl h,fun _ h=>h,fun _ h=> .inl h,rfl,fun i _ h=>⟨h,GoesOn.refl E _ i⟩⟩
 have h0:∀i,(Array.replicate ops.size false).getD i false=false:=fun i=>by
  rw [Array.getD_eq_getD_getElem?,Array.getElem?_replicate]
  split<;>rfl
 have hsel:selF L (fun i=>(Array.replicate ops.size false).getD i false) s=s:=by
  have:(fun i=>(Array.replicate ops.size false).getD i false)=fun i=>decide (i<0):=by
   funext i;rw [h0];simp
  rw [this]
  exact zed L s
 refine wpIn_mono (wpIn_region_any hm (zpr ht (by simpa using hd) hL ho hK ops.size (Array.replicate ops.size false) E a _ (by simp) (by rw [Array.toList_replicate,List.countP_replicate];rfl) (fun i o _ hi=>by rw [h0] at hi;cases hi) (by rw [hsel];exact hs') (by rw [hsel];exact hev))) ?_
 rintro e a' w' ⟨rfl,hr⟩
 exact hr
theorem zbz {id:Nat} {y:Code} {Q:Exit→AS→Prop} {s:AS} (tab:Tab) (ht:TabOk cx.P tab) (hm:cx.P.follows .mixedOrders=true) (h:∀K,(∀s',AW cx y Q s'→K s')→fopsF cx tab ops ops.toList [] K s):AW cx (.seq (.region id ops true) y) Q s:=
 zj fun K hK=>zbR tab ht hm (h K hK)
end
attribute [go_sem] fopsF foot footA footL List.reverse_cons List.reverse_nil
end Go.Aw
