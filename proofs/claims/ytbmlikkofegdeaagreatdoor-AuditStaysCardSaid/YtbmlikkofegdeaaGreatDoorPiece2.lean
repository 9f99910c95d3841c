/-
  Parts of the proof: AwLe, AwTy, AwVal, AwMem (short names; the readable texts lie in the repo, under wip).
-/
import Derived.Test.YtbmlikkofegdeaaGreatDoorPiece1
import GoSem.Dispatch
import Derived.Laws.StructEq
import Derived.Laws.Cells
set_option maxRecDepth 100000
set_option maxHeartbeats 2000000
set_option linter.unusedSimpArgs false
set_option linter.unusedVariables false
namespace Go.Aw
open Go
section
variable {W : World} {E : Env} {h : AHeap}
mutual
theorem Rep.le:∀ (a b:AV) (v:Value),a.le b->Rep W E h a v->Rep W E h b v
 |a,.any,v,_,_=>by simp only [Rep]
 | .d x,.d y,v,hl,hr=>by simp only [AV.le] at hl;subst hl;exact hr
 | .nils _,.d y,v,hl,hr=>by cases y<;>simp only [AV.le] at hl;subst hl;simp only [Rep] at hr ⊢;simp only [RepD];exact .inl ⟨by simp,none,0,hr⟩
 | .agg xs,.agg ys,v,hl,hr=>by simp only [AV.le] at hl;simp only [Rep] at hr ⊢;obtain ⟨vs,h1,h2⟩:=hr;exact ⟨vs,h1,Reps.le xs ys _ hl h2⟩
 | .tup xs,.tup ys,v,hl,hr=>by simp only [AV.le] at hl;simp only [Rep] at hr ⊢;obtain ⟨vs,h1,h2⟩:=hr;exact ⟨vs,h1,Reps.le xs ys _ hl h2⟩
 | .nils _,.nils _,v,_,hr=>by simpa only [Rep] using hr
 | .dp xs,.dp ys,v,hl,hr=>by
  simp only [AV.le] at hl;simp only [Rep] at hr ⊢;obtain ⟨a,c,T,fz,h1,h2,h3,h4,h5⟩:=hr;have h6:=Reps.le xs ys _ hl h5
  have:ys.length=xs.length:=by have e1:=Reps.length h5;have e2:=Reps.length h6;omega
  exact ⟨a,c,T,fz,h1,h2,h3,h4,by rw [this];exact h6⟩
 | .vp i o,.vp j p,v,hl,hr=>by simp only [AV.le] at hl;obtain ⟨rfl,rfl⟩:=hl;exact hr
 | .ap ..,.ap ..,v,hl,hr=>by simp only [AV.le] at hl;obtain ⟨rfl,rfl,rfl,rfl,rfl⟩:=hl;exact hr
 | .osl ..,.osl ..,v,hl,hr=>by simp only [AV.le] at hl;obtain ⟨rfl,rfl,rfl,rfl,rfl⟩:=hl;exact hr
 | .vsl ..,.vsl ..,v,hl,hr=>by simp only [AV.le] at hl;obtain ⟨rfl,rfl,rfl,rfl⟩:=hl;exact hr
 | .asl ..,.asl ..,v,hl,hr=>by simp only [AV.le] at hl;obtain ⟨rfl,rfl⟩:=hl;exact hr
 | .fn f xs ys,.fn f' xs' ys',v,hl,hr=>by simp only [AV.le] at hl;obtain ⟨rfl,h1,h2⟩:=hl;simp only [Rep] at hr ⊢;obtain ⟨a,b,e,h3,h4⟩:=hr;exact ⟨a,b,e,Reps.le _ _ _ h1 h3,Reps.le _ _ _ h2 h4⟩
 | .nilfn,.nilfn,v,_,hr=>hr
 | .nilmap,.nilmap,v,_,hr=>hr
 | .raw _,.raw _,v,hl,hr=>by simp only [AV.le] at hl;subst hl;exact hr
 | .tp ..,.tp ..,v,hl,hr=>by simp only [AV.le] at hl;obtain ⟨rfl,rfl⟩:=hl;exact hr
 | .bsl ..,.bsl ..,v,hl,hr=>by simp only [AV.le] at hl;obtain ⟨rfl,rfl⟩:=hl;exact hr
 | .map i,.map j,v,hl,hr=>by simp only [AV.le] at hl;subst hl;exact hr
 | .itr i,.itr j,v,hl,hr=>by simp only [AV.le] at hl;subst hl;exact hr
 | .iface t x,.iface t' y,v,hl,hr=>by simp only [AV.le] at hl;obtain ⟨rfl,h1⟩:=hl;simp only [Rep] at hr ⊢;obtain ⟨z,e,h3⟩:=hr;exact ⟨z,e,Rep.le x y _ h1 h3⟩
theorem Reps.le:∀ (aZ bs:List AV) (vs:List Value),AV.leL aZ bs->Reps W E h aZ vs->Reps W E h bs vs
 | [],bs,vs,hl,hr=>by simp only [AV.leL] at hl;subst hl;exact hr
 |a::aZ,[],vs,hl,_=>by simp [AV.leL] at hl
 |a::aZ,b::bs,vs,hl,hr=>by simp only [AV.leL] at hl;simp only [Reps] at hr ⊢;obtain ⟨v,r,h1,h2,h3⟩:=hr;exact ⟨v,r,h1,Rep.le a b v hl.1 h2,Reps.le aZ bs r hl.2 h3⟩
end
end
def leT (t:List (Nat×(Bool×AV))):List (Nat×(Bool×AV))->Prop
 | []=>True
 |(k,(g',v'))::r=>(match lk t k with|some (g,v)=>g'=g/\(g'=true->v.le v')|none=>False)/\leT t r
def leH (h:AHeap):AHeap->Prop
 | []=>True
 |(i,o')::r=>(match hget h i with|some o=>o.le o'|none=>False)/\leH h r
def idsT:List (Nat×(Bool×AV))->List Nat
 | []=> []
 |(_,(_,v))::r=>v.ids++idsT r
def idsH:AHeap->List Nat
 | []=> []
 |(_,o)::r=>o.ids++idsH r
def inH (h:AHeap):List Nat->Prop
 | []=>True
 |i::r=>(hget h i).isSome=true/\inH h r
def AS.le (s s':AS):Prop:=leT s.t s'.t/\leH s.h s'.h/\inH s'.h (idsT s'.t)/\inH s'.h (idsH s'.h)/\s.g=s'.g
theorem zgZ {h:AHeap} :∀ {l:List Nat},inH h l->∀i∈l,(hget h i).isSome=true
 | [],_,i,hm=>by simp at hm
 |j::r,hl,i,hm=>by
  simp only [inH] at hl;rcases List.mem_cons.1 hm with rfl|hm
  ·exact hl.1
  ·exact zgZ hl.2 i hm
theorem zv6 {t:List (Nat×(Bool×AV))} :∀ {t':List (Nat×(Bool×AV))},leT t t'->∀ {k:Nat} {g':Bool} {v':AV},lk t' k=some (g',v')->
    ∃v,lk t k=some (g',v)/\(g'=true->v.le v')
  | [],_,k,g',v',hk=>by simp [lk] at hk
  | (j,(gj,vj))::r,hl,k,g',v',hk=>by
    simp only [leT] at hl;simp only [lk] at hk;split at hk
    · rename_i hj;subst hj
      simp only [Option.some.injEq,Prod.mk.injEq] at hk;obtain ⟨rfl,rfl⟩:=hk;have h1:=hl.1;split at h1
      · rename_i g v hg;exact ⟨v,by rw [hg,h1.1],h1.2⟩
      · exact h1.elim
    · exact zv6 hl.2 hk
theorem zry:∀ {t:List (Nat×(Bool×AV))} {k:Nat} {g:Bool} {v:AV},lk t k=some (g,v)->∀i∈v.ids,i∈idsT t
  | [],k,g,v,hk,_,_=>by simp [lk] at hk
  | (j,(gj,vj))::r,k,g,v,hk,i,hi=>by
    simp only [lk] at hk;simp only [idsT,List.mem_append];split at hk
    · simp only [Option.some.injEq,Prod.mk.injEq] at hk
      obtain ⟨_,rfl⟩:=hk;exact .inl hi
    · exact .inr (zry hk i hi)
theorem zdi {h:AHeap} :∀ {h':AHeap},leH h h'->∀ {i:Nat} {o':AObj},hget h' i=some o'->∃o,hget h i=some o/\o.le o'
  | [],_,i,o',hk=>by simp [hget] at hk
  | (j,oj)::r,hl,i,o',hk=>by
    simp only [leH] at hl;simp only [hget] at hk;split at hk
    · rename_i hj;subst hj
      cases hk;have h1:=hl.1;split at h1
      · rename_i o ho;exact ⟨o,ho,h1⟩
      · exact h1.elim
    · exact zdi hl.2 hk
theorem zgu:∀ {h:AHeap} {i:Nat} {o:AObj},hget h i=some o->∀j∈o.ids,j∈idsH h
  | [],i,o,hk,_,_=>by simp [hget] at hk
  | (j,oj)::r,i,o,hk,m,hm=>by
    simp only [hget] at hk;simp only [idsH,List.mem_append];split at hk
    · cases hk;exact .inl hm
    · exact .inr (zgu hk m hm)
theorem zg0:∀ {aZ bs:List AV},AV.leL aZ bs->aZ.length=bs.length
 | [],bs,hl=>by simp only [AV.leL] at hl;subst hl;rfl
 |a::aZ,[],hl=>by simp [AV.leL] at hl
 |a::aZ,b::bs,hl=>by simp only [AV.leL] at hl;simp [zg0 hl.2]
theorem zdK {E:Env} {h h':AHeap} (hl:leH h h') {i:Nat} (hi:(hget h' i).isSome=true):GoesOn E h E h' i:=by
 obtain ⟨o',ho'⟩:=Option.isSome_iff_exists.1 hi;obtain ⟨o,ho,hle⟩:=zdi hl ho';unfold GoesOn;rw [ho];cases o with
 |var cs=>
  cases o'<;>simp only [AObj.le] at hle;exact ⟨rfl,_,ho',(zg0 hle).symm⟩
 |tvar tt cs=>
  cases o'<;>simp only [AObj.le] at hle;obtain ⟨rfl,hle⟩:=hle;exact ⟨rfl,_,ho',(zg0 hle).symm⟩
 |arr k xs=>
  simp only [AObj.le] at hle;subst hle;exact ⟨xs,ho',Nat.le_refl _,λ_=>⟨rfl,rfl⟩⟩
 |buf tt xs=>
  simp only [AObj.le] at hle;subst hle;exact ⟨xs,ho',Nat.le_refl _,λ_=>⟨rfl,rfl⟩⟩
 |strit l p=>simp only [AObj.le] at hle;subst hle;exact ⟨rfl,p,ho'⟩
 |omap es=>simp only [AObj.le] at hle;subst hle;exact ⟨rfl,es,ho'⟩
theorem zie {E:Env} {h h':AHeap} (hl:leH h h') {b:Nat} (ho:Own E h' b):Own E h b:=by obtain ⟨i,hi,hb⟩:=ho;obtain ⟨o',ho'⟩:=Option.isSome_iff_exists.1 hi;obtain ⟨o,ho,_⟩:=zdi hl ho';exact ⟨i,by simp [ho],hb⟩
theorem xs_le {E:Env} {h h':AHeap} (hl:leH h h') {b:Nat} (ho:Xs E h' b):Xs E h b:=ho.imp (zie hl) id
theorem RepObj.le {W:World} {E:Env} {h h':AHeap} (hl:leH h h') {i:Nat} {o o':AObj} (hle:o.le o') (hids:∀j∈o'.ids,(hget h' j).isSome=true) (hr:RepObj W E h i o):RepObj W E h' i o':=by
 have hX:∀b,b<W.heap.size->Xs E h' b->Xs E h b:=λ_ _=>xs_le hl;have hK:∀b,b<W.heap.size->¬Xs E h b->W.heap[b]?=W.heap[b]?:=λ_ _ _=>rfl;cases o with
 |var cs=>
  cases o'<;>simp only [AObj.le] at hle;simp only [RepObj] at hr ⊢;obtain ⟨b,c,T,fz,h1,h2,h3,h4⟩:=hr;exact ⟨b,c,T,fz,h1,h2,Reps.step hX hK _ _ (λj hj=>zdK hl (hids j hj)) (Reps.le _ _ _ hle h3),h4⟩
 |tvar tt cs=>
  cases o'<;>simp only [AObj.le] at hle;obtain ⟨rfl,hle⟩:=hle;simp only [RepObj] at hr ⊢;obtain ⟨b,c,T,fz,h1,h2,h3,h4⟩:=hr;exact ⟨b,c,T,fz,h1,h2,Reps.step hX hK _ _ (λj hj=>zdK hl (hids j hj)) (Reps.le _ _ _ hle h3),h4⟩
 |arr k xs=>
  simp only [AObj.le] at hle;subst hle;simp only [RepObj] at hr ⊢;rcases hr with hr|⟨b,c,T,fz,h1,h2,h3,h4,h5,h6⟩
  ·exact .inl hr
  ·exact .inr ⟨b,c,T,fz,h1,h2,h3,h4,RepRows.step hX hK k xs _ h5,h6⟩
 |buf tt xs=>
  simp only [AObj.le] at hle;subst hle;simp only [RepObj] at hr ⊢;rcases hr with hr|⟨b,c,T,fz,h1,h2,h3,h4,h5,h6⟩
  ·exact .inl hr
  ·exact .inr ⟨b,c,T,fz,h1,h2,h3,h4,h5,h6⟩
 |strit l p=>simp only [AObj.le] at hle;subst hle;exact hr
 |omap es=>simp only [AObj.le] at hle;subst hle;exact hr
theorem SatH.le {E:Env} {h h':AHeap} {w:World} (hs:SatH E h w) (hl:leH h h') (hi:inH h' (idsH h')):SatH E h' w where
 heap:=λi o' ho'=>by obtain ⟨o,ho,hle⟩:=zdi hl ho';exact RepObj.le hl hle (λj hj=>zgZ hi j (zgu ho' j hj)) (hs.heap i o ho)
 inj:=λi j b h1 h2=>by obtain ⟨o1,e1⟩:=Option.isSome_iff_exists.1 h1;obtain ⟨o2,e2⟩:=Option.isSome_iff_exists.1 h2;obtain ⟨p1,f1,_⟩:=zdi hl e1;obtain ⟨p2,f2,_⟩:=zdi hl e2;exact hs.inj i j b (by simp [f1]) (by simp [f2])
 own:=λb hb=>hs.own b (zie hl hb)
 mlt:=hs.mlt
 nlt:=hs.nlt
theorem Sat.le {cx:Cx} {E:Env} {s s':AS} {a:Act} {w:World} (hs:Sat cx E s a w) (hl:s.le s'):Sat cx E s' a w:=by obtain ⟨hT,hH,hi1,hi2,hg⟩:=hl;refine ⟨λk g' v' hk=>?_,hs.nt,hs.hp.le hH hi2,hs.base,hs.marks,hg ▸ cx.stab _ _ _ _ _ w _ (λ_ _ _=>rfl) (λ_ hb=> .inl (hb.imp (zie hH) id)) (λb hb=>hb.elim (λh=>(hs.hp.own b (zie hH h)).1) hs.marks.lt) (Nat.le_refl _) rfl rfl rfl hs.ghost⟩;obtain ⟨v,hk',hle⟩:=zv6 hT hk;obtain ⟨x,hx,hr,hu⟩:=hs.slots k g' v hk';refine ⟨x,hx,λe=>?_,hu⟩;exact Rep.step (λ_ _=>xs_le hH) (λ_ _ _=>rfl) v' x (λj hj=>zdK hH (zgZ hi1 j (zry hk j hj))) (Rep.le v v' x (hle e) (hr e))
theorem Evo.le {fl:Nat} {E:Env} {h h':AHeap} (hl:leH h h') (w:World):Evo fl E h w E h' w:=
 ⟨rfl,rfl,rfl,Nat.le_refl _,λ_ _ _ _=>rfl,λ_ hb=> .inl (zie hl hb),λ_ hm=>hm,λ_ hm=> .inl hm,rfl,λi _ hi=>⟨by obtain ⟨o',ho'⟩:=Option.isSome_iff_exists.1 hi;obtain ⟨o,ho,_⟩:=zdi hl ho';simp [ho],zdK hl hi⟩⟩
section
variable {cx : Cx} {Q : Exit -> AS -> Prop} {s : AS}
theorem aw_le {c:Code} (s':AS) (hl:s.le s') (h:AW cx c Q s'):AW cx c Q s:=λE a w hs=>
 wpIn_mono (h E a w (hs.le hl)) (λ_ _ _ hr=>hr.trans (Evo.le hl.2.1 w))
theorem zif {F:Fence} {n:Nat} {P:Program} {c:Code} {Q:Exit->Act->World->Prop} {a:Act} {w:World} {α:Type} (I:α->Act->World->Prop) (μ:α->Nat) (x0:α) (h₀:I x0 a w)
  (round:∀x a w,I x a w->c.wpIn F n P (Exit.then (λa' w'=>∃y,I y a' w'/\μ y<μ x) Q) a w):(Code.loop c).wpIn F n P Q a w:=by
 intro b k cs hro hb hr
 have key:∀j x a w,μ x=j->I x a w->
   ∃e a' w',Q e a' w'/\ArrivesIn (Machine.fenced P F) P (lone (b.atR a (.code c:: .inLoop c::k)) cs w) b k cs e a' w':=by
  intro j;induction j using Nat.strongRecOn with
  | _ j ih=>
   intro x a w hn hI;obtain ⟨e,a₁,w₁,hq,harr⟩:=round x a w hI b (.inLoop c::k) cs hro hb hr;cases e with
   |normal=>
    obtain ⟨y,hI₁,hlt⟩:=hq;obtain ⟨e₂,a₂,w₂,hq₂,harr₂⟩:=ih (μ y) (hn ▸ hlt) y a₁ w₁ rfl hI₁;exact ⟨e₂,a₂,w₂,hq₂,.of_steps (StepsIn.trans harr (.one (fenced_calm hb hr rfl) stepR_inLoop)) harr₂⟩
   |exit id=>exact ⟨_,a₁,w₁,hq,.pass (x:= .inLoop c) rfl (λ_ _=> .inl (by simp)) harr⟩
   |goto l=>exact ⟨_,a₁,w₁,hq,.pass (x:= .inLoop c) rfl (λ_ _=> .inl (by simp)) harr⟩
   |ret=>exact ⟨_,a₁,w₁,hq,.pass (x:= .inLoop c) rfl (λ_ _=> .inl (by simp)) harr⟩
   |panic ch=>exact ⟨_,a₁,w₁,hq,.pass (x:= .inLoop c) rfl (λ_ _=> .inl (by simp)) harr⟩
   |outgrown=>exact ⟨_,a₁,w₁,hq,.pass (x:= .inLoop c) rfl (λ_ _=> .inl (by simp)) harr⟩
 obtain ⟨e,a',w',hq,harr⟩:=key _ x0 a w rfl h₀;exact ⟨e,a',w',hq,.of_steps (.one (fenced_calm hb hr rfl) stepR_loop) harr⟩
theorem zq {c:Code} {α:Type} (I:α->AS) (μ:α->Nat) (x0:α) (hl:s.le (I x0))
  (round:∀x,AW cx c (thenK (λs'=>∃y,s'.le (I y)/\μ y<μ x) Q) (I x)):AW cx (.loop c) Q s:=by
 refine aw_le (I x0) hl ?_;intro E a w hs;refine zif (λx a' w'=>∃E',Sat cx E' (I x) a' w'/\Evo cx.fl E (I x0).h w E' (I x).h w') μ x0 ⟨E,hs,Evo.refl _ _ _ _⟩ ?_;rintro x a1 w1 ⟨E1,hs1,he1⟩;refine wpIn_mono (round x E1 a1 w1 hs1) ?_;intro e a2 w2 hr;cases e with
 |normal=>
  obtain ⟨E2,s2,⟨y,hle,hlt⟩,hs2,he2⟩:=hr;exact ⟨y,⟨E2,hs2.le hle,(he1.trans he2).trans (Evo.le hle.2.1 w2)⟩,hlt⟩
 |_=>exact hr.trans he1
end
open Go
inductive TD where
 |int (k:IntKind)|bool|str|slice (e:Nat)|arr (n e:Nat)|struct (fs:List (Nat×Nat))|ptr (e:Nat)|func|iface|map (k e:Nat)|bst (fs:List (Nat×Nat))|other
 deriving DecidableEq
structure TI where
 td:TD
 size:Nat
 bytes:Nat
 deriving DecidableEq
def tdOf:TypeDesc->TD
 | .int k=> .int k
 | .bool=> .bool
 | .string=> .str
 | .slice e=> .slice e
 | .array n e=> .arr n e
 | .struct fs=>if fs.any (λf=>f.name== "_") then .bst (fs.toList.map λf=>(f.offset,f.type)) else .struct (fs.toList.map λf=>(f.offset,f.type))
 | .pointer e=> .ptr e
 | .func .. => .func
 | .interface _=> .iface
 | .map k e=> .map k e
 |_=> .other
def ty (P:Program) (t:TypeId):TI:=
 { td:=match P.underlying t with|some d=>tdOf d|none=> .other,size:=P.cellsOf t,bytes:=P.bytesOf t }
def TD.agg:TD->Bool
 | .struct _=>true
 | .arr .. =>true
 | .bst _=>true
 |_=>false
def zT (P:Program):Nat->TypeId->List AV
 |0,_=> [.any]
 |d+1,t=>
  match (ty P t).td with
  | .int k=> [.d (.int k 0)]
  | .bool=> [.d (.bool false)]
  | .str=> [.d (.str [])]
  | .slice e=> [.nils (ty P e).size]
  | .ptr _=> [.d .nilp]
  | .func=> [.nilfn]
  | .iface=> [.d .nilif]
  | .map .. => [.nilmap]
  | .struct fs=>fs.flatMap λf=>zT P d f.2
  | .bst fs=>fs.flatMap λf=>zT P d f.2
  | .arr n e=>(List.replicate n (zT P d e)).flatten
  | .other=> [.any]
def z6 (P:Program):Nat->TypeId->Bool
 |0,_=>false
 |d+1,t=>
  match (ty P t).td with
  | .struct fs=>fs.any λf=>decide ((ty P f.2).td= .ptr t)||z6 P d f.2
  | .arr _ e=>z6 P d e
  |_=>false
def AV.pt (b:Bool) (i o:Nat):AV:=if b then .tp i o else .vp i o
def AObj.vr (b:Bool) (t:TypeId) (cs:List AV):AObj:=if b then .tvar t cs else .var cs
@[go_sem] theorem pt_true (i o:Nat):AV.pt true i o= .tp i o:=rfl
@[go_sem] theorem pt_false (i o:Nat):AV.pt false i o= .vp i o:=rfl
@[go_sem] theorem vr_true (t:TypeId) (cs:List AV):AObj.vr true t cs= .tvar t cs:=rfl
@[go_sem] theorem vr_false (t:TypeId) (cs:List AV):AObj.vr false t cs= .var cs:=rfl
def gnd:AV->Value->Bool
 | .d (.int k n),.int k' n'=>k==k'&&n==n'
 | .d (.bool b),.bool b'=>b==b'
 | .d (.str l),.string s=>l==s.data.toList
 | .nils _,.slice none 0 0=>true
 | .d .nilp,.pointer none=>true
 | .nilfn,.nilFunc=>true
 | .d .nilif,.nilIface=>true
 | .nilmap,.map none=>true
 |_,_=>false
def gndL:List AV->List Value->Bool
 | [],[]=>true
 |a::aZ,v::vs=>gnd a v&&gndL aZ vs
 |_,_=>false
def zZ (P:Program) (t:TypeId):Bool:=
 match P.info? t with
 |some i=>match i.zero with
  |some z=>gndL (zT P 12 t) z.cells.toList&&((ty P t).td.agg==(match z with| .agg _=>true|_=>false))&&z.cells.size==i.size
  |none=>false
 |none=>false
section
variable {W : World} {E : Env} {h : AHeap}
theorem zrz {a:AV} {v:Value} (hg:gnd a v=true):Rep W E h a v:=by unfold gnd at hg;split at hg<;>simp_all [Rep,RepD];all_goals (obtain ⟨rfl,rfl⟩:=hg;rfl)
theorem zig:∀ {aZ:List AV} {vs:List Value},gndL aZ vs=true->Reps W E h aZ vs
 | [],[],_=>by simp [Reps]
 | [],_::_,hg=>by simp [gndL] at hg
 |_::_,[],hg=>by simp [gndL] at hg
 |a::aZ,v::vs,hg=>by simp only [gndL,Bool.and_eq_true] at hg;simp only [Reps];exact ⟨v,vs,rfl,zrz hg.1,zig hg.2⟩
end
section
variable {P : Program} {t : TypeId}
theorem zdL {x:TD} (h:(ty P t).td=x) (hx:x≠ .other):∃d,P.underlying t=some d/\tdOf d=x:=by
 unfold ty at h;cases hd:P.underlying t with
 |none=>simp [hd] at h;exact absurd h.symm hx
 |some d=>simp [hd] at h;exact ⟨d,rfl,h⟩
theorem zgh {k:IntKind} (h:(ty P t).td= .int k):P.underlying t=some (.int k):=by obtain ⟨d,hd,he⟩:=zdL h (by simp);cases d<;>simp only [tdOf] at he;all_goals first|(simp_all;done)|(split at he<;>cases he)|cases he
theorem zfF (h:(ty P t).td= .bool):P.underlying t=some .bool:=by obtain ⟨d,hd,he⟩:=zdL h (by simp);cases d<;>simp only [tdOf] at he;all_goals first|(simp_all;done)|(split at he<;>cases he)|cases he
theorem zcy (h:(ty P t).td= .str):P.underlying t=some .string:=by obtain ⟨d,hd,he⟩:=zdL h (by simp);cases d<;>simp only [tdOf] at he;all_goals first|(simp_all;done)|(split at he<;>cases he)|cases he
theorem zO {e:Nat} (h:(ty P t).td= .slice e):P.underlying t=some (.slice e):=by obtain ⟨d,hd,he⟩:=zdL h (by simp);cases d<;>simp only [tdOf] at he;all_goals first|(simp_all;done)|(split at he<;>cases he)|cases he
theorem zdM {n e:Nat} (h:(ty P t).td= .arr n e):P.underlying t=some (.array n e):=by obtain ⟨d,hd,he⟩:=zdL h (by simp);cases d<;>simp only [tdOf] at he;all_goals first|(simp_all;done)|(split at he<;>cases he)|cases he
theorem zrA {k e:Nat} (h:(ty P t).td= .map k e):P.underlying t=some (.map k e):=by obtain ⟨d,hd,he⟩:=zdL h (by simp);cases d<;>simp only [tdOf] at he;all_goals first|(simp_all;done)|(split at he<;>cases he)|cases he
theorem zes {fs:List (Nat×Nat)} (h:(ty P t).td= .struct fs):∃gs,P.underlying t=some (.struct gs)/\gs.toList.map (λf=>(f.offset,f.type))=fs/\∀f∈gs.toList,f.name≠ "_" :=by
 obtain ⟨d,hd,he⟩:=zdL h (by simp);cases d<;>simp only [tdOf] at he
 case struct gs=>
  split at he
  ·cases he
  ·rename_i hn;injection he with he;refine ⟨gs,hd,he,λf hf e=>hn ?_⟩;simp only [Array.any_eq_true',beq_iff_eq];exact ⟨f,by simpa using hf,e⟩
 all_goals cases he
theorem znq {d:TypeDesc} (h:P.underlying t=some d):∃i,P.info? t=some i/\i.size=(ty P t).size/\i.bytes=(ty P t).bytes:=by
 unfold Program.underlying at h;cases hi:P.info? t with
 |none=>simp [hi] at h
 |some i=>exact ⟨i,rfl,by simp [ty,Program.cellsOf,hi],by simp [ty,Program.bytesOf,hi]⟩
theorem run_underlying {d:TypeDesc} (h:P.underlying t=some d) (w:World):(underlying t).run P w= .ok d w:=by
 simp [underlying,h]
theorem zI {d:TypeDesc} (h:P.underlying t=some d) (w:World):(sizeOf t).run P w= .ok (ty P t).size w:=by obtain ⟨i,h1,h2,_⟩:=znq h;simp [sizeOf,typeInfo,h1,h2]
theorem td_of {d:TypeDesc} (h:P.underlying t=some d):(ty P t).td=tdOf d:=by simp [ty,h]
theorem zlV {d:TypeDesc} (h:P.underlying t=some d) (hne:(ty P t).td≠ .other) (w:World):(isAgg t).run P w= .ok (ty P t).td.agg w:=by
 simp only [isAgg,Sem.run_bind,run_underlying h,Result.andThen_ok];rw [td_of h] at hne ⊢;cases d<;>simp only [tdOf] at hne ⊢
 case struct gs=>
  split
  ·simp [TD.agg]
  ·simp [TD.agg]
 all_goals simp [TD.agg]
theorem zb9 (h:(ty P t).td≠ .other):∃d,P.underlying t=some d:=let ⟨d,hd,_⟩:=zdL rfl h;⟨d,hd⟩
theorem zgv {z:Value} {i:TypeInfo} (h:P.info? t=some i) (hz:i.zero=some z) (w:World):(zeroValue t).run P w= .ok z w:=by
 simp [zeroValue,typeInfo,h,hz]
theorem zih (h:zZ P t=true):∃i z,P.info? t=some i/\i.zero=some z/\gndL (zT P 12 t) z.cells.toList=true/\((ty P t).td.agg=(match z with| .agg _=>true|_=>false))/\z.cells.size=i.size/\i.size=(ty P t).size:=by
 unfold zZ at h;split at h
 ·rename_i i hi;split at h
  ·rename_i z hz;simp only [Bool.and_eq_true,beq_iff_eq] at h;exact ⟨i,z,hi,hz,h.1.1,h.1.2,h.2,by simp [ty,Program.cellsOf,hi]⟩
  ·cases h
 ·cases h
end
def cv:Value->AV
 | .int k n=> .d (.int k n)
 | .bool b=> .d (.bool b)
 | .string s=> .d (.str s.data.toList)
 | .slice none 0 0=> .nils 0
 | .pointer none=> .d .nilp
 | .nilFunc=> .nilfn
 | .map none=> .nilmap
 | .nilIface=> .d .nilif
 |_=> .any
def AS.ev (s:AS):Operand->Bool×AV
 | .tmp t=>(lk s.t t).getD (false,.any)
 | .const v=>(true,cv v)
 | .func f=>(true,.fn (.func f) [] [])
 | .global _=>(true,.any)
theorem zx2 {W:World} {E:Env} {h:AHeap} (v:Value):Rep W E h (cv v) v:=by unfold cv;split<;>simp [Rep,RepD]
theorem ev_ok {E:Env} {s:AS} {a:Act} {w:World} (hs:Slots w E s a) (x:Operand) (hg:(s.ev x).1=true):Rep w E s.h (s.ev x).2 (a.eval x):=by
 cases x with
 | tmp t=>
  simp only [AS.ev] at hg ⊢;cases hl:lk s.t t with
  |none=>simp [hl] at hg
  |some p=>
   obtain ⟨g,v⟩:=p;simp only [hl,Option.getD_some] at hg ⊢;obtain ⟨y,hy,hr,_⟩:=hs t g v hl;simp only [Act.eval];rw [show a.tmps.getD t undef=y by simp [hy]];exact hr hg
 |const v=>exact zx2 v
 |func f=>simp [AS.ev,Rep,Act.eval,Reps]
 |global g=>simp [AS.ev,Rep]
open Go
def ibits (op:BinOp) (k:IntKind) (x y:Int):Int:=
 let a:=BitVec.ofInt k.bits x
 let b:=BitVec.ofInt k.bits y
 k.wrap (match op with
  | .and=>(a&&& b).toNat
  | .or=>(a ||| b).toNat
  | .xor=>(a ^^^ b).toNat
  |_=>(a&&& ~~~b).toNat)
def ishl (k:IntKind) (x y:Int):Int:=k.wrap (x*2 ^ (min y.toNat k.bits))
def ishr (k:IntKind) (x y:Int):Int:=x.fdiv (2 ^ (min y.toNat k.bits))
def abinI (op:BinOp) (k:IntKind) (a b:Int):Prop×AV:=
 match op with
 | .add=>(True,.d (.int k (k.wrap (a+b))))
 | .sub=>(True,.d (.int k (k.wrap (a - b))))
 | .mul=>(True,.d (.int k (k.wrap (a*b))))
 | .quo=>(b≠0,.d (.int k (k.wrap (a.tdiv b))))
 | .rem=>(b≠0,.d (.int k (a.tmod b)))
 | .and=>(True,.d (.int k (ibits .and k a b)))
 | .or=>(True,.d (.int k (ibits .or k a b)))
 | .xor=>(True,.d (.int k (ibits .xor k a b)))
 | .andNot=>(True,.d (.int k (ibits .andNot k a b)))
 | .eql=>(True,.d (.bool (a==b)))
 | .neq=>(True,.d (.bool (a !=b)))
 | .lss=>(True,.d (.bool (decide (a<b))))
 | .leq=>(True,.d (.bool (decide (a<=b))))
 | .gtr=>(True,.d (.bool (decide (b<a))))
 | .geq=>(True,.d (.bool (decide (b<=a))))
 |_=>(False,.any)
def abinS (op:BinOp) (a b:List UInt8):Prop×AV:=
 match op with
 | .add=>(a.length+b.length<9223372036854775808,.d (.str (a++b)))
 | .eql=>(True,.d (.bool (a==b)))
 | .neq=>(True,.d (.bool (a !=b)))
 | .lss=>(True,.d (.bool (Op.bytesLess a b)))
 | .leq=>(True,.d (.bool (Op.bytesLess a b||a==b)))
 | .gtr=>(True,.d (.bool (!(Op.bytesLess a b||a==b))))
 | .geq=>(True,.d (.bool (!Op.bytesLess a b)))
 |_=>(False,.any)
def abin (P:Program) (op:BinOp) (t:TypeId) (x y:AV):Prop×AV:=
 match x,y with
 | .d (.int k a),.d (.int k' b)=>
  (match op with
  | .shl=>(0<=b,.d (.int k (ishl k a b)))
  | .shr=>(0<=b,.d (.int k (ishr k a b)))
  |_=>(k=k'/\(abinI op k a b).1,(abinI op k a b).2))
 | .d (.str a),.d (.str b)=>abinS op a b
 | .d (.bool a),.d (.bool b)=>
  (match op with
  | .eql=>((ty P t).td= .bool,.d (.bool (a==b)))
  | .neq=>((ty P t).td= .bool,.d (.bool (a !=b)))
  |_=>(False,.any))
 |_,_=>(False,.any)
def aun (op:UnOp) (x:AV):Prop×AV:=
 match op,x with
 | .not,.d (.bool b)=>(True,.d (.bool (!b)))
 | .neg,.d (.int k n)=>(True,.d (.int k (k.wrap (0 - n))))
 | .xor,.d (.int k n)=>(True,.d (.int k (ibits .xor k (if k.signed then -1 else k.max) n)))
 |_,_=>(False,.any)
section
variable {P : Program} {W : World} {E : Env} {h : AHeap}
theorem zo2 (l:List UInt8):(⟨l.toArray⟩:ByteArray).toList=l:=by
 rw [ByteArray.toList_eq]
theorem zue {op:BinOp} {k:IntKind} {a b:Int} (hv:(abinI op k a b).1) (w:World) (t:TypeId) (hs:op≠ .shl/\op≠ .shr):
  ∃v,(binOp op t (.int k a) (.int k b)).run P w= .ok v w/\Rep W E h (abinI op k a b).2 v:=by
 cases op<;>simp only [abinI] at hv ⊢ <;>
  first
  |exact hv.elim
  |exact absurd rfl hs.1
  |exact absurd rfl hs.2
  |(simp [binOp,Op.intArith,Op.intCmp,Rep,RepD];done)
  |(simp [binOp,Op.intDiv,Rep,RepD,hv];done)
  |(simp [binOp,Op.intBits,Rep,RepD,ibits];done)
theorem zuf {op:BinOp} {a b:List UInt8} (hv:(abinS op a b).1) (w:World) (t:TypeId):
  ∃v,(binOp op t (.string ⟨a.toArray⟩) (.string ⟨b.toArray⟩)).run P w= .ok v w/\Rep W E h (abinS op a b).2 v:=by
 have h1:=zo2 a;have h2:=zo2 b
 cases op<;>simp only [abinS] at hv ⊢ <;>
  first
  |exact hv.elim
  |(simp [binOp,Op.stringOp,Rep,RepD,h1,h2];done)
  |(simp [binOp,Op.stringOp,Rep,RepD,h1,h2,bne];done)
  |skip
 all_goals
  have:¬(((a.length:Int)+(b.length:Int))>IntKind.i64.max):=by
   have:IntKind.i64.max=9223372036854775807:=by decide
   omega
  simp only [binOp,Op.stringOp,Sem.run_ite];rw [if_neg (by simpa [ByteArray.size] using this)];refine ⟨_,rfl,?_⟩;simp only [Rep,RepD];congr 1
theorem zgb {t:TypeId} (h:P.underlying t=some .bool) (a b:Bool) (w:World):(Op.equal t (.bool a) (.bool b)).run P w= .ok (a==b) w:=by show (Op.equalIn (9999+1) t (.bool a) (.bool b)).run P w=_;rw [Op.equalIn];simp only [Sem.run_bind,run_underlying h,Result.andThen_ok,Sem.run_pure]
theorem zwy {op:BinOp} {t:TypeId} {x y:AV} {a b:Value} (hv:(abin P op t x y).1) (hx:Rep W E h x a) (hy:Rep W E h y b) (w:World):
  ∃v,(binOp op t a b).run P w= .ok v w/\Rep W E h (abin P op t x y).2 v:=by
 unfold abin at hv ⊢
 split at hv<;>rename_i hx0<;>try exact hv.elim
 ·-- integers
  rename_i k m k' n
  simp only [Rep,RepD] at hx hy
  subst hx hy
  split at hv
  ·simp [binOp,Op.shift,Rep,RepD,ishl,Int.not_lt.2 hv]
  ·simp [binOp,Op.shift,Rep,RepD,ishr,Int.not_lt.2 hv]
  ·rename_i h1 h2
   obtain ⟨rfl,hv⟩:=hv
   exact zue hv w t ⟨h1,h2⟩
 ·simp only [Rep,RepD] at hx hy
  subst hx hy
  exact zuf hv w t
 ·simp only [Rep,RepD] at hx hy
  subst hx hy
  split at hv
  ·simp [binOp,zgb (zfF hv),Rep,RepD]
  ·simp [binOp,zgb (zfF hv),Rep,RepD,bne]
  ·exact hv.elim
theorem zx3 {op:UnOp} {x:AV} {a:Value} (hv:(aun op x).1) (hx:Rep W E h x a) (w:World):
  ∃v,(Op.unary op a).run P w= .ok v w/\Rep W E h (aun op x).2 v:=by
 unfold aun at hv ⊢;split at hv
 ·simp only [Rep,RepD] at hx;subst hx;simp [Op.unary,Rep,RepD]
 ·simp only [Rep,RepD] at hx;subst hx;simp [Op.unary,Op.intArith,Rep,RepD]
 ·simp only [Rep,RepD] at hx;subst hx;simp [Op.unary,Op.intBits,Rep,RepD,ibits]
 ·exact hv.elim
def apart (P:Program) (t:TypeId) (cs:List AV) (off:Nat):AV:=
 if (ty P t).td.agg then .agg ((cs.drop off).take (ty P t).size) else cs.getD off .any
def psize (P:Program) (t:TypeId):Nat:=if (ty P t).td.agg then (ty P t).size else 1
theorem zcN {t:TypeId} {cs:List AV} {vs:Array Value} {off:Nat} (ht:(ty P t).td≠ .other) (hr:Reps W E h cs vs.toList) (hb:off+psize P t<=cs.length) (w:World):
  ∃v,(part t vs off).run P w= .ok v w/\Rep W E h (apart P t cs off) v:=by
 obtain ⟨d,hd⟩:=zb9 ht;have hl:=Reps.length hr;simp only [part,Sem.run_bind,zlV hd ht,Result.andThen_ok];unfold apart;unfold psize at hb;cases hag:(ty P t).td.agg
 ·simp only [hag,Bool.false_eq_true,if_false] at hb ⊢;have h1:cs[off]?=some (cs.getD off .any):=by rw [List.getD_eq_getElem?_getD,List.getElem?_eq_getElem (by omega)];rfl
  obtain ⟨v,hv,hrv⟩:=Reps.get hr h1;have:vs[off]?=some v:=by simpa using hv
  exact ⟨v,by simp [this],hrv⟩
 ·simp only [if_true,Sem.run_bind,zI hd,Result.andThen_ok,Sem.run_pure];refine ⟨_,rfl,?_⟩;simp only [Rep]
  exact ⟨_,rfl,by have:=(Reps.drop hr off).take (ty P t).size;simpa [Array.toList_extract,List.extract_eq_take_drop] using this⟩
def eqIdx (d:Nat) (e:TypeId) (n:Nat) (xs ys:Array Value):List Nat->Sem Bool
 | []=>pure true
 | i::is=>do
   let a <-part e xs (i*n)
   let b <-part e ys (i*n)
   let r <-Op.equalIn d e a b
   if (!r)=true then pure false else eqIdx d e n xs ys is
def aeq (P:Program):Nat→TypeId→AV→AV→Prop×Bool
  |0,_,_,_=>(False,false)
  | d +1,t,x,y=>
    match (ty P t).td,x,y with
    | .bool,.d (.bool a),.d (.bool b)=>(True,a==b)
    | .int _,.d (.int k a),.d (.int k' b)=>(k=k',a==b)
    | .str,.d (.str a),.d (.str b)=>(True,a==b)
    | .struct fs,.agg xs,.agg ys=>(P.stoodInHeld t=false∧(aeqF fs xs ys fun f=>aeq P d f).1,(aeqF fs xs ys fun f=>aeq P d f).2)
    | .arr n e,.agg xs,.agg ys=>let r:=aeqF ((List.range n).map fun i=>(i*(ty P e).size,e)) xs ys fun f=>aeq P d f
      (r.1∧(ty P e).td≠ .other,r.2)
    |_,_,_=>(False,false)
 where
  aeqF (fs:List (Nat×Nat)) (xs ys:List AV) (r:TypeId→AV→AV→Prop×Bool):Prop×Bool:=
    match fs with
    | []=>(True,true)
    | f::fs=>let a:=r f.2 (apart P f.2 xs f.1) (apart P f.2 ys f.1)
      let b:=aeqF fs xs ys r
      ((ty P f.2).td≠ .other∧f.1+psize P f.2≤xs.length∧f.1+psize P f.2≤ys.length∧a.1∧b.1,a.2&&b.2)
theorem zo3 (w:World):∀ (d D:Nat) (t:TypeId) (x y:AV) (a b:Value),d≤D→(aeq P d t x y).1→Rep W E h x a→Rep W E h y b→
  (Op.equalIn D t a b).run P w= .ok (aeq P d t x y).2 w
 |0,D,t,x,y,a,b,_,hv,_,_=>by simp [aeq] at hv
 |d+1,0,t,x,y,a,b,hd,hv,_,_=>by omega
 | d + 1,D+1,t,x,y,a,b,hd,hv,hx,hy=>by
  unfold aeq at hv ⊢
  split at hv
  ·rename_i ht;simp only [Rep,RepD] at hx hy;subst hx hy
   rw [Go.run_equalIn_bool' w D t _ _ (zfF ht)]
  ·rename_i ht;simp only [Rep,RepD] at hx hy;subst hx hy;subst hv
   rw [Go.run_equalIn_int w D t _ _ _ _ (zgh ht)]
  ·rename_i ht;simp only [Rep,RepD] at hx hy;subst hx hy
   rw [Go.run_equalIn_string w D t _ _ (zcy ht),zo2,zo2]
  ·rename_i fs xs ys ht
   simp only [Rep] at hx hy
   obtain ⟨us,rfl,hx⟩:=hx
   obtain ⟨vs,rfl,hy⟩:=hy
   obtain ⟨gs,hg,hfs,hn⟩:=zes ht
   have hfo:P.fieldsOf t=gs:=by simp [Program.fieldsOf,hg]
   rw [Go.run_equalIn_struct w D t us vs (by rw [hfo];exact hg) hv.1,hfo]
   have hv2:=hv.2
   clear hv hg hfo ht
   subst hfs
   generalize hgl:gs.toList=gl at hv2 hn ⊢
   clear hgl
   induction gl with
   |nil=>simp [aeq.aeqF,Op.eqFields]
   |cons f gl ih=>
    simp only [List.map_cons,aeq.aeqF] at hv2 ⊢
    obtain ⟨h1,h2,h3,h4,h5⟩:=hv2
    obtain ⟨u,hu,hru⟩:=zcN h1 hx h2 w
    obtain ⟨v,hv,hrv⟩:=zcN h1 hy h3 w
    have hrec:=zo3 w d D f.type _ _ u v (by omega) h4 hru hrv
    simp only [Op.eqFields,if_pos (hn f (by simp)),Sem.run_bind,hu,hv,hrec,Result.andThen_ok,Sem.run_ite,Sem.run_pure]
    rw [ih h5 (fun g hg=>hn g (List.mem_cons_of_mem _ hg))]
    cases (aeq P d f.type (apart P f.type xs f.offset) (apart P f.type ys f.offset)).2<;>simp
  ·rename_i n e xs ys ht
   simp only [Rep] at hx hy
   obtain ⟨us,rfl,hx⟩:=hx
   obtain ⟨vs,rfl,hy⟩:=hy
   have ht':=zdM ht
   obtain ⟨hv,he⟩:=hv
   obtain ⟨de,hde⟩:=zb9 he
   rw [Op.equalIn]
   simp only [Sem.run_bind,run_underlying ht',Result.andThen_ok,zI hde]
   have hgen:∀ (l:List Nat),(aeq.aeqF P (l.map fun i=>(i*(ty P e).size,e)) xs ys fun f=>aeq P d f).1→
     (eqIdx D e (ty P e).size us vs l).run P w= .ok (aeq.aeqF P (l.map fun i=>(i*(ty P e).size,e)) xs ys fun f=>aeq P d f).2 w:=by
    intro l
    induction l with
    |nil=>intro _;simp [aeq.aeqF,eqIdx]
    |cons i l ih=>
     intro hv
     simp only [List.map_cons,aeq.aeqF] at hv ⊢
     obtain ⟨h1,h2,h3,h4,h5⟩:=hv
     obtain ⟨u,hu,hru⟩:=zcN h1 hx h2 w
     obtain ⟨v,hv,hrv⟩:=zcN h1 hy h3 w
     have hrec:=zo3 w d D e _ _ u v (by omega) h4 hru hrv
     simp only [eqIdx,Sem.run_bind,hu,hv,hrec,Result.andThen_ok,Sem.run_ite,Sem.run_pure]
     rw [ih h5]
     cases (aeq P d e (apart P e xs (i*(ty P e).size)) (apart P e ys (i*(ty P e).size))).2<;>simp
   rw [← hgen (List.range n) hv]
   rw [Std.Legacy.Range.forIn_eq_forIn_range',List.range_eq_range',show List.range' [:n].start [:n].size [:n].step=List.range' 0 n by simp [Std.Legacy.Range.size]]
   generalize List.range' 0 n=l
   clear hgen hv ht'
   induction l generalizing w with
   |nil=>simp [eqIdx]
   | cons i l ih=>
    simp only [List.forIn_cons,eqIdx,Sem.run_bind]
    generalize (part e us (i*(ty P e).size)).run P w=r1
    cases r1 with
    | ok a w1=>
     simp only [Result.andThen_ok]
     generalize (part e vs (i*(ty P e).size)).run P w1=r2
     cases r2 with
     | ok b w2=>
      simp only [Result.andThen_ok]
      generalize (Op.equalIn D e a b).run P w2=r3
      cases r3 with
      | ok r w3=>
       cases r
       ·simp only [Result.andThen_ok,Bool.not_false,if_true,Sem.run_pure]
       ·simp only [Result.andThen_ok,Bool.not_true,Bool.false_eq_true,if_false,Sem.run_pure]
        exact ih w3
      |halt x w3=>simp [Result.andThen]
     |halt x w2=>simp [Result.andThen]
    |halt x w1=>simp [Result.andThen]
  ·exact hv.elim
end
open Go
theorem zac {W:World} {b:Nat} {c:Array Value} {T:TypeId} {fz:Nat×Nat} (h:W.heap[b]?=some (.cells c T fz)) (off:Nat):W.cell? ⟨b,off,none⟩=c[off]?:=by
 simp [World.cell?,h]
theorem zdN {W:World} {b:Nat} {c:Array Value} {T:TypeId} {fz:Nat×Nat} (h:W.heap[b]?=some (.cells c T fz)) (off:Nat):W.frozen? ⟨b,off,none⟩=(fz.1<=off&&off<fz.2):=by
 simp [World.frozen?,h]
theorem Addr.add_none (b off n:Nat):(⟨b,off,none⟩:Addr).add n=⟨b,off+n,none⟩:=by
 unfold Addr.add;split<;>simp_all
section
variable {P : Program} {W : World} {E : Env} {h : AHeap}
theorem getD_some {α:Type} {l:List α} {i:Nat} {d:α} (hi:i<l.length):l[i]?=some (l.getD i d):=by
 rw [List.getD_eq_getElem?_getD,List.getElem?_eq_getElem hi];rfl
theorem Reps.of_get:∀ {aZ:List AV} {vs:List Value},vs.length=aZ.length->(∀j,j<aZ.length->∃v,vs[j]?=some v/\Rep W E h (aZ.getD j .any) v)->Reps W E h aZ vs
 | [],vs,hl,_=>by simp at hl;subst hl;simp [Reps]
 |a::aZ,[],hl,_=>by simp at hl
 |a::aZ,v::vs,hl,hg=>by simp only [Reps];obtain ⟨u,hu,hr⟩:=hg 0 (by simp);simp at hu;subst hu;refine ⟨_,vs,rfl,by simpa using hr,Reps.of_get (by simpa using hl) (λj hj=>?_)⟩;obtain ⟨u,hu,hr⟩:=hg (j+1) (by simpa using hj);exact ⟨u,by simpa using hu,by simpa using hr⟩
def At (W:World) (E:Env) (h:AHeap) (b o:Nat) (cs:List AV) (off n:Nat):Prop:=
 ∃c T fz,W.heap[b]?=some (.cells c T fz)/\∀j,j<n->∃v,c[o+j]?=some v/\Rep W E h (cs.getD (off+j) .any) v
theorem zfG {b o:Nat} {c:Array Value} {T:TypeId} {fz:Nat×Nat} {cs:List AV} (hb:W.heap[b]?=some (.cells c T fz)) (hr:Reps W E h cs ((c.toList.drop o).take cs.length)) {off n:Nat} (hn:off+n<=cs.length):At W E h b (o+off) cs off n:=by refine ⟨c,T,fz,hb,λj hj=>?_⟩;obtain ⟨v,hv,hr⟩:=Reps.get hr (getD_some (d:= .any) (show off+j<cs.length by omega));refine ⟨v,?_,hr⟩;rw [List.getElem?_take_of_lt (by omega),List.getElem?_drop] at hv;rw [<-Array.getElem?_toList,show o+off+j=o+(off+j) by omega];exact hv
theorem zc2 {t:TypeId} {b o:Nat} {cs:List AV} {off:Nat} (ht:(ty P t).td≠ .other) (ha:At W E h b o cs off (psize P t)) (hl:off+psize P t<=cs.length):
  ∃v,(loadVar t ⟨b,o,none⟩).run P W= .ok v W/\Rep W E h (apart P t cs off) v:=by
 obtain ⟨d,hd⟩:=zb9 ht;obtain ⟨c,T,fz,hb,hc⟩:=ha;simp only [loadVar,Sem.run_bind,zlV hd ht,Result.andThen_ok];unfold apart;unfold psize at hc hl;cases hag:(ty P t).td.agg
 ·simp only [hag,Bool.false_eq_true,if_false] at hc hl ⊢;obtain ⟨v,hv,hr⟩:=hc 0 (by omega);refine ⟨v,?_,by simpa using hr⟩;simp only [run_load,zac hb];rw [show o=o+0 from rfl,hv]
 ·simp only [hag,if_true] at hc hl;simp only [if_true,Sem.run_bind,zI hd,Result.andThen_ok]
  have hlen:((c.toList.drop o).take (ty P t).size).length=(ty P t).size:=by
   rcases Nat.eq_zero_or_pos (ty P t).size with h0|h0
   ·simp [h0]
   ·obtain ⟨v,hv,_⟩:=hc ((ty P t).size - 1) (by omega);have:=(Array.getElem?_eq_some_iff.1 hv).1;simp;omega
  have hget:∀j,j<(ty P t).size->((c.toList.drop o).take (ty P t).size)[j]?=c[o+j]?:=λj hj=>by rw [List.getElem?_take_of_lt hj,List.getElem?_drop,<-Array.getElem?_toList]
  have:=run_loadCells_list (P:=P) W ⟨b,o,none⟩ ((c.toList.drop o).take (ty P t).size) (λj v hj=>by
   rw [Addr.add_none,zac hb]
   have hjl:j<(ty P t).size:=by have:=(List.getElem?_eq_some_iff.1 hj).1;omega
   rw [<-hget j hjl];exact hj)
  rw [hlen] at this;rw [this];refine ⟨_,rfl,?_⟩;simp only [Rep];refine ⟨_,rfl,Reps.of_get ?_ (λj hj=>?_)⟩
  ·rw [hlen];simp;omega
  ·simp at hj;obtain ⟨v,hv,hr⟩:=hc j (by omega);refine ⟨v,by rw [hget j (by omega)];exact hv,?_⟩;rw [List.getD_eq_getElem?_getD,List.getElem?_take_of_lt (by omega),List.getElem?_drop,<-List.getD_eq_getElem?_getD];exact hr
end
end Go.Aw
