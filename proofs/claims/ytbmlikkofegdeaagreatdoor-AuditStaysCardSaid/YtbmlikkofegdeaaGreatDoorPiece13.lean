/-
 A range over an iterator: the statement.
-/
import Derived.Test.YtbmlikkofegdeaaGreatDoorPiece12
set_option maxRecDepth 100000
set_option maxHeartbeats 2000000
set_option linter.unusedSimpArgs false
set_option linter.unusedVariables false
namespace Go.Aw
open Go
section
variable {cx : Cx} {s : AS} {Q : Exit -> AS -> Prop}
theorem zgA {g:Operand} {ps:Array Tmp} {assign body:Code} {f:FuncId} {fs caps caps':List AV} {fl:Nat} {items:List (List AV)} {Kit:Option (List (List AV))→AHeap→Prop} (p:Nat→Bool) (I:List (List AV)→AHeap×Option (List (List AV))) (J:Code→AHeap→Option (List (List AV))→Prop)
    (hro:cx.ro=none) (hg:s.ev g=(true,.fn (.func f) fs caps)) (hcle:AV.leL caps caps') (hen:zgy cx.P f)
    (hit:∀E0 w0 (pf qc:Array Value),SatH E0 s.h w0→Reps w0 E0 s.h fs pf.toList→Reps w0 E0 s.h caps qc.toList→∃S:World→Prop,
      (∀y:Yo cx.P items,(∀g M N A w,y.G g M N A w→S w)→∀E w,SatH E (hsel p s.h) w→Reps w E (hsel p s.h) fs pf.toList→Reps w E (hsel p s.h) caps' qc.toList→y.G (some []) E.M E.N (Own E (hsel p s.h)) w→
        Calls cx.P f (pf++ #[Value.func (.yield y.yl) #[] #[]]++qc) w (fun e w'=>∃v E' h' g,e= .returned v∧Kit g h'∧SatH E' h' w'∧Evo fl E (hsel p s.h) w E' h' w'∧y.G g E'.M E'.N (Own E' h') w'))∧
      (∀xs E w,SatH E (I xs).1 w→(∀i,i<fl→(hget (I xs).1 i).isSome→GoesOn E0 s.h E (I xs).1 i)→S w)∧
      (∀c h3 g3,J c h3 g3→∀E w,SatH E h3 w→(∀i,i<fl→(hget h3 i).isSome→GoesOn E0 s.h E h3 i)→S w))
    (hfl:∀i,(hget s.h i).isSome→i<fl) (hfc:cx.fl≤fl) (hcl:zhI p s.h) (hids:∀j∈AV.idsL fs++AV.idsL caps',p j=true)
    (hI:leH (hsel (fun i=> !p i) s.h) (I []).1) (hIn:inH (I []).1 (idsH (I []).1)) (hIg:(I []).2=s.g)
    (hnames:∀xs,xs<+:items→∀i,(hget (I xs).1 i).isSome→p i=false) (hJ:∀c h3 g3,J c h3 g3→∀i,(hget h3 i).isSome→p i=false) (hK1:∀g h',Kit g h'→(∀i,(hget h' i).isSome→p i=true)∧(∀xs,g=some xs→xs=items))
    (hlen:∀x∈items,x.length=ps.size) (hps:∀t∈ps.toList,t<cx.nt)
    (hround:∀xs x,(xs++ [x])<+:items→∀ (l:Nat) (r1:Rnd cx),AW (cx.inR l fl r1) assign (AsgK fun s1=>∀r2:Rnd cx,AW (cx.inR l fl r2) body (zf (fun h' g'=>leH h' (I (xs++ [x])).1∧inH (I (xs++ [x])).1 (idsH (I (xs++ [x])).1)∧g'=(I (xs++ [x])).2) J) s1)
      { t:=zfd ps.toList x (keepT (I xs).1 s.t),h:=(I xs).1,g:=(I xs).2 })
    (hdone:∀h1,Kit (some items) h1→Q .normal { t:=keepT (h1++(I items).1) s.t,h:=h1++(I items).1,g:=(I items).2 })
    (hstop:∀c h1 h3 g3,Kit none h1→J c h3 g3→AW cx c Q { t:=keepT (h1++h3) s.t,h:=h1++h3,g:=g3 }):
    AW cx (.rangeFunc g ps assign body) Q s:=by
  intro E0 a w0 hs0
  refine wpIn_rangeFunc ?_
  intro fn hfn
  obtain ⟨l,hl⟩:∃l,l=w0.heap.size+1:=⟨_,rfl⟩
  obtain ⟨d,hd⟩:∃d,d=w0.heap.size:=⟨_,rfl⟩
  obtain ⟨rec,hrec⟩:∃rec:LoopState→Option Code→Loop,rec=fun st pe=> { state:=st,pending:=pe,fn:=fn,tmps:=a.tmps,params:=ps,assign:=assign,body:=body,defers:=d } :=⟨_,rfl⟩
  obtain ⟨w1,hw1⟩:∃w1,w1=(w0.alloc (.deferred (some []))).alloc (.loop (rec .ready none)):=⟨_,rfl⟩
  have hsz1:w1.heap.size=w0.heap.size+2:=by rw [hw1];simp
  have hk1:∀b,b<w0.heap.size→w1.heap[b]?=w0.heap[b]?:=fun b hb=>by
    rw [hw1]
    show ((w0.heap.push _).push _)[b]?=_
    rw [Array.getElem?_push,if_neg (by simp;omega),Array.getElem?_push,if_neg (by omega)]
  have hd1:w1.heap[d]?=some (.deferred (some [])):=by
    rw [hw1,hd]
    show ((w0.heap.push _).push _)[w0.heap.size]?=_
    rw [Array.getElem?_push,if_neg (by simp),Array.getElem?_push,if_pos rfl]
  have hl1:w1.heap[l]?=some (.loop (rec .ready none)):=by
    rw [hw1,hl]
    show ((w0.heap.push _).push _)[w0.heap.size+1]?=_
    rw [Array.getElem?_push,if_pos (by simp)]
  have hfv:=ev_ok hs0.slots g (by rw [hg])
  rw [hg] at hfv
  simp only [Rep] at hfv
  obtain ⟨pf,qc,hgv,hfs,hcs⟩:=hfv
  obtain ⟨S,hitS,hSI,hSJ⟩:=hit E0 w0 pf qc hs0.hp hfs hcs
  replace hcs:Reps w0 E0 s.h caps' qc.toList:=Reps.le _ _ _ hcle hcs
  have hids1:∀j∈AV.idsL fs,p j=true:=fun j hj=>hids j (List.mem_append_left _ hj)
  have hids2:∀j∈AV.idsL caps',p j=true:=fun j hj=>hids j (List.mem_append_right _ hj)
  have hmk:∀b,zaV a.defers b→b<w0.heap.size:=fun b hb=>hs0.marks.lt hb
  have howns:∀b,Own E0 (hsel p s.h) b→¬Own E0 (hsel (fun i=> !p i) s.h) b:=by
    rintro b ⟨i,hi,hb⟩ ⟨j,hj,hb'⟩
    rw [zx] at hi hj
    split at hi
    · rename_i hpi
      split at hj
      · rename_i hpj
        have:=hs0.hp.inj i j b hi hj hb hb'
        subst this
        rw [hpi] at hpj;cases hpj
      · simp at hj
    · simp at hi
  obtain ⟨E1,hE1⟩:∃E1:Env,E1= { O:=E0.O,C:=E0.C,M:=fun b=>Own E0 (hsel (fun i=> !p i) s.h) b∨E0.M b∨b=l∨b=d,N:=E0.N } :=⟨_,rfl⟩
  have hX1:∀b,b<w0.heap.size→Xs E1 (hsel p s.h) b→Xs E0 s.h b:=by
    rw [hE1]
    rintro b hb (hx|(hx|hx|hx|hx)|hx)
    · exact .inl (zY hx)
    · exact .inl (zY hx)
    · exact .inr (.inl hx)
    · omega
    · omega
    · exact .inr (.inr hx)
  have hgo1:∀j,p j=true→GoesOn E0 s.h E1 (hsel p s.h) j:=fun j hj=>by
    rw [hE1]
    unfold GoesOn
    rw [zx,if_pos hj]
    split<;>simp_all
  have hs1:SatH E1 (hsel p s.h) w1:=by
    refine ⟨fun i o ho=>?_,fun i j b hi hj h1 h2=>?_,fun b hb=>?_,fun b hb=>?_,fun b hb=>?_⟩
    · have ho':=ho
      rw [zx] at ho'
      split at ho'
      · rename_i hpi
        have:=hs0.hp.heap i o ho'
        have hidso:=hcl i o ho' hpi
        have hlt:∀b,E0.O i=some b→w1.heap[b]?=w0.heap[b]?:=fun b hb=>hk1 b (hs0.hp.own b ⟨i,by simp [ho'],hb⟩).1
        have hO:E1.O=E0.O:=by rw [hE1]
        have hC:E1.C=E0.C:=by rw [hE1]
        cases o with
        | var cs=>
          simp only [RepObj,hO] at this ⊢
          obtain ⟨b,c,T,fz,g1,g2,g3,g4⟩:=this
          exact ⟨b,c,T,fz,g1,(hlt b g1).trans g2,Reps.step hX1 (fun b hb _=>hk1 b hb) _ _ (fun j hj=>hgo1 j (hidso j hj)) g3,g4⟩
        | tvar tt cs=>
          simp only [RepObj,hO] at this ⊢
          obtain ⟨b,c,T,fz,g1,g2,g3,g4⟩:=this
          exact ⟨b,c,T,fz,g1,(hlt b g1).trans g2,Reps.step hX1 (fun b hb _=>hk1 b hb) _ _ (fun j hj=>hgo1 j (hidso j hj)) g3,g4⟩
        | arr k xs=>
          simp only [RepObj,hO,hC] at this ⊢
          rcases this with g|⟨b,c,T,fz,g1,g2,g3,g4,g5,g6⟩
          · exact .inl g
          · exact .inr ⟨b,c,T,fz,g1,(hlt b g1).trans g2,g3,g4,RepRows.step hX1 (fun b hb _=>hk1 b hb) _ _ _ g5,g6⟩
        | buf tt xs=>
          simp only [RepObj,hO,hC] at this ⊢
          rcases this with g|⟨b,c,T,fz,g1,g2,g3,g4,g5,g6⟩
          · exact .inl g
          · exact .inr ⟨b,c,T,fz,g1,(hlt b g1).trans g2,g3,g4,g5,g6⟩
        | strit l q=>
          simp only [RepObj,hO] at this ⊢
          obtain ⟨b,g1,g2⟩:=this
          exact ⟨b,g1,(hlt b g1).trans g2⟩
        | omap es=>
          simp only [RepObj,hO] at this ⊢
          obtain ⟨b,m,cl,g1,g2,g3⟩:=this
          exact ⟨b,m,cl,g1,(hlt b g1).trans g2,g3⟩
      · cases ho'
    · rw [hE1] at h1 h2
      rw [zx] at hi hj
      split at hi
      · split at hj
        · exact hs0.hp.inj i j b hi hj h1 h2
        · simp at hj
      · simp at hi
    · have hb':Own E0 (hsel p s.h) b:=by rw [hE1] at hb;exact hb
      have:=hs0.hp.own b (zY hb')
      rw [hE1]
      refine ⟨by omega,?_,this.2.2⟩
      rintro (hx|hx|hx|hx)
      · exact howns b hb' hx
      · exact this.2.1 hx
      · omega
      · omega
    · rw [hE1] at hb
      rcases hb with hx|hx|hx|hx
      · have:=(hs0.hp.own b (zY hx)).1;omega
      · have:=hs0.hp.mlt b hx;omega
      · omega
      · omega
    · rw [hE1] at hb
      have:=hs0.hp.nlt b hb;omega
  have hfs1:Reps w1 E1 (hsel p s.h) fs pf.toList:=Reps.step hX1 (fun b hb _=>hk1 b hb) _ _ (fun j hj=>hgo1 j (hids1 j hj)) hfs
  have hcs1:Reps w1 E1 (hsel p s.h) caps' qc.toList:=Reps.step hX1 (fun b hb _=>hk1 b hb) _ _ (fun j hj=>hgo1 j (hids2 j hj)) hcs
  obtain ⟨E2,hE2⟩:∃E2:Env,E2= { O:=E0.O,C:=E0.C,M:=E0.M,N:=fun b=>E0.N b∨Own E0 (hsel p s.h) b∨b=l∨b=d } :=⟨_,rfl⟩
  have hown2:∀b,Own E2 (I []).1 b→Own E0 (hsel (fun i=> !p i) s.h) b:=fun b hb=>by
    have:Own E0 (I []).1 b:=by rw [hE2] at hb;exact hb
    exact zie hI this
  have hX2:∀b,b<w0.heap.size→Xs E2 (I []).1 b→Xs E0 s.h b:=by
    intro b hb hx
    rcases hx with hx|hx|hx
    · exact .inl (zY (hown2 b hx))
    · rw [hE2] at hx;exact .inr (.inl hx)
    · rw [hE2] at hx
      rcases hx with hx|hx|hx|hx
      · exact .inr (.inr hx)
      · exact .inl (zY hx)
      · omega
      · omega
  have hO2:E2.O=E0.O:=by rw [hE2]
  have hC2:E2.C=E0.C:=by rw [hE2]
  have hM2:E2.M=E0.M:=by rw [hE2]
  have hs2:SatH E2 (I []).1 w1:=by
    have hp0:∀i o,hget (hsel (fun i=> !p i) s.h) i=some o→RepObj w0 E0 s.h i o:=fun i o ho=>by
      rw [zx] at ho
      split at ho
      · exact hs0.hp.heap i o ho
      · cases ho
    refine ⟨fun i o ho=>?_,fun i j b hi hj h1 h2=>?_,fun b hb=>?_,fun b hb=>?_,fun b hb=>?_⟩
    · obtain ⟨o1,ho1,hle⟩:=zdi hI ho
      have hr:=hp0 i o1 ho1
      have hlt:∀b,E0.O i=some b→w1.heap[b]?=w0.heap[b]?:=fun b hb=>hk1 b (hs0.hp.own b ⟨i,by
        rw [zx] at ho1
        split at ho1
        · simp [ho1]
        · simp at ho1,hb⟩).1
      have hgoI:∀j,(hget (I []).1 j).isSome→GoesOn E0 s.h E2 (I []).1 j:=fun j hj=>by
        have hj1:=zdK (E:=E0) hI hj
        have hj2:(hget (hsel (fun i=> !p i) s.h) j).isSome:=by
          obtain ⟨o',ho'⟩:=Option.isSome_iff_exists.1 hj
          obtain ⟨oo,hoo,_⟩:=zdi hI ho'
          simp [hoo]
        have hpj:(!p j)=true:=by
          rw [zx] at hj2
          split at hj2
          · assumption
          · simp at hj2
        have hj3:=(zfH (E:=E0) (h:=s.h) (p:=fun i=> !p i) j hpj).trans hj1
        unfold GoesOn at hj3 ⊢
        rw [hO2,hC2]
        exact hj3
      have hidsI:∀j∈o.ids,(hget (I []).1 j).isSome:=fun j hj=>zgZ hIn j (zgu ho j hj)
      cases o1 with
      | var cs=>
        cases o<;>simp only [AObj.le] at hle
        simp only [RepObj,hO2] at hr ⊢
        obtain ⟨b,c,T,fz,g1,g2,g3,g4⟩:=hr
        exact ⟨b,c,T,fz,g1,(hlt b g1).trans g2,Reps.step hX2 (fun b hb _=>hk1 b hb) _ _ (fun j hj=>hgoI j (hidsI j hj)) (Reps.le _ _ _ hle g3),g4⟩
      | tvar tt cs=>
        cases o<;>simp only [AObj.le] at hle
        obtain ⟨rfl,hle⟩:=hle
        simp only [RepObj,hO2] at hr ⊢
        obtain ⟨b,c,T,fz,g1,g2,g3,g4⟩:=hr
        exact ⟨b,c,T,fz,g1,(hlt b g1).trans g2,Reps.step hX2 (fun b hb _=>hk1 b hb) _ _ (fun j hj=>hgoI j (hidsI j hj)) (Reps.le _ _ _ hle g3),g4⟩
      | arr k xs=>
        simp only [AObj.le] at hle;subst hle
        simp only [RepObj,hO2,hC2] at hr ⊢
        rcases hr with g|⟨b,c,T,fz,g1,g2,g3,g4,g5,g6⟩
        · exact .inl g
        · exact .inr ⟨b,c,T,fz,g1,(hlt b g1).trans g2,g3,g4,RepRows.step hX2 (fun b hb _=>hk1 b hb) _ _ _ g5,g6⟩
      | buf tt xs=>
        simp only [AObj.le] at hle;subst hle
        simp only [RepObj,hO2,hC2] at hr ⊢
        rcases hr with g|⟨b,c,T,fz,g1,g2,g3,g4,g5,g6⟩
        · exact .inl g
        · exact .inr ⟨b,c,T,fz,g1,(hlt b g1).trans g2,g3,g4,g5,g6⟩
      | strit l q=>
        simp only [AObj.le] at hle;subst hle
        simp only [RepObj,hO2] at hr ⊢
        obtain ⟨b,g1,g2⟩:=hr
        exact ⟨b,g1,(hlt b g1).trans g2⟩
      | omap es=>
        simp only [AObj.le] at hle;subst hle
        simp only [RepObj,hO2] at hr ⊢
        obtain ⟨b,m,cl,g1,g2,g3⟩:=hr
        exact ⟨b,m,cl,g1,(hlt b g1).trans g2,g3⟩
    · rw [hO2] at h1 h2
      have key:∀i,(hget (I []).1 i).isSome→(hget s.h i).isSome:=fun i hi=>by
        obtain ⟨o',ho'⟩:=Option.isSome_iff_exists.1 hi
        obtain ⟨oo,hoo,_⟩:=zdi hI ho'
        rw [zx] at hoo
        split at hoo
        · simp [hoo]
        · cases hoo
      exact hs0.hp.inj i j b (key i hi) (key j hj) h1 h2
    · have hb':=hown2 b hb
      have:=hs0.hp.own b (zY hb')
      rw [hE2]
      refine ⟨by omega,this.2.1,?_⟩
      rintro (hx|hx|hx|hx)
      · exact this.2.2 hx
      · exact howns b hx hb'
      · omega
      · omega
    · rw [hM2] at hb
      have:=hs0.hp.mlt b hb;omega
    · rw [hE2] at hb
      rcases hb with hx|hx|hx|hx
      · have:=hs0.hp.nlt b hx;omega
      · have:=(hs0.hp.own b (zY hx)).1;omega
      · omega
      · omega
  have hkept:Kept cx l d fl p E0 s.h w0 a.defers E1.M E1.N (Own E1 (hsel p s.h)) E2 (I []).1 (I []).2 w1:=by
    have hO1:∀b,Own E1 (hsel p s.h) b↔Own E0 (hsel p s.h) b:=fun b=>by rw [hE1];exact Iff.rfl
    refine ⟨hs2,hnames [] (List.nil_prefix),fun b=>by rw [hE1],fun b hb=> .inl ((hO1 b).1 hb),fun b=>by rw [hE2];simp only [hO1],fun b hb hm=>?_,fun b hb=>?_,?_,⟨by rw [hw1];rfl,by rw [hw1];rfl,by rw [hw1];rfl,by omega,fun b hb _ _=>hk1 b hb,fun b hb=> .inl (zY (hown2 b hb)),fun b hb=>by rwa [hM2],fun b hb=> .inl (by rwa [hM2] at hb),fun i hi hg=>?_⟩,fun b hb=> .inl (hown2 b hb),fun b hb=> .inl (by rwa [hM2] at hb),by omega,hd1,?_⟩
    · rw [hM2] at hm
      exact (hs0.hp.own b (zY ((hO1 b).1 hb))).2.1 hm
    · rw [hE1]
      rcases hb with hb|hb
      · exact .inl (hown2 b hb)
      · exact .inr (.inl (by rwa [hM2] at hb))
    · rw [hE1];exact ⟨.inr (.inr (.inl rfl)),.inr (.inr (.inr rfl))⟩
    · have hj1:=zdK (E:=E0) hI hg
      have hj2:(hget (hsel (fun i=> !p i) s.h) i).isSome:=by
        obtain ⟨o',ho'⟩:=Option.isSome_iff_exists.1 hg
        obtain ⟨oo,hoo,_⟩:=zdi hI ho'
        simp [hoo]
      have hpj:(!p i)=true:=by
        rw [zx] at hj2
        split at hj2
        · assumption
        · simp at hj2
      have hj3:=(zfH (E:=E0) (h:=s.h) (p:=fun i=> !p i) i hpj).trans hj1
      refine ⟨by rw [zx,if_pos hpj] at hj2;exact hj2,?_⟩
      unfold GoesOn at hj3 ⊢
      rw [hO2,hC2]
      exact hj3
    · rw [hIg,hM2]
      refine cx.stab _ _ _ _ _ w0 _ (fun b hb _=>hk1 b hb) (fun b hb=>?_) (fun b hb=>?_) (by omega) (by rw [hw1];rfl) (by rw [hw1];rfl) (by rw [hw1];rfl) hs0.ghost
      · rcases hb with hb|hb|hb|hb|hb
        · exact .inl (.inl (zY (hown2 b hb)))
        · exact .inl (.inl (zY ((hO1 b).1 hb)))
        · exact .inr (by omega)
        · exact .inr (by omega)
        · exact .inl (.inr hb)
      · rcases hb with hb|hb|hb|hb|hb
        · have:=(hs0.hp.own b (zY (hown2 b hb))).1;omega
        · have:=(hs0.hp.own b (zY ((hO1 b).1 hb))).1;omega
        · omega
        · omega
        · have:=hmk b hb;omega
  let y : Yo cx.P items:=
    { yl:=l
      G:=zcb cx l d fl p E0 s.h w0 a.defers I J rec
      stab:=fun gg M N A A' w w' hk hA hAb hsz ht ho hout hG=>by
        cases gg with
        | some xs=>
          simp only [zcb] at hG ⊢
          obtain ⟨E3,k,hrl⟩:=hG
          obtain ⟨E3',k',hnl⟩:=k.step hl hd hs0.hp hmk hk hA hAb hsz ht ho hout
          exact ⟨E3',k',(hk l (by have:=k.size;omega) hnl).trans hrl⟩
        | none=>
          simp only [zcb] at hG ⊢
          obtain ⟨E3,c,h3,g3,k,hrl,hj⟩:=hG
          obtain ⟨E3',k',hnl⟩:=k.step hl hd hs0.hp hmk hk hA hAb hsz ht ho hout
          exact ⟨E3',c,h3,g3,k',(hk l (by have:=k.size;omega) hnl).trans hrl,hj⟩
      yok:=zrV hl hd hs0 I J hnames hJ hlen hps hfl hround rec hrec }
  have hGS:∀g M N A w,y.G g M N A w→S w:=by
    intro gg M N A w hG
    cases gg with
    | some xs=>
      have hG':zcb cx l d fl p E0 s.h w0 a.defers I J rec (some xs) M N A w:=hG
      simp only [zcb] at hG'
      obtain ⟨E3,k,hrl⟩:=hG'
      exact hSI xs E3 w k.hp (fun i hi hh=>(k.far.go i hi hh).2)
    | none=>
      have hG':zcb cx l d fl p E0 s.h w0 a.defers I J rec none M N A w:=hG
      simp only [zcb] at hG'
      obtain ⟨E3,c,h3,g3,k,hrl,hj⟩:=hG'
      exact hSJ c h3 g3 hj E3 w k.hp (fun i hi hh=>(k.far.go i hi hh).2)
  have hG1:zcb cx l d fl p E0 s.h w0 a.defers I J rec (some []) E1.M E1.N (Own E1 (hsel p s.h)) w1:=by
    simp only [zcb]
    exact ⟨E2,hkept,hl1⟩
  have hcalls:=hitS y hGS E1 w1 hs1 hfs1 hcs1 hG1
  refine ⟨l,[{ target:= .collected d,args:= #[] }],w1, { target:= .fn (.func f) qc,args:=pf++ #[Value.func (.yield l) #[] #[]] },w1,f,pf++ #[Value.func (.yield l) #[] #[]]++qc,w1,?_,?_,fun _ _=>trivial,?_,fun h=>(by cases h),?_⟩
  · have hround0:cx.F.round=none:=hro
    rw [hround0,hw1,hrec,hl,hd]
    exact run_enterLoop_outer fn a.tmps ps assign body
  · simp only [resolve,rangeCall,hgv,Deferred.ofValue,Sem.run_pure,Sem.run_bind]
    simp [Act.eval]
  · simp only [invoke]
    exact hen _ _
  · refine (zo9 0 hcalls).mono ?_
    rintro e w5 ⟨v,E5,h5,g5,rfl,hKit,hs5,hev5,hG5⟩
    have hG5':zcb cx l d fl p E0 s.h w0 a.defers I J rec g5 E5.M E5.N (Own E5 h5) w5:=hG5
    obtain ⟨hn5,hit5⟩:=hK1 g5 h5 hKit
    have fin:∀ (st:LoopState) (pe:Option Code) (E4:Env) (hI':AHeap) (gI':Option (List (List AV))),st≠ .busy→Kept cx l d fl p E0 s.h w0 a.defers E5.M E5.N (Own E5 h5) E4 hI' gI' w5→w5.heap[l]?=some (.loop (rec st pe))→
        ∃w6 E6,(Instr.endLoop l).run cx.P w5= .ok pe w6∧Sat cx E6 { t:=keepT (h5++hI') s.t,h:=h5++hI',g:=gI' } { a with defers:= { target:= .collected d,args:= #[] } ::a.defers } w6∧Evo cx.fl E0 s.h w0 E6 (h5++hI') w6:=by
      intro st pe E4 hI' gI' hst k hrl
      have hend:=run_endLoop (P:=cx.P) hrl (by rw [hrec];exact hst)
      obtain ⟨w6,hw6⟩:∃w6,w6=w5.putObj l (.loop { rec st pe with state:= .exhausted }):=⟨_,rfl⟩
      have hsz5:=k.size
      have ap:Apart p E5 h5 E4 hI' E4.M E0.N:=
        { n1:=hn5,n2:=k.names,o1:=fun b hb=> .inr ((k.n2 b).2 (.inr (.inl hb))),o2:=fun b hb=> .inl (k.m1 b (.inl hb)),m1:=fun b hb=> .inl (k.m1 b (.inr hb)),m2:=fun b hb=> .inl hb,k1:=fun b hb=> .inr ((k.n1 b).2 hb),k2:=fun b hb=> .inr ((k.n2 b).2 (.inl hb)) }
      have hs6':=ap.sat hs5 k.hp k.hp.mlt (fun b hb=>k.hp.nlt b ((k.n2 b).2 (.inl hb)))
      obtain ⟨E6,hE6⟩:∃E6,E6=joinE p E5 E4 E4.M E0.N:=⟨_,rfl⟩
      rw [← hE6] at hs6'
      have hM6:E6.M=E4.M:=by rw [hE6];rfl
      have hN6:E6.N=E0.N:=by rw [hE6];rfl
      have hown6:∀b,Own E6 (h5++hI') b→Own E5 h5 b∨Own E4 hI' b:=fun b hb=>by rw [hE6] at hb;exact ap.own hb
      have ho5:∀b,Own E5 h5 b→Own E0 s.h b∨w1.heap.size≤b:=fun b hb=>(hev5.own b hb).imp (fun h=>by rw [hE1] at h;exact zY h) id
      have hgoE:∀j,(hget (h5++hI') j).isSome→GoesOn E0 s.h E6 (h5++hI') j∧(j<fl→(hget s.h j).isSome):=fun j hj=>by
        by_cases hpj:p j=true
        · have hj5:(hget h5 j).isSome:=by rw [ap.get1 hpj] at hj;exact hj
          have key:j<fl→(hget s.h j).isSome∧GoesOn E0 s.h E6 (h5++hI') j:=fun hjf=>by
            obtain ⟨q1,q2⟩:=hev5.go j hjf hj5
            rw [zx,if_pos hpj] at q1
            refine ⟨q1,?_⟩
            have q3:GoesOn E0 s.h E5 h5 j:=by
              unfold GoesOn at q2 ⊢
              rw [zx,if_pos hpj,hE1] at q2
              exact q2
            rw [hE6]
            exact q3.trans (ap.goes1 j)
          by_cases hj0:(hget s.h j).isSome
          · exact ⟨(key (hfl j hj0)).2,fun _=>hj0⟩
          · refine ⟨?_,fun hjf=>(key hjf).1⟩
            unfold GoesOn
            split
            · rename_i cs hh;exact (hj0 (by simp [hh])).elim
            · rename_i k xs hh;exact (hj0 (by simp [hh])).elim
            · rename_i l p hh;exact (hj0 (by simp [hh])).elim
            · rename_i es hh;exact (hj0 (by simp [hh])).elim
            · rename_i tt cs hh;exact (hj0 (by simp [hh])).elim
            · rename_i tt cs hh;exact (hj0 (by simp [hh])).elim
            · trivial
        · have hpj':p j=false:=by simpa using hpj
          have hj4:(hget hI' j).isSome:=by rw [ap.get2 hpj'] at hj;exact hj
          by_cases hj0:(hget s.h j).isSome
          · refine ⟨?_,fun _=>hj0⟩
            rw [hE6]
            exact (k.far.go j (hfl j hj0) hj4).2.trans (ap.goes2 j)
          · refine ⟨?_,fun hjf=>(k.far.go j hjf hj4).1⟩
            unfold GoesOn
            split
            · rename_i cs hh;exact (hj0 (by simp [hh])).elim
            · rename_i k xs hh;exact (hj0 (by simp [hh])).elim
            · rename_i l p hh;exact (hj0 (by simp [hh])).elim
            · rename_i es hh;exact (hj0 (by simp [hh])).elim
            · rename_i tt cs hh;exact (hj0 (by simp [hh])).elim
            · rename_i tt cs hh;exact (hj0 (by simp [hh])).elim
            · trivial
      have hXf:∀b c T fz,w0.heap[b]?=some (.cells c T fz)→Xs E6 (h5++hI') b→Xs E0 s.h b:=fun b c T fz hc hx=>by
        have hb:=(Array.getElem?_eq_some_iff.1 hc).1
        rcases hx with hx|hx|hx
        · rcases hown6 b hx with h|h
          · rcases ho5 b h with h|h
            · exact .inl h
            · omega
          · rcases k.far.own b h with h|h
            · exact .inl h
            · omega
        · rw [hM6] at hx
          rcases k.far.m2 b hx with h|h
          · exact .inr (.inl h)
          · omega
        · rw [hN6] at hx;exact .inr (.inr hx)
      have hKf:∀b c T fz,w0.heap[b]?=some (.cells c T fz)→¬Xs E0 s.h b→w5.heap[b]?=some (.cells c T fz):=fun b c T fz hc hx=>by
        rcases k.far.block b (Array.getElem?_eq_some_iff.1 hc).1 with h|h
        · exact absurd h hx
        · exact h.trans hc
      have hslots:Slots w5 E6 ⟨keepT (h5++hI') s.t,h5++hI',gI'⟩ a:=zke (g:=s.g) hs0.slots hXf hKf (fun j hj=>(hgoE j hj).1)
      have hdM:¬E4.M d:=fun hm=>by
        rcases k.m0 d hm with h|h
        · have:=hs0.hp.mlt d h;omega
        · omega
      have hmarks5:Marks cx.base E6 w5 ({ target:= .collected d,args:= #[] } ::a.defers):=by
        have hb0:=hs0.base
        refine ⟨fun dd hdd=>?_,?_⟩
        · rcases List.mem_cons.1 hdd with rfl|hdd
          · exact ⟨d,rfl,k.dd,by omega,by rw [hM6];exact hdM⟩
          · obtain ⟨r,q1,q2,q3,q4⟩:=hs0.marks.1 dd hdd
            have hr:=(Array.getElem?_eq_some_iff.1 q2).1
            refine ⟨r,q1,(k.far.keep r hr (hs0.hp.not_mark q2) q4).trans q2,q3,fun hm=>?_⟩
            rw [hM6] at hm
            rcases k.far.m2 r hm with h|h
            · exact q4 h
            · omega
        · simp only [List.map_cons,List.nodup_cons]
          refine ⟨?_,hs0.marks.2⟩
          simp only [List.mem_map,not_exists,not_and]
          intro dd hdd e
          obtain ⟨r,q1,q2,q3,q4⟩:=hs0.marks.1 dd hdd
          have hr:=(Array.getElem?_eq_some_iff.1 q2).1
          rw [q1] at e
          simp only at e
          omega
      have hghost5:cx.G gI' E6.M E6.N (fun b=>Own E6 (h5++hI') b∨zaV ({ target:= .collected d,args:= #[] } ::a.defers) b) (w5.putObj l (.loop { rec st pe with state:= .exhausted })):=by
        rw [hM6,hN6]
        refine cx.stab _ _ _ _ _ w5 _ (fun b _ hb=>World.putObj_heap_other (fun e=>hb (by rw [e];exact .inr (.inr (.inl rfl))))) (fun b hb=> .inl ?_) (fun b hb=>?_) (by simp) rfl rfl rfl k.ghost
        · rcases hb with hb|⟨dd,hdd,hdt⟩
          · rcases hown6 b hb with h|h
            · exact .inr (.inl h)
            · exact .inl h
          · rcases List.mem_cons.1 hdd with rfl|hdd
            · have:b=d:=by simpa using hdt.symm
              exact .inr (.inr (.inr (.inl this)))
            · exact .inr (.inr (.inr (.inr ⟨dd,hdd,hdt⟩)))
        · rw [World.putObj_size]
          rcases hb with hb|hb
          · exact (hs6'.own b hb).1
          · exact hmarks5.lt hb
      have hsat5:Sat (cxOf cx.P cx.base cx.nt cx.fl) E6 { t:=keepT (h5++hI') s.t,h:=h5++hI',g:=gI' } { a with defers:= { target:= .collected d,args:= #[] } ::a.defers } w5:=
        { slots:=fun kk g v hk=>hslots kk g v hk,nt:=hs0.nt,hp:=hs6',base:=Nat.le_trans hs0.base k.far.size,marks:=hmarks5,ghost:=trivial }
      refine ⟨w6,E6,?_,?_,?_⟩
      · rw [hend,hw6,hrec]
      · rw [hw6]
        exact znI (cx1:=cxOf cx.P cx.base cx.nt cx.fl) (cx2:=cx) _ hsat5 hrl rfl rfl hghost5
      · rw [hw6]
        refine ⟨k.far.os,k.far.tape,k.far.output,by simpa using k.far.size,fun b hb h1 h2=>?_,fun b hb=>?_,fun b hb=>by rw [hM6];exact k.far.m1 b hb,fun b hb=>by rw [hM6] at hb;exact k.far.m2 b hb,hN6,fun i hi hg=>?_⟩
        · exact (World.putObj_heap_other (by omega)).trans (k.far.keep b hb h1 h2)
        · rcases hown6 b hb with h|h
          · rcases ho5 b h with h|h
            · exact .inl h
            · exact .inr (by omega)
          · exact k.far.own b h
        · exact ⟨(hgoE i hg).2 (by omega),(hgoE i hg).1⟩
    cases g5 with
    | some xs=>
      have hxs:=hit5 xs rfl
      subst hxs
      simp only [zcb] at hG5'
      obtain ⟨E4,k,hrl⟩:=hG5'
      obtain ⟨w6,E6,h1,h2,h3⟩:=fin .ready none E4 _ _ (by simp) k hrl
      exact ⟨none,w6,h1,E6,_,hdone h5 hKit,h2,h3⟩
    | none=>
      simp only [zcb] at hG5'
      obtain ⟨E4,c,h3',g3',k,hrl,hj⟩:=hG5'
      obtain ⟨w6,E6,h1,h2,h3⟩:=fin .done (some c) E4 _ _ (by simp) k hrl
      refine ⟨some c,w6,h1,?_⟩
      exact wpIn_mono (hstop c h5 h3' g3' hKit hj E6 _ w6 h2) (fun _ _ _ hr=>hr.trans h3)
theorem zfo {g:Operand} {ps:Array Tmp} {assign body:Code} {f:FuncId} {fs caps:List AV} {fl:Nat} {items:List (List AV)} {Kit:Option (List (List AV))->AHeap->Prop} (p:Nat->Bool) (I:List (List AV)->AHeap×Option (List (List AV))) (J:Code->AHeap->Option (List (List AV))->Prop)
  (hro:cx.ro=none) (hg:s.ev g=(true,.fn (.func f) fs caps)) (hit:AIter cx.P f fl fs caps (hsel p s.h) items Kit)
  (hfl:∀i,(hget s.h i).isSome->i<fl) (hfc:cx.fl<=fl) (hcl:zhI p s.h) (hids:∀j∈AV.idsL fs++AV.idsL caps,p j=true)
  (hI:leH (hsel (λi=> !p i) s.h) (I []).1) (hIn:inH (I []).1 (idsH (I []).1)) (hIg:(I []).2=s.g)
  (hnames:∀xs,xs<+:items->∀i,(hget (I xs).1 i).isSome->p i=false) (hJ:∀c h3 g3,J c h3 g3->∀i,(hget h3 i).isSome->p i=false) (hK1:∀g h',Kit g h'->(∀i,(hget h' i).isSome->p i=true)/\(∀xs,g=some xs->xs=items))
  (hlen:∀x∈items,x.length=ps.size) (hps:∀t∈ps.toList,t<cx.nt)
  (hround:∀xs x,(xs++ [x])<+:items->∀ (l:Nat) (r1:Rnd cx),AW (cx.inR l fl r1) assign (AsgK λs1=>∀r2:Rnd cx,AW (cx.inR l fl r2) body (zf (λh' g'=>leH h' (I (xs++ [x])).1/\inH (I (xs++ [x])).1 (idsH (I (xs++ [x])).1)/\g'=(I (xs++ [x])).2) J) s1)
   { t:=zfd ps.toList x (keepT (I xs).1 s.t),h:=(I xs).1,g:=(I xs).2 })
  (hdone:∀h1,Kit (some items) h1->Q .normal { t:=keepT (h1++(I items).1) s.t,h:=h1++(I items).1,g:=(I items).2 })
  (hstop:∀c h1 h3 g3,Kit none h1->J c h3 g3->AW cx c Q { t:=keepT (h1++h3) s.t,h:=h1++h3,g:=g3 }):
  AW cx (.rangeFunc g ps assign body) Q s:=
 zgA p I J hro hg (AV.leL_refl _) hit.1 (λE0 w0 pf qc _ _ _=>⟨λ_=>True,λy _ E w hs hf hc hy=>hit.2 y E w pf qc hs hf hc hy,λ_ _ _ _ _=>trivial,λ_ _ _ _ _ _ _ _=>trivial⟩)
  hfl hfc hcl hids hI hIn hIg hnames hJ hK1 hlen hps hround hdone hstop
end
attribute [go_sem] Cx.inR zfd AsgK zf
end Go.Aw
