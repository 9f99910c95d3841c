/-
 A range over an iterator: one round.
-/
import Derived.Test.YtbmlikkofegdeaaGreatDoorPiece11
set_option maxRecDepth 100000
set_option maxHeartbeats 2000000
set_option linter.unusedSimpArgs false
set_option linter.unusedVariables false
namespace Go.Aw
open Go
structure EvoL (l fl:Nat) (E:Env) (h:AHeap) (w:World) (E':Env) (h':AHeap) (w':World):Prop where
 os:w'.os=w.os
 tape:w'.tape=w.tape
 output:w'.output=w.output
 size:w.heap.size<=w'.heap.size
 keep:∀b,b<w.heap.size->¬Own E h b->¬E.M b->b≠l->w'.heap[b]?=w.heap[b]?
 own:∀b,Own E' h' b->Own E h b\/w.heap.size<=b
 m1:∀b,E.M b->E'.M b
 m2:∀b,E'.M b->E.M b\/w.heap.size<=b
 n:E'.N=E.N
 go:∀i,i<fl->(hget h' i).isSome->(hget h i).isSome/\GoesOn E h E' h' i
theorem Evo.l {l fl:Nat} {E E':Env} {h h':AHeap} {w w':World} (e:Evo fl E h w E' h' w'):EvoL l fl E h w E' h' w':=
 ⟨e.os,e.tape,e.output,e.size,λb hb ho hm _=>e.keep b hb ho hm,e.own,e.m1,e.m2,e.n,e.go⟩
theorem EvoL.put {l fl:Nat} {E:Env} {h:AHeap} {w:World} (o:Obj):EvoL l fl E h w E h (w.putObj l o):=
 ⟨rfl,rfl,rfl,by simp,λb _ _ _ hb=>World.putObj_heap_other hb,λ_ h=> .inl h,λ_ h=>h,λ_ h=> .inl h,rfl,λi _ h=>⟨h,GoesOn.refl E _ i⟩⟩
theorem EvoL.trans {l fl:Nat} {E E' E'':Env} {h h' h'':AHeap} {w w' w'':World} (a:EvoL l fl E h w E' h' w') (b:EvoL l fl E' h' w' E'' h'' w''):EvoL l fl E h w E'' h'' w'' where
 os:=b.os.trans a.os
 tape:=b.tape.trans a.tape
 output:=b.output.trans a.output
 size:=Nat.le_trans a.size b.size
 keep:=λk hk ho hm hl=>(b.keep k (Nat.lt_of_lt_of_le hk a.size) (λh=>(a.own k h).elim ho (λh=>by omega)) (λh=>(a.m2 k h).elim hm (λh=>by omega)) hl).trans (a.keep k hk ho hm hl)
 own:=λk h=>(b.own k h).elim (λh=>a.own k h) (λh=> .inr (Nat.le_trans a.size h))
 m1:=λk h=>b.m1 k (a.m1 k h)
 m2:=λk h=>(b.m2 k h).elim (λh=>a.m2 k h) (λh=> .inr (Nat.le_trans a.size h))
 n:=b.n.trans a.n
 go:=λi hi h=>by obtain ⟨h1,g1⟩:=b.go i hi h;obtain ⟨h2,g2⟩:=a.go i hi h1;exact ⟨h2,g2.trans g1⟩
section
variable {cx : Cx} {l d fl : Nat} {p : Nat -> Bool} {E0 : Env} {h0 : AHeap} {w0 : World} {ds : List Deferred}
theorem Kept.round (hl:l=w0.heap.size+1) (hd:d=w0.heap.size) {M1 N1 A1:Nat->Prop} {E2 E4:Env} {hI h4 h':AHeap} {gI g':Option (List (List AV))} {w w4:World}
  (k:Kept cx l d fl p E0 h0 w0 ds M1 N1 A1 E2 hI gI w) (e:EvoL l fl E2 hI w E4 h4 w4) (hs4:SatH E4 h4 w4) (hs':SatH E4 h' w4) (hown:∀b,Own E4 h' b->Own E4 h4 b) (hgo:∀i,(hget h' i).isSome->(hget h4 i).isSome/\GoesOn E4 h4 E4 h' i) (hn:∀i,(hget h' i).isSome->p i=false) (hdd:w4.heap[d]?=some (.deferred (some [])))
  (hG:cx.G g' E4.M E0.N (λb=>Own E4 h' b\/A1 b\/b=l\/b=d\/zaV ds b) w4):
  Kept cx l d fl p E0 h0 w0 ds (λb=>M1 b\/(w.heap.size<=b/\b<w4.heap.size)) N1 A1 E4 h' g' w4 where
 hp:=hs'
 names:=hn
 n1:=k.n1
 a1:=k.a1
 n2:=λb=>by rw [e.n];exact k.n2 b
 am:=λb hb hm=>by
  have:=k.hp.nlt b ((k.n2 b).2 (.inr (.inl hb)));rcases e.m2 b hm with h|h
  ·exact k.am b hb h
  ·omega
 m1:=λb hb=>by
  rcases hb with hb|hb
  ·rcases e.own b (hown b hb) with h|h
   ·exact .inl (k.m1 b (.inl h))
   ·exact .inr ⟨h,(hs4.own b (hown b hb)).1⟩
  ·rcases e.m2 b hb with h|h
   ·exact .inl (k.m1 b (.inr h))
   ·exact .inr ⟨h,hs4.mlt b hb⟩
 ml:=⟨.inl k.ml.1,.inl k.ml.2⟩
 far:=by
  refine ⟨e.os.trans k.far.os,e.tape.trans k.far.tape,e.output.trans k.far.output,Nat.le_trans k.far.size e.size,λb hb h1 h2=>?_,λb hb=>?_,λb hb=>e.m1 b (k.far.m1 b hb),λb hb=>?_,λi hi hg=>?_⟩
  ·refine (e.keep b (Nat.lt_of_lt_of_le hb k.far.size) (λh=>?_) (λh=>?_) (by omega)).trans (k.far.keep b hb h1 h2)
   ·rcases k.far.own b h with h|h
    ·exact h1 h
    ·omega
   ·rcases k.far.m2 b h with h|h
    ·exact h2 h
    ·omega
  ·rcases e.own b (hown b hb) with h|h
   ·exact k.far.own b h
   ·exact .inr (Nat.le_trans k.far.size h)
  ·rcases e.m2 b hb with h|h
   ·exact k.far.m2 b h
   ·exact .inr (Nat.le_trans k.far.size h)
  ·obtain ⟨hg4,q5⟩:=hgo i hg;obtain ⟨q1,q2⟩:=e.go i hi hg4;obtain ⟨q3,q4⟩:=k.far.go i hi q1;exact ⟨q3,(q4.trans q2).trans q5⟩
 own0:=λb hb=>by
  rcases e.own b (hown b hb) with h|h
  ·exact k.own0 b h
  ·exact .inr (Nat.le_trans k.size h)
 m0:=λb hb=>by
  rcases e.m2 b hb with h|h
  ·exact k.m0 b h
  ·exact .inr (Nat.le_trans k.size h)
 size:=Nat.le_trans k.size e.size
 dd:=hdd
 ghost:=hG
theorem znI {cx1 cx2:Cx} {E:Env} {s:AS} {a:Act} {w:World} {l:Nat} {rc:Loop} (o:Obj) (hs:Sat cx1 E s a w) (hl:w.heap[l]?=some (.loop rc)) (hb:cx2.base=cx1.base) (hn:cx2.nt=cx1.nt)
    (hG:cx2.G s.g E.M E.N (fun b=>Own E s.h b∨zaV a.defers b) (w.putObj l o)):Sat cx2 E s a (w.putObj l o):=by
  have hll:=(Array.getElem?_eq_some_iff.1 hl).1
  have hne:∀ (b:Nat) (ob:Obj),w.heap[b]?=some ob→(∀r,ob≠ .loop r)→b≠l:=fun b ob hb ho e=>by
    subst e
    rw [hl] at hb;cases hb
    exact ho _ rfl
  have hown:∀b,Own E s.h b→b≠l:=fun b ⟨i,hi,hb⟩=>by
    obtain ⟨ob,ho⟩:=Option.isSome_iff_exists.1 hi
    have:=hs.hp.heap i ob ho
    cases ob with
    |var cs=>simp only [RepObj] at this;obtain ⟨b',c,T,fz,g1,g2,_⟩:=this;rw [hb] at g1;cases g1;exact hne _ _ g2 (by simp)
    |tvar tt cs=>simp only [RepObj] at this;obtain ⟨b',c,T,fz,g1,g2,_⟩:=this;rw [hb] at g1;cases g1;exact hne _ _ g2 (by simp)
    | arr k xs=>
      simp only [RepObj] at this
      rcases this with ⟨g1,_⟩|⟨b',c,T,fz,g1,g2,_⟩
      · rw [hb] at g1;cases g1
      · rw [hb] at g1;cases g1;exact hne _ _ g2 (by simp)
    | buf tt xs=>
      simp only [RepObj] at this
      rcases this with ⟨g1,_⟩|⟨b',c,T,fz,g1,g2,_⟩
      · rw [hb] at g1;cases g1
      · rw [hb] at g1;cases g1;exact hne _ _ g2 (by simp)
    |strit l' q=>simp only [RepObj] at this;obtain ⟨b',g1,g2⟩:=this;rw [hb] at g1;cases g1;exact hne _ _ g2 (by simp)
    |omap es=>simp only [RepObj] at this;obtain ⟨b',m,cl,g1,g2,_⟩:=this;rw [hb] at g1;cases g1;exact hne _ _ g2 (by simp)
  obtain ⟨hp',hrep⟩:=hs.hp.others (E':=E) (w':=w.putObj l o) rfl rfl (fun _ _ h=>h) (fun b c T fz hc _=>(World.putObj_heap_other (hne b _ hc (by simp))).trans hc) (fun b hb=>World.putObj_heap_other (hown b hb)) (by simp)
    (fun b hb=>(hs.hp.own b hb).2) (fun b hb=>by simpa using hs.hp.mlt b hb) (fun b hb=>by simpa using hs.hp.nlt b hb)
  exact { slots:=fun k g v hk=>by
            obtain ⟨x,h1,h2,h3⟩:=hs.slots k g v hk
            exact ⟨x,h1,fun e=>hrep _ _ (h2 e),h3⟩
          nt:=hs.nt.trans hn.symm
          hp:=hp'
          base:=by rw [hb];simpa using hs.base
          marks:=⟨fun d hd=>by
            obtain ⟨r,h1,h2,h3,h4⟩:=hs.marks.1 d hd
            exact ⟨r,h1,(World.putObj_heap_other (hne r _ h2 (by simp))).trans h2,by rw [hb];exact h3,h4⟩,hs.marks.2⟩
          ghost:=hG }
theorem zrV {s:AS} {a:Act} {ps:Array Tmp} {assign body:Code} {fn:FuncId} {items:List (List AV)} (hl:l=w0.heap.size+1) (hd:d=w0.heap.size) (hs0:Sat cx E0 s a w0)
  (I:List (List AV)->AHeap×Option (List (List AV))) (J:Code->AHeap->Option (List (List AV))->Prop)
  (hnames:∀xs,xs<+:items->∀i,(hget (I xs).1 i).isSome->p i=false) (hJ:∀c h3 g3,J c h3 g3->∀i,(hget h3 i).isSome->p i=false)
  (hlen:∀x∈items,x.length=ps.size) (hps:∀t∈ps.toList,t<cx.nt) (hfl:∀i,(hget s.h i).isSome->i<fl)
  (hround:∀xs x,(xs++ [x])<+:items->∀ (l:Nat) (r1:Rnd cx),AW (cx.inR l fl r1) assign (AsgK λs1=>∀r2:Rnd cx,AW (cx.inR l fl r2) body (zf (λh' g'=>leH h' (I (xs++ [x])).1/\inH (I (xs++ [x])).1 (idsH (I (xs++ [x])).1)/\g'=(I (xs++ [x])).2) J) s1)
   { t:=zfd ps.toList x (keepT (I xs).1 s.t),h:=(I xs).1,g:=(I xs).2 })
  (rec:LoopState->Option Code->Loop) (hrec:rec=λst pe=> { state:=st,pending:=pe,fn:=fn,tmps:=a.tmps,params:=ps,assign:=assign,body:=body,defers:=d }):
  ∀xs x X M N A w (vs:Array Value),zcb cx l d fl p E0 s.h w0 a.defers I J rec (some xs) M N A w->(∀b,M b\/N b\/A b->X b)->Reps w (bare X) [] x vs.toList->(xs++ [x])<+:items->
  zkG cx.P l vs w (λe w'=>∃b M',e= .returned (.bool b)/\w'.os=w.os/\w'.tape=w.tape/\w'.output=w.output/\w.heap.size<=w'.heap.size/\(∀k,k<w.heap.size->¬M k->w'.heap[k]?=w.heap[k]?)/\
   (∀k,M k->M' k)/\(∀k,M' k->M k\/(w.heap.size<=k/\k<w'.heap.size))/\zcb cx l d fl p E0 s.h w0 a.defers I J rec (if b=true then some (xs++ [x]) else none) M' N A w'):=by
 intro xs x X M N A w vs hG hX hr hpre;simp only [zcb] at hG;obtain ⟨E2,k,hrl⟩:=hG;have hmk:∀b,zaV a.defers b->b<w0.heap.size:=λb hb=>hs0.marks.lt hb
 have hxin:x∈items:=by obtain ⟨t,rfl⟩:=hpre;simp
 have hxl:=hlen x hxin
 have hvl:vs.size=ps.size:=by have:=Reps.length hr;simp at this;omega
 obtain ⟨Z,hZ⟩:∃Z:Nat->Prop,Z=λb=>A b\/b=l\/b=d\/zaV a.defers b:=⟨_,rfl⟩
 have zd:Z d:=by rw [hZ];exact .inr (.inr (.inl rfl))
 have zl:Z l:=by rw [hZ];exact .inr (.inl rfl)
 have zm:∀b,zaV a.defers b->Z b:=λb hb=>by rw [hZ];exact .inr (.inr (.inr hb))
 have hxpre:xs<+:items:=(List.prefix_append xs [x]).trans hpre;have hsz:=k.size
 have hmk2:∀b,zaV a.defers b->w.heap[b]?=some (.deferred (some [])):=λb ⟨dd,hdm,hdt⟩=>by obtain ⟨r,h1,h2,h3,h4⟩:=hs0.marks.1 dd hdm;rw [h1] at hdt;cases hdt;exact (k.far.keep b (Array.getElem?_eq_some_iff.1 h2).1 (hs0.hp.not_mark h2) h4).trans h2
 have hmM:∀b,zaV a.defers b->¬E2.M b:=λb hb hm=>by
  have hlt:=hmk b hb;obtain ⟨dd,hdm,hdt⟩:=hb;obtain ⟨r,h1,h2,h3,h4⟩:=hs0.marks.1 dd hdm;rw [h1] at hdt;cases hdt;rcases k.far.m2 b hm with h|h
  ·exact h4 h
  ·omega
 have hZM:∀b,Z b->¬Own E2 (I xs).1 b/\¬E2.M b/\b<w.heap.size:=λb hb=>by
  rw [hZ] at hb;rcases hb with hb|rfl|rfl|hb
  ·have hn:=(k.n2 b).2 (.inr (.inl hb));exact ⟨λho=>(k.hp.own b ho).2.2 hn,k.am b hb,k.hp.nlt b hn⟩
  ·refine ⟨λho=>?_,λhm=>?_,by omega⟩
   ·rcases k.own0 _ ho with h|h
    ·have:=(hs0.hp.own _ (zY h)).1;omega
    ·omega
   ·rcases k.m0 _ hm with h|h
    ·have:=hs0.hp.mlt _ h;omega
    ·omega
  ·refine ⟨λho=>?_,λhm=>?_,by omega⟩
   ·rcases k.own0 _ ho with h|h
    ·have:=(hs0.hp.own _ (zY h)).1;omega
    ·omega
   ·rcases k.m0 _ hm with h|h
    ·have:=hs0.hp.mlt _ h;omega
    ·omega
  ·exact ⟨k.hp.not_mark (hmk2 b hb),hmM b hb,(Array.getElem?_eq_some_iff.1 (hmk2 b hb)).1⟩
 have hX0:∀b c T fz,w0.heap[b]?=some (.cells c T fz)->Xs E2 (I xs).1 b->Xs E0 s.h b:=λb c T fz hc hx=>by
  have hb:=(Array.getElem?_eq_some_iff.1 hc).1;rcases hx with hx|hx|hx
  ·rcases k.far.own b hx with h|h
   ·exact .inl h
   ·omega
  ·rcases k.far.m2 b hx with h|h
   ·exact .inr (.inl h)
   ·omega
  ·rcases (k.n2 b).1 hx with h|h|h|h
   ·exact .inr (.inr h)
   ·rcases k.a1 b h with h|h
    ·exact .inl (zY h)
    ·omega
   ·omega
   ·omega
 have hK0:∀b c T fz,w0.heap[b]?=some (.cells c T fz)->¬Xs E0 s.h b->w.heap[b]?=some (.cells c T fz):=λb c T fz hc hx=>by
  rcases k.far.block b (Array.getElem?_eq_some_iff.1 hc).1 with h|h
  ·exact absurd h hx
  ·exact h.trans hc
 have hgo0:∀j,(hget (I xs).1 j).isSome->GoesOn E0 s.h E2 (I xs).1 j:=λj hj=>by
  by_cases hj0:(hget s.h j).isSome
  ·exact (k.far.go j (hfl j hj0) hj).2
  ·unfold GoesOn;split
   ·rename_i cs hh;exact (hj0 (by simp [hh])).elim
   ·rename_i k xs hh;exact (hj0 (by simp [hh])).elim
   ·rename_i l p hh;exact (hj0 (by simp [hh])).elim
   ·rename_i es hh;exact (hj0 (by simp [hh])).elim
   ·rename_i tt cs hh;exact (hj0 (by simp [hh])).elim
   ·rename_i tt cs hh;exact (hj0 (by simp [hh])).elim
   ·trivial
 have hsl0:Slots w E2 ⟨keepT (I xs).1 s.t,(I xs).1,(I xs).2⟩ a:=zke (g:=s.g) hs0.slots hX0 hK0 hgo0
 have hr2:Reps w E2 (I xs).1 x vs.toList:=Reps.stepc (E:=bare X) (h:= []) (λb c T fz hc hx=>by
   refine .inr (.inr ?_);rcases hx with hx|hx|hx
   ·exact hX b (.inl (k.m1 b (.inl hx)))
   ·exact hX b (.inl (k.m1 b (.inr hx)))
   ·rcases (k.n2 b).1 hx with h|h|h|h
    ·exact hX b (.inr (.inl ((k.n1 b).2 h)))
    ·exact hX b (.inr (.inr h))
    ·rw [h];exact hX l (.inl k.ml.1)
    ·rw [h];exact hX d (.inl k.ml.2)) (λ_ _ _ _ h _=>h) _ _ (λj _=>by simp [GoesOn,hget]) hr
 have hsl:=zhJ (a:=a) (g:=(I xs).2) ps.toList x vs.toList (keepT (I xs).1 s.t) a.tmps (by simp [hvl]) (λt ht=>by have:=hps t ht;rw [hs0.nt];exact this) hr2 hsl0;obtain ⟨tmps,htm⟩:∃tmps,tmps=(ps.toList.zip vs.toList).foldl (λ(t:Array Value) (q:Tmp×Value)=>t.setIfInBounds q.1 q.2) a.tmps:=⟨_,rfl⟩
 have htm2:(ps.zip vs).foldl (λ(t:Array Value) (x:Tmp×Value)=>match x with|(t',v)=>t.setIfInBounds t' v) a.tmps=tmps:=by rw [htm,<-Array.foldl_toList,Array.toList_zip]
 have htsz:∀ (l:List (Tmp×Value)) (t:Array Value),(l.foldl (λ(t:Array Value) (q:Tmp×Value)=>t.setIfInBounds q.1 q.2) t).size=t.size:=by
  intro l;induction l with
  |nil=>intro t;rfl
  |cons q l ih=>intro t;simp only [List.foldl_cons];rw [ih];simp
 have hrun:=run_yield (P:=cx.P) (args:=vs) hrl (by rw [hrec];exact hvl);rw [hrec] at hrun;dsimp only at hrun;rw [htm2] at hrun;obtain ⟨r1,hr1⟩:∃r1:Rnd cx,r1=rnd cx l d E0.N Z (rec .ready none) a.defers zd zl zm:=⟨_,rfl⟩
 have hsat1:Sat (cx.inR l fl r1) E2 { t:=zfd ps.toList x (keepT (I xs).1 s.t),h:=(I xs).1,g:=(I xs).2 } { tmps:=tmps,defers:= [] } w:=by
  refine ⟨λkk g v hk=>by rw [htm];exact hsl kk g v hk,?_,k.hp,Nat.le_trans hs0.base k.far.size,⟨by simp,by simp⟩,?_⟩
  ·show tmps.size=cx.nt;rw [htm,htsz];exact hs0.nt
  ·rw [hr1];show cx.G _ _ _ _ _/\_;refine ⟨?_,λb hb=>⟨λho=>?_,(hZM b hb).2⟩,hrl,k.dd,λb hb=>?_,hmk2⟩
   ·refine cx.stab _ _ _ _ _ w _ (λ_ _ _=>rfl) (λb hb=> .inl ?_) (λb hb=>?_) (Nat.le_refl _) rfl rfl rfl k.ghost
    ·rcases hb with (hb|⟨dd,hdd,_⟩)|hb
     ·exact .inl hb
     ·simp at hdd
     ·rw [hZ] at hb;exact .inr hb
    ·rcases hb with (hb|⟨dd,hdd,_⟩)|hb
     ·exact (k.hp.own b hb).1
     ·simp at hdd
     ·exact (hZM b hb).2.2
   ·rcases ho with ho|⟨dd,hdd,_⟩
    ·exact (hZM b hb).1 ho
    ·simp at hdd
   ·refine (k.n2 b).2 ?_;rcases hb with hb|⟨hb,hnm⟩
    ·exact .inl hb
    ·rw [hZ] at hb;rcases hb with hb|hb|hb|hb
     ·exact .inr (.inl hb)
     ·exact .inr (.inr (.inl hb))
     ·exact .inr (.inr (.inr hb))
     ·exact absurd hb hnm
 refine ⟨fn,tmps,assign,body,hrun,roundIn_of_wpIn trivial ?_⟩;refine wpIn_mono (hround xs x hpre l r1 E2 _ w hsat1) ?_;intro e a1 w1 hre;cases e with
 | normal=>
  obtain ⟨E3,s3,hbody,hs3,he3⟩:=hre;have hg3:=hs3.ghost;rw [hr1] at hg3;obtain ⟨q1,q2,q3,q4,q5,q6⟩:=hg3;have hbr:=run_beginRound (P:=cx.P) q3 (by rw [hrec]);refine ⟨_,hbr,?_⟩;obtain ⟨r2,hr2e⟩:∃r2:Rnd cx,r2=rnd cx l d E0.N Z { rec .ready none with state:= .busy } a.defers zd zl zm:=⟨_,rfl⟩
  have hne:∀b,b≠l->(w1.putObj l (.loop { rec .ready none with state:= .busy })).heap[b]?=w1.heap[b]?:=λb hb=>World.putObj_heap_other hb;have hdl:d≠l:=by omega
  have hsat2:Sat (cx.inR l fl r2) E3 s3 a1 (w1.putObj l (.loop { rec .ready none with state:= .busy })):=by
   refine znI _ hs3 q3 rfl rfl ?_;rw [hr2e]
   refine ⟨cx.stab _ _ _ _ _ w1 _ (λb _ hb=>hne b (λe=>hb (by rw [e];exact .inr zl))) (λb hb=> .inl hb) (λb hb=>?_) (by simp) rfl rfl rfl q1,λb hb=>⟨(q2 b hb).1,(q2 b hb).2.1,by simpa using (q2 b hb).2.2⟩,World.putObj_heap_same (Array.getElem?_eq_some_iff.1 q3).1,(hne d hdl).trans q4,q5,λb hb=>(hne b (λe=>by rw [e] at hb;have:=hmk _ hb;omega)).trans (q6 b hb)⟩
   rw [World.putObj_size];rcases hb with hb|hb
   ·rcases hb with hb|hb
    ·exact (hs3.hp.own b hb).1
    ·exact hs3.marks.lt hb
   ·exact (q2 b hb).2.2
  refine wpIn_mono (hbody r2 E3 a1 _ hsat2) ?_
  have fin:∀ (jump:Option Code) (a4:Act) (w3:World) (E4:Env) (s4:AS),Sat (cx.inR l fl r2) E4 s4 a4 w3->Evo fl E3 s3.h (w1.putObj l (.loop { rec .ready none with state:= .busy })) E4 s4.h w3->
    (∀w4,w4.heap[l]?=some (.loop (rec (if jump.isNone then .ready else .done) jump))->(∀h',SatH E4 h' w4->(∀b,Own E4 h' b->Own E4 s4.h b)->(∀i,(hget h' i).isSome->(hget s4.h i).isSome/\GoesOn E4 s4.h E4 h' i)->(∀i,(hget h' i).isSome->p i=false)->Kept cx l d fl p E0 s.h w0 a.defers (λb=>M b\/(w.heap.size<=b/\b<w4.heap.size)) N A E4 h' s4.g w4)->SatH E4 s4.h w4->
     zcb cx l d fl p E0 s.h w0 a.defers I J rec (if jump.isNone=true then some (xs++ [x]) else none) (λb=>M b\/(w.heap.size<=b/\b<w4.heap.size)) N A w4)->
    ∃v w',(Instr.endRound l jump).run cx.P w3= .ok v w'/\(∃b M',(Ending.returned v:Ending)= .returned (.bool b)/\w'.os=w.os/\w'.tape=w.tape/\w'.output=w.output/\w.heap.size<=w'.heap.size/\(∀k,k<w.heap.size->¬M k->w'.heap[k]?=w.heap[k]?)/\
     (∀k,M k->M' k)/\(∀k,M' k->M k\/(w.heap.size<=k/\k<w'.heap.size))/\zcb cx l d fl p E0 s.h w0 a.defers I J rec (if b=true then some (xs++ [x]) else none) M' N A w'):=by
   intro jump a4 w3 E4 s4 hs4 he4 hfin;have hg4:=hs4.ghost;rw [hr2e] at hg4;obtain ⟨t1,t2,t3,t4,t5,t6⟩:=hg4;have hend:=run_endRound (P:=cx.P) jump t3;obtain ⟨w4,hw4⟩:∃w4,w4=w3.putObj l (.loop (rec (if jump.isNone then .ready else .done) jump)):=⟨_,rfl⟩
   have hend':(Instr.endRound l jump).run cx.P w3= .ok (.bool jump.isNone) w4:=by rw [hend,hw4,hrec]
   have hl4:w4.heap[l]?=some (.loop (rec (if jump.isNone then .ready else .done) jump)):=by rw [hw4];exact World.putObj_heap_same (Array.getElem?_eq_some_iff.1 t3).1
   have hne4:∀b,b≠l->w4.heap[b]?=w3.heap[b]?:=λb hb=>by rw [hw4];exact World.putObj_heap_other hb
   have hG4:∀h',(∀b,Own E4 h' b->Own E4 s4.h b)->cx.G s4.g E4.M E0.N (λb=>Own E4 h' b\/A b\/b=l\/b=d\/zaV a.defers b) w4:=λh' hown=>by
    refine cx.stab _ _ _ _ _ w3 _ (λb _ hb=>hne4 b (λe=>hb (by rw [e];exact .inr zl))) (λb hb=> .inl ?_) (λb hb=>?_) (by rw [hw4];simp) (by rw [hw4];rfl) (by rw [hw4];rfl) (by rw [hw4];rfl) t1
    ·rcases hb with hb|hb
     ·exact .inl (.inl (hown b hb))
     ·exact .inr (by rw [hZ];exact hb)
    ·rw [hw4,World.putObj_size];rcases hb with hb|hb
     ·exact (hs4.hp.own b (hown b hb)).1
     ·exact (t2 b (by rw [hZ];exact hb)).2.2
   have hs4':SatH E4 s4.h w4:=by rw [hw4];exact (znI (cx1:=cx.inR l fl r2) (cx2:=cxOf cx.P cx.base cx.nt fl) _ hs4 t3 rfl rfl trivial).hp
   have hev:EvoL l fl E2 (I xs).1 w E4 s4.h w4:=by rw [hw4];exact ((he3.l.trans (EvoL.put _)).trans he4.l).trans (EvoL.put _)
   refine ⟨_,w4,hend',jump.isNone,λb=>M b\/(w.heap.size<=b/\b<w4.heap.size),rfl,hev.os,hev.tape,hev.output,hev.size,λkk hk hm=>hev.keep kk hk (λh=>hm (k.m1 kk (.inl h))) (λh=>hm (k.m1 kk (.inr h))) (λe=>hm (by rw [e];exact k.ml.1)),λkk hk=> .inl hk,λkk hk=>hk,?_⟩;exact hfin w4 hl4 (λh' hs' hown hgo hn=>k.round hl hd hev hs4' hs' hown hgo hn ((hne4 d hdl).trans t4) (hG4 h' hown)) hs4'
  rintro e a4 w3 hr4;cases e with
  | normal=>
   obtain ⟨E4,s4,⟨hle,hin,hgg⟩,hs4,he4⟩:=hr4;refine fin none a4 w3 E4 s4 hs4 he4 (λw4 hl4 hk4 hs4'=>?_);simp only [Option.isNone_none,if_true,zcb]
   have:=hk4 (I (xs++ [x])).1 (hs4'.le hle hin) (λb hb=>zie hle hb) (λi hg=>⟨by obtain ⟨o',ho'⟩:=Option.isSome_iff_exists.1 hg;obtain ⟨o,ho,_⟩:=zdi hle ho';simp [ho],zdK hle hg⟩) (hnames _ hpre)
   rw [hgg] at this;exact ⟨E4,this,hl4⟩
  |ret=>
   obtain ⟨E4,s4,hj,hs4,he4⟩:=hr4;refine fin (some .ret) a4 w3 E4 s4 hs4 he4 (λw4 hl4 hk4 hs4'=>?_);simp only [Option.isNone_some,Bool.false_eq_true,if_false,zcb];exact ⟨E4,_,_,_,hk4 s4.h hs4' (λ_ h=>h) (λi h=>⟨h,GoesOn.refl E4 _ i⟩) (hJ _ _ _ hj),hl4,hj⟩
  |exit id=>
   obtain ⟨E4,s4,hj,hs4,he4⟩:=hr4;refine fin (some (.exit id)) a4 w3 E4 s4 hs4 he4 (λw4 hl4 hk4 hs4'=>?_);simp only [Option.isNone_some,Bool.false_eq_true,if_false,zcb];exact ⟨E4,_,_,_,hk4 s4.h hs4' (λ_ h=>h) (λi h=>⟨h,GoesOn.refl E4 _ i⟩) (hJ _ _ _ hj),hl4,hj⟩
  |goto id=>
   obtain ⟨E4,s4,hj,hs4,he4⟩:=hr4;refine fin (some (.goto id)) a4 w3 E4 s4 hs4 he4 (λw4 hl4 hk4 hs4'=>?_);simp only [Option.isNone_some,Bool.false_eq_true,if_false,zcb];exact ⟨E4,_,_,_,hk4 s4.h hs4' (λ_ h=>h) (λi h=>⟨h,GoesOn.refl E4 _ i⟩) (hJ _ _ _ hj),hl4,hj⟩
  |panic ch=>obtain ⟨_,_,h,_⟩:=hr4;exact h.elim
  |outgrown=>obtain ⟨_,_,h,_⟩:=hr4;exact h.elim
 |ret=>obtain ⟨_,_,h,_⟩:=hre;exact h.elim
 |exit id=>obtain ⟨_,_,h,_⟩:=hre;exact h.elim
 |goto id=>obtain ⟨_,_,h,_⟩:=hre;exact h.elim
 |panic ch=>obtain ⟨_,_,h,_⟩:=hre;exact h.elim
 |outgrown=>obtain ⟨_,_,h,_⟩:=hre;exact h.elim
end
end Go.Aw
