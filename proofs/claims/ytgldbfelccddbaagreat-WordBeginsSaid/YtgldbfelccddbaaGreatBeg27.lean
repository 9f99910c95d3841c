/-
 Options and texts with their lengths, read: the program's opt.Read, opt.ToBegin.
-/
import Derived.Test.YtgldbfelccddbaaGreatBeg22
import Derived.Test.YtgldbfelccddbaaGreatBeg17
set_option maxRecDepth 100000
set_option maxHeartbeats 2000000
set_option linter.unusedSimpArgs false
set_option linter.unusedVariables false
namespace Go.Aw
open Go Go.Proofs Go.Proofs.YtgldbfelccddbaaGreat
def rdE (w:World):Env:= { O:=fun i=>if i=4 then some (w.heap.size+1+1+1) else none,C:=fun _=>0,M:=fun _=>False,N:=fun _=>False }
abbrev zjU (w:World) (o0 o1 o2:Obj) (s:Txt):World:=(((w.alloc o0).alloc o1).alloc o2).alloc (.cells #[.string ⟨s.toArray⟩] 419)
theorem zaH (w:World) (o:Obj) {b:Nat} (h:b<w.heap.size):(w.alloc o).heap[b]?=w.heap[b]?:=by
 simp only [World.alloc,Array.getElem?_push]
 rw [if_neg (by omega)]
theorem zjV (w:World) (o0 o1 o2:Obj) (s:Txt):SatH (rdE w) (rdH s) (zjU w o0 o1 o2 s) where
 heap:=fun i o ho=>by
  simp only [hget] at ho
  split at ho
  ·rename_i e
   cases ho
   subst e
   simp only [RepObj]
   refine ⟨w.heap.size+1+1+1,#[.string ⟨s.toArray⟩],419,(0,0),rfl,?_,by simp [Reps,Rep,RepD],by simp [zY]⟩
   have:=World.alloc_heap_new (((w.alloc o0).alloc o1).alloc o2) (.cells #[.string ⟨s.toArray⟩] 419)
   simpa using this
  ·cases ho
 inj:=fun i j b h1 h2 _ _=>by
  simp only [hget] at h1 h2
  split at h1<;>split at h2<;>simp_all
 own:=fun b ⟨i,_,hb⟩=>by
  simp only [rdE] at hb
  split at hb
  ·cases hb
   exact ⟨by simp,fun h=>h,fun h=>h⟩
  ·cases hb
 mlt:=fun _ h=>h.elim
 nlt:=fun _ h=>h.elim
structure RdEnd (w W:World) (o0 o1 o2:Obj):Prop where
 g:Grown w W
 b0:W.heap[w.heap.size]?=some o0
 b1:W.heap[w.heap.size+1]?=some o1
 b2:W.heap[w.heap.size+1+1]?=some o2
 lt:w.heap.size+1+1<W.heap.size
theorem zjW {w W:World} {o0 o1 o2:Obj} {s:Txt} {E':Env} {h':AHeap} (e:EvoC 5 (rdE w) (rdH s) (zjU w o0 o1 o2 s) E' h' W):RdEnd w W o0 o1 o2:=by
 have hsz:=e.size
 simp only [World.size_alloc] at hsz
 have hk:∀b,b<w.heap.size+1+1+1→W.heap[b]?=(zjU w o0 o1 o2 s).heap[b]?:=fun b hb=>e.keep b (by simp only [World.size_alloc];omega) (fun ⟨i,_,ho⟩=>by
  simp only [rdE] at ho
  split at ho
  ·cases ho;omega
  ·cases ho)
 refine ⟨⟨e.os,e.tape,e.output,by omega,fun b hb=>?_⟩,?_,?_,?_,by omega⟩
 ·rw [hk b (by omega),zaH _ _ (by simp only [World.size_alloc];omega),zaH _ _ (by simp only [World.size_alloc];omega),zaH _ _ (by simp only [World.size_alloc];omega),zaH _ _ hb]
 ·rw [hk _ (by omega),zaH _ _ (by simp only [World.size_alloc];omega),zaH _ _ (by simp only [World.size_alloc];omega),zaH _ _ (by simp only [World.size_alloc];omega)]
  exact World.alloc_heap_new w o0
 ·rw [hk _ (by omega),zaH _ _ (by simp only [World.size_alloc];omega),zaH _ _ (by simp only [World.size_alloc];omega)]
  simpa using World.alloc_heap_new (w.alloc o0) o1
 ·rw [hk _ (by omega),zaH _ _ (by simp only [World.size_alloc];omega)]
  simpa using World.alloc_heap_new ((w.alloc o0).alloc o1) o2
theorem zjX (w:World) (o0 o1 o2:Obj) (s:Txt):Reps (zjU w o0 o1 o2 s) (rdE w) (rdH s) [.vp 4 0] (#[.pointer (some ⟨w.heap.size+1+1+1,0,none⟩)]:Array Value).toList:=by
 simp only [Reps,Rep]
 exact ⟨_,_,rfl,⟨_,_,rfl,rfl,rfl⟩,rfl⟩
theorem zmS {w W W0:World} {E':Env} {s t:Txt} (hs:SatH E' (rdH t) W) (e:EvoC 5 (rdE w) (rdH s) W0 E' (rdH t) W):W.cell? ⟨w.heap.size+1+1+1,0,none⟩=some (.string ⟨t.toArray⟩):=by
 have hg:=(e.go 4 (by omega) rfl).2
 have ho:=hs.heap 4 _ rfl
 simp only [GoesOn,hget,if_true] at hg
 simp only [RepObj] at ho
 obtain ⟨b,c,T,fz,h1,h2,h3,h4⟩:=ho
 rw [hg.1] at h1
 simp only [rdE,if_true,Option.some.injEq] at h1
 subst h1
 simp only [Reps,Rep,RepD] at h3
 obtain ⟨v,r,h5,rfl,rfl⟩:=h3
 rw [zn h2,← Array.getElem?_toList,h5]
 rfl
theorem zeX {P:Program} {f:FuncId} {args:List AV} {r:AV} (hen:zbj P f) (hc:∀ (w:World) (E:Env) (vs:Array Value),Reps w E [] args vs.toList→Calls P f vs w (fun e w'=>∃v,e= .returned v∧Grown w w'∧∀W E h,Rep W E h r v)):ACall P f 0 args [] (fun r' _=>r'=r):=by
 refine ⟨hen,fun E w vs hs hr=>(hc w E vs hr).mono ?_⟩
 rintro e w' ⟨v,rfl,hg,hv⟩
 exact ⟨v,E,r,[],rfl,rfl,⟨fun i o ho=>by simp [hget] at ho,fun i j b hi=>by simp [hget] at hi,fun b ⟨i,hi,_⟩=>by simp [hget] at hi,fun b hb=>Nat.lt_of_lt_of_le (hs.mlt b hb) hg.size,fun b hb=>Nat.lt_of_lt_of_le (hs.nlt b hb) hg.size⟩,hv _ _ _,
  ⟨hg.os,hg.tape,hg.output,hg.size,fun b hb _=>hg.keep b hb,fun b ⟨i,hi,_⟩=>by simp [hget] at hi,rfl,rfl,fun i hi=>absurd hi (by omega)⟩⟩
theorem zqB (s:Txt) (hs:s.length≤9223372036854775807) (h:(toBeg s).2.2=0):ACall Tryz.prog 391 5 [.vp 4 0] (rdH s) (fun r h'=>r= .d (.str (toBeg s).1)∧h'=rdH (toBeg s).2.1):=by
 have hu:numAt s 0 4<4294967296:=z8 s 0 4
 unfold toBeg at h ⊢
 split at h
 ·cases h
 rename_i h4
 split at h
 ·cases h
 rename_i hn
 rw [if_neg h4,if_neg hn]
 refine bod Tryz.func391 Tryz.ntmps391 (fun base=>?_)
 refine' zc fx
 refine ((zjT s 4294967296 hs (by omega) (by omega) (by omega)).whole (zat rfl) (Nat.le_refl _) (fun _ _ hk _=>zdK hk.2)).mono ?_
 rintro r h' ⟨rfl,rfl⟩
 simp only [go_sem,aeq,aeq.aeqF,simprocAttr]
 refine' zc fx
 all_goals trace_state
theorem zpL (s:Txt) (hs:s.length≤9223372036854775807) (h:(toBeg s).2.2≠0):APan Tryz.prog 391 5 [.vp 4 0] (rdH s) (thrown (toBeg s).2.2):=by
 have hu:numAt s 0 4<4294967296:=z8 s 0 4
 have hp:APan Tryz.prog 237 5 [.vp 4 0,.d (.int .i64 4294967296)] (rdH s) (thrown (toBeg s).2.2):=by
  refine zhV s _ _ hs ?_
  unfold toBeg at h ⊢
  split
  ·rename_i h4;exact .inl ⟨h4,rfl⟩
  rename_i h4
  rw [if_neg h4] at h
  split
  ·rename_i hn;exact .inr ⟨by omega,.inr ⟨by omega,hn,rfl⟩⟩
  rename_i hn
  rw [if_neg hn] at h
  exact absurd rfl h
 refine pbod Tryz.func391 Tryz.ntmps391 (fun base=>?_)
 refine' zar (zP 1) fx
 refine zT noTab (za _) 1 (fun _=>by rfl) ?_
 simp only [go_sem,aeq,aeq.aeqF,simprocAttr]
 exact hp
theorem zom (s:Txt) (hs:s.length≤9223372036854775807):ACall Tryz.prog 390 0 [.d (.str s),.fn (.func 391) [] []] [] (fun r _=>r= .tup [.d (.str (toBeg s).1),.d (.str (toBeg s).2.1),.d (.int .i64 (toBeg s).2.2)]):=by
 refine zeX (zbA Tryz.func390 (by kernel_rfl) rfl) (fun w E vs hr=>?_)
 simp only [Reps,Rep,RepD] at hr
 obtain ⟨v0,r0,e0,rfl,v1,r1,rfl,⟨a,b,rfl,ha,hb⟩,rfl⟩:=hr
 obtain rfl:a= #[]:=by simpa using ha
 obtain rfl:b= #[]:=by simpa using hb
 obtain rfl:vs= #[.string ⟨s.toArray⟩,.func (.func 391) #[] #[]]:=by cases vs;simpa using e0
 by_cases h:(toBeg s).2.2=0
 ·refine (zmO ⟨s.toArray⟩ ⟨(toBeg s).1.toArray⟩ ⟨(toBeg s).2.1.toArray⟩ w (((zqB s hs h).2 (rdE w) _ _ (zjV w _ _ _ s) (zjX w _ _ _ s)).mono ?_)).mono ?_
  ·rintro e W ⟨v,E',r,h',rfl,⟨rfl,rfl⟩,hsE,hv,hevo⟩
   simp only [Rep,RepD] at hv
   subst hv
   have hE:=zjW hevo
   exact ⟨rfl,⟨hE.g,by rw [zn hE.b0];rfl,by rw [zn hE.b1];rfl,by rw [zn hE.b2];rfl,by rw [zy hE.b0];rfl,by rw [zy hE.b1];rfl,by rw [zy hE.b2];rfl⟩,zmS hsE hevo⟩
  ·rintro e w' ⟨rfl,hg⟩
   refine ⟨_,rfl,hg,fun W E h'=>?_⟩
   simp only [Rep,Reps,RepD,h]
   exact ⟨_,rfl,_,_,rfl,rfl,_,_,rfl,rfl,_,_,rfl,rfl,rfl⟩
 ·refine (zmP ⟨s.toArray⟩ (toBeg s).2.2 w (((zpL s hs h).2 (rdE w) _ _ (zjV w _ _ _ s) (zjX w _ _ _ s)).mono ?_)).mono ?_
  ·rintro e W ⟨E',h',rfl,hsE,hevo⟩
   have hE:=zjW hevo
   exact ⟨rfl,⟨hE.g,by rw [zn hE.b0];rfl,by rw [zn hE.b1];rfl,by rw [zn hE.b2];rfl,by rw [zy hE.b0];rfl,by rw [zy hE.b1];rfl,by rw [zy hE.b2];rfl⟩⟩
  ·rintro e w' ⟨rfl,hg⟩
   have hz:(toBeg s).1= []∧(toBeg s).2.1= []:=by
    unfold toBeg at h ⊢
    split
    ·exact ⟨rfl,rfl⟩
    rename_i h4
    rw [if_neg h4] at h
    split
    ·exact ⟨rfl,rfl⟩
    rename_i hn
    rw [if_neg hn] at h
    exact absurd rfl h
   refine ⟨_,rfl,hg,fun W E h'=>?_⟩
   simp only [Rep,Reps,RepD,hz]
   exact ⟨_,rfl,_,_,rfl,rfl,_,_,rfl,rfl,_,_,rfl,rfl,rfl⟩
theorem zon (s:Txt) (hs:s.length≤9223372036854775807):AC 350 [.d (.str s)] (.tup [.d (.str (toBeg s).1),.d (.str (toBeg s).2.1),.d (.int .i64 (toBeg s).2.2)]):=by
 refine fbod Tryz.func350 Tryz.ntmps350 (fun base=>?_)
 refine' zc fx
 refine (zbo (zom s hs)).mono ?_
 rintro r h' ⟨rfl,rfl⟩
 simp only [go_sem,aeq,aeq.aeqF,simprocAttr]
 refine' zc fx
@[go_sem] noncomputable def zcs:Ent Tryz.prog 350:= .m1 strT zon
theorem zbJ (s:Txt) (a i k:Nat):numAt (s.drop a) i k=numAt s (a+i) k:=by
 unfold numAt
 rw [List.drop_drop]
theorem zdL {s:Txt} (h:(optRd s).2.2=0):s.take 8=optHd∧16+numAt s 12 4≤s.length∧numAt s 12 4≤4096∧optRd s=((((numAt s 8 4:Nat):Int),(s.drop 16).take (numAt s 12 4)),s.drop (16+numAt s 12 4),0):=by
 unfold optRd at h ⊢
 split at h
 ·cases h
 rename_i h1
 split at h
 ·cases h
 rename_i h2
 split at h
 ·cases h
 rename_i h3
 split at h
 ·cases h
 rename_i h4
 rw [if_neg h1,if_neg h2,if_neg h3,if_neg h4]
 refine ⟨?_,by omega,by omega,rfl⟩
 rw [Classical.not_not.1 h1,List.take_of_length_le (show optHd.length≤s.length by show 8≤s.length;omega)]
theorem zdk {s:Txt} :∀j∈(AObj.var [.d (.str s)]).ids,j=4:=by simp [AObj.ids,AV.idsL,AV.ids]
theorem zqC (s:Txt) (hs:s.length≤9223372036854775807) (h:(optRd s).2.2=0):ACall Tryz.prog 234 5 [.vp 4 0] (rdH s) (fun r h'=>r= .agg [.d (.int .u32 (optRd s).1.1),.d (.str (optRd s).1.2)]∧h'=rdH (optRd s).2.1):=by
 obtain ⟨h1,h2,h3,h4⟩:=zdL h
 rw [h4]
 refine za7 (fun i=>decide (i<5)) ?_
 refine bod Tryz.func234 Tryz.ntmps234 (fun base=>?_)
 refine' zc fx
 refine (zan (zjR s hs (by omega) h1) (by decide) rfl zdk (by simp [AV.idsL,AV.ids])).mono ?_
 rintro r h' ⟨rfl,rfl⟩
 simp only [go_sem,aeq,aeq.aeqF,simprocAttr]
 refine' zc fx
 refine (zan (zek (s.drop 8) (by rw [List.length_drop];omega) (by rw [List.length_drop];omega)) (by decide) rfl zdk (by simp [AV.idsL,AV.ids])).mono ?_
 rintro r h' ⟨rfl,rfl⟩
 simp only [go_sem,aeq,aeq.aeqF,simprocAttr]
 have e2:numAt ((s.drop 8).drop 4) 0 4=numAt s 12 4:=by rw [zbJ,zbJ]
 refine (zan (zjT ((s.drop 8).drop 4) 4096 (by simp only [List.length_drop];omega) (by simp only [List.length_drop];omega) (by rw [e2];omega) (by rw [e2];simp only [List.length_drop];omega)) (by decide) rfl zdk (by simp [AV.idsL,AV.ids])).mono ?_
 rintro r h' ⟨rfl,rfl⟩
 rw [e2]
 simp only [go_sem,aeq,aeq.aeqF,simprocAttr]
 rw [zbJ,List.drop_drop,List.drop_drop,List.drop_drop,List.drop_drop,show 8+(4+(4+numAt s 12 4))=16+numAt s 12 4 by omega]
 refine' zc fx
theorem zpM (s:Txt) (hs:s.length≤9223372036854775807) (h:(optRd s).2.2≠0):APan Tryz.prog 234 5 [.vp 4 0] (rdH s) (thrown (optRd s).2.2):=by
 have hu:numAt s 12 4<4294967296:=z8 s 12 4
 refine pbod Tryz.func234 Tryz.ntmps234 (fun base=>?_)
 refine' zar (zP 1) fx
 by_cases h1:s.take 8=optHd.take s.length
 case neg=>
  rw [optRd,if_pos h1]
  refine zT noTab (za _) 1 (fun _=>by rfl) ?_
  simp only [go_sem,aeq,aeq.aeqF,simprocAttr]
  exact zej (zmL s hs h1) rfl zdk (by simp [AV.idsL,AV.ids])
 by_cases h8:s.length<8
 ·rw [optRd,if_neg (fun e=>e h1),if_pos (by omega)]
  refine zT noTab (za _) 1 (fun _=>by rfl) ?_
  simp only [go_sem,aeq,aeq.aeqF,simprocAttr]
  exact zej (ziT s h8 h1) rfl zdk (by simp [AV.idsL,AV.ids])
 have he:s.take 8=optHd:=by rw [h1,List.take_of_length_le (show optHd.length≤s.length by show 8≤s.length;omega)]
 refine' zc fx
 refine (zan (zjR s hs (by omega) he) (by decide) rfl zdk (by simp [AV.idsL,AV.ids])).mono ?_
 rintro r h' ⟨rfl,rfl⟩
 simp only [go_sem,aeq,aeq.aeqF,simprocAttr]
 refine' zar (zP 2) fx
 by_cases h12:s.length<12
 ·rw [optRd,if_neg (fun e=>e h1),if_pos (by omega)]
  refine zT noTab (za _) 1 (fun _=>by rfl) ?_
  simp only [go_sem,aeq,aeq.aeqF,simprocAttr]
  exact zej (zhT (s.drop 8) (by rw [List.length_drop];omega)) rfl zdk (by simp [AV.idsL,AV.ids])
 have e2:numAt ((s.drop 8).drop 4) 0 4=numAt s 12 4:=by rw [zbJ,zbJ]
 have hdl:((s.drop 8).drop 4).length=s.length - 12:=by simp only [List.length_drop];omega
 have hp:APan Tryz.prog 237 5 [.vp 4 0,.d (.int .i64 4096)] (rdH ((s.drop 8).drop 4)) (thrown (optRd s).2.2):=by
  refine zhV _ _ _ (by omega) ?_
  rw [e2,hdl]
  unfold optRd at h ⊢
  rw [if_neg (fun e=>e h1)] at h ⊢
  split
  ·rename_i h4;exact .inl ⟨by omega,rfl⟩
  rename_i h4
  rw [if_neg h4] at h
  split
  ·rename_i h5;exact .inr ⟨by omega,.inl ⟨by omega,rfl⟩⟩
  rename_i h5
  rw [if_neg h5] at h
  split
  ·rename_i h6;exact .inr ⟨by omega,.inr ⟨by omega,by omega,rfl⟩⟩
  rename_i h6
  rw [if_neg h6] at h
  exact absurd rfl h
 refine zT noTab (za _) 3 (fun _=>by rfl) ?_
 simp only [go_sem,aeq,aeq.aeqF,simprocAttr]
 refine (zan (zek (s.drop 8) (by rw [List.length_drop];omega) (by rw [List.length_drop];omega)) (by decide) rfl zdk (by simp [AV.idsL,AV.ids])).mono ?_
 rintro r h' ⟨rfl,rfl⟩
 simp only [go_sem,aeq,aeq.aeqF,simprocAttr]
 exact zej hp rfl zdk (by simp [AV.idsL,AV.ids])
theorem zmT {s:Txt} (h:(optRd s).2.2≠0):(optRd s).1=(0,[])∧(optRd s).2.1= []:=by
 unfold optRd at h ⊢
 split
 ·exact ⟨rfl,rfl⟩
 rename_i h1
 rw [if_neg h1] at h
 split
 ·exact ⟨rfl,rfl⟩
 rename_i h2
 rw [if_neg h2] at h
 split
 ·exact ⟨rfl,rfl⟩
 rename_i h3
 rw [if_neg h3] at h
 split
 ·exact ⟨rfl,rfl⟩
 rename_i h4
 rw [if_neg h4] at h
 exact absurd rfl h
theorem zoo (s:Txt) (hs:s.length≤9223372036854775807):ACall Tryz.prog 233 0 [.d (.str s),.fn (.func 234) [] []] [] (fun r _=>r= .tup [.agg [.d (.int .u32 (optRd s).1.1),.d (.str (optRd s).1.2)],.d (.str (optRd s).2.1),.d (.int .i64 (optRd s).2.2)]):=by
 refine zeX (zbA Tryz.func233 (by kernel_rfl) rfl) (fun w E vs hr=>?_)
 simp only [Reps,Rep,RepD] at hr
 obtain ⟨v0,r0,e0,rfl,v1,r1,rfl,⟨a,b,rfl,ha,hb⟩,rfl⟩:=hr
 obtain rfl:a= #[]:=by simpa using ha
 obtain rfl:b= #[]:=by simpa using hb
 obtain rfl:vs= #[.string ⟨s.toArray⟩,.func (.func 234) #[] #[]]:=by cases vs;simpa using e0
 have c4:∀ {W:World},RdEnd w W (.cells #[.int .u32 0,.string ⟨#[]⟩] 177) (.cells #[.string ⟨#[]⟩] 9) (.cells #[.int .i64 0] 77)→Cells4 W w.heap.size (.int .u32 0) (.string ⟨#[]⟩) (.string ⟨#[]⟩) (.int .i64 0):=fun hE=>
  ⟨by rw [zn hE.b0];rfl,by rw [zn hE.b0];rfl,by rw [zn hE.b1];rfl,by rw [zn hE.b2];rfl,by rw [zy hE.b0];rfl,by rw [zy hE.b0];rfl,by rw [zy hE.b1];rfl,by rw [zy hE.b2];rfl⟩
 by_cases h:(optRd s).2.2=0
 ·refine (zmQ (optRd s).1.1 ⟨s.toArray⟩ ⟨(optRd s).1.2.toArray⟩ ⟨(optRd s).2.1.toArray⟩ w (((zqC s hs h).2 (rdE w) _ _ (zjV w _ _ _ s) (zjX w _ _ _ s)).mono ?_)).mono ?_
  ·rintro e W ⟨v,E',r,h',rfl,⟨rfl,rfl⟩,hsE,hv,hevo⟩
   simp only [Rep,Reps,RepD] at hv
   obtain ⟨vs,rfl,_,_,e1,rfl,_,_,rfl,rfl,rfl⟩:=hv
   have hE:=zjW hevo
   obtain rfl:vs= #[.int .u32 (optRd s).1.1,.string ⟨(optRd s).1.2.toArray⟩]:=by cases vs;simpa using e1
   exact ⟨rfl,hE.g,c4 hE,zmS hsE hevo⟩
  ·rintro e w' ⟨rfl,hg⟩
   refine ⟨_,rfl,hg,fun W E h'=>?_⟩
   simp only [Rep,Reps,RepD,h]
   exact ⟨_,rfl,_,_,rfl,⟨_,rfl,_,_,rfl,rfl,_,_,rfl,rfl,rfl⟩,_,_,rfl,rfl,_,_,rfl,rfl,rfl⟩
 ·refine (zmR ⟨s.toArray⟩ (optRd s).2.2 w (((zpM s hs h).2 (rdE w) _ _ (zjV w _ _ _ s) (zjX w _ _ _ s)).mono ?_)).mono ?_
  ·rintro e W ⟨E',h',rfl,hsE,hevo⟩
   have hE:=zjW hevo
   exact ⟨rfl,hE.g,hE.lt,c4 hE⟩
  ·rintro e w' ⟨rfl,hg⟩
   obtain ⟨hz1,hz2⟩:=zmT h
   refine ⟨_,rfl,hg,fun W E h'=>?_⟩
   simp only [Rep,Reps,RepD,hz1,hz2]
   exact ⟨_,rfl,_,_,rfl,⟨_,rfl,_,_,rfl,rfl,_,_,rfl,rfl,rfl⟩,_,_,rfl,rfl,_,_,rfl,rfl,rfl⟩
theorem zkQ (s:Txt) (hs:s.length≤9223372036854775807):AC 173 [.d (.str s)] (.tup [.agg [.d (.int .u32 (optRd s).1.1),.d (.str (optRd s).1.2)],.d (.str (optRd s).2.1),.d (.int .i64 (optRd s).2.2)]):=by
 refine fbod Tryz.func173 Tryz.ntmps173 (fun base=>?_)
 refine' zc fx
 refine (zbo (zoo s hs)).mono ?_
 rintro r h' ⟨rfl,rfl⟩
 simp only [go_sem,aeq,aeq.aeqF,simprocAttr]
 refine' zc fx
@[go_sem] noncomputable def zbr:Ent Tryz.prog 173:= .m1 strT zkQ
end Go.Aw
