/-
 Parts of the proof: lemmas.
-/
import Derived.Test.YtgldbfelccddbaaGreatPart18
import Derived.Test.YtgldbfelccddbaaGreatPart22
set_option maxRecDepth 100000
set_option maxHeartbeats 2000000
set_option linter.unusedSimpArgs false
set_option linter.unusedVariables false
namespace Go.Aw
open Go Go.Proofs Go.Proofs.YtgldbfelccddbaaGreat
def rdE (w:World):Env:= { O:=fun i=>if i=4 then some (w.heap.size+1+1+1) else none,C:=fun _=>0,M:=fun _=>False,N:=fun _=>False }
abbrev zpY (w:World) (o0 o1 o2:Obj) (s:Txt):World:=(((w.alloc o0).alloc o1).alloc o2).alloc (.cells #[.string ⟨s.toArray⟩] 419)
theorem zcr (w:World) (o:Obj) {b:Nat} (h:b<w.heap.size):(w.alloc o).heap[b]?=w.heap[b]?:=by
 simp only [World.alloc,Array.getElem?_push]
 rw [if_neg (by omega)]
theorem zpZ (w:World) (o0 o1 o2:Obj) (s:Txt):SatH (rdE w) (rdH s) (zpY w o0 o1 o2 s) where
 heap:=fun i o ho=>by
  simp only [hget] at ho
  split at ho
  ·rename_i e
   cases ho
   subst e
   simp only [RepObj]
   refine ⟨w.heap.size+1+1+1,#[.string ⟨s.toArray⟩],419,(0,0),rfl,?_,by simp [Reps,Rep,RepD],by simp [za8]⟩
   have:=World.alloc_heap_new (((w.alloc o0).alloc o1).alloc o2) (.cells #[.string ⟨s.toArray⟩] 419)
   simpa using this
  ·cases ho
 inj:=fun i j b h1 h2 _ _=>by
  simp only [hget] at h1 h2
  split at h1<;>split at h2<;>simp_all
 own:=fun b ⟨i,_,hb⟩=>by
  simp only [rdE] at hb
  split at hb
  ·cases hb
   exact ⟨by simp,fun h=>h,fun h=>h⟩
  ·cases hb
 mlt:=fun _ h=>h.elim
 nlt:=fun _ h=>h.elim
structure RdEnd (w W:World) (o0 o1 o2:Obj):Prop where
 g:Grown w W
 b0:W.heap[w.heap.size]?=some o0
 b1:W.heap[w.heap.size+1]?=some o1
 b2:W.heap[w.heap.size+1+1]?=some o2
 lt:w.heap.size+1+1<W.heap.size
theorem zp0 {w W:World} {o0 o1 o2:Obj} {s:Txt} {E':Env} {h':AHeap} (e:EvoC 5 (rdE w) (rdH s) (zpY w o0 o1 o2 s) E' h' W):RdEnd w W o0 o1 o2:=by
 have hsz:=e.size
 simp only [World.size_alloc] at hsz
 have hk:∀b,b<w.heap.size+1+1+1→W.heap[b]?=(zpY w o0 o1 o2 s).heap[b]?:=fun b hb=>e.keep b (by simp only [World.size_alloc];omega) (fun ⟨i,_,ho⟩=>by
  simp only [rdE] at ho
  split at ho
  ·cases ho;omega
  ·cases ho)
 refine ⟨⟨e.os,e.tape,e.output,by omega,fun b hb=>?_⟩,?_,?_,?_,by omega⟩
 ·rw [hk b (by omega),zcr _ _ (by simp only [World.size_alloc];omega),zcr _ _ (by simp only [World.size_alloc];omega),zcr _ _ (by simp only [World.size_alloc];omega),zcr _ _ hb]
 ·rw [hk _ (by omega),zcr _ _ (by simp only [World.size_alloc];omega),zcr _ _ (by simp only [World.size_alloc];omega),zcr _ _ (by simp only [World.size_alloc];omega)]
  exact World.alloc_heap_new w o0
 ·rw [hk _ (by omega),zcr _ _ (by simp only [World.size_alloc];omega),zcr _ _ (by simp only [World.size_alloc];omega)]
  simpa using World.alloc_heap_new (w.alloc o0) o1
 ·rw [hk _ (by omega),zcr _ _ (by simp only [World.size_alloc];omega)]
  simpa using World.alloc_heap_new ((w.alloc o0).alloc o1) o2
theorem zp1 (w:World) (o0 o1 o2:Obj) (s:Txt):Reps (zpY w o0 o1 o2 s) (rdE w) (rdH s) [.vp 4 0] (#[.pointer (some ⟨w.heap.size+1+1+1,0,none⟩)]:Array Value).toList:=by
 simp only [Reps,Rep]
 exact ⟨_,_,rfl,⟨_,_,rfl,rfl,rfl⟩,rfl⟩
theorem zt1 {w W W0:World} {E':Env} {s t:Txt} (hs:SatH E' (rdH t) W) (e:EvoC 5 (rdE w) (rdH s) W0 E' (rdH t) W):W.cell? ⟨w.heap.size+1+1+1,0,none⟩=some (.string ⟨t.toArray⟩):=by
 have hg:=(e.go 4 (by omega) rfl).2
 have ho:=hs.heap 4 _ rfl
 simp only [GoesOn,hget,if_true] at hg
 simp only [RepObj] at ho
 obtain ⟨b,c,T,fz,h1,h2,h3,h4⟩:=ho
 rw [hg.1] at h1
 simp only [rdE,if_true,Option.some.injEq] at h1
 subst h1
 simp only [Reps,Rep,RepD] at h3
 obtain ⟨v,r,h5,rfl,rfl⟩:=h3
 rw [zx h2,← Array.getElem?_toList,h5]
 rfl
theorem ziF {P:Program} {f:FuncId} {args:List AV} {r:AV} (hen:zdG P f) (hc:∀ (w:World) (E:Env) (vs:Array Value),Reps w E [] args vs.toList→Calls P f vs w (fun e w'=>∃v,e= .returned v∧Grown w w'∧∀W E h,Rep W E h r v)):ACall P f 0 args [] (fun r' _=>r'=r):=by
 refine ⟨hen,fun E w vs hs hr=>(hc w E vs hr).mono ?_⟩
 rintro e w' ⟨v,rfl,hg,hv⟩
 exact ⟨v,E,r,[],rfl,rfl,⟨fun i o ho=>by simp [hget] at ho,fun i j b hi=>by simp [hget] at hi,fun b ⟨i,hi,_⟩=>by simp [hget] at hi,fun b hb=>Nat.lt_of_lt_of_le (hs.mlt b hb) hg.size,fun b hb=>Nat.lt_of_lt_of_le (hs.nlt b hb) hg.size⟩,hv _ _ _,
  ⟨hg.os,hg.tape,hg.output,hg.size,fun b hb _=>hg.keep b hb,fun b ⟨i,hi,_⟩=>by simp [hget] at hi,rfl,rfl,fun i hi=>absurd hi (by omega)⟩⟩
theorem zyU (s:Txt) (hs:s.length≤9223372036854775807) (h:(toBeg s).2.2=0):ACall Tryz.prog 391 5 [.vp 4 0] (rdH s) (fun r h'=>r= .d (.str (toBeg s).1)∧h'=rdH (toBeg s).2.1):=by
 have hu:numAt s 0 4<4294967296:=za1 s 0 4
 unfold toBeg at h ⊢
 split at h
 ·cases h
 rename_i h4
 split at h
 ·cases h
 rename_i hn
 rw [if_neg h4,if_neg hn]
 refine bod Tryz.func391 Tryz.ntmps391 (fun base=>?_)
 refine' zc fx
 refine ((zpW s 4294967296 hs (by omega) (by omega) (by omega)).whole (zbK rfl) (Nat.le_refl _) (fun _ _ hk _=>zg5 hk.2)).mono ?_
 rintro r h' ⟨rfl,rfl⟩
 simp only [go_sem,aeq,aeq.aeqF,simprocAttr]
 refine' zc fx
 all_goals trace_state
theorem zx3 (s:Txt) (hs:s.length≤9223372036854775807) (h:(toBeg s).2.2≠0):APan Tryz.prog 391 5 [.vp 4 0] (rdH s) (thrown (toBeg s).2.2):=by
 have hu:numAt s 0 4<4294967296:=za1 s 0 4
 have hp:APan Tryz.prog 237 5 [.vp 4 0,.d (.int .i64 4294967296)] (rdH s) (thrown (toBeg s).2.2):=by
  refine zmH s _ _ hs ?_
  unfold toBeg at h ⊢
  split
  ·rename_i h4;exact .inl ⟨h4,rfl⟩
  rename_i h4
  rw [if_neg h4] at h
  split
  ·rename_i hn;exact .inr ⟨by omega,.inr ⟨by omega,hn,rfl⟩⟩
  rename_i hn
  rw [if_neg hn] at h
  exact absurd rfl h
 refine pbod Tryz.func391 Tryz.ntmps391 (fun base=>?_)
 refine' zad (zN 1) fx
 refine zaW noTab (zb _) 1 (fun _=>by rfl) ?_
 simp only [go_sem,aeq,aeq.aeqF,simprocAttr]
 exact hp
theorem zwm (s:Txt) (hs:s.length≤9223372036854775807):ACall Tryz.prog 390 0 [.d (.str s),.fn (.func 391) [] []] [] (fun r _=>r= .tup [.d (.str (toBeg s).1),.d (.str (toBeg s).2.1),.d (.int .i64 (toBeg s).2.2)]):=by
 refine ziF (zdp Tryz.func390 (by kernel_rfl) rfl) (fun w E vs hr=>?_)
 simp only [Reps,Rep,RepD] at hr
 obtain ⟨v0,r0,e0,rfl,v1,r1,rfl,⟨a,b,rfl,ha,hb⟩,rfl⟩:=hr
 obtain rfl:a= #[]:=by simpa using ha
 obtain rfl:b= #[]:=by simpa using hb
 obtain rfl:vs= #[.string ⟨s.toArray⟩,.func (.func 391) #[] #[]]:=by cases vs;simpa using e0
 by_cases h:(toBeg s).2.2=0
 ·refine (ztQ ⟨s.toArray⟩ ⟨(toBeg s).1.toArray⟩ ⟨(toBeg s).2.1.toArray⟩ w (((zyU s hs h).2 (rdE w) _ _ (zpZ w _ _ _ s) (zp1 w _ _ _ s)).mono ?_)).mono ?_
  ·rintro e W ⟨v,E',r,h',rfl,⟨rfl,rfl⟩,hsE,hv,hevo⟩
   simp only [Rep,RepD] at hv
   subst hv
   have hE:=zp0 hevo
   exact ⟨rfl,⟨hE.g,by rw [zx hE.b0];rfl,by rw [zx hE.b1];rfl,by rw [zx hE.b2];rfl,by rw [z6 hE.b0];rfl,by rw [z6 hE.b1];rfl,by rw [z6 hE.b2];rfl⟩,zt1 hsE hevo⟩
  ·rintro e w' ⟨rfl,hg⟩
   refine ⟨_,rfl,hg,fun W E h'=>?_⟩
   simp only [Rep,Reps,RepD,h]
   exact ⟨_,rfl,_,_,rfl,rfl,_,_,rfl,rfl,_,_,rfl,rfl,rfl⟩
 ·refine (ztR ⟨s.toArray⟩ (toBeg s).2.2 w (((zx3 s hs h).2 (rdE w) _ _ (zpZ w _ _ _ s) (zp1 w _ _ _ s)).mono ?_)).mono ?_
  ·rintro e W ⟨E',h',rfl,hsE,hevo⟩
   have hE:=zp0 hevo
   exact ⟨rfl,⟨hE.g,by rw [zx hE.b0];rfl,by rw [zx hE.b1];rfl,by rw [zx hE.b2];rfl,by rw [z6 hE.b0];rfl,by rw [z6 hE.b1];rfl,by rw [z6 hE.b2];rfl⟩⟩
  ·rintro e w' ⟨rfl,hg⟩
   have hz:(toBeg s).1= []∧(toBeg s).2.1= []:=by
    unfold toBeg at h ⊢
    split
    ·exact ⟨rfl,rfl⟩
    rename_i h4
    rw [if_neg h4] at h
    split
    ·exact ⟨rfl,rfl⟩
    rename_i hn
    rw [if_neg hn] at h
    exact absurd rfl h
   refine ⟨_,rfl,hg,fun W E h'=>?_⟩
   simp only [Rep,Reps,RepD,hz]
   exact ⟨_,rfl,_,_,rfl,rfl,_,_,rfl,rfl,_,_,rfl,rfl,rfl⟩
theorem zwn (s:Txt) (hs:s.length≤9223372036854775807):AC 350 [.d (.str s)] (.tup [.d (.str (toBeg s).1),.d (.str (toBeg s).2.1),.d (.int .i64 (toBeg s).2.2)]):=by
 refine fbod Tryz.func350 Tryz.ntmps350 (fun base=>?_)
 refine' zc fx
 refine (zaJ (zwm s hs)).mono ?_
 rintro r h' ⟨rfl,rfl⟩
 simp only [go_sem,aeq,aeq.aeqF,simprocAttr]
 refine' zc fx
@[go_sem] noncomputable def zfr:Ent Tryz.prog 350:= .m1 strT zwn
theorem zd6 (s:Txt) (a i k:Nat):numAt (s.drop a) i k=numAt s (a+i) k:=by
 unfold numAt
 rw [List.drop_drop]
theorem zd7 {s:Txt} (h:(optRd s).2.2=0):s.take 8=optHd∧16+numAt s 12 4≤s.length∧numAt s 12 4≤4096∧optRd s=((((numAt s 8 4:Nat):Int),(s.drop 16).take (numAt s 12 4)),s.drop (16+numAt s 12 4),0):=by
 unfold optRd at h ⊢
 split at h
 ·cases h
 rename_i h1
 split at h
 ·cases h
 rename_i h2
 split at h
 ·cases h
 rename_i h3
 split at h
 ·cases h
 rename_i h4
 rw [if_neg h1,if_neg h2,if_neg h3,if_neg h4]
 refine ⟨?_,by omega,by omega,rfl⟩
 rw [Classical.not_not.1 h1,List.take_of_length_le (show optHd.length≤s.length by show 8≤s.length;omega)]
theorem zgu {s:Txt} :∀j∈(AObj.var [.d (.str s)]).ids,j=4:=by simp [AObj.ids,AV.idsL,AV.ids]
theorem zyV (s:Txt) (hs:s.length≤9223372036854775807) (h:(optRd s).2.2=0):ACall Tryz.prog 234 5 [.vp 4 0] (rdH s) (fun r h'=>r= .agg [.d (.int .u32 (optRd s).1.1),.d (.str (optRd s).1.2)]∧h'=rdH (optRd s).2.1):=by
 obtain ⟨h1,h2,h3,h4⟩:=zd7 h
 rw [h4]
 refine za6 (fun i=>decide (i<5)) ?_
 refine bod Tryz.func234 Tryz.ntmps234 (fun base=>?_)
 refine' zc fx
 refine (zhq (zpU s hs (by omega) h1) (by decide) rfl zgu (by simp [AV.idsL,AV.ids])).mono ?_
 rintro r h' ⟨rfl,rfl⟩
 simp only [go_sem,aeq,aeq.aeqF,simprocAttr]
 refine' zc fx
 refine (zhq (zhS (s.drop 8) (by rw [List.length_drop];omega) (by rw [List.length_drop];omega)) (by decide) rfl zgu (by simp [AV.idsL,AV.ids])).mono ?_
 rintro r h' ⟨rfl,rfl⟩
 simp only [go_sem,aeq,aeq.aeqF,simprocAttr]
 have e2:numAt ((s.drop 8).drop 4) 0 4=numAt s 12 4:=by rw [zd6,zd6]
 refine (zhq (zpW ((s.drop 8).drop 4) 4096 (by simp only [List.length_drop];omega) (by simp only [List.length_drop];omega) (by rw [e2];omega) (by rw [e2];simp only [List.length_drop];omega)) (by decide) rfl zgu (by simp [AV.idsL,AV.ids])).mono ?_
 rintro r h' ⟨rfl,rfl⟩
 rw [e2]
 simp only [go_sem,aeq,aeq.aeqF,simprocAttr]
 rw [zd6,List.drop_drop,List.drop_drop,List.drop_drop,List.drop_drop,show 8+(4+(4+numAt s 12 4))=16+numAt s 12 4 by omega]
 refine' zc fx
theorem zx4 (s:Txt) (hs:s.length≤9223372036854775807) (h:(optRd s).2.2≠0):APan Tryz.prog 234 5 [.vp 4 0] (rdH s) (thrown (optRd s).2.2):=by
 have hu:numAt s 12 4<4294967296:=za1 s 12 4
 refine pbod Tryz.func234 Tryz.ntmps234 (fun base=>?_)
 refine' zad (zN 1) fx
 by_cases h1:s.take 8=optHd.take s.length
 case neg=>
  rw [optRd,if_pos h1]
  refine zaW noTab (zb _) 1 (fun _=>by rfl) ?_
  simp only [go_sem,aeq,aeq.aeqF,simprocAttr]
  exact zhR (ztN s hs h1) rfl zgu (by simp [AV.idsL,AV.ids])
 by_cases h8:s.length<8
 ·rw [optRd,if_neg (fun e=>e h1),if_pos (by omega)]
  refine zaW noTab (zb _) 1 (fun _=>by rfl) ?_
  simp only [go_sem,aeq,aeq.aeqF,simprocAttr]
  exact zhR (zou s h8 h1) rfl zgu (by simp [AV.idsL,AV.ids])
 have he:s.take 8=optHd:=by rw [h1,List.take_of_length_le (show optHd.length≤s.length by show 8≤s.length;omega)]
 refine' zc fx
 refine (zhq (zpU s hs (by omega) he) (by decide) rfl zgu (by simp [AV.idsL,AV.ids])).mono ?_
 rintro r h' ⟨rfl,rfl⟩
 simp only [go_sem,aeq,aeq.aeqF,simprocAttr]
 refine' zad (zN 2) fx
 by_cases h12:s.length<12
 ·rw [optRd,if_neg (fun e=>e h1),if_pos (by omega)]
  refine zaW noTab (zb _) 1 (fun _=>by rfl) ?_
  simp only [go_sem,aeq,aeq.aeqF,simprocAttr]
  exact zhR (zmF (s.drop 8) (by rw [List.length_drop];omega)) rfl zgu (by simp [AV.idsL,AV.ids])
 have e2:numAt ((s.drop 8).drop 4) 0 4=numAt s 12 4:=by rw [zd6,zd6]
 have hdl:((s.drop 8).drop 4).length=s.length - 12:=by simp only [List.length_drop];omega
 have hp:APan Tryz.prog 237 5 [.vp 4 0,.d (.int .i64 4096)] (rdH ((s.drop 8).drop 4)) (thrown (optRd s).2.2):=by
  refine zmH _ _ _ (by omega) ?_
  rw [e2,hdl]
  unfold optRd at h ⊢
  rw [if_neg (fun e=>e h1)] at h ⊢
  split
  ·rename_i h4;exact .inl ⟨by omega,rfl⟩
  rename_i h4
  rw [if_neg h4] at h
  split
  ·rename_i h5;exact .inr ⟨by omega,.inl ⟨by omega,rfl⟩⟩
  rename_i h5
  rw [if_neg h5] at h
  split
  ·rename_i h6;exact .inr ⟨by omega,.inr ⟨by omega,by omega,rfl⟩⟩
  rename_i h6
  rw [if_neg h6] at h
  exact absurd rfl h
 refine zaW noTab (zb _) 3 (fun _=>by rfl) ?_
 simp only [go_sem,aeq,aeq.aeqF,simprocAttr]
 refine (zhq (zhS (s.drop 8) (by rw [List.length_drop];omega) (by rw [List.length_drop];omega)) (by decide) rfl zgu (by simp [AV.idsL,AV.ids])).mono ?_
 rintro r h' ⟨rfl,rfl⟩
 simp only [go_sem,aeq,aeq.aeqF,simprocAttr]
 exact zhR hp rfl zgu (by simp [AV.idsL,AV.ids])
theorem zt2 {s:Txt} (h:(optRd s).2.2≠0):(optRd s).1=(0,[])∧(optRd s).2.1= []:=by
 unfold optRd at h ⊢
 split
 ·exact ⟨rfl,rfl⟩
 rename_i h1
 rw [if_neg h1] at h
 split
 ·exact ⟨rfl,rfl⟩
 rename_i h2
 rw [if_neg h2] at h
 split
 ·exact ⟨rfl,rfl⟩
 rename_i h3
 rw [if_neg h3] at h
 split
 ·exact ⟨rfl,rfl⟩
 rename_i h4
 rw [if_neg h4] at h
 exact absurd rfl h
theorem zwo (s:Txt) (hs:s.length≤9223372036854775807):ACall Tryz.prog 233 0 [.d (.str s),.fn (.func 234) [] []] [] (fun r _=>r= .tup [.agg [.d (.int .u32 (optRd s).1.1),.d (.str (optRd s).1.2)],.d (.str (optRd s).2.1),.d (.int .i64 (optRd s).2.2)]):=by
 refine ziF (zdp Tryz.func233 (by kernel_rfl) rfl) (fun w E vs hr=>?_)
 simp only [Reps,Rep,RepD] at hr
 obtain ⟨v0,r0,e0,rfl,v1,r1,rfl,⟨a,b,rfl,ha,hb⟩,rfl⟩:=hr
 obtain rfl:a= #[]:=by simpa using ha
 obtain rfl:b= #[]:=by simpa using hb
 obtain rfl:vs= #[.string ⟨s.toArray⟩,.func (.func 234) #[] #[]]:=by cases vs;simpa using e0
 have c4:∀ {W:World},RdEnd w W (.cells #[.int .u32 0,.string ⟨#[]⟩] 177) (.cells #[.string ⟨#[]⟩] 9) (.cells #[.int .i64 0] 77)→Cells4 W w.heap.size (.int .u32 0) (.string ⟨#[]⟩) (.string ⟨#[]⟩) (.int .i64 0):=fun hE=>
  ⟨by rw [zx hE.b0];rfl,by rw [zx hE.b0];rfl,by rw [zx hE.b1];rfl,by rw [zx hE.b2];rfl,by rw [z6 hE.b0];rfl,by rw [z6 hE.b0];rfl,by rw [z6 hE.b1];rfl,by rw [z6 hE.b2];rfl⟩
 by_cases h:(optRd s).2.2=0
 ·refine (ztS (optRd s).1.1 ⟨s.toArray⟩ ⟨(optRd s).1.2.toArray⟩ ⟨(optRd s).2.1.toArray⟩ w (((zyV s hs h).2 (rdE w) _ _ (zpZ w _ _ _ s) (zp1 w _ _ _ s)).mono ?_)).mono ?_
  ·rintro e W ⟨v,E',r,h',rfl,⟨rfl,rfl⟩,hsE,hv,hevo⟩
   simp only [Rep,Reps,RepD] at hv
   obtain ⟨vs,rfl,_,_,e1,rfl,_,_,rfl,rfl,rfl⟩:=hv
   have hE:=zp0 hevo
   obtain rfl:vs= #[.int .u32 (optRd s).1.1,.string ⟨(optRd s).1.2.toArray⟩]:=by cases vs;simpa using e1
   exact ⟨rfl,hE.g,c4 hE,zt1 hsE hevo⟩
  ·rintro e w' ⟨rfl,hg⟩
   refine ⟨_,rfl,hg,fun W E h'=>?_⟩
   simp only [Rep,Reps,RepD,h]
   exact ⟨_,rfl,_,_,rfl,⟨_,rfl,_,_,rfl,rfl,_,_,rfl,rfl,rfl⟩,_,_,rfl,rfl,_,_,rfl,rfl,rfl⟩
 ·refine (ztT ⟨s.toArray⟩ (optRd s).2.2 w (((zx4 s hs h).2 (rdE w) _ _ (zpZ w _ _ _ s) (zp1 w _ _ _ s)).mono ?_)).mono ?_
  ·rintro e W ⟨E',h',rfl,hsE,hevo⟩
   have hE:=zp0 hevo
   exact ⟨rfl,hE.g,hE.lt,c4 hE⟩
  ·rintro e w' ⟨rfl,hg⟩
   obtain ⟨hz1,hz2⟩:=zt2 h
   refine ⟨_,rfl,hg,fun W E h'=>?_⟩
   simp only [Rep,Reps,RepD,hz1,hz2]
   exact ⟨_,rfl,_,_,rfl,⟨_,rfl,_,_,rfl,rfl,_,_,rfl,rfl,rfl⟩,_,_,rfl,rfl,_,_,rfl,rfl,rfl⟩
theorem zrh (s:Txt) (hs:s.length≤9223372036854775807):AC 173 [.d (.str s)] (.tup [.agg [.d (.int .u32 (optRd s).1.1),.d (.str (optRd s).1.2)],.d (.str (optRd s).2.1),.d (.int .i64 (optRd s).2.2)]):=by
 refine fbod Tryz.func173 Tryz.ntmps173 (fun base=>?_)
 refine' zc fx
 refine (zaJ (zwo s hs)).mono ?_
 rintro r h' ⟨rfl,rfl⟩
 simp only [go_sem,aeq,aeq.aeqF,simprocAttr]
 refine' zc fx
@[go_sem] noncomputable def zdR:Ent Tryz.prog 173:= .m1 strT zrh
open Go Go.Proofs
theorem zt3 (n:Int) (hp:0≤n∧n≤4294967295):AC 354 [.d (.int .u32 n)] (.d (.str (putS8 n 4))):=by
 obtain ⟨h0,h1⟩:=hp
 refine fbod Tryz.func354 Tryz.ntmps354 (fun base=>?_)
 have hw:IntKind.u64.wrap n=n:=zA (by omega) (by omega)
 refine' walkW hw (za za0 <| zb _)
@[go_sem] noncomputable def zfW:Ent Tryz.prog 354:= .m1 (intT .u32) zt3
theorem zwp (n:Int) (hp:0≤n∧n≤4294967295):AC 349 [.d (.int .i64 n)] (.d (.str (putS8 n 4))):=by
 obtain ⟨h0,h1⟩:=hp
 refine fbod Tryz.func349 Tryz.ntmps349 (fun base=>?_)
 have hw:IntKind.u64.wrap n=n:=zA (by omega) (by omega)
 have hw2:IntKind.u32.wrap n=n:=zbT (by omega) (by omega)
 refine' walkW (zj hw hw2) (za za0 <| zb _)
@[go_sem] noncomputable def zri:Ent Tryz.prog 349:= .m1 (intT .i64) zwp
theorem zcF (n:Int):(putS8 n 4).length=4:=by rw [zeR,zu]
theorem zwq (s:Txt) (hs:s.length≤4294967295):AC 297 [.d (.str s)] (.d (.str (zd4 s))):=by
 refine fbod Tryz.func297 Tryz.ntmps297 (fun base=>?_)
 have hl:=zcF s.length
 refine' walkW fx (za zri <| zb _)
 all_goals rfl
@[go_sem] noncomputable def zcG:Ent Tryz.prog 297:= .m1 strT zwq
def frmB (l:List Int):Txt:=l.flatMap fun n=>putS8 n 4
def ze2 (hd data:Txt) (l:List Int):Txt×Int:=if 4096<data.length then ([],11) else (hd++frmB l++zd4 data,0)
theorem zp2:∀l:List Int,(frmB l).length=4*l.length
 | []=>rfl
 |n::l=>by
  have:=zp2 l
  unfold frmB at this ⊢
  rw [List.flatMap_cons,List.length_append,zcF,this,List.length_cons]
  omega
theorem zt4 (hd data:Txt) (l:List Int) (hh:hd.length≤100) (hl:l.length≤10) (hn:∀n∈l,0≤n∧n≤4294967295):ACall Tryz.prog 302 0 [.d (.str hd),.d (.str data),.d (.sl 1 (l.map u32D))] [] (fun r _=>r= .tup [.d (.str (ze2 hd data l).1),.d (.int .i64 (ze2 hd data l).2)]):=by
 refine fbod Tryz.func302 Tryz.ntmps302 (fun base=>?_)
 cases hs:decide ((4096:Int)<(data.length:Int)) with
 |true=>
  have hs2:4096<data.length:=by have:=of_decide_eq_true hs;omega
  refine' zc hs
  rw [ze2,if_pos hs2]
 | false=>
  have hs2:¬4096<data.length:=by have:=of_decide_eq_false hs;omega
  refine' zad (zN 4) hs
  refine ziw 0 1 rfl rfl ?_
  simp only [go_sem,aeq,aeq.aeqF,simprocAttr]
  refine' zc fx
  refine (zdP (i:=0) (j:=1) (o:=0) (T:=180) (cs:= [.d .nilp,.bsl 1 0]) (xs:= []) rfl (.inl rfl) rfl rfl rfl zg4 (by simp;omega)).mono ?_
  rintro r h' ⟨rfl,rfl⟩
  simp only [go_sem,aeq,aeq.aeqF,simprocAttr]
  refine' zc fx
  refine zk (fun q: { i:Nat // i≤l.length } =>⟨[(0,true,.d (.str hd)),(1,true,.d (.str data)),(8,true,.tp 0 0),(16,true,.d (.sl 1 (l.map u32D))),(17,true,.d (.int .i64 l.length)),(18,true,.d (.int .i64 q.1))],[(1,.buf 5 (hd++frmB (l.take q.1))),(0,.tvar 180 [.tp 0 0,.bsl 1 (hd.length+(frmB (l.take q.1)).length)])],some []⟩) (fun q=>l.length - q.1) ⟨0,Nat.zero_le _⟩ (by simp only [AS.le,leT,leH,zf,AsgK,AV.le,AV.leL,AObj.le,inH,idsT,idsH,AV.ids,AV.idsL,AV.idsR,AObj.ids,lk,hget,go_sem,aeq,aeq.aeqF,simprocAttr,List.take_zero,frmB,List.flatMap_nil,Nat.add_zero]<;>and_intros<;>rfl) (fun q=>?_)
  obtain ⟨i,hi⟩:=q
  simp only at hi ⊢
  have hfl:=zp2 (l.take i)
  rw [List.length_take] at hfl
  rcases zy u32D l i hi with ⟨m,hq,hlt,hcmp,hrow,hdr,htk⟩|⟨hend,hcmp⟩
  ·simp only [u32D] at hrow
   have hwi:=zn (i:=i) (by omega)
   have hm:=hn m (List.mem_of_getElem? hq)
   have hsn:frmB (l.take (i+1))=frmB (l.take i)++putS8 m 4:=by rw [htk];simp [frmB]
   refine' walkW (zE hcmp hrow hm.1 hm.2) (za zfW <| za zcG <| zb _)
   refine (zdP (i:=0) (j:=1) (o:=0) (T:=180) (cs:= [.tp 0 0,.bsl 1 (hd.length+(frmB (l.take i)).length)]) (xs:=hd++frmB (l.take i)) rfl (.inr rfl) rfl rfl (by simp) zg4 (by rw [zcF,List.length_append];omega)).mono ?_
   rintro r h' ⟨rfl,rfl⟩
   refine' zc fx
   exact ⟨⟨i+1,by omega⟩,by simp only [AS.le,leT,leH,zf,AsgK,AV.le,AV.leL,AObj.le,inH,idsT,idsH,AV.ids,AV.idsL,AV.idsR,AObj.ids,lk,hget,go_sem,aeq,aeq.aeqF,simprocAttr,hwi,hsn,List.length_append,List.append_assoc,Nat.add_assoc],by simp;omega⟩
  ·subst hend
   simp only [List.take_length] at hfl ⊢
   have hob:(zd4 data).length=4+data.length:=by rw [zd4,List.length_append,zcF]
   refine' walkW hcmp (za zfW <| za zcG <| zb _)
   refine (ziv (i:=0) (j:=1) (o:=0) (T:=180) (cs:= [.tp 0 0,.bsl 1 (hd.length+(frmB l).length)]) (xs:=hd++frmB l) rfl rfl rfl (by simp) (by rw [List.length_append];omega)).mono ?_
   rintro r h' ⟨rfl,rfl⟩
   simp only [go_sem,aeq,aeq.aeqF,simprocAttr,hset]
   refine' walkW fx (za zfW <| za zcG <| zb _)
   all_goals first|(rw [List.length_append];omega)|rw [ze2,if_neg hs2]
theorem zrj (o k:Int) (data:Txt):(ze2 ansHd data [o,k]).1=sayS o k data:=by
 unfold ze2 sayS
 split
 ·rfl
 ·simp [frmB,zd4]
theorem zt5 (o k:Int) (data:Txt) (h0:0≤o) (h1:o≤4294967295) (h2:0≤k) (h3:k≤4294967295):ACall Tryz.prog 244 0 [.agg [.d (.int .u32 o),.d (.int .u32 k),.d (.str data)]] [] (fun r _=>r= .tup [.d (.str (sayS o k data)),.d (.int .i64 (ze2 ansHd data [o,k]).2)]):=by
 refine fbod Tryz.func244 Tryz.ntmps244 (fun base=>?_)
 refine' zad (zN 1) fx
 refine zdW noTab (zb _) 7 1 (fun K hK=>?_)
 simp only [go_sem,aeq,aeq.aeqF,simprocAttr]
 refine ⟨_,rfl,?_⟩
 simp only [go_sem,aeq,aeq.aeqF,simprocAttr]
 refine (zaJ (zt4 ansHd data [o,k] (by decide) (by simp) (by simp;omega))).mono ?_
 rintro r h' ⟨rfl,rfl⟩
 simp only [go_sem,aeq,aeq.aeqF,simprocAttr]
 refine' zc fx
 rw [zrj]
@[go_sem] noncomputable def ziG:Ent Tryz.prog 244:= .ofL (consL (aggT (consL (intT .u32) (consL (intT .u32) (consL strT nilL))) (fun p=>p) (fun p=>p) (fun _=>rfl)) nilL) (fun ((o,k,data,_),_)=>(0≤o)∧(o≤4294967295)∧(0≤k)∧(k≤4294967295)) (fun ((o,k,data,_),_)=> .tup [.d (.str (sayS o k data)),.d (.int .i64 (ze2 ansHd data [o,k]).2)]) (fun ((o,k,data,_),_) hp=>⟨rfl,zt5 o k data hp.1 hp.2.1 hp.2.2.1 hp.2.2.2⟩)
theorem zoB (size:Int) (names:List Txt) (hl:names.length≤1000000) (hn:∀s∈names,s.length≤1000000):ACall Tryz.prog 300 0 [.agg [.d (.int .u64 size),.d (.sl 1 (names.map strD))]] [] (fun r _=>r= .d (.sl 1 ((ctxs names).map strD))):=by
 refine fbod Tryz.func300 Tryz.ntmps300 (fun base=>?_)
 refine' zc fx
 refine zk (fun q: { i:Nat // i≤names.length } =>⟨[(3,true,.osl 1 1 (q.1+1) 0 (q.1+1)),(8,true,.d (.sl 1 (names.map strD))),(9,true,.d (.int .i64 names.length)),(10,true,.d (.int .i64 q.1))],[(1,.arr 1 ((ctxs (names.take q.1)).map strD)),(0,.var [.d (.int .u64 size),.d (.sl 1 (names.map strD))])],some []⟩) (fun q=>names.length - q.1) ⟨0,Nat.zero_le _⟩ le1 (fun q=>?_)
 obtain ⟨i,hi⟩:=q
 simp only at hi ⊢
 have hcl:((ctxs (names.take i)).map strD).length=i+1:=by simp [ctxs];omega
 rcases zy strD names i hi with ⟨m,hq,hlt,hcmp,hrow,hdr,htk⟩|⟨hend,hcmp⟩
 ·simp only [strD] at hrow
  have hwi:=zn (i:=i) (by omega)
  have hm:=hn m (List.mem_of_getElem? hq)
  have hsn:(ctxs (names.take (i+1))).map strD=(ctxs (names.take i)).map strD++ [[.str (zjV++m)]]:=by rw [htk];simp [ctxs,strD]
  refine' zc (zq hcmp hrow hcl)
  exact ⟨⟨i+1,by omega⟩,by simp only [AS.le,leT,leH,zf,AsgK,AV.le,AV.leL,AObj.le,inH,idsT,idsH,AV.ids,AV.idsL,AV.idsR,AObj.ids,lk,hget,go_sem,aeq,aeq.aeqF,simprocAttr,hwi,hsn,zjV],by simp;omega⟩
 ·subst hend
  simp only [List.take_length] at hcl ⊢
  refine' zc (zj hcmp hcl)
  rw [List.take_of_length_le (Nat.le_of_eq hcl)]
@[go_sem] noncomputable def zaO:Ent Tryz.prog 300:= .ofL (consL (aggT (consL (intT .u64) (consL (slT 1 strD zeh) nilL)) (fun p=>p) (fun p=>p) (fun _=>rfl)) nilL) (fun ((size,names,_),_)=>(names.length≤1000000)∧(∀s∈names,s.length≤1000000)) (fun ((size,names,_),_)=> .d (.sl 1 ((ctxs names).map strD))) (fun ((size,names,_),_) hp=>⟨rfl,zoB size names hp.1 hp.2⟩)
theorem zcU (s:Txt):(toBeg s).2.1.length≤s.length:=by
 unfold toBeg
 split
 ·exact Nat.zero_le _
 split
 ·exact Nat.zero_le _
 ·simp only [List.length_drop];omega
theorem zt6 (s:Txt) (hs:s.length≤1000000):AC 299 [.d (.str s)] (.tup [.d (.str (zbq s).1),.d (.sl 1 ((zbq s).2.1.map strD)),.d (.int .i64 (zbq s).2.2)]):=by
 refine fbod Tryz.func299 Tryz.ntmps299 (fun base=>?_)
 obtain ⟨T,hT⟩:∃T,T=zbq s:=⟨_,rfl⟩
 rw [← hT]
 obtain ⟨B,hB⟩:∃B,B=toBeg s:=⟨_,rfl⟩
 rw [zbq,← hB] at hT
 have hBl:B.2.1.length≤1000000:=by rw [hB];exact Nat.le_trans (zcU s) hs
 have hZk:takeS B.2.1 4=if B.2.1.length<4 then (0,[],22) else (((numAt B.2.1 0 4:Nat):Int),B.2.1.drop 4,0):=by
  rw [takeS,if_neg (by decide)]
  by_cases h4:B.2.1.length<4
  ·rw [if_pos h4,if_pos (by omega)]
  ·rw [if_neg h4,if_neg (by omega)];rfl
 obtain ⟨Z,hZe⟩:∃Z,Z=takeS B.2.1 4:=⟨_,rfl⟩
 rw [← hZe] at hZk
 refine' walkW (zj hB.symm hZe.symm) (za zfr <| za zbN <| zb _)
 ·rw [if_pos] at hT
  ·rw [hT];rfl
  ·rw [hZk] at hc
   by_cases h4:B.2.1.length<4
   ·exact .inr (.inl h4)
   ·rw [if_neg h4] at hc
    simp only [Bool.or_eq_true,bne_iff_ne,decide_eq_true_eq] at hc
    omega
 simp only [Bool.or_eq_false_iff,bne_eq_false_iff_eq,decide_eq_false_iff_not] at hc
 obtain ⟨⟨hc1,hc2⟩,hc3⟩:=hc
 have h4:¬B.2.1.length<4:=fun h4=>by rw [hZk,if_pos h4] at hc2;cases hc2
 rw [if_neg h4] at hZk
 obtain ⟨n,hn⟩:∃n,n=numAt B.2.1 0 4:=⟨_,rfl⟩
 rw [← hn] at hZk hT
 subst hZk
 simp only at hc3 ⊢
 have hn1:n≤1000:=by omega
 rw [if_neg (by omega)] at hT
 refine zaI 9 1 rfl ?_
 simp only [go_sem,aeq,aeq.aeqF,simprocAttr]
 refine zk (fun q: { q:Nat×List Txt×Txt // q.1≤n∧q.2.1.length=q.1∧q.2.2.length≤1000000∧zc7 n [] (B.2.1.drop 4)=zc7 (n - q.1) q.2.1 q.2.2 } =>⟨[(0,true,.d (.str q.1.2.2)),(5,true,.d (.str B.1)),(9,true,.osl 0 1 q.1.1 0 q.1.1),(33,true,.d (.int .u64 n)),(34,true,.d (.int .u64 q.1.1))],[(0,.arr 1 (q.1.2.1.map strD))],some []⟩) (fun q=>n - q.1.1) ⟨(0,[],B.2.1.drop 4),Nat.zero_le _,rfl,by simp only [List.length_drop];omega,rfl⟩ le1 (fun q=>?_)
 obtain ⟨⟨i,l,r⟩,hi,hl,hr,hg⟩:=q
 simp only at hi hl hr hg ⊢
 have hll:(l.map strD).length=i:=by rw [List.length_map,hl]
 have hw:IntKind.u64.wrap ((i:Int)+1)=((i+1:Nat):Int):=by rw [zA (by omega) (by omega)];omega
 rcases Nat.lt_or_ge i n with hlt|hge
 ·have hcmp:decide ((i:Int)<(n:Int))=true:=decide_eq_true (by omega)
  obtain ⟨D',hD⟩:∃D,D=toBeg r:=⟨_,rfl⟩
  have hDl:D'.2.1.length≤1000000:=by rw [hD];exact Nat.le_trans (zcU r) hr
  have hgo:zc7 (n - i) l r=if D'.2.2≠0 then none else zc7 (n - (i+1)) (l++ [D'.1]) D'.2.1:=by
   rw [show n - i=(n - (i+1))+1 by omega,zc7,← hD]
  rw [hgo] at hg
  refine' walkW (zq hcmp hD.symm hll) (za zfr <| za zbN <| zb _)
  ·rw [hg,if_pos (by simpa using hc)] at hT
   rw [hT];rfl
  ·rw [if_neg (by simpa using hc)] at hg
   exact ⟨⟨(i+1,l++ [D'.1],D'.2.1),by omega,by simp [hl],hDl,hg⟩,by simp only [AS.le,leT,leH,zf,AsgK,AV.le,AV.leL,AObj.le,inH,idsT,idsH,AV.ids,AV.idsL,AV.idsR,AObj.ids,lk,hget,go_sem,aeq,aeq.aeqF,simprocAttr,hw,List.map_append,strD],by simp;omega⟩
 ·have hcmp:decide ((i:Int)<(n:Int))=false:=decide_eq_false (by omega)
  obtain rfl:i=n:=by omega
  rw [Nat.sub_self,zc7] at hg
  rw [hg] at hT
  simp only at hT
  refine' walkW (zj hcmp hll) (za zfr <| za zbN <| zb _)
  ·rw [if_pos (by simpa using hc)] at hT
   rw [hT];rfl
  ·rw [if_neg (by simpa using hc)] at hT
   rw [hT,List.take_of_length_le (Nat.le_of_eq hll)]
@[go_sem] noncomputable def zbx:Ent Tryz.prog 299:= .m1 strT zt6
end Go.Aw
