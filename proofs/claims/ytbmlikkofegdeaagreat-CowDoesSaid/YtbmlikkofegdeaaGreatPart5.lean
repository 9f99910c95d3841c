/-
  Parts of the proof: BldC, BldD, DevP, DevA, DevB, DevC, DevD, DevE, DevF, Num, PackA, PackB, PackC, PackD, SuperA, PlanA, PlanB, PlanC, PlanD, PlanE, PlanF, PlanG, TxnA, TxnB, TxnC, TxnD, TxnE, JourA, JourB (short names; the readable texts lie in the repo, under wip).
-/
import Derived.Test.YtbmlikkofegdeaaGreatPart4
import Derived.Lib.MakeNoZero
import Derived.RegionTactic
import Derived.Test.YtbmlikkofegdeaaGreatPart3
import Derived.Laws.RangeString
import Derived.Laws.RangeAny
set_option maxRecDepth 100000
set_option maxHeartbeats 2000000
set_option linter.unusedSimpArgs false
set_option linter.unusedVariables false
namespace Go.Proofs.YtbmlikkofegdeaaGreat
open Go Go.RowKit
theorem zdN (W:World) (q:Option Addr):(Builtin.unsafeString_ #[193,3] 9 #[.pointer q,.int .i64 0]).run Tryz.prog W= .ok (.string .empty) W:=
 Lib.run_unsafeString_none W _ _ _ q
theorem zdO (w:World) (row:Option Nat):w.grownBy w.drew row:=⟨rfl,rfl,rfl,Nat.le_refl _,fun _ _ _=>rfl⟩
theorem zgG (w:World) (g n:Nat):w.grownBy (w.drew.freeze ⟨g,0,none⟩ n) (some g):=by
 unfold World.freeze
 split
 ·exact zdO w _
 ·refine ⟨rfl,rfl,rfl,by simp,fun k hk hne=>?_⟩
  simp only [Array.getElem?_modify]
  rw [if_neg (fun e=>hne (by rw [e]))]
  rfl
theorem zlX (b o:Nat) (w:World) (h1:w.cell? ⟨b,o+1,none⟩=some (.slice none 0 0)):
  Calls Tryz.prog 74 #[.pointer (some ⟨b,o,none⟩)] w fun e w'=>e= .returned (.string ⟨#[]⟩)∧w.grownBy w' none:=by
 have hUS:=zdN
 have c1:w.drew.cell? ⟨b,o+1,none⟩=some (.slice none 0 0):=h1
 have hSD:(Builtin.unsafeSliceData_ #[79] 193 #[.slice none 0 0]).run Tryz.prog w.drew= .ok (.pointer none) w.drew:=rfl
 go_enter Tryz.func74,Tryz.ntmps74
 go_wp2
 go_region
 all_goals (go_wp2;go_ret;exact ⟨rfl,zdO w none⟩)
theorem zjW (b o g cap:Nat) (w:World) (hc0:cap≠0) (h1:w.cell? ⟨b,o+1,none⟩=some (.slice (some ⟨g,0,none⟩) 0 cap)):
  Calls Tryz.prog 74 #[.pointer (some ⟨b,o,none⟩)] w fun e w'=>e= .returned (.string ⟨#[]⟩)∧w.grownBy w' (some g):=by
 have hUS:=zdN
 have c1:w.drew.cell? ⟨b,o+1,none⟩=some (.slice (some ⟨g,0,none⟩) 0 cap):=h1
 have hSD:(Builtin.unsafeSliceData_ #[79] 193 #[.slice (some ⟨g,0,none⟩) 0 cap]).run Tryz.prog w.drew= .ok (.pointer (some ⟨g,0,none⟩)) w.drew:=
  Lib.run_unsafeSliceData_row _ _ _ _ _ _ hc0
 clear hc0
 go_enter Tryz.func74,Tryz.ntmps74
 go_wp2
 go_region
 all_goals (go_wp2;go_ret;exact ⟨rfl,zdO w _⟩)
theorem zhY (b o g:Nat) (cur:Array Value) (w:World) (h1:w.cell? ⟨b,o+1,none⟩=some (.slice (some ⟨g,0,none⟩) 0 0)) (hg:w.heap[g]?=some (.cells cur 5 (0,0))):
  Calls Tryz.prog 74 #[.pointer (some ⟨b,o,none⟩)] w fun e w'=>e= .returned (.string ⟨#[]⟩)∧w.grownBy w' (some g):=by
 have hUS:=zdN
 have hlt:b<w.heap.size:=by
  rcases Nat.lt_or_ge b w.heap.size with h'|h'
  ·exact h'
  ·simp [World.cell?,Array.getElem?_eq_none h'] at h1
 have c1:w.drew.cell? ⟨b,o+1,none⟩=some (.slice (some ⟨g,0,none⟩) 0 0):=h1
 have hSD:(Builtin.unsafeSliceData_ #[79] 193 #[.slice (some ⟨g,0,none⟩) 0 0]).run Tryz.prog w.drew= .ok (.pointer (some ⟨w.drew.heap.size,0,none⟩)) (w.drew.alloc (.view ⟨g,0,none⟩ 5)):=
  Lib.run_unsafeSliceData_zero w.drew _ _ 5 Tryz.underlying193 ⟨g,0,none⟩ 0 (5,cur.size) (by have hg':w.drew.heap[g]?=some (.cells cur 5 (0,0)):=hg;simp [World.shape?,hg'])
 have c2:(w.drew.alloc (.view ⟨g,0,none⟩ 5)).cell? ⟨b,o+1,none⟩=some (.slice (some ⟨g,0,none⟩) 0 0):=by
  rw [← c1]
  simp only [World.cell?]
  rw [Lib.alloc_old w.drew _ b hlt]
 have c3:(w.alloc (.view ⟨g,0,none⟩ 5)).drew.cell? ⟨b,o+1,none⟩=some (.slice (some ⟨g,0,none⟩) 0 0):=c2
 go_enter Tryz.func74,Tryz.ntmps74
 go_wp2
 go_region
 all_goals (go_wp2;go_ret;exact ⟨rfl,⟨rfl,rfl,rfl,by simp,fun k hk _=>Lib.alloc_old w.drew _ k hk⟩⟩)
theorem zjX (b o g cap:Nat) (cur:Array Value) (l:List UInt8) (w:World) (h0:l≠ []) (h1:w.cell? ⟨b,o+1,none⟩=some (.slice (some ⟨g,0,none⟩) l.length cap))
  (hown:w.ownsRow 0 5 1 (.slice (some ⟨g,0,none⟩) l.length cap) l.length (Lib.byteCells l)):
  Calls Tryz.prog 74 #[.pointer (some ⟨b,o,none⟩)] w fun e w'=>e= .returned (.string ⟨l.toArray⟩)∧w.grownBy w' (some g):=by
 have hl0:l.length≠0:=by simpa using h0
 obtain ⟨cur,hg,hnc,hcm,hcs,htake⟩:∃cur,w.heap[g]?=some (.cells cur 5 (0,0))∧l.length≤cap∧cap≤maxLen∧cur.size=cap*1∧cur.toList.take (l.length*1)=Lib.byteCells l:=by
  rcases hown.2 with ⟨_,hz⟩|⟨g',cap',cur,hv,r0,r⟩
  ·exact absurd hz hl0
  ·cases hv
   exact ⟨cur,r⟩
 have c1:w.drew.cell? ⟨b,o+1,none⟩=some (.slice (some ⟨g,0,none⟩) l.length cap):=h1
 have hSD:(Builtin.unsafeSliceData_ #[79] 193 #[.slice (some ⟨g,0,none⟩) l.length cap]).run Tryz.prog w.drew= .ok (.pointer (some ⟨g,0,none⟩)) w.drew:=
  Lib.run_unsafeSliceData_row _ _ _ _ _ _ (by omega)
 have hUS:(Builtin.unsafeString_ #[193,3] 9 #[.pointer (some ⟨g,0,none⟩),.int .i64 l.length]).run Tryz.prog w.drew= .ok (.string ⟨l.toArray⟩) (w.drew.freeze ⟨g,0,none⟩ l.length):=by
  refine Lib.run_unsafeString_row w.drew 193 3 9 5 Tryz.underlying193 (by kernel_rfl) g cur.size (by have hg':w.drew.heap[g]?=some (.cells cur 5 (0,0)):=hg;simp [World.shape?,hg']) l h0 (by omega) (by unfold maxLen at hcm;omega) ?_
  intro j x hx
  have:=hown.cells (g:=g) rfl j (.int .u8 x.toNat) (by simp [Lib.byteCells,hx])
  exact this
 clear h0 hown
 go_enter Tryz.func74,Tryz.ntmps74
 go_wp2
 go_region
 all_goals (go_wp2;go_ret;exact ⟨rfl,zgG w g _⟩)
theorem ziY (b o:Nat) (w:World) (v:Value) (l:List UInt8) (h1:w.cell? ⟨b,o+1,none⟩=some v) (hown:w.ownsRow 0 5 1 v l.length (Lib.byteCells l)):
  Calls Tryz.prog 74 #[.pointer (some ⟨b,o,none⟩)] w fun e w'=>e= .returned (.string ⟨l.toArray⟩)∧w.grownBy w' v.ownBlock:=by
 rcases hown.2 with ⟨rfl,hz⟩|⟨g,cap,cur,rfl,_,hg,hnc,hcm,hcs,htake⟩
 ·have:l= []:=List.length_eq_zero_iff.1 hz
  subst this
  exact zlX b o w h1
 ·by_cases hl:l= []
  ·subst hl
   by_cases hc:cap=0
   ·subst hc
    exact zhY b o g cur w h1 hg
   ·exact zjW b o g cap w hc h1
  ·exact zjX b o g cap cur l w hl h1 hown
end Go.Proofs.YtbmlikkofegdeaaGreat
namespace Go.Aw
open Go Go.Proofs Go.Proofs.YtbmlikkofegdeaaGreat
section
variable {P : Program} {w w' w'' : World} {E E' E'' : Env} {h h' h'' : AHeap} {fl i j : Nat}
theorem EvoC.trans (a:EvoC fl E h w E' h' w') (b:EvoC fl E' h' w' E'' h'' w''):EvoC fl E h w E'' h'' w'' where
 os:=b.os.trans a.os
 tape:=b.tape.trans a.tape
 output:=b.output.trans a.output
 size:=Nat.le_trans a.size b.size
 keep:=fun k hk ho=>(b.keep k (Nat.lt_of_lt_of_le hk a.size) (fun h=>(a.own k h).elim ho (fun h=>by omega))).trans (a.keep k hk ho)
 own:=fun k h=>(b.own k h).elim (fun h=>a.own k h) (fun h=> .inr (Nat.le_trans a.size h))
 m:=b.m.trans a.m
 n:=b.n.trans a.n
 go:=fun i hi hl=>by
  obtain ⟨h1,h2⟩:=b.go i hi hl
  obtain ⟨h3,h4⟩:=a.go i hi h1
  exact ⟨h3,h4.trans h2⟩
theorem Chg.evoC (c:Chg E h w E' h' w' i) (hf:(hget h i).isSome∨fl≤i):EvoC fl E h w E' h' w':=
 have e:=c.evo (fl:=fl) hf
 ⟨e.os,e.tape,e.output,e.size,fun b hb ho=>c.blk b hb (fun ⟨h1,h2⟩=>ho ⟨i,h1,h2⟩),e.own,c.M,c.N,e.go⟩
theorem zkS {b:Nat} {c:Array Value} {T:TypeId} {fz:Nat×Nat} (g2:w.heap[b]?=some (.cells c T fz)):World.row w b (.cells c T fz)=w:=by
 obtain ⟨hlt,hb'⟩:=Array.getElem?_eq_some_iff.1 g2
 unfold World.row
 rw [← hb',Array.setIfInBounds_def,dif_pos hlt,Array.set_getElem_self]
theorem ziZ {b o:Nat} {c:Array Value} {T:TypeId} {fz:Nat×Nat} {v:Value} (g2:w.heap[b]?=some (.cells c T fz)) (hc:c[o]?=some v):w.setCell ⟨b,o,none⟩ v=w:=by
 rw [zc8 g2]
 have:c.setIfInBounds o v=c:=by
  obtain ⟨hlt,he⟩:=Array.getElem?_eq_some_iff.1 hc
  rw [Array.setIfInBounds_def,dif_pos hlt,← he,Array.set_getElem_self]
 rw [this]
 exact zkS g2
theorem ze3:∀ (h:AHeap) (i:Nat) (a b:AObj),hset (hset h i a) i b=hset h i b
  | [],_,_,_=>rfl
  | (k,o)::r,i,a,b=>by
    by_cases hk:k=i
    · simp [hset,hk]
    · simp [hset,hk,ze3 r]
theorem pokeT (hs:SatH E h w) {o b:Nat} {t:TypeId} {cs:List AV} (hi:hget h i=some (.tvar t cs)) (hb:E.O i=some b) {x:AV} {v:Value} (hr:Rep w E h x v):
  Chg E h w E (hset h i (.tvar t (cs.set o x))) (w.setCell ⟨b,o,none⟩ v) i∧SatH E (hset h i (.tvar t (cs.set o x))) (w.setCell ⟨b,o,none⟩ v):=by
 have hob:=hs.heap i _ hi
 simp only [RepObj] at hob
 obtain ⟨b',c,T,fz,g1,g2,g3,g4,g5⟩:=hob
 rw [hb] at g1;cases g1
 rw [zc8 g2]
 have ch:=zhl hs hi (cs':=cs.set o x) (by simp) hb (.cells (c.setIfInBounds o v) T fz)
 refine ⟨ch,ch.satH hs (fun ob hob=>?_)⟩
 rw [zf hi] at hob
 cases hob
 simp only [RepObj]
 refine ⟨b,_,T,fz,hb,zcN (Array.getElem?_eq_some_iff.1 g2).1,?_,by simpa using g4,g5⟩
 rw [Array.toList_setIfInBounds]
 exact ch.reps (g3.set hr)
theorem znC (hs:SatH E h w) {t:TypeId} {xs:List UInt8} {n:Nat} {v:Value} (hj:hget h j=some (.buf t xs)) (hv:Rep w E h (.bsl j n) v) (hn:n=xs.length):
  w.ownsRow 0 t 1 v xs.length (Lib.byteCells xs)∧(∀g,v.ownBlock=some g→E.O j=some g)∧(v= .slice none 0 0∧E.O j=none∨∃g,v= .slice (some ⟨g,0,none⟩) xs.length (E.C j)∧E.O j=some g):=by
 simp only [Rep] at hv
 obtain ⟨_,t',xs',h1,_,h3⟩:=hv
 rw [hj] at h1;cases h1
 have hob:=hs.heap j _ hj
 simp only [RepObj] at hob
 rcases h3 hn.symm with ⟨⟨h4,h5⟩,rfl⟩|⟨g,h4,rfl⟩
 ·have:xs= []:=List.length_eq_zero_iff.1 (by omega)
  subst this
  exact ⟨World.ownsRow_nil _ _ _ _,fun g hg=>by simp [Value.ownBlock] at hg,.inl ⟨rfl,h4⟩⟩
 ·rcases hob with ⟨q1,_⟩|⟨b',c,T,fz,q1,q2,q3,q4,q5,rfl,rfl,q7⟩
  ·rw [h4] at q1;cases q1
  ·rw [h4] at q1;cases q1
   refine ⟨⟨by simp [Lib.byteCells],.inr ⟨g,E.C j,c,by rw [hn],Nat.zero_le _,q2,q4,by unfold maxLen;omega,q3,by rw [Nat.mul_one];exact q5⟩⟩,fun g' hg=>?_,.inr ⟨g,by rw [hn],h4⟩⟩
   simp [Value.ownBlock] at hg
   rw [h4,hg]
theorem znD {t:TypeId} {xs xs':List UInt8} (hj:hget h j=some (.buf t xs)) (g':Option Nat) (cap':Nat) {row:Option Nat} (hgrow:w.grownBy w' row) (hrow:∀g,row=some g→E.O j=some g) (hlen:xs.length≤xs'.length) (hsame:xs'.length=xs.length→g'=E.O j∧cap'=E.C j)
  (hnew:∀g,g'=some g→E.O j=some g∨(w.heap.size≤g∧g<w'.heap.size)):Chg E h w (E.set j g' cap') (hset h j (.buf t xs')) w' j where
 os:=hgrow.os
 tape:=hgrow.tape
 output:=hgrow.output
 size:=hgrow.size
 envO:=fun k e=>by simp [Env.set,e]
 envC:=fun k e=>by simp [Env.set,e]
 M:=rfl
 N:=rfl
 hh:=fun k e=>zB e
 gi:=by
  unfold GoesOn
  rw [hj]
  exact ⟨xs',zf hj,hlen,fun e=>by simpa [Env.set] using hsame e⟩
 blk:=fun b hb hn=>hgrow.block b hb (fun e=>hn ⟨by simp [hj],hrow b e.symm⟩)
 new:=fun b _ hb=>by
  simp only [Env.set,if_true] at hb
  rcases hnew b hb with h1|h1
  ·exact .inl ⟨by simp [hj],h1⟩
  ·exact .inr h1
theorem zgH (l:List UInt8):Lib.strCells ⟨l.toArray⟩=Lib.byteCells l:=by simp [Lib.strCells,Lib.byteCells]
theorem zpa {o:Nat} {T:TypeId} {cs:List AV} {xs l:List UInt8} {n:Nat} (hi:hget h i=some (.tvar T cs)) (c0:cs[o]?=some (.d .nilp)∨cs[o]?=some (.tp i o)) (c1:cs[o+1]?=some (.bsl j n)) (hj:hget h j=some (.buf 5 xs)) (hn:n=xs.length)
  (hl:liesAt Tryz.prog Tryz.prog.depth T (cs.length / Tryz.prog.cellsOf T) o 131 1=true) (hlen:xs.length+l.length≤140737488355328):
  ACallAt Tryz.prog fl 72 [.tp i o,.d (.str l)] h (fun r h'=>r= .tup [.d (.int .i64 l.length),.d .nilif]∧h'=hset (hset h j (.buf 5 (xs++l))) i (.tvar T ((cs.set o (.tp i o)).set (o+1) (.bsl j (xs.length+l.length))))):=by
 refine ⟨zca Tryz.func72 (by kernel_rfl) rfl,fun E w vs hs hr=>?_⟩
 simp only [Reps] at hr
 obtain ⟨v0,r0,e0,q0,v1,r1,rfl,q1,rfl⟩:=hr
 have q0':=q0
 simp only [Rep,RepD] at q0 q1
 obtain ⟨b,T',cs',hi',hb,rfl⟩:=q0
 rw [hi] at hi';cases hi'
 subst q1
 have hvs:vs= #[.pointer (some ⟨b,o,none⟩),.string ⟨l.toArray⟩]:=by cases vs;simpa using e0
 subst hvs
 have hij:i≠j:=fun e=>by rw [e,hj] at hi;cases hi
 have hob:=hs.heap i _ hi
 simp only [RepObj] at hob
 obtain ⟨b',c,T0,fz,g1,g2,g3,g4,rfl⟩:=hob
 rw [hb] at g1;cases g1
 have hcl:c.size=cs.length:=by have:=Reps.length g3;simpa using this
 obtain ⟨v,hv0,hv⟩:=Reps.get g3 c1
 have hv1:c[o+1]?=some v:=by simpa using hv0
 have hlt1:o+1<c.size:=(Array.getElem?_eq_some_iff.1 hv1).1
 obtain ⟨o1,o2,o3⟩:=znC hs hj hv hn
 have hne:v.ownBlock≠some b:=fun e=>hij (hs.inj i j b (by simp [hi]) (by simp [hj]) hb (o2 b e))
 have hfz:∀k,k<c.size→w.frozen? ⟨b,k,none⟩=false:=fun k hk=>by
  rw [zcq g2]
  have:=g4 k hk
  simpa using this
 have hptr:Rep w E h (.tp i o) (.pointer (some ⟨b,o,none⟩)):=q0'
 have hc0:c[o]?=some (.pointer none)∨c[o]?=some (.pointer (some ⟨b,o,none⟩)):=by
  rcases c0 with c0|c0
  ·obtain ⟨u,hu,hur⟩:=Reps.get g3 c0
   simp only [Rep,RepD] at hur
   subst hur
   exact .inl (by simpa using hu)
  ·obtain ⟨u,hu,hur⟩:=Reps.get g3 c0
   simp only [Rep] at hur
   obtain ⟨b2,_,_,_,hb2,rfl⟩:=hur
   rw [hb] at hb2;cases hb2
   exact .inr (by simpa using hu)
 refine (zjV b o c.size T0 w v xs.length (Lib.byteCells xs) ⟨l.toArray⟩ (by rw [zZ g2];exact hc0) (by rw [zZ g2];exact hv1) (by simp [World.shape?,g2]) (by omega) (by rw [hcl];exact hl) (hfz o (by omega)) (hfz (o+1) hlt1) o1 hne (by simpa [ByteArray.size] using hlen)).mono ?_
 rintro e w3 ⟨rfl,w1,v',w2,hw1,hown',hgrow,⟨hnew,hempty⟩,rfl⟩
 have hw1':w1=w.setCell ⟨b,o,none⟩ (.pointer (some ⟨b,o,none⟩)):=by
  rcases hw1 with ⟨rfl,hc⟩|h
  ·rw [zZ g2] at hc
   exact (ziZ g2 hc).symm
  ·exact h
 subst hw1'
 obtain ⟨ch1,hs1⟩:=pokeT hs hi hb (o:=o) hptr
 have hj1:hget (hset h i (.tvar T0 (cs.set o (.tp i o)))) j=some (.buf 5 xs):=by rw [zB (Ne.symm hij)];exact hj
 rw [zgH] at hown'
 have hsz:(⟨l.toArray⟩:ByteArray).size=l.length:=by simp [ByteArray.size]
 rw [hsz] at hown' hempty
 obtain ⟨g',cap',hv',hg'⟩:∃ (g':Option Nat) (cap':Nat),v'.ownBlock=g'∧((v'= .slice none 0 0∧g'=none∧xs++l= [])∨∃g cur,g'=some g∧v'= .slice (some ⟨g,0,none⟩) (xs.length+l.length) cap'∧w2.heap[g]?=some (.cells cur 5 (0,0))∧xs.length+l.length≤cap'∧cap'≤maxLen∧cur.size=cap'*1∧cur.toList.take ((xs.length+l.length)*1)=Lib.byteCells xs++Lib.byteCells l)∧(l= []→g'=E.O j∧cap'=E.C j):=by
  rcases hown'.2 with ⟨rfl,hz⟩|⟨g,cap',cur,rfl,_,hx⟩
  ·refine ⟨none,E.C j,rfl,.inl ⟨rfl,rfl,?_⟩,fun hl0=>⟨?_,rfl⟩⟩
   ·have h1:xs= []:=List.length_eq_zero_iff.1 (by omega)
    have h2:l= []:=List.length_eq_zero_iff.1 (by omega)
    simp [h1,h2]
   ·have hve:=hempty (by simp [hl0])
    rcases o3 with ⟨_,h1⟩|⟨g,h1,_⟩
    ·exact h1.symm
    ·rw [h1] at hve;cases hve
  ·refine ⟨some g,cap',rfl,.inr ⟨g,cur,rfl,rfl,hx⟩,fun hl0=>?_⟩
   have hve:=hempty (by simp [hl0])
   rcases o3 with ⟨h1,_⟩|⟨g2,h1,h2⟩
   ·rw [h1] at hve;cases hve
   ·rw [h1] at hve
    simp only [Value.slice.injEq,Option.some.injEq,Addr.mk.injEq] at hve
    obtain ⟨⟨rfl,_⟩,_,rfl⟩:=hve
    exact ⟨h2.symm,rfl⟩
 obtain ⟨hg',hsame⟩:=hg'
 have ch2:Chg E (hset h i (.tvar T0 (cs.set o (.tp i o)))) (w.setCell ⟨b,o,none⟩ (.pointer (some ⟨b,o,none⟩))) (E.set j g' cap') (hset (hset h i (.tvar T0 (cs.set o (.tp i o)))) j (.buf 5 (xs++l))) w2 j:=
  znD hj1 g' cap' hgrow (fun g hg=>o2 g hg) (by simp) (fun e=>hsame (by simpa using e)) (fun g hg=>by
   rcases hnew g (by rw [hv',hg]) with h1|h1
   ·exact .inl (o2 g h1)
   ·exact .inr h1)
 have hs2:=ch2.satH hs1 (fun ob hob=>by
  rw [zf hj1] at hob
  cases hob
  simp only [RepObj,Env.set,if_true]
  rcases hg' with ⟨_,h1,h2⟩|⟨g,cur,h1,h2,h3,h4,h5,h6,h7⟩
  ·exact .inl ⟨h1,.inl h2⟩
  ·refine .inr ⟨g,cur,5,(0,0),h1,h3,h6,by simpa using h4,?_,rfl,rfl,by unfold maxLen at h5;omega⟩
   rw [Nat.mul_one] at h7
   rw [List.length_append,h7]
   simp [Lib.byteCells])
 have hi2:hget (hset (hset h i (.tvar T0 (cs.set o (.tp i o)))) j (.buf 5 (xs++l))) i=some (.tvar T0 (cs.set o (.tp i o))):=by rw [zB hij];exact zf hi
 have hb2:(E.set j g' cap').O i=some b:=by simp [Env.set,hij,hb]
 have hrv':Rep w2 (E.set j g' cap') (hset (hset h i (.tvar T0 (cs.set o (.tp i o)))) j (.buf 5 (xs++l))) (.bsl j (xs.length+l.length)) v':=by
  simp only [Rep]
  rcases hg' with ⟨h0,h1,h2⟩|⟨g,cur,h1,h2,h3,h4,h5,h6,h7⟩
  ·have h3:xs.length+l.length=0:=by have:=congrArg List.length h2;simpa using this
   exact ⟨⟨_,_,_,h0⟩,_,_,zf hj1,by simp,fun _=> .inl ⟨⟨by simp [Env.set,h1],h3⟩,h0⟩⟩
  ·exact ⟨⟨_,_,_,h2⟩,_,_,zf hj1,by simp,fun _=> .inr ⟨g,by simp [Env.set,h1],by simp [Env.set,h2]⟩⟩
 obtain ⟨ch3,hs3⟩:=pokeT hs2 hi2 hb2 (o:=o+1) hrv'
 have eh:hset (hset (hset h i (.tvar T0 (cs.set o (.tp i o)))) j (.buf 5 (xs++l))) i (.tvar T0 ((cs.set o (.tp i o)).set (o+1) (.bsl j (xs.length+l.length))))=hset (hset h j (.buf 5 (xs++l))) i (.tvar T0 ((cs.set o (.tp i o)).set (o+1) (.bsl j (xs.length+l.length)))):=by
  rw [zij h hij,ze3]
 refine ⟨_,_,_,_,rfl,⟨rfl,rfl⟩,eh ▸ hs3,?_,eh ▸ ((ch1.evoC (.inl (by simp [hi]))).trans ((ch2.evoC (.inl (by simp [hj1]))).trans (ch3.evoC (.inl (by simp [hi2]))))),fun x y hxy=>eh ▸ ch3.rep (ch2.rep (ch1.rep hxy))⟩
 simp only [Rep,Reps,RepD]
 refine ⟨_,rfl,_,_,rfl,?_,_,_,rfl,rfl,rfl⟩
 rw [hsz]
noncomputable def gone:List UInt8:=List.replicate zfC 0
theorem zjY:gone.length=zfC:=by unfold gone;exact List.length_replicate ..
attribute [irreducible] gone
theorem znE {o:Nat} {T:TypeId} {cs:List AV} {xs:List UInt8} {n:Nat} (hi:hget h i=some (.tvar T cs)) (c1:cs[o+1]?=some (.bsl j n)) (hj:hget h j=some (.buf 5 xs)) (hn:n=xs.length) (hlen:xs.length≤140737488355328):
  ACallAt Tryz.prog fl 74 [.tp i o] h (fun r h'=>r= .d (.str xs)∧h'=hset h j (.buf 5 gone)):=by
 refine ⟨zca Tryz.func74 (by kernel_rfl) rfl,fun E w vs hs hr=>?_⟩
 simp only [Reps] at hr
 obtain ⟨v0,r0,e0,q0,rfl⟩:=hr
 have q0':=q0
 simp only [Rep] at q0
 obtain ⟨b,T',cs',hi',hb,rfl⟩:=q0
 rw [hi] at hi';cases hi'
 have hvs:vs= #[.pointer (some ⟨b,o,none⟩)]:=by cases vs;simpa using e0
 subst hvs
 have hob:=hs.heap i _ hi
 simp only [RepObj] at hob
 obtain ⟨b',c,T0,fz,g1,g2,g3,g4,rfl⟩:=hob
 rw [hb] at g1;cases g1
 obtain ⟨v,hv0,hv⟩:=Reps.get g3 c1
 have hv1:c[o+1]?=some v:=by simpa using hv0
 obtain ⟨o1,o2,o3⟩:=znC hs hj hv hn
 refine (ziY b o w v xs (by rw [zZ g2];exact hv1) o1).mono ?_
 rintro e w3 ⟨rfl,hgrow⟩
 have hgl:=zjY
 have hdl:zfC=9223372036854775808:=rfl
 have ch:Chg E h w (E.set j none 0) (hset h j (.buf 5 gone)) w3 j:=
  znD hj none 0 hgrow (fun g hg=>o2 g hg) (by omega) (fun e=>by omega) (fun g hg=>by cases hg)
 have hs2:=ch.satH hs (fun ob hob=>by
  rw [zf hj] at hob
  cases hob
  simp only [RepObj,Env.set,if_true]
  exact .inl ⟨trivial,.inr hgl⟩)
 exact ⟨_,_,_,_,rfl,⟨rfl,rfl⟩,hs2,by simp only [Rep,RepD],ch.evoC (.inl (by simp [hj])),fun x y hxy=>ch.rep hxy⟩
theorem znF {cx:Cx} {c:Code} {Q:Exit→AS→Prop} {s:AS} (i o:Nat) {T:TypeId} {cs:List AV} (hi:hget s.h i=some (.tvar T cs)) (ho:cs[o]?=some (.nils 1))
    (h:AW cx c Q { s with h:=(fresh cx.fl s.h,.buf 5 [])::hset s.h i (.tvar T (cs.set o (.bsl (fresh cx.fl s.h) 0))) }):AW cx c Q s:=fun E a w hs=>by
  have hne:fresh cx.fl s.h≠i:=fun e=>by
    have:=zcU cx.fl s.h
    rw [e,hi] at this;cases this
  have cc:Chg E s.h w (E.set (fresh cx.fl s.h) none 0) ((fresh cx.fl s.h,.buf 5 [])::s.h) w (fresh cx.fl s.h):=
    { os:=rfl,tape:=rfl,output:=rfl,size:=Nat.le_refl _,envO:=fun j e=>by simp [Env.set,e],envC:=fun j e=>by simp [Env.set,e],M:=rfl,N:=rfl,hh:=fun j e=>by simp [hget,Ne.symm e],
      gi:=by simp [GoesOn,zcU]
      blk:=fun b hb _=>rfl
      new:=fun b _ hb=>by simp [Env.set] at hb }
  have hs1:=cc.sat (t:=s.t) (g:=s.g) hs (fun o ho=>by
    simp [hget] at ho
    subst ho
    simp only [RepObj]
    exact .inl ⟨by simp [Env.set],.inl trivial⟩)
  have hi1:hget ((fresh cx.fl s.h,.buf 5 [])::s.h) i=some (.tvar T cs):=by simp [hget,hne,hi]
  have e1:(fresh cx.fl s.h,AObj.buf 5 [])::hset s.h i (.tvar T (cs.set o (.bsl (fresh cx.fl s.h) 0)))=hset ((fresh cx.fl s.h,.buf 5 [])::s.h) i (.tvar T (cs.set o (.bsl (fresh cx.fl s.h) 0))):=by
    simp [hset,hne]
  obtain ⟨E1,hE1⟩:∃E1,E1=E.set (fresh cx.fl s.h) none 0:=⟨_,rfl⟩
  rw [← hE1] at hs1 cc
  obtain ⟨b,c',T',fz,g1,g2,g3,g4,g5⟩:=hs1.hp.tvar hi1
  have ch:=zhl (w:=w) hs1.hp hi1 (cs':=cs.set o (.bsl (fresh cx.fl s.h) 0)) (by simp) g1 (.cells c' T' fz)
  rw [zkS g2] at ch
  have hs2:=ch.sat (t:=s.t) (g:=s.g) hs1 (fun ob hob=>by
    rw [zf hi1] at hob
    cases hob
    simp only [RepObj]
    refine ⟨b,c',T',fz,g1,g2,?_,g4,g5⟩
    obtain ⟨v,hv,hvr⟩:=Reps.get g3 ho
    simp only [Rep] at hvr
    subst hvr
    have:=g3.set (i:=o) (a:= .bsl (fresh cx.fl s.h) 0) (v:= .slice none 0 0) (by
      simp only [Rep]
      refine ⟨⟨_,_,_,rfl⟩,5,[],by simp [hget],by simp,fun _=> .inl ⟨⟨by simp [hE1,Env.set],trivial⟩,trivial⟩⟩)
    have e2:c'.toList.set o (.slice none 0 0)=c'.toList:=by
      obtain ⟨hlt,he⟩:=List.getElem?_eq_some_iff.1 hv
      rw [← he,List.set_getElem_self]
    rw [e2] at this
    exact ch.reps this)
  rw [← e1] at hs2
  refine wpIn_mono (h _ a w hs2) (fun _ _ _ hr=>hr.trans (Evo.trans (cc.evo (.inr (zaO _ _))) ?_))
  rw [e1]
  exact ch.evo (.inl (by simp [hi1]))
end
open Go Go.Proofs
abbrev Txt:=List UInt8
abbrev PutR:=Int×Txt
def putD (q:PutR):List D:= [.int .i64 q.1,.str q.2]
theorem zhG:∀a b,putD a=putD b→a=b:=by
 rintro ⟨a,b⟩ ⟨a',b'⟩ h
 simpa [putD] using h
structure Disk where
 data:Txt
 cache:List PutR
 fuse:Int
 off:Bool
 bad:List Int
 deriving DecidableEq
def diskA (d:Disk):AV:= .agg [.d (.str d.data),.d (.sl 2 (d.cache.map putD)),.d (.int .i64 d.fuse),.d (.bool d.off),.d (.sl 1 (d.bad.map intD))]
attribute [go_sem] diskA
def diskC (d:Disk):List AV:= [.d (.str d.data),.d (.sl 2 (d.cache.map putD)),.d (.int .i64 d.fuse),.d (.bool d.off),.d (.sl 1 (d.bad.map intD))]
attribute [go_sem] diskC
theorem zhH (d:Disk):Disk.mk d.data d.cache d.fuse d.off d.bad=d:=rfl
noncomputable def zq:PT Disk:=aggT (consL strT (consL (slT 2 putD zhG) (consL (intT .i64) (consL boolT (consL (slT 1 intD zcf) nilL))))) (fun p=>⟨p.1,p.2.1,p.2.2.1,p.2.2.2.1,p.2.2.2.2.1⟩) (fun x=>(x.data,x.cache,x.fuse,x.off,x.bad,())) (fun _=>rfl)
attribute [go_sem] zq
noncomputable def zmO:PT Disk:=dpT (consL strT (consL (slT 2 putD zhG) (consL (intT .i64) (consL boolT (consL (slT 1 intD zcf) nilL))))) (fun p=>⟨p.1,p.2.1,p.2.2.1,p.2.2.2.1,p.2.2.2.2.1⟩) (fun x=>(x.data,x.cache,x.fuse,x.off,x.bad,())) (fun _=>rfl)
attribute [go_sem] zmO
attribute [go_sem] zhH
structure DiskOk (d:Disk):Prop where
 data:d.data.length≤9223372036854775807
 cache:d.cache.length≤9223372036854775807
 bad:d.bad.length≤9223372036854775807
 fuse0: -9223372036854775808≤d.fuse
 fuse1:d.fuse≤9223372036854775807
def dsize (d:Disk):Nat:=d.data.length / 64
def there (d:Disk) (at_:Int):Bool:=decide (0≤at_)&&decide (at_<(dsize d:Int))
theorem there_iff {d:Disk} {at_:Int} :there d at_=true↔0≤at_∧at_<((d.data.length / 64:Nat):Int):=by
 rw [there,Bool.and_eq_true]
 exact and_congr decide_eq_true_iff decide_eq_true_iff
def zdf (d:Disk):List Int→Option Int→Bool
 | [],_=>true
 |a::l,p=>there d a&&(match p with|none=>true|some b=>decide (b<a))&&zdf d l (some a)
def putOk (d:Disk) (q:PutR):Bool:=there d q.1&&((q.2.length:Int)==64)
def dfit (d:Disk):Bool:=
 decide (1≤dsize d)&&decide (dsize d≤1024)&&(d.data.length % 64==0)&&decide (d.cache.length≤4096)&&d.cache.all (putOk d)&&zdf d d.bad none
def isPut (at_:Int) (q:PutR):Bool:=q.1==at_
def sees (d:Disk) (at_:Int):Txt:=
 match d.cache.reverse.find? (isPut at_) with
 |some q=>q.2
 |none=>(d.data.drop (at_*64).toNat).take 64
def dread (d:Disk) (at_:Int):Txt×Int:=
 if d.off then ([],12) else if !there d at_ then ([],10) else if d.bad.contains at_ then ([],13) else (sees d at_,0)
def burnt (d:Disk):Disk:=if 0<d.fuse then { d with fuse:=d.fuse - 1 } else d
def zI (d:Disk) (at_:Int) (s:Txt):Disk×Int:=
 if d.off then (d,12) else if !there d at_ then (d,10) else if (s.length:Int)≠64 then (d,11)
 else if d.fuse=0 then ({ d with off:=true },12) else if d.bad.contains at_ then (d,13) else if 4096≤(d.cache.length:Int) then (d,16)
 else (burnt { d with cache:=d.cache++ [(at_,s)] },0)
def lay (b:Txt) (at_:Nat) (s:Txt):Txt:=b.take at_++s++b.drop (at_+s.length)
def zcE (b:Txt) (l:List PutR):Txt:=l.foldl (fun b q=>lay b (q.1*64).toNat q.2) b
def dflush (d:Disk):Disk×Int:=
 if d.off then (d,12) else if d.fuse=0 then ({ d with off:=true },12)
 else (burnt { d with data:=zcE d.data d.cache,cache:= [] },0)
def dnew (n:Int):Disk×Int:=if n<1∨1024<n then (⟨[],[],0,false,[]⟩,11) else (⟨List.replicate (n*64).toNat 0,[], -1,false,[]⟩,0)
theorem zpR {n:Nat} (h:n≤9223372036854775807):IntKind.i64.wrap ((n:Int).tdiv 64)=((n / 64:Nat):Int):=by
 rw [Int.tdiv_eq_ediv_of_nonneg (by omega),IntKind.wrap_i64];omega
theorem zkw {d:Disk} (h:DiskOk d):DiskOk (burnt d):=by
 obtain ⟨h1,h2,h3,h4,h5⟩:=h
 unfold burnt
 split
 ·exact ⟨h1,h2,h3,by simp only;omega,by simp only;omega⟩
 ·exact ⟨h1,h2,h3,h4,h5⟩
open Go Go.Proofs
theorem zmP (d:Disk) (hd:DiskOk d):AC 60 [diskA d] (.d (.int .i64 (dsize d))):=by
 refine bod Tryz.func60 Tryz.ntmps60 (fun base=>?_)
 refine' zc (zpR hd.data)
 rfl
@[go_sem] noncomputable def zaQ:Ent Tryz.prog 60:= .m1 zq zmP
theorem zli (d:Disk) (at_:Int) (hd:DiskOk d):AC 90 [diskA d,.d (.int .i64 at_)] (.d (.bool (there d at_))):=by
 refine bod Tryz.func90 Tryz.ntmps90 (fun base=>?_)
 refine' walkW fx (za zaQ <| zb _)
 rfl
@[go_sem] noncomputable def za0:Ent Tryz.prog 90:= .m2 zq (intT .i64) zli
theorem zop (d:Disk) (at_:Int) (hd:DiskOk d):AC 91 [diskA d,.d (.int .i64 at_)] (.d (.bool (d.bad.contains at_))):=by
 refine bod Tryz.func91 Tryz.ntmps91 (fun base=>?_)
 refine' zc fx
 have hb:=hd.bad
 refine zy (fun q: { i:Nat // i≤d.bad.length∧d.bad.contains at_=(d.bad.drop i).contains at_ } =>⟨[(1,true,.d (.int .i64 at_)),(2,true,.vp 0 0),(5,true,.d (.int .i64 q.1))],[(0,.var [.d (.str d.data),.d (.sl 2 (d.cache.map putD)),.d (.int .i64 d.fuse),.d (.bool d.off),.d (.sl 1 (d.bad.map intD))])],some []⟩) (fun q=>d.bad.length - q.1) ⟨0,Nat.zero_le _,rfl⟩ le1 (fun q=>?_)
 obtain ⟨i,hi,hf⟩:=q
 simp only at hi hf ⊢
 rcases zaj intD d.bad i hi with ⟨m,hq,hlt,hcmp,hrow,hdr,htk⟩|⟨hend,hcmp⟩
 ·simp only [intD] at hrow
  have hwi:=zE (i:=i) (by omega)
  rw [hdr,List.contains_cons] at hf
  refine' zc (zF hcmp hrow)
  ·rw [hf,BEq.comm,hc];rfl
  ·rw [BEq.comm,hc,Bool.false_or] at hf
   exact ⟨⟨i+1,by omega,hf⟩,lew,by simp;omega⟩
 ·refine' zc hcmp
  rw [hf,hend,List.drop_length]
  rfl
@[go_sem] noncomputable def zeW:Ent Tryz.prog 91:= .m2 zq (intT .i64) zop
theorem zlj (d:Disk) (hd:DiskOk d):AC 92 [diskA d] (diskA (burnt d)):=by
 refine fbod Tryz.func92 Tryz.ntmps92 (fun base=>?_)
 have h1:=hd.fuse1
 refine' zc fx
 ·have h0:0<d.fuse:=by simpa using hc
  rw [burnt,if_pos h0,zh (by omega) (by omega)]
 ·have h0:¬0<d.fuse:=by simpa using hc
  rw [burnt,if_neg h0]
@[go_sem] noncomputable def zcF:Ent Tryz.prog 92:= .m1 zq zlj
theorem zoq {l:List PutR} {i:Nat} {q:PutR} {at_:Int} (hq:l[i]?=some q):(l.take (i+1)).reverse.find? (isPut at_)=if q.1=at_ then some q else (l.take i).reverse.find? (isPut at_):=by
 rw [zb7 hq,List.reverse_append,List.reverse_singleton,List.singleton_append,List.find?_cons]
 by_cases h:q.1=at_
 ·simp [isPut,h]
 ·have:isPut at_ q=false:=by simp [isPut,h]
  rw [this,if_neg h]
theorem zmQ (d:Disk) (at_:Int) (hp:DiskOk d∧there d at_=true):AC 128 [diskA d,.d (.int .i64 at_)] (.d (.str (sees d at_))):=by
 obtain ⟨hd,ht⟩:=hp
 refine bod Tryz.func128 Tryz.ntmps128 (fun base=>?_)
 refine' zc fx
 have hcl:=hd.cache
 have hdl:=hd.data
 have hw0:IntKind.i64.wrap ((d.cache.length:Int) - 1)=(d.cache.length:Int) - 1:=zh (by omega) (by omega)
 refine zy (fun q: { i:Nat // i≤d.cache.length∧d.cache.reverse.find? (isPut at_)=(d.cache.take i).reverse.find? (isPut at_) } =>⟨[(1,true,.d (.int .i64 at_)),(2,true,.vp 0 0),(5,true,.d (.int .i64 ((q.1:Int) - 1)))],[(0,.var [.d (.str d.data),.d (.sl 2 (d.cache.map putD)),.d (.int .i64 d.fuse),.d (.bool d.off),.d (.sl 1 (d.bad.map intD))])],some []⟩) (fun q=>q.1) ⟨d.cache.length,Nat.le_refl _,by rw [zdb]⟩ (by simp only [AS.le,leT,leH,zi,AsgK,AV.le,AV.leL,AObj.le,inH,idsT,idsH,AV.ids,AV.idsL,AV.idsR,AObj.ids,lk,hget,go_sem,aeq,aeq.aeqF,simprocAttr,hw0]) (fun q=>?_)
 obtain ⟨i,hi,hf⟩:=q
 simp only at hi hf ⊢
 cases i with
 | zero=>
  have hz:decide ((0:Int)≤((0:Nat):Int) - 1)=false:=by decide
  obtain ⟨ht0,ht1⟩:=there_iff.mp ht
  have hm:IntKind.i64.wrap (at_*64)=at_*64:=zh (by omega) (by omega)
  have hm1:IntKind.i64.wrap (at_+1)=at_+1:=zh (by omega) (by omega)
  have hm2:IntKind.i64.wrap ((at_+1)*64)=(at_+1)*64:=zh (by omega) (by omega)
  have hs:(d.data.take ((at_+1)*64).toNat).drop (at_*64).toNat=sees d at_:=by
   rw [sees,hf,List.take_zero,List.reverse_nil,List.find?_nil,List.drop_take]
   congr 1;omega
  refine' zc (zcW hz hm hm1 hm2 hs)
 | succ i=>
  have hz:decide ((0:Int)≤((i+1:Nat):Int) - 1)=true:=decide_eq_true (by omega)
  have hi1:(((i+1:Nat):Int) - 1)=(i:Int):=by omega
  have hwi:IntKind.i64.wrap ((i:Int) - 1)=(i:Int) - 1:=zh (by omega) (by omega)
  obtain ⟨⟨n,s⟩,hq⟩:=zaA (l:=d.cache) (i:=i) (by omega)
  have hrow:=zcb (g:=putD) hq
  simp only [putD] at hrow
  rw [zoq hq] at hf
  refine' zc (zaJ hz hi1 hrow natC)
  ·have hn:n=at_:=by simpa using hc
   rw [sees,hf,if_pos hn]
  ·have hn:¬n=at_:=by simpa using hc
   rw [if_neg hn] at hf
   exact ⟨⟨i,by omega,hf⟩,lew,by simp⟩
@[go_sem] noncomputable def zek:Ent Tryz.prog 128:= .m2 zq (intT .i64) zmQ
open Go Go.Proofs
theorem zmR (d:Disk) (at_:Int) (hd:DiskOk d):AC 81 [diskA d,.d (.int .i64 at_)] (.tup [.d (.str (dread d at_).1),.d (.int .i64 (dread d at_).2)]):=by
 refine bod Tryz.func81 Tryz.ntmps81 (fun base=>?_)
 refine' walkW fx (za za0 <| za zeW <| za zcF <| za zek <| zb _)
 all_goals simp_all [dread]
@[go_sem] noncomputable def zbp:Ent Tryz.prog 81:= .m2 zq (intT .i64) zmR
theorem za5 (l:List UInt8):(zg l).all zh9=true:=by
 simp [zg,zdy,zh9,List.all_map]
theorem zan (l:List UInt8):bytesOf (zg l)=l:=by
 unfold bytesOf zg
 rw [List.map_map]
 have:((fun r=>UInt8.ofNat (numOf r).toNat) ∘ zdy)=id:=by
  funext b;simp [zdy,numOf]
 rw [this,List.map_id]
theorem zdW (m:Nat):List.replicate m [D.int .u8 0]=zg (List.replicate m 0):=by
 rw [zg,List.map_replicate];rfl
theorem zir (m:Nat):List.take m (zg (List.replicate m 0))=zg (List.replicate m 0):=by
 exact List.take_of_length_le (by simp [zg])
theorem zkx (m:Nat):(m=(zg (List.replicate m 0)).length)=True:=by
 simp [zg]
theorem zor (n:Int) (_:True):AC 64 [.d (.int .i64 n)] (.tup [diskA (dnew n).1,.d (.int .i64 (dnew n).2)]):=by
 refine fbod Tryz.func64 Tryz.ntmps64 (fun base=>?_)
 by_cases h:n<1∨1024<n
 ·have hdec:(decide (n<1)||decide (1024<n))=true:=by simpa using h
  refine' zc hdec
  rw [dnew,if_pos h];rfl
 ·have hdec:(decide (n<1)||decide (1024<n))=false:=by simpa using h
  have hm:IntKind.i64.wrap (n*64)=n*64:=zh (by omega) (by omega)
  refine' zc (zaa hdec hm @zdW @zir @zkx @if_true.{1})
  ·exact za5 _
  ·rw [dnew,if_neg h,zan];rfl
@[go_sem] noncomputable def zlk:Ent Tryz.prog 64:= .m1 (intT .i64) zor
theorem zll (d:Disk) (at_:Int) (s:Txt) (hd:DiskOk d):AC 42 [diskA d,.d (.int .i64 at_),.d (.str s)] (.tup [diskA (zI d at_ s).1,.d (.int .i64 (zI d at_ s).2)]):=by
 refine fbod Tryz.func42 Tryz.ntmps42 (fun base=>?_)
 refine' zio (zbj 17) fx (za za0 <| za zeW <| za zcF <| za zek <| zb _)
 all_goals first|(simp_all [zI];done)|(simp_all;omega)|skip
 have hk:DiskOk { d with cache:=d.cache++ [(at_,s)] } :=⟨hd.data,by simp_all;omega,hd.bad,hd.fuse0,hd.fuse1⟩
 have hr:d.cache.map putD++ [[.int .i64 at_,.str s]]=(d.cache++ [(at_,s)]).map putD:=by simp [putD]
 have hl:(d.cache.length+1=(d.cache++ [(at_,s)]).length)=True:=by simp
 have htk:List.take (d.cache.length+1) ((d.cache++ [(at_,s)]).map putD)=(d.cache++ [(at_,s)]).map putD:=List.take_of_length_le (by simp)
 refine zmy 2 rfl ?_;simp only [go_sem,aeq,aeq.aeqF,simprocAttr,hr,hl,htk]
 refine' walkW fx (za za0 <| za zeW <| za zcF <| za zek <| zb _)
 clear hr hl htk hk
 by_cases h6:4096≤(d.cache.length:Int)
 ·exfalso;simp_all
 ·simp only [zI,if_neg h6];simp_all
@[go_sem] noncomputable def zt:Ent Tryz.prog 42:= .m3 zq (intT .i64) strT zll
theorem zky (b:Txt) (k:Nat) (s:Txt):rput (zg b) k (zg s)=zg (lay b k s):=by
 simp [rput,lay,zg,List.map_append,List.map_take,List.map_drop]
theorem zjo {b:Txt} {k:Nat} {s:Txt} (h:k+s.length≤b.length):(lay b k s).length=b.length:=by
 simp [lay];omega
theorem zis {b:Txt} {l:List PutR} {i:Nat} {q:PutR} (hq:l[i]?=some q):zcE b (l.take (i+1))=lay (zcE b (l.take i)) (q.1*64).toNat q.2:=by
 simp [zcE,zb7 hq,List.foldl_append]
theorem zpS {d:Disk} {i:Nat} {q:PutR} (hf:d.cache.all (putOk d)=true) (hq:d.cache[i]?=some q):0≤q.1∧q.1<((d.data.length / 64:Nat):Int)∧q.2.length=64:=by
 have:=List.all_eq_true.1 hf q (List.mem_of_getElem? hq)
 rw [putOk,Bool.and_eq_true] at this
 obtain ⟨h1,h2⟩:=this
 exact ⟨(there_iff.1 h1).1,(there_iff.1 h1).2,by have:=eq_of_beq h2;omega⟩
theorem zmS (d:Disk) (hd:DiskOk d) (hf:d.cache.all (putOk d)=true):ACall Tryz.prog 156 0 [diskA d,.d (.bool true),.d (.sl 1 [])] [] (fun r _=>r= .d (.str (zcE d.data d.cache))):=by
 refine fbod Tryz.func156 Tryz.ntmps156 (fun base=>?_)
 refine' zc fx
 have hcl:=hd.cache
 have hdl:=hd.data
 refine zy (fun q: { q:Nat×Txt // q.1≤d.cache.length∧q.2=zcE d.data (d.cache.take q.1)∧q.2.length=d.data.length } =>⟨[(1,true,.d (.bool true)),(2,true,.d (.sl 1 [])),(3,true,.vp 0 0),(7,true,.osl 1 1 (List.length d.data) 0 (List.length d.data)),(8,true,.d (.int .i64 q.1.1))],[(1,.arr 1 (zg q.1.2)),(0,.var [.d (.str d.data),.d (.sl 2 (d.cache.map putD)),.d (.int .i64 d.fuse),.d (.bool d.off),.d (.sl 1 (d.bad.map intD))])],some []⟩) (fun q=>d.cache.length - q.1.1) ⟨(0,d.data),Nat.zero_le _,rfl,rfl⟩ le1 (fun q=>?_)
 obtain ⟨⟨i,b⟩,hi,hb,hbl⟩:=q
 simp only at hi hb hbl ⊢
 rcases zaj putD d.cache i hi with ⟨⟨m,s⟩,hq,hlt,hcmp,hrow,hdr,htk⟩|⟨hend,hcmp⟩
 ·simp only [putD] at hrow
  obtain ⟨p1,p2,p3⟩:=zpS hf hq
  simp only at p1 p2 p3
  have hwi:=zE (i:=i) (by omega)
  have hwm:IntKind.i64.wrap (m*64)=m*64:=zh (by omega) (by omega)
  have hst:=zis (b:=d.data) hq
  rw [← hb] at hst
  have hll:(lay b (m*64).toNat s).length=b.length:=zjo (by omega)
  have hb0:(zg b).length=d.data.length:=by rw [zg,List.length_map,hbl]
  refine' zc (zcW hcmp hrow hwm @zky hb0)
  ·rw [zg,List.length_map];omega
  ·exact ⟨⟨(i+1,lay b (m*64).toNat s),by omega,hst.symm,hll.trans hbl⟩,lew,by simp;omega⟩
 ·have hb1:(d.data.length=(zg b).length)=True:=eq_true (by rw [zg,List.length_map,hbl])
  have hb2:List.take d.data.length (zg b)=zg b:=List.take_of_length_le (by rw [zg,List.length_map,hbl];omega)
  refine' zc (zaa hcmp hb1 hb2 @if_true.{1} @zan @za5)
  rw [hb,hend,zdb]
@[go_sem] noncomputable def zjp:Ent Tryz.prog 156:= .ofL (consL zq (consL (zg0 (.d (.bool true))) (consL (zg0 (.d (.sl 1 []))) nilL))) (fun (d,_,_,_)=>(DiskOk d)∧(d.cache.all (putOk d)=true)) (fun (d,_,_,_)=> .d (.str (zcE d.data d.cache))) (fun (d,_,_,_) hp=>⟨rfl,zmS d hp.1 hp.2⟩)
theorem zf0 {d:Disk} :∀ (l:List PutR) (b:Txt),b.length=d.data.length→l.all (putOk d)=true→(zcE b l).length=b.length
 | [],_,_,_=>rfl
 |q::l,b,hb,h=>by
  rw [List.all_cons,Bool.and_eq_true] at h
  obtain ⟨h1,h2⟩:=h
  rw [putOk,Bool.and_eq_true] at h1
  have h3:=there_iff.1 h1.1
  have h4:q.2.length=64:=by have:=eq_of_beq h1.2;omega
  have h5:(lay b (q.1*64).toNat q.2).length=b.length:=zjo (by omega)
  rw [zcE,List.foldl_cons]
  exact (zf0 l _ (h5.trans hb) h2).trans h5
theorem zg3 {d:Disk} (h:d.cache.all (putOk d)=true):(zcE d.data d.cache).length=d.data.length:=zf0 (d:=d) _ _ rfl h
theorem zlm (d:Disk) (hp:DiskOk d∧d.cache.all (putOk d)=true):AC 102 [diskA d] (.tup [diskA (dflush d).1,.d (.int .i64 (dflush d).2)]):=by
 obtain ⟨hd,hf⟩:=hp
 refine fbod Tryz.func102 Tryz.ntmps102 (fun base=>?_)
 have hk:DiskOk { d with data:=zcE d.data d.cache,cache:= [] } :=⟨by simp only [zg3 hf];exact hd.data,by simp,hd.bad,hd.fuse0,hd.fuse1⟩
 refine' walkW fx (za zjp <| za zcF <| zb _)
 all_goals simp_all [dflush]
@[go_sem] noncomputable def zbs:Ent Tryz.prog 102:= .m1 zq zlm
open Go Go.Proofs
theorem eq_ne {α:Type} {a b:List α} {i:Nat} {q q':α} (hq:a[i]?=some q) (hq':b[i]?=some q') (h:q≠q'):a≠b:=by
 rintro rfl
 rw [hq] at hq'
 exact h (Option.some.inj hq')
theorem zmT {α:Type} {a b:List α} {i:Nat} {q q':α} (hq:a[i]?=some q) (hq':b[i]?=some q') (h:q=q') (hf:a.take i=b.take i):a.take (i+1)=b.take (i+1):=by
 rw [zb7 hq,zb7 hq',hf,h]
theorem zpT {α:Type} {a b:List α} {i:Nat} (hi:i=a.length) (hl:a.length=b.length) (hf:a.take i=b.take i):a=b:=by
 subst hi
 rwa [zdb,hl,zdb] at hf
abbrev Eqst {α:Type} (a b:List α):= { i:Nat // i≤a.length∧a.take i=b.take i }
theorem zmU (a b:Disk) (hp:DiskOk a∧DiskOk b):AC 47 [diskA a,diskA b] (.d (.bool (decide (a=b)))):=by
 obtain ⟨ha,hb⟩:=hp
 refine bod Tryz.func47 Tryz.ntmps47 (fun base=>?_)
 refine' zc fx
 ·have:a≠b:=by rintro rfl;simp at hc
  rw [decide_eq_false this]
 have hac:=ha.cache
 have hab:=ha.bad
 obtain ⟨h1,h2,h3,h4,h5⟩:a.data=b.data∧a.cache.length=b.cache.length∧a.fuse=b.fuse∧a.off=b.off∧a.bad.length=b.bad.length:=by
  simp only [Bool.or_eq_false_iff,bne_eq_false_iff_eq,Int.natCast_inj] at hc
  exact ⟨hc.1.1.1.1,hc.1.1.1.2,hc.1.1.2,hc.1.2,hc.2⟩
 refine zy (fun q:Eqst a.cache b.cache=>⟨[(2,true,.vp 0 0),(3,true,.vp 1 0),(5,true,.d (.int .i64 q.1))],[(1,(.var [.d (.str b.data),.d (.sl 2 (b.cache.map putD)),.d (.int .i64 b.fuse),.d (.bool b.off),.d (.sl 1 (b.bad.map intD))])),(0,(.var [.d (.str a.data),.d (.sl 2 (a.cache.map putD)),.d (.int .i64 a.fuse),.d (.bool a.off),.d (.sl 1 (a.bad.map intD))]))],some []⟩) (fun q=>a.cache.length - q.1) ⟨0,Nat.zero_le _,rfl⟩ le1 (fun q=>?_)
 obtain ⟨i,hi,hf⟩:=q
 simp only at hi hf ⊢
 rcases zaj putD a.cache i hi with ⟨⟨m,s⟩,hq,hlt,hcmp,hrow,hdr,htk⟩|⟨hend,hcmp⟩
 ·obtain ⟨⟨m',s'⟩,hq'⟩:=zaA (l:=b.cache) (i:=i) (by omega)
  have hrow':=zcb (g:=putD) hq'
  simp only [putD] at hrow hrow'
  have hwi:=zE (i:=i) (by omega)
  refine' zc (zG hcmp hrow hrow')
  ·have:a≠b:=by
    rintro rfl
    refine eq_ne hq hq' ?_ rfl
    intro h
    cases h
    simp at hc
   rw [decide_eq_false this]
  ·have hc:m=m'∧s=s':=by simpa using hc
   exact ⟨⟨i+1,by omega,zmT hq hq' (by rw [hc.1,hc.2]) hf⟩,lew,by simp;omega⟩
 ·have hce:=zpT hend h2 hf
  refine' zc hcmp
  refine zy (fun q:Eqst a.bad b.bad=>⟨[(2,true,.vp 0 0),(3,true,.vp 1 0),(6,true,.d (.int .i64 q.1))],[(1,(.var [.d (.str b.data),.d (.sl 2 (b.cache.map putD)),.d (.int .i64 b.fuse),.d (.bool b.off),.d (.sl 1 (b.bad.map intD))])),(0,(.var [.d (.str a.data),.d (.sl 2 (a.cache.map putD)),.d (.int .i64 a.fuse),.d (.bool a.off),.d (.sl 1 (a.bad.map intD))]))],some []⟩) (fun q=>a.bad.length - q.1) ⟨0,Nat.zero_le _,rfl⟩ le1 (fun q=>?_)
  obtain ⟨j,hj,hg⟩:=q
  simp only at hj hg ⊢
  rcases zaj intD a.bad j hj with ⟨m,hq,hlt,hcmp,hrow,hdr,htk⟩|⟨hend,hcmp⟩
  ·obtain ⟨m',hq'⟩:=zaA (l:=b.bad) (i:=j) (by omega)
   have hrow':=zcb (g:=intD) hq'
   simp only [intD] at hrow hrow'
   have hwi:=zE (i:=j) (by omega)
   refine' zc (zG hcmp hrow hrow')
   ·have:a≠b:=by
     rintro rfl
     refine eq_ne hq hq' ?_ rfl
     intro h
     cases h
     simp at hc
    rw [decide_eq_false this]
   ·have hmm:m=m':=by simpa using hc
    exact ⟨⟨j+1,by omega,zmT hq hq' hmm hg⟩,lew,by simp;omega⟩
  ·have hbe:=zpT hend h5 hg
   refine' zc hcmp
   have:a=b:=by
    rw [← zhH a,← zhH b,h1,hce,h3,h4,hbe]
   rw [decide_eq_true this]
@[go_sem] noncomputable def zjq:Ent Tryz.prog 47:= .m2 zq zq zmU
theorem zmV {n:Nat} :((n:Int).tmod 64 !=0)= !(n % 64==0):=by
 rw [Int.tmod_eq_emod_of_nonneg (by omega)]
 by_cases h:n % 64=0
 ·have:(n:Int) % 64=0:=by omega
  simp [h,this]
 ·have:¬(n:Int) % 64=0:=by omega
  rw [bne,beq_eq_false_iff_ne.mpr this,beq_eq_false_iff_ne.mpr h]
theorem zpU {x:Bool} {n m:Int} :(!x||(n !=m))= !(x&&(n==m)):=by
 rw [Bool.not_and];rfl
theorem or_le {x:Bool} {n m:Int} :(!x||decide (n≤m))= !(x&&decide (m<n)):=by
 rw [Bool.not_and]
 congr 1
 by_cases h:m<n
 ·rw [decide_eq_true h,decide_eq_false (by omega)];rfl
 ·rw [decide_eq_false h,decide_eq_true (by omega)];rfl
theorem zos (d:Disk) (hd:DiskOk d):AC 59 [diskA d] (.d (.bool (dfit d))):=by
 refine bod Tryz.func59 Tryz.ntmps59 (fun base=>?_)
 refine' walkW fx (za zaQ <| za za0 <| zb _)
 ·rw [zmV] at hc
  rw [dfit]
  simp only [Bool.or_eq_true,decide_eq_true_eq,Bool.not_eq_true'] at hc
  congr 2
  rcases hc with ((hc|hc)|hc)|hc
  ·rw [decide_eq_false (p:=1≤dsize d) (by omega)];simp
  ·rw [decide_eq_false (p:=dsize d≤1024) (by omega)];simp
  ·rw [hc];simp
  ·rw [decide_eq_false (p:=d.cache.length≤4096) (by omega)];simp
 have hcl:=hd.cache
 have hbl:=hd.bad
 rw [zmV] at hc
 simp only [Bool.or_eq_false_iff,decide_eq_false_iff_not,Bool.not_eq_false'] at hc
 have hfit:dfit d=(d.cache.all (putOk d)&&zdf d d.bad none):=by
  rw [dfit,hc.1.2,decide_eq_true (p:=1≤dsize d) (by omega),decide_eq_true (p:=dsize d≤1024) (by omega),decide_eq_true (p:=d.cache.length≤4096) (by omega)]
  simp
 refine zy (fun q: { i:Nat // i≤d.cache.length∧d.cache.all (putOk d)=(d.cache.drop i).all (putOk d) } =>⟨[(1,true,.vp 0 0),(4,true,.d (.int .i64 q.1))],[(0,(.var [.d (.str d.data),.d (.sl 2 (d.cache.map putD)),.d (.int .i64 d.fuse),.d (.bool d.off),.d (.sl 1 (d.bad.map intD))]))],some []⟩) (fun q=>d.cache.length - q.1) ⟨0,Nat.zero_le _,rfl⟩ le1 (fun q=>?_)
 obtain ⟨i,hi,hf⟩:=q
 simp only at hi hf ⊢
 rcases zaj putD d.cache i hi with ⟨⟨m,s⟩,hq,hlt,hcmp,hrow,hdr,htk⟩|⟨hend,hcmp⟩
 ·simp only [putD] at hrow
  have hwi:=zE (i:=i) (by omega)
  rw [hdr,List.all_cons,putOk] at hf
  refine' walkW (zF hcmp hrow) (za zaQ <| za za0 <| zb _)
  ·have hc:(there d m&&((s.length:Int)==64))=false:=by rw [zpU] at hc;simp only [Bool.not_eq_true',Bool.not_eq_false'] at hc;exact hc
   rw [hfit,hf]
   simp only [hc,Bool.false_and]
  ·have hc:(there d m&&((s.length:Int)==64))=true:=by rw [zpU] at hc;simp only [Bool.not_eq_true',Bool.not_eq_false'] at hc;exact hc
   exact ⟨⟨i+1,by omega,by rw [hf];simp only [hc,Bool.true_and]⟩,lew,by simp;omega⟩
 ·rw [hend,List.drop_length] at hf
  refine' zc hcmp
  refine zy (fun q: { i:Nat // i≤d.bad.length∧zdf d d.bad none=zdf d (d.bad.drop i) (if i=0 then none else d.bad[i - 1]?) } =>⟨[(1,true,.vp 0 0),(5,true,.d (.int .i64 q.1))],[(0,(.var [.d (.str d.data),.d (.sl 2 (d.cache.map putD)),.d (.int .i64 d.fuse),.d (.bool d.off),.d (.sl 1 (d.bad.map intD))]))],some []⟩) (fun q=>d.bad.length - q.1) ⟨0,Nat.zero_le _,rfl⟩ le1 (fun q=>?_)
  obtain ⟨j,hj,hg⟩:=q
  simp only at hj hg ⊢
  rcases zaj intD d.bad j hj with ⟨m,hq,hlt,hcmp,hrow,hdr,htk⟩|⟨hend,hcmp⟩
  ·simp only [intD] at hrow
   have hwi:=zE (i:=j) (by omega)
   rw [hdr] at hg
   cases j with
   | zero=>
    have hz:decide ((0:Int)<((0:Nat):Int))=false:=by decide
    simp only [if_pos,zdf,Bool.and_true] at hg
    have hcmp0:decide ((0:Int)<(d.bad.length:Int))=true:=hcmp
    refine' walkW (zG hcmp0 hrow hz) (za zaQ <| za za0 <| zb _)
    ·have hc:there d m=false:=by simpa using hc
     rw [hfit,hg,hc,Bool.false_and,Bool.and_false]
    ·have hc:there d m=true:=by simpa using hc
     rw [hc,Bool.true_and] at hg
     exact ⟨⟨0+1,by omega,by rw [if_neg (by omega),Nat.zero_add,Nat.sub_self,hq];exact hg⟩,lev,by simp;omega⟩
   | succ j=>
    have hz:decide ((0:Int)<((j+1:Nat):Int))=true:=decide_eq_true (by omega)
    obtain ⟨m',hq'⟩:=zaA (l:=d.bad) (i:=j) (by omega)
    have hrow':=zcb (g:=intD) hq'
    simp only [intD] at hrow'
    have hwj:IntKind.i64.wrap (((j+1:Nat):Int) - 1)=(j:Int):=by rw [zh (by omega) (by omega)];omega
    rw [if_neg (by omega),Nat.add_sub_cancel,hq'] at hg
    simp only [zdf] at hg
    refine' walkW (zcW hcmp hrow hz hrow' hwj) (za zaQ <| za za0 <| zb _)
    ·have hc:(there d m&&decide (m'<m))=false:=by rw [or_le] at hc;simp only [Bool.not_eq_true',Bool.not_eq_false'] at hc;exact hc
     rw [hfit,hg,hc,Bool.false_and,Bool.and_false]
    ·have hc:(there d m&&decide (m'<m))=true:=by rw [or_le] at hc;simp only [Bool.not_eq_true',Bool.not_eq_false'] at hc;exact hc
     rw [hc,Bool.true_and] at hg
     exact ⟨⟨j+1+1,by omega,by rw [if_neg (by omega),Nat.add_sub_cancel,hq];exact hg⟩,lew,by simp;omega⟩
  ·rw [hend,List.drop_length] at hg
   refine' zc hcmp
   rw [hfit,hf,hg]
   rfl
@[go_sem] noncomputable def zdX:Ent Tryz.prog 59:= .m1 zq zos
open Go Go.Proofs
def idxP {α:Type} (p:α→Bool):List α→Nat→Int
 | [],_=> -1
 |q::l,k=>if p q=true then (k:Int) else idxP p l (k+1)
abbrev Idst {α:Type} (p:α→Bool) (l:List α):= { i:Nat // i≤l.length∧idxP p l 0=idxP p (l.drop i) i }
theorem zjr {α:Type} (p:α→Bool):∀ (l:List α) (k:Nat),decide ((0:Int)≤idxP p l k)=l.any p
 | [],k=>rfl
 |q::l,k=>by
  rw [idxP,List.any_cons]
  by_cases h:p q=true
  ·rw [if_pos h,h,decide_eq_true (by omega)];rfl
  ·rw [if_neg h,zjr p l (k+1)];simp [h]
theorem zfe {α:Type} [BEq α] [LawfulBEq α] (x:α):∀ (l:List α),l.any (fun q=>x==q)=l.contains x
 | []=>rfl
 |q::l=>by rw [List.any_cons,zfe x l,List.contains_cons]
theorem zjs (l:List Int) (x:Int) (hl:l.length≤9223372036854775807):AC 121 [.d (.sl 1 (l.map intD)),.d (.int .i64 x)] (.d (.int .i64 (idxP (fun q=>x==q) l 0))):=by
 refine bod Tryz.func121 Tryz.ntmps121 (fun base=>?_)
 refine' zc fx
 refine zy (fun q:Idst (fun q=>x==q) l=>⟨[(0,true,.d (.sl 1 (l.map intD))),(1,true,.d (.int .i64 x)),(7,true,.d (.int .i64 l.length)),(8,true,.d (.int .i64 q.1))],[],some []⟩) (fun q=>l.length - q.1) ⟨0,Nat.zero_le _,rfl⟩ le1 (fun q=>?_)
 obtain ⟨i,hi,hf⟩:=q
 simp only at hi hf ⊢
 rcases zaj intD l i hi with ⟨m,hq,hlt,hcmp,hrow,hdr,htk⟩|⟨hend,hcmp⟩
 ·simp only [intD] at hrow
  have hwi:=zE (i:=i) (by omega)
  refine' zc (zF hcmp hrow)
  ·rw [hf,hdr,idxP,if_pos (by simpa using hc)]
  ·exact ⟨⟨i+1,by omega,by rw [hf,hdr,idxP,if_neg (by simpa using hc)]⟩,lew,by simp;omega⟩
 ·refine' zc hcmp
  rw [hf,hend,List.drop_length]
  rfl
@[go_sem] noncomputable def zaR:Ent Tryz.prog 121:= .m2 (slT 1 intD zcf) (intT .i64) zjs
theorem zgz (l:List Int) (x:Int) (hl:l.length≤9223372036854775807):AC 78 [.d (.sl 1 (l.map intD)),.d (.int .i64 x)] (.d (.bool (l.contains x))):=by
 refine bod Tryz.func78 Tryz.ntmps78 (fun base=>?_)
 refine' walkW fx (za zaR <| zb _)
 rw [zjr,zfe]
@[go_sem] noncomputable def zb8:Ent Tryz.prog 78:= .m2 (slT 1 intD zcf) (intT .i64) zgz
theorem zqk (d:Disk) (hd:DiskOk d):AC 120 [diskA d] (.d (.int .i64 (dsize d))):=by
 refine bod Tryz.func120 Tryz.ntmps120 (fun base=>?_)
 refine' zc (zpR hd.data)
 rfl
@[go_sem] noncomputable def zmW:Ent Tryz.prog 120:= .m1 zq zqk
theorem zru (d:Disk) (at_:Int):(decide (at_<0)||decide (((dsize d:Nat):Int)≤at_))= !there d at_:=by
 rw [there,Bool.not_and]
 congr 1
 ·by_cases h:at_<0
  ·rw [decide_eq_true h,decide_eq_false (by omega)];rfl
  ·rw [decide_eq_false h,decide_eq_true (by omega)];rfl
 ·by_cases h:at_<(dsize d:Int)
  ·rw [decide_eq_true h,decide_eq_false (by omega)];rfl
  ·rw [decide_eq_false h,decide_eq_true (by omega)];rfl
theorem zrv (d:Disk) (at_:Int) (hd:DiskOk d):AC 77 [diskA d,.d (.int .i64 at_)] (.d (.bool (!there d at_))):=by
 refine bod Tryz.func77 Tryz.ntmps77 (fun base=>?_)
 refine' walkW fx (za zmW <| zb _)
 rw [zru]
@[go_sem] noncomputable def zhI:Ent Tryz.prog 77:= .m2 zq (intT .i64) zrv
open Go Go.Proofs
def dburn (d:Disk):Disk×Bool:=if d.fuse=0 then ({ d with off:=true },false) else (burnt d,true)
theorem zql (d:Disk) (hd:DiskOk d):AC 150 [diskA d] (.tup [diskA (dburn d).1,.d (.bool (dburn d).2)]):=by
 refine fbod Tryz.func150 Tryz.ntmps150 (fun base=>?_)
 have h1:=hd.fuse1
 have hw:0<d.fuse→IntKind.i64.wrap (d.fuse - 1)=d.fuse - 1:=fun h=>zh (by omega) (by omega)
 refine' zc fx
 all_goals by_cases h0:d.fuse=0
 all_goals by_cases h2:0<d.fuse
 all_goals simp_all [dburn,burnt]
 all_goals simp only [if_neg (show ¬0<d.fuse by omega)]
 all_goals simp
@[go_sem] noncomputable def zit:Ent Tryz.prog 150:= .m1 zq zql
theorem zgA (l:List PutR) (fl:Nat) (hl:l.length≤5000):ACall Tryz.prog 168 fl [.d (.sl 2 (l.map putD))] [] (fun r h'=>r= .osl fl 2 l.length 0 l.length∧h'= [(fl,.arr 2 (l.map putD))]):=by
 refine bod Tryz.func168 Tryz.ntmps168 (fun base=>?_)
 refine' zeV (zbj 2) fx
 ·refine ze noTab (zb _) (fun K hK=>?_);simp only [go_sem,aeq,aeq.aeqF,simprocAttr]
  (first|(refine hK _ ?_;clear hK K)|(clear hK K;refine hK _ ?_;clear hK K)|(clear hK K;clear hK K;refine hK _ ?_;clear hK K)|(clear hK K;clear hK K;clear hK K;refine hK _ ?_;clear hK K)|(clear hK K;clear hK K;clear hK K;clear hK K;refine hK _ ?_;clear hK K))
  refine zes 2 2 rfl ?_
  have h0:l= []:=List.map_eq_nil_iff.1 (hnb hc)
  subst h0
  refine' zc fx
  all_goals rfl
theorem zjt (d:Disk) (at_:Int) (s:Txt) (hd:DiskOk d):AC 136 [diskA d,.d (.int .i64 at_),.d (.str s)] (.tup [diskA (zI d at_ s).1,.d (.int .i64 (zI d at_ s).2)]):=by
 refine fbod Tryz.func136 Tryz.ntmps136 (fun base=>?_)
 have h1:=hd.bad
 refine' zio (zbj 14) fx (za zhI <| za zb8 <| za zit <| zb _)
 all_goals first|(simp_all [zI];done)|(by_cases h0:d.fuse=0<;>simp_all [zI,dburn];done)|skip
 have hl:d.cache.length≤5000:=by simp_all;omega
 refine' zc fx
 refine ((zgA d.cache 3 hl).own rfl rfl (Nat.zero_le _) (by rintro r h' ⟨_,rfl⟩;rfl)).mono ?_
 rintro r h' ⟨h1,⟨rfl,rfl⟩,rfl⟩
 simp only [go_sem,aeq,aeq.aeqF,simprocAttr]
 refine ⟨by omega,by omega,?_⟩
 refine' zc fx
 have hr:d.cache.map putD++ [[.int .i64 at_,.str s]]=(d.cache++ [(at_,s)]).map putD:=by simp [putD]
 rw [hr,if_pos (by simp),List.take_of_length_le (by simp)]
 clear hr
 by_cases h0:d.fuse=0
 ·simp_all [dburn]
 by_cases h6:4096≤(d.cache.length:Int)
 ·exfalso;simp_all
 by_cases h2:0<d.fuse
 ·simp only [zI,dburn,burnt,if_neg h6,if_neg h0,if_pos h2];simp_all
 ·simp only [zI,dburn,burnt,if_neg h6,if_neg h0,if_neg h2];simp_all
@[go_sem] noncomputable def zk:Ent Tryz.prog 136:= .m3 zq (intT .i64) strT zjt
theorem ziu (n:Int) (_:True):AC 152 [.d (.int .i64 n)] (.d (.bool true)):=by
 refine bod Tryz.func152 Tryz.ntmps152 (fun base=>?_)
 refine' zc fx
@[go_sem] noncomputable def zea:Ent Tryz.prog 152:= .m1 (intT .i64) ziu
theorem zln (d:Disk) (hd:DiskOk d) (hf:d.cache.all (putOk d)=true):ACall Tryz.prog 151 0 [diskA d,.fn (.func 152) [] []] [] (fun r _=>r= .d (.str (zcE d.data d.cache))):=by
 refine fbod Tryz.func151 Tryz.ntmps151 (fun base=>?_)
 refine' walkW fx (za zea <| zb _)
 have hcl:=hd.cache
 have hdl:=hd.data
 refine zy (fun q: { q:Nat×Txt // q.1≤d.cache.length∧q.2=zcE d.data (d.cache.take q.1)∧q.2.length=d.data.length } =>⟨[(1,true,.fn (.func 152) [] []),(5,true,.osl 1 1 (List.length d.data) 0 (List.length d.data)),(12,true,.d (.sl 2 (d.cache.map putD))),(13,true,.d (.int .i64 d.cache.length)),(14,true,.d (.int .i64 q.1.1))],[(1,.arr 1 (zg q.1.2)),(0,(.var [.d (.str d.data),.d (.sl 2 (d.cache.map putD)),.d (.int .i64 d.fuse),.d (.bool d.off),.d (.sl 1 (d.bad.map intD))]))],some []⟩) (fun q=>d.cache.length - q.1.1) ⟨(0,d.data),Nat.zero_le _,rfl,rfl⟩ le1 (fun q=>?_)
 obtain ⟨⟨i,b⟩,hi,hb,hbl⟩:=q
 simp only at hi hb hbl ⊢
 rcases zaj putD d.cache i hi with ⟨⟨m,s⟩,hq,hlt,hcmp,hrow,hdr,htk⟩|⟨hend,hcmp⟩
 ·simp only [putD] at hrow
  obtain ⟨p1,p2,p3⟩:=zpS hf hq
  simp only at p1 p2 p3
  have hwi:=zE (i:=i) (by omega)
  have hwm:IntKind.i64.wrap (m*64)=m*64:=zh (by omega) (by omega)
  have hst:=zis (b:=d.data) hq
  rw [← hb] at hst
  have hll:(lay b (m*64).toNat s).length=b.length:=zjo (by omega)
  have hb0:(zg b).length=d.data.length:=by rw [zg,List.length_map,hbl]
  refine' walkW (zcW hcmp hrow hwm @zky hb0) (za zea <| zb _)
  ·rw [zg,List.length_map];omega
  ·exact ⟨⟨(i+1,lay b (m*64).toNat s),by omega,hst.symm,hll.trans hbl⟩,lew,by simp;omega⟩
 ·have hb1:(d.data.length=(zg b).length)=True:=eq_true (by rw [zg,List.length_map,hbl])
  have hb2:List.take d.data.length (zg b)=zg b:=List.take_of_length_le (by rw [zg,List.length_map,hbl];omega)
  refine' zc (zaa hcmp hb1 hb2 @if_true.{1} @zan @za5)
  rw [hb,hend,zdb]
@[go_sem] noncomputable def ziv:Ent Tryz.prog 151:= .ofL (consL zq (consL (fnT 152 nilL) nilL)) (fun (d,_,_)=>(DiskOk d)∧(d.cache.all (putOk d)=true)) (fun (d,_,_)=> .d (.str (zcE d.data d.cache))) (fun (d,_,_) hp=>⟨rfl,zln d hp.1 hp.2⟩)
theorem zju (d:Disk) (hp:DiskOk d∧d.cache.all (putOk d)=true):AC 99 [diskA d] (.tup [diskA (dflush d).1,.d (.int .i64 (dflush d).2)]):=by
 obtain ⟨hd,hf⟩:=hp
 refine fbod Tryz.func99 Tryz.ntmps99 (fun base=>?_)
 refine' walkW fx (za zit <| za ziv <| zb _)
 all_goals first|(simp_all [dflush];done)|skip
 all_goals by_cases h0:d.fuse=0
 all_goals by_cases h2:0<d.fuse
 all_goals simp_all [dflush,dburn,burnt]
 all_goals simp only [if_neg (show ¬0<d.fuse by omega)]
 all_goals simp [*]
@[go_sem] noncomputable def za6:Ent Tryz.prog 99:= .m1 zq zju
open Go Go.Proofs
theorem zlq (rows:List (List D)):ACall Tryz.prog 123 0 [.d (.sl 2 rows)] [] (fun r _=>r= .fn (.func 162) [] [.dp [.d (.sl 2 rows)]]):=by
 refine fbod Tryz.func123 Tryz.ntmps123 (fun base=>?_)
 refine' zc fx
noncomputable def zff:Ent Tryz.prog 123:=Ent.of 123 (fun x:(List (List D))=>(fun (rows:List (List D))=>([.d (.sl 2 rows)]:List AV)) x) (fun x:(List (List D))=>(fun (rows:List (List D))=>(True:Prop)) x) (fun x:(List (List D))=>(fun (rows:List (List D))=>(.fn (.func 162) [] [.dp [.d (.sl 2 rows)]]:AV)) x) (fun x hp=>⟨rfl,zlq x⟩)
theorem zix:∀x y:(List (List D)),(fun x:(List (List D))=>(fun (rows:List (List D))=>([.d (.sl 2 rows)]:List AV)) x) x=(fun x:(List (List D))=>(fun (rows:List (List D))=>([.d (.sl 2 rows)]:List AV)) x) y→x=y:=by
 intro x y h
 skip
 simpa only [List.cons.injEq,AV.d.injEq,AV.agg.injEq,AV.dp.injEq,AV.fn.injEq,AV.tup.injEq,AV.asl.injEq,Int.natCast_inj,D.int.injEq,D.str.injEq,D.bool.injEq,D.sl.injEq,Prod.mk.injEq,and_true,true_and,and_assoc] using h
@[go_sem] theorem zou (rows:List (List D)):(zff).e [.d (.sl 2 rows)]=some (True,.fn (.func 162) [] [.dp [.d (.sl 2 rows)]]):=Ent.of_app zix (rows)
theorem zqm (d:Disk) (_:True):AC 79 [diskA d] (.fn (.func 122) [] [.dp (diskC d)]):=by
 refine fbod Tryz.func79 Tryz.ntmps79 (fun base=>?_)
 refine' zc fx
@[go_sem] noncomputable def ziy:Ent Tryz.prog 79:= .m1 zq zqm
def putAV (q:PutR):AV:= .agg [.d (.int .i64 q.1),.d (.str q.2)]
def backs:List PutR→List (Nat×PutR)
 | []=> []
 |q::r=>(r.length,q)::backs r
def zaW (x:Nat×PutR):List AV:= [.d (.int .i64 x.1),putAV x.2]
abbrev Bst (l:List PutR):= { q:Nat×List (List AV) // q.1≤l.length∧q.2++(backs (l.take q.1).reverse).map zaW=(backs l.reverse).map zaW }
theorem zjv (l:List PutR) (hl:l.length≤9223372036854775807) (fl:Nat):AIter Tryz.prog 162 fl [] [.dp [.d (.sl 2 (l.map putD))]] [] ((backs l.reverse).map zaW) (fun g h'=>(∀xs,g=some xs→xs=(backs l.reverse).map zaW)∧h'= []):=by
 refine itr Tryz.func162 Tryz.ntmps162 (fun base y=>?_)
 refine' zaK fx
 have hw0:IntKind.i64.wrap ((l.length:Int) - 1)=(l.length:Int) - 1:=zh (by omega) (by omega)
 refine zy (fun q:Bst l=>⟨[(0,true,.fn (.yield y.yl) [] []),(1,true,.dp [.d (.sl 2 (l.map putD))]),(3,true,.d (.int .i64 ((q.1.1:Int) - 1)))],[],some q.1.2⟩) (fun q=>q.1.1) ⟨(l.length,[]),Nat.le_refl _,by rw [zdb];rfl⟩ (by simp only [AS.le,leT,leH,zi,AsgK,AV.le,AV.leL,AObj.le,inH,idsT,idsH,AV.ids,AV.idsL,AV.idsR,AObj.ids,lk,hget,go_sem,aeq,aeq.aeqF,simprocAttr,hw0]) (fun q=>?_)
 obtain ⟨⟨i,xs⟩,hi,hf⟩:=q
 simp only at hi hf ⊢
 cases i with
 |zero=>
  have hz:decide ((0:Int)≤((0:Nat):Int) - 1)=false:=by decide
  refine' zaK hz
  rintro zs rfl
  rw [← hf];simp [backs]
 |succ i=>
  have hz:decide ((0:Int)≤((i+1:Nat):Int) - 1)=true:=decide_eq_true (by omega)
  have hi1:(((i+1:Nat):Int) - 1)=(i:Int):=by omega
  have hwi:IntKind.i64.wrap ((i:Int) - 1)=(i:Int) - 1:=zh (by omega) (by omega)
  obtain ⟨⟨n,s⟩,hq⟩:=zaA (l:=l) (i:=i) (by omega)
  have hrow:=zcb (g:=putD) hq
  simp only [putD] at hrow
  have hil:(l.take i).length=i:=by rw [List.length_take];omega
  rw [zb7 hq,List.reverse_append,List.reverse_singleton,List.singleton_append,backs,List.length_reverse,hil] at hf
  have hp:(xs++ [zaW (i,n,s)])<+:(backs l.reverse).map zaW:=by rw [← hf];simp
  simp only [zaW,putAV] at hp
  refine' zaK (zaJ hz hi1 hrow natC)
  exact ⟨⟨(i,xs++ [zaW (i,n,s)]),by omega,by rw [← hf];simp⟩,by simp only [AS.le,leT,leH,zi,AsgK,AV.le,AV.leL,AObj.le,inH,idsT,idsH,AV.ids,AV.idsL,AV.idsR,AObj.ids,lk,hget,go_sem,aeq,aeq.aeqF,simprocAttr,hwi,zaW,putAV],by simp⟩
def zcw (q:PutR):List AV:= [putAV q]
theorem ziz:∀l:List PutR,(backs l).map (fun x=>x.2)=l
 | []=>rfl
 |q::l=>by rw [backs,List.map_cons,ziz l]
theorem zkz (l:List PutR):((backs l).map zaW).map (fun x=>x.drop 1)=l.map zcw:=by
 have:(backs l).map zaW=(backs l).map (fun x=> .d (.int .i64 x.1)::zcw x.2):=rfl
 rw [this,List.map_map]
 have h2:(fun x:List AV=>x.drop 1) ∘ (fun x:Nat×PutR=>AV.d (.int .i64 x.1)::zcw x.2)=zcw ∘ (fun x=>x.2):=rfl
 rw [h2,← List.map_map,ziz]
theorem zov {l:List PutR} {xs:List (List AV)} {x:Nat×PutR} (h:(xs++ [zaW x])<+:(backs l).map zaW):(xs.map (fun x=>x.drop 1)++ [zcw x.2])<+:l.map zcw:=by
 have:=h.map (fun x=>x.drop 1)
 rw [zkz,List.map_append] at this
 exact this
theorem zjw (d:Disk) (hd:DiskOk d):AIter Tryz.prog 122 100 [] [.dp (diskC d)] [] (d.cache.reverse.map zcw) (fun g h'=>(∀xs,g=some xs→xs=d.cache.reverse.map zcw)∧h'= []):=by
 refine itr Tryz.func122 Tryz.ntmps122 (fun base y=>?_)
 refine zf1 ?_
 refine' walkX fx (za zff <| zb _)
 obtain ⟨I,hI⟩:∃I:List (List AV)→AHeap×Option (List (List AV)),I=fun xs=>([(100,.var [.fn (.yield y.yl) [] []])],some (xs.map (fun x=>x.drop 1))):=⟨_,rfl⟩
 obtain ⟨G,hG⟩:∃G:List (List AV)→Prop,G=fun _=>True:=⟨_,rfl⟩
 obtain ⟨J,hJ⟩:∃J:Code→AHeap→Option (List (List AV))→Prop,J=fun c h g=>c= .ret∧h= [(100,.var [.fn (.yield y.yl) [] []])]∧g=none:=⟨_,rfl⟩
 refine zbk 200 G I J (zjv d.cache hd.cache 200) (by simp only [go_sem,aeq,aeq.aeqF,simprocAttr]) rfl (zR rfl) (by simp [cxOf,cxY]) rfl (by rw [hG];first|trivial|rfl|simp) (by rw [hI];simp only [AS.le,leT,leH,zi,AsgK,AV.le,AV.leL,AObj.le,inH,idsT,idsH,AV.ids,AV.idsL,AV.idsR,AObj.ids,lk,hget,go_sem,aeq,aeq.aeqF,simprocAttr]<;>simp [AV.leL,AV.le]) (by rw [hI];simp only [AS.le,leT,leH,zi,AsgK,AV.le,AV.leL,AObj.le,inH,idsT,idsH,AV.ids,AV.idsL,AV.idsR,AObj.ids,lk,hget,go_sem,aeq,aeq.aeqF,simprocAttr]<;>simp) (by rw [hI]<;>rfl) (by intro x hx;obtain ⟨q,_,rfl⟩:=List.mem_map.1 hx;rfl) (by intro t ht;simp at ht;first|(rcases ht with rfl|rfl<;>simp [cxOf,cxY]<;>done)|(subst ht;simp [cxOf,cxY])) ?_ ?_ ?_
 ·intro xs x hpre hgd l1 r1
  obtain ⟨⟨i,n,s⟩,hq,rfl⟩:=List.mem_map.1 (hpre.subset (List.mem_append_right _ (List.mem_singleton.2 rfl)))
  have hp:=zov hpre
  simp only [zaW,putAV,zcw] at hp ⊢
  refine aw_le ⟨[(9,true,.agg [.d (.int .i64 n),.d (.str s)]),(2,true,.vp 100 0)],[(100,.var [.fn (.yield y.yl) [] []])],some (xs.map (fun x=>x.drop 1))⟩ (by rw [hI];simp only [AS.le,leT,leH,zi,AsgK,AV.le,AV.leL,AObj.le,inH,idsT,idsH,AV.ids,AV.idsL,AV.idsR,AObj.ids,lk,hget,go_sem,aeq,aeq.aeqF,simprocAttr]) ?_
  refine' zaK hI
  ·rw [hG];trivial
  ·simp
  ·rw [hJ];exact ⟨rfl,rfl,rfl⟩
 ·intro _
  rw [hI]
  simp only [go_sem,aeq,aeq.aeqF,simprocAttr]
  rintro zs rfl
  exact zkz _
 ·rw [hJ]
  rintro c h3 g3 ⟨rfl,rfl,rfl⟩
  refine' zaK fx
def hitI (at_:Int):List AV→Bool
 | [.agg [.d (.int .i64 n),_]]=>n==at_
 |_=>false
theorem zhJ (at_:Int):∀l:List PutR,(l.map zcw).any (hitI at_)=l.any (isPut at_)
 | []=>rfl
 |q::l=>by rw [List.map_cons,List.any_cons,List.any_cons,zhJ at_ l];rfl
theorem zlr (d:Disk) (at_:Int) (hd:DiskOk d):AC 28 [diskA d,.d (.int .i64 at_)] (.tup [.d (.str (dread d at_).1),.d (.int .i64 (dread d at_).2)]):=by
 refine bod Tryz.func28 Tryz.ntmps28 (fun base=>?_)
 have hbl:=hd.bad
 have hdl:=hd.data
 refine' zfd (zbj 7) fx (za zhI <| za zb8 <| za ziy <| zb _)
 all_goals first|(simp_all [dread];done)|skip
 have ht:there d at_=true:=by simp_all
 obtain ⟨ht0,ht1⟩:=there_iff.mp ht
 have hm:IntKind.i64.wrap (at_*64)=at_*64:=zh (by omega) (by omega)
 have hr:dread d at_=(sees d at_,0):=by simp_all [dread]
 refine' walkR hm (za zhI <| za zb8 <| za ziy <| zb _)
 ·rw [List.length_drop];omega
 obtain ⟨S0,hS0⟩:∃S0,S0=(d.data.drop (at_*64).toNat).take 64:=⟨_,rfl⟩
 rw [← hS0]
 obtain ⟨I,hI⟩:∃I:List (List AV)→AHeap×Option (List (List AV)),I=fun xs=>([(2,.var [.d (.str S0)]),(1,.var [.d (.int .i64 at_)]),(0,(.var [.d (.str d.data),.d (.sl 2 (d.cache.map putD)),.d (.int .i64 d.fuse),.d (.bool d.off),.d (.sl 1 (d.bad.map intD))]))],some []):=⟨_,rfl⟩
 obtain ⟨G,hG⟩:∃G:List (List AV)→Prop,G=fun xs=>xs.any (hitI at_)=false:=⟨_,rfl⟩
 obtain ⟨J,hJ⟩:∃J:Code→AHeap→Option (List (List AV))→Prop,J=fun c h g=>c= .exit 1∧g=some []∧∃q,d.cache.reverse.find? (isPut at_)=some q∧h= [(100,.var [.d (.int .i64 q.1),.d (.str q.2)]),(2,.var [.d (.str q.2)]),(1,.var [.d (.int .i64 at_)]),(0,(.var [.d (.str d.data),.d (.sl 2 (d.cache.map putD)),.d (.int .i64 d.fuse),.d (.bool d.off),.d (.sl 1 (d.bad.map intD))]))]:=⟨_,rfl⟩
 refine zbk 100 G I J (zjw d hd) (by simp only [go_sem,aeq,aeq.aeqF,simprocAttr]) rfl (zR rfl) (by simp [cxOf,cxY]) rfl (by rw [hG];first|trivial|rfl|simp) (by rw [hI];simp only [AS.le,leT,leH,zi,AsgK,AV.le,AV.leL,AObj.le,inH,idsT,idsH,AV.ids,AV.idsL,AV.idsR,AObj.ids,lk,hget,go_sem,aeq,aeq.aeqF,simprocAttr]<;>simp [AV.leL,AV.le]) (by rw [hI];simp only [AS.le,leT,leH,zi,AsgK,AV.le,AV.leL,AObj.le,inH,idsT,idsH,AV.ids,AV.idsL,AV.idsR,AObj.ids,lk,hget,go_sem,aeq,aeq.aeqF,simprocAttr]<;>simp) (by rw [hI]<;>rfl) (by intro x hx;obtain ⟨q,_,rfl⟩:=List.mem_map.1 hx;rfl) (by intro t ht;simp at ht;first|(rcases ht with rfl|rfl<;>simp [cxOf,cxY]<;>done)|(subst ht;simp [cxOf,cxY])) ?_ ?_ ?_
 ·intro xs x hpre hgd l1 r1
  obtain ⟨ys,⟨n,s⟩,zs,rfl,rfl,hl⟩:=zdg hpre
  rw [hG,zhJ] at hgd
  simp only [zcw,putAV]
  refine aw_le ⟨[(28,true,.agg [.d (.int .i64 n),.d (.str s)]),(3,true,.vp 1 0),(6,true,.vp 2 0)],[(2,.var [.d (.str S0)]),(1,.var [.d (.int .i64 at_)]),(0,(.var [.d (.str d.data),.d (.sl 2 (d.cache.map putD)),.d (.int .i64 d.fuse),.d (.bool d.off),.d (.sl 1 (d.bad.map intD))]))],some []⟩ (by rw [hI];simp only [AS.le,leT,leH,zi,AsgK,AV.le,AV.leL,AObj.le,inH,idsT,idsH,AV.ids,AV.idsL,AV.idsR,AObj.ids,lk,hget,go_sem,aeq,aeq.aeqF,simprocAttr]) ?_
  refine' zdE hI
  ·rw [hJ]
   exact ⟨rfl,rfl,(n,s),by rw [hl];exact zlp hgd hc,rfl⟩
  ·rw [hG]
   show List.any (_++_) _=false
   rw [List.any_append,zhJ,hgd]
   simpa [hitI] using hc
 ·intro hgd
  rw [hG,zhJ] at hgd
  rw [hI]
  refine' zdE fx
  rw [hr,sees,List.find?_eq_none.2 (fun x hx=>by simpa using List.any_eq_false.1 hgd x hx),hS0]
 ·rw [hJ]
  rintro c h3 g3 ⟨rfl,rfl,⟨n,s⟩,hq,rfl⟩
  refine' zdE fx
  rw [hr,sees,hq]
@[go_sem] noncomputable def zo:Ent Tryz.prog 28:= .m2 zq (intT .i64) zlr
open Go Go.Proofs
def putN (n:Nat):Nat→Txt
 |0=> []
 |k+1=>putN (n / 256) k++ [UInt8.ofNat n]
def takeN (l:Txt):Nat:=l.foldl (fun n c=>n*256+c.toNat) 0
theorem ziA (l:Txt) (i:Nat) (b:UInt8):(zg l).set i (zdy b)=zg (l.set i b):=by
 simp [zg,List.map_set]
theorem zbt (l:Txt):(zg l).length=l.length:=by simp [zg]
theorem zfg {b:Txt} {k:Nat} (hk:k<b.length):(zg b).getD k []= [.int .u8 (b.getD k 0).toNat]:=by
 simp [zg,List.getD_eq_getElem?_getD,hk,zdy]
theorem ziB {b:Txt} {k:Nat} {x:Int} (hk:k<b.length) (c:UInt8) (hx:x=c.toNat):(zg b).set k (((zg b).getD k []).set 0 (D.int .u8 x))=zg (b.set k c):=by
 rw [zfg hk,List.set_cons_zero,hx]
 exact ziA b k c
theorem zow {b:Txt} {k:Nat} (hk:k<b.length) (c:UInt8):(b.set k c).drop k=c::b.drop (k+1):=by
 rw [List.drop_set,if_neg (by omega),Nat.sub_self,List.drop_eq_getElem_cons hk,List.set_cons_zero]
theorem zac (n k:Nat):(putN n k).length=k:=by
 induction k generalizing n with
 |zero=>rfl
 |succ k ih=>rw [putN,List.length_append,ih];rfl
theorem ziC (n i:Nat):putN n (i+1)=UInt8.ofNat (n / 256 ^ i)::putN n i:=by
 induction i generalizing n with
 |zero=>simp [putN]
 |succ i ih=>
  rw [putN,ih,putN,List.cons_append,Nat.div_div_eq_div_mul,Nat.pow_succ,Nat.mul_comm 256]
theorem zpV (n k:Nat) (hk:k≤64):ishr .u64 (n:Int) (k:Int)=((n / 2 ^ k:Nat):Int):=by
 unfold ishr
 rw [show min ((k:Int).toNat) IntKind.u64.bits=k by show min ((k:Int).toNat) 64=k;omega]
 rw [Int.fdiv_eq_ediv_of_nonneg _ (Int.le_of_lt (Int.pow_pos (by decide)))]
 norm_cast
theorem u8_of (n:Nat):IntKind.u8.wrap (n:Int)=((UInt8.ofNat n).toNat:Int):=by
 rw [IntKind.wrap_u8]
 simp
theorem zox {n:Int} (h0:0≤n) {i:Nat} (hi:i≤8):IntKind.u8.wrap (ishr .u64 n ((8*i:Nat):Int))=((UInt8.ofNat (n.toNat / 256 ^ i)).toNat:Int):=by
 obtain ⟨m,rfl⟩:∃m:Nat,n=m:=⟨n.toNat,by omega⟩
 rw [zpV m _ (by omega),u8_of,Int.toNat_natCast,Nat.pow_mul]
theorem zeX (l:Txt) (c:UInt8):takeN (l++ [c])=takeN l*256+c.toNat:=by
 simp [takeN,List.foldl_append]
theorem zkA (l:Txt):takeN l<256 ^ l.length:=by
 rcases List.eq_nil_or_concat l with rfl|⟨l',c,rfl⟩
 ·decide
 ·rw [List.concat_eq_append,zeX,List.length_append,List.length_singleton,Nat.pow_succ]
  have:=zkA l'
  have:=c.toNat_lt
  have h2:takeN l'+1≤256 ^ l'.length:=by omega
  have:=Nat.mul_le_mul_right 256 h2
  omega
termination_by l.length
decreasing_by subst_vars;simp
theorem zcG {l:Txt} {i:Nat} (h:l.length≤i):takeN l<256 ^ i:=Nat.lt_of_lt_of_le (zkA l) (Nat.pow_le_pow_right (by decide) h)
theorem zap {x:Int} (h0:0≤x) (h1:x<18446744073709551616):IntKind.u64.wrap x=x:=by
 rw [IntKind.wrap_u64];omega
theorem zmX {l:Txt} {i:Nat} {c:UInt8} (hq:l[i]?=some c) (hi:i<8):IntKind.u64.wrap (IntKind.u64.wrap ((takeN (l.take i):Nat)*256)+IntKind.u64.wrap (c.toNat:Int))=((takeN (l.take (i+1)):Nat):Int):=by
 have h1:takeN (l.take i)<256 ^ 7:=zcG (by rw [List.length_take];omega)
 have h2:=c.toNat_lt
 rw [zap (x:=(takeN (l.take i):Nat)*256) (by omega) (by omega),zap (x:=(c.toNat:Int)) (by omega) (by omega),zap (by omega) (by omega),zb7 hq,zeX]
 omega
open Go Go.Proofs
def padS (s:Txt) (n:Int):Txt×Int:=if n<s.length∨65536<n then ([],11) else (s++List.replicate (n - s.length).toNat 0,0)
def overS (s:Txt) (at_:Int) (t:Txt):Txt×Int:=if at_<0∨(s.length:Int) - t.length<at_ then ([],10) else (s.take at_.toNat++t++s.drop (at_+t.length).toNat,0)
def putS8 (n:Int) (size:Int):Txt:=if size<1∨8<size then [] else putN n.toNat size.toNat
def takeS (s:Txt) (size:Int):Int×Txt×Int:=if size<1∨8<size then (0,[],25) else if (s.length:Int)<size then (0,[],22) else ((takeN (s.take size.toNat):Int),s.drop size.toNat,0)
def nameB (c:UInt8):Bool:=decide (33≤c.toNat)&&decide (c.toNat≤126)
def zf2 (s:Txt):Bool:=s.all nameB&&(s != []&&decide (s.length≤8))
theorem zoy (s:Txt) (n:Int) (hs:s.length≤9223372036854775807):AC 108 [.d (.str s),.d (.int .i64 n)] (.tup [.d (.str (padS s n).1),.d (.int .i64 (padS s n).2)]):=by
 refine fbod Tryz.func108 Tryz.ntmps108 (fun base=>?_)
 by_cases h:n<s.length∨65536<n
 ·have hdec:(decide (n<(s.length:Int))||decide (65536<n))=true:=by simpa using h
  refine' zc hdec
  rw [padS,if_pos h]
 ·have hdec:(decide (n<(s.length:Int))||decide (65536<n))=false:=by simpa using h
  have hm:IntKind.i64.wrap (n - s.length)=n - s.length:=zh (by omega) (by omega)
  refine' zc (zaa hdec hm @zdW @zir @zkx @if_true.{1})
  ·exact za5 _
  ·rw [zan,List.length_replicate];omega
  ·simp only [padS,if_neg h,zan]
@[go_sem] noncomputable def zg4:Ent Tryz.prog 108:= .m2 strT (intT .i64) zoy
theorem zkB {a b c:Int} :(decide (a<0)||decide (b<c)||decide (b - c<a))=(decide (a<0)||decide (b - c<a)):=by
 by_cases h1:a<0
 ·simp [h1]
 ·by_cases h2:b<c
  ·rw [decide_eq_true h2,decide_eq_true (p:=b - c<a) (by omega)];simp
  ·rw [decide_eq_false h2];simp
theorem zmY (s:Txt) (at_:Int) (t:Txt) (hp:s.length≤9223372036854775807∧t.length≤9223372036854775807):AC 21 [.d (.str s),.d (.int .i64 at_),.d (.str t)] (.tup [.d (.str (overS s at_ t).1),.d (.int .i64 (overS s at_ t).2)]):=by
 obtain ⟨hs,ht⟩:=hp
 refine bod Tryz.func21 Tryz.ntmps21 (fun base=>?_)
 have hm:IntKind.i64.wrap ((s.length:Int) - t.length)=(s.length:Int) - t.length:=zh (by omega) (by omega)
 by_cases h:at_<0∨(s.length:Int) - t.length<at_
 ·have hdec:(decide (at_<0)||decide ((s.length:Int) - t.length<at_))=true:=by simpa using h
  refine' zc (zG hm @zkB hdec)
  rw [overS,if_pos h]
 ·have hdec:(decide (at_<0)||decide ((s.length:Int) - t.length<at_))=false:=by simpa using h
  have hm2:IntKind.i64.wrap (at_+t.length)=at_+t.length:=zh (by omega) (by omega)
  refine' zc (zaJ hm @zkB hdec hm2)
  ·rw [List.length_take];omega
  ·simp;omega
  ·simp only [overS,if_neg h]
@[go_sem] noncomputable def zO:Ent Tryz.prog 21:= .m3 strT (intT .i64) strT zmY
theorem zoz (n size:Int) (hp:0≤n∧n<18446744073709551616):AC 107 [.d (.int .u64 n),.d (.int .i64 size)] (.d (.str (putS8 n size))):=by
 obtain ⟨h0,h1⟩:=hp
 refine fbod Tryz.func107 Tryz.ntmps107 (fun base=>?_)
 by_cases h:size<1∨8<size
 ·have hdec:(decide (size<1)||decide (8<size))=true:=by simpa using h
  refine' zc hdec
  rw [putS8,if_pos h]
 ·have hdec:(decide (size<1)||decide (8<size))=false:=by simpa using h
  obtain ⟨z,rfl,hz8⟩:∃z:Nat,size=(z:Int)∧z≤8:=⟨size.toNat,by omega,by omega⟩
  refine' zc (zF hdec natC)
  refine zy (fun q: { q:Nat×Txt // q.1≤z∧q.2.length=z∧q.2.drop (z - q.1)=putN n.toNat q.1 } =>⟨[(0,true,.d (.int .u64 n)),(1,true,.d (.int .i64 z)),(5,true,.osl 0 1 z 0 z),(6,true,.d (.int .i64 q.1.1))],[(0,.arr 1 (zg q.1.2))],some []⟩) (fun q=>z - q.1.1) ⟨(0,List.replicate z 0),Nat.zero_le _,by simp,by simp [putN]⟩ (by simp only [AS.le,leT,leH,zi,AsgK,AV.le,AV.leL,AObj.le,inH,idsT,idsH,AV.ids,AV.idsL,AV.idsR,AObj.ids,lk,hget,go_sem,aeq,aeq.aeqF,simprocAttr,zdW]<;>and_intros<;>rfl) (fun q=>?_)
  obtain ⟨⟨i,b⟩,hi,hbl,hbd⟩:=q
  simp only at hi hbl hbd ⊢
  rcases Nat.lt_or_ge i z with hlt|hge
  ·have hcmp:decide ((i:Int)<(z:Int))=true:=decide_eq_true (by omega)
   have hwi:=zE (i:=i) (by omega)
   have hm1:IntKind.i64.wrap ((z:Int) - 1)=(z:Int) - 1:=zh (by omega) (by omega)
   have hm2:IntKind.i64.wrap ((z:Int) - 1 - i)=((z - 1 - i:Nat):Int):=by rw [zh (by omega) (by omega)];omega
   have hm3:IntKind.i64.wrap (8*(i:Int))=((8*i:Nat):Int):=by rw [zh (by omega) (by omega)];omega
   have hb0:(zg b).length=z:=by rw [zg,List.length_map,hbl]
   have hbp:=ziB (b:=b) (k:=z - 1 - i) (by omega) _ (zox h0 (i:=i) (by omega))
   have hzi:z - 1 - i+1=z - i:=by omega
   refine' zc (zaa hcmp hm1 hm2 hm3 hb0 natC)
   exact ⟨⟨(i+1,b.set (z - 1 - i) (UInt8.ofNat (n.toNat / 256 ^ i))),by omega,by simpa using hbl,by rw [ziC,← hbd,← hzi,← zow (by omega)];congr 1;omega⟩,by simp only [AS.le,leT,leH,zi,AsgK,AV.le,AV.leL,AObj.le,inH,idsT,idsH,AV.ids,AV.idsL,AV.idsR,AObj.ids,lk,hget,go_sem,aeq,aeq.aeqF,simprocAttr,hwi,hbp],by simp;omega⟩
  ·have hcmp:decide ((i:Int)<(z:Int))=false:=decide_eq_false (by omega)
   have hb1:(z=(zg b).length)=True:=eq_true (by rw [zg,List.length_map,hbl])
   have hb2:List.take z (zg b)=zg b:=List.take_of_length_le (by rw [zg,List.length_map,hbl];omega)
   refine' zc (zaa hcmp hb1 hb2 @if_true.{1} @zan @za5)
   have:i=z:=by omega
   subst this
   rw [Nat.sub_self,List.drop_zero] at hbd
   rw [putS8,if_neg h,Int.toNat_natCast,hbd]
@[go_sem] noncomputable def zaL:Ent Tryz.prog 107:= .m2 (intT .u64) (intT .i64) zoz
theorem zmZ (s:Txt) (size:Int) (hs:s.length≤9223372036854775807):AC 53 [.d (.str s),.d (.int .i64 size)] (.tup [.d (.int .u64 (takeS s size).1),.d (.str (takeS s size).2.1),.d (.int .i64 (takeS s size).2.2)]):=by
 refine bod Tryz.func53 Tryz.ntmps53 (fun base=>?_)
 by_cases h:size<1∨8<size
 ·have hdec:(decide (size<1)||decide (8<size))=true:=by simpa using h
  refine' zc hdec
  rw [takeS,if_pos h]
 ·have hdec:(decide (size<1)||decide (8<size))=false:=by simpa using h
  obtain ⟨z,rfl,hz8⟩:∃z:Nat,size=(z:Int)∧z≤8:=⟨size.toNat,by omega,by omega⟩
  refine' zc (zF hdec natC)
  ·have hc:(s.length:Int)<z:=by simpa using hc
   simp only [takeS,if_neg h,if_pos hc]
  have hc:¬(s.length:Int)<z:=by simpa using hc
  refine zy (fun q: { i:Nat // i≤z } =>⟨[(0,true,.d (.str s)),(1,true,.d (.int .i64 z)),(7,true,.d (.int .u64 (takeN (s.take q.1)))),(8,true,.d (.int .i64 q.1))],[],some []⟩) (fun q=>z - q.1) ⟨0,Nat.zero_le _⟩ le1 (fun q=>?_)
  obtain ⟨i,hi⟩:=q
  simp only at hi ⊢
  rcases Nat.lt_or_ge i z with hlt|hge
  ·have hcmp:decide ((i:Int)<(z:Int))=true:=decide_eq_true (by omega)
   have hwi:=zE (i:=i) (by omega)
   obtain ⟨c,hq⟩:=zaA (l:=s) (i:=i) (by omega)
   have hgd:s.getD i 0=c:=by rw [List.getD_eq_getElem?_getD,hq];rfl
   have hst:=zmX hq (by omega)
   refine' zc (zG hcmp hgd natC)
   exact ⟨⟨i+1,by omega⟩,by simp only [AS.le,leT,leH,zi,AsgK,AV.le,AV.leL,AObj.le,inH,idsT,idsH,AV.ids,AV.idsL,AV.idsR,AObj.ids,lk,hget,go_sem,aeq,aeq.aeqF,simprocAttr,hwi,hst],by simp;omega⟩
  ·have hcmp:decide ((i:Int)<(z:Int))=false:=decide_eq_false (by omega)
   refine' zc (zF hcmp natC)
   have:i=z:=by omega
   subst this
   simp only [takeS,if_neg h,if_neg hc,Int.toNat_natCast]
@[go_sem] noncomputable def zaw:Ent Tryz.prog 53:= .m2 strT (intT .i64) zmZ
theorem ziD (c:UInt8):(decide ((c.toNat:Int)<33)||decide ((126:Int)<c.toNat))= !nameB c:=by
 rw [nameB,Bool.not_and]
 congr 1
 ·by_cases h:c.toNat<33
  ·rw [decide_eq_true (p:=(c.toNat:Int)<33) (by omega),decide_eq_false (by omega)];rfl
  ·rw [decide_eq_false (p:=(c.toNat:Int)<33) (by omega),decide_eq_true (by omega)];rfl
 ·by_cases h:126<c.toNat
  ·rw [decide_eq_true (p:=(126:Int)<c.toNat) (by omega),decide_eq_false (by omega)];rfl
  ·rw [decide_eq_false (p:=(126:Int)<c.toNat) (by omega),decide_eq_true (by omega)];rfl
theorem zqn (n k:Nat):decide ((n:Int)≤k)=decide (n≤k):=by
 by_cases h:n≤k
 ·rw [decide_eq_true h,decide_eq_true (by omega)]
 ·rw [decide_eq_false h,decide_eq_false (by omega)]
theorem zls (s:Txt) (hs:s.length≤9223372036854775807):ACall Tryz.prog 63 0 [.d (.str s)] [] (fun r _=>r= .d (.bool (zf2 s))):=by
 refine bod Tryz.func63 Tryz.ntmps63 (fun base=>?_)
 refine' zc fx
 refine zy (fun q: { i:Nat // i≤s.length∧s.all nameB=(s.drop i).all nameB } =>⟨[(0,true,.d (.str s)),(3,true,.d (.int .i64 q.1))],[],some []⟩) (fun q=>s.length - q.1) ⟨0,Nat.zero_le _,rfl⟩ le1 (fun q=>?_)
 obtain ⟨i,hi,hf⟩:=q
 simp only at hi hf ⊢
 rcases Nat.lt_or_ge i s.length with hlt|hge
 ·have hcmp:decide ((i:Int)<(s.length:Int))=true:=decide_eq_true (by omega)
  have hwi:=zE (i:=i) (by omega)
  obtain ⟨c,hq⟩:=zaA (l:=s) (i:=i) (by omega)
  have hgd:s.getD i 0=c:=by rw [List.getD_eq_getElem?_getD,hq];rfl
  rw [zcP hq,List.all_cons] at hf
  refine' zc (zG hcmp hgd natC)
  ·rw [ziD] at hc
   have hc:nameB c=false:=by simpa using hc
   rw [zf2,hf,hc];rfl
  ·rw [ziD] at hc
   have hc:nameB c=true:=by simpa using hc
   rw [hc,Bool.true_and] at hf
   exact ⟨⟨i+1,by omega,hf⟩,lew,by simp;omega⟩
 ·have hcmp:decide ((i:Int)<(s.length:Int))=false:=decide_eq_false (by omega)
  refine' zc (zF hcmp natC)
  rw [zf2,hf,List.drop_of_length_le (by omega),show (8:Int)=((8:Nat):Int) from rfl,zqn]
  rfl
@[go_sem] noncomputable def zcH:Ent Tryz.prog 63:= .ofL (consL strT nilL) (fun (s,_)=>s.length≤9223372036854775807) (fun (s,_)=> .d (.bool (zf2 s))) (fun (s,_) hp=>⟨rfl,zls s hp⟩)
open Go Go.Proofs
theorem zm0 (n:Int) (h0:0≤n) (h1:n≤140737488355328):ACall Tryz.prog 26 0 [.d (.str [0]),.d (.int .i64 n)] [] (fun r _=>r= .d (.str (List.replicate n.toNat 0))):=by
 obtain ⟨m,rfl⟩:∃m:Nat,n=m:=⟨n.toNat,by omega⟩
 exact zoo m (by omega)
@[go_sem] noncomputable def za1:Ent Tryz.prog 26:= .ofL (consL (zg0 (.d (.str [0]))) (consL (intT .i64) nilL)) (fun (_,n,_)=>(0≤n)∧(n≤140737488355328)) (fun (_,n,_)=> .d (.str (List.replicate n.toNat 0))) (fun (_,n,_) hp=>⟨rfl,zm0 n hp.1 hp.2⟩)
theorem zrw (s:Txt) (n:Int) (hs:s.length≤9223372036854775807):AC 165 [.d (.str s),.d (.int .i64 n)] (.tup [.d (.str (padS s n).1),.d (.int .i64 (padS s n).2)]):=by
 refine bod Tryz.func165 Tryz.ntmps165 (fun base=>?_)
 by_cases h:n<s.length∨65536<n
 ·have hdec:(decide (n<(s.length:Int))||decide (65536<n))=true:=by simpa using h
  refine' zc hdec
  rw [padS,if_pos h]
 ·have hdec:(decide (n<(s.length:Int))||decide (65536<n))=false:=by simpa using h
  have hm:IntKind.i64.wrap (n - s.length)=n - s.length:=zh (by omega) (by omega)
  refine' walkW (zF hdec hm) (za za1 <| zb _)
  ·rw [List.length_replicate];omega
  ·simp only [padS,if_neg h]
@[go_sem] noncomputable def zfw:Ent Tryz.prog 165:= .m2 strT (intT .i64) zrw
theorem zqo (s:Txt) (at_:Int) (t:Txt) (hp:s.length≤9223372036854775807∧t.length≤9223372036854775807):AC 84 [.d (.str s),.d (.int .i64 at_),.d (.str t)] (.tup [.d (.str (overS s at_ t).1),.d (.int .i64 (overS s at_ t).2)]):=by
 obtain ⟨hs,ht⟩:=hp
 refine bod Tryz.func84 Tryz.ntmps84 (fun base=>?_)
 have hm:IntKind.i64.wrap ((s.length:Int) - t.length)=(s.length:Int) - t.length:=zh (by omega) (by omega)
 by_cases h:at_<0∨(s.length:Int) - t.length<at_
 ·have hdec:(decide (at_<0)||decide ((s.length:Int) - t.length<at_))=true:=by simpa using h
  refine' zc (zF hm hdec)
  rw [overS,if_pos h]
 ·have hdec:(decide (at_<0)||decide ((s.length:Int) - t.length<at_))=false:=by simpa using h
  have hm2:IntKind.i64.wrap (at_+t.length)=at_+t.length:=zh (by omega) (by omega)
  refine' zc (zG hm hdec hm2)
  ·rw [List.length_take];omega
  ·simp;omega
  ·simp only [overS,if_neg h]
@[go_sem] noncomputable def zX:Ent Tryz.prog 84:= .m3 strT (intT .i64) strT zqo
theorem zrx (k s:Nat) (hs:s≤64) (h:k*2 ^ s<18446744073709551616):ishl .u64 (k:Int) (s:Int)=((k*2 ^ s:Nat):Int):=by
 unfold ishl
 rw [show min ((s:Int).toNat) IntKind.u64.bits=s by show min ((s:Int).toNat) 64=s;omega,IntKind.wrap_u64]
 have:(k:Int)*2 ^ s=((k*2 ^ s:Nat):Int):=by norm_cast
 rw [this]
 omega
theorem zlt (a b:Nat) (ha:a<18446744073709551616) (hb:b<18446744073709551616):ibits .or .u64 (a:Int) (b:Int)=((a ||| b:Nat):Int):=by
 have hab:a ||| b<18446744073709551616:=Nat.or_lt_two_pow (n:=64) ha hb
 unfold ibits
 simp only [show IntKind.u64.bits=64 from rfl,BitVec.ofInt_natCast,BitVec.toNat_or,BitVec.toNat_ofNat]
 rw [Nat.mod_eq_of_lt (by omega),Nat.mod_eq_of_lt (by omega),IntKind.wrap_u64]
 omega
theorem zlu {l:Txt} {i:Nat} {c:UInt8} (hq:l[i]?=some c) (hi:i<8):ibits .or .u64 (ishl .u64 ((takeN (l.take i):Nat):Int) 8) (IntKind.u64.wrap (c.toNat:Int))=((takeN (l.take (i+1)):Nat):Int):=by
 have h1:takeN (l.take i)<256 ^ 7:=zcG (by rw [List.length_take];omega)
 have h2:=c.toNat_lt
 rw [zap (x:=(c.toNat:Int)) (by omega) (by omega),show (8:Int)=((8:Nat):Int) from rfl,zrx _ _ (by omega) (by omega),zlt _ _ (by omega) (by omega),zb7 hq,zeX,← Nat.shiftLeft_eq,← Nat.shiftLeft_add_eq_or_of_lt (i:=8) (by omega),Nat.shiftLeft_eq]
theorem zqp (s:Txt) (size:Int) (hs:s.length≤9223372036854775807):AC 113 [.d (.str s),.d (.int .i64 size)] (.tup [.d (.int .u64 (takeS s size).1),.d (.str (takeS s size).2.1),.d (.int .i64 (takeS s size).2.2)]):=by
 refine fbod Tryz.func113 Tryz.ntmps113 (fun base=>?_)
 by_cases h:size<1∨8<size
 ·have hdec:(decide (size<1)||decide (8<size))=true:=by simpa using h
  refine' zc hdec
  rw [takeS,if_pos h]
 ·have hdec:(decide (size<1)||decide (8<size))=false:=by simpa using h
  obtain ⟨z,rfl,hz8⟩:∃z:Nat,size=(z:Int)∧z≤8:=⟨size.toNat,by omega,by omega⟩
  refine' zc (zF hdec natC)
  ·have hc:(s.length:Int)<z:=by simpa using hc
   simp only [takeS,if_neg h,if_pos hc]
  ·have hc:¬(s.length:Int)<z:=by simpa using hc
   omega
  ·rw [zbt]
  have hc:¬(s.length:Int)<z:=by simpa using hc
  have hlz:(s.take z).length=z:=by rw [List.length_take];omega
  simp only [hlz]
  refine zy (fun q: { i:Nat // i≤z } =>⟨[(0,true,.d (.str s)),(1,true,.d (.int .i64 z)),(7,true,.d (.int .u64 (takeN (s.take q.1)))),(25,true,.osl 0 1 z 0 z),(26,true,.d (.int .i64 z)),(27,true,.d (.int .i64 q.1))],[(0,.arr 1 (zg (s.take z)))],some []⟩) (fun q=>z - q.1) ⟨0,Nat.zero_le _⟩ le1 (fun q=>?_)
  obtain ⟨i,hi⟩:=q
  simp only at hi ⊢
  rcases Nat.lt_or_ge i z with hlt|hge
  ·have hcmp:decide ((i:Int)<(z:Int))=true:=decide_eq_true (by omega)
   have hwi:=zE (i:=i) (by omega)
   obtain ⟨c,hq⟩:=zaA (l:=s) (i:=i) (by omega)
   have hgd:(zg (s.take z)).getD i []= [.int .u8 c.toNat]:=by
    rw [zfg (by rw [hlz];omega),List.getD_eq_getElem?_getD,List.getElem?_take,if_pos hlt,hq];rfl
   have hst:=zlu hq (by omega)
   have hb0:(zg (s.take z)).length=z:=by rw [zbt,hlz]
   refine' zc (zaJ hcmp hgd hb0 natC)
   exact ⟨⟨i+1,by omega⟩,by simp only [AS.le,leT,leH,zi,AsgK,AV.le,AV.leL,AObj.le,inH,idsT,idsH,AV.ids,AV.idsL,AV.idsR,AObj.ids,lk,hget,go_sem,aeq,aeq.aeqF,simprocAttr,hwi,hst],by simp;omega⟩
  ·have hcmp:decide ((i:Int)<(z:Int))=false:=decide_eq_false (by omega)
   refine' zc (zF hcmp natC)
   have:i=z:=by omega
   subst this
   simp only [takeS,if_neg h,if_neg hc,Int.toNat_natCast]
@[go_sem] noncomputable def zbl:Ent Tryz.prog 113:= .m2 strT (intT .i64) zqp
open Go Go.Proofs
open Go Go.Proofs
def zdj (z i:Nat):List AV:= [.d (.int .i64 ((z:Int) - 1 - i)),.any]
def zaX (z:Nat):List (List AV):=(List.range z).map (zdj z)
def putB (m z i:Nat):Txt:=List.replicate (z - i) 0++putN m i
def putH (m z i:Nat):AHeap:= [(3,.var [.osl 1 1 z 0 z]),(2,.var [.osl 1 1 z 0 z]),(1,.arr 1 (zg (putB m z i))),(0,.var [.d (.int .u64 ((m / 256 ^ i:Nat):Int))])]
def putF (m z i:Nat):AS:=⟨[(1,true,.vp 3 0)],putH m z i,some []⟩
theorem zez {m z i:Nat} (h:i≤z):(putB m z i).length=z:=by
 rw [putB,List.length_append,List.length_replicate,zac];omega
theorem zhK (z:Nat):(zaX z).length=z:=by simp [zaX]
theorem zm7 {z i:Nat} (h:i<z):(zaX z)[i]?=some (zdj z i):=by simp [zaX,h]
theorem ziK {z i:Nat} (h:i<z):(zaX z).take i++ [zdj z i]=(zaX z).take (i+1):=by
 rw [zb7 (zm7 h)]
theorem zm8 {m z:Nat} (hz:z≤8) (y:Yo Tryz.prog (zaX z)) (v0:Value)
  (hS:∀g M N A w,y.G g M N A w→∃F,∃i,i≤z∧SatH F (putH m z i) w∧Rep w F (putH m z i) (.vp 3 0) v0) {E:Env} {w:World} (hs:SatH E [] w) (hG:y.G (some []) E.M E.N (Own E []) w):
  Calls Tryz.prog 202 (#[]++ #[Value.func (.yield y.yl) #[] #[]]++ #[v0]) w (fun e w'=>∃v E' h' g,e= .returned v∧((∀xs,g=some xs→xs=zaX z)∧h'= [])∧SatH E' h' w'∧Evo 100 E [] w E' h' w'∧y.G g E'.M E'.N (Own E' h') w'):=by
 refine zih (fl:=100) (pre:= []) (caps:= [.raw v0]) (h:= []) (K:=fun g h'=>(∀xs,g=some xs→xs=zaX z)∧h'= []) Tryz.func202 rfl Tryz.ntmps202 rfl (by simp) y (fun base=>?_) hs (by simp [Reps]) (by simp [Reps,Rep]) hG
 have hS':∀t:List (Nat×(Bool×AV)),lk t 1=some (true,.raw v0)→∀g M N A w,y.G g M N A w→∃F,∃b: { i:Nat // i≤z },SatH F (putF m z b.1).h w∧∀k g v,lk (putF m z b.1).t k=some (g,v)→g=true∧∃u,lk t k=some (true,.raw u)∧Rep w F (putF m z b.1).h v u:=by
  intro t ht g M N A w hg
  obtain ⟨F,i,hi,h1,h2⟩:=hS g M N A w hg
  refine ⟨F,⟨i,hi⟩,h1,?_⟩
  intro k g v hk
  simp only [putF,lk] at hk
  split at hk
  ·rename_i e
   subst e
   simp only [Option.some.injEq,Prod.mk.injEq] at hk
   obtain ⟨rfl,rfl⟩:=hk
   exact ⟨rfl,v0,ht,h2⟩
  ·cases hk
 have hw0:IntKind.i64.wrap ((z:Int) - 1)=(z:Int) - 1:=zh (by omega) (by omega)
 simp only [List.nil_append,zaC]
 refine zed noTab (zb _) _ _ (List.take_append_drop 4 _).symm (fun b: { i:Nat // i≤z } =>putF m z b.1) (hS' _ rfl) (fun K hK b=>?_)
 simp only [go_sem,aeq,aeq.aeqF,simprocAttr,putF,putH]
 refine ⟨by rw [zbt,zez b.2],hK _ ?_⟩
 clear hK K b
 refine zaB ?_
 refine zy (fun q: { j:Nat // j≤z } =>⟨[(0,true,.fn (.yield y.yl) [] []),(1,true,.raw v0),(3,true,.d (.int .i64 ((z:Int) - 1 - q.1)))],[],some ((zaX z).take q.1)⟩) (fun q=>z - q.1) ⟨0,Nat.zero_le _⟩ (by simp only [AS.le,leT,leH,zi,AsgK,AV.le,AV.leL,AObj.le,inH,idsT,idsH,AV.ids,AV.idsL,AV.idsR,AObj.ids,lk,hget,go_sem,aeq,aeq.aeqF,simprocAttr,hw0]<;>simp) (fun q=>?_)
 obtain ⟨j,hj⟩:=q
 simp only at hj ⊢
 rcases Nat.lt_or_ge j z with hlt|hge
 ·have hcmp:decide ((0:Int)≤(z:Int) - 1 - j)=true:=decide_eq_true (by omega)
  have hwj:IntKind.i64.wrap ((z:Int) - 1 - j - 1)=(z:Int) - 1 - (j+1:Nat):=by rw [zh (by omega) (by omega)];omega
  have hp:((zaX z).take j++ [zdj z j])<+:zaX z:=by rw [ziK hlt];exact List.take_prefix _ _
  have hpt:=ziK hlt
  simp only [zdj] at hp hpt
  refine' zmN (zbj 3) hcmp
  refine zed noTab (zb _) _ _ (List.take_append_drop 6 _).symm (fun b: { i:Nat // i≤z } =>putF m z b.1) (hS' _ rfl) (fun K hK b=>?_)
  have h3:((z:Int) - 1 - j).toNat<z:=by omega
  have hbl:(zg (putB m z b.1)).length=z:=by rw [zbt,zez b.2]
  simp only [go_sem,aeq,aeq.aeqF,simprocAttr,putF,putH,hbl]
  refine ⟨⟨by omega,by omega⟩,h3,hp,?_,?_⟩
  ·refine hK _ ?_
   clear hK K
   refine' zaK fx
   exact ⟨⟨j+1,by omega⟩,by simp only [AS.le,leT,leH,zi,AsgK,AV.le,AV.leL,AObj.le,inH,idsT,idsH,AV.ids,AV.idsL,AV.idsR,AObj.ids,lk,hget,go_sem,aeq,aeq.aeqF,simprocAttr,hwj,hpt],by simp;omega⟩
  ·refine hK _ ?_
   clear hK K
   refine' zaK fx
 ·have hcmp:decide ((0:Int)≤(z:Int) - 1 - j)=false:=decide_eq_false (by omega)
  refine' zaK hcmp
  rintro xs rfl
  exact List.take_of_length_le (by rw [zhK];omega)
theorem ziL (m z:Nat):putH m z 0= [(3,.var [.osl 1 1 z 0 z]),(2,.var [.osl 1 1 z 0 z]),(1,.arr 1 (List.replicate z [D.int .u8 0])),(0,.var [.d (.int .u64 (m:Int))])]:=by
 rw [putH,putB,zdW];simp [putN]
theorem zoK (m z:Nat):ACall Tryz.prog 188 3 [.osl 1 1 z 0 z] [(2,.var [.osl 1 1 z 0 z]),(1,.arr 1 (List.replicate z [D.int .u8 0])),(0,.var [.d (.int .u64 (m:Int))])] (fun r h'=>r= .fn (.func 202) [] [.vp 3 0]∧h'=putH m z 0):=by
 refine bod Tryz.func188 Tryz.ntmps188 (fun base=>?_)
 refine' zc fx
 rw [ziL]
theorem zrz (n:Int) (size:Int) (h0:0≤n) (h1:n<18446744073709551616):ACall Tryz.prog 164 0 [.d (.int .u64 n),.d (.int .i64 size)] [] (fun r _=>r= .d (.str (putS8 n size))):=by
 refine fbod Tryz.func164 Tryz.ntmps164 (fun base=>?_)
 by_cases h:size<1∨8<size
 ·have hdec:(decide (size<1)||decide (8<size))=true:=by simpa using h
  refine' zdE hdec
  rw [putS8,if_pos h]
 ·have hdec:(decide (size<1)||decide (8<size))=false:=by simpa using h
  obtain ⟨z,rfl,hz8⟩:∃z:Nat,size=(z:Int)∧z≤8:=⟨size.toNat,by omega,by omega⟩
  refine' zdE (zF hdec natC)
  obtain ⟨m,rfl⟩:∃m:Nat,n=m:=⟨n.toNat,by omega⟩
  refine ((zoK m z).whole (zR rfl) (Nat.zero_le _) (by rintro r h' ⟨_,rfl⟩ i hi;rw [ziL];simp only [hget] at hi ⊢;repeat' split<;>simp_all)).mono ?_
  rintro r h' ⟨rfl,rfl⟩
  refine hK _ ?_
  clear hK K
  refine zaB ?_
  rw [ziL]
  refine aw_le ⟨[(16,true,.fn (.func 202) [] [.vp 3 0]),(5,true,.vp 2 0),(2,true,.vp 0 0)],[(3,.var [.osl 1 1 z 0 z]),(2,.var [.osl 1 1 z 0 z]),(1,.arr 1 (List.replicate z [D.int .u8 0])),(0,.var [.d (.int .u64 (m:Int))])],some []⟩ le0 ?_
  obtain ⟨I,hI⟩:∃I:List (List AV)→AHeap×Option (List (List AV)),I=fun xs=>(putH m z (min xs.length z),some []):=⟨_,rfl⟩
  refine zlx (q:=3) (items:=zaX z) 100 I rfl rfl (zca Tryz.func202 (by kernel_rfl) rfl) ?_ ?_ (by simp [cxOf]) ?_ ?_ ?_ ?_ ?_ ?_ ?_ ?_ ?_
  ·intro y v0 hy E w hs hG
   refine zm8 (m:=m) hz8 y v0 (fun g M N A w hg=>?_) hs hG
   obtain ⟨F,xs,q1,q2⟩:=hy g M N A w hg
   rw [hI] at q1 q2
   exact ⟨F,_,Nat.min_le_right _ _,q1,q2⟩
  ·exact zR rfl
  ·exact ⟨_,rfl⟩
  ·intro xs
   rw [hI]
   exact ⟨_,rfl⟩
  ·rw [hI]
   simp only [List.length_nil,Nat.zero_min,ziL]
   simp only [AS.le,leT,leH,zi,AsgK,AV.le,AV.leL,AObj.le,inH,idsT,idsH,AV.ids,AV.idsL,AV.idsR,AObj.ids,lk,hget,go_sem,aeq,aeq.aeqF,simprocAttr]
  ·rw [hI]
   simp only [List.length_nil,Nat.zero_min,ziL]
   simp only [AS.le,leT,leH,zi,AsgK,AV.le,AV.leL,AObj.le,inH,idsT,idsH,AV.ids,AV.idsL,AV.idsR,AObj.ids,lk,hget,go_sem,aeq,aeq.aeqF,simprocAttr]
  ·rw [hI]
  ·intro x hx
   obtain ⟨i,_,rfl⟩:=List.mem_map.1 hx
   rfl
  ·intro t ht
   simp at ht
   rcases ht with rfl|rfl<;>simp [cxOf]
  ·intro xs x hpre l1 r1
   have hlt:xs.length<z:=by
    have:=hpre.length_le
    rw [List.length_append,zhK] at this
    simp only [List.length_singleton] at this
    omega
   have hx:x=zdj z xs.length:=by
    obtain ⟨r,hr⟩:=hpre
    have:=congrArg (fun l=>l[xs.length]?) hr
    simp only [zm7 hlt] at this
    simpa using this
   subst hx
   have hmin:min xs.length z=xs.length:=by omega
   have hmin':min (xs.length+1) z=xs.length+1:=by omega
   rw [hI]
   simp only [hmin,List.length_append,List.length_singleton,hmin',zdj]
   generalize xs.length=i at hlt
   clear hmin hmin' hpre hI
   have hbl:(zg (putB m z i)).length=z:=by rw [zbt,zez (by omega)]
   have hto:((z:Int) - 1 - i).toNat=z - 1 - i:=by omega
   have hlt2:decide ((z:Int) - 1 - i<z)=true:=decide_eq_true (by omega)
   have hle2:decide (0≤(z:Int) - 1 - i)=true:=decide_eq_true (by omega)
   have hby:IntKind.u8.wrap ((m / 256 ^ i:Nat):Int)=((UInt8.ofNat (m / 256 ^ i)).toNat:Int):=u8_of _
   have hsh:ishr .u64 ((m / 256 ^ i:Nat):Int) 8=((m / 256 ^ (i+1):Nat):Int):=by
    rw [show (8:Int)=((8:Nat):Int) from rfl,zpV _ _ (by omega),Nat.div_div_eq_div_mul,Nat.pow_succ 256 i]
   have hset:(zg (putB m z i)).set (z - 1 - i) (((zg (putB m z i)).getD (z - 1 - i) []).set 0 (D.int .u8 (IntKind.u8.wrap ((m / 256 ^ i:Nat):Int))))=zg (putB m z (i+1)):=by
    rw [ziB (by rw [zez (by omega)];omega) _ hby]
    congr 1
    have e1:z - i=(z - 1 - i)+1:=by omega
    have e2:z - (i+1)=z - 1 - i:=by omega
    rw [putB,putB,e1,e2,ziC,List.replicate_succ',List.append_assoc,List.set_append,if_neg (by simp)]
    simp
   refine aw_le ⟨[(17,true,.d (.int .i64 ((z:Int) - 1 - i))),(5,true,.vp 2 0),(2,true,.vp 0 0)],[(3,.var [.osl 1 1 z 0 z]),(2,.var [.osl 1 1 z 0 z]),(1,.arr 1 (zg (putB m z i))),(0,.var [.d (.int .u64 ((m / 256 ^ i:Nat):Int))])],some []⟩ (by rw [putH];simp only [AS.le,leT,leH,zi,AsgK,AV.le,AV.leL,AObj.le,inH,idsT,idsH,AV.ids,AV.idsL,AV.idsR,AObj.ids,lk,hget,go_sem,aeq,aeq.aeqF,simprocAttr]) ?_
   (have tk:=zb Tryz.prog);repeat' (first|((first|(refine sa ?_;intro K hK)|refine sb ?_);simp only [go_sem,aeq,aeq.aeqF,simprocAttr,hbl,hto,hset,hsh,Tryz.results164])|refine zay (fun K hK=>?_)|refine sc ?_|refine zbf rfl (fun hc=>?_) (fun hc=>?_)|(refine hK _ ?_;clear hK K)|((first|refine (show AS.le _ _ from ?_)|refine (show leH _ _ from ?_)|refine (show inH _ _ from ?_));simp only [AS.le,leT,leH,zi,AsgK,AV.le,AV.leL,AObj.le,inH,idsT,idsH,AV.ids,AV.idsL,AV.idsR,AObj.ids,lk,hget,go_sem,aeq,aeq.aeqF,simprocAttr,hbl,hto,hset,hsh])|refine fun (r2:Rnd _)=>?_|with_reducible refine And.intro ?_ ?_|exact ‹_<+:_› |omega|assumption|refine fun (hg:(_:Bool)=(_:Bool))=>?_|clear hK K)
   ·rw [putH];simp only [AS.le,leT,leH,zi,AsgK,AV.le,AV.leL,AObj.le,inH,idsT,idsH,AV.ids,AV.idsL,AV.idsR,AObj.ids,lk,hget,go_sem,aeq,aeq.aeqF,simprocAttr]
   ·rw [putH];simp only [AS.le,leT,leH,zi,AsgK,AV.le,AV.leL,AObj.le,inH,idsT,idsH,AV.ids,AV.idsL,AV.idsR,AObj.ids,lk,hget,go_sem,aeq,aeq.aeqF,simprocAttr]
  ·have hmin:min (zaX z).length z=z:=by rw [zhK];omega
   rw [hI]
   simp only [hmin]
   have hbl:(zg (putB m z z)).length=z:=by rw [zbt,zez (by omega)]
   have hput:putB m z z=putN m z:=by rw [putB,Nat.sub_self];rfl
   have hbl2:(z=(zg (putB m z z)).length)=True:=eq_true hbl.symm
   have hbl3:List.take z (zg (putB m z z))=zg (putB m z z):=List.take_of_length_le (by omega)
   (have tk:=zb Tryz.prog);repeat' (first|((first|(refine sa ?_;intro K hK)|refine sb ?_);simp only [go_sem,aeq,aeq.aeqF,simprocAttr,putH,hbl,Tryz.results164])|refine zay (fun K hK=>?_)|refine sc ?_|refine zbf rfl (fun hc=>?_) (fun hc=>?_)|(refine hK _ ?_;clear hK K)|((first|refine (show AS.le _ _ from ?_)|refine (show leH _ _ from ?_)|refine (show inH _ _ from ?_));simp only [AS.le,leT,leH,zi,AsgK,AV.le,AV.leL,AObj.le,inH,idsT,idsH,AV.ids,AV.idsL,AV.idsR,AObj.ids,lk,hget,go_sem,aeq,aeq.aeqF,simprocAttr,putH,hbl])|refine fun (r2:Rnd _)=>?_|with_reducible refine And.intro ?_ ?_|exact ‹_<+:_› |omega|assumption|refine fun (hg:(_:Bool)=(_:Bool))=>?_|clear hK K)
   ·rw [hbl3];exact za5 _
   ·have hn:(z:Int) - 1=z - 1:=rfl
    rw [hbl3,zan,hput,putS8,if_neg h]
    rfl
@[go_sem] noncomputable def zcI:Ent Tryz.prog 164:= .ofL (consL (intT .u64) (consL (intT .i64) nilL)) (fun (n,size,_)=>(0≤n)∧(n<18446744073709551616)) (fun (n,size,_)=> .d (.str (putS8 n size))) (fun (n,size,_) hp=>⟨rfl,zrz n size hp.1 hp.2⟩)
open Go Go.Proofs
def zeb (g h:Int):Bool:=decide (1≤g)&&decide (g≤64)&&decide (8≤h)&&decide (h≤256)
def zf3 (g h:Int):Int:=if zeb g h then 96+2*h else 0
theorem geo_iff {g h:Int} :zeb g h=true↔1≤g∧g≤64∧8≤h∧h≤256:=by
 simp [zeb,and_assoc]
theorem zqq (k:Int) (hp:0≤k∧k≤1000000):AC 43 [.d (.int .i64 k)] (.d (.int .i64 (96+2*k))):=by
 obtain ⟨h0,h1⟩:=hp
 refine bod Tryz.func43 Tryz.ntmps43 (fun base=>?_)
 have hm:IntKind.i64.wrap (2*k)=2*k:=zh (by omega) (by omega)
 have hm2:IntKind.i64.wrap (96+2*k)=96+2*k:=zh (by omega) (by omega)
 refine' zc (zF hm hm2)
@[go_sem] noncomputable def zK:Ent Tryz.prog 43:= .m1 (intT .i64) zqq
theorem at_ok (k:Int) (hp:0≤k∧k≤1000000):AC 76 [.d (.int .i64 k)] (.d (.int .i64 (96+2*k))):=by
 obtain ⟨h0,h1⟩:=hp
 refine bod Tryz.func76 Tryz.ntmps76 (fun base=>?_)
 have hm:IntKind.i64.wrap (2*k)=2*k:=zh (by omega) (by omega)
 have hm2:IntKind.i64.wrap (96+2*k)=96+2*k:=zh (by omega) (by omega)
 refine' zc (zF hm hm2)
@[go_sem] noncomputable def zbq:Ent Tryz.prog 76:= .m1 (intT .i64) at_ok
theorem zoA (k:Int) (hp:0≤k∧k≤1000000):AC 88 [.d (.int .i64 k)] (.tup [.d (.int .i64 (87+k / 32)),.d (.int .i64 (2*(k % 32)))]):=by
 obtain ⟨h0,h1⟩:=hp
 refine bod Tryz.func88 Tryz.ntmps88 (fun base=>?_)
 have hm:IntKind.i64.wrap (k.tdiv 32)=k / 32:=by rw [Int.tdiv_eq_ediv_of_nonneg h0,zh (by omega) (by omega)]
 have hm2:IntKind.i64.wrap (87+k / 32)=87+k / 32:=zh (by omega) (by omega)
 have hm3:k.tmod 32=k % 32:=Int.tmod_eq_emod_of_nonneg h0
 have hm4:IntKind.i64.wrap (2*(k % 32))=2*(k % 32):=zh (by omega) (by omega)
 refine' zc (zaJ hm hm2 hm3 hm4)
@[go_sem] noncomputable def zcj:Ent Tryz.prog 88:= .m1 (intT .i64) zoA
theorem zqr {k:Int} (h0:0≤k):ishr .i64 k 5=k / 32:=by
 unfold ishr
 rw [show min ((5:Int).toNat) IntKind.i64.bits=5 from rfl,Int.fdiv_eq_ediv_of_nonneg _ (by decide)]
 rfl
theorem zqs {k:Int} (h0:0≤k) (h1:k≤1000000):ibits .and .i64 k 31=k % 32:=by
 obtain ⟨m,rfl⟩:∃m:Nat,k=m:=⟨k.toNat,by omega⟩
 show IntKind.i64.wrap ((BitVec.ofInt 64 (m:Int)&&& BitVec.ofInt 64 31).toNat:Int)=_
 rw [BitVec.ofInt_natCast,show BitVec.ofInt 64 31=BitVec.ofNat 64 31 from rfl,BitVec.toNat_and,BitVec.toNat_ofNat,BitVec.toNat_ofNat,Nat.mod_eq_of_lt (by omega),Nat.mod_eq_of_lt (by omega),show (31:Nat)=2 ^ 5 - 1 from rfl,Nat.and_two_pow_sub_one_eq_mod,zh (by omega) (by omega)]
 omega
theorem zry (k:Int) (hp:0≤k∧k≤1000000):AC 141 [.d (.int .i64 k)] (.tup [.d (.int .i64 (87+k / 32)),.d (.int .i64 (2*(k % 32)))]):=by
 obtain ⟨h0,h1⟩:=hp
 refine bod Tryz.func141 Tryz.ntmps141 (fun base=>?_)
 have hm:=zqr h0
 have hm2:IntKind.i64.wrap (87+k / 32)=87+k / 32:=zh (by omega) (by omega)
 have hm3:=zqs h0 h1
 have hm4:IntKind.i64.wrap (k % 32*2)=2*(k % 32):=by rw [zh (by omega) (by omega)];omega
 refine' zc (zaJ hm hm2 hm3 hm4)
@[go_sem] noncomputable def zdY:Ent Tryz.prog 141:= .m1 (intT .i64) zry
theorem zm1:ACall Tryz.prog 158 0 [] [] (fun r _=>r= .tup [.d (.int .i64 6),.d (.int .i64 81)]):=by
 refine bod Tryz.func158 Tryz.ntmps158 (fun base=>?_)
 refine' zc fx
@[go_sem] noncomputable def zjx:Ent Tryz.prog 158:= .ofL nilL (fun _=>True) (fun _=> .tup [.d (.int .i64 6),.d (.int .i64 81)]) (fun _ hp=>⟨rfl,zm1⟩)
theorem zoB (g:Int) (m:Int):ACall Tryz.prog 58 0 [.agg [.d (.int .i64 g),.d (.int .i64 m)]] [] (fun r _=>r= .d (.bool (zeb g m))):=by
 refine bod Tryz.func58 Tryz.ntmps58 (fun base=>?_)
 refine' zc fx
 rfl
@[go_sem] noncomputable def zcX:Ent Tryz.prog 58:= .ofL (consL (aggT (consL (intT .i64) (consL (intT .i64) nilL)) (fun p=>p) (fun p=>p) (fun _=>rfl)) nilL) (fun ((g,m,_),_)=>True) (fun ((g,m,_),_)=> .d (.bool (zeb g m))) (fun ((g,m,_),_) hp=>⟨rfl,zoB g m⟩)
theorem zoC (g:Int) (m:Int):ACall Tryz.prog 61 0 [.agg [.d (.int .i64 g),.d (.int .i64 m)]] [] (fun r _=>r= .d (.int .i64 (zf3 g m))):=by
 refine bod Tryz.func61 Tryz.ntmps61 (fun base=>?_)
 refine' walkW fx (za zcX <| zb _)
 ·have hc:zeb g m=false:=by simpa using hc
  rw [zf3,if_neg (by rw [hc];exact Bool.false_ne_true)]
 ·have hc:zeb g m=true:=by simpa using hc
  have hg:=geo_iff.1 hc
  rw [zf3,if_pos hc,zh (n:=2*m) (by omega) (by omega),zh (by omega) (by omega)]
@[go_sem] noncomputable def zdZ:Ent Tryz.prog 61:= .ofL (consL (aggT (consL (intT .i64) (consL (intT .i64) nilL)) (fun p=>p) (fun p=>p) (fun _=>rfl)) nilL) (fun ((g,m,_),_)=>True) (fun ((g,m,_),_)=> .d (.int .i64 (zf3 g m))) (fun ((g,m,_),_) hp=>⟨rfl,zoC g m⟩)
open Go Go.Proofs
structure Plan where
 targets:List Int
 texts:List Txt
 deriving DecidableEq
def planA (p:Plan):AV:= .agg [.d (.sl 1 (p.targets.map intD)),.d (.sl 1 (p.texts.map strD))]
def planC (p:Plan):List AV:= [.d (.sl 1 (p.targets.map intD)),.d (.sl 1 (p.texts.map strD))]
attribute [go_sem] planA planC
theorem zoD (p:Plan):Plan.mk p.targets p.texts=p:=rfl
noncomputable def zA:PT Plan:=aggT (consL (slT 1 intD zcf) (consL (slT 1 strD zex) nilL)) (fun p=>⟨p.1,p.2.1⟩) (fun x=>(x.targets,x.texts,())) (fun _=>rfl)
attribute [go_sem] zA
noncomputable def zm2:PT Plan:=dpT (consL (slT 1 intD zcf) (consL (slT 1 strD zex) nilL)) (fun p=>⟨p.1,p.2.1⟩) (fun x=>(x.targets,x.texts,())) (fun _=>rfl)
attribute [go_sem] zm2
attribute [go_sem] zoD
structure PlanOk (p:Plan):Prop where
 targets:p.targets.length≤9223372036854775807
 texts:p.texts.length≤9223372036854775807
def secOk (at_:Int):Bool:=decide (0≤at_)&&decide (at_<1024)
def pfind (l:List Int) (at_:Int):Int:=idxP (fun x=>x==at_) l 0
def pfitL:List Int→List Int→List Txt→Bool
 |_,[],_=>true
 |seen,t::r,s::q=>secOk t&& !seen.contains t&&((s.length:Int)==64)&&pfitL (seen++ [t]) r q
 |_,_::_,[]=>true
def pfit (p:Plan):Bool:=decide (p.targets.length=p.texts.length)&&decide (p.targets.length≤24)&&pfitL [] p.targets p.texts
def plook (d:Disk) (p:Plan) (at_:Int):Txt×Int:=
 if 0≤pfind p.targets at_ then (p.texts.getD (pfind p.targets at_).toNat [],0) else dread d at_
def pset (p:Plan) (at_:Int) (s:Txt):Plan×Int:=
 if !secOk at_ then (p,10) else if (s.length:Int)≠64 then (p,11)
 else if 0≤pfind p.targets at_ then (⟨p.targets,p.texts.set (pfind p.targets at_).toNat s⟩,0)
 else if 24≤(p.targets.length:Int) then (p,16) else (⟨p.targets++ [at_],p.texts++ [s]⟩,0)
def zec (d:Disk) (p:Plan) (at_:Int) (off:Int) (s:Txt):Plan×Int:=
 if (plook d p at_).2≠0 then (p,(plook d p at_).2)
 else if (overS (plook d p at_).1 off s).2≠0 then (p,(overS (plook d p at_).1 off s).2)
 else pset p at_ (overS (plook d p at_).1 off s).1
def layL (d:Disk):List (Int×Txt)→Disk×Int
 | []=>(d,0)
 |q::r=>if (zI d q.1 q.2).2≠0 then zI d q.1 q.2 else layL (zI d q.1 q.2).1 r
def play (d:Disk) (p:Plan):Disk×Int:=layL d (p.targets.zip p.texts)
theorem zf4 {d:Disk} (h:DiskOk d) (at_:Int) (s:Txt):DiskOk (zI d at_ s).1:=by
 unfold zI
 repeat' split
 all_goals first|exact h|skip
 ·exact ⟨h.data,h.cache,h.bad,h.fuse0,h.fuse1⟩
 ·rename_i h6
  exact zkw ⟨h.data,by simp only [List.length_append,List.length_singleton];omega,h.bad,h.fuse0,h.fuse1⟩
theorem zkC {d:Disk} {at_:Int} (hf:d.cache.all (putOk d)=true) (ht:there d at_=true):(sees d at_).length=64:=by
 obtain ⟨h0,h1⟩:=there_iff.1 ht
 unfold sees
 split
 ·rename_i q hq
  have hm:=List.mem_of_find?_eq_some hq
  have:=List.all_eq_true.1 hf q (List.mem_reverse.1 hm)
  rw [putOk,Bool.and_eq_true] at this
  have:=eq_of_beq this.2
  omega
 ·rw [List.length_take,List.length_drop];omega
theorem zcx {d:Disk} {at_:Int} (hf:d.cache.all (putOk d)=true):(dread d at_).1.length≤64:=by
 unfold dread
 repeat' split
 all_goals first|(simp;done)|skip
 rw [zkC hf (by simp_all)]
 omega
theorem ziE:∀ (t:List Int) (s:List Txt) (seen:List Int),pfitL seen t s=true→t.length=s.length→∀x∈s,x.length=64
 | [],s,seen,_,hl=>by
  have:s= []:=List.length_eq_zero_iff.1 hl.symm
  subst this
  simp
 |t::r,[],seen,_,hl=>by simp at hl
 |t::r,s::q,seen,h,hl=>by
  rw [pfitL] at h
  simp only [Bool.and_eq_true] at h
  intro x hx
  rcases List.mem_cons.1 hx with rfl|hx
  ·have:=eq_of_beq h.1.2;omega
  ·exact ziE r q _ h.2 (by simpa using hl) x hx
theorem zaq {p:Plan} (h:pfit p=true):p.targets.length=p.texts.length∧p.targets.length≤24∧∀x∈p.texts,x.length=64:=by
 simp only [pfit,Bool.and_eq_true,decide_eq_true_eq] at h
 exact ⟨h.1.1,h.1.2,ziE _ _ _ h.2 h.1.1⟩
theorem zoE {l:List Txt} {n k:Nat} (h:∀x∈l,x.length=n):(l.getD k []).length≤n:=by
 rw [List.getD_eq_getElem?_getD]
 rcases hk:l[k]? with _|x
 ·simp
 ·rw [Option.getD_some,h x (List.mem_of_getElem? hk)]
  exact Nat.le_refl _
theorem ziF {d:Disk} {p:Plan} {at_:Int} (hf:d.cache.all (putOk d)=true) (hp:pfit p=true):(plook d p at_).1.length≤64:=by
 unfold plook
 split
 ·exact zoE (zaq hp).2.2
 ·exact zcx hf
theorem ziG {α:Type} (p:α→Bool):∀ (l:List α) (k:Nat),idxP p l k= -1∨((k:Int)≤idxP p l k∧idxP p l k<((k+l.length:Nat):Int))
 | [],k=> .inl rfl
 | q::l,k=>by
  rw [idxP]
  split
  ·exact .inr ⟨Int.le_refl _,by simp;omega⟩
  ·rcases ziG p l (k+1) with h|⟨h1,h2⟩
   ·exact .inl h
   ·exact .inr ⟨by omega,by simp only [List.length_cons];omega⟩
theorem zbP (l:List Int) (at_:Int):pfind l at_= -1∨∃k:Nat,pfind l at_=k∧k<l.length:=by
 rcases ziG (fun x=>x==at_) l 0 with h|⟨h1,h2⟩
 ·exact .inl h
 ·exact .inr ⟨(pfind l at_).toNat,by unfold pfind;omega,by unfold pfind;omega⟩
theorem zjy (at_:Int) (_:True):AC 22 [.d (.int .i64 at_)] (.d (.bool (secOk at_))):=by
 refine bod Tryz.func22 Tryz.ntmps22 (fun base=>?_)
 refine' zc fx
 rfl
@[go_sem] noncomputable def zdh:Ent Tryz.prog 22:= .m1 (intT .i64) zjy
theorem zm3 (p:Plan) (at_:Int) (hp:PlanOk p):AC 23 [planA p,.d (.int .i64 at_)] (.d (.int .i64 (pfind p.targets at_))):=by
 refine bod Tryz.func23 Tryz.ntmps23 (fun base=>?_)
 refine' zc fx
 have ht:=hp.targets
 refine zy (fun q:Idst (fun x=>x==at_) p.targets=>⟨[(1,true,.d (.int .i64 at_)),(2,true,.vp 0 0),(5,true,.d (.int .i64 q.1))],[(0,.var [.d (.sl 1 (p.targets.map intD)),.d (.sl 1 (p.texts.map strD))])],some []⟩) (fun q=>p.targets.length - q.1) ⟨0,Nat.zero_le _,rfl⟩ le1 (fun q=>?_)
 obtain ⟨i,hi,hf⟩:=q
 simp only at hi hf ⊢
 rcases zaj intD p.targets i hi with ⟨m,hq,hlt,hcmp,hrow,hdr,htk⟩|⟨hend,hcmp⟩
 ·simp only [intD] at hrow
  have hwi:=zE (i:=i) (by omega)
  refine' zc (zF hcmp hrow)
  ·rw [pfind,hf,hdr,idxP,if_pos hc]
  ·exact ⟨⟨i+1,by omega,by rw [hf,hdr,idxP,if_neg (by rw [hc];exact Bool.false_ne_true)]⟩,lew,by simp;omega⟩
 ·refine' zc hcmp
  rw [pfind,hf,hend,List.drop_length]
  rfl
@[go_sem] noncomputable def zcy:Ent Tryz.prog 23:= .m2 zA (intT .i64) zm3
theorem zm4 (d:Disk) (p:Plan) (at_:Int) (hp:DiskOk d∧PlanOk p∧p.targets.length=p.texts.length):AC 50 [diskA d,planA p,.d (.int .i64 at_)] (.tup [.d (.str (plook d p at_).1),.d (.int .i64 (plook d p at_).2)]):=by
 obtain ⟨hd,hp,hl⟩:=hp
 refine bod Tryz.func50 Tryz.ntmps50 (fun base=>?_)
 rcases zbP p.targets at_ with hk|⟨k,hk,hkl⟩
 ·refine' walkW hk (za zcy <| za zbp <| zb _)
  rw [plook,hk,if_neg (by omega)]
 ·obtain ⟨s,hq⟩:=zaA (l:=p.texts) (i:=k) (by omega)
  have hrow:=zcb (g:=strD) hq
  simp only [strD] at hrow
  have h1:decide ((0:Int)≤(k:Int))=true:=decide_eq_true (by omega)
  have h2:decide ((k:Int)<(p.texts.length:Int))=true:=decide_eq_true (by omega)
  refine' walkW (zcW hk hrow natC h1 h2) (za zcy <| za zbp <| zb _)
  rw [plook,hk,if_pos (by omega),Int.toNat_natCast,List.getD_eq_getElem?_getD,hq]
  rfl
@[go_sem] noncomputable def zJ:Ent Tryz.prog 50:= .m3 zq zA (intT .i64) zm4
theorem zd0 {α:Type} (g:α→List D) (l:List α) (x:α) (r:List D) (hr:r=g x) {k:Nat} :(if l.length+1=(l.map g++ [r]).length then AV.d (D.sl k (List.take (l.length+1) (l.map g++ [r]))) else AV.any)=AV.d (.sl k ((l++ [x]).map g)):=by
 have h1:l.length+1=(l.map g++ [r]).length:=by simp
 rw [if_pos h1,List.take_of_length_le (Nat.le_of_eq h1.symm),hr,List.map_append]
 rfl
theorem zkD {k n:Nat} {X:List (List D)} (h:X.length=n):(if n=X.length then AV.d (D.sl k (List.take n X)) else AV.any)=AV.d (.sl k X):=by
 rw [if_pos h.symm,List.take_of_length_le (Nat.le_of_eq h)]
theorem zm5 {l:List Txt} {k:Nat} {s:Txt} (hk:k<l.length):(l.map strD).set k (((l.map strD).getD k []).set 0 (D.str s))=(l.set k s).map strD:=by
 obtain ⟨x,hq⟩:=zaA hk
 rw [zcb (g:=strD) hq,List.map_set]
 rfl
theorem zoF (p:Plan) (at_:Int) (s:Txt) (hp:PlanOk p∧p.targets.length=p.texts.length∧p.targets.length≤24):AC 109 [planA p,.d (.int .i64 at_),.d (.str s)] (.tup [planA (pset p at_ s).1,.d (.int .i64 (pset p at_ s).2)]):=by
 obtain ⟨hp,hl,h24⟩:=hp
 refine fbod Tryz.func109 Tryz.ntmps109 (fun base=>?_)
 rcases zbP p.targets at_ with hk|⟨k,hk,hkl⟩
 ·refine' walkW hk (za zdh <| za zcy <| zb _)
  all_goals first|(simp_all [pset];done)|skip
  rw [zd0 intD p.targets at_ [D.int .i64 at_] rfl,zd0 strD p.texts s [D.str s] rfl]
  by_cases h6:24≤(p.targets.length:Int)
  ·exfalso;simp_all;omega
  ·simp_all [pset]
   simp only [if_neg (show ¬(24:Int)≤p.texts.length by omega)]
   simp
 ·have h1:decide ((0:Int)≤(k:Int))=true:=decide_eq_true (by omega)
  refine' walkW (zG hk natC h1) (za zdh <| za zcy <| zb _)
  all_goals first|(simp_all [pset];done)|skip
  rw [zm5 (by omega),zkD (by simp)]
  simp_all [pset]
@[go_sem] noncomputable def zaM:Ent Tryz.prog 109:= .m3 zA (intT .i64) strT zoF
theorem zlv (d:Disk) (p:Plan) (at_ off:Int) (s:Txt) (hp:DiskOk d∧d.cache.all (putOk d)=true∧pfit p=true∧s.length≤9223372036854775807):AC 110 [diskA d,planA p,.d (.int .i64 at_),.d (.int .i64 off),.d (.str s)] (.tup [planA (zec d p at_ off s).1,.d (.int .i64 (zec d p at_ off s).2)]):=by
 obtain ⟨hd,hf,hp,hs⟩:=hp
 refine fbod Tryz.func110 Tryz.ntmps110 (fun base=>?_)
 obtain ⟨hl,h24,h64⟩:=zaq hp
 have hpo:PlanOk p:=⟨by omega,by omega⟩
 have hb:=ziF (at_:=at_) hf hp
 refine' walkW fx (za zJ <| za zO <| za zaM <| zb _)
 all_goals first|(simp_all [zec];done)|skip
@[go_sem] noncomputable def zaD:Ent Tryz.prog 110:= .m5 zq zA (intT .i64) (intT .i64) strT zlv
open Go Go.Proofs
theorem zm6 {l:List Int} {i:Nat} {t:Int} :∀ {k:Nat},l[i]?=some t→(idxP (fun x=>x==t) l k==((k+i:Nat):Int))= !(l.take i).contains t:=by
 induction l generalizing i with
 |nil=>intro k h;simp at h
 | cons a l ih=>
  intro k h
  cases i with
  |zero=>
   simp only [List.getElem?_cons_zero,Option.some.injEq] at h
   subst h
   rw [idxP,if_pos (by simp)]
   simp
  | succ i=>
   rw [List.getElem?_cons_succ] at h
   rw [idxP,List.take_succ_cons,List.contains_cons]
   by_cases ha:a=t
   ·rw [if_pos (by simpa using ha),ha,beq_self_eq_true,Bool.true_or]
    rw [beq_eq_false_iff_ne.2 (by omega)];rfl
   ·rw [if_neg (by simpa using ha),show k+(i+1)=k+1+i from by omega,ih h,beq_eq_false_iff_ne.2 (Ne.symm ha),Bool.false_or]
theorem zoG (p:Plan) (hp:PlanOk p):AC 6 [planA p] (.d (.bool (pfit p))):=by
 refine bod Tryz.func6 Tryz.ntmps6 (fun base=>?_)
 have h1:=hp.targets
 have h2:=hp.texts
 refine' zc fx
 ·have:pfit p=false:=by
   simp only [Bool.or_eq_true,bne_iff_ne,decide_eq_true_eq] at hc
   rw [pfit]
   rcases hc with hc|hc
   ·rw [decide_eq_false (p:=p.targets.length=p.texts.length) (by omega)];simp
   ·rw [decide_eq_false (p:=p.targets.length≤24) (by omega)];simp
  rw [this]
 obtain ⟨hl,h24⟩:p.targets.length=p.texts.length∧p.targets.length≤24:=by
  simp only [Bool.or_eq_false_iff,bne_eq_false_iff_eq,decide_eq_false_iff_not] at hc
  omega
 have hfit:pfit p=pfitL [] p.targets p.texts:=by
  rw [pfit,decide_eq_true hl,decide_eq_true h24];simp
 refine zy (fun q: { i:Nat // i≤p.targets.length∧pfitL [] p.targets p.texts=pfitL (p.targets.take i) (p.targets.drop i) (p.texts.drop i) } =>⟨[(1,true,.vp 0 0),(3,true,.d (.int .i64 q.1))],[(0,.var [.d (.sl 1 (p.targets.map intD)),.d (.sl 1 (p.texts.map strD))])],some []⟩) (fun q=>p.targets.length - q.1) ⟨0,Nat.zero_le _,rfl⟩ le1 (fun q=>?_)
 obtain ⟨i,hi,hf⟩:=q
 simp only at hi hf ⊢
 rcases zaj intD p.targets i hi with ⟨m,hq,hlt,hcmp,hrow,hdr,htk⟩|⟨hend,hcmp⟩
 ·obtain ⟨s,hq'⟩:=zaA (l:=p.texts) (i:=i) (by omega)
  have hrow':=zcb (g:=strD) hq'
  simp only [intD] at hrow
  simp only [strD] at hrow'
  have hwi:=zE (i:=i) (by omega)
  have hid:=zm6 (k:=0) hq
  rw [Nat.zero_add] at hid
  rw [hdr,zcP hq',pfitL] at hf
  have hall:(!secOk m||pfind p.targets m !=(i:Int)||((s.length:Int) !=64))= !(secOk m&& !(p.targets.take i).contains m&&((s.length:Int)==64)):=by
   rw [← hid,Bool.not_and,Bool.not_and];rfl
  refine' walkW (zG hcmp hrow hrow') (za zdh <| za zcy <| zb _)
  ·rw [hall] at hc
   simp only [Bool.not_eq_true'] at hc
   rw [hfit,hf,hc,Bool.false_and]
  ·rw [hall] at hc
   simp only [Bool.not_eq_false'] at hc
   rw [hc,Bool.true_and,← htk] at hf
   exact ⟨⟨i+1,by omega,hf⟩,lew,by simp;omega⟩
 ·refine' zc hcmp
  rw [hfit,hf,hend,List.drop_length]
  rfl
@[go_sem] noncomputable def zbu:Ent Tryz.prog 6:= .m1 zA zoG
theorem zoH (d:Disk) (p:Plan) (hp:DiskOk d∧PlanOk p∧p.targets.length=p.texts.length):AC 67 [diskA d,planA p] (.tup [diskA (play d p).1,.d (.int .i64 (play d p).2)]):=by
 obtain ⟨hd,hp,hl⟩:=hp
 refine fbod Tryz.func67 Tryz.ntmps67 (fun base=>?_)
 have h1:=hp.targets
 have h2:=hp.texts
 refine' zc fx
 refine zy (fun q: { q:Nat×Disk // q.1≤p.targets.length∧DiskOk q.2∧play d p=layL q.2 ((p.targets.zip p.texts).drop q.1) } =>⟨[(2,true,.vp 0 0),(3,true,.vp 1 0),(4,true,.vp 2 0),(6,true,.d (.int .i64 q.1.1))],[(2,.var [.d (.str []),.nils 2,.d (.int .i64 0),.d (.bool false),.nils 1]),(1,.var [.d (.sl 1 (p.targets.map intD)),.d (.sl 1 (p.texts.map strD))]),(0,(.var [.d (.str q.1.2.data),.d (.sl 2 (q.1.2.cache.map putD)),.d (.int .i64 q.1.2.fuse),.d (.bool q.1.2.off),.d (.sl 1 (q.1.2.bad.map intD))]))],some []⟩) (fun q=>p.targets.length - q.1.1) ⟨(0,d),Nat.zero_le _,hd,rfl⟩ le1 (fun q=>?_)
 obtain ⟨⟨i,x⟩,hi,hx,hf⟩:=q
 simp only at hi hx hf ⊢
 rcases zaj intD p.targets i hi with ⟨m,hq,hlt,hcmp,hrow,hdr,htk⟩|⟨hend,hcmp⟩
 ·obtain ⟨s,hq'⟩:=zaA (l:=p.texts) (i:=i) (by omega)
  have hrow':=zcb (g:=strD) hq'
  simp only [intD] at hrow
  simp only [strD] at hrow'
  have hwi:=zE (i:=i) (by omega)
  have hcmp':decide ((i:Int)<(p.texts.length:Int))=true:=by rw [← hl];exact hcmp
  have hz:(p.targets.zip p.texts)[i]?=some (m,s):=List.getElem?_zip_eq_some.2 ⟨hq,hq'⟩
  rw [zcP hz,layL] at hf
  have hxo:=zf4 hx m s
  refine' walkW (zaJ hcmp hcmp' hrow hrow') (za zt <| zb _)
  ·have hc:(zI x m s).2≠0:=by simpa using hc
   rw [hf,if_pos hc]
  ·have hc:¬(zI x m s).2≠0:=by simpa using hc
   rw [if_neg hc] at hf
   exact ⟨⟨(i+1,(zI x m s).1),by omega,hxo,hf⟩,lew,by simp;omega⟩
 ·refine' zc hcmp
  rw [hf,List.drop_of_length_le (by rw [List.length_zip];omega)]
  rfl
@[go_sem] noncomputable def zbQ:Ent Tryz.prog 67:= .m2 zq zA zoH
open Go Go.Proofs
theorem zjz (at_:Int) (_:True):AC 184 [.d (.int .i64 at_)] (.d (.bool (!secOk at_))):=by
 refine bod Tryz.func184 Tryz.ntmps184 (fun base=>?_)
 refine' zc fx
 congr 2
 rw [secOk,Bool.not_and]
 congr 1
 ·by_cases h:at_<0
  ·rw [decide_eq_true h,decide_eq_false (by omega)];rfl
  ·rw [decide_eq_false h,decide_eq_true (by omega)];rfl
 ·by_cases h:at_<1024
  ·rw [decide_eq_true h,decide_eq_false (by omega)];rfl
  ·rw [decide_eq_false h,decide_eq_true (by omega)];rfl
@[go_sem] noncomputable def za7:Ent Tryz.prog 184:= .m1 (intT .i64) zjz
theorem zkE (l:List Int) (x:Int) (k:Nat):idxP (fun q=>x==q) l k=idxP (fun q=>q==x) l k:=by
 have:(fun q:Int=>x==q)=(fun q=>q==x):=by funext q;exact BEq.comm
 rw [this]
theorem zoI (d:Disk) (p:Plan) (at_:Int) (hp:DiskOk d∧PlanOk p∧p.targets.length=p.texts.length):AC 112 [diskA d,planA p,.d (.int .i64 at_)] (.tup [.d (.str (plook d p at_).1),.d (.int .i64 (plook d p at_).2)]):=by
 obtain ⟨hd,hp,hl⟩:=hp
 refine bod Tryz.func112 Tryz.ntmps112 (fun base=>?_)
 have ht:=hp.targets
 have hsw:=zkE p.targets at_ 0
 rcases zbP p.targets at_ with hk|⟨k,hk,hkl⟩
 ·have hk':=hk
  unfold pfind at hk'
  refine' walkW (zF hsw hk') (za zaR <| za zo <| zb _)
  rw [plook,hk,if_neg (by omega)]
 ·have hk':=hk
  unfold pfind at hk'
  obtain ⟨s,hq⟩:=zaA (l:=p.texts) (i:=k) (by omega)
  have hrow:=zcb (g:=strD) hq
  simp only [strD] at hrow
  have h1:decide ((0:Int)≤(k:Int))=true:=decide_eq_true (by omega)
  refine' walkW (zcW hsw hk' hrow natC h1) (za zaR <| za zo <| zb _)
  rw [plook,hk,if_pos (by omega),Int.toNat_natCast,List.getD_eq_getElem?_getD,hq]
  rfl
@[go_sem] noncomputable def zak:Ent Tryz.prog 112:= .m3 zq zA (intT .i64) zoI
open Go Go.Proofs
theorem zgB (l:List Int) (fl:Nat) (hl:l.length≤5000):ACall Tryz.prog 203 fl [.d (.sl 1 (l.map intD))] [] (fun r h'=>r= .osl fl 1 l.length 0 l.length∧h'= [(fl,.arr 1 (l.map intD))]):=by
 refine bod Tryz.func203 Tryz.ntmps203 (fun base=>?_)
 refine' zeV (zbj 2) fx
 ·refine ze noTab (zb _) (fun K hK=>?_);simp only [go_sem,aeq,aeq.aeqF,simprocAttr]
  (first|(refine hK _ ?_;clear hK K)|(clear hK K;refine hK _ ?_;clear hK K)|(clear hK K;clear hK K;refine hK _ ?_;clear hK K)|(clear hK K;clear hK K;clear hK K;refine hK _ ?_;clear hK K)|(clear hK K;clear hK K;clear hK K;clear hK K;refine hK _ ?_;clear hK K))
  refine zes 2 1 rfl ?_
  have h0:l= []:=List.map_eq_nil_iff.1 (hnb hc)
  subst h0
  refine' zc fx
  all_goals rfl
theorem zgC (l:List Txt) (fl:Nat) (hl:l.length≤5000):ACall Tryz.prog 204 fl [.d (.sl 1 (l.map strD))] [] (fun r h'=>r= .osl fl 1 l.length 0 l.length∧h'= [(fl,.arr 1 (l.map strD))]):=by
 refine bod Tryz.func204 Tryz.ntmps204 (fun base=>?_)
 refine' zeV (zbj 2) fx
 ·refine ze noTab (zb _) (fun K hK=>?_);simp only [go_sem,aeq,aeq.aeqF,simprocAttr]
  (first|(refine hK _ ?_;clear hK K)|(clear hK K;refine hK _ ?_;clear hK K)|(clear hK K;clear hK K;refine hK _ ?_;clear hK K)|(clear hK K;clear hK K;clear hK K;refine hK _ ?_;clear hK K)|(clear hK K;clear hK K;clear hK K;clear hK K;refine hK _ ?_;clear hK K))
  refine zes 2 1 rfl ?_
  have h0:l= []:=List.map_eq_nil_iff.1 (hnb hc)
  subst h0
  refine' zc fx
  all_goals rfl
theorem zpW (l:List Int) (h:l.length≤5000) (fl:Nat):ACall Tryz.prog 203 fl [.d (.sl 1 (l.map intD))] [] (fun r h'=>r= .osl fl 1 (l.map intD).length 0 (l.map intD).length∧h'= [(fl,.arr 1 (l.map intD))]):=by
 rw [List.length_map];exact zgB l fl h
theorem zpX (l:List Txt) (h:l.length≤5000) (fl:Nat):ACall Tryz.prog 204 fl [.d (.sl 1 (l.map strD))] [] (fun r h'=>r= .osl fl 1 (l.map strD).length 0 (l.map strD).length∧h'= [(fl,.arr 1 (l.map strD))]):=by
 rw [List.length_map];exact zgC l fl h
theorem zqt (p:Plan) (at_:Int) (s:Txt) (hp:PlanOk p∧p.targets.length=p.texts.length∧p.targets.length≤24):AC 190 [planA p,.d (.int .i64 at_),.d (.str s)] (.tup [planA (pset p at_ s).1,.d (.int .i64 (pset p at_ s).2)]):=by
 obtain ⟨hp,hl,h24⟩:=hp
 refine fbod Tryz.func190 Tryz.ntmps190 (fun base=>?_)
 have hsw:=zkE p.targets at_ 0
 rcases zbP p.targets at_ with hk|⟨k,hk,hkl⟩
 ·have hk':=hk
  unfold pfind at hk'
  refine' zmM (ownsL [203,204]) (zF hsw hk') (za za7 <| za zaR <| zb _)
  all_goals first|(simp_all [pset];done)|skip
  refine ⟨_,_,zpW p.targets (by omega),_,_,zpX p.texts (by omega),by kernel_rfl,hK _ ?_⟩
  clear hK K
  simp only [List.length_map]
  refine' walkW (zF hsw hk') (za za7 <| za zaR <| zb _)
  all_goals first|(simp_all [pset];done)|skip
  rw [zd0 intD p.targets at_ [D.int .i64 at_] rfl,zd0 strD p.texts s [D.str s] rfl]
  by_cases h6:24≤(p.targets.length:Int)
  ·exfalso;simp_all;omega
  ·simp_all [pset]
   simp only [if_neg (show ¬(24:Int)≤p.texts.length by omega)]
   simp
 ·have hk':=hk
  unfold pfind at hk'
  have h1:decide ((0:Int)≤(k:Int))=true:=decide_eq_true (by omega)
  refine' zmM (ownsL [203,204]) (zF hsw hk') (za za7 <| za zaR <| zb _)
  all_goals first|(simp_all [pset];done)|skip
  refine ⟨_,_,zpW p.targets (by omega),_,_,zpX p.texts (by omega),by kernel_rfl,hK _ ?_⟩
  clear hK K
  simp only [List.length_map]
  refine' walkW (zaJ hsw hk' h1 natC) (za za7 <| za zaR <| zb _)
  all_goals first|(simp_all [pset];done)|skip
  rw [zm5 (by omega),zkD (by simp)]
  simp_all [pset]
@[go_sem] noncomputable def zb0:Ent Tryz.prog 190:= .m3 zA (intT .i64) strT zqt
open Go Go.Proofs
def pfitZ:List Int→List (Int×Txt)→Bool
 |_,[]=>true
 |seen,q::r=>secOk q.1&& !seen.contains q.1&&((q.2.length:Int)==64)&&pfitZ (seen++ [q.1]) r
theorem zf5:∀ (t:List Int) (s:List Txt) (seen:List Int),pfitL seen t s=pfitZ seen (t.zip s)
 | [],s,seen=>by simp [pfitL,pfitZ]
 |t::r,[],seen=>by simp [pfitL,pfitZ]
 |t::r,s::q,seen=>by simp only [pfitL,pfitZ,List.zip_cons_cons,zf5 r q]
theorem zeY:∀ (l:List (Int×Txt)) (seen:List Int) (q:Int×Txt),pfitZ seen (l++ [q])=(pfitZ seen l&&(secOk q.1&& !(seen++l.map (·.1)).contains q.1&&((q.2.length:Int)==64)))
 | [],seen,q=>by simp [pfitZ]
 |a::l,seen,q=>by
  rw [List.cons_append,pfitZ,pfitZ,zeY l,List.map_cons,List.append_assoc,List.singleton_append]
  simp only [Bool.and_assoc]
theorem zm9:∀ (t:List Int) (s:List Txt) (k:Nat) (x:Txt) (y:Int),t[k]?=some y→t.zip (s.set k x)=(t.zip s).set k (y,x)
 | [],s,k,x,y,h=>by simp at h
 |t::r,[],k,x,y,h=>by simp
 |t::r,a::s,0,x,y,h=>by
  have:t=y:=by simpa using h
  subst this
  simp
 |t::r,a::s,k+1,x,y,h=>by
  simp only [List.set_cons_succ,List.zip_cons_cons]
  rw [zm9 r s k x y (by simpa using h)]
theorem ziM:∀ (l:List (Int×Txt)) (seen:List Int) (k:Nat) (y:Int) (x:Txt),(∃z,l[k]?=some (y,z))→(x.length:Int)=64→pfitZ seen l=true→pfitZ seen (l.set k (y,x))=true
 | [],seen,k,y,x,h,hx,hf=>by obtain ⟨z,h⟩:=h;simp at h
 |a::l,seen,0,y,x,h,hx,hf=>by
  obtain ⟨z,h⟩:=h
  have:a=(y,z):=by simpa using h
  subst this
  simp only [List.set_cons_zero,pfitZ,Bool.and_eq_true] at hf ⊢
  exact ⟨⟨hf.1.1,by simpa using hx⟩,hf.2⟩
 |a::l,seen,k+1,y,x,h,hx,hf=>by
  simp only [List.set_cons_succ,pfitZ,Bool.and_eq_true] at hf ⊢
  exact ⟨hf.1,ziM l _ k y x (by simpa using h) hx hf.2⟩
theorem pfit_iff {p:Plan} :pfit p=true↔p.targets.length=p.texts.length∧p.targets.length≤24∧pfitZ [] (p.targets.zip p.texts)=true:=by
 simp only [pfit,Bool.and_eq_true,decide_eq_true_eq,zf5,and_assoc]
theorem zna {l:List Int} {a:Int} (h:pfind l a= -1):l.contains a=false:=by
 have:=zjr (fun x=>x==a) l 0
 unfold pfind at h
 rw [h] at this
 rw [← List.any_beq']
 simpa using this.symm
theorem zd1 {p:Plan} {at_:Int} {s:Txt} (hp:pfit p=true):pfit (pset p at_ s).1=true:=by
 obtain ⟨h1,h2,h3⟩:=pfit_iff.1 hp
 unfold pset
 split
 ·exact hp
 rename_i hs
 have hs:secOk at_=true:=by simpa using hs
 split
 ·exact hp
 rename_i hl
 have hl:(s.length:Int)=64:=by simpa using hl
 rcases zbP p.targets at_ with hk|⟨k,hk,hkl⟩
 ·rw [if_neg (by omega)]
  split
  ·exact hp
  ·rename_i h24
   refine pfit_iff.2 ⟨by simp [h1],by simp;omega,?_⟩
   rw [List.zip_append h1]
   show pfitZ [] (p.targets.zip p.texts++ [(at_,s)])=true
   rw [zeY,h3,hs]
   have:(p.targets.zip p.texts).map (·.1)=p.targets:=by rw [List.map_fst_zip (by omega)]
   rw [List.nil_append,this,zna hk,hl]
   rfl
 ·rw [if_pos (by omega),hk,Int.toNat_natCast]
  obtain ⟨y,hy⟩:=zaA hkl
  obtain ⟨z,hz⟩:=zaA (l:=p.texts) (i:=k) (by omega)
  refine pfit_iff.2 ⟨by simp [h1],h2,?_⟩
  show pfitZ [] (p.targets.zip (p.texts.set k s))=true
  rw [zm9 _ _ _ _ y hy]
  exact ziM _ _ _ _ _ ⟨z,List.getElem?_zip_eq_some.2 ⟨hy,hz⟩⟩ hl h3
theorem zg6 {d:Disk} {p:Plan} {at_ off:Int} {s:Txt} (hp:pfit p=true):pfit (zec d p at_ off s).1=true:=by
 unfold zec
 split
 ·exact hp
 split
 ·exact hp
 ·exact zd1 hp
theorem znb (d:Disk) (p:Plan) (at_ off:Int) (s:Txt) (hp:DiskOk d∧d.cache.all (putOk d)=true∧pfit p=true∧s.length≤9223372036854775807):AC 167 [diskA d,planA p,.d (.int .i64 at_),.d (.int .i64 off),.d (.str s)] (.tup [planA (zec d p at_ off s).1,.d (.int .i64 (zec d p at_ off s).2)]):=by
 obtain ⟨hd,hf,hp,hs⟩:=hp
 refine fbod Tryz.func167 Tryz.ntmps167 (fun base=>?_)
 obtain ⟨hl,h24,h64⟩:=zaq hp
 have hpo:PlanOk p:=⟨by omega,by omega⟩
 have hb:=ziF (at_:=at_) hf hp
 refine' walkW fx (za zak <| za zX <| za zb0 <| zb _)
 all_goals first|(simp_all [zec];done)|skip
@[go_sem] noncomputable def zaS:Ent Tryz.prog 167:= .m5 zq zA (intT .i64) (intT .i64) strT znb
open Go Go.Proofs
theorem zjA (p:Plan) (_:True):AC 183 [planA p] (.fn (.func 198) [] [.dp (planC p)]):=by
 refine fbod Tryz.func183 Tryz.ntmps183 (fun base=>?_)
 refine' zc fx
@[go_sem] noncomputable def zcg:Ent Tryz.prog 183:= .m1 zA zjA
def zbF (q:Int×Txt):List AV:= [.d (.int .i64 q.1),.d (.str q.2)]
def unI:List AV→Int×Txt
 | [.d (.int _ n),.d (.str s)]=>(n,s)
 |_=>(0,[])
theorem zdk (ys:List (Int×Txt)):(ys.map zbF).map unI=ys:=by
 rw [List.map_map]
 exact List.map_id'' (fun _=>rfl) ys
abbrev Sst (p:Plan):= { q:Nat×List (List AV) // q.1≤p.targets.length∧q.2++((p.targets.zip p.texts).drop q.1).map zbF=(p.targets.zip p.texts).map zbF }
theorem zf6 (p:Plan) (hp:PlanOk p) (hl:p.targets.length=p.texts.length):AIter Tryz.prog 198 100 [] [.dp (planC p)] [] ((p.targets.zip p.texts).map zbF) (fun g h'=>(∀xs,g=some xs→xs=(p.targets.zip p.texts).map zbF)∧h'= []):=by
 refine itr Tryz.func198 Tryz.ntmps198 (fun base y=>?_)
 refine' zaK fx
 have h1:=hp.targets
 refine zy (fun q:Sst p=>⟨[(0,true,.fn (.yield y.yl) [] []),(1,true,.dp [.d (.sl 1 (p.targets.map intD)),.d (.sl 1 (p.texts.map strD))]),(6,true,.d (.sl 1 (p.targets.map intD))),(7,true,.d (.int .i64 p.targets.length)),(8,true,.d (.int .i64 q.1.1))],[],some q.1.2⟩) (fun q=>p.targets.length - q.1.1) ⟨(0,[]),Nat.zero_le _,rfl⟩ le1 (fun q=>?_)
 obtain ⟨⟨i,xs⟩,hi,hf⟩:=q
 simp only at hi hf ⊢
 rcases zaj intD p.targets i hi with ⟨m,hq,hlt,hcmp,hrow,hdr,htk⟩|⟨hend,hcmp⟩
 ·obtain ⟨s,hq'⟩:=zaA (l:=p.texts) (i:=i) (by omega)
  have hrow':=zcb (g:=strD) hq'
  simp only [intD] at hrow
  simp only [strD] at hrow'
  have hwi:=zE (i:=i) (by omega)
  have hcmp':decide ((i:Int)<(p.texts.length:Int))=true:=by rw [← hl];exact hcmp
  have hz:(p.targets.zip p.texts)[i]?=some (m,s):=List.getElem?_zip_eq_some.2 ⟨hq,hq'⟩
  rw [zcP hz,List.map_cons] at hf
  have hpre:(xs++ [zbF (m,s)])<+:(p.targets.zip p.texts).map zbF:=by rw [← hf];simp
  simp only [zbF] at hpre
  refine' zaK (zcW hcmp hcmp' hrow hrow' natC)
  exact ⟨⟨(i+1,xs++ [zbF (m,s)]),by omega,by rw [← hf];simp⟩,by simp only [AS.le,leT,leH,zi,AsgK,AV.le,AV.leL,AObj.le,inH,idsT,idsH,AV.ids,AV.idsL,AV.idsR,AObj.ids,lk,hget,go_sem,aeq,aeq.aeqF,simprocAttr,hwi,zbF],by simp;omega⟩
 ·refine' zaK hcmp
  rintro zs rfl
  rw [← hf,List.drop_of_length_le (by rw [List.length_zip];omega)]
  simp
def layF (d:Disk) (l:List (Int×Txt)):Disk:=l.foldl (fun d q=>(zI d q.1 q.2).1) d
@[go_sem] theorem layF_nil (d:Disk):layF d []=d:=rfl
theorem znc:∀ (l:List (Int×Txt)) {d:Disk},DiskOk d→DiskOk (layF d l)
 | [],_,h=>h
 |q::l,d,h=>znc l (zf4 h q.1 q.2)
theorem znd (d:Disk) (l:List (Int×Txt)) (q:Int×Txt):layF d (l++ [q])=(zI (layF d l) q.1 q.2).1:=by simp [layF]
theorem zfx:∀ (l r:List (Int×Txt)) (d:Disk),(layL d l).2=0→layL d (l++r)=layL (layF d l) r
 | [],r,d,_=>rfl
 | q::l,r,d,h=>by
  rw [layL] at h
  rw [List.cons_append,layL]
  split
  ·rename_i hq
   rw [if_pos hq] at h
   exact absurd h hq
  ·rename_i hq
   rw [if_neg hq] at h
   exact zfx l r _ h
theorem zqu (d:Disk) (p:Plan) (hp:DiskOk d∧PlanOk p∧p.targets.length=p.texts.length):AC 155 [diskA d,planA p] (.tup [diskA (play d p).1,.d (.int .i64 (play d p).2)]):=by
 obtain ⟨hd,hp,hl⟩:=hp
 refine fbod Tryz.func155 Tryz.ntmps155 (fun base=>?_)
 refine' walkR fx (za zcg <| za zk <| zb _)
 obtain ⟨I,hI⟩:∃I:List (List AV)→AHeap×Option (List (List AV)),I=fun xs=>([(3,.var [.d (.int .i64 0)]),(2,.var [.d (.str []),.nils 2,.d (.int .i64 0),.d (.bool false),.nils 1]),(1,.var [.d (.sl 1 (p.targets.map intD)),.d (.sl 1 (p.texts.map strD))]),(0,(.var [.d (.str (layF d (xs.map unI)).data),.d (.sl 2 ((layF d (xs.map unI)).cache.map putD)),.d (.int .i64 (layF d (xs.map unI)).fuse),.d (.bool (layF d (xs.map unI)).off),.d (.sl 1 ((layF d (xs.map unI)).bad.map intD))]))],some []):=⟨_,rfl⟩
 obtain ⟨G,hG⟩:∃G:List (List AV)→Prop,G=fun xs=>(layL d (xs.map unI)).2=0:=⟨_,rfl⟩
 obtain ⟨J,hJ⟩:∃J:Code→AHeap→Option (List (List AV))→Prop,J=fun c h g=>c= .exit 0∧g=some []∧∃D e,play d p=(D,e)∧h= [(3,.var [.d (.int .i64 e)]),(2,.var [.d (.str []),.nils 2,.d (.int .i64 0),.d (.bool false),.nils 1]),(1,.var [.d (.sl 1 (p.targets.map intD)),.d (.sl 1 (p.texts.map strD))]),(0,(.var [.d (.str D.data),.d (.sl 2 (D.cache.map putD)),.d (.int .i64 D.fuse),.d (.bool D.off),.d (.sl 1 (D.bad.map intD))]))]:=⟨_,rfl⟩
 refine zbk 100 G I J (zf6 p hp hl) (by simp only [go_sem,aeq,aeq.aeqF,simprocAttr]) rfl (zR rfl) (by simp [cxOf,cxY]) rfl (by rw [hG];first|trivial|rfl|simp) (by rw [hI];simp only [AS.le,leT,leH,zi,AsgK,AV.le,AV.leL,AObj.le,inH,idsT,idsH,AV.ids,AV.idsL,AV.idsR,AObj.ids,lk,hget,go_sem,aeq,aeq.aeqF,simprocAttr]<;>simp [AV.leL,AV.le]) (by rw [hI];simp only [AS.le,leT,leH,zi,AsgK,AV.le,AV.leL,AObj.le,inH,idsT,idsH,AV.ids,AV.idsL,AV.idsR,AObj.ids,lk,hget,go_sem,aeq,aeq.aeqF,simprocAttr]<;>simp) (by rw [hI]<;>rfl) (by intro x hx;obtain ⟨q,_,rfl⟩:=List.mem_map.1 hx;rfl) (by intro t ht;simp at ht;first|(rcases ht with rfl|rfl<;>simp [cxOf,cxY]<;>done)|(subst ht;simp [cxOf,cxY])) ?_ ?_ ?_
 ·intro xs x hpre hgd l1 r1
  obtain ⟨ys,⟨n,s⟩,zs,rfl,rfl,hzl⟩:=zdg hpre
  rw [hG] at hgd
  simp only [zdk] at hgd
  have hx:=znc ys hd
  have hall:play d p=layL (layF d ys) ((n,s)::zs):=by rw [play,hzl,zfx _ _ _ hgd]
  rw [layL] at hall
  simp only [zbF]
  refine aw_le ⟨[(11,true,.d (.int .i64 n)),(12,true,.d (.str s)),(2,true,.vp 0 0),(3,true,.vp 1 0),(4,true,.vp 2 0),(6,true,.vp 3 0)],[(3,.var [.d (.int .i64 0)]),(2,.var [.d (.str []),.nils 2,.d (.int .i64 0),.d (.bool false),.nils 1]),(1,.var [.d (.sl 1 (p.targets.map intD)),.d (.sl 1 (p.texts.map strD))]),(0,(.var [.d (.str (layF d ys).data),.d (.sl 2 ((layF d ys).cache.map putD)),.d (.int .i64 (layF d ys).fuse),.d (.bool (layF d ys).off),.d (.sl 1 ((layF d ys).bad.map intD))]))],some []⟩ (by rw [hI];simp only [zdk];simp only [AS.le,leT,leH,zi,AsgK,AV.le,AV.leL,AObj.le,inH,idsT,idsH,AV.ids,AV.idsL,AV.idsR,AObj.ids,lk,hget,go_sem,aeq,aeq.aeqF,simprocAttr]) ?_
  have hsn:((ys.map zbF++ [[AV.d (.int .i64 n),AV.d (.str s)]]).map unI)=ys++ [(n,s)]:=by
   rw [List.map_append,zdk];rfl
  have hsf:layF d (ys++ [(n,s)])=(zI (layF d ys) n s).1:=znd _ _ _
  refine' walkR (zG hI hsn hsf) (za zcg <| za zk <| zb _)
  all_goals first|rfl|skip
  ·have hc:(zI (layF d ys) n s).2≠0:=by simpa using hc
   rw [hJ]
   exact ⟨rfl,rfl,_,_,by rw [hall,if_pos hc],rfl⟩
  ·have hc:(zI (layF d ys) n s).2=0:=by simpa using hc
   rw [hG]
   simp only [hsn]
   rw [zfx _ _ _ hgd,layL,if_neg (by simpa using hc)]
   rfl
  ·have hc:(zI (layF d ys) n s).2=0:=by simpa using hc
   rw [hc]
 ·intro hgd
  rw [hG] at hgd
  simp only [zdk] at hgd
  have hall:play d p=(layF d (p.targets.zip p.texts),0):=by
   have:=zfx (p.targets.zip p.texts) [] d hgd
   rw [List.append_nil] at this
   rw [play,this,layL]
  rw [hI]
  simp only [zdk]
  refine' zdE fx
  rw [hall]
 ·rw [hJ]
  rintro c h3 g3 ⟨rfl,rfl,D,e,hall,rfl⟩
  refine' zdE fx
  rw [hall]
@[go_sem] noncomputable def zeA:Ent Tryz.prog 155:= .m2 zq zA zqu
open Go Go.Proofs
def seenM (l:List Int):List (D×D):=l.map fun n=>(.int .i64 n,.bool true)
@[go_sem] theorem zrA:seenM []= []:=rfl
theorem zly (l:List Int):((seenM l).all fun p=>alike (.int .i64) p.1)=true:=by
 simp [seenM,alike]
theorem zqv (n m:Int) (v:D) (l:List (D×D)):mat (.int .i64 n) ((.int .i64 m,v)::l)=if n=m then some v else mat (.int .i64 n) l:=by
 by_cases h:n=m<;>simp [mat,sameS,h]
theorem zoL (n m:Int) (w v:D) (l:List (D×D)):mput (.int .i64 n) w ((.int .i64 m,v)::l)=if n=m then (.int .i64 n,w)::l else (.int .i64 m,v)::mput (.int .i64 n) w l:=by
 by_cases h:n=m<;>simp [mput,sameS,h]
theorem zkF (n:Int):∀l:List Int,((mat (.int .i64 n) (seenM l)).getD (.bool false))= .bool (l.contains n)
 | []=>rfl
 | m::l=>by
  have ih:=zkF n l
  have e:seenM (m::l)=(.int .i64 m,.bool true)::seenM l:=rfl
  rw [e,zqv,List.contains_cons]
  by_cases h:n=m
  ·subst h;simp
  ·rw [if_neg h,ih]
   simp [h]
theorem zkG (n:Int):∀l:List Int,l.contains n=false→mput (.int .i64 n) (.bool true) (seenM l)=seenM (l++ [n])
 | [],_=>rfl
 |m::l,h=>by
  simp only [List.contains_cons,Bool.or_eq_false_iff] at h
  have ih:=zkG n l h.2
  have e:seenM (m::l)=(.int .i64 m,.bool true)::seenM l:=rfl
  rw [e,zoL,if_neg (by simpa using h.1),ih]
  rfl
theorem ziN:∀ (l r:List (Int×Txt)) (seen:List Int),pfitZ seen (l++r)=(pfitZ seen l&&pfitZ (seen++l.map (·.1)) r)
 | [],r,seen=>by simp [pfitZ]
 |a::l,r,seen=>by
  rw [List.cons_append,pfitZ,pfitZ,ziN l,List.map_cons,List.append_assoc,List.singleton_append]
  simp only [Bool.and_assoc]
theorem zqw (p:Plan) (hp:PlanOk p):AC 143 [planA p] (.d (.bool (pfit p))):=by
 refine fbod Tryz.func143 Tryz.ntmps143 (fun base=>?_)
 have h1:=hp.targets
 have h2:=hp.texts
 refine' walkR fx (za zcg <| za za7 <| zb _)
 ·have:pfit p=false:=by
   simp only [Bool.or_eq_true,bne_iff_ne,decide_eq_true_eq] at hc
   rw [pfit]
   rcases hc with hc|hc
   ·rw [decide_eq_false (p:=p.targets.length=p.texts.length) (by omega)];simp
   ·rw [decide_eq_false (p:=p.targets.length≤24) (by omega)];simp
  rw [this]
 obtain ⟨hl,h24⟩:p.targets.length=p.texts.length∧p.targets.length≤24:=by
  simp only [Bool.or_eq_false_iff,bne_eq_false_iff_eq,decide_eq_false_iff_not] at hc
  omega
 have hfit:pfit p=pfitZ [] (p.targets.zip p.texts):=by
  rw [pfit,decide_eq_true hl,decide_eq_true h24,zf5];simp
 obtain ⟨I,hI⟩:∃I:List (List AV)→AHeap×Option (List (List AV)),I=fun xs=>([(3,.var [.map 2]),(2,.omap (seenM ((xs.map unI).map (·.1)))),(1,.var [.d (.bool false)]),(0,.var [.d (.sl 1 (p.targets.map intD)),.d (.sl 1 (p.texts.map strD))])],some []):=⟨_,rfl⟩
 obtain ⟨G,hG⟩:∃G:List (List AV)→Prop,G=fun xs=>pfitZ [] (xs.map unI)=true:=⟨_,rfl⟩
 obtain ⟨J,hJ⟩:∃J:Code→AHeap→Option (List (List AV))→Prop,J=fun c h g=>c= .ret∧g=some []∧pfit p=false∧∃m,h= [(3,.var [.map 2]),(2,.omap m),(1,.var [.d (.bool false)]),(0,.var [.d (.sl 1 (p.targets.map intD)),.d (.sl 1 (p.texts.map strD))])]:=⟨_,rfl⟩
 refine zbk 100 G I J (zf6 p hp hl) (by simp only [go_sem,aeq,aeq.aeqF,simprocAttr]) rfl (zR rfl) (by simp [cxOf,cxY]) rfl (by rw [hG];first|trivial|rfl|simp) (by rw [hI];simp only [AS.le,leT,leH,zi,AsgK,AV.le,AV.leL,AObj.le,inH,idsT,idsH,AV.ids,AV.idsL,AV.idsR,AObj.ids,lk,hget,go_sem,aeq,aeq.aeqF,simprocAttr]<;>simp [AV.leL,AV.le]) (by rw [hI];simp only [AS.le,leT,leH,zi,AsgK,AV.le,AV.leL,AObj.le,inH,idsT,idsH,AV.ids,AV.idsL,AV.idsR,AObj.ids,lk,hget,go_sem,aeq,aeq.aeqF,simprocAttr]<;>simp) (by rw [hI]<;>rfl) (by intro x hx;obtain ⟨q,_,rfl⟩:=List.mem_map.1 hx;rfl) (by intro t ht;simp at ht;first|(rcases ht with rfl|rfl<;>simp [cxOf,cxY]<;>done)|(subst ht;simp [cxOf,cxY])) ?_ ?_ ?_
 ·intro xs x hpre hgd l1 r1
  obtain ⟨ys,⟨n,s⟩,zs,rfl,rfl,hzl⟩:=zdg hpre
  rw [hG] at hgd
  simp only [zdk] at hgd
  have hall:pfit p=pfitZ (ys.map (·.1)) ((n,s)::zs):=by
   rw [hfit,hzl,ziN,hgd];rfl
  rw [pfitZ] at hall
  simp only [zbF]
  refine aw_le ⟨[(22,true,.d (.int .i64 n)),(23,true,.d (.str s)),(1,true,.vp 0 0),(2,true,.vp 1 0),(3,true,.vp 3 0)],[(3,.var [.map 2]),(2,.omap (seenM (ys.map (·.1)))),(1,.var [.d (.bool false)]),(0,.var [.d (.sl 1 (p.targets.map intD)),.d (.sl 1 (p.texts.map strD))])],some []⟩ (by rw [hI];simp only [zdk];simp only [AS.le,leT,leH,zi,AsgK,AV.le,AV.leL,AObj.le,inH,idsT,idsH,AV.ids,AV.idsL,AV.idsR,AObj.ids,lk,hget,go_sem,aeq,aeq.aeqF,simprocAttr]) ?_
  have hsm:=zkF n (ys.map (·.1))
  have hsa:=zly (ys.map (·.1))
  have hsn:((ys.map zbF++ [[AV.d (.int .i64 n),AV.d (.str s)]]).map unI)=ys++ [(n,s)]:=by
   rw [List.map_append,zdk];rfl
  refine' walkR (zaJ hI hsn hsm hsa) (za zcg <| za za7 <| zb _)
  ·rw [hJ]
   refine ⟨rfl,rfl,?_,_,rfl⟩
   have hh:(!secOk n||(ys.map (·.1)).contains n||((s.length:Int) !=64))= !(secOk n&& !(ys.map (·.1)).contains n&&((s.length:Int)==64)):=by
    rw [Bool.not_and,Bool.not_and,Bool.not_not];rfl
   rw [hh] at hc
   simp only [Bool.not_eq_true'] at hc
   rw [hall,hc,Bool.false_and]
  ·rw [hG]
   simp only [hsn]
   simp only [Bool.or_eq_false_iff,Bool.not_eq_false',bne_eq_false_iff_eq] at hc
   rw [zeY,hgd,List.nil_append,hc.1.1,hc.1.2,hc.2]
   rfl
  ·simp only [Bool.or_eq_false_iff] at hc
   rw [zkG _ _ hc.1.2,List.map_append]
   rfl
 ·intro hgd
  rw [hG] at hgd
  simp only [zdk] at hgd
  rw [hI]
  refine' zdE fx
  rw [hfit,hgd]
 ·rw [hJ]
  rintro c h3 g3 ⟨rfl,rfl,hno,m,rfl⟩
  refine' zdE fx
  rw [hno]
@[go_sem] noncomputable def zf7:Ent Tryz.prog 143:= .m1 zA zqw
open Go Go.Proofs
structure DiskF (d:Disk):Prop where
 ok:DiskOk d
 puts:d.cache.all (putOk d)=true
theorem ziQ {d d':Disk} (h:d'.data.length=d.data.length):putOk d'=putOk d:=by
 funext q
 unfold putOk there dsize
 rw [h]
theorem zeZ (d:Disk):(burnt d).data=d.data:=by unfold burnt;split<;>rfl
theorem zgb (d:Disk):(burnt d).cache=d.cache:=by unfold burnt;split<;>rfl
theorem zjC (d:Disk) (a:Int) (s:Txt):(zI d a s).1.data=d.data:=by
 unfold zI
 repeat' split
 all_goals first|rfl|(rw [zeZ])
theorem DiskF.write {d:Disk} (h:DiskF d) (a:Int) (s:Txt):DiskF (zI d a s).1:=by
 refine ⟨zf4 h.ok a s,?_⟩
 have e:=ziQ (d:=d) (d':=(zI d a s).1) (by rw [zjC])
 rw [e]
 unfold zI
 split
 ·exact h.puts
 split
 ·exact h.puts
 split
 ·exact h.puts
 split
 ·exact h.puts
 split
 ·exact h.puts
 split
 ·exact h.puts
 ·rename_i h1 h2 h3 h4 h5 h6
  rw [zgb,List.all_append,h.puts]
  have h3:(s.length:Int)=64:=by simpa using h3
  simp [putOk,h3]
  simpa using h2
theorem zlB {d:Disk} (h:d.cache.all (putOk d)=true):(dflush d).1.data.length=d.data.length:=by
 unfold dflush
 split
 ·rfl
 split
 ·rfl
 ·rw [zeZ];exact zg3 h
theorem DiskF.flush {d:Disk} (h:DiskF d):DiskF (dflush d).1:=by
 have hl:=zlB h.puts
 refine ⟨?_,?_⟩
 ·revert hl
  unfold dflush
  split
  ·intro _;exact h.ok
  split
  ·intro _;exact ⟨h.ok.data,h.ok.cache,h.ok.bad,h.ok.fuse0,h.ok.fuse1⟩
  ·intro hl
   rw [zeZ] at hl
   exact zkw ⟨by rw [hl];exact h.ok.data,by simp,h.ok.bad,h.ok.fuse0,h.ok.fuse1⟩
 ·rw [ziQ hl]
  unfold dflush
  split
  ·exact h.puts
  split
  ·exact h.puts
  ·rw [zgb];rfl
theorem DiskF.layL:∀ (l:List (Int×Txt)) {d:Disk},DiskF d→DiskF (layL d l).1
 | [],d,h=>h
 |q::l,d,h=>by
  rw [Aw.layL]
  split
  ·exact h.write q.1 q.2
  ·exact DiskF.layL l (h.write q.1 q.2)
def encT (l:List Int):Txt:=l.flatMap (fun t=>putN t.toNat 4)
def padR (s:Txt):Txt:=(padS s 64).1
def trows (l:List Int):List Txt:=if l.length≤16 then [padR (encT l)] else [padR (encT (l.take 16)),padR (encT (l.drop 16))]
def tbody (p:Plan):List Txt:=trows p.targets++p.texts
def thead (seq:Int) (p:Plan):Txt:=putN seq.toNat 8++putN p.targets.length 2
def tsum (c:Int) (l:List Txt):Int:=l.foldl sumOf c
def zpY:Txt:= [67,79,70,74]
def ttop (seq:Int) (p:Plan):Txt:=padR (zpY++thead seq p++putN (65535 - p.targets.length) 2++zeB (tsum (sumOf 0 (thead seq p)) (tbody p)))
def zb1 (seq:Int) (p:Plan):List Txt:=ttop seq p::tbody p
theorem zkI {p:Plan} (hp:pfit p=true):∀t∈p.targets,0≤t∧t<1024:=by
 obtain ⟨h1,h2,h3⟩:=pfit_iff.1 hp
 have key:∀ (l:List (Int×Txt)) (seen:List Int),pfitZ seen l=true→∀q∈l,0≤q.1∧q.1<1024:=by
  intro l
  induction l with
  |nil=>intro _ _ q hq;simp at hq
  | cons a l ih=>
   intro seen h q hq
   simp only [pfitZ,Bool.and_eq_true] at h
   rcases List.mem_cons.1 hq with rfl|hq
   ·have:=h.1.1.1
    simpa [secOk] using this
   ·exact ih _ h.2 q hq
 intro t ht
 obtain ⟨i,hi,rfl⟩:=List.mem_iff_getElem.1 ht
 have hz:(p.targets.zip p.texts)[i]?=some (p.targets[i],p.texts[i]'(by omega)):=List.getElem?_zip_eq_some.2 ⟨by simp [hi],by simp⟩
 exact key _ _ h3 _ (List.mem_of_getElem? hz)
theorem zoP (s:Txt) (hs:s.length≤9223372036854775807):AC 157 [.d (.str s)] (.d (.str (padR s))):=by
 refine bod Tryz.func157 Tryz.ntmps157 (fun base=>?_)
 refine' walkW fx (za zg4 <| zb _)
 rfl
@[go_sem] noncomputable def zcl:Ent Tryz.prog 157:= .m1 strT zoP
open Go Go.Proofs
structure Tx where
 seq:Int
 plan:Plan
 deriving DecidableEq
def txA (t:Tx):AV:= .agg [.d (.int .u64 t.seq),.d (.sl 1 (t.plan.targets.map intD)),.d (.sl 1 (t.plan.texts.map strD))]
attribute [go_sem] txA
theorem zrD (t:Tx):Tx.mk t.seq t.plan=t:=rfl
noncomputable def txA_T:PT Tx:=aggT (consL (intT .u64) (consL (slT 1 intD zcf) (consL (slT 1 strD zex) nilL))) (fun p=>⟨p.1,⟨p.2.1,p.2.2.1⟩⟩) (fun x=>(x.seq,x.plan.targets,x.plan.texts,())) (fun _=>rfl)
attribute [go_sem] txA_T
attribute [go_sem] zrD
def trest (l:List Int) (i:Nat):List Txt×Txt:=
 if i=l.length then (trows l,[]) else if i<16 then ([],encT (l.take i)) else ([padR (encT (l.take 16))],encT ((l.take i).drop 16))
theorem zgc (l:List Int) (t:Int):encT (l++ [t])=encT l++putN t.toNat 4:=by simp [encT]
theorem zdl (l:List Int):(encT l).length=4*l.length:=by
 induction l with
 |nil=>rfl
 |cons a l ih=>simp only [encT,List.flatMap_cons,List.length_append,zac,List.length_cons] at ih ⊢;omega
theorem zno {n:Nat} (h:n<18446744073709551616):IntKind.u64.wrap (n:Int)=n:=zap (by omega) (by omega)
theorem zqG (l:List Int) (h:0<l.length):trest l 0=([],[]):=by
 rw [trest,if_neg (by omega),if_pos (by omega)];rfl
theorem zlG {l:List Int} {i:Nat} {t:Int} (hq:l[i]?=some t) (h24:l.length≤24):
  trest l (i+1)=if i+1=l.length∨i % 16=15 then ((trest l i).1++ [padR ((trest l i).2++putN t.toNat 4)],[]) else ((trest l i).1,(trest l i).2++putN t.toNat 4):=by
 have hlt:i<l.length:=(List.getElem?_eq_some_iff.1 hq).1
 have htk:l.take (i+1)=l.take i++ [t]:=zb7 hq
 have e0:trest l i=if i<16 then ([],encT (l.take i)) else ([padR (encT (l.take 16))],encT ((l.take i).drop 16)):=by
  rw [trest,if_neg (by omega)]
 rw [e0]
 by_cases h16:i<16
 ·simp only [if_pos h16]
  rw [List.nil_append,← zgc,← htk]
  by_cases he:i+1=l.length
  ·rw [if_pos (.inl he),trest,if_pos he,trows,if_pos (by omega),he,List.take_length]
  ·by_cases h15:i % 16=15
   ·rw [if_pos (.inr h15),trest,if_neg he,if_neg (by omega)]
    have:i+1=16:=by omega
    rw [this,List.drop_of_length_le (by rw [List.length_take];omega)]
    rfl
   ·rw [if_neg (by omega),trest,if_neg he,if_pos (by omega)]
 ·simp only [if_neg h16]
  have hd:(l.take (i+1)).drop 16=(l.take i).drop 16++ [t]:=by
   rw [htk,List.drop_append_of_le_length (by rw [List.length_take];omega)]
  rw [← zgc,← hd]
  by_cases he:i+1=l.length
  ·rw [if_pos (.inl he),trest,if_pos he,trows,if_neg (by omega),he,List.take_length]
   rfl
  ·rw [if_neg (by omega),trest,if_neg he,if_neg (by omega)]
theorem zhN:∀ (l:List Txt) (c:Int),0≤c→c≤4294967295→0≤tsum c l∧tsum c l≤4294967295
 | [],c,h0,h1=>⟨h0,h1⟩
 |s::l,c,h0,h1=>zhN l _ (ze0 c s h0 h1).1 (ze0 c s h0 h1).2
theorem ziU (l:List Txt) (c:Int) (s:Txt):tsum c (l++ [s])=sumOf (tsum c l) s:=by simp [tsum]
theorem zfA {s:Txt} (h:s.length≤64):(padR s).length=64:=by
 rw [padR,padS,if_neg (by omega)]
 simp;omega
theorem znp (l:List Int) (h:l.length≤24):∀s∈trows l,s.length=64:=by
 intro s hs
 unfold trows at hs
 split at hs
 ·simp only [List.mem_singleton] at hs
  subst hs
  exact zfA (by rw [zdl];omega)
 ·simp only [List.mem_cons,List.not_mem_nil,or_false] at hs
  rcases hs with rfl|rfl
  ·exact zfA (by rw [zdl,List.length_take];omega)
  ·exact zfA (by rw [zdl,List.length_drop];omega)
theorem zgd {p:Plan} (hf:pfit p=true):∀s∈tbody p,s.length=64:=by
 obtain ⟨hl,h24,h64⟩:=zaq hf
 intro s hs
 rcases List.mem_append.1 hs with h|h
 ·exact znp _ h24 s h
 ·exact h64 s h
theorem zcZ (c:Int):(zeB c).length=4:=rfl
theorem zlH (t:Tx) (hp:PlanOk t.plan∧pfit t.plan=true∧t.plan.targets.length≠0∧0≤t.seq∧t.seq<18446744073709551616):AC 103 [txA t] (.tup [.d (.sl 1 ((zb1 t.seq t.plan).map strD)),.d (.int .i64 0)]):=by
 obtain ⟨hp,hf,hn,h0,h1⟩:=hp
 refine fbod Tryz.func103 Tryz.ntmps103 (fun base=>?_)
 obtain ⟨hl,h24,h64⟩:=zaq hf
 have hrng:=zkI hf
 have hn0:((t.plan.targets.length:Int)==0)=false:=by rw [beq_eq_false_iff_ne];omega
 refine' walkW (zF hf hn0) (za zbu <| za zaL <| za zcl <| za za9 <| za zaT <| za zar <| zb _)
 refine zes 5 1 rfl ?_
 simp only [fresh,top,hget, ↓reduceIte]
 refine zy (fun q: { i:Nat // i≤t.plan.targets.length } =>⟨[(1,true,.vp 0 0),(4,true,.d (.int .i64 t.plan.targets.length)),(5,true,.osl 1 1 (trest t.plan.targets q.1).1.length 0 (trest t.plan.targets q.1).1.length),(6,true,.d (.str (trest t.plan.targets q.1).2)),(7,true,.d (.int .i64 q.1))],[(1,.arr 1 ((trest t.plan.targets q.1).1.map strD)),(0,.var [.d (.int .u64 t.seq),.d (.sl 1 (t.plan.targets.map intD)),.d (.sl 1 (t.plan.texts.map strD))])],some []⟩) (fun q=>t.plan.targets.length - q.1) ⟨0,Nat.zero_le _⟩ (by simp only [zqG _ (Nat.pos_of_ne_zero hn)];simp only [AS.le,leT,leH,zi,AsgK,AV.le,AV.leL,AObj.le,inH,idsT,idsH,AV.ids,AV.idsL,AV.idsR,AObj.ids,lk,hget,go_sem,aeq,aeq.aeqF,simprocAttr]<;>and_intros<;>rfl) (fun q=>?_)
 obtain ⟨i,hi⟩:=q
 simp only at hi ⊢
 rcases zaj intD t.plan.targets i hi with ⟨m,hq,hlt,hcmp,hrow,hdr,htk⟩|⟨hend,hcmp⟩
 ·simp only [intD] at hrow
  have hwi:=zE (i:=i) (by omega)
  obtain ⟨hm0,hm1⟩:=hrng m (List.mem_of_getElem? hq)
  have hwm:IntKind.u64.wrap m=m:=zap (by omega) (by omega)
  have hp4:putS8 m 4=putN m.toNat 4:=by rw [putS8,if_neg (by omega)];rfl
  have hts:=zlG hq h24
  have hl6:(trest t.plan.targets i).2.length≤96:=by
   have e0:trest t.plan.targets i=if i<16 then ([],encT (t.plan.targets.take i)) else ([padR (encT (t.plan.targets.take 16))],encT ((t.plan.targets.take i).drop 16)):=by
    rw [trest,if_neg (by omega)]
   rw [e0]
   split
   ·simp only [zdl,List.length_take];omega
   ·simp only [zdl,List.length_take,List.length_drop];omega
  have hn1:IntKind.i64.wrap ((t.plan.targets.length:Int) - 1)=(t.plan.targets.length:Int) - 1:=zh (by omega) (by omega)
  have hl4:(putN m.toNat 4).length=4:=zac _ _
  have hcl:(trest t.plan.targets i).1.length≤1:=by
   have e0:trest t.plan.targets i=if i<16 then ([],encT (t.plan.targets.take i)) else ([padR (encT (t.plan.targets.take 16))],encT ((t.plan.targets.take i).drop 16)):=by
    rw [trest,if_neg (by omega)]
   rw [e0]
   split<;>simp
  by_cases hc:i+1=t.plan.targets.length∨i % 16=15
  ·have hdec:(((i:Int)==(t.plan.targets.length:Int) - 1)||((i:Int).tmod 16==15))=true:=by
    rw [Bool.or_eq_true,beq_iff_eq,beq_iff_eq,Int.tmod_eq_emod_of_nonneg (by omega)]
    omega
   rw [if_pos hc] at hts
   refine' walkW (zaa hcmp hrow hwm hp4 hn1 (zG hdec @List.length_append.{0} hl4)) (za zbu <| za zaL <| za zcl <| za za9 <| za zaT <| za zar <| zb _)
   all_goals first|omega|(simp only [List.length_append,hl4];omega)|skip
   exact ⟨⟨i+1,by omega⟩,by simp only [hts,List.map_append,List.length_append,List.length_singleton];simp only [AS.le,leT,leH,zi,AsgK,AV.le,AV.leL,AObj.le,inH,idsT,idsH,AV.ids,AV.idsL,AV.idsR,AObj.ids,lk,hget,go_sem,aeq,aeq.aeqF,simprocAttr,hwi]<;>and_intros<;>rfl,by simp;omega⟩
  ·have hdec:(((i:Int)==(t.plan.targets.length:Int) - 1)||((i:Int).tmod 16==15))=false:=by
    rw [Bool.or_eq_false_iff,beq_eq_false_iff_ne,beq_eq_false_iff_ne,Int.tmod_eq_emod_of_nonneg (by omega)]
    omega
   rw [if_neg hc] at hts
   refine' walkW (zaa hcmp hrow hwm hp4 hn1 (zG hdec @List.length_append.{0} hl4)) (za zbu <| za zaL <| za zcl <| za za9 <| za zaT <| za zar <| zb _)
   all_goals first|omega|(simp only [List.length_append,hl4];omega)|skip
   exact ⟨⟨i+1,by omega⟩,by simp only [hts];simp only [AS.le,leT,leH,zi,AsgK,AV.le,AV.leL,AObj.le,inH,idsT,idsH,AV.ids,AV.idsL,AV.idsR,AObj.ids,lk,hget,go_sem,aeq,aeq.aeqF,simprocAttr,hwi],by simp;omega⟩
 ·subst hend
  have he:trest t.plan.targets t.plan.targets.length=(trows t.plan.targets,[]):=by rw [trest,if_pos rfl]
  have htr:(trows t.plan.targets).length≤2:=by unfold trows;split<;>simp
  have hu:IntKind.u64.wrap (t.plan.targets.length:Int)=(t.plan.targets.length:Int):=zno (by omega)
  have hp8:putS8 t.seq 8=putN t.seq.toNat 8:=by rw [putS8,if_neg (by omega)];rfl
  have hp2:putS8 (t.plan.targets.length:Int) 2=putN t.plan.targets.length 2:=by rw [putS8,if_neg (by omega)];rfl
  have hw5:IntKind.i64.wrap (65535 - (t.plan.targets.length:Int))=((65535 - t.plan.targets.length:Nat):Int):=by rw [zh (by omega) (by omega)];omega
  have hu5:IntKind.u64.wrap ((65535 - t.plan.targets.length:Nat):Int)=((65535 - t.plan.targets.length:Nat):Int):=zno (by omega)
  have hp5:putS8 ((65535 - t.plan.targets.length:Nat):Int) 2=putN (65535 - t.plan.targets.length) 2:=by rw [putS8,if_neg (by omega)];rfl
  have hl8:=zac t.seq.toNat 8
  have hl2:=zac t.plan.targets.length 2
  have hl5:=zac (65535 - t.plan.targets.length) 2
  simp only [he]
  refine' walkW (zaa hcmp he hu hp8 hp2 (zG @List.length_append.{0} hl8 hl2)) (za zbu <| za zaL <| za zcl <| za za9 <| za zaT <| za zar <| zb _)
  have hB:(tbody t.plan).map strD=(trows t.plan.targets).map strD++t.plan.texts.map strD:=by rw [tbody,List.map_append]
  have hBl:(tbody t.plan).length=(trows t.plan.targets).length+t.plan.texts.length:=by rw [tbody,List.length_append]
  rw [← hB,← hBl]
  obtain ⟨B,hBe⟩:∃B,B=tbody t.plan:=⟨_,rfl⟩
  have hB64:∀s∈B,s.length=64:=by rw [hBe];exact zgd hf
  rw [← hBe] at hB hBl ⊢
  obtain ⟨H,hH⟩:∃H,H=putN t.seq.toNat 8++putN t.plan.targets.length 2:=⟨_,rfl⟩
  have hHl:H.length=10:=by rw [hH,List.length_append,hl8,hl2]
  rw [← hH]
  have hc0:0≤sumOf 0 H∧sumOf 0 H≤4294967295:=ze0 0 H (by omega) (by omega)
  refine zy (fun q: { k:Nat // k≤B.length } =>⟨[(1,true,.vp 0 0),(4,true,.d (.int .i64 t.plan.targets.length)),(5,true,.osl 1 1 B.length 0 B.length),(8,true,.d (.str H)),(9,true,.d (.int .u32 (tsum (sumOf 0 H) (B.take q.1)))),(10,true,.d (.int .i64 q.1))],[(1,.arr 1 (B.map strD)),(0,.var [.d (.int .u64 t.seq),.d (.sl 1 (t.plan.targets.map intD)),.d (.sl 1 (t.plan.texts.map strD))])],some []⟩) (fun q=>B.length - q.1) ⟨0,Nat.zero_le _⟩ le1 (fun q=>?_)
  obtain ⟨k,hk⟩:=q
  simp only at hk ⊢
  rcases zaj strD B k hk with ⟨s,hq,hlt,hcmp,hrow,hdr,htk⟩|⟨hend,hcmp⟩
  ·simp only [strD] at hrow
   have hwi:=zE (i:=k) (by omega)
   have hsl:=hB64 s (List.mem_of_getElem? hq)
   have hcr:=zhN (B.take k) _ hc0.1 hc0.2
   have hsn:tsum (sumOf 0 H) (B.take (k+1))=sumOf (tsum (sumOf 0 H) (B.take k)) s:=by rw [htk,ziU]
   refine' walkW (zG hcmp hrow natC) (za zbu <| za zaL <| za zcl <| za za9 <| za zaT <| za zar <| zb _)
   exact ⟨⟨k+1,by omega⟩,by simp only [AS.le,leT,leH,zi,AsgK,AV.le,AV.leL,AObj.le,inH,idsT,idsH,AV.ids,AV.idsL,AV.idsR,AObj.ids,lk,hget,go_sem,aeq,aeq.aeqF,simprocAttr,hwi,hsn],by simp;omega⟩
  ·subst hend
   have hcr:=zhN B _ hc0.1 hc0.2
   have htt:B.take B.length=B:=List.take_length
   have hbl:=zcZ (tsum (sumOf 0 H) B)
   refine' walkW (zaa hcmp hw5 hu5 hp5 @List.length_append.{0} (zaa hHl hl5 hbl @List.length_cons.{0} @List.length_nil.{0} htt)) (za zbu <| za zaL <| za zcl <| za za9 <| za zaT <| za zar <| zb _)
   rw [if_pos (by omega),List.take_of_length_le (by simp;omega),zb1,ttop,List.map_cons,thead,← hH,← hBe]
   rfl
@[go_sem] noncomputable def zbv:Ent Tryz.prog 103:= .m1 txA_T zlH
open Go Go.Proofs
theorem zqK (n size:Int) (hp:0≤n∧n<18446744073709551616):AC 144 [.d (.int .u64 n),.d (.int .i64 size)] (.d (.str (putS8 n size))):=by
 obtain ⟨h0,h1⟩:=hp
 refine bod Tryz.func144 Tryz.ntmps144 (fun base=>?_)
 refine' walkW fx (za zcI <| za zfw <| zb _)
@[go_sem] noncomputable def zgk:Ent Tryz.prog 144:= .m2 (intT .u64) (intT .i64) zqK
theorem zqL (n size:Int) (hp:0≤n∧n<9223372036854775808):AC 145 [.d (.int .i64 n),.d (.int .i64 size)] (.d (.str (putS8 n size))):=by
 obtain ⟨h0,h1⟩:=hp
 refine bod Tryz.func145 Tryz.ntmps145 (fun base=>?_)
 have hw:IntKind.u64.wrap n=n:=zap (by omega) (by omega)
 refine' walkW hw (za zcI <| za zfw <| zb _)
@[go_sem] noncomputable def zdP:Ent Tryz.prog 145:= .m2 (intT .i64) (intT .i64) zqL
theorem zqM (s:Txt) (hs:s.length≤9223372036854775807):AC 148 [.d (.str s)] (.d (.str (padR s))):=by
 refine bod Tryz.func148 Tryz.ntmps148 (fun base=>?_)
 refine' walkW fx (za zcI <| za zfw <| zb _)
 rfl
@[go_sem] noncomputable def zdQ:Ent Tryz.prog 148:= .m1 strT zqM
def zbS (l:List Int):List (List Int):=if l= [] then [] else if l.length≤16 then [l] else [l.take 16,l.drop 16]
def zax (l:List Int):List AV:= [.d (.sl 1 (l.map intD))]
theorem zpb (l:List Int):ACall Tryz.prog 186 0 [.d (.sl 1 (l.map intD)),.d (.int .i64 16)] [] (fun r _=>r= .fn (.func 199) [] [.dp [.d (.sl 1 (l.map intD))],.dp [.d (.int .i64 16)]]):=by
 refine fbod Tryz.func186 Tryz.ntmps186 (fun base=>?_)
 refine' zc fx
@[go_sem] noncomputable def zlY:Ent Tryz.prog 186:= .ofL (consL (slT 1 intD zcf) (consL (zg0 (.d (.int .i64 16))) nilL)) (fun (l,_,_)=>True) (fun (l,_,_)=> .fn (.func 199) [] [.dp [.d (.sl 1 (l.map intD))],.dp [.d (.int .i64 16)]]) (fun (l,_,_) hp=>⟨rfl,zpb l⟩)
abbrev Cst (l:List Int):= { q:Nat×List (List AV) // (q.1=0∧q.2= [])∨(q.1=16∧0<l.length∧q.2= [zax (l.take 16)])∨(q.1=32∧16<l.length∧q.2= [zax (l.take 16),zax (l.drop 16)]) }
theorem zi0 (l:List Int) (hl:l.length≤24) (fl:Nat):AIter Tryz.prog 199 fl [] [.dp [.d (.sl 1 (l.map intD))],.dp [.d (.int .i64 16)]] [] ((zbS l).map zax) (fun g h'=>(∀xs,g=some xs→xs=(zbS l).map zax)∧h'= []):=by
 refine itr Tryz.func199 Tryz.ntmps199 (fun base y=>?_)
 refine' zaK fx
 refine zy (fun q:Cst l=>⟨[(0,true,.fn (.yield y.yl) [] []),(1,true,.dp [.d (.sl 1 (l.map intD))]),(2,true,.dp [.d (.int .i64 16)]),(4,true,.d (.int .i64 q.1.1))],[],some q.1.2⟩) (fun q=>40 - q.1.1) ⟨(0,[]),.inl ⟨rfl,rfl⟩⟩ le1 (fun q=>?_)
 obtain ⟨⟨i,xs⟩,hi⟩:=q
 simp only at hi ⊢
 rcases hi with ⟨rfl,rfl⟩|⟨rfl,h0,rfl⟩|⟨rfl,h16,rfl⟩
 ·by_cases h:l= []
  ·subst h
   refine' zaK fx
   rintro zs rfl
   rfl
  ·have hpos:0<l.length:=List.length_pos_iff.2 h
   have hcmp:decide ((0:Int)<(l.length:Int))=true:=decide_eq_true (by omega)
   obtain ⟨n,hn⟩:∃n,n=min 16 l.length:=⟨_,rfl⟩
   have hm:imin 16 (l.length:Int)=(n:Int):=by unfold imin;split<;>omega
   have hw:IntKind.i64.wrap (0+(n:Int))=n:=by rw [Int.zero_add];exact zh (by omega) (by omega)
   have ht:(l.map intD).take n=(l.take 16).map intD:=by
    rw [← List.map_take]
    rcases Nat.le_total l.length 16 with h2|h2
    ·rw [hn,Nat.min_eq_right h2,List.take_length,List.take_of_length_le h2]
    ·rw [hn,Nat.min_eq_left h2]
   have hc0:((0:Nat):Int)=0:=rfl
   have hz:(Int.toNat 0)=0:=rfl
   refine' zaK (zaa hc0 hcmp hm hw hz (zG natC @List.drop_zero.{0} ht))
   ·unfold zbS
    rw [if_neg h]
    split
    ·rename_i h2
     rw [List.take_of_length_le h2]
     exact ⟨[],rfl⟩
    ·exact ⟨[zax (l.drop 16)],rfl⟩
   ·have hw16:IntKind.i64.wrap 16=16:=by decide
    exact ⟨⟨(16,[zax (l.take 16)]),.inr (.inl ⟨rfl,hpos,rfl⟩)⟩,by simp only [AS.le,leT,leH,zi,AsgK,AV.le,AV.leL,AObj.le,inH,idsT,idsH,AV.ids,AV.idsL,AV.idsR,AObj.ids,lk,hget,go_sem,aeq,aeq.aeqF,simprocAttr,hw16,zax]<;>and_intros<;>rfl,by simp⟩
 ·rcases Nat.lt_or_ge 16 l.length with h16|h16
  ·have hcmp:decide ((16:Int)<(l.length:Int))=true:=decide_eq_true (by omega)
   obtain ⟨n,hn⟩:∃n,n=l.length - 16:=⟨_,rfl⟩
   have hdl:((l.drop 16).length:Int)=(n:Int):=by simp [hn]
   have hm:imin 16 (n:Int)=(n:Int):=by unfold imin;split<;>omega
   have hw:IntKind.i64.wrap (16+(n:Int))=((16+n:Nat):Int):=by rw [zh (by omega) (by omega)];omega
   have ht:(l.map intD).take (16+n)=l.map intD:=List.take_of_length_le (by simp;omega)
   have hmd:(l.map intD).drop 16=(l.drop 16).map intD:=by rw [← List.map_drop]
   have hc0:((16:Nat):Int)=16:=rfl
   have hz:(Int.toNat 16)=16:=rfl
   refine' zaK (zaa hc0 hcmp hm hw hz (zaJ hdl natC ht hmd))
   ·unfold zbS
    rw [if_neg (by intro e;rw [e] at h16;simp at h16),if_neg (by omega)]
    exact ⟨[],rfl⟩
   ·have hw32:IntKind.i64.wrap 32=32:=by decide
    exact ⟨⟨(32,[zax (l.take 16),zax (l.drop 16)]),.inr (.inr ⟨rfl,h16,rfl⟩)⟩,by simp only [AS.le,leT,leH,zi,AsgK,AV.le,AV.leL,AObj.le,inH,idsT,idsH,AV.ids,AV.idsL,AV.idsR,AObj.ids,lk,hget,go_sem,aeq,aeq.aeqF,simprocAttr,hw32,zax]<;>and_intros<;>rfl,by simp⟩
  ·have hcmp:decide ((16:Int)<(l.length:Int))=false:=decide_eq_false (by omega)
   have hc0:((16:Nat):Int)=16:=rfl
   refine' zaK (zF hc0 hcmp)
   rintro zs rfl
   unfold zbS
   rw [if_neg (by intro e;rw [e] at h0;simp at h0),if_pos h16,List.take_of_length_le h16]
   rfl
 ·have hcmp:decide ((32:Int)<(l.length:Int))=false:=decide_eq_false (by omega)
  have hc0:((32:Nat):Int)=32:=rfl
  refine' zaK (zF hc0 hcmp)
  rintro zs rfl
  unfold zbS
  rw [if_neg (by intro e;rw [e] at h16;simp at h16),if_neg (by omega)]
  rfl
open Go Go.Proofs
def bItem (s:Txt):List AV:= [.d (.str s)]
def unC (x:List AV):List AV:=
 match x with
 | [.d (.sl _ rows)]=>bItem (padR (encT (rows.map fun r=>match r with| [.int _ n]=>n|_=>0)))
 |_=> []
theorem zkT (c:List Int):unC (zax c)=bItem (padR (encT c)):=by
 simp only [unC,zax,List.map_map]
 have:((fun r:List D=>match r with| [.int _ n]=>n|_=>(0:Int)) ∘ intD)=id:=rfl
 rw [this,List.map_id]
theorem zjZ (l:List (List Int)):(l.map zax).map unC=l.map (fun c=>bItem (padR (encT c))):=by
 rw [List.map_map]
 exact List.map_congr_left (fun c _=>zkT c)
theorem zj0 {l:List Int} (h:l≠ []):trows l=(zbS l).map (fun c=>padR (encT c)):=by
 unfold trows zbS
 rw [if_neg h]
 split<;>rfl
theorem zgl {p:Plan} (h:p.targets≠ []):(tbody p).map bItem=(zbS p.targets).map (fun c=>bItem (padR (encT c)))++p.texts.map bItem:=by
 rw [tbody,zj0 h,List.map_append,List.map_map]
 rfl
theorem zj1 {l c:List Int} (h:c∈zbS l) (hl:l.length≤24):c.length≤16∧∀t∈c,t∈l:=by
 unfold zbS at h
 split at h
 ·cases h
 split at h
 ·rename_i h1 h2
  obtain rfl:c=l:=by simpa using h
  exact ⟨h2,fun t ht=>ht⟩
 ·rcases List.mem_cons.1 h with rfl|h
  ·exact ⟨by simp;omega,fun t ht=>List.mem_of_mem_take ht⟩
  ·obtain rfl:c=l.drop 16:=by simpa using h
   exact ⟨by simp;omega,fun t ht=>List.mem_of_mem_drop ht⟩
theorem zqN:liesAt Tryz.prog Tryz.prog.depth 131 (2 / Tryz.prog.cellsOf 131) 0 131 1=true:=by kernel_rfl
theorem zhZ (p:Plan) (hp:PlanOk p) (h24:p.targets.length≤24) (hne:p.targets≠ []) (hr:∀t∈p.targets,0≤t∧t<1024):AIter Tryz.prog 185 100 [] [.dp [.d (.sl 1 (p.targets.map intD)),.d (.sl 1 (p.texts.map strD))]] [] ((tbody p).map bItem) (fun g h'=>(∀xs,g=some xs→xs=(tbody p).map bItem)∧h'= []):=by
 refine itr Tryz.func185 Tryz.ntmps185 (fun base y=>?_)
 refine zf1 ?_
 refine' walkX fx (za zlY <| zb _)
 obtain ⟨I,hI⟩:∃I:List (List AV)→AHeap×Option (List (List AV)),I=fun xs=>([(100,.var [.fn (.yield y.yl) [] []])],some (xs.map unC)):=⟨_,rfl⟩
 obtain ⟨G,hG⟩:∃G:List (List AV)→Prop,G=fun _=>True:=⟨_,rfl⟩
 obtain ⟨J,hJ⟩:∃J:Code→AHeap→Option (List (List AV))→Prop,J=fun c h g=>c= .ret∧h= [(100,.var [.fn (.yield y.yl) [] []])]∧g=none:=⟨_,rfl⟩
 refine zbk 200 G I J (zi0 p.targets h24 200) (by simp only [go_sem,aeq,aeq.aeqF,simprocAttr]) rfl (zR rfl) (by simp [cxOf,cxY]) rfl (by rw [hG];first|trivial|rfl|simp) (by rw [hI];simp only [AS.le,leT,leH,zi,AsgK,AV.le,AV.leL,AObj.le,inH,idsT,idsH,AV.ids,AV.idsL,AV.idsR,AObj.ids,lk,hget,go_sem,aeq,aeq.aeqF,simprocAttr]<;>simp [AV.leL,AV.le]) (by rw [hI];simp only [AS.le,leT,leH,zi,AsgK,AV.le,AV.leL,AObj.le,inH,idsT,idsH,AV.ids,AV.idsL,AV.idsR,AObj.ids,lk,hget,go_sem,aeq,aeq.aeqF,simprocAttr]<;>simp) (by rw [hI]<;>rfl) (by intro x hx;obtain ⟨q,_,rfl⟩:=List.mem_map.1 hx;rfl) (by intro t ht;simp at ht;first|(rcases ht with rfl|rfl<;>simp [cxOf,cxY]<;>done)|(subst ht;simp [cxOf,cxY])) ?_ ?_ ?_
 ·intro xs x hpre hgd l1 r1
  obtain ⟨ys,c,zs,rfl,rfl,hzl⟩:=zdg hpre
  have hcm:c∈zbS p.targets:=by rw [hzl];simp
  obtain ⟨hc16,hcr⟩:=zj1 hcm h24
  have hit:(ys.map (fun c=>bItem (padR (encT c)))++ [bItem (padR (encT c))])<+:(tbody p).map bItem:=by
   rw [zgl hne,hzl,List.map_append,List.map_cons]
   exact ⟨zs.map (fun c=>bItem (padR (encT c)))++p.texts.map bItem,by simp⟩
  simp only [zax]
  refine aw_le ⟨[(12,true,.d (.sl 1 (c.map intD))),(2,true,.vp 100 0)],[(100,.var [.fn (.yield y.yl) [] []])],some (ys.map (fun c=>bItem (padR (encT c))))⟩ (by rw [hI];simp only [zjZ];simp only [AS.le,leT,leH,zi,AsgK,AV.le,AV.leL,AObj.le,inH,idsT,idsH,AV.ids,AV.idsL,AV.idsR,AObj.ids,lk,hget,go_sem,aeq,aeq.aeqF,simprocAttr]) ?_
  refine' zaK hI
  refine znF 200 1 rfl rfl ?_
  simp only [go_sem,aeq,aeq.aeqF,simprocAttr]
  refine zy (fun q: { i:Nat // i≤c.length } =>⟨[(2,true,.vp 100 0),(4,true,.tp 200 0),(13,true,.d (.sl 1 (c.map intD))),(14,true,.d (.int .i64 c.length)),(15,true,.d (.int .i64 q.1))],[(201,.buf 5 (encT (c.take q.1))),(200,.tvar 131 [if q.1=0 then .d .nilp else .tp 200 0,.bsl 201 (encT (c.take q.1)).length]),(100,.var [.fn (.yield y.yl) [] []])],some (ys.map (fun c=>bItem (padR (encT c))))⟩) (fun q=>c.length - q.1) ⟨0,Nat.zero_le _⟩ (by simp only [AS.le,leT,leH,zi,AsgK,AV.le,AV.leL,AObj.le,inH,idsT,idsH,AV.ids,AV.idsL,AV.idsR,AObj.ids,lk,hget,go_sem,aeq,aeq.aeqF,simprocAttr,if_true,List.take_zero]<;>and_intros<;>rfl) (fun q=>?_)
  obtain ⟨i,hi⟩:=q
  simp only at hi ⊢
  rcases zaj intD c i hi with ⟨t,hq,hlt,hcmp,hrow,hdr,htk⟩|⟨hend,hcmp⟩
  ·simp only [intD] at hrow
   have hwi:=zE (i:=i) (by omega)
   obtain ⟨ht0,ht1⟩:=hr t (hcr t (List.mem_of_getElem? hq))
   have hel:(encT (c.take i)).length≤64:=by rw [zdl,List.length_take];omega
   have hpl:putS8 t 4=putN t.toNat 4:=rfl
   have hpn:(putN t.toNat 4).length=4:=zac _ _
   have hsn:encT (c.take (i+1))=encT (c.take i)++putN t.toNat 4:=by rw [htk,zgc]
   refine' walkX (zG hcmp hrow hpl) (za zdP <| za zdQ <| zb _)
   refine (zpa (i:=200) (j:=201) (o:=0) (T:=131) (cs:= [if i=0 then .d .nilp else .tp 200 0,.bsl 201 (encT (c.take i)).length]) (xs:=encT (c.take i)) rfl (by by_cases h0:i=0<;>simp [h0]) rfl rfl rfl zqN (by omega)).mono ?_
   rintro r h' ⟨rfl,rfl⟩
   refine' zaK fx
   have hif:(if i+1=0 then AV.d .nilp else AV.tp 200 0)= .tp 200 0:=if_neg (by omega)
   exact ⟨⟨i+1,by omega⟩,by simp only [AS.le,leT,leH,zi,AsgK,AV.le,AV.leL,AObj.le,inH,idsT,idsH,AV.ids,AV.idsL,AV.idsR,AObj.ids,lk,hget,go_sem,aeq,aeq.aeqF,simprocAttr,hwi,hsn,hif,List.length_append],by simp;omega⟩
  ·have htk:c.take i=c:=by rw [hend,List.take_length]
   rw [htk]
   have hel:(encT c).length≤64:=by rw [zdl];omega
   obtain ⟨x0,hx0⟩:∃x0,x0=(if i=0 then AV.d .nilp else AV.tp 200 0):=⟨_,rfl⟩
   rw [← hx0]
   refine' zmN (zbj 9) hcmp
   have hh:HotOk Tryz.prog 200 (hotOf noHot 74 [.tp 200 0] [(201,.buf 5 (encT c)),(200,.tvar 131 [x0,.bsl 201 (encT c).length]),(100,.var [.fn (.yield y.yl) [] []])] (.d (.str (encT c))) [(201,.buf 5 gone),(200,.tvar 131 [x0,.bsl 201 (encT c).length]),(100,.var [.fn (.yield y.yl) [] []])]):=
    zon (zom _ _) (fun K hK=>(znE (i:=200) (j:=201) (o:=0) (T:=131) (cs:= [x0,.bsl 201 (encT c).length]) (xs:=encT c) rfl rfl rfl rfl (by omega)).mono (by rintro r h' ⟨rfl,rfl⟩;exact hK))
   refine zay (fun K2 hK2=>zhD _ _ (za zdP <| za zdQ <| zb Tryz.prog) hh (by kernel_rfl) ?_)
   clear hh
   have hKT:∀s',s'.le ⟨[(27,true,.d (.bool false))],[(100,.var [.fn (.yield y.yl) [] []])],some (ys.map (fun c=>bItem (padR (encT c)))++ [[.d (.str (padR (encT c)))]])⟩→K2 s':=fun s' hle=>hK2 _ (aw_le _ hle (by
    refine' zaK hI
    ·rw [hG];trivial
    ·rw [List.map_append,zjZ,List.map_singleton,show unC [AV.d (.sl 1 (c.map intD))]= [.d (.str (padR (encT c)))] from zkT c]))
   have hKF:∀s',s'.le ⟨[(27,true,.d (.bool true))],[(100,.var [.fn (.yield y.yl) [] []])],none⟩→K2 s':=fun s' hle=>hK2 _ (aw_le _ hle (by
    refine' zaK hI
    ·rw [hJ];exact ⟨rfl,rfl,rfl⟩))
   have hit':(ys.map (fun c=>bItem (padR (encT c)))++ [[.d (.str (padR (encT c)))]])<+:(tbody p).map bItem:=hit
   clear hK2 hit
   simp only [go_sem,aeq,aeq.aeqF,simprocAttr]
   repeat' (with_reducible refine And.intro ?_ ?_)
   all_goals first|omega|exact hit'|(refine hKT _ ?_;(simp only [AS.le,leT,leH,zi,AsgK,AV.le,AV.leL,AObj.le,inH,idsT,idsH,AV.ids,AV.idsL,AV.idsR,AObj.ids,lk,hget,go_sem,aeq,aeq.aeqF,simprocAttr]);done)|(refine hKF _ ?_;(simp only [AS.le,leT,leH,zi,AsgK,AV.le,AV.leL,AObj.le,inH,idsT,idsH,AV.ids,AV.idsL,AV.idsR,AObj.ids,lk,hget,go_sem,aeq,aeq.aeqF,simprocAttr]);done)
 ·intro _
  rw [hI]
  simp only [zjZ]
  obtain ⟨B,hB⟩:∃B,B=(zbS p.targets).map (fun c=>bItem (padR (encT c))):=⟨_,rfl⟩
  have hall:(tbody p).map bItem=B++p.texts.map bItem:=by rw [hB];exact zgl hne
  rw [← hB]
  refine' zaK fx
  have htx:=hp.texts
  refine zy (fun q: { i:Nat // i≤p.texts.length } =>⟨[(2,true,.vp 100 0),(29,true,.d (.sl 1 (p.texts.map strD))),(30,true,.d (.int .i64 p.texts.length)),(31,true,.d (.int .i64 q.1))],[(100,.var [.fn (.yield y.yl) [] []])],some (B++(p.texts.take q.1).map bItem)⟩) (fun q=>p.texts.length - q.1) ⟨0,Nat.zero_le _⟩ (by simp only [AS.le,leT,leH,zi,AsgK,AV.le,AV.leL,AObj.le,inH,idsT,idsH,AV.ids,AV.idsL,AV.idsR,AObj.ids,lk,hget,go_sem,aeq,aeq.aeqF,simprocAttr]<;>simp) (fun q=>?_)
  obtain ⟨i,hi⟩:=q
  simp only at hi ⊢
  rcases zaj strD p.texts i hi with ⟨s,hq,hlt,hcmp,hrow,hdr,htk⟩|⟨hend,hcmp⟩
  ·simp only [strD] at hrow
   have hwi:=zE (i:=i) (by omega)
   have hpr:((B++(p.texts.take i).map bItem)++ [[.d (.str s)]])<+:(tbody p).map bItem:=by
    rw [hall]
    refine ⟨(p.texts.drop (i+1)).map bItem,?_⟩
    have h1:=List.take_append_drop i p.texts
    rw [hdr] at h1
    conv=>rhs;rw [← h1]
    simp [bItem]
   refine' zaK (zF hcmp hrow)
   exact ⟨⟨i+1,by omega⟩,by simp only [AS.le,leT,leH,zi,AsgK,AV.le,AV.leL,AObj.le,inH,idsT,idsH,AV.ids,AV.idsL,AV.idsR,AObj.ids,lk,hget,go_sem,aeq,aeq.aeqF,simprocAttr,hwi,htk,List.map_append,List.append_assoc,bItem,List.map_singleton],by simp;omega⟩
  ·refine' zaK hcmp
   rintro zs rfl
   rw [hall,hend,List.take_length]
 ·rw [hJ]
  rintro c h3 g3 ⟨rfl,rfl,rfl⟩
  refine' zaK fx
open Go Go.Proofs
theorem znG (p:Plan) (_:True):AC 146 [planA p] (.fn (.func 185) [] [.dp [.d (.sl 1 (p.targets.map intD)),.d (.sl 1 (p.texts.map strD))]]):=by
 refine fbod Tryz.func146 Tryz.ntmps146 (fun base=>?_)
 refine' zc fx
@[go_sem] noncomputable def zem:Ent Tryz.prog 146:= .m1 zA znG
@[simp] theorem tsum_nil (c:Int):tsum c []=c:=rfl
def unB (x:List AV):Txt:=match x with| [.d (.str s)]=>s|_=> []
theorem zj2 (l:List Txt):(l.map bItem).map unB=l:=by
 rw [List.map_map]
 conv=>rhs;rw [← List.map_id l]
 exact List.map_congr_left (fun c _=>rfl)
theorem zj3 (t:Tx) (hp:PlanOk t.plan∧pfit t.plan=true∧t.plan.targets.length≠0∧0≤t.seq∧t.seq<18446744073709551616):AC 95 [txA t] (.tup [.d (.sl 1 ((zb1 t.seq t.plan).map strD)),.d (.int .i64 0)]):=by
 obtain ⟨hp,hf,hn,h0,h1⟩:=hp
 refine fbod Tryz.func95 Tryz.ntmps95 (fun base=>?_)
 obtain ⟨hl,h24,h64⟩:=zaq hf
 have hrng:=zkI hf
 have hn0:((t.plan.targets.length:Int)==0)=false:=by rw [beq_eq_false_iff_ne];omega
 have hne:t.plan.targets≠ []:=by intro e;rw [e] at hn;exact hn rfl
 have hp8:putS8 t.seq 8=putN t.seq.toNat 8:=by rw [putS8,if_neg (by omega)];rfl
 have hp2:putS8 (t.plan.targets.length:Int) 2=putN t.plan.targets.length 2:=by rw [putS8,if_neg (by omega)];rfl
 have hw5:IntKind.i64.wrap (65535 - (t.plan.targets.length:Int))=((65535 - t.plan.targets.length:Nat):Int):=by rw [zh (by omega) (by omega)];omega
 have hp5:putS8 ((65535 - t.plan.targets.length:Nat):Int) 2=putN (65535 - t.plan.targets.length) 2:=by rw [putS8,if_neg (by omega)];rfl
 have hl8:=zac t.seq.toNat 8
 have hl2:=zac t.plan.targets.length 2
 have hl5:=zac (65535 - t.plan.targets.length) 2
 refine' walkR (zaa hf hn0 hp8 hp2 hl8 (zF hl2 @List.length_append.{0})) (za zf7 <| za zgk <| za zdP <| za zdQ <| za zck <| za zdF <| za za8 <| za zem <| zb _)
 obtain ⟨H,hH⟩:∃H,H=putN t.seq.toNat 8++putN t.plan.targets.length 2:=⟨_,rfl⟩
 have hHl:H.length=10:=by rw [hH,List.length_append,hl8,hl2]
 rw [← hH]
 have hc0:0≤sumOf 0 H∧sumOf 0 H≤4294967295:=ze0 0 H (by omega) (by omega)
 obtain ⟨I,hI⟩:∃I:List (List AV)→AHeap×Option (List (List AV)),I=fun xs=>([(3,.var [.d (.int .u32 (tsum (sumOf 0 H) (xs.map unB)))]),(2,.var [.osl 1 1 (xs.length+1) 0 (xs.length+1)]),(1,.arr 1 ([.str []]::(xs.map unB).map strD)),(0,.var [.d (.int .u64 t.seq),.d (.sl 1 (t.plan.targets.map intD)),.d (.sl 1 (t.plan.texts.map strD))])],some []):=⟨_,rfl⟩
 obtain ⟨G,hG⟩:∃G:List (List AV)→Prop,G=fun _=>True:=⟨_,rfl⟩
 obtain ⟨J,hJ⟩:∃J:Code→AHeap→Option (List (List AV))→Prop,J=fun c h g=>False:=⟨_,rfl⟩
 have hB64:∀s∈tbody t.plan,s.length=64:=zgd hf
 have hBl:(tbody t.plan).length≤26:=by
  have:(trows t.plan.targets).length≤2:=by unfold trows;split<;>simp
  rw [tbody,List.length_append]
  omega
 refine zbk 100 G I J (zhZ t.plan hp h24 hne hrng) (by simp only [go_sem,aeq,aeq.aeqF,simprocAttr]) rfl (zR rfl) (by simp [cxOf,cxY]) rfl (by rw [hG];first|trivial|rfl|simp) (by rw [hI];simp only [AS.le,leT,leH,zi,AsgK,AV.le,AV.leL,AObj.le,inH,idsT,idsH,AV.ids,AV.idsL,AV.idsR,AObj.ids,lk,hget,go_sem,aeq,aeq.aeqF,simprocAttr]<;>simp [AV.leL,AV.le]) (by rw [hI];simp only [AS.le,leT,leH,zi,AsgK,AV.le,AV.leL,AObj.le,inH,idsT,idsH,AV.ids,AV.idsL,AV.idsR,AObj.ids,lk,hget,go_sem,aeq,aeq.aeqF,simprocAttr]<;>simp) (by rw [hI]<;>rfl) (by intro x hx;obtain ⟨q,_,rfl⟩:=List.mem_map.1 hx;rfl) (by intro t ht;simp at ht;first|(rcases ht with rfl|rfl<;>simp [cxOf,cxY]<;>done)|(subst ht;simp [cxOf,cxY])) ?_ ?_ ?_
 ·intro xs x hpre hgd l1 r1
  obtain ⟨ys,s,zs,rfl,rfl,hzl⟩:=zdg hpre
  have hs64:=hB64 s (by rw [hzl];simp)
  have hyl:ys.length≤26:=by rw [hzl,List.length_append] at hBl;omega
  simp only [bItem]
  refine aw_le ⟨[(33,true,.d (.str s)),(6,true,.vp 2 0),(7,true,.vp 3 0)],[(3,.var [.d (.int .u32 (tsum (sumOf 0 H) ys))]),(2,.var [.osl 1 1 (ys.length+1) 0 (ys.length+1)]),(1,.arr 1 ([.str []]::ys.map strD)),(0,.var [.d (.int .u64 t.seq),.d (.sl 1 (t.plan.targets.map intD)),.d (.sl 1 (t.plan.texts.map strD))])],some []⟩ (by rw [hI];simp only [zj2,List.length_map];simp only [AS.le,leT,leH,zi,AsgK,AV.le,AV.leL,AObj.le,inH,idsT,idsH,AV.ids,AV.idsL,AV.idsR,AObj.ids,lk,hget,go_sem,aeq,aeq.aeqF,simprocAttr]) ?_
  have hsn:(ys.map bItem++ [[AV.d (.str s)]]).map unB=ys++ [s]:=by rw [List.map_append,zj2];rfl
  refine' walkR (zF hI hsn) (za zf7 <| za zgk <| za zdP <| za zdQ <| za zck <| za zdF <| za za8 <| za zem <| zb _)
  ·rw [hG];trivial
  ·rw [ziU];rfl
  ·simp
  ·rw [List.map_append];rfl
 ·intro _
  rw [hI]
  simp only [zj2,List.length_map]
  have hbl:=zcZ (tsum (sumOf 0 H) (tbody t.plan))
  refine' walkR (zG hp5 hw5 hl5) (za zf7 <| za zgk <| za zdP <| za zdQ <| za zck <| za zdF <| za za8 <| za zem <| zb _)
  ·simp only [List.length_append,hHl,hl5,hbl];omega
  ·simp only [List.length_append,hHl,hl5,hbl];omega
  ·rw [hH]
   simp [zb1,ttop,thead,zpY,strD]
 ·rw [hJ]
  rintro c h3 g3 h
  exact h.elim
@[go_sem] noncomputable def zbI:Ent Tryz.prog 95:= .m1 txA_T zj3
open Go Go.Proofs
structure Jour where
 seq:Int
 pos:Int
 deriving DecidableEq
def jourA (j:Jour):AV:= .agg [.d (.int .u64 j.seq),.d (.int .i64 j.pos)]
attribute [go_sem] jourA
theorem zoX (j:Jour):Jour.mk j.seq j.pos=j:=rfl
noncomputable def zhO:PT Jour:=aggT (consL (intT .u64) (consL (intT .i64) nilL)) (fun p=>⟨p.1,p.2.1⟩) (fun x=>(x.seq,x.pos,())) (fun _=>rfl)
attribute [go_sem] zhO
attribute [go_sem] zoX
def jfit (j:Jour):Bool:=decide (1≤j.seq)&&decide (j.seq≤4611686018427387904)&&decide (0≤j.pos)&&decide (j.pos≤81)
def zcJ (pos size:Int):Int:=if pos<0∨size<0∨81<size∨81 - size<pos then 0 else pos
def numF:Int→List Txt→List (Int×Txt)
 |_,[]=> []
 |a,s::r=>(a,s)::numF (a+1) r
theorem zjG:∀ (l:List Txt) (a:Int) (i:Nat) (s:Txt),l[i]?=some s→(numF a l)[i]?=some (a+i,s)
 | [],a,i,s,h=>by simp at h
 |x::l,a,0,s,h=>by
  have:x=s:=by simpa using h
  subst this
  simp [numF]
 |x::l,a,i+1,s,h=>by
  rw [numF,List.getElem?_cons_succ,zjG l (a+1) i s (by simpa using h)]
  congr 2
  omega
theorem zhP:∀ (l:List Txt) (a:Int),(numF a l).length=l.length
 | [],_=>rfl
 |x::l,a=>by rw [numF,List.length_cons,zhP l,List.length_cons]
def jtail (d:Disk) (j:Jour) (p:Plan) (L:List Txt) (A:Int):Disk×Jour×Int:=
 if (layL d (numF (6+A) L)).2≠0 then ((layL d (numF (6+A) L)).1,j,(layL d (numF (6+A) L)).2)
 else if (dflush (layL d (numF (6+A) L)).1).2≠0 then ((dflush (layL d (numF (6+A) L)).1).1,j,(dflush (layL d (numF (6+A) L)).1).2)
 else if (play (dflush (layL d (numF (6+A) L)).1).1 p).2≠0 then ((play (dflush (layL d (numF (6+A) L)).1).1 p).1,j,(play (dflush (layL d (numF (6+A) L)).1).1 p).2)
 else ((play (dflush (layL d (numF (6+A) L)).1).1 p).1,⟨j.seq+1,A+L.length⟩,0)
def jcommit (d:Disk) (j:Jour) (p:Plan):Disk×Jour×Int:=
 if p.targets.length=0 then (d,j,0) else if 4611686018427387904≤j.seq then (d,j,10)
 else if (dflush d).2≠0 then ((dflush d).1,j,(dflush d).2)
 else jtail (dflush d).1 j p (zb1 j.seq p) (zcJ j.pos (zb1 j.seq p).length)
theorem zg9 (pos size:Int):0≤zcJ pos size∧zcJ pos size≤81:=by
 unfold zcJ
 split<;>omega
theorem zha {p:Plan} (seq:Int) (hf:pfit p=true):(zb1 seq p).length≤27∧∀s∈zb1 seq p,s.length≤64:=by
 obtain ⟨hl,h24,h64⟩:=zaq hf
 refine ⟨?_,?_⟩
 ·rw [zb1,tbody,List.length_cons,List.length_append]
  have:(trows p.targets).length≤2:=by unfold trows;split<;>simp
  omega
 ·intro s hs
  rcases List.mem_cons.1 hs with rfl|hs
  ·rw [ttop,zfA]
   ·exact Nat.le_refl _
   ·rw [List.length_append,List.length_append,List.length_append,thead,List.length_append,zac,zac,zac,zcZ]
    decide
  ·rw [zgd hf s hs];exact Nat.le_refl _
theorem zoY (j:Jour) (_:True):AC 62 [jourA j] (.d (.bool (jfit j))):=by
 refine bod Tryz.func62 Tryz.ntmps62 (fun base=>?_)
 refine' zc fx
 rfl
@[go_sem] noncomputable def zd2:Ent Tryz.prog 62:= .m1 zhO zoY
theorem zlI (pos size:Int) (hp:0≤size∧size≤1000):AC 104 [.d (.int .i64 pos),.d (.int .i64 size)] (.d (.int .i64 (zcJ pos size))):=by
 obtain ⟨h0,h1⟩:=hp
 refine bod Tryz.func104 Tryz.ntmps104 (fun base=>?_)
 have hw:IntKind.i64.wrap (81 - size)=81 - size:=zh (by omega) (by omega)
 refine' zc hw
 ·simp only [Bool.or_eq_true,decide_eq_true_eq,or_assoc] at hc
  rw [zcJ,if_pos hc]
 ·rw [zcJ,if_neg]
  intro h
  have:(decide (pos<0)||decide (size<0)||decide (81<size)||decide (81 - size<pos))=true:=by
   simp only [Bool.or_eq_true,decide_eq_true_eq,or_assoc];exact h
  rw [hc] at this;cases this
@[go_sem] noncomputable def zbw:Ent Tryz.prog 104:= .m2 (intT .i64) (intT .i64) zlI
theorem zlJ:ACall Tryz.prog 105 0 [] [] (fun r _=>r= .d (.int .i64 6)):=by
 refine bod Tryz.func105 Tryz.ntmps105 (fun base=>?_)
 refine' walkW fx (za zjx <| zb _)
@[go_sem] noncomputable def zbx:Ent Tryz.prog 105:= .ofL nilL (fun _=>True) (fun _=> .d (.int .i64 6)) (fun _ hp=>⟨rfl,zlJ⟩)
theorem zjH (d:Disk) (j:Jour) (p:Plan) (hp:DiskF d∧pfit p=true∧0≤j.seq∧j.seq<18446744073709551616):AC 46 [diskA d,jourA j,planA p] (.tup [diskA (jcommit d j p).1,jourA (jcommit d j p).2.1,.d (.int .i64 (jcommit d j p).2.2)]):=by
 obtain ⟨hd,hf,h0,h1⟩:=hp
 refine fbod Tryz.func46 Tryz.ntmps46 (fun base=>?_)
 obtain ⟨hl,h24,h64⟩:=zaq hf
 have hpo:PlanOk p:=⟨by omega,by omega⟩
 have hdo:=hd.ok
 have hdp:=hd.puts
 by_cases hn:p.targets.length=0
 ·have hb:((p.targets.length:Int)==0)=true:=by rw [hn];rfl
  refine' walkW hb (za zbs <| za zbv <| za zbw <| za zbx <| za zt <| za zbQ <| zb _)
  rw [jcommit,if_pos hn]
 have hb:((p.targets.length:Int)==0)=false:=by rw [beq_eq_false_iff_ne];omega
 by_cases hs:4611686018427387904≤j.seq
 ·have hb2:decide (4611686018427387904≤j.seq)=true:=decide_eq_true hs
  refine' walkW (zF hb hb2) (za zbs <| za zbv <| za zbw <| za zbx <| za zt <| za zbQ <| zb _)
  rw [jcommit,if_neg hn,if_pos hs]
 have hb2:decide (4611686018427387904≤j.seq)=false:=decide_eq_false hs
 by_cases he1:(dflush d).2≠0
 ·have hb3:((dflush d).2 !=0)=true:=by simpa using he1
  refine' walkW (zG hb hb2 hb3) (za zbs <| za zbv <| za zbw <| za zbx <| za zt <| za zbQ <| zb _)
  rw [jcommit,if_neg hn,if_neg hs,if_pos he1]
 have hb3:((dflush d).2 !=0)=false:=by simpa using he1
 obtain ⟨htl,ht64⟩:=zha j.seq hf
 have hd1:=hd.flush
 have hj:=zg9 j.pos (zb1 j.seq p).length
 have hjc:jcommit d j p=jtail (dflush d).1 j p (zb1 j.seq p) (zcJ j.pos (zb1 j.seq p).length):=by rw [jcommit,if_neg hn,if_neg hs,if_neg he1]
 obtain ⟨L,hL⟩:∃L,L=zb1 j.seq p:=⟨_,rfl⟩
 rw [← hL] at htl ht64 hj hjc
 obtain ⟨A,hA⟩:∃A,A=zcJ j.pos L.length:=⟨_,rfl⟩
 rw [← hA] at hj hjc
 obtain ⟨D1,hD1⟩:∃D1,D1=(dflush d).1:=⟨_,rfl⟩
 rw [← hD1] at hd1 hjc
 refine' walkW (zG hb hb2 hb3) (za zbs <| za zbv <| za zbw <| za zbx <| za zt <| za zbQ <| zb _)
 ·rw [← hL];omega
 rw [← hL,← hA,← hD1]
 refine zy (fun q: { q:Nat×Disk // q.1≤L.length∧DiskF q.2∧layL D1 (numF (6+A) L)=layL q.2 ((numF (6+A) L).drop q.1) } =>⟨[(3,true,.vp 0 0),(4,true,.vp 1 0),(5,true,.vp 2 0),(6,true,.vp 3 0),(7,true,.vp 4 0),(10,true,.d (.sl 1 (L.map strD))),(11,true,.d (.int .i64 A)),(12,true,.d (.int .i64 q.1.1))],[(4,.var [.d (.int .u64 0),.d (.int .i64 0)]),(3,.var [.d (.str []),.nils 2,.d (.int .i64 0),.d (.bool false),.nils 1]),(2,.var [.d (.sl 1 (p.targets.map intD)),.d (.sl 1 (p.texts.map strD))]),(1,.var [.d (.int .u64 j.seq),.d (.int .i64 j.pos)]),(0,(.var [.d (.str q.1.2.data),.d (.sl 2 (q.1.2.cache.map putD)),.d (.int .i64 q.1.2.fuse),.d (.bool q.1.2.off),.d (.sl 1 (q.1.2.bad.map intD))]))],some []⟩) (fun q=>L.length - q.1.1) ⟨(0,D1),Nat.zero_le _,hd1,rfl⟩ le1 (fun q=>?_)
 obtain ⟨⟨i,x⟩,hi,hx,hfx⟩:=q
 simp only at hi hx hfx ⊢
 have hxo:=hx.ok
 have hxp:=hx.puts
 rcases zaj strD L i hi with ⟨s,hq,hlt,hcmp,hrow,hdr,htk⟩|⟨hend,hcmp⟩
 ·simp only [strD] at hrow
  have hwi:=zE (i:=i) (by omega)
  have hw1:IntKind.i64.wrap (6+A)=6+A:=zh (by omega) (by omega)
  have hw2:IntKind.i64.wrap (6+A+(i:Int))=6+A+i:=zh (by omega) (by omega)
  rw [zcP (zjG L (6+A) i s hq),layL] at hfx
  have hxw:=hx.write (6+A+i) s
  refine' walkW (zcW hcmp hrow hw1 hw2 natC) (za zbs <| za zbv <| za zbw <| za zbx <| za zt <| za zbQ <| zb _)
  ·have hc:(zI x (6+A+i) s).2≠0:=by simpa using hc
   rw [if_pos hc] at hfx
   rw [hjc,jtail,hfx,if_pos hc]
  ·have hc:¬(zI x (6+A+i) s).2≠0:=by simpa using hc
   rw [if_neg hc] at hfx
   exact ⟨⟨(i+1,(zI x (6+A+i) s).1),by omega,hxw,hfx⟩,lew,by simp;omega⟩
 ·subst hend
  have hlay:layL D1 (numF (6+A) L)=(x,0):=by
   rw [hfx,List.drop_of_length_le (by rw [zhP];omega)];rfl
  have hxf:=hx.flush
  have hxfo:=hxf.ok
  have hws:j.seq<4611686018427387904→IntKind.u64.wrap (j.seq+1)=j.seq+1:=fun h=>zap (by omega) (by omega)
  have hws:=hws (by omega)
  have hwl:IntKind.i64.wrap (A+(L.length:Int))=A+L.length:=zh (by omega) (by omega)
  rw [jtail,hlay] at hjc
  simp only [if_neg (show ¬(0:Int)≠0 by decide)] at hjc
  refine' walkW (zG hcmp hws hwl) (za zbs <| za zbv <| za zbw <| za zbx <| za zt <| za zbQ <| zb _)
  ·have hc:(dflush x).2≠0:=by simpa using hc
   rw [hjc,if_pos hc]
  ·rename_i hc0
   have hc0:¬(dflush x).2≠0:=by simpa using hc0
   have hc:(play (dflush x).1 p).2≠0:=by simpa using hc
   rw [hjc,if_neg hc0,if_pos hc]
  ·rename_i hc0
   have hc0:¬(dflush x).2≠0:=by simpa using hc0
   have hc:¬(play (dflush x).1 p).2≠0:=by simpa using hc
   rw [hjc,if_neg hc0,if_neg hc]
@[go_sem] noncomputable def zhQ:Ent Tryz.prog 46:= .m3 zq zhO zA zjH
open Go Go.Proofs
theorem zpc:ACall Tryz.prog 149 0 [] [] (fun r _=>r= .tup [.d (.int .i64 6),.d (.int .i64 81)]):=by
 refine bod Tryz.func149 Tryz.ntmps149 (fun base=>?_)
 refine' zc fx
@[go_sem] noncomputable def zlZ:Ent Tryz.prog 149:= .ofL nilL (fun _=>True) (fun _=> .tup [.d (.int .i64 6),.d (.int .i64 81)]) (fun _ hp=>⟨rfl,zpc⟩)
theorem zpd:ACall Tryz.prog 96 0 [] [] (fun r _=>r= .tup [.d (.int .i64 6),.d (.int .i64 81)]):=by
 refine bod Tryz.func96 Tryz.ntmps96 (fun base=>?_)
 refine' walkW fx (za zlZ <| zb _)
@[go_sem] noncomputable def zcm:Ent Tryz.prog 96:= .ofL nilL (fun _=>True) (fun _=> .tup [.d (.int .i64 6),.d (.int .i64 81)]) (fun _ hp=>⟨rfl,zpd⟩)
theorem zl0 (pos size:Int) (hp:0≤size∧size≤1000):AC 97 [.d (.int .i64 pos),.d (.int .i64 size)] (.d (.int .i64 (zcJ pos size))):=by
 obtain ⟨h0,h1⟩:=hp
 refine bod Tryz.func97 Tryz.ntmps97 (fun base=>?_)
 have hw:IntKind.i64.wrap (81 - size)=81 - size:=zh (by omega) (by omega)
 refine' walkW hw (za zcm <| zb _)
 ·simp only [Bool.or_eq_true,decide_eq_true_eq,or_assoc] at hc
  rw [zcJ,if_pos hc]
 ·rw [zcJ,if_neg]
  intro h
  have:(decide (pos<0)||decide (size<0)||decide (81<size)||decide (81 - size<pos))=true:=by
   simp only [Bool.or_eq_true,decide_eq_true_eq,or_assoc];exact h
  rw [hc] at this;cases this
@[go_sem] noncomputable def zb2:Ent Tryz.prog 97:= .m2 (intT .i64) (intT .i64) zl0
theorem zpe (a:Int) (L:List Txt) (_:True):AC 100 [.d (.int .i64 a),.d (.sl 1 (L.map strD))] (.fn (.func 153) [] [.dp [.d (.sl 1 (L.map strD))],.dp [.d (.int .i64 a)]]):=by
 refine fbod Tryz.func100 Tryz.ntmps100 (fun base=>?_)
 refine' zc fx
@[go_sem] noncomputable def zc0:Ent Tryz.prog 100:= .m2 (intT .i64) (slT 1 strD zex) zpe
theorem zpf (p:Plan) (_:True):AC 101 [planA p] (.fn (.func 154) [] [.dp (planC p)]):=by
 refine fbod Tryz.func101 Tryz.ntmps101 (fun base=>?_)
 refine' zc fx
@[go_sem] noncomputable def zc1:Ent Tryz.prog 101:= .m1 zA zpf
theorem znH (d:Disk) (p:Plan) (hp:DiskOk d∧PlanOk p∧p.targets.length=p.texts.length):AC 154 [diskA d,.dp (planC p)] (.tup [diskA (play d p).1,.d (.int .i64 (play d p).2)]):=by
 obtain ⟨hd,hp,hl⟩:=hp
 refine fbod Tryz.func154 Tryz.ntmps154 (fun base=>?_)
 refine' walkW fx (za zeA <| za zk <| zb _)
@[go_sem] noncomputable def zbT:Ent Tryz.prog 154:= .m2 zq zm2 znH
theorem znI (d:Disk) (L:List Txt) (a:Int) (hd:DiskF d) (hn:L.length≤100) (h0:0≤a) (h1:a≤100):ACall Tryz.prog 153 0 [diskA d,.dp [.d (.sl 1 (L.map strD))],.dp [.d (.int .i64 a)]] [] (fun r _=>r= .tup [diskA (layL d (numF a L)).1,.d (.int .i64 (layL d (numF a L)).2)]):=by
 refine fbod Tryz.func153 Tryz.ntmps153 (fun base=>?_)
 refine' walkW fx (za zeA <| za zk <| zb _)
 refine zy (fun q: { q:Nat×Disk // q.1≤L.length∧DiskF q.2∧layL d (numF a L)=layL q.2 ((numF a L).drop q.1) } =>⟨[(2,true,.dp [.d (.int .i64 a)]),(3,true,.vp 0 0),(4,true,.vp 1 0),(6,true,.d (.int .i64 0)),(9,true,.d (.sl 1 (L.map strD))),(10,true,.d (.int .i64 L.length)),(11,true,.d (.int .i64 q.1.1))],[(1,.var [.d (.str []),.nils 2,.d (.int .i64 0),.d (.bool false),.nils 1]),(0,(.var [.d (.str q.1.2.data),.d (.sl 2 (q.1.2.cache.map putD)),.d (.int .i64 q.1.2.fuse),.d (.bool q.1.2.off),.d (.sl 1 (q.1.2.bad.map intD))]))],some []⟩) (fun q=>L.length - q.1.1) ⟨(0,d),Nat.zero_le _,hd,rfl⟩ le1 (fun q=>?_)
 obtain ⟨⟨i,x⟩,hi,hx,hfx⟩:=q
 simp only at hi hx hfx ⊢
 have hxo:=hx.ok
 rcases zaj strD L i hi with ⟨s,hq,hlt,hcmp,hrow,hdr,htk⟩|⟨hend,hcmp⟩
 ·simp only [strD] at hrow
  have hwi:=zE (i:=i) (by omega)
  have hw1:IntKind.i64.wrap (a+(i:Int))=a+i:=zh (by omega) (by omega)
  rw [zcP (zjG L a i s hq),layL] at hfx
  have hxw:=hx.write (a+i) s
  refine' walkW (zG hcmp hrow hw1) (za zeA <| za zk <| zb _)
  ·have hc:(zI x (a+i) s).2≠0:=by simpa using hc
   rw [if_pos hc] at hfx
   rw [hfx]
  ·have hc:¬(zI x (a+i) s).2≠0:=by simpa using hc
   have hc':(zI x (a+i) s).2=0:=by simpa using hc
   rw [if_neg hc] at hfx
   exact ⟨⟨(i+1,(zI x (a+i) s).1),by omega,hxw,hfx⟩,by simp only [AS.le,leT,leH,zi,AsgK,AV.le,AV.leL,AObj.le,inH,idsT,idsH,AV.ids,AV.idsL,AV.idsR,AObj.ids,lk,hget,go_sem,aeq,aeq.aeqF,simprocAttr,hwi,hc'],by simp;omega⟩
 ·subst hend
  have hlay:layL d (numF a L)=(x,0):=by
   rw [hfx,List.drop_of_length_le (by rw [zhP];omega)];rfl
  refine' walkW hcmp (za zeA <| za zk <| zb _)
  rw [hlay]
@[go_sem] noncomputable def zbU:Ent Tryz.prog 153:= .ofL (consL zq (consL (dpT (consL (slT 1 strD zex) nilL) (fun p=>p) (fun p=>p) (fun _=>rfl)) (consL (dpT (consL (intT .i64) nilL) (fun p=>p) (fun p=>p) (fun _=>rfl)) nilL))) (fun (d,(L,_),(a,_),_)=>(DiskF d)∧(L.length≤100)∧(0≤a)∧(a≤100)) (fun (d,(L,_),(a,_),_)=> .tup [diskA (layL d (numF a L)).1,.d (.int .i64 (layL d (numF a L)).2)]) (fun (d,(L,_),(a,_),_) hp=>⟨rfl,znI d L a hp.1 hp.2.1 hp.2.2.1 hp.2.2.2⟩)
end Go.Aw
