/-
  Parts of the proof: OnceB, CrcA, CrcB, CrcE, CrcPB (short names; the readable texts lie in the repo, under wip).
-/
import Derived.Test.YtbmlikkofegdeaaGreatPart18
import Derived.Test.YtbmlikkofegdeaaGreatPart9
import Derived.Test.YtbmlikkofegdeaaGreatPart10
import Derived.Test.YtbmlikkofegdeaaGreatPart8
import Derived.Test.YtbmlikkofegdeaaGreatPart15
import Derived.Test.YtbmlikkofegdeaaGreatPart17
set_option maxRecDepth 100000
set_option maxHeartbeats 2000000
set_option linter.unusedSimpArgs false
set_option linter.unusedVariables false
namespace Go.Aw
open Go Go.Proofs
section
variable {P : Program} {w w' : World} {E E' : Env} {h h' : AHeap}
theorem zgA:∀ (h:AHeap) (i:Nat) (a b:AObj),hset (hset h i a) i b=hset h i b
  | [],_,_,_=>rfl
  | (k,o)::r,i,a,b=>by
    by_cases hk:k=i
    · simp [hset,hk]
    · simp [hset,hk,zgA r]
theorem zaf {h:AHeap} {i j:Nat} {o:AObj} (hi:(hget h i).isSome):(hget (hset h i o) j).isSome=(hget h j).isSome:=by
 by_cases hj:j=i
 ·subst hj
  obtain ⟨x,hx⟩:=Option.isSome_iff_exists.1 hi
  rw [ze hx,hx]
  rfl
 ·rw [zx hj]
theorem poke (hs:SatH E h w) {i o b:Nat} {cs:List AV} (hi:hget h i=some (.var cs)) (hb:E.O i=some b) {x:AV} {v:Value} (hr:Rep w E h x v):
  Chg E h w E (hset h i (.var (cs.set o x))) (w.setCell ⟨b,o,none⟩ v) i∧SatH E (hset h i (.var (cs.set o x))) (w.setCell ⟨b,o,none⟩ v):=by
 have hob:=hs.heap i _ hi
 simp only [RepObj] at hob
 obtain ⟨b',c,T,fz,g1,g2,g3,g4⟩:=hob
 rw [hb] at g1;cases g1
 rw [zdc g2]
 have ch:=znh hs hi (cs':=cs.set o x) (by simp) hb (.cells (c.setIfInBounds o v) T fz)
 refine ⟨ch,ch.satH hs (fun ob hob=>?_)⟩
 rw [ze hi] at hob
 cases hob
 simp only [RepObj]
 refine ⟨b,_,T,fz,hb,zcN (Array.getElem?_eq_some_iff.1 g2).1,?_,by simpa using g4⟩
 rw [Array.toList_setIfInBounds]
 exact ch.reps (g3.set hr)
theorem zfV {i:Nat} {o:AObj} (hi:(hget h i).isSome) {b:Nat} :Own E (hset h i o) b↔Own E h b:=by
 unfold Own
 constructor
 ·rintro ⟨j,h1,h2⟩;exact ⟨j,by rwa [zaf hi] at h1,h2⟩
 ·rintro ⟨j,h1,h2⟩;exact ⟨j,by rwa [zaf hi],h2⟩
end
section
variable {h : AHeap}
theorem zrG {fl i:Nat} {cs cs2:List AV} (hi:hget h i=some (.var cs)) (c0:cs[0]?=some (.d (.int .u32 0))) (c1:cs[1]?=some (.d (.int .i32 0)))
  (d0:cs2[0]?=some (.d (.int .u32 0))) (d1:cs2[1]?=some (.d (.int .i32 1)))
  (hf:ACallAt Tryz.prog fl 201 [.vp i 0] (hset h i (.var (cs.set 1 (.d (.int .i32 1))))) (fun r h'=>r= .tup []∧h'=hset h i (.var cs2))):
  ACallAt Tryz.prog fl 200 [.vp i 0,.fn (.func 201) [.vp i 0] []] h (fun r h'=>r= .tup []∧h'=hset h i (.var ((cs2.set 0 (.d (.int .u32 1))).set 1 (.d (.int .i32 0))))):=by
 refine ⟨zb2 Tryz.func200 (by kernel_rfl) rfl,fun E w vs hs hr=>?_⟩
 simp only [Reps] at hr
 obtain ⟨v0,r0,e0,q0,v1,r1,rfl,q1,rfl⟩:=hr
 simp only [Rep,Reps] at q1
 obtain ⟨fa,fb,rfl,⟨u,r2,e2,q2,rfl⟩,e3⟩:=q1
 have q0':=q0
 simp only [Rep] at q0 q2
 obtain ⟨b,cs',hi',hb,rfl⟩:=q0
 obtain ⟨b',cs'',hi'',hb',rfl⟩:=q2
 rw [hb] at hb';cases hb'
 have hfa:fa= #[.pointer (some ⟨b,0,none⟩)]:=by cases fa;simpa using e2
 have hfb:fb= #[]:=by cases fb;simpa using e3
 subst hfa hfb
 have hvs:vs= #[.pointer (some ⟨b,0,none⟩),.func (.func 201) #[.pointer (some ⟨b,0,none⟩)] #[]]:=by cases vs;simpa using e0
 subst hvs
 have look:∀ {E:Env} {h:AHeap} {w:World} {xs:List AV},SatH E h w→hget h i=some (.var xs)→E.O i=some b→∀ (o:Nat) (k:IntKind) (n:Int),xs[o]?=some (.d (.int k n))→w.cell? ⟨b,o,none⟩=some (.int k n)∧w.frozen? ⟨b,o,none⟩=false:=by
  intro E h w xs hs hi hb o k n ho
  have hob:=hs.heap i _ hi
  simp only [RepObj] at hob
  obtain ⟨b',c,T,fz,g1,g2,g3,g4⟩:=hob
  rw [hb] at g1;cases g1
  obtain ⟨v,h1,h2⟩:=Reps.get g3 ho
  simp only [Rep,RepD] at h2
  subst h2
  have h1':c[o]?=some (.int k n):=by simpa using h1
  have hlt:=(Array.getElem?_eq_some_iff.1 h1').1
  refine ⟨by rw [zR g2];exact h1',?_⟩
  rw [zcl g2]
  have:=g4 o hlt
  simpa using this
 obtain ⟨a0,z0⟩:=look hs hi hb 0 _ _ c0
 obtain ⟨a1,z1⟩:=look hs hi hb 1 _ _ c1
 obtain ⟨ch1,hs1⟩:=poke hs hi hb (o:=1) (x:= .d (.int .i32 1)) (v:= .int .i32 1) (by simp [Rep,RepD])
 have hsome:(hget h i).isSome:=by simp [hi]
 have hp1:Rep (w.setCell ⟨b,1,none⟩ (.int .i32 1)) E (hset h i (.var (cs.set 1 (.d (.int .i32 1))))) (.vp i 0) (.pointer (some ⟨b,0,none⟩)):=ch1.rep q0'
 have hfill:=hf.2 E _ #[.pointer (some ⟨b,0,none⟩)] hs1 (by simp only [Reps];exact ⟨_,_,rfl,hp1,rfl⟩)
 let R:World→Prop:=fun w2=>∃E2,SatH E2 (hset h i (.var cs2)) w2∧EvoC fl E (hset h i (.var (cs.set 1 (.d (.int .i32 1))))) (w.setCell ⟨b,1,none⟩ (.int .i32 1)) E2 (hset h i (.var cs2)) w2∧
  (∀x y,Rep (w.setCell ⟨b,1,none⟩ (.int .i32 1)) E (hset h i (.var (cs.set 1 (.d (.int .i32 1))))) x y→Rep w2 E2 (hset h i (.var cs2)) x y)
 have hO:∀ {w2 E2},(∀x y,Rep (w.setCell ⟨b,1,none⟩ (.int .i32 1)) E (hset h i (.var (cs.set 1 (.d (.int .i32 1))))) x y→Rep w2 E2 (hset h i (.var cs2)) x y)→E2.O i=some b:=by
  intro w2 E2 hrep
  have:=hrep _ _ hp1
  simp only [Rep] at this
  obtain ⟨b2,_,_,h1,h2⟩:=this
  have:b=b2:=by
   have:=Value.pointer.inj h2
   have:=Option.some.inj this
   exact congrArg Addr.block this
  rw [h1,this]
 have hget2:hget (hset h i (.var cs2)) i=some (.var cs2):=ze hi
 refine (Go.Proofs.YtbmlikkofegdeaaGreat.do_first b 0 (.pointer (some ⟨b,0,none⟩)) w R a0 a1 z0 z1 (hfill.mono ?_) ?_).mono ?_
 ·rintro e w2 ⟨v,E2,r,h2,rfl,⟨rfl,rfl⟩,g1,g2,g3,g4⟩
  simp only [Rep,Reps] at g2
  obtain ⟨vs,rfl,g5⟩:=g2
  have:vs= #[]:=by cases vs;simpa using g5
  subst this
  exact ⟨rfl,E2,g1,g3,g4⟩
 ·rintro w2 ⟨E2,g1,g2,g3⟩
  obtain ⟨x0,y0⟩:=look g1 hget2 (hO g3) 0 _ _ d0
  obtain ⟨x1,y1⟩:=look g1 hget2 (hO g3) 1 _ _ d1
  exact ⟨x0,x1,y0,y1⟩
 ·rintro e w3 ⟨rfl,w2,⟨E2,g1,g2,g3⟩,rfl⟩
  have hb2:=hO g3
  have hsd:SatH E2 (hset h i (.var cs2)) w2.drew:=g1.refit ⟨rfl,rfl,rfl,rfl,fun _ _=>rfl,fun _ _ h _ _=>h⟩ (base:=0) rfl rfl (fun _ _ h=>h) (fun b hb=>(g1.own b hb).2) g1.mlt g1.nlt
  obtain ⟨ch2,hs2⟩:=poke hsd hget2 hb2 (o:=0) (x:= .d (.int .u32 1)) (v:= .int .u32 1) (by simp [Rep,RepD])
  have hget3:hget (hset (hset h i (.var cs2)) i (.var (cs2.set 0 (.d (.int .u32 1))))) i=some (.var (cs2.set 0 (.d (.int .u32 1)))):=ze hget2
  obtain ⟨ch3,hs3⟩:=poke hs2 hget3 hb2 (o:=1) (x:= .d (.int .i32 0)) (v:= .int .i32 0) (by simp [Rep,RepD])
  have hrep3:∀x y,Rep w2 E2 (hset h i (.var cs2)) x y→Rep _ E2 _ x y:=fun x y hxy=>
   ch3.rep (ch2.rep (Rep.step (W:=w2) (W':=w2.drew) (fun _ _ h=>h) (fun _ _ _=>rfl) x y (fun j _=>GoesOn.refl E2 _ j) hxy))
  have hs2some:(hget (hset h i (.var cs2)) i).isSome:=by simp [hget2]
  have hs3some:(hget (hset (hset h i (.var cs2)) i (.var (cs2.set 0 (.d (.int .u32 1))))) i).isSome:=by simp [hget3]
  have e4:hset (hset (hset h i (.var cs2)) i (.var (cs2.set 0 (.d (.int .u32 1))))) i (.var ((cs2.set 0 (.d (.int .u32 1))).set 1 (.d (.int .i32 0))))=hset h i (.var ((cs2.set 0 (.d (.int .u32 1))).set 1 (.d (.int .i32 0)))):=by rw [zgA,zgA]
  refine ⟨.tuple #[],E2,.tup [],_,rfl,⟨rfl,rfl⟩,e4 ▸ hs3,by simp [Rep,Reps],?_,fun x y hxy=>e4 ▸ hrep3 x y (g3 x y (ch1.rep hxy))⟩
  have hown:∀b',b'<w.heap.size→¬Own E h b'→w2.heap[b']?=w.heap[b']?:=fun b' hb' hno=>
   (g2.keep b' (by simpa using hb') (fun ho=>hno ((zfV hsome).1 ho))).trans (ch1.blk b' hb' (fun ⟨h1,h2⟩=>hno ⟨i,h1,h2⟩))
  have hsz:w.heap.size≤w2.heap.size:=Nat.le_trans ch1.size g2.size
  refine ⟨?_,?_,?_,?_,fun b' hb' hno=>?_,fun b' ho=>?_,g2.m,g2.n,fun j hj hjs=>?_⟩
  ·exact ch3.os.trans (ch2.os.trans (g2.os.trans ch1.os))
  ·exact ch3.tape.trans (ch2.tape.trans (g2.tape.trans ch1.tape))
  ·exact ch3.output.trans (ch2.output.trans (g2.output.trans ch1.output))
  ·exact Nat.le_trans hsz (Nat.le_trans ch2.size ch3.size)
  ·have hne:¬E2.O i=some b':=fun e=>by
    rw [hb2] at e;cases e
    exact hno ⟨i,hsome,hb⟩
   have h1:b'<w2.drew.heap.size:=Nat.lt_of_lt_of_le hb' hsz
   rw [ch3.blk b' (Nat.lt_of_lt_of_le h1 ch2.size) (fun h=>hne h.2),ch2.blk b' h1 (fun h=>hne h.2)]
   exact hown b' hb' hno
  ·rw [zfV hsome] at ho
   have ho2:Own E2 (hset h i (.var cs2)) b':=(zfV hsome).2 ho
   rcases g2.own b' ho2 with h1|h1
   ·exact .inl ((zfV hsome).1 h1)
   ·exact .inr (by simpa using h1)
  ·rw [zaf hsome] at hjs
   have hj2:(hget (hset h i (.var cs2)) j).isSome:=by rwa [zaf hsome]
   obtain ⟨p1,p2⟩:=g2.go j hj hj2
   refine ⟨hjs,?_⟩
   have p3:=(ch1.goesOn j).trans p2
   have p4:=p3.trans ((ch2.goesOn j).trans (ch3.goesOn j))
   exact e4 ▸ p4
end
open Go Go.Proofs
def bitT (c:Int):Int:=ibits .xor .u32 (ishr .u32 c 1) (IntKind.u32.wrap (ibits .and .u32 c 1*2197175160))
def bitsT:Nat→Int→Int
 |0,c=>c
 |n+1,c=>bitT (bitsT n c)
def tabF (j:Nat):Int:=bitsT 8 (IntKind.u32.wrap j)
def tblF (i:Nat):List D:=(List.range 256).map fun j=>D.int .u32 (if j<i then tabF j else 0)
theorem zlE (i:Nat):(tblF i).length=256:=by simp [tblF]
theorem zpX (i:Nat) (hi:i<256):(tblF i).set i (.int .u32 (tabF i))=tblF (i+1):=by
 apply List.ext_getElem?
 intro j
 rw [List.getElem?_set]
 unfold tblF
 simp only [List.length_map,List.length_range,List.getElem?_map]
 by_cases hj:i=j
 ·subst hj
  simp [hi]
 ·rw [if_neg hj]
  by_cases hj2:j<256
  ·rw [List.getElem?_range hj2]
   simp only [Option.map_some,Option.some.injEq,D.int.injEq,true_and]
   by_cases h1:j<i
   ·rw [if_pos h1,if_pos (by omega)]
   ·rw [if_neg h1,if_neg (by omega)]
  ·simp [hj2]
theorem zcs:∀ (l:List D),AV.leL (l.map AV.d) (l.map AV.d)
 | []=>by simp [AV.leL]
 |x::l=>by simp only [List.map_cons,AV.leL,AV.le,true_and];exact zcs l
theorem zmv (x y z:D):ACall Tryz.prog 201 1 [.vp 0 0] [(0,.var (.d x:: .d y:: .d z::(tblF 0).map AV.d))] (fun r h'=>r= .tup []∧h'= [(0,.var (.d x:: .d y:: .d z::(tblF 256).map AV.d))]):=by
 refine zac Tryz.func201 rfl (zb2 Tryz.func201 (by kernel_rfl) rfl) Tryz.ntmps201 (by simp) (fun base=>?_)
 refine zc noTab (zb _) (fun K hK=>?_);simp only [go_sem,Nat.le_refl,List.append_toArray,List.range_zero,List.append_eq,Int.toNat_natCast,aeq,aeq.aeqF,simprocAttr]
 refine hK _ ?_;clear hK K
 refine zam ?_
 refine zC (fun i: {i:Nat // i≤256} =>⟨[(0,true,.vp 0 0),(4,true,.d (.int .i64 i.1))],[(0,.var (.d x:: .d y:: .d z::(tblF i.1).map AV.d))],some []⟩) (fun i=>256 - i.1) ⟨0,by omega⟩ (by simp only [AS.le,leT,leH,zh,AsgK,AV.le,AV.leL,AObj.le,inH,idsT,idsH,AV.ids,AV.idsL,AV.idsR,AObj.ids,lk,hget,go_sem,Nat.le_refl,List.append_toArray,List.range_zero,List.append_eq,Int.toNat_natCast,aeq,aeq.aeqF,simprocAttr]<;>simp [zcs,zbi,inH]) (fun i=>?_)
 obtain ⟨i,hi⟩:=i
 refine zc noTab (zb _) (fun K hK=>?_);simp only [go_sem,Nat.le_refl,List.append_toArray,List.range_zero,List.append_eq,Int.toNat_natCast,aeq,aeq.aeqF,simprocAttr]
 refine hK _ ?_;clear hK K
 refine zaq (fun K hK=>?_)
 refine zbe rfl (fun hc=>?_) (fun hc=>?_)
 ·refine zc8 ?_;simp only [go_sem,Nat.le_refl,List.append_toArray,List.range_zero,List.append_eq,Int.toNat_natCast,aeq,aeq.aeqF,simprocAttr];refine hK _ ?_;clear hK K
  have hil:i<256:=by simp at hc;omega
  refine zaq (fun K hK=>?_)
  refine zam ?_
  refine zc noTab (zb _) (fun K hK=>?_);simp only [go_sem,Nat.le_refl,List.append_toArray,List.range_zero,List.append_eq,Int.toNat_natCast,aeq,aeq.aeqF,simprocAttr]
  refine hK _ ?_;clear hK K
  refine zc noTab (zb _) (fun K hK=>?_);simp only [go_sem,Nat.le_refl,List.append_toArray,List.range_zero,List.append_eq,Int.toNat_natCast,aeq,aeq.aeqF,simprocAttr]
  refine hK _ ?_;clear hK K
  refine zaq (fun K2 hK2=>?_)
  refine zc noTab (zb _) (fun K hK=>?_);simp only [go_sem,Nat.le_refl,List.append_toArray,List.range_zero,List.append_eq,Int.toNat_natCast,aeq,aeq.aeqF,simprocAttr]
  refine hK _ ?_;clear hK K
  refine zam ?_
  refine zC (fun k: {k:Nat // k≤8} =>⟨[(0,true,.vp 0 0),(4,true,.d (.int .i64 i)),(2,true,.d (.int .i64 i)),(3,true,.d (.int .u32 (bitsT k.1 (IntKind.u32.wrap i)))),(9,true,.d (.int .i64 k.1))],[(0,.var (.d x:: .d y:: .d z::(tblF i).map AV.d))],some []⟩) (fun k=>8 - k.1) ⟨0,by omega⟩ (by simp only [AS.le,leT,leH,zh,AsgK,AV.le,AV.leL,AObj.le,inH,idsT,idsH,AV.ids,AV.idsL,AV.idsR,AObj.ids,lk,hget,go_sem,Nat.le_refl,List.append_toArray,List.range_zero,List.append_eq,Int.toNat_natCast,aeq,aeq.aeqF,simprocAttr]<;>simp [zcs,zbi,inH,bitsT]) (fun k=>?_)
  obtain ⟨k,hk⟩:=k
  refine zc noTab (zb _) (fun K hK=>?_);simp only [go_sem,Nat.le_refl,List.append_toArray,List.range_zero,List.append_eq,Int.toNat_natCast,aeq,aeq.aeqF,simprocAttr]
  refine hK _ ?_;clear hK K
  refine zaq (fun K3 hK3=>?_)
  refine zbe rfl (fun hc=>?_) (fun hc=>?_)
  ·refine zc8 ?_;simp only [go_sem,Nat.le_refl,List.append_toArray,List.range_zero,List.append_eq,Int.toNat_natCast,aeq,aeq.aeqF,simprocAttr];refine hK3 _ ?_;clear hK3 K3
   have hkl:k<8:=by simp at hc;omega
   refine zaq (fun K hK=>?_)
   refine zam ?_
   refine zW noTab (zb _) ?_;simp only [go_sem,Nat.le_refl,List.append_toArray,List.range_zero,List.append_eq,Int.toNat_natCast,aeq,aeq.aeqF,simprocAttr]
   refine hK _ ?_;clear hK K
   refine zW noTab (zb _) ?_;simp only [go_sem,Nat.le_refl,List.append_toArray,List.range_zero,List.append_eq,Int.toNat_natCast,aeq,aeq.aeqF,simprocAttr]
   have hw:IntKind.i64.wrap ((k:Int)+1)=((k+1:Nat):Int):=by rw [IntKind.wrap_i64];omega
   refine ⟨⟨k+1,by omega⟩,?_,by simp;omega⟩
   rw [hw]
   simp only [AS.le,leT,leH,zh,AsgK,AV.le,AV.leL,AObj.le,inH,idsT,idsH,AV.ids,AV.idsL,AV.idsR,AObj.ids,lk,hget,go_sem,Nat.le_refl,List.append_toArray,List.range_zero,List.append_eq,Int.toNat_natCast,aeq,aeq.aeqF,simprocAttr]
   simp [zcs,zbi,inH,bitsT,bitT]
  ·refine zda ?_;simp only [go_sem,Nat.le_refl,List.append_toArray,List.range_zero,List.append_eq,Int.toNat_natCast,aeq,aeq.aeqF,simprocAttr];refine hK2 _ ?_
   have hk8:k=8:=by simp at hc;omega
   subst hk8
   refine zW noTab (zb _) ?_;simp only [go_sem,Nat.le_refl,List.append_toArray,List.range_zero,List.append_eq,Int.toNat_natCast,aeq,aeq.aeqF,simprocAttr]
   refine ⟨⟨by omega,by omega⟩,by simp [zlE];omega,?_⟩
   have hset:(AV.d x::AV.d y::AV.d z::(tblF i).map AV.d).set (3+i*1) (.d (.int .u32 (bitsT 8 (IntKind.u32.wrap i))))=AV.d x::AV.d y::AV.d z::(tblF (i+1)).map AV.d:=by
    rw [show 3+i*1=i+1+1+1 by omega,List.set_cons_succ,List.set_cons_succ,List.set_cons_succ,← List.map_set]
    have:=zpX i hil
    unfold tabF at this
    rw [this]
   rw [hset]
   refine hK _ ?_
   refine zW noTab (zb _) ?_;simp only [go_sem,Nat.le_refl,List.append_toArray,List.range_zero,List.append_eq,Int.toNat_natCast,aeq,aeq.aeqF,simprocAttr]
   have hw:IntKind.i64.wrap ((i:Int)+1)=((i+1:Nat):Int):=by rw [IntKind.wrap_i64];omega
   refine ⟨⟨i+1,by omega⟩,?_,by simp;omega⟩
   rw [hw]
   simp only [AS.le,leT,leH,zh,AsgK,AV.le,AV.leL,AObj.le,inH,idsT,idsH,AV.ids,AV.idsL,AV.idsR,AObj.ids,lk,hget,go_sem,Nat.le_refl,List.append_toArray,List.range_zero,List.append_eq,Int.toNat_natCast,aeq,aeq.aeqF,simprocAttr]
   simp [zcs,zbi,inH]
 ·refine zda ?_
  simp only [go_sem,Nat.le_refl,List.append_toArray,List.range_zero,List.append_eq,Int.toNat_natCast,aeq,aeq.aeqF,simprocAttr,Tryz.results201]
  have:i=256:=by simp at hc;omega
  subst this
  rfl
open Go Go.Proofs
def byteS (c:Int) (b:UInt8):Int:=ibits .xor .u32 (tabF (ibits .xor .u8 (IntKind.u8.wrap c) b.toNat).toNat) (ishr .u32 c 8)
def sumS (c:Int) (l:List UInt8):Int:=l.foldl byteS c
def notS (c:Int):Int:=ibits .xor .u32 (if IntKind.u32.signed then -1 else IntKind.u32.max) c
def onceC (d m z:D) (i:Nat):List AV:= .d d:: .d m:: .d z::(tblF i).map AV.d
theorem do_ok:ACallAt Tryz.prog 1 200 [.vp 0 0,.fn (.func 201) [.vp 0 0] []] [(0,.var (onceC (.int .u32 0) (.int .i32 0) (.int .u32 0) 0))] (fun r h'=>r= .tup []∧h'= [(0,.var (onceC (.int .u32 1) (.int .i32 0) (.int .u32 0) 256))]):=by
 refine zrG (cs:=onceC (.int .u32 0) (.int .i32 0) (.int .u32 0) 0) (cs2:=onceC (.int .u32 0) (.int .i32 1) (.int .u32 0) 256) rfl rfl rfl rfl rfl ?_
 refine (zmv _ _ _).whole (fun i hi=>?_) (Nat.le_refl _) ?_
 ·by_cases h:i=0
  ·omega
  ·simp [hget,Ne.symm h] at hi
 ·rintro r h' ⟨rfl,rfl⟩ i hi
  by_cases h:i=0
  ·subst h;rfl
  ·simp [hget,Ne.symm h] at hi
theorem zrH (n:Int) (h0:0≤n) (h1:n<256) (d m z:D):(onceC d m z 256).getD (3+n.toNat*1) .any= .d (.int .u32 (tabF n.toNat)):=by
 have:n.toNat<256:=by omega
 unfold onceC
 rw [show 3+n.toNat*1=n.toNat+1+1+1 by omega]
 simp only [List.getD_cons_succ]
 rw [List.getD_eq_getElem?_getD,List.getElem?_map]
 unfold tblF
 rw [List.getElem?_map,List.getElem?_range this]
 simp [this]
theorem zrI (x y:Int):0≤ibits .xor .u8 x y∧ibits .xor .u8 x y<256:=by
 unfold ibits
 rw [IntKind.wrap_u8]
 omega
abbrev Mst (c:Int) (l:List UInt8):= { i:Nat // i≤l.length }
theorem zrJ (c:Int) (l:List UInt8) (hl:l.length≤9223372036854775807):ACall Tryz.prog 187 1 [.vp 0 0,.d (.int .u32 c),.d (.str l)] [(0,.var (onceC (.int .u32 0) (.int .i32 0) (.int .u32 0) 0))] (fun r h'=>r= .d (.int .u32 (sumS c l))∧(hget h' 0).isSome):=by
 refine zac Tryz.func187 rfl (zb2 Tryz.func187 (by kernel_rfl) rfl) Tryz.ntmps187 (by simp) (fun base=>?_)
 refine zc noTab (zb _) (fun K hK=>?_);simp only [go_sem,Nat.le_refl,List.append_toArray,List.range_zero,List.append_eq,Int.toNat_natCast,aeq,aeq.aeqF,simprocAttr]
 refine hK _ ?_;clear hK K
 refine zc noTab (zb _) (fun K hK=>?_);simp only [go_sem,Nat.le_refl,List.append_toArray,List.range_zero,List.append_eq,Int.toNat_natCast,aeq,aeq.aeqF,simprocAttr]
 refine do_ok.mono ?_
 rintro r h' ⟨rfl,rfl⟩
 refine hK _ ?_;clear hK K
 refine zaq (fun K2 hK2=>?_)
 refine zc noTab (zb _) (fun K hK=>?_);simp only [go_sem,Nat.le_refl,List.append_toArray,List.range_zero,List.append_eq,Int.toNat_natCast,aeq,aeq.aeqF,simprocAttr]
 refine ⟨by simp [zg],hK _ ?_⟩
 clear hK
 refine zam ?_
 refine zC (fun i:Mst c l=>⟨[(0,true,.vp 0 0),(1,true,.d (.int .u32 (sumS c (l.take i.1)))),(16,true,.osl 1 1 l.length 0 l.length),(17,true,.d (.int .i64 l.length)),(18,true,.d (.int .i64 i.1))],[(1,.arr 1 (zg l)),(0,.var (onceC (.int .u32 1) (.int .i32 0) (.int .u32 0) 256))],some []⟩) (fun i=>l.length - i.1) ⟨0,Nat.zero_le _⟩ (by simp only [AS.le,leT,leH,zh,AsgK,AV.le,AV.leL,AObj.le,inH,idsT,idsH,AV.ids,AV.idsL,AV.idsR,AObj.ids,lk,hget,go_sem,Nat.le_refl,List.append_toArray,List.range_zero,List.append_eq,Int.toNat_natCast,aeq,aeq.aeqF,simprocAttr]<;>simp [onceC,zcs,zbi,inH,sumS,AV.leL,AV.le,AV.idsL,AV.ids]) (fun i=>?_)
 obtain ⟨i,hi⟩:=i
 refine zc noTab (zb _) (fun K hK=>?_);simp only [go_sem,Nat.le_refl,List.append_toArray,List.range_zero,List.append_eq,Int.toNat_natCast,aeq,aeq.aeqF,simprocAttr]
 refine hK _ ?_;clear hK K
 refine zaq (fun K3 hK3=>?_)
 refine zbe rfl (fun hc=>?_) (fun hc=>?_)
 ·refine zc8 ?_;simp only [go_sem,Nat.le_refl,List.append_toArray,List.range_zero,List.append_eq,Int.toNat_natCast,aeq,aeq.aeqF,simprocAttr];refine hK3 _ ?_;clear hK3 K3
  have hil:i<l.length:=by simp at hc;omega
  obtain ⟨b,hb⟩:∃b,l[i]?=some b:=⟨l[i],by simp [hil]⟩
  have hrow:(zg l).getD i []= [.int .u8 b.toNat]:=by simp [zg,List.getD_eq_getElem?_getD,hb,zdE]
  have hrl:(zg l).length=l.length:=by simp [zg]
  refine zaq (fun K4 hK4=>?_)
  refine zam ?_
  refine zc noTab (zb _) (fun K hK=>?_);simp only [go_sem,Nat.le_refl,List.append_toArray,List.range_zero,List.append_eq,Int.toNat_natCast,aeq,aeq.aeqF,simprocAttr,hrow,hrl,Nat.zero_add]
  refine ⟨⟨by omega,by omega⟩,hil,hK _ ?_⟩
  clear hK
  obtain ⟨hb0,hb1⟩:=zrI (IntKind.u8.wrap (sumS c (l.take i))) b.toNat
  have htb:=zrH (ibits .xor .u8 (IntKind.u8.wrap (sumS c (l.take i))) b.toNat) hb0 hb1 (.int .u32 1) (.int .i32 0) (.int .u32 0)
  have hoc:(onceC (.int .u32 1) (.int .i32 0) (.int .u32 0) 256).length=259:=by simp [onceC,zlE]
  refine zW noTab (zb _) ?_;simp only [go_sem,Nat.le_refl,List.append_toArray,List.range_zero,List.append_eq,Int.toNat_natCast,aeq,aeq.aeqF,simprocAttr,htb,hoc]
  refine ⟨⟨hb0,hb1⟩,by omega,hK4 _ ?_⟩
  clear hK4
  refine zW noTab (zb _) ?_;simp only [go_sem,Nat.le_refl,List.append_toArray,List.range_zero,List.append_eq,Int.toNat_natCast,aeq,aeq.aeqF,simprocAttr]
  have hw:IntKind.i64.wrap ((i:Int)+1)=((i+1:Nat):Int):=by rw [IntKind.wrap_i64];omega
  have hs:ibits .xor .u32 (tabF (ibits .xor .u8 (IntKind.u8.wrap (sumS c (l.take i))) b.toNat).toNat) (ishr .u32 (sumS c (l.take i)) 8)=sumS c (l.take (i+1)):=by
   rw [List.take_add_one,hb]
   simp [sumS,byteS]
  refine ⟨⟨i+1,by omega⟩,?_,by simp;omega⟩
  rw [hw,hs]
  simp only [AS.le,leT,leH,zh,AsgK,AV.le,AV.leL,AObj.le,inH,idsT,idsH,AV.ids,AV.idsL,AV.idsR,AObj.ids,lk,hget,go_sem,Nat.le_refl,List.append_toArray,List.range_zero,List.append_eq,Int.toNat_natCast,aeq,aeq.aeqF,simprocAttr]
  simp [onceC,zcs,zbi,inH,AV.leL,AV.le,AV.idsL,AV.ids]
 ·refine zda ?_;simp only [go_sem,Nat.le_refl,List.append_toArray,List.range_zero,List.append_eq,Int.toNat_natCast,aeq,aeq.aeqF,simprocAttr];refine hK2 _ ?_
  have hil:i=l.length:=by simp at hc;omega
  subst hil
  refine zc noTab (zb _) (fun K hK=>?_);simp only [go_sem,Nat.le_refl,List.append_toArray,List.range_zero,List.append_eq,Int.toNat_natCast,aeq,aeq.aeqF,simprocAttr]
  refine hK _ ?_;clear hK K
  refine zeg ?_;simp only [go_sem,Nat.le_refl,List.append_toArray,List.range_zero,List.append_eq,Int.toNat_natCast,aeq,aeq.aeqF,simprocAttr,Tryz.results187]
theorem zhI (c:Int) (l:List UInt8) (hl:l.length≤9223372036854775807):ACall Tryz.prog 147 0 [.d (.int .u32 c),.d (.str l)] [] (fun r _=>r= .d (.int .u32 (notS (sumS (notS c) l)))):=by
 refine zac Tryz.func147 rfl (zb2 Tryz.func147 (by kernel_rfl) rfl) Tryz.ntmps147 (by simp) (fun base=>?_)
 refine zc noTab (zb _) (fun K hK=>?_);simp only [go_sem,Nat.le_refl,List.append_toArray,List.range_zero,List.append_eq,Int.toNat_natCast,aeq,aeq.aeqF,simprocAttr]
 refine hK _ ?_;clear hK K
 refine zc noTab (zb _) (fun K hK=>?_);simp only [go_sem,Nat.le_refl,List.append_toArray,List.range_zero,List.append_eq,Int.toNat_natCast,aeq,aeq.aeqF,simprocAttr]
 refine hK _ ?_;clear hK K
 refine zc noTab (zb _) (fun K hK=>?_);simp only [go_sem,Nat.le_refl,List.append_toArray,List.range_zero,List.append_eq,Int.toNat_natCast,aeq,aeq.aeqF,simprocAttr]
 refine ACallAt.mono (h:= [(0,.var (onceC (.int .u32 0) (.int .i32 0) (.int .u32 0) 0))]) (K:=fun r h'=>r= .d (.int .u32 (sumS (notS c) l))∧(hget h' 0).isSome) ((zrJ (notS c) l hl).whole (fun i hi=>?_) (Nat.zero_le _) ?_) ?_
 ·by_cases h:i=0
  ·omega
  ·simp [hget,Ne.symm h] at hi
 ·rintro r h' ⟨rfl,hk⟩ i hi
  by_cases h:i=0
  ·subst h;exact hk
  ·simp [hget,Ne.symm h] at hi
 rintro r h' ⟨rfl,hk⟩
 simp only [go_sem,Nat.le_refl,List.append_toArray,List.range_zero,List.append_eq,Int.toNat_natCast,aeq,aeq.aeqF,simprocAttr]
 refine hK _ ?_;clear hK K
 refine zeg ?_;simp only [go_sem,Nat.le_refl,List.append_toArray,List.range_zero,List.append_eq,Int.toNat_natCast,aeq,aeq.aeqF,simprocAttr,Tryz.results147]
 rfl
def sumOf (c:Int) (l:List UInt8):Int:=notS (sumS (notS c) l)
def tabM:Tab:=fun f args=>
 if f=147 then (match args with
  | [.d (.int .u32 c),.d (.str l)]=>some (l.length≤9223372036854775807,.d (.int .u32 (sumOf c l)))
  |_=>none)
 else none
@[go_sem] theorem tabM30 (c:Int) (l:List UInt8):tabM 147 [.d (.int .u32 c),.d (.str l)]=some (l.length≤9223372036854775807,.d (.int .u32 (sumOf c l))):=rfl
theorem zrK:TabOk Tryz.prog tabM:=⟨fun f args pre r h hp=>by
 unfold tabM at h
 split at h
 ·rename_i hf;subst hf
  split at h
  ·cases h;exact ⟨rfl,zhI _ _ hp⟩
  ·cases h
 ·cases h⟩
theorem zpZ (l:List UInt8) (hl:l.length≤9223372036854775807):ACall Tryz.prog 130 0 [.d (.str l)] [] (fun r _=>r= .d (.int .u32 (sumOf 0 l))):=by
 refine zac Tryz.func130 rfl (zb2 Tryz.func130 (by kernel_rfl) rfl) Tryz.ntmps130 (by simp) (fun base=>?_)
 refine zc noTab (zb _) (fun K hK=>?_);simp only [go_sem,Nat.le_refl,List.append_toArray,List.range_zero,List.append_eq,Int.toNat_natCast,aeq,aeq.aeqF,simprocAttr]
 refine hK _ ?_;clear hK K
 refine zc tabM zrK (fun K hK=>?_);simp only [go_sem,Nat.le_refl,List.append_toArray,List.range_zero,List.append_eq,Int.toNat_natCast,aeq,aeq.aeqF,simprocAttr]
 refine ⟨hl,hK _ ?_⟩
 clear hK K
 refine zeg ?_;simp only [go_sem,Nat.le_refl,List.append_toArray,List.range_zero,List.append_eq,Int.toNat_natCast,aeq,aeq.aeqF,simprocAttr,Tryz.results130]
def zbv (c:Int) (j:Nat):Int:=IntKind.u8.wrap (ishr .u32 c (IntKind.i64.wrap (24 - IntKind.i64.wrap (8*(j:Int)))))
def bcell (c:Int) (i j:Nat):AV:= .d (.int .u8 (if j<i then zbv c j else 0))
def zgB (c:Int) (i:Nat):List AV:= [bcell c i 0,bcell c i 1,bcell c i 2,bcell c i 3]
def zeI (c:Int):List UInt8:= [UInt8.ofNat (zbv c 0).toNat,UInt8.ofNat (zbv c 1).toNat,UInt8.ofNat (zbv c 2).toNat,UInt8.ofNat (zbv c 3).toNat]
theorem zkt (c:Int):ACall Tryz.prog 129 0 [.d (.int .u32 c)] [] (fun r _=>r= .d (.str (zeI c))):=by
 refine zac Tryz.func129 rfl (zb2 Tryz.func129 (by kernel_rfl) rfl) Tryz.ntmps129 (by simp) (fun base=>?_)
 refine zc noTab (zb _) (fun K hK=>?_);simp only [go_sem,Nat.le_refl,List.append_toArray,List.range_zero,List.append_eq,Int.toNat_natCast,aeq,aeq.aeqF,simprocAttr]
 refine hK _ ?_;clear hK K
 refine zc noTab (zb _) (fun K hK=>?_);simp only [go_sem,Nat.le_refl,List.append_toArray,List.range_zero,List.append_eq,Int.toNat_natCast,aeq,aeq.aeqF,simprocAttr]
 refine hK _ ?_;clear hK K
 refine zaq (fun K2 hK2=>?_)
 refine zc noTab (zb _) (fun K hK=>?_);simp only [go_sem,Nat.le_refl,List.append_toArray,List.range_zero,List.append_eq,Int.toNat_natCast,aeq,aeq.aeqF,simprocAttr]
 refine hK _ ?_;clear hK K
 refine zam ?_
 refine zC (fun i: {i:Nat // i≤4} =>⟨[(0,true,.d (.int .u32 c)),(3,true,.vp 0 0),(5,true,.d (.int .i64 i.1))],[(0,.var (zgB c i.1))],some []⟩) (fun i=>4 - i.1) ⟨0,by omega⟩ (by simp only [AS.le,leT,leH,zh,AsgK,AV.le,AV.leL,AObj.le,inH,idsT,idsH,AV.ids,AV.idsL,AV.idsR,AObj.ids,lk,hget,go_sem,Nat.le_refl,List.append_toArray,List.range_zero,List.append_eq,Int.toNat_natCast,aeq,aeq.aeqF,simprocAttr]<;>simp [zgB,bcell,AV.leL,AV.le,AV.idsL,AV.ids,inH]) (fun i=>?_)
 obtain ⟨i,hi⟩:=i
 refine zc noTab (zb _) (fun K hK=>?_);simp only [go_sem,Nat.le_refl,List.append_toArray,List.range_zero,List.append_eq,Int.toNat_natCast,aeq,aeq.aeqF,simprocAttr]
 refine hK _ ?_;clear hK K
 refine zaq (fun K3 hK3=>?_)
 refine zbe rfl (fun hc=>?_) (fun hc=>?_)
 ·refine zc8 ?_;simp only [go_sem,Nat.le_refl,List.append_toArray,List.range_zero,List.append_eq,Int.toNat_natCast,aeq,aeq.aeqF,simprocAttr];refine hK3 _ ?_;clear hK3 K3
  have hil:i<4:=by simp at hc;omega
  refine zaq (fun K4 hK4=>?_)
  refine zam ?_
  refine zc noTab (zb _) (fun K hK=>?_);simp only [go_sem,Nat.le_refl,List.append_toArray,List.range_zero,List.append_eq,Int.toNat_natCast,aeq,aeq.aeqF,simprocAttr]
  refine hK _ ?_;clear hK K
  refine zW noTab (zb _) ?_;simp only [go_sem,Nat.le_refl,List.append_toArray,List.range_zero,List.append_eq,Int.toNat_natCast,aeq,aeq.aeqF,simprocAttr]
  have hset:(zgB c i).set (i*1) (.d (.int .u8 (zbv c i)))=zgB c (i+1):=by
   have:i=0∨i=1∨i=2∨i=3:=by omega
   rcases this with rfl|rfl|rfl|rfl<;>rfl
  unfold zbv at hset
  rw [hset]
  refine ⟨by simp only [IntKind.wrap_i64];omega,⟨by omega,by omega⟩,by simp [zgB];omega,hK4 _ ?_⟩
  refine zW noTab (zb _) ?_;simp only [go_sem,Nat.le_refl,List.append_toArray,List.range_zero,List.append_eq,Int.toNat_natCast,aeq,aeq.aeqF,simprocAttr]
  have hw:IntKind.i64.wrap ((i:Int)+1)=((i+1:Nat):Int):=by rw [IntKind.wrap_i64];omega
  refine ⟨⟨i+1,by omega⟩,?_,by simp;omega⟩
  rw [hw]
  simp only [AS.le,leT,leH,zh,AsgK,AV.le,AV.leL,AObj.le,inH,idsT,idsH,AV.ids,AV.idsL,AV.idsR,AObj.ids,lk,hget,go_sem,Nat.le_refl,List.append_toArray,List.range_zero,List.append_eq,Int.toNat_natCast,aeq,aeq.aeqF,simprocAttr]
  simp [zgB,bcell,AV.leL,AV.le,AV.idsL,AV.ids,inH]
 ·refine zda ?_;simp only [go_sem,Nat.le_refl,List.append_toArray,List.range_zero,List.append_eq,Int.toNat_natCast,aeq,aeq.aeqF,simprocAttr];refine hK2 _ ?_
  have hil:i=4:=by simp at hc;omega
  subst hil
  have hb4:zgB c 4= [.d (.int .u8 (zbv c 0)),.d (.int .u8 (zbv c 1)),.d (.int .u8 (zbv c 2)),.d (.int .u8 (zbv c 3))]:=rfl
  rw [hb4]
  refine zc noTab (zb _) (fun K hK=>?_);simp only [go_sem,Nat.le_refl,List.append_toArray,List.range_zero,List.append_eq,Int.toNat_natCast,aeq,aeq.aeqF,simprocAttr]
  refine ⟨rfl,hK _ ?_⟩
  clear hK
  refine zeg ?_;simp only [go_sem,Nat.le_refl,List.append_toArray,List.range_zero,List.append_eq,Int.toNat_natCast,aeq,aeq.aeqF,simprocAttr,Tryz.results129]
  rfl
open Go Go.Proofs
@[go_sem] noncomputable def zdN:Ent Tryz.prog 147:= .ofL (consL (intT .u32) (consL strT nilL)) (fun (c,l,_)=>l.length≤9223372036854775807) (fun (c,l,_)=> .d (.int .u32 (notS (sumS (notS c) l)))) (fun (c,l,_) hp=>⟨rfl,zhI c l hp⟩)
@[go_sem] noncomputable def zcd:Ent Tryz.prog 130:= .ofL (consL strT nilL) (fun (l,_)=>l.length≤9223372036854775807) (fun (l,_)=> .d (.int .u32 (sumOf 0 l))) (fun (l,_) hp=>⟨rfl,zpZ l hp⟩)
@[go_sem] noncomputable def za2:Ent Tryz.prog 129:= .ofL (consL (intT .u32) nilL) (fun (c,_)=>True) (fun (c,_)=> .d (.str (zeI c))) (fun (c,_) hp=>⟨rfl,zkt c⟩)
open Go Go.Proofs
theorem zp1 (n k:Nat) (hk:k≤32):ishr .u32 (n:Int) (k:Int)=((n / 2 ^ k:Nat):Int):=by
 unfold ishr
 rw [show min ((k:Int).toNat) IntKind.u32.bits=k by show min ((k:Int).toNat) 32=k;omega]
 rw [Int.fdiv_eq_ediv_of_nonneg _ (Int.le_of_lt (Int.pow_pos (by decide)))]
 norm_cast
abbrev B32:=BitVec 32
def polyB:B32:=2197175160#32
def bT (x:B32):B32:=(x>>>1) ^^^ (if x.getLsbD 0 then polyB else 0#32)
def bN:Nat→B32→B32
 |0,x=>x
 |n+1,x=>bT (bN n x)
def u8B (b:UInt8):B32:=BitVec.ofNat 32 b.toNat
def stepB (c:B32) (b:UInt8):B32:=bN 8 (c ^^^ u8B b)
def sumB (c:B32) (l:List UInt8):B32:=l.foldl stepB c
theorem xor4 (a b c d:B32):(a ^^^ b) ^^^ (c ^^^ d)=(a ^^^ c) ^^^ (b ^^^ d):=by ac_rfl
theorem zsM (x y:B32):bT (x ^^^ y)=bT x ^^^ bT y:=by
 unfold bT
 rw [BitVec.ushiftRight_xor_distrib,xor4 (x>>>1)]
 congr 1
 rw [BitVec.getLsbD_xor]
 cases x.getLsbD 0<;>cases y.getLsbD 0<;>simp
theorem zhK (n:Nat) (x y:B32):bN n (x ^^^ y)=bN n x ^^^ bN n y:=by
 induction n with
 |zero=>rfl
 |succ n ih=>simp only [bN,ih,zsM]
theorem zsN (x:B32):(bT x).getLsbD 31=x.getLsbD 0:=by
 unfold bT
 rw [BitVec.getLsbD_xor]
 have h1:(x>>>1).getLsbD 31=false:=by simp
 rw [h1]
 cases x.getLsbD 0<;>simp<;>decide
theorem zrL (x:B32) (h:bT x=0#32):x=0#32:=by
 have h0:x.getLsbD 0=false:=by rw [← zsN,h];simp
 unfold bT at h
 rw [h0] at h
 simp only [Bool.false_eq_true,if_false,BitVec.xor_zero] at h
 apply BitVec.eq_of_getLsbD_eq
 intro i hi
 cases i with
 |zero=>simpa using h0
 |succ i=>
  have:=congrArg (fun y:B32=>y.getLsbD i) h
  simpa [Nat.add_comm] using this
theorem zn9 (n:Nat) (x:B32) (h:bN n x=0#32):x=0#32:=by
 induction n with
 |zero=>exact h
 |succ n ih=>exact ih (zrL _ h)
theorem zjv (m n:Nat) (x:B32):bN (m+n) x=bN m (bN n x):=by
 induction m with
 |zero=>rw [Nat.zero_add];rfl
 |succ m ih=>rw [Nat.succ_add];simp only [bN,ih]
theorem zlF (n:Nat):∀ (x:B32),(∀i,i<n→x.getLsbD i=false)→bN n x=x>>>n:=by
 induction n with
 |zero=>intro x _;simp [bN]
 |succ n ih=>
  intro x h
  simp only [bN]
  rw [ih x (fun i hi=>h i (by omega))]
  unfold bT
  have:(x>>>n).getLsbD 0=false:=by simpa using h n (by omega)
  rw [this]
  simp only [Bool.false_eq_true,if_false,BitVec.xor_zero]
  rw [← BitVec.shiftRight_add]
def low8 (x:B32):B32:=x&&& 255#32
def high8 (x:B32):B32:=x&&& 4294967040#32
theorem zp2 (x:B32):x=low8 x ^^^ high8 x:=by
 have e:(4294967040#32)= ~~~(255#32):=by decide
 unfold low8 high8
 rw [e]
 apply BitVec.eq_of_getLsbD_eq
 intro i hi
 simp only [BitVec.getLsbD_xor,BitVec.getLsbD_and,BitVec.getLsbD_not,hi,decide_true,Bool.true_and]
 cases x.getLsbD i<;>cases (255#32).getLsbD i<;>rfl
theorem zoa (x:B32) (i:Nat) (hi:i<8):(high8 x).getLsbD i=false:=by
 unfold high8
 rw [BitVec.getLsbD_and]
 have:∀i,i<8→(4294967040#32).getLsbD i=false:=by decide
 rw [this i hi,Bool.and_false]
theorem zku (x:B32):high8 x>>>8=x>>>8:=by
 unfold high8
 apply BitVec.eq_of_getLsbD_eq
 intro i hi
 simp only [BitVec.getLsbD_ushiftRight,BitVec.getLsbD_and]
 by_cases h:8+i<32
 ·have:∀i,i<24→(4294967040#32).getLsbD (8+i)=true:=by decide
  rw [this i (by omega),Bool.and_true]
 ·rw [BitVec.getLsbD_of_ge x _ (by omega),Bool.false_and]
theorem zob (x:B32):bN 8 x=bN 8 (low8 x) ^^^ (x>>>8):=by
 conv=>lhs;rw [zp2 x]
 rw [zhK,zlF 8 (high8 x) (zoa x),zku]
theorem zp3 (b:UInt8):u8B b>>>8=0#32:=by
 have:=b.toNat_lt
 apply BitVec.eq_of_toNat_eq
 simp [u8B,Nat.shiftRight_eq_div_pow]
 omega
theorem zrM (b:UInt8):low8 (u8B b)=u8B b:=by
 have:=b.toNat_lt
 apply BitVec.eq_of_toNat_eq
 simp only [low8,u8B,BitVec.toNat_and,BitVec.toNat_ofNat]
 rw [show 255 % 2 ^ 32=2 ^ 8 - 1 by decide,Nat.and_two_pow_sub_one_eq_mod]
 omega
theorem zoc (c:B32) (b:UInt8):stepB c b=bN 8 (low8 c ^^^ u8B b) ^^^ (c>>>8):=by
 unfold stepB
 rw [zob]
 have h1:low8 (c ^^^ u8B b)=low8 c ^^^ u8B b:=by
  conv=>rhs;rw [← zrM b]
  unfold low8
  apply BitVec.eq_of_getLsbD_eq
  intro i hi
  simp only [BitVec.getLsbD_xor,BitVec.getLsbD_and]
  cases c.getLsbD i<;>cases (u8B b).getLsbD i<;>cases (255#32).getLsbD i<;>rfl
 rw [h1,BitVec.ushiftRight_xor_distrib,zp3,BitVec.xor_zero]
theorem zrN (a b:UInt8):u8B (a ^^^ b)=u8B a ^^^ u8B b:=by
 apply BitVec.eq_of_toNat_eq
 have:=a.toNat_lt
 have:=b.toNat_lt
 have h:=Nat.xor_lt_two_pow (n:=32) (x:=a.toNat) (y:=b.toNat) (by omega) (by omega)
 simp only [u8B,BitVec.toNat_xor,BitVec.toNat_ofNat,UInt8.toNat_xor]
 rw [Nat.mod_eq_of_lt (by omega),Nat.mod_eq_of_lt (by omega),Nat.mod_eq_of_lt (by omega)]
def xorL (a b:List UInt8):List UInt8:=List.zipWith (· ^^^ ·) a b
theorem zod (c d:B32) (a b:UInt8):stepB (c ^^^ d) (a ^^^ b)=stepB c a ^^^ stepB d b:=by
 unfold stepB
 rw [zrN,xor4,zhK]
theorem zit:∀ (a b:List UInt8) (c d:B32),a.length=b.length→sumB (c ^^^ d) (xorL a b)=sumB c a ^^^ sumB d b
 | [],[],c,d,_=>rfl
 |x::a,y::b,c,d,h=>by
  simp only [xorL,List.zipWith_cons_cons,sumB,List.foldl_cons]
  rw [zod]
  exact zit a b _ _ (by simpa using h)
 | [],_::_,_,_,h=>by simp at h
 |_::_,[],_,_,h=>by simp at h
theorem zcu (c:B32) (a b:List UInt8):sumB c (a++b)=sumB (sumB c a) b:=by simp [sumB,List.foldl_append]
theorem zmx (n:Nat) (c:B32):sumB c (List.replicate n 0)=bN (8*n) c:=by
 induction n generalizing c with
 |zero=>rfl
 |succ n ih=>
  rw [List.replicate_succ]
  simp only [sumB,List.foldl_cons]
  have:stepB c 0=bN 8 c:=by simp [stepB,u8B]
  rw [this]
  have:=ih (bN 8 c)
  unfold sumB at this
  rw [this,← zjv,Nat.mul_succ]
theorem sum4 (p q r s:UInt8):sumB 0#32 [p,q,r,s]=bN 32 (u8B p ^^^ (u8B q<<<8) ^^^ (u8B r<<<16) ^^^ (u8B s<<<24)):=by
 have sh:∀ (b:UInt8) (k:Nat),k≤24→bN k (u8B b<<<k)=u8B b:=fun b k hk=>by
  rw [zlF k _ (fun i hi=>by rw [BitVec.getLsbD_shiftLeft];simp [hi])]
  have:=b.toNat_lt
  apply BitVec.eq_of_toNat_eq
  simp only [u8B,BitVec.toNat_ushiftRight,BitVec.toNat_shiftLeft,BitVec.toNat_ofNat]
  rw [Nat.mod_eq_of_lt (show b.toNat<2 ^ 32 by omega),Nat.shiftLeft_eq,Nat.shiftRight_eq_div_pow]
  have h2:b.toNat*2 ^ k<2 ^ 32:=by
   have:(2:Nat) ^ k≤2 ^ 24:=Nat.pow_le_pow_right (by omega) hk
   calc b.toNat*2 ^ k≤b.toNat*2 ^ 24:=Nat.mul_le_mul_left _ this
    _<2 ^ 32:=by omega
  rw [Nat.mod_eq_of_lt h2,Nat.mul_div_cancel _ (Nat.pow_pos (by omega))]
 simp only [sumB,List.foldl_cons,List.foldl_nil,stepB,BitVec.zero_xor]
 rw [zhK 32,zhK 32,zhK 32]
 rw [show bN 32 (u8B s<<<24)=bN 8 (u8B s) from (zjv 8 24 _).trans (congrArg (bN 8) (sh s 24 (by omega)))]
 rw [show bN 32 (u8B r<<<16)=bN 16 (u8B r) from (zjv 16 16 _).trans (congrArg (bN 16) (sh r 16 (by omega)))]
 rw [show bN 32 (u8B q<<<8)=bN 24 (u8B q) from (zjv 24 8 _).trans (congrArg (bN 24) (sh q 8 (by omega)))]
 simp only [zhK,← zjv]
theorem unlike (c:B32) (a m n z:List UInt8) (p q r s:UInt8) (hm:m=xorL n [p,q,r,s]) (hn:n.length=4) (h0:u8B p ^^^ (u8B q<<<8) ^^^ (u8B r<<<16) ^^^ (u8B s<<<24)≠0#32):sumB c (a++n++z)≠sumB c (a++m++z):=by
 intro h
 rw [zcu,zcu,zcu,zcu] at h
 subst hm
 have e1:sumB (sumB c a) (xorL n [p,q,r,s])=sumB (sumB c a) n ^^^ sumB 0#32 [p,q,r,s]:=by
  have:=zit n [p,q,r,s] (sumB c a) 0#32 (by simpa using hn)
  rwa [BitVec.xor_zero] at this
 rw [e1] at h
 have zz:∀z:List UInt8,xorL z (List.replicate z.length 0)=z:=by
  intro z
  induction z with
  |nil=>rfl
  |cons x z ih=>
   rw [List.length_cons,List.replicate_succ]
   simp only [xorL,List.zipWith_cons_cons]
   unfold xorL at ih
   rw [ih];simp
 have e2:=zit z (List.replicate z.length 0) (sumB (sumB c a) n) (sumB 0#32 [p,q,r,s]) (by simp)
 rw [zz,zmx] at e2
 rw [e2] at h
 have h3:bN (8*z.length) (sumB 0#32 [p,q,r,s])=0#32:=by
  have:=congrArg (fun x=>sumB (sumB (sumB c a) n) z ^^^ x) h
  simp only [BitVec.xor_self,← BitVec.xor_assoc,BitVec.zero_xor] at this
  exact this.symm
 have h4:=zn9 _ _ h3
 rw [sum4] at h4
 exact h0 (zn9 _ _ h4)
def toI (x:B32):Int:=x.toNat
theorem zjw (n:Nat) (h:n<4294967296):toI (BitVec.ofNat 32 n)=n:=by
 unfold toI
 rw [BitVec.toNat_ofNat,Nat.mod_eq_of_lt h]
theorem ofI (c:Int) (h0:0≤c) (h1:c≤4294967295):∃x:B32,c=toI x:=
 ⟨BitVec.ofNat 32 c.toNat,by rw [zjw _ (by omega)];omega⟩
theorem zlG (x:B32):BitVec.ofInt 32 (toI x)=x:=by
 unfold toI
 rw [BitVec.ofInt_natCast]
 simp
theorem zcY (x y:B32):ibits .xor .u32 (toI x) (toI y)=toI (x ^^^ y):=by
 show IntKind.u32.wrap ((BitVec.ofInt 32 (toI x) ^^^ BitVec.ofInt 32 (toI y)).toNat:Int)=_
 rw [zlG,zlG]
 have:=(x ^^^ y).isLt
 unfold toI
 rw [IntKind.wrap_u32]
 omega
theorem zoe (x y:B32):ibits .and .u32 (toI x) (toI y)=toI (x&&& y):=by
 show IntKind.u32.wrap ((BitVec.ofInt 32 (toI x)&&& BitVec.ofInt 32 (toI y)).toNat:Int)=_
 rw [zlG,zlG]
 have:=(x&&& y).isLt
 unfold toI
 rw [IntKind.wrap_u32]
 omega
theorem zfW (x:B32) (k:Nat) (hk:k≤32):ishr .u32 (toI x) (k:Int)=toI (x>>>k):=by
 unfold toI
 rw [zp1 _ _ hk,BitVec.toNat_ushiftRight,Nat.shiftRight_eq_div_pow]
theorem zp4 (x:B32):bitT (toI x)=toI (bT x):=by
 unfold bitT bT
 have h1:(1:Int)=toI 1#32:=by decide
 have hs:ishr .u32 (toI x) 1=toI (x>>>1):=zfW x 1 (by omega)
 rw [hs]
 have ha:ibits .and .u32 (toI x) 1=toI (x&&& 1#32):=by rw [h1,zoe]
 rw [ha]
 have hb:x&&& 1#32=if x.getLsbD 0 then 1#32 else 0#32:=by
  apply BitVec.eq_of_getLsbD_eq
  intro i hi
  rw [BitVec.getLsbD_and]
  cases i with
  |zero=>cases x.getLsbD 0<;>rfl
  |succ i=>
   have:(1#32).getLsbD (i+1)=false:=by simp [BitVec.getLsbD_one]
   rw [this,Bool.and_false]
   split<;>simp
 rw [hb]
 cases x.getLsbD 0
 ·simp only [Bool.false_eq_true,if_false]
  rw [show IntKind.u32.wrap (toI 0#32*2197175160)=toI 0#32 by decide,zcY]
 ·simp only [if_true]
  rw [show IntKind.u32.wrap (toI 1#32*2197175160)=toI polyB by decide,zcY]
theorem zof (n:Nat) (x:B32):bitsT n (toI x)=toI (bN n x):=by
 induction n with
 |zero=>rfl
 |succ n ih=>simp only [bitsT,bN,ih,zp4]
theorem zp5 (x:B32) (h:x.toNat<4294967296):tabF x.toNat=toI (bN 8 x):=by
 unfold tabF
 have:IntKind.u32.wrap (x.toNat:Int)=toI x:=by
  unfold toI
  rw [IntKind.wrap_u32];omega
 rw [this,zof]
theorem zmy (x:B32) (b:UInt8):(ibits .xor .u8 (IntKind.u8.wrap (toI x)) b.toNat).toNat=(low8 x ^^^ u8B b).toNat:=by
 have hb:=b.toNat_lt
 have h1:IntKind.u8.wrap (toI x)=((x.toNat % 256:Nat):Int):=by
  unfold toI
  rw [IntKind.wrap_u8];omega
 rw [h1]
 have hx:x.toNat % 256<256:=Nat.mod_lt _ (by omega)
 have h2:=Nat.xor_lt_two_pow (n:=8) (x:=x.toNat % 256) (y:=b.toNat) (by omega) (by omega)
 have h3:(low8 x ^^^ u8B b).toNat=(x.toNat % 256) ^^^ b.toNat:=by
  simp only [low8,u8B,BitVec.toNat_xor,BitVec.toNat_and,BitVec.toNat_ofNat]
  rw [show 255 % 2 ^ 32=2 ^ 8 - 1 by decide,Nat.and_two_pow_sub_one_eq_mod,Nat.mod_eq_of_lt (show b.toNat<2 ^ 32 by omega)]
 rw [h3]
 show (IntKind.u8.wrap ((BitVec.ofInt 8 ((x.toNat % 256:Nat):Int) ^^^ BitVec.ofInt 8 ((b.toNat:Nat):Int)).toNat:Int)).toNat=_
 rw [BitVec.ofInt_natCast,BitVec.ofInt_natCast,BitVec.toNat_xor,BitVec.toNat_ofNat,BitVec.toNat_ofNat,Nat.mod_eq_of_lt (show x.toNat % 256<2 ^ 8 by omega),Nat.mod_eq_of_lt (show b.toNat<2 ^ 8 by omega),IntKind.wrap_u8]
 omega
theorem zog (x:B32) (b:UInt8):byteS (toI x) b=toI (stepB x b):=by
 unfold byteS
 rw [zmy,zp5 _ (BitVec.isLt _),show ishr .u32 (toI x) 8=toI (x>>>8) from zfW x 8 (by omega),zcY,zoc]
theorem zp6 (x:B32) (l:List UInt8):sumS (toI x) l=toI (sumB x l):=by
 induction l generalizing x with
 |nil=>rfl
 |cons b l ih=>
  simp only [sumS,sumB,List.foldl_cons,zog] at*
  exact ih _
def onesB:B32:=4294967295#32
theorem ziu (x:B32):notS (toI x)=toI (onesB ^^^ x):=by
 unfold notS
 rw [show (if IntKind.u32.signed=true then (-1:Int) else IntKind.u32.max)=toI onesB from by decide,zcY]
theorem zjx (x:B32) (l:List UInt8):sumOf (toI x) l=toI (onesB ^^^ sumB (onesB ^^^ x) l):=by
 unfold sumOf
 rw [ziu,zp6,ziu]
end Go.Aw
