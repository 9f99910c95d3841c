/-
  Parts of the proof: OnceB, CrcA, CrcB, CrcE, CrcPB, CrcR, CrcRE, BldA, BldB, BldC, BldD, DevP, DevA, DevB, DevC, DevD, DevE, DevF, Num, PackA, PackB, PackC, PackD (short names; the readable texts lie in the repo, under wip).
-/
import Derived.Test.YtglmbboafmmnpaaGreatDoorPart4
import Derived.Test.YtglmbboafmmnpaaGreatDoorPart2
import Derived.Test.YtglmbboafmmnpaaGreatDoorProg
import Derived.KernelRfl
import Derived.WalkKit
import Derived.Tactics
import Derived.Tactics2
import Derived.Laws.Pointers
import Derived.RegionTactic
import Derived.Lib.Builder
import Derived.Lib.UnsafeStr
import Derived.Laws.Externs
import Derived.Lib.AppendStr
import Derived.Lib.Strings
import Derived.Lib.Slices
import Derived.RegionCalls
import Derived.Lib.MakeNoZero
import Derived.Laws.RangeString
import Derived.Laws.RangeAny
set_option maxRecDepth 100000
set_option maxHeartbeats 2000000
set_option linter.unusedSimpArgs false
set_option linter.unusedVariables false
namespace Go.Aw
open Go Go.Proofs
section
variable {P : Program} {w w' : World} {E E' : Env} {h h' : AHeap}
theorem zg0:∀ (h:AHeap) (i:Nat) (a b:AObj),hset (hset h i a) i b=hset h i b
  | [],_,_,_=>rfl
  | (k,o)::r,i,a,b=>by
    by_cases hk:k=i
    · simp [hset,hk]
    · simp [hset,hk,zg0 r]
theorem zbh {h:AHeap} {i j:Nat} {o:AObj} (hi:(hget h i).isSome):(hget (hset h i o) j).isSome=(hget h j).isSome:=by
 by_cases hj:j=i
 ·subst hj
  obtain ⟨x,hx⟩:=Option.isSome_iff_exists.1 hi
  rw [ze hx,hx]
  rfl
 ·rw [zv hj]
theorem poke (hs:SatH E h w) {i o b:Nat} {cs:List AV} (hi:hget h i=some (.var cs)) (hb:E.O i=some b) {x:AV} {v:Value} (hr:Rep w E h x v):
  Chg E h w E (hset h i (.var (cs.set o x))) (w.setCell ⟨b,o,none⟩ v) i∧SatH E (hset h i (.var (cs.set o x))) (w.setCell ⟨b,o,none⟩ v):=by
 have hob:=hs.heap i _ hi
 simp only [RepObj] at hob
 obtain ⟨b',c,T,fz,g1,g2,g3,g4⟩:=hob
 rw [hb] at g1;cases g1
 rw [zdu g2]
 have ch:=zlq hs hi (cs':=cs.set o x) (by simp) hb (.cells (c.setIfInBounds o v) T fz)
 refine ⟨ch,ch.satH hs (fun ob hob=>?_)⟩
 rw [ze hi] at hob
 cases hob
 simp only [RepObj]
 refine ⟨b,_,T,fz,hb,zc8 (Array.getElem?_eq_some_iff.1 g2).1,?_,by simpa using g4⟩
 rw [Array.toList_setIfInBounds]
 exact ch.reps (g3.set hr)
theorem zgj {i:Nat} {o:AObj} (hi:(hget h i).isSome) {b:Nat} :Own E (hset h i o) b↔Own E h b:=by
 unfold Own
 constructor
 ·rintro ⟨j,h1,h2⟩;exact ⟨j,by rwa [zbh hi] at h1,h2⟩
 ·rintro ⟨j,h1,h2⟩;exact ⟨j,by rwa [zbh hi],h2⟩
end
section
variable {h : AHeap}
theorem ztK {fl i:Nat} {cs cs2:List AV} (hi:hget h i=some (.var cs)) (c0:cs[0]?=some (.d (.int .u32 0))) (c1:cs[1]?=some (.d (.int .i32 0)))
  (d0:cs2[0]?=some (.d (.int .u32 0))) (d1:cs2[1]?=some (.d (.int .i32 1)))
  (hf:ACallAt Tryz.prog fl 302 [.vp i 0] (hset h i (.var (cs.set 1 (.d (.int .i32 1))))) (fun r h'=>r= .tup []∧h'=hset h i (.var cs2))):
  ACallAt Tryz.prog fl 301 [.vp i 0,.fn (.func 302) [.vp i 0] []] h (fun r h'=>r= .tup []∧h'=hset h i (.var ((cs2.set 0 (.d (.int .u32 1))).set 1 (.d (.int .i32 0))))):=by
 refine ⟨zce Tryz.func301 (by kernel_rfl) rfl,fun E w vs hs hr=>?_⟩
 simp only [Reps] at hr
 obtain ⟨v0,r0,e0,q0,v1,r1,rfl,q1,rfl⟩:=hr
 simp only [Rep,Reps] at q1
 obtain ⟨fa,fb,rfl,⟨u,r2,e2,q2,rfl⟩,e3⟩:=q1
 have q0':=q0
 simp only [Rep] at q0 q2
 obtain ⟨b,cs',hi',hb,rfl⟩:=q0
 obtain ⟨b',cs'',hi'',hb',rfl⟩:=q2
 rw [hb] at hb';cases hb'
 have hfa:fa= #[.pointer (some ⟨b,0,none⟩)]:=by cases fa;simpa using e2
 have hfb:fb= #[]:=by cases fb;simpa using e3
 subst hfa hfb
 have hvs:vs= #[.pointer (some ⟨b,0,none⟩),.func (.func 302) #[.pointer (some ⟨b,0,none⟩)] #[]]:=by cases vs;simpa using e0
 subst hvs
 have look:∀ {E:Env} {h:AHeap} {w:World} {xs:List AV},SatH E h w→hget h i=some (.var xs)→E.O i=some b→∀ (o:Nat) (k:IntKind) (n:Int),xs[o]?=some (.d (.int k n))→w.cell? ⟨b,o,none⟩=some (.int k n)∧w.frozen? ⟨b,o,none⟩=false:=by
  intro E h w xs hs hi hb o k n ho
  have hob:=hs.heap i _ hi
  simp only [RepObj] at hob
  obtain ⟨b',c,T,fz,g1,g2,g3,g4⟩:=hob
  rw [hb] at g1;cases g1
  obtain ⟨v,h1,h2⟩:=Reps.get g3 ho
  simp only [Rep,RepD] at h2
  subst h2
  have h1':c[o]?=some (.int k n):=by simpa using h1
  have hlt:=(Array.getElem?_eq_some_iff.1 h1').1
  refine ⟨by rw [zQ g2];exact h1',?_⟩
  rw [zcD g2]
  have:=g4 o hlt
  simpa using this
 obtain ⟨a0,z0⟩:=look hs hi hb 0 _ _ c0
 obtain ⟨a1,z1⟩:=look hs hi hb 1 _ _ c1
 obtain ⟨ch1,hs1⟩:=poke hs hi hb (o:=1) (x:= .d (.int .i32 1)) (v:= .int .i32 1) (by simp [Rep,RepD])
 have hsome:(hget h i).isSome:=by simp [hi]
 have hp1:Rep (w.setCell ⟨b,1,none⟩ (.int .i32 1)) E (hset h i (.var (cs.set 1 (.d (.int .i32 1))))) (.vp i 0) (.pointer (some ⟨b,0,none⟩)):=ch1.rep q0'
 have hfill:=hf.2 E _ #[.pointer (some ⟨b,0,none⟩)] hs1 (by simp only [Reps];exact ⟨_,_,rfl,hp1,rfl⟩)
 let R:World→Prop:=fun w2=>∃E2,SatH E2 (hset h i (.var cs2)) w2∧EvoC fl E (hset h i (.var (cs.set 1 (.d (.int .i32 1))))) (w.setCell ⟨b,1,none⟩ (.int .i32 1)) E2 (hset h i (.var cs2)) w2∧
  (∀x y,Rep (w.setCell ⟨b,1,none⟩ (.int .i32 1)) E (hset h i (.var (cs.set 1 (.d (.int .i32 1))))) x y→Rep w2 E2 (hset h i (.var cs2)) x y)
 have hO:∀ {w2 E2},(∀x y,Rep (w.setCell ⟨b,1,none⟩ (.int .i32 1)) E (hset h i (.var (cs.set 1 (.d (.int .i32 1))))) x y→Rep w2 E2 (hset h i (.var cs2)) x y)→E2.O i=some b:=by
  intro w2 E2 hrep
  have:=hrep _ _ hp1
  simp only [Rep] at this
  obtain ⟨b2,_,_,h1,h2⟩:=this
  have:b=b2:=by
   have:=Value.pointer.inj h2
   have:=Option.some.inj this
   exact congrArg Addr.block this
  rw [h1,this]
 have hget2:hget (hset h i (.var cs2)) i=some (.var cs2):=ze hi
 refine (Go.Proofs.YtglmbboafmmnpaaGreatDoor.do_first b 0 (.pointer (some ⟨b,0,none⟩)) w R a0 a1 z0 z1 (hfill.mono ?_) ?_).mono ?_
 ·rintro e w2 ⟨v,E2,r,h2,rfl,⟨rfl,rfl⟩,g1,g2,g3,g4⟩
  simp only [Rep,Reps] at g2
  obtain ⟨vs,rfl,g5⟩:=g2
  have:vs= #[]:=by cases vs;simpa using g5
  subst this
  exact ⟨rfl,E2,g1,g3,g4⟩
 ·rintro w2 ⟨E2,g1,g2,g3⟩
  obtain ⟨x0,y0⟩:=look g1 hget2 (hO g3) 0 _ _ d0
  obtain ⟨x1,y1⟩:=look g1 hget2 (hO g3) 1 _ _ d1
  exact ⟨x0,x1,y0,y1⟩
 ·rintro e w3 ⟨rfl,w2,⟨E2,g1,g2,g3⟩,rfl⟩
  have hb2:=hO g3
  have hsd:SatH E2 (hset h i (.var cs2)) w2.drew:=g1.refit ⟨rfl,rfl,rfl,rfl,fun _ _=>rfl,fun _ _ h _ _=>h⟩ (base:=0) rfl rfl (fun _ _ h=>h) (fun b hb=>(g1.own b hb).2) g1.mlt g1.nlt
  obtain ⟨ch2,hs2⟩:=poke hsd hget2 hb2 (o:=0) (x:= .d (.int .u32 1)) (v:= .int .u32 1) (by simp [Rep,RepD])
  have hget3:hget (hset (hset h i (.var cs2)) i (.var (cs2.set 0 (.d (.int .u32 1))))) i=some (.var (cs2.set 0 (.d (.int .u32 1)))):=ze hget2
  obtain ⟨ch3,hs3⟩:=poke hs2 hget3 hb2 (o:=1) (x:= .d (.int .i32 0)) (v:= .int .i32 0) (by simp [Rep,RepD])
  have hrep3:∀x y,Rep w2 E2 (hset h i (.var cs2)) x y→Rep _ E2 _ x y:=fun x y hxy=>
   ch3.rep (ch2.rep (Rep.step (W:=w2) (W':=w2.drew) (fun _ _ h=>h) (fun _ _ _=>rfl) x y (fun j _=>GoesOn.refl E2 _ j) hxy))
  have hs2some:(hget (hset h i (.var cs2)) i).isSome:=by simp [hget2]
  have hs3some:(hget (hset (hset h i (.var cs2)) i (.var (cs2.set 0 (.d (.int .u32 1))))) i).isSome:=by simp [hget3]
  have e4:hset (hset (hset h i (.var cs2)) i (.var (cs2.set 0 (.d (.int .u32 1))))) i (.var ((cs2.set 0 (.d (.int .u32 1))).set 1 (.d (.int .i32 0))))=hset h i (.var ((cs2.set 0 (.d (.int .u32 1))).set 1 (.d (.int .i32 0)))):=by rw [zg0,zg0]
  refine ⟨.tuple #[],E2,.tup [],_,rfl,⟨rfl,rfl⟩,e4 ▸ hs3,by simp [Rep,Reps],?_,fun x y hxy=>e4 ▸ hrep3 x y (g3 x y (ch1.rep hxy))⟩
  have hown:∀b',b'<w.heap.size→¬Own E h b'→w2.heap[b']?=w.heap[b']?:=fun b' hb' hno=>
   (g2.keep b' (by simpa using hb') (fun ho=>hno ((zgj hsome).1 ho))).trans (ch1.blk b' hb' (fun ⟨h1,h2⟩=>hno ⟨i,h1,h2⟩))
  have hsz:w.heap.size≤w2.heap.size:=Nat.le_trans ch1.size g2.size
  refine ⟨?_,?_,?_,?_,fun b' hb' hno=>?_,fun b' ho=>?_,g2.m,g2.n,fun j hj hjs=>?_⟩
  ·exact ch3.os.trans (ch2.os.trans (g2.os.trans ch1.os))
  ·exact ch3.tape.trans (ch2.tape.trans (g2.tape.trans ch1.tape))
  ·exact ch3.output.trans (ch2.output.trans (g2.output.trans ch1.output))
  ·exact Nat.le_trans hsz (Nat.le_trans ch2.size ch3.size)
  ·have hne:¬E2.O i=some b':=fun e=>by
    rw [hb2] at e;cases e
    exact hno ⟨i,hsome,hb⟩
   have h1:b'<w2.drew.heap.size:=Nat.lt_of_lt_of_le hb' hsz
   rw [ch3.blk b' (Nat.lt_of_lt_of_le h1 ch2.size) (fun h=>hne h.2),ch2.blk b' h1 (fun h=>hne h.2)]
   exact hown b' hb' hno
  ·rw [zgj hsome] at ho
   have ho2:Own E2 (hset h i (.var cs2)) b':=(zgj hsome).2 ho
   rcases g2.own b' ho2 with h1|h1
   ·exact .inl ((zgj hsome).1 h1)
   ·exact .inr (by simpa using h1)
  ·rw [zbh hsome] at hjs
   have hj2:(hget (hset h i (.var cs2)) j).isSome:=by rwa [zbh hsome]
   obtain ⟨p1,p2⟩:=g2.go j hj hj2
   refine ⟨hjs,?_⟩
   have p3:=(ch1.goesOn j).trans p2
   have p4:=p3.trans ((ch2.goesOn j).trans (ch3.goesOn j))
   exact e4 ▸ p4
end
open Go Go.Proofs
def bitT (c:Int):Int:=ibits .xor .u32 (ishr .u32 c 1) (IntKind.u32.wrap (ibits .and .u32 c 1*2197175160))
def bitsT:Nat→Int→Int
 |0,c=>c
 |n+1,c=>bitT (bitsT n c)
def tabF (j:Nat):Int:=bitsT 8 (IntKind.u32.wrap j)
def tblF (i:Nat):List D:=(List.range 256).map fun j=>D.int .u32 (if j<i then tabF j else 0)
theorem zni (i:Nat):(tblF i).length=256:=by simp [tblF]
theorem zr8 (i:Nat) (hi:i<256):(tblF i).set i (.int .u32 (tabF i))=tblF (i+1):=by
 apply List.ext_getElem?
 intro j
 rw [List.getElem?_set]
 unfold tblF
 simp only [List.length_map,List.length_range,List.getElem?_map]
 by_cases hj:i=j
 ·subst hj
  simp [hi]
 ·rw [if_neg hj]
  by_cases hj2:j<256
  ·rw [List.getElem?_range hj2]
   simp only [Option.map_some,Option.some.injEq,D.int.injEq,true_and]
   by_cases h1:j<i
   ·rw [if_pos h1,if_pos (by omega)]
   ·rw [if_neg h1,if_neg (by omega)]
  ·simp [hj2]
theorem zcL:∀ (l:List D),AV.leL (l.map AV.d) (l.map AV.d)
 | []=>by simp [AV.leL]
 |x::l=>by simp only [List.map_cons,AV.leL,AV.le,true_and];exact zcL l
theorem zn9 (x y z:D):ACall Tryz.prog 302 1 [.vp 0 0] [(0,.var (.d x:: .d y:: .d z::(tblF 0).map AV.d))] (fun r h'=>r= .tup []∧h'= [(0,.var (.d x:: .d y:: .d z::(tblF 256).map AV.d))]):=by
 refine zaj Tryz.func302 rfl (zce Tryz.func302 (by kernel_rfl) rfl) Tryz.ntmps302 (by simp) (fun base=>?_)
 refine zf noTab (zb _) (fun K hK=>?_);simp only [go_sem,Nat.le_refl,List.append_toArray,List.range_zero,List.append_eq,Int.toNat_natCast,aeq,aeq.aeqF,simprocAttr]
 refine hK _ ?_;clear hK K
 refine zav ?_
 refine zn (fun i: {i:Nat // i≤256} =>⟨[(0,true,.vp 0 0),(4,true,.d (.int .i64 i.1))],[(0,.var (.d x:: .d y:: .d z::(tblF i.1).map AV.d))],some []⟩) (fun i=>256 - i.1) ⟨0,by omega⟩ (by simp only [AS.le,leT,leH,zc,AsgK,AV.le,AV.leL,AObj.le,inH,idsT,idsH,AV.ids,AV.idsL,AV.idsR,AObj.ids,lk,hget,go_sem,Nat.le_refl,List.append_toArray,List.range_zero,List.append_eq,Int.toNat_natCast,aeq,aeq.aeqF,simprocAttr]<;>simp [zcL,zbM,inH]) (fun i=>?_)
 obtain ⟨i,hi⟩:=i
 refine zf noTab (zb _) (fun K hK=>?_);simp only [go_sem,Nat.le_refl,List.append_toArray,List.range_zero,List.append_eq,Int.toNat_natCast,aeq,aeq.aeqF,simprocAttr]
 refine hK _ ?_;clear hK K
 refine zj (fun K hK=>?_)
 refine zi rfl (fun hc=>?_) (fun hc=>?_)
 ·refine zcz ?_;simp only [go_sem,Nat.le_refl,List.append_toArray,List.range_zero,List.append_eq,Int.toNat_natCast,aeq,aeq.aeqF,simprocAttr];refine hK _ ?_;clear hK K
  have hil:i<256:=by simp at hc;omega
  refine zj (fun K hK=>?_)
  refine zav ?_
  refine zf noTab (zb _) (fun K hK=>?_);simp only [go_sem,Nat.le_refl,List.append_toArray,List.range_zero,List.append_eq,Int.toNat_natCast,aeq,aeq.aeqF,simprocAttr]
  refine hK _ ?_;clear hK K
  refine zf noTab (zb _) (fun K hK=>?_);simp only [go_sem,Nat.le_refl,List.append_toArray,List.range_zero,List.append_eq,Int.toNat_natCast,aeq,aeq.aeqF,simprocAttr]
  refine hK _ ?_;clear hK K
  refine zj (fun K2 hK2=>?_)
  refine zf noTab (zb _) (fun K hK=>?_);simp only [go_sem,Nat.le_refl,List.append_toArray,List.range_zero,List.append_eq,Int.toNat_natCast,aeq,aeq.aeqF,simprocAttr]
  refine hK _ ?_;clear hK K
  refine zav ?_
  refine zn (fun k: {k:Nat // k≤8} =>⟨[(0,true,.vp 0 0),(4,true,.d (.int .i64 i)),(2,true,.d (.int .i64 i)),(3,true,.d (.int .u32 (bitsT k.1 (IntKind.u32.wrap i)))),(9,true,.d (.int .i64 k.1))],[(0,.var (.d x:: .d y:: .d z::(tblF i).map AV.d))],some []⟩) (fun k=>8 - k.1) ⟨0,by omega⟩ (by simp only [AS.le,leT,leH,zc,AsgK,AV.le,AV.leL,AObj.le,inH,idsT,idsH,AV.ids,AV.idsL,AV.idsR,AObj.ids,lk,hget,go_sem,Nat.le_refl,List.append_toArray,List.range_zero,List.append_eq,Int.toNat_natCast,aeq,aeq.aeqF,simprocAttr]<;>simp [zcL,zbM,inH,bitsT]) (fun k=>?_)
  obtain ⟨k,hk⟩:=k
  refine zf noTab (zb _) (fun K hK=>?_);simp only [go_sem,Nat.le_refl,List.append_toArray,List.range_zero,List.append_eq,Int.toNat_natCast,aeq,aeq.aeqF,simprocAttr]
  refine hK _ ?_;clear hK K
  refine zj (fun K3 hK3=>?_)
  refine zi rfl (fun hc=>?_) (fun hc=>?_)
  ·refine zcz ?_;simp only [go_sem,Nat.le_refl,List.append_toArray,List.range_zero,List.append_eq,Int.toNat_natCast,aeq,aeq.aeqF,simprocAttr];refine hK3 _ ?_;clear hK3 K3
   have hkl:k<8:=by simp at hc;omega
   refine zj (fun K hK=>?_)
   refine zav ?_
   refine zL noTab (zb _) ?_;simp only [go_sem,Nat.le_refl,List.append_toArray,List.range_zero,List.append_eq,Int.toNat_natCast,aeq,aeq.aeqF,simprocAttr]
   refine hK _ ?_;clear hK K
   refine zL noTab (zb _) ?_;simp only [go_sem,Nat.le_refl,List.append_toArray,List.range_zero,List.append_eq,Int.toNat_natCast,aeq,aeq.aeqF,simprocAttr]
   have hw:IntKind.i64.wrap ((k:Int)+1)=((k+1:Nat):Int):=by rw [IntKind.wrap_i64];omega
   refine ⟨⟨k+1,by omega⟩,?_,by simp;omega⟩
   rw [hw]
   simp only [AS.le,leT,leH,zc,AsgK,AV.le,AV.leL,AObj.le,inH,idsT,idsH,AV.ids,AV.idsL,AV.idsR,AObj.ids,lk,hget,go_sem,Nat.le_refl,List.append_toArray,List.range_zero,List.append_eq,Int.toNat_natCast,aeq,aeq.aeqF,simprocAttr]
   simp [zcL,zbM,inH,bitsT,bitT]
  ·refine zcA ?_;simp only [go_sem,Nat.le_refl,List.append_toArray,List.range_zero,List.append_eq,Int.toNat_natCast,aeq,aeq.aeqF,simprocAttr];refine hK2 _ ?_
   have hk8:k=8:=by simp at hc;omega
   subst hk8
   refine zL noTab (zb _) ?_;simp only [go_sem,Nat.le_refl,List.append_toArray,List.range_zero,List.append_eq,Int.toNat_natCast,aeq,aeq.aeqF,simprocAttr]
   refine ⟨⟨by omega,by omega⟩,by simp [zni];omega,?_⟩
   have hset:(AV.d x::AV.d y::AV.d z::(tblF i).map AV.d).set (3+i*1) (.d (.int .u32 (bitsT 8 (IntKind.u32.wrap i))))=AV.d x::AV.d y::AV.d z::(tblF (i+1)).map AV.d:=by
    rw [show 3+i*1=i+1+1+1 by omega,List.set_cons_succ,List.set_cons_succ,List.set_cons_succ,← List.map_set]
    have:=zr8 i hil
    unfold tabF at this
    rw [this]
   rw [hset]
   refine hK _ ?_
   refine zL noTab (zb _) ?_;simp only [go_sem,Nat.le_refl,List.append_toArray,List.range_zero,List.append_eq,Int.toNat_natCast,aeq,aeq.aeqF,simprocAttr]
   have hw:IntKind.i64.wrap ((i:Int)+1)=((i+1:Nat):Int):=by rw [IntKind.wrap_i64];omega
   refine ⟨⟨i+1,by omega⟩,?_,by simp;omega⟩
   rw [hw]
   simp only [AS.le,leT,leH,zc,AsgK,AV.le,AV.leL,AObj.le,inH,idsT,idsH,AV.ids,AV.idsL,AV.idsR,AObj.ids,lk,hget,go_sem,Nat.le_refl,List.append_toArray,List.range_zero,List.append_eq,Int.toNat_natCast,aeq,aeq.aeqF,simprocAttr]
   simp [zcL,zbM,inH]
 ·refine zcA ?_
  simp only [go_sem,Nat.le_refl,List.append_toArray,List.range_zero,List.append_eq,Int.toNat_natCast,aeq,aeq.aeqF,simprocAttr,Tryz.results302]
  have:i=256:=by simp at hc;omega
  subst this
  rfl
open Go Go.Proofs
def byteS (c:Int) (b:UInt8):Int:=ibits .xor .u32 (tabF (ibits .xor .u8 (IntKind.u8.wrap c) b.toNat).toNat) (ishr .u32 c 8)
def sumS (c:Int) (l:List UInt8):Int:=l.foldl byteS c
def notS (c:Int):Int:=ibits .xor .u32 (if IntKind.u32.signed then -1 else IntKind.u32.max) c
def onceC (d m z:D) (i:Nat):List AV:= .d d:: .d m:: .d z::(tblF i).map AV.d
theorem do_ok:ACallAt Tryz.prog 1 301 [.vp 0 0,.fn (.func 302) [.vp 0 0] []] [(0,.var (onceC (.int .u32 0) (.int .i32 0) (.int .u32 0) 0))] (fun r h'=>r= .tup []∧h'= [(0,.var (onceC (.int .u32 1) (.int .i32 0) (.int .u32 0) 256))]):=by
 refine ztK (cs:=onceC (.int .u32 0) (.int .i32 0) (.int .u32 0) 0) (cs2:=onceC (.int .u32 0) (.int .i32 1) (.int .u32 0) 256) rfl rfl rfl rfl rfl ?_
 refine (zn9 _ _ _).whole (fun i hi=>?_) (Nat.le_refl _) ?_
 ·by_cases h:i=0
  ·omega
  ·simp [hget,Ne.symm h] at hi
 ·rintro r h' ⟨rfl,rfl⟩ i hi
  by_cases h:i=0
  ·subst h;rfl
  ·simp [hget,Ne.symm h] at hi
theorem ztL (n:Int) (h0:0≤n) (h1:n<256) (d m z:D):(onceC d m z 256).getD (3+n.toNat*1) .any= .d (.int .u32 (tabF n.toNat)):=by
 have:n.toNat<256:=by omega
 unfold onceC
 rw [show 3+n.toNat*1=n.toNat+1+1+1 by omega]
 simp only [List.getD_cons_succ]
 rw [List.getD_eq_getElem?_getD,List.getElem?_map]
 unfold tblF
 rw [List.getElem?_map,List.getElem?_range this]
 simp [this]
theorem ztM (x y:Int):0≤ibits .xor .u8 x y∧ibits .xor .u8 x y<256:=by
 unfold ibits
 rw [IntKind.wrap_u8]
 omega
abbrev Mst (c:Int) (l:List UInt8):= { i:Nat // i≤l.length }
theorem ztN (c:Int) (l:List UInt8) (hl:l.length≤9223372036854775807):ACall Tryz.prog 288 1 [.vp 0 0,.d (.int .u32 c),.d (.str l)] [(0,.var (onceC (.int .u32 0) (.int .i32 0) (.int .u32 0) 0))] (fun r h'=>r= .d (.int .u32 (sumS c l))∧(hget h' 0).isSome):=by
 refine zaj Tryz.func288 rfl (zce Tryz.func288 (by kernel_rfl) rfl) Tryz.ntmps288 (by simp) (fun base=>?_)
 refine zf noTab (zb _) (fun K hK=>?_);simp only [go_sem,Nat.le_refl,List.append_toArray,List.range_zero,List.append_eq,Int.toNat_natCast,aeq,aeq.aeqF,simprocAttr]
 refine hK _ ?_;clear hK K
 refine zf noTab (zb _) (fun K hK=>?_);simp only [go_sem,Nat.le_refl,List.append_toArray,List.range_zero,List.append_eq,Int.toNat_natCast,aeq,aeq.aeqF,simprocAttr]
 refine do_ok.mono ?_
 rintro r h' ⟨rfl,rfl⟩
 refine hK _ ?_;clear hK K
 refine zj (fun K2 hK2=>?_)
 refine zf noTab (zb _) (fun K hK=>?_);simp only [go_sem,Nat.le_refl,List.append_toArray,List.range_zero,List.append_eq,Int.toNat_natCast,aeq,aeq.aeqF,simprocAttr]
 refine ⟨by simp [zg],hK _ ?_⟩
 clear hK
 refine zav ?_
 refine zn (fun i:Mst c l=>⟨[(0,true,.vp 0 0),(1,true,.d (.int .u32 (sumS c (l.take i.1)))),(16,true,.osl 1 1 l.length 0 l.length),(17,true,.d (.int .i64 l.length)),(18,true,.d (.int .i64 i.1))],[(1,.arr 1 (zg l)),(0,.var (onceC (.int .u32 1) (.int .i32 0) (.int .u32 0) 256))],some []⟩) (fun i=>l.length - i.1) ⟨0,Nat.zero_le _⟩ (by simp only [AS.le,leT,leH,zc,AsgK,AV.le,AV.leL,AObj.le,inH,idsT,idsH,AV.ids,AV.idsL,AV.idsR,AObj.ids,lk,hget,go_sem,Nat.le_refl,List.append_toArray,List.range_zero,List.append_eq,Int.toNat_natCast,aeq,aeq.aeqF,simprocAttr]<;>simp [onceC,zcL,zbM,inH,sumS,AV.leL,AV.le,AV.idsL,AV.ids]) (fun i=>?_)
 obtain ⟨i,hi⟩:=i
 refine zf noTab (zb _) (fun K hK=>?_);simp only [go_sem,Nat.le_refl,List.append_toArray,List.range_zero,List.append_eq,Int.toNat_natCast,aeq,aeq.aeqF,simprocAttr]
 refine hK _ ?_;clear hK K
 refine zj (fun K3 hK3=>?_)
 refine zi rfl (fun hc=>?_) (fun hc=>?_)
 ·refine zcz ?_;simp only [go_sem,Nat.le_refl,List.append_toArray,List.range_zero,List.append_eq,Int.toNat_natCast,aeq,aeq.aeqF,simprocAttr];refine hK3 _ ?_;clear hK3 K3
  have hil:i<l.length:=by simp at hc;omega
  obtain ⟨b,hb⟩:∃b,l[i]?=some b:=⟨l[i],by simp [hil]⟩
  have hrow:(zg l).getD i []= [.int .u8 b.toNat]:=by simp [zg,List.getD_eq_getElem?_getD,hb,zdR]
  have hrl:(zg l).length=l.length:=by simp [zg]
  refine zj (fun K4 hK4=>?_)
  refine zav ?_
  refine zf noTab (zb _) (fun K hK=>?_);simp only [go_sem,Nat.le_refl,List.append_toArray,List.range_zero,List.append_eq,Int.toNat_natCast,aeq,aeq.aeqF,simprocAttr,hrow,hrl,Nat.zero_add]
  refine ⟨⟨by omega,by omega⟩,hil,hK _ ?_⟩
  clear hK
  obtain ⟨hb0,hb1⟩:=ztM (IntKind.u8.wrap (sumS c (l.take i))) b.toNat
  have htb:=ztL (ibits .xor .u8 (IntKind.u8.wrap (sumS c (l.take i))) b.toNat) hb0 hb1 (.int .u32 1) (.int .i32 0) (.int .u32 0)
  have hoc:(onceC (.int .u32 1) (.int .i32 0) (.int .u32 0) 256).length=259:=by simp [onceC,zni]
  refine zL noTab (zb _) ?_;simp only [go_sem,Nat.le_refl,List.append_toArray,List.range_zero,List.append_eq,Int.toNat_natCast,aeq,aeq.aeqF,simprocAttr,htb,hoc]
  refine ⟨⟨hb0,hb1⟩,by omega,hK4 _ ?_⟩
  clear hK4
  refine zL noTab (zb _) ?_;simp only [go_sem,Nat.le_refl,List.append_toArray,List.range_zero,List.append_eq,Int.toNat_natCast,aeq,aeq.aeqF,simprocAttr]
  have hw:IntKind.i64.wrap ((i:Int)+1)=((i+1:Nat):Int):=by rw [IntKind.wrap_i64];omega
  have hs:ibits .xor .u32 (tabF (ibits .xor .u8 (IntKind.u8.wrap (sumS c (l.take i))) b.toNat).toNat) (ishr .u32 (sumS c (l.take i)) 8)=sumS c (l.take (i+1)):=by
   rw [List.take_add_one,hb]
   simp [sumS,byteS]
  refine ⟨⟨i+1,by omega⟩,?_,by simp;omega⟩
  rw [hw,hs]
  simp only [AS.le,leT,leH,zc,AsgK,AV.le,AV.leL,AObj.le,inH,idsT,idsH,AV.ids,AV.idsL,AV.idsR,AObj.ids,lk,hget,go_sem,Nat.le_refl,List.append_toArray,List.range_zero,List.append_eq,Int.toNat_natCast,aeq,aeq.aeqF,simprocAttr]
  simp [onceC,zcL,zbM,inH,AV.leL,AV.le,AV.idsL,AV.ids]
 ·refine zcA ?_;simp only [go_sem,Nat.le_refl,List.append_toArray,List.range_zero,List.append_eq,Int.toNat_natCast,aeq,aeq.aeqF,simprocAttr];refine hK2 _ ?_
  have hil:i=l.length:=by simp at hc;omega
  subst hil
  refine zf noTab (zb _) (fun K hK=>?_);simp only [go_sem,Nat.le_refl,List.append_toArray,List.range_zero,List.append_eq,Int.toNat_natCast,aeq,aeq.aeqF,simprocAttr]
  refine hK _ ?_;clear hK K
  refine zu ?_;simp only [go_sem,Nat.le_refl,List.append_toArray,List.range_zero,List.append_eq,Int.toNat_natCast,aeq,aeq.aeqF,simprocAttr,Tryz.results288]
theorem zik (c:Int) (l:List UInt8) (hl:l.length≤9223372036854775807):ACall Tryz.prog 248 0 [.d (.int .u32 c),.d (.str l)] [] (fun r _=>r= .d (.int .u32 (notS (sumS (notS c) l)))):=by
 refine zaj Tryz.func248 rfl (zce Tryz.func248 (by kernel_rfl) rfl) Tryz.ntmps248 (by simp) (fun base=>?_)
 refine zf noTab (zb _) (fun K hK=>?_);simp only [go_sem,Nat.le_refl,List.append_toArray,List.range_zero,List.append_eq,Int.toNat_natCast,aeq,aeq.aeqF,simprocAttr]
 refine hK _ ?_;clear hK K
 refine zf noTab (zb _) (fun K hK=>?_);simp only [go_sem,Nat.le_refl,List.append_toArray,List.range_zero,List.append_eq,Int.toNat_natCast,aeq,aeq.aeqF,simprocAttr]
 refine hK _ ?_;clear hK K
 refine zf noTab (zb _) (fun K hK=>?_);simp only [go_sem,Nat.le_refl,List.append_toArray,List.range_zero,List.append_eq,Int.toNat_natCast,aeq,aeq.aeqF,simprocAttr]
 refine ACallAt.mono (h:= [(0,.var (onceC (.int .u32 0) (.int .i32 0) (.int .u32 0) 0))]) (K:=fun r h'=>r= .d (.int .u32 (sumS (notS c) l))∧(hget h' 0).isSome) ((ztN (notS c) l hl).whole (fun i hi=>?_) (Nat.zero_le _) ?_) ?_
 ·by_cases h:i=0
  ·omega
  ·simp [hget,Ne.symm h] at hi
 ·rintro r h' ⟨rfl,hk⟩ i hi
  by_cases h:i=0
  ·subst h;exact hk
  ·simp [hget,Ne.symm h] at hi
 rintro r h' ⟨rfl,hk⟩
 simp only [go_sem,Nat.le_refl,List.append_toArray,List.range_zero,List.append_eq,Int.toNat_natCast,aeq,aeq.aeqF,simprocAttr]
 refine hK _ ?_;clear hK K
 refine zu ?_;simp only [go_sem,Nat.le_refl,List.append_toArray,List.range_zero,List.append_eq,Int.toNat_natCast,aeq,aeq.aeqF,simprocAttr,Tryz.results248]
 rfl
def sumOf (c:Int) (l:List UInt8):Int:=notS (sumS (notS c) l)
def tabM:Tab:=fun f args=>
 if f=248 then (match args with
  | [.d (.int .u32 c),.d (.str l)]=>some (l.length≤9223372036854775807,.d (.int .u32 (sumOf c l)))
  |_=>none)
 else none
@[go_sem] theorem tabM30 (c:Int) (l:List UInt8):tabM 248 [.d (.int .u32 c),.d (.str l)]=some (l.length≤9223372036854775807,.d (.int .u32 (sumOf c l))):=rfl
theorem ztO:TabOk Tryz.prog tabM:=⟨fun f args pre r h hp=>by
 unfold tabM at h
 split at h
 ·rename_i hf;subst hf
  split at h
  ·cases h;exact ⟨rfl,zik _ _ hp⟩
  ·cases h
 ·cases h⟩
theorem zsa (l:List UInt8) (hl:l.length≤9223372036854775807):ACall Tryz.prog 191 0 [.d (.str l)] [] (fun r _=>r= .d (.int .u32 (sumOf 0 l))):=by
 refine zaj Tryz.func191 rfl (zce Tryz.func191 (by kernel_rfl) rfl) Tryz.ntmps191 (by simp) (fun base=>?_)
 refine zf noTab (zb _) (fun K hK=>?_);simp only [go_sem,Nat.le_refl,List.append_toArray,List.range_zero,List.append_eq,Int.toNat_natCast,aeq,aeq.aeqF,simprocAttr]
 refine hK _ ?_;clear hK K
 refine zf tabM ztO (fun K hK=>?_);simp only [go_sem,Nat.le_refl,List.append_toArray,List.range_zero,List.append_eq,Int.toNat_natCast,aeq,aeq.aeqF,simprocAttr]
 refine ⟨hl,hK _ ?_⟩
 clear hK K
 refine zu ?_;simp only [go_sem,Nat.le_refl,List.append_toArray,List.range_zero,List.append_eq,Int.toNat_natCast,aeq,aeq.aeqF,simprocAttr,Tryz.results191]
def zbH (c:Int) (j:Nat):Int:=IntKind.u8.wrap (ishr .u32 c (IntKind.i64.wrap (24 - IntKind.i64.wrap (8*(j:Int)))))
def bcell (c:Int) (i j:Nat):AV:= .d (.int .u8 (if j<i then zbH c j else 0))
def zg1 (c:Int) (i:Nat):List AV:= [bcell c i 0,bcell c i 1,bcell c i 2,bcell c i 3]
def zex (c:Int):List UInt8:= [UInt8.ofNat (zbH c 0).toNat,UInt8.ofNat (zbH c 1).toNat,UInt8.ofNat (zbH c 2).toNat,UInt8.ofNat (zbH c 3).toNat]
theorem zlS (c:Int):ACall Tryz.prog 190 0 [.d (.int .u32 c)] [] (fun r _=>r= .d (.str (zex c))):=by
 refine zaj Tryz.func190 rfl (zce Tryz.func190 (by kernel_rfl) rfl) Tryz.ntmps190 (by simp) (fun base=>?_)
 refine zf noTab (zb _) (fun K hK=>?_);simp only [go_sem,Nat.le_refl,List.append_toArray,List.range_zero,List.append_eq,Int.toNat_natCast,aeq,aeq.aeqF,simprocAttr]
 refine hK _ ?_;clear hK K
 refine zf noTab (zb _) (fun K hK=>?_);simp only [go_sem,Nat.le_refl,List.append_toArray,List.range_zero,List.append_eq,Int.toNat_natCast,aeq,aeq.aeqF,simprocAttr]
 refine hK _ ?_;clear hK K
 refine zj (fun K2 hK2=>?_)
 refine zf noTab (zb _) (fun K hK=>?_);simp only [go_sem,Nat.le_refl,List.append_toArray,List.range_zero,List.append_eq,Int.toNat_natCast,aeq,aeq.aeqF,simprocAttr]
 refine hK _ ?_;clear hK K
 refine zav ?_
 refine zn (fun i: {i:Nat // i≤4} =>⟨[(0,true,.d (.int .u32 c)),(3,true,.vp 0 0),(5,true,.d (.int .i64 i.1))],[(0,.var (zg1 c i.1))],some []⟩) (fun i=>4 - i.1) ⟨0,by omega⟩ (by simp only [AS.le,leT,leH,zc,AsgK,AV.le,AV.leL,AObj.le,inH,idsT,idsH,AV.ids,AV.idsL,AV.idsR,AObj.ids,lk,hget,go_sem,Nat.le_refl,List.append_toArray,List.range_zero,List.append_eq,Int.toNat_natCast,aeq,aeq.aeqF,simprocAttr]<;>simp [zg1,bcell,AV.leL,AV.le,AV.idsL,AV.ids,inH]) (fun i=>?_)
 obtain ⟨i,hi⟩:=i
 refine zf noTab (zb _) (fun K hK=>?_);simp only [go_sem,Nat.le_refl,List.append_toArray,List.range_zero,List.append_eq,Int.toNat_natCast,aeq,aeq.aeqF,simprocAttr]
 refine hK _ ?_;clear hK K
 refine zj (fun K3 hK3=>?_)
 refine zi rfl (fun hc=>?_) (fun hc=>?_)
 ·refine zcz ?_;simp only [go_sem,Nat.le_refl,List.append_toArray,List.range_zero,List.append_eq,Int.toNat_natCast,aeq,aeq.aeqF,simprocAttr];refine hK3 _ ?_;clear hK3 K3
  have hil:i<4:=by simp at hc;omega
  refine zj (fun K4 hK4=>?_)
  refine zav ?_
  refine zf noTab (zb _) (fun K hK=>?_);simp only [go_sem,Nat.le_refl,List.append_toArray,List.range_zero,List.append_eq,Int.toNat_natCast,aeq,aeq.aeqF,simprocAttr]
  refine hK _ ?_;clear hK K
  refine zL noTab (zb _) ?_;simp only [go_sem,Nat.le_refl,List.append_toArray,List.range_zero,List.append_eq,Int.toNat_natCast,aeq,aeq.aeqF,simprocAttr]
  have hset:(zg1 c i).set (i*1) (.d (.int .u8 (zbH c i)))=zg1 c (i+1):=by
   have:i=0∨i=1∨i=2∨i=3:=by omega
   rcases this with rfl|rfl|rfl|rfl<;>rfl
  unfold zbH at hset
  rw [hset]
  refine ⟨by simp only [IntKind.wrap_i64];omega,⟨by omega,by omega⟩,by simp [zg1];omega,hK4 _ ?_⟩
  refine zL noTab (zb _) ?_;simp only [go_sem,Nat.le_refl,List.append_toArray,List.range_zero,List.append_eq,Int.toNat_natCast,aeq,aeq.aeqF,simprocAttr]
  have hw:IntKind.i64.wrap ((i:Int)+1)=((i+1:Nat):Int):=by rw [IntKind.wrap_i64];omega
  refine ⟨⟨i+1,by omega⟩,?_,by simp;omega⟩
  rw [hw]
  simp only [AS.le,leT,leH,zc,AsgK,AV.le,AV.leL,AObj.le,inH,idsT,idsH,AV.ids,AV.idsL,AV.idsR,AObj.ids,lk,hget,go_sem,Nat.le_refl,List.append_toArray,List.range_zero,List.append_eq,Int.toNat_natCast,aeq,aeq.aeqF,simprocAttr]
  simp [zg1,bcell,AV.leL,AV.le,AV.idsL,AV.ids,inH]
 ·refine zcA ?_;simp only [go_sem,Nat.le_refl,List.append_toArray,List.range_zero,List.append_eq,Int.toNat_natCast,aeq,aeq.aeqF,simprocAttr];refine hK2 _ ?_
  have hil:i=4:=by simp at hc;omega
  subst hil
  have hb4:zg1 c 4= [.d (.int .u8 (zbH c 0)),.d (.int .u8 (zbH c 1)),.d (.int .u8 (zbH c 2)),.d (.int .u8 (zbH c 3))]:=rfl
  rw [hb4]
  refine zf noTab (zb _) (fun K hK=>?_);simp only [go_sem,Nat.le_refl,List.append_toArray,List.range_zero,List.append_eq,Int.toNat_natCast,aeq,aeq.aeqF,simprocAttr]
  refine ⟨rfl,hK _ ?_⟩
  clear hK
  refine zu ?_;simp only [go_sem,Nat.le_refl,List.append_toArray,List.range_zero,List.append_eq,Int.toNat_natCast,aeq,aeq.aeqF,simprocAttr,Tryz.results190]
  rfl
open Go Go.Proofs
@[go_sem] noncomputable def zd2:Ent Tryz.prog 248:= .ofL (consL (intT .u32) (consL strT nilL)) (fun (c,l,_)=>l.length≤9223372036854775807) (fun (c,l,_)=> .d (.int .u32 (notS (sumS (notS c) l)))) (fun (c,l,_) hp=>⟨rfl,zik c l hp⟩)
@[go_sem] noncomputable def zcu:Ent Tryz.prog 191:= .ofL (consL strT nilL) (fun (l,_)=>l.length≤9223372036854775807) (fun (l,_)=> .d (.int .u32 (sumOf 0 l))) (fun (l,_) hp=>⟨rfl,zsa l hp⟩)
@[go_sem] noncomputable def za2:Ent Tryz.prog 190:= .ofL (consL (intT .u32) nilL) (fun (c,_)=>True) (fun (c,_)=> .d (.str (zex c))) (fun (c,_) hp=>⟨rfl,zlS c⟩)
open Go Go.Proofs
theorem zsc (n k:Nat) (hk:k≤32):ishr .u32 (n:Int) (k:Int)=((n / 2 ^ k:Nat):Int):=by
 unfold ishr
 rw [show min ((k:Int).toNat) IntKind.u32.bits=k by show min ((k:Int).toNat) 32=k;omega]
 rw [Int.fdiv_eq_ediv_of_nonneg _ (Int.le_of_lt (Int.pow_pos (by decide)))]
 norm_cast
abbrev B32:=BitVec 32
def polyB:B32:=2197175160#32
def bT (x:B32):B32:=(x>>>1) ^^^ (if x.getLsbD 0 then polyB else 0#32)
def bN:Nat→B32→B32
 |0,x=>x
 |n+1,x=>bT (bN n x)
def u8B (b:UInt8):B32:=BitVec.ofNat 32 b.toNat
def stepB (c:B32) (b:UInt8):B32:=bN 8 (c ^^^ u8B b)
def sumB (c:B32) (l:List UInt8):B32:=l.foldl stepB c
theorem xor4 (a b c d:B32):(a ^^^ b) ^^^ (c ^^^ d)=(a ^^^ c) ^^^ (b ^^^ d):=by ac_rfl
theorem zuC (x y:B32):bT (x ^^^ y)=bT x ^^^ bT y:=by
 unfold bT
 rw [BitVec.ushiftRight_xor_distrib,xor4 (x>>>1)]
 congr 1
 rw [BitVec.getLsbD_xor]
 cases x.getLsbD 0<;>cases y.getLsbD 0<;>simp
theorem zil (n:Nat) (x y:B32):bN n (x ^^^ y)=bN n x ^^^ bN n y:=by
 induction n with
 |zero=>rfl
 |succ n ih=>simp only [bN,ih,zuC]
theorem zuD (x:B32):(bT x).getLsbD 31=x.getLsbD 0:=by
 unfold bT
 rw [BitVec.getLsbD_xor]
 have h1:(x>>>1).getLsbD 31=false:=by simp
 rw [h1]
 cases x.getLsbD 0<;>simp<;>decide
theorem ztP (x:B32) (h:bT x=0#32):x=0#32:=by
 have h0:x.getLsbD 0=false:=by rw [← zuD,h];simp
 unfold bT at h
 rw [h0] at h
 simp only [Bool.false_eq_true,if_false,BitVec.xor_zero] at h
 apply BitVec.eq_of_getLsbD_eq
 intro i hi
 cases i with
 |zero=>simpa using h0
 |succ i=>
  have:=congrArg (fun y:B32=>y.getLsbD i) h
  simpa [Nat.add_comm] using this
theorem zqc (n:Nat) (x:B32) (h:bN n x=0#32):x=0#32:=by
 induction n with
 |zero=>exact h
 |succ n ih=>exact ih (ztP _ h)
theorem zkL (m n:Nat) (x:B32):bN (m+n) x=bN m (bN n x):=by
 induction m with
 |zero=>rw [Nat.zero_add];rfl
 |succ m ih=>rw [Nat.succ_add];simp only [bN,ih]
theorem znk (n:Nat):∀ (x:B32),(∀i,i<n→x.getLsbD i=false)→bN n x=x>>>n:=by
 induction n with
 |zero=>intro x _;simp [bN]
 |succ n ih=>
  intro x h
  simp only [bN]
  rw [ih x (fun i hi=>h i (by omega))]
  unfold bT
  have:(x>>>n).getLsbD 0=false:=by simpa using h n (by omega)
  rw [this]
  simp only [Bool.false_eq_true,if_false,BitVec.xor_zero]
  rw [← BitVec.shiftRight_add]
def low8 (x:B32):B32:=x&&& 255#32
def high8 (x:B32):B32:=x&&& 4294967040#32
theorem zsd (x:B32):x=low8 x ^^^ high8 x:=by
 have e:(4294967040#32)= ~~~(255#32):=by decide
 unfold low8 high8
 rw [e]
 apply BitVec.eq_of_getLsbD_eq
 intro i hi
 simp only [BitVec.getLsbD_xor,BitVec.getLsbD_and,BitVec.getLsbD_not,hi,decide_true,Bool.true_and]
 cases x.getLsbD i<;>cases (255#32).getLsbD i<;>rfl
theorem zqd (x:B32) (i:Nat) (hi:i<8):(high8 x).getLsbD i=false:=by
 unfold high8
 rw [BitVec.getLsbD_and]
 have:∀i,i<8→(4294967040#32).getLsbD i=false:=by decide
 rw [this i hi,Bool.and_false]
theorem zlU (x:B32):high8 x>>>8=x>>>8:=by
 unfold high8
 apply BitVec.eq_of_getLsbD_eq
 intro i hi
 simp only [BitVec.getLsbD_ushiftRight,BitVec.getLsbD_and]
 by_cases h:8+i<32
 ·have:∀i,i<24→(4294967040#32).getLsbD (8+i)=true:=by decide
  rw [this i (by omega),Bool.and_true]
 ·rw [BitVec.getLsbD_of_ge x _ (by omega),Bool.false_and]
theorem zqe (x:B32):bN 8 x=bN 8 (low8 x) ^^^ (x>>>8):=by
 conv=>lhs;rw [zsd x]
 rw [zil,znk 8 (high8 x) (zqd x),zlU]
theorem zse (b:UInt8):u8B b>>>8=0#32:=by
 have:=b.toNat_lt
 apply BitVec.eq_of_toNat_eq
 simp [u8B,Nat.shiftRight_eq_div_pow]
 omega
theorem ztQ (b:UInt8):low8 (u8B b)=u8B b:=by
 have:=b.toNat_lt
 apply BitVec.eq_of_toNat_eq
 simp only [low8,u8B,BitVec.toNat_and,BitVec.toNat_ofNat]
 rw [show 255 % 2 ^ 32=2 ^ 8 - 1 by decide,Nat.and_two_pow_sub_one_eq_mod]
 omega
theorem zqf (c:B32) (b:UInt8):stepB c b=bN 8 (low8 c ^^^ u8B b) ^^^ (c>>>8):=by
 unfold stepB
 rw [zqe]
 have h1:low8 (c ^^^ u8B b)=low8 c ^^^ u8B b:=by
  conv=>rhs;rw [← ztQ b]
  unfold low8
  apply BitVec.eq_of_getLsbD_eq
  intro i hi
  simp only [BitVec.getLsbD_xor,BitVec.getLsbD_and]
  cases c.getLsbD i<;>cases (u8B b).getLsbD i<;>cases (255#32).getLsbD i<;>rfl
 rw [h1,BitVec.ushiftRight_xor_distrib,zse,BitVec.xor_zero]
theorem ztR (a b:UInt8):u8B (a ^^^ b)=u8B a ^^^ u8B b:=by
 apply BitVec.eq_of_toNat_eq
 have:=a.toNat_lt
 have:=b.toNat_lt
 have h:=Nat.xor_lt_two_pow (n:=32) (x:=a.toNat) (y:=b.toNat) (by omega) (by omega)
 simp only [u8B,BitVec.toNat_xor,BitVec.toNat_ofNat,UInt8.toNat_xor]
 rw [Nat.mod_eq_of_lt (by omega),Nat.mod_eq_of_lt (by omega),Nat.mod_eq_of_lt (by omega)]
def xorL (a b:List UInt8):List UInt8:=List.zipWith (· ^^^ ·) a b
theorem zqg (c d:B32) (a b:UInt8):stepB (c ^^^ d) (a ^^^ b)=stepB c a ^^^ stepB d b:=by
 unfold stepB
 rw [ztR,xor4,zil]
theorem zja:∀ (a b:List UInt8) (c d:B32),a.length=b.length→sumB (c ^^^ d) (xorL a b)=sumB c a ^^^ sumB d b
 | [],[],c,d,_=>rfl
 |x::a,y::b,c,d,h=>by
  simp only [xorL,List.zipWith_cons_cons,sumB,List.foldl_cons]
  rw [zqg]
  exact zja a b _ _ (by simpa using h)
 | [],_::_,_,_,h=>by simp at h
 |_::_,[],_,_,h=>by simp at h
theorem zcM (c:B32) (a b:List UInt8):sumB c (a++b)=sumB (sumB c a) b:=by simp [sumB,List.foldl_append]
theorem zoc (n:Nat) (c:B32):sumB c (List.replicate n 0)=bN (8*n) c:=by
 induction n generalizing c with
 |zero=>rfl
 |succ n ih=>
  rw [List.replicate_succ]
  simp only [sumB,List.foldl_cons]
  have:stepB c 0=bN 8 c:=by simp [stepB,u8B]
  rw [this]
  have:=ih (bN 8 c)
  unfold sumB at this
  rw [this,← zkL,Nat.mul_succ]
theorem sum4 (p q r s:UInt8):sumB 0#32 [p,q,r,s]=bN 32 (u8B p ^^^ (u8B q<<<8) ^^^ (u8B r<<<16) ^^^ (u8B s<<<24)):=by
 have sh:∀ (b:UInt8) (k:Nat),k≤24→bN k (u8B b<<<k)=u8B b:=fun b k hk=>by
  rw [znk k _ (fun i hi=>by rw [BitVec.getLsbD_shiftLeft];simp [hi])]
  have:=b.toNat_lt
  apply BitVec.eq_of_toNat_eq
  simp only [u8B,BitVec.toNat_ushiftRight,BitVec.toNat_shiftLeft,BitVec.toNat_ofNat]
  rw [Nat.mod_eq_of_lt (show b.toNat<2 ^ 32 by omega),Nat.shiftLeft_eq,Nat.shiftRight_eq_div_pow]
  have h2:b.toNat*2 ^ k<2 ^ 32:=by
   have:(2:Nat) ^ k≤2 ^ 24:=Nat.pow_le_pow_right (by omega) hk
   calc b.toNat*2 ^ k≤b.toNat*2 ^ 24:=Nat.mul_le_mul_left _ this
    _<2 ^ 32:=by omega
  rw [Nat.mod_eq_of_lt h2,Nat.mul_div_cancel _ (Nat.pow_pos (by omega))]
 simp only [sumB,List.foldl_cons,List.foldl_nil,stepB,BitVec.zero_xor]
 rw [zil 32,zil 32,zil 32]
 rw [show bN 32 (u8B s<<<24)=bN 8 (u8B s) from (zkL 8 24 _).trans (congrArg (bN 8) (sh s 24 (by omega)))]
 rw [show bN 32 (u8B r<<<16)=bN 16 (u8B r) from (zkL 16 16 _).trans (congrArg (bN 16) (sh r 16 (by omega)))]
 rw [show bN 32 (u8B q<<<8)=bN 24 (u8B q) from (zkL 24 8 _).trans (congrArg (bN 24) (sh q 8 (by omega)))]
 simp only [zil,← zkL]
theorem unlike (c:B32) (a m n z:List UInt8) (p q r s:UInt8) (hm:m=xorL n [p,q,r,s]) (hn:n.length=4) (h0:u8B p ^^^ (u8B q<<<8) ^^^ (u8B r<<<16) ^^^ (u8B s<<<24)≠0#32):sumB c (a++n++z)≠sumB c (a++m++z):=by
 intro h
 rw [zcM,zcM,zcM,zcM] at h
 subst hm
 have e1:sumB (sumB c a) (xorL n [p,q,r,s])=sumB (sumB c a) n ^^^ sumB 0#32 [p,q,r,s]:=by
  have:=zja n [p,q,r,s] (sumB c a) 0#32 (by simpa using hn)
  rwa [BitVec.xor_zero] at this
 rw [e1] at h
 have zz:∀z:List UInt8,xorL z (List.replicate z.length 0)=z:=by
  intro z
  induction z with
  |nil=>rfl
  |cons x z ih=>
   rw [List.length_cons,List.replicate_succ]
   simp only [xorL,List.zipWith_cons_cons]
   unfold xorL at ih
   rw [ih];simp
 have e2:=zja z (List.replicate z.length 0) (sumB (sumB c a) n) (sumB 0#32 [p,q,r,s]) (by simp)
 rw [zz,zoc] at e2
 rw [e2] at h
 have h3:bN (8*z.length) (sumB 0#32 [p,q,r,s])=0#32:=by
  have:=congrArg (fun x=>sumB (sumB (sumB c a) n) z ^^^ x) h
  simp only [BitVec.xor_self,← BitVec.xor_assoc,BitVec.zero_xor] at this
  exact this.symm
 have h4:=zqc _ _ h3
 rw [sum4] at h4
 exact h0 (zqc _ _ h4)
def toI (x:B32):Int:=x.toNat
theorem zkM (n:Nat) (h:n<4294967296):toI (BitVec.ofNat 32 n)=n:=by
 unfold toI
 rw [BitVec.toNat_ofNat,Nat.mod_eq_of_lt h]
theorem ofI (c:Int) (h0:0≤c) (h1:c≤4294967295):∃x:B32,c=toI x:=
 ⟨BitVec.ofNat 32 c.toNat,by rw [zkM _ (by omega)];omega⟩
theorem znl (x:B32):BitVec.ofInt 32 (toI x)=x:=by
 unfold toI
 rw [BitVec.ofInt_natCast]
 simp
theorem zdn (x y:B32):ibits .xor .u32 (toI x) (toI y)=toI (x ^^^ y):=by
 show IntKind.u32.wrap ((BitVec.ofInt 32 (toI x) ^^^ BitVec.ofInt 32 (toI y)).toNat:Int)=_
 rw [znl,znl]
 have:=(x ^^^ y).isLt
 unfold toI
 rw [IntKind.wrap_u32]
 omega
theorem zqh (x y:B32):ibits .and .u32 (toI x) (toI y)=toI (x&&& y):=by
 show IntKind.u32.wrap ((BitVec.ofInt 32 (toI x)&&& BitVec.ofInt 32 (toI y)).toNat:Int)=_
 rw [znl,znl]
 have:=(x&&& y).isLt
 unfold toI
 rw [IntKind.wrap_u32]
 omega
theorem zgk (x:B32) (k:Nat) (hk:k≤32):ishr .u32 (toI x) (k:Int)=toI (x>>>k):=by
 unfold toI
 rw [zsc _ _ hk,BitVec.toNat_ushiftRight,Nat.shiftRight_eq_div_pow]
theorem zsf (x:B32):bitT (toI x)=toI (bT x):=by
 unfold bitT bT
 have h1:(1:Int)=toI 1#32:=by decide
 have hs:ishr .u32 (toI x) 1=toI (x>>>1):=zgk x 1 (by omega)
 rw [hs]
 have ha:ibits .and .u32 (toI x) 1=toI (x&&& 1#32):=by rw [h1,zqh]
 rw [ha]
 have hb:x&&& 1#32=if x.getLsbD 0 then 1#32 else 0#32:=by
  apply BitVec.eq_of_getLsbD_eq
  intro i hi
  rw [BitVec.getLsbD_and]
  cases i with
  |zero=>cases x.getLsbD 0<;>rfl
  |succ i=>
   have:(1#32).getLsbD (i+1)=false:=by simp [BitVec.getLsbD_one]
   rw [this,Bool.and_false]
   split<;>simp
 rw [hb]
 cases x.getLsbD 0
 ·simp only [Bool.false_eq_true,if_false]
  rw [show IntKind.u32.wrap (toI 0#32*2197175160)=toI 0#32 by decide,zdn]
 ·simp only [if_true]
  rw [show IntKind.u32.wrap (toI 1#32*2197175160)=toI polyB by decide,zdn]
theorem zqi (n:Nat) (x:B32):bitsT n (toI x)=toI (bN n x):=by
 induction n with
 |zero=>rfl
 |succ n ih=>simp only [bitsT,bN,ih,zsf]
theorem zsg (x:B32) (h:x.toNat<4294967296):tabF x.toNat=toI (bN 8 x):=by
 unfold tabF
 have:IntKind.u32.wrap (x.toNat:Int)=toI x:=by
  unfold toI
  rw [IntKind.wrap_u32];omega
 rw [this,zqi]
theorem zod (x:B32) (b:UInt8):(ibits .xor .u8 (IntKind.u8.wrap (toI x)) b.toNat).toNat=(low8 x ^^^ u8B b).toNat:=by
 have hb:=b.toNat_lt
 have h1:IntKind.u8.wrap (toI x)=((x.toNat % 256:Nat):Int):=by
  unfold toI
  rw [IntKind.wrap_u8];omega
 rw [h1]
 have hx:x.toNat % 256<256:=Nat.mod_lt _ (by omega)
 have h2:=Nat.xor_lt_two_pow (n:=8) (x:=x.toNat % 256) (y:=b.toNat) (by omega) (by omega)
 have h3:(low8 x ^^^ u8B b).toNat=(x.toNat % 256) ^^^ b.toNat:=by
  simp only [low8,u8B,BitVec.toNat_xor,BitVec.toNat_and,BitVec.toNat_ofNat]
  rw [show 255 % 2 ^ 32=2 ^ 8 - 1 by decide,Nat.and_two_pow_sub_one_eq_mod,Nat.mod_eq_of_lt (show b.toNat<2 ^ 32 by omega)]
 rw [h3]
 show (IntKind.u8.wrap ((BitVec.ofInt 8 ((x.toNat % 256:Nat):Int) ^^^ BitVec.ofInt 8 ((b.toNat:Nat):Int)).toNat:Int)).toNat=_
 rw [BitVec.ofInt_natCast,BitVec.ofInt_natCast,BitVec.toNat_xor,BitVec.toNat_ofNat,BitVec.toNat_ofNat,Nat.mod_eq_of_lt (show x.toNat % 256<2 ^ 8 by omega),Nat.mod_eq_of_lt (show b.toNat<2 ^ 8 by omega),IntKind.wrap_u8]
 omega
theorem zqj (x:B32) (b:UInt8):byteS (toI x) b=toI (stepB x b):=by
 unfold byteS
 rw [zod,zsg _ (BitVec.isLt _),show ishr .u32 (toI x) 8=toI (x>>>8) from zgk x 8 (by omega),zdn,zqf]
theorem zsh (x:B32) (l:List UInt8):sumS (toI x) l=toI (sumB x l):=by
 induction l generalizing x with
 |nil=>rfl
 |cons b l ih=>
  simp only [sumS,sumB,List.foldl_cons,zqj] at*
  exact ih _
def onesB:B32:=4294967295#32
theorem zjb (x:B32):notS (toI x)=toI (onesB ^^^ x):=by
 unfold notS
 rw [show (if IntKind.u32.signed=true then (-1:Int) else IntKind.u32.max)=toI onesB from by decide,zdn]
theorem zkN (x:B32) (l:List UInt8):sumOf (toI x) l=toI (onesB ^^^ sumB (onesB ^^^ x) l):=by
 unfold sumOf
 rw [zjb,zsh,zjb]
open Go Go.Proofs
theorem ztS (b:UInt8):IntKind.u32.wrap (b.toNat:Int)=toI (u8B b):=by
 have:=b.toNat_lt
 unfold u8B
 rw [zkM _ (by omega),IntKind.wrap_u32]
 omega
theorem rem2 (x:B32):((toI x).tmod 2==1)=x.getLsbD 0:=by
 unfold toI
 have h0:(x.toNat:Int).tmod 2=((x.toNat % 2:Nat):Int):=by rw [Int.tmod_eq_emod_of_nonneg (by omega)];omega
 rw [h0]
 have h1:x.getLsbD 0=decide (x.toNat % 2=1):=by
  rw [BitVec.getLsbD,Nat.testBit_zero]
 rw [h1]
 rcases Nat.mod_two_eq_zero_or_one x.toNat with h|h<;>rw [h]<;>rfl
theorem zqk (x:B32) (h:x.getLsbD 0=true):ibits .xor .u32 (ishr .u32 (toI x) 1) 2197175160=toI (bT x):=by
 rw [show ishr .u32 (toI x) 1=toI (x>>>1) from zgk x 1 (by omega),show (2197175160:Int)=toI polyB by decide,zdn]
 unfold bT
 rw [h];rfl
theorem zoe (x:B32) (h:x.getLsbD 0=false):ishr .u32 (toI x) 1=toI (bT x):=by
 rw [show ishr .u32 (toI x) 1=toI (x>>>1) from zgk x 1 (by omega)]
 unfold bT
 rw [h];simp
theorem zof (x:B32) (l:List UInt8) (hl:l.length≤9223372036854775807):ACall Tryz.prog 138 0 [.d (.int .u32 (toI x)),.d (.str l)] [] (fun r _=>r= .d (.int .u32 (toI (onesB ^^^ sumB (onesB ^^^ x) l)))):=by
 have hnot:∀y:B32,ibits .xor .u32 (if IntKind.u32.signed=true then (-1:Int) else IntKind.u32.max) (toI y)=toI (onesB ^^^ y):=zjb
 refine zaj Tryz.func138 rfl (zce Tryz.func138 (by kernel_rfl) rfl) Tryz.ntmps138 (by simp) (fun base=>?_)
 refine zf noTab (zb _) (fun K hK=>?_);simp only [go_sem,Nat.le_refl,List.append_toArray,List.range_zero,List.append_eq,Int.toNat_natCast,aeq,aeq.aeqF,simprocAttr]
 refine hK _ ?_;clear hK K
 refine zf noTab (zb _) (fun K hK=>?_);simp only [go_sem,Nat.le_refl,List.append_toArray,List.range_zero,List.append_eq,Int.toNat_natCast,aeq,aeq.aeqF,simprocAttr,hnot]
 refine hK _ ?_;clear hK K
 refine zj (fun K1 hK1=>?_)
 refine zf noTab (zb _) (fun K hK=>?_);simp only [go_sem,Nat.le_refl,List.append_toArray,List.range_zero,List.append_eq,Int.toNat_natCast,aeq,aeq.aeqF,simprocAttr]
 refine hK _ ?_;clear hK K
 refine zav ?_
 refine zn (fun i: {i:Nat // i≤l.length} =>⟨[(1,true,.d (.str l)),(5,true,.d (.int .u32 (toI (sumB (onesB ^^^ x) (l.take i.1))))),(6,true,.d (.int .i64 i.1))],[],some []⟩) (fun i=>l.length - i.1) ⟨0,by omega⟩ (by simp only [AS.le,leT,leH,zc,AsgK,AV.le,AV.leL,AObj.le,inH,idsT,idsH,AV.ids,AV.idsL,AV.idsR,AObj.ids,lk,hget,go_sem,Nat.le_refl,List.append_toArray,List.range_zero,List.append_eq,Int.toNat_natCast,aeq,aeq.aeqF,simprocAttr]<;>simp [sumB]) (fun i=>?_)
 obtain ⟨i,hi⟩:=i
 refine zj (fun K2 hK2=>?_)
 refine zf noTab (zb _) (fun K hK=>?_);simp only [go_sem,Nat.le_refl,List.append_toArray,List.range_zero,List.append_eq,Int.toNat_natCast,aeq,aeq.aeqF,simprocAttr]
 refine hK _ ?_;clear hK K
 refine zi rfl (fun hc=>?_) (fun hc=>?_)
 ·refine zcz ?_;simp only [go_sem,Nat.le_refl,List.append_toArray,List.range_zero,List.append_eq,Int.toNat_natCast,aeq,aeq.aeqF,simprocAttr];refine hK2 _ ?_;clear hK2 K2
  have hil:i<l.length:=by simp at hc;omega
  obtain ⟨b,hb⟩:∃b,l[i]?=some b:=⟨l[i],by simp [hil]⟩
  have hgd:l.getD i 0=b:=by simp [List.getD_eq_getElem?_getD,hb]
  refine zj (fun K3 hK3=>?_)
  refine zav ?_
  refine zf noTab (zb _) (fun K hK=>?_);simp only [go_sem,Nat.le_refl,List.append_toArray,List.range_zero,List.append_eq,Int.toNat_natCast,aeq,aeq.aeqF,simprocAttr,hgd,ztS,zdn]
  refine ⟨⟨by omega,by omega⟩,hK _ ?_⟩
  clear hK
  refine zf noTab (zb _) (fun K hK=>?_);simp only [go_sem,Nat.le_refl,List.append_toArray,List.range_zero,List.append_eq,Int.toNat_natCast,aeq,aeq.aeqF,simprocAttr]
  refine hK _ ?_;clear hK K
  refine zav ?_
  refine zn (fun k: {k:Nat // k≤8} =>⟨[(1,true,.d (.str l)),(6,true,.d (.int .i64 i)),(5,true,.d (.int .u32 (toI (bN k.1 (sumB (onesB ^^^ x) (l.take i) ^^^ u8B b))))),(7,true,.d (.int .i64 k.1))],[],some []⟩) (fun k=>8 - k.1) ⟨0,by omega⟩ (by simp only [AS.le,leT,leH,zc,AsgK,AV.le,AV.leL,AObj.le,inH,idsT,idsH,AV.ids,AV.idsL,AV.idsR,AObj.ids,lk,hget,go_sem,Nat.le_refl,List.append_toArray,List.range_zero,List.append_eq,Int.toNat_natCast,aeq,aeq.aeqF,simprocAttr]<;>simp [bN]) (fun k=>?_)
  obtain ⟨k,hk⟩:=k
  refine zj (fun K4 hK4=>?_)
  refine zf noTab (zb _) (fun K hK=>?_);simp only [go_sem,Nat.le_refl,List.append_toArray,List.range_zero,List.append_eq,Int.toNat_natCast,aeq,aeq.aeqF,simprocAttr]
  refine hK _ ?_;clear hK K
  refine zi rfl (fun hc=>?_) (fun hc=>?_)
  ·refine zcz ?_;simp only [go_sem,Nat.le_refl,List.append_toArray,List.range_zero,List.append_eq,Int.toNat_natCast,aeq,aeq.aeqF,simprocAttr];refine hK4 _ ?_;clear hK4 K4
   have hkl:k<8:=by simp at hc;omega
   have hw:IntKind.i64.wrap ((k:Int)+1)=((k+1:Nat):Int):=by rw [IntKind.wrap_i64];omega
   refine zj (fun K5 hK5=>?_)
   refine zav ?_
   refine zf noTab (zb _) (fun K hK=>?_);simp only [go_sem,Nat.le_refl,List.append_toArray,List.range_zero,List.append_eq,Int.toNat_natCast,aeq,aeq.aeqF,simprocAttr,rem2]
   refine hK _ ?_;clear hK K
   refine zi rfl (fun hc=>?_) (fun hc=>?_)
   ·have hb1:(bN k (sumB (onesB ^^^ x) (l.take i) ^^^ u8B b)).getLsbD 0=true:=by simpa using hc
    refine zL noTab (zb _) ?_;simp only [go_sem,Nat.le_refl,List.append_toArray,List.range_zero,List.append_eq,Int.toNat_natCast,aeq,aeq.aeqF,simprocAttr,zqk _ hb1]
    refine hK5 _ ?_;clear hK5 K5
    refine zL noTab (zb _) ?_;simp only [go_sem,Nat.le_refl,List.append_toArray,List.range_zero,List.append_eq,Int.toNat_natCast,aeq,aeq.aeqF,simprocAttr]
    refine ⟨⟨k+1,by omega⟩,?_,by simp;omega⟩
    rw [hw]
    simp only [AS.le,leT,leH,zc,AsgK,AV.le,AV.leL,AObj.le,inH,idsT,idsH,AV.ids,AV.idsL,AV.idsR,AObj.ids,lk,hget,go_sem,Nat.le_refl,List.append_toArray,List.range_zero,List.append_eq,Int.toNat_natCast,aeq,aeq.aeqF,simprocAttr]
    try rfl
   ·have hb1:(bN k (sumB (onesB ^^^ x) (l.take i) ^^^ u8B b)).getLsbD 0=false:=by simpa using hc
    refine zL noTab (zb _) ?_;simp only [go_sem,Nat.le_refl,List.append_toArray,List.range_zero,List.append_eq,Int.toNat_natCast,aeq,aeq.aeqF,simprocAttr,zoe _ hb1]
    refine hK5 _ ?_;clear hK5 K5
    refine zL noTab (zb _) ?_;simp only [go_sem,Nat.le_refl,List.append_toArray,List.range_zero,List.append_eq,Int.toNat_natCast,aeq,aeq.aeqF,simprocAttr]
    refine ⟨⟨k+1,by omega⟩,?_,by simp;omega⟩
    rw [hw]
    simp only [AS.le,leT,leH,zc,AsgK,AV.le,AV.leL,AObj.le,inH,idsT,idsH,AV.ids,AV.idsL,AV.idsR,AObj.ids,lk,hget,go_sem,Nat.le_refl,List.append_toArray,List.range_zero,List.append_eq,Int.toNat_natCast,aeq,aeq.aeqF,simprocAttr]
    try rfl
  ·refine zcA ?_;simp only [go_sem,Nat.le_refl,List.append_toArray,List.range_zero,List.append_eq,Int.toNat_natCast,aeq,aeq.aeqF,simprocAttr];refine hK3 _ ?_
   have hk8:k=8:=by simp at hc;omega
   subst hk8
   refine zL noTab (zb _) ?_;simp only [go_sem,Nat.le_refl,List.append_toArray,List.range_zero,List.append_eq,Int.toNat_natCast,aeq,aeq.aeqF,simprocAttr]
   have hw:IntKind.i64.wrap ((i:Int)+1)=((i+1:Nat):Int):=by rw [IntKind.wrap_i64];omega
   refine ⟨⟨i+1,by omega⟩,?_,by simp;omega⟩
   rw [hw]
   have hs:sumB (onesB ^^^ x) (l.take (i+1))=bN 8 (sumB (onesB ^^^ x) (l.take i) ^^^ u8B b):=by
    rw [List.take_add_one,hb,Option.toList_some,zcM];rfl
   rw [hs]
   simp only [AS.le,leT,leH,zc,AsgK,AV.le,AV.leL,AObj.le,inH,idsT,idsH,AV.ids,AV.idsL,AV.idsR,AObj.ids,lk,hget,go_sem,Nat.le_refl,List.append_toArray,List.range_zero,List.append_eq,Int.toNat_natCast,aeq,aeq.aeqF,simprocAttr]
 ·refine zcA ?_;simp only [go_sem,Nat.le_refl,List.append_toArray,List.range_zero,List.append_eq,Int.toNat_natCast,aeq,aeq.aeqF,simprocAttr];refine hK1 _ ?_
  have hil:i=l.length:=by simp at hc;omega
  subst hil
  refine zf noTab (zb _) (fun K hK=>?_);simp only [go_sem,Nat.le_refl,List.append_toArray,List.range_zero,List.append_eq,Int.toNat_natCast,aeq,aeq.aeqF,simprocAttr,hnot]
  refine hK _ ?_;clear hK K
  refine zu ?_;simp only [go_sem,Nat.le_refl,List.append_toArray,List.range_zero,List.append_eq,Int.toNat_natCast,aeq,aeq.aeqF,simprocAttr,Tryz.results138]
  try rw [List.take_length]
theorem zlV (c:Int) (l:List UInt8) (h0:0≤c) (h1:c≤4294967295) (hl:l.length≤9223372036854775807):ACall Tryz.prog 138 0 [.d (.int .u32 c),.d (.str l)] [] (fun r _=>r= .d (.int .u32 (sumOf c l))):=by
 obtain ⟨x,rfl⟩:=ofI c h0 h1
 rw [zkN]
 exact zof x l hl
theorem zlW (c:Int) (h0:0≤c) (h1:c≤4294967295):ACall Tryz.prog 60 0 [.d (.int .u32 c)] [] (fun r _=>r= .d (.str (zex c))):=by
 refine zaj Tryz.func60 rfl (zce Tryz.func60 (by kernel_rfl) rfl) Tryz.ntmps60 (by simp) (fun base=>?_)
 refine zf noTab (zb _) (fun K hK=>?_);simp only [go_sem,Nat.le_refl,List.append_toArray,List.range_zero,List.append_eq,Int.toNat_natCast,aeq,aeq.aeqF,simprocAttr]
 refine hK _ ?_;clear hK K
 refine zf noTab (zb _) (fun K hK=>?_);simp only [go_sem,Nat.le_refl,List.append_toArray,List.range_zero,List.append_eq,Int.toNat_natCast,aeq,aeq.aeqF,simprocAttr]
 refine ⟨rfl,hK _ ?_⟩
 clear hK K
 refine zu ?_;simp only [go_sem,Nat.le_refl,List.append_toArray,List.range_zero,List.append_eq,Int.toNat_natCast,aeq,aeq.aeqF,simprocAttr,Tryz.results60]
 have e3:zbH c 3=IntKind.u8.wrap c:=by
  unfold zbH ishr
  rw [show IntKind.i64.wrap (24 - IntKind.i64.wrap (8*((3:Nat):Int)))=0 by decide]
  simp
 have e2:zbH c 2=IntKind.u8.wrap (ishr .u32 c 8):=by
  unfold zbH
  rw [show IntKind.i64.wrap (24 - IntKind.i64.wrap (8*((2:Nat):Int)))=8 by decide]
 have e1:zbH c 1=IntKind.u8.wrap (ishr .u32 c 16):=by
  unfold zbH
  rw [show IntKind.i64.wrap (24 - IntKind.i64.wrap (8*((1:Nat):Int)))=16 by decide]
 have e0:zbH c 0=IntKind.u8.wrap (ishr .u32 c 24):=by
  unfold zbH
  rw [show IntKind.i64.wrap (24 - IntKind.i64.wrap (8*((0:Nat):Int)))=24 by decide]
 simp only [zex,bytesOf,List.map_cons,List.map_nil,numOf,e0,e1,e2,e3]
theorem zeH (c:Int) (l:List UInt8) (h0:0≤c) (h1:c≤4294967295):0≤sumOf c l∧sumOf c l≤4294967295:=by
 obtain ⟨x,rfl⟩:=ofI c h0 h1
 rw [zkN]
 unfold toI
 have:=(onesB ^^^ sumB (onesB ^^^ x) l).isLt
 omega
open Go Go.Proofs
@[go_sem] noncomputable def zaL:Ent Tryz.prog 138:= .ofL (consL (intT .u32) (consL strT nilL)) (fun (c,l,_)=>(0≤c)∧(c≤4294967295)∧(l.length≤9223372036854775807)) (fun (c,l,_)=> .d (.int .u32 (sumOf c l))) (fun (c,l,_) hp=>⟨rfl,zlV c l hp.1 hp.2.1 hp.2.2⟩)
@[go_sem] noncomputable def zac:Ent Tryz.prog 60:= .ofL (consL (intT .u32) nilL) (fun (c,_)=>(0≤c)∧(c≤4294967295)) (fun (c,_)=> .d (.str (zex c))) (fun (c,_) hp=>⟨rfl,zlW c hp.1 hp.2⟩)
theorem zsi (l:List UInt8) (hl:l.length≤9223372036854775807):ACall Tryz.prog 61 0 [.d (.str l)] [] (fun r _=>r= .d (.int .u32 (sumOf 0 l))):=by
 refine bod Tryz.func61 Tryz.ntmps61 (fun base=>?_)
 (have tk:=za zaL <| zb Tryz.prog;repeat' (first|(refine hK _ ?_;clear hK K)|refine wa fun K hK=>?_|refine wb ?_|refine wc ?_ ?_|exact we|clear hK K))
@[go_sem] noncomputable def zaN:Ent Tryz.prog 61:= .ofL (consL strT nilL) (fun (l,_)=>l.length≤9223372036854775807) (fun (l,_)=> .d (.int .u32 (sumOf 0 l))) (fun (l,_) hp=>⟨rfl,zsi l hp⟩)
end Go.Aw
namespace Go.Proofs.YtglmbboafmmnpaaGreatDoor
open Go Go.RowKit
theorem bsize:∃j,Tryz.prog.info? 237=some j∧j.size=2:=by
 obtain ⟨j,hj,hjs⟩:=Option.map_eq_some_iff.1 (show (Tryz.prog.info? 237).map (·.size)=some 2 by kernel_rfl)
 exact ⟨j,hj,hjs⟩
theorem zqx (b o:Nat) (w:World) (h0:w.cell? ⟨b,o,none⟩=some (.pointer (some ⟨b,o,none⟩))):
  Calls Tryz.prog 242 #[.pointer (some ⟨b,o,none⟩)] w fun e w'=>e= .returned (.tuple #[])∧w'=w:=by
 obtain ⟨j,hj,hjs⟩:=bsize
 go_enter Tryz.func242,Tryz.ntmps242
 go_wp2
 rw [Lib.run_neq_ptr_same w _ Tryz.underlying235 hj]
 go_wp2
 go_end0
 exact ⟨rfl,rfl⟩
theorem zow (b o n:Nat) (T:TypeId) (w:World) (h0:w.cell? ⟨b,o,none⟩=some (.pointer none)) (hsh:w.shape? b=some (T,n)) (hlt:o<n) (hl:liesAt Tryz.prog Tryz.prog.depth T (n / Tryz.prog.cellsOf T) o 237 1=true) (hfz:w.frozen? ⟨b,o,none⟩=false):
  Calls Tryz.prog 242 #[.pointer (some ⟨b,o,none⟩)] w fun e w'=>e= .returned (.tuple #[])∧w'=w.setCell ⟨b,o,none⟩ (.pointer (some ⟨b,o,none⟩)):=by
 obtain ⟨j,hj,hjs⟩:=bsize
 go_enter Tryz.func242,Tryz.ntmps242
 go_wp2
 rw [Lib.run_to_unsafe w ⟨b,o,none⟩ Tryz.underlying235 Tryz.underlying338 hj (by rw [hjs];decide) hsh hlt]
 simp only [Result.andThen]
 rw [Oper.upon_value]
 go_wp2
 rw [run_callFunc_extern Tryz.func285 (by kernel_rfl) (by kernel_rfl) (by kernel_rfl) (e:=Extern.AbiNoEscape.same) (by kernel_rfl)]
 rw [Lib.run_noEscape]
 simp only [Result.andThen]
 rw [Oper.upon_value]
 go_wp2
 rw [Lib.run_from_unsafe w ⟨b,o,none⟩ Tryz.underlying338 Tryz.underlying235 hj hsh hl]
 simp only [Result.andThen]
 rw [Oper.upon_value]
 go_wp2
 go_end0
 exact ⟨rfl,rfl⟩
end Go.Proofs.YtglmbboafmmnpaaGreatDoor
namespace Go.Proofs.YtglmbboafmmnpaaGreatDoor
open Go
section
variable {P : Program}
open Go.Lib
theorem zhb (w:World) (base:Nat) (t u ty e:TypeId) (i:TypeInfo) (ht:P.underlying t=some (.slice e)) (hu:P.underlying u=some .string) (hi:P.info? e=some i) (hz:i.zero=some (.int .u8 0))
  (hsize:i.size=1) (hby:i.bytes=1)
  (v:Value) (n:Nat) (xs:List Value) (hown:w.ownsRow base e 1 v n xs) (s:ByteArray)
  (h63:n+s.size≤maxLen) (hbytes:n+s.size≤140737488355328) (hbase:base≤w.heap.size):
  ∃v' w',(Builtin.append_ #[t,u] ty #[v,.string s]).run P w= .ok v' w'∧w'.ownsRow base e 1 v' (n+s.size) (xs++strCells s)∧w.grownBy w' v.ownBlock∧
   ((∀g,v'.ownBlock=some g→v.ownBlock=some g∨(w.heap.size≤g∧g<w'.heap.size))∧(s.size=0→v'=v)):=by
 have hsmall:n+s.size≤9223372036854775807:=by simp only [maxLen] at h63;omega
 have hxl:xs.length=n:=by simpa using hown.1
 have hlen:(xs++strCells s).length=(n+s.size)*1:=by rw [List.length_append,hxl,strCells_length,Nat.mul_one]
 have grown:∀ (old:Nat),old<n+s.size→∀ (row:Option Nat),
   (w.drew.alloc (.cells (xs.toArray++(strCells s).toArray++Builtin.zeroCells (Value.int .u8 0).cells (grownCap w (n+s.size) old e - (n+s.size))) e)).ownsRow base e 1
    (.slice (some ⟨w.heap.size,0,none⟩) (n+s.size) (grownCap w (n+s.size) old e)) (n+s.size) (xs++strCells s)∧
   w.grownBy (w.drew.alloc (.cells (xs.toArray++(strCells s).toArray++Builtin.zeroCells (Value.int .u8 0).cells (grownCap w (n+s.size) old e - (n+s.size))) e)) row:=by
  intro old ho row
  have hge:=grownCap_ge w (n+s.size) old e
  have hcm:grownCap w (n+s.size) old e≤maxLen:=grownCap_le_maxLen w (n+s.size) old e h63
  refine ⟨⟨hlen,.inr ⟨w.heap.size,_,_,rfl,hbase,Go.heap_alloc_new w.drew _,hge,hcm,?_,?_⟩⟩,⟨rfl,rfl,rfl,by simp,fun k hk _=>Go.heap_alloc_old w.drew _ hk⟩⟩
  ·have hz1:(Value.int IntKind.u8 0).cells.size=1:=rfl
   simp only [Array.size_append,List.size_toArray,size_zeroCells,hz1,hxl,strCells_length]
   omega
  ·simp only [Array.toList_append,List.append_assoc]
   rw [← List.append_assoc,← hlen]
   exact List.take_left
 rcases hown.2 with ⟨rfl,rfl⟩|⟨g,cap,cur,rfl,hbg,hg,hnc,hcm,hcs,htake⟩
 ·have hx:xs= []:=List.eq_nil_of_length_eq_zero hxl
  subst hx
  by_cases hm:s.size=0
  ·have hn:strCells s= []:=List.eq_nil_of_length_eq_zero (by rw [strCells_length];exact hm)
   refine ⟨.slice none 0 0,w,?_,by rw [hm,hn];exact World.ownsRow_nil w base e 1,⟨rfl,rfl,rfl,Nat.le_refl _,fun _ _ _=>rfl⟩,fun g hg=> .inl hg,fun _=>rfl⟩
   have hf:=run_firstCells_string (P:=P) w 1 s
   rw [hm] at hf
   simp [Builtin.append_,run_underlying ht,run_underlying hu,sizeOf,typeInfo,hi,hsize,Builtin.lenOf,hm,hf]
  ·have hr:=run_append_nil_string (P:=P) w t u ty e i (.int .u8 0) ht hu hi hz s (by omega) (by omega) (by rw [hby];omega)
   have hgr:=grown 0 (by omega) (Value.ownBlock (.slice none 0 0))
   simp only [Nat.zero_add,List.nil_append,Array.empty_append] at hgr ⊢
   have e1:(s.data.map fun b=>Value.int .u8 b.toNat)=(strCells s).toArray:=by
    apply Array.ext'
    simp [strCells]
   rw [e1] at hr
   exact ⟨_,_,hr,hgr.1,hgr.2,fun g hg=> .inr (by simp [Value.ownBlock] at hg;subst hg;simp),fun e=>absurd e hm⟩
 ·by_cases hroom:n+s.size≤cap
  ·have hcs':cur.size=cap:=by simpa using hcs
   have hr:=run_append_room_string (P:=P) w t u ty e i ht hu hi hsize g n cap cur hg s hroom (by omega)
   refine ⟨_,_,hr,⟨hlen,.inr ⟨g,cap,_,rfl,hbg,setRow_heap w g cur _ e _ hg,hroom,hcm,?_,?_⟩⟩,⟨rfl,rfl,rfl,by simp,fun k _ hk=>setRow_other w g k _ (fun e=>hk (by simp [Value.ownBlock,e]))⟩,fun g hg=> .inl hg,fun e=>by rw [e];rfl⟩
   ·simp only [List.size_toArray,List.length_append,List.length_take,List.length_drop,Array.length_toList,strCells_length]
    omega
   ·have ht':cur.toList.take n=xs:=by simpa using htake
    rw [ht',← hlen]
    exact List.take_left
  ·have holds:∀j u,xs[j]?=some u→w.cell? ((⟨g,0,none⟩:Addr).add j)=some u:=hown.cells (g:=g) rfl
   have hr:=run_append_grow_string (P:=P) w t u ty e i (.int .u8 0) ht hu hi hz ⟨g,0,none⟩ n cap xs (by rw [hsize];simpa using hxl) holds s (by omega) (by omega) (by rw [hby];exact growslice_fits (by omega) (by omega))
   have hgr:=grown cap (by omega) (Value.ownBlock (.slice (some ⟨g,0,none⟩) n cap))
   exact ⟨_,_,hr,hgr.1,hgr.2,fun g hg=> .inr (by simp [Value.ownBlock] at hg;subst hg;simp),fun e=>by omega⟩
theorem ze7 (w:World) {ops:Array Oper} {rest:List Oper} {o:Oper} {a:Act} {Q:Exit→Act→World→Prop} (hgd:o.guard=none) (sl x:Operand) (t u:TypeId)
  (ho:o.op= .call { callee:= .builtin .append,args:= #[sl,x],argTypes:= #[t,u] })
  (base:Nat) (e:TypeId) (i:TypeInfo) (ht:P.underlying t=some (.slice e)) (hu:P.underlying u=some .string) (hi:P.info? e=some i) (hz:i.zero=some (.int .u8 0))
  (hsize:i.size=1) (hby:i.bytes=1)
  (v:Value) (n:Nat) (xs:List Value) (hs:a.eval sl=v) (hown:w.ownsRow base e 1 v n xs) (s:ByteArray) (hx:a.eval x= .string s)
  (h63:n+s.size≤maxLen) (hbytes:n+s.size≤140737488355328) (hbase:base≤w.heap.size)
  (h:∀v' w',w'.ownsRow base e 1 v' (n+s.size) (xs++strCells s)→w.grownBy w' v.ownBlock→((∀g,v'.ownBlock=some g→v.ownBlock=some g∨(w.heap.size≤g∧g<w'.heap.size))∧(s.size=0→v'=v))→wpList P ops Q rest (a.put o.dst v') w'):wpList P ops Q (o::rest) a w:=by
 refine wpList_plain hgd fun K hK=>?_
 obtain ⟨v',w',hr,h2,h3,h4⟩:=zhb (P:=P) w base t u o.type e i ht hu hi hz hsize hby v n xs hown s h63 hbytes hbase
 unfold Oper.wp execOp
 simp only [ho,resolve,invoke,builtin,Sem.run_bind,Sem.run_pure,Result.andThen_ok,List.map_toArray,List.map_cons,List.map_nil,hs,hx,hr]
 exact hK _ _ (h v' w' h2 h3 h4)
end
open Go.RowKit
theorem zhI {w:World} {b o o':Nat} {v:Value} (h:o≠o'):(w.setCell ⟨b,o,none⟩ v).cell? ⟨b,o',none⟩=w.cell? ⟨b,o',none⟩:=by
 unfold World.setCell World.cell?
 simp only [Array.getElem?_modify,if_true]
 cases w.heap[b]? with
 |none=>rfl
 |some ob=>
  cases ob<;>simp [Array.getElem?_setIfInBounds_ne h]
theorem zf5 {w:World} {b o o':Nat} {v:Value} :(w.setCell ⟨b,o,none⟩ v).frozen? ⟨b,o',none⟩=w.frozen? ⟨b,o',none⟩:=by
 unfold World.setCell World.frozen?
 simp only [Array.getElem?_modify,if_true]
 cases w.heap[b]? with
 |none=>rfl
 |some ob=>
  cases ob<;>simp
theorem zmb {w:World} {e:TypeId} {v:Value} {k:Nat} {bs:List Value} {b o:Nat} {x:Value} (h:w.ownsRow 0 e 1 v k bs) (hne:v.ownBlock≠some b):(w.setCell ⟨b,o,none⟩ x).ownsRow 0 e 1 v k bs:=by
 refine ⟨h.1,?_⟩
 rcases h.2 with hn|⟨g,cap,cur,rfl,hb,hgg,rest⟩
 ·exact .inl hn
 ·refine .inr ⟨g,cap,cur,rfl,hb,?_,rest⟩
  have:b≠g:=fun e=>hne (by simp [Value.ownBlock,e])
  unfold World.setCell
  rw [Array.getElem?_modify,if_neg this]
  exact hgg
theorem zox (b o n:Nat) (T:TypeId) (w:World) (h0:w.cell? ⟨b,o,none⟩=some (.pointer none)∨w.cell? ⟨b,o,none⟩=some (.pointer (some ⟨b,o,none⟩))) (hsh:w.shape? b=some (T,n)) (hlt:o<n) (hl:liesAt Tryz.prog Tryz.prog.depth T (n / Tryz.prog.cellsOf T) o 237 1=true) (hfz:w.frozen? ⟨b,o,none⟩=false):
  Calls Tryz.prog 242 #[.pointer (some ⟨b,o,none⟩)] w fun e w'=>e= .returned (.tuple #[])∧((w'=w∧w.cell? ⟨b,o,none⟩=some (.pointer (some ⟨b,o,none⟩)))∨w'=w.setCell ⟨b,o,none⟩ (.pointer (some ⟨b,o,none⟩))):=by
 rcases h0 with h0|h0
 ·refine (zow b o n T w h0 hsh hlt hl hfz).mono ?_
  rintro e w' ⟨rfl,rfl⟩
  exact ⟨rfl,.inr rfl⟩
 ·refine (zqx b o w h0).mono ?_
  rintro e w' ⟨rfl,rfl⟩
  exact ⟨rfl,.inl ⟨rfl,h0⟩⟩
theorem zmc (b o n:Nat) (T:TypeId) (w:World) (v:Value) (k:Nat) (bs:List Value) (s:ByteArray) (h0:w.cell? ⟨b,o,none⟩=some (.pointer none)∨w.cell? ⟨b,o,none⟩=some (.pointer (some ⟨b,o,none⟩))) (h1:w.cell? ⟨b,o+1,none⟩=some v)
  (hsh:w.shape? b=some (T,n)) (hlt:o<n) (hl:liesAt Tryz.prog Tryz.prog.depth T (n / Tryz.prog.cellsOf T) o 237 1=true) (hfz:w.frozen? ⟨b,o,none⟩=false) (hfz1:w.frozen? ⟨b,o+1,none⟩=false)
  (hown:w.ownsRow 0 5 1 v k bs) (hne:v.ownBlock≠some b) (hlen:k+s.size≤140737488355328):
  Calls Tryz.prog 178 #[.pointer (some ⟨b,o,none⟩),.string s] w fun e w'=>e= .returned (.tuple #[.int .i64 s.size,.nilIface])∧
   ∃w1 v' w2,((w1=w∧w.cell? ⟨b,o,none⟩=some (.pointer (some ⟨b,o,none⟩)))∨w1=w.setCell ⟨b,o,none⟩ (.pointer (some ⟨b,o,none⟩)))∧w2.ownsRow 0 5 1 v' (k+s.size) (bs++Lib.strCells s)∧w1.grownBy w2 v.ownBlock∧((∀g,v'.ownBlock=some g→v.ownBlock=some g∨(w1.heap.size≤g∧g<w2.heap.size))∧(s.size=0→v'=v))∧w'=w2.setCell ⟨b,o+1,none⟩ v':=by
 obtain ⟨i0,hi,hz0⟩:=Option.map_eq_some_iff.1 (show (Tryz.prog.info? 5).map (fun i=>(i.zero,i.size,i.bytes))=some (some (.int .u8 0),1,1) by kernel_rfl)
 simp only [Prod.mk.injEq] at hz0
 obtain ⟨hz0,hz1,hz2⟩:=hz0
 go_enter Tryz.func178,Tryz.ntmps178
 go_wp2_with (go_at_call 242;refine (zox b o n T _ h0 hsh hlt hl hfz).mono ?_)
 rintro e w1 ⟨rfl,hw1⟩
 have c1:w1.cell? ⟨b,o+1,none⟩=some v:=by
  rcases hw1 with ⟨rfl,_⟩|rfl
  ·exact h1
  ·rw [zhI (by omega)];exact h1
 have f1:w1.frozen? ⟨b,o+1,none⟩=false:=by
  rcases hw1 with ⟨rfl,_⟩|rfl
  ·exact hfz1
  ·rw [zf5];exact hfz1
 have hown1:w1.ownsRow 0 5 1 v k bs:=by
  rcases hw1 with ⟨rfl,_⟩|rfl
  ·exact hown
  ·exact zmb hown hne
 go_wp2_with (at_builtin;refine ze7 _ rfl _ _ 120 9 rfl 0 5 i0 Tryz.underlying120 Tryz.underlying9 hi hz0 hz1 hz2 _ _ _ rfl hown1 s rfl ?c3 ?c4 ?c5 ?_)
 case c3=>unfold maxLen;omega
 case c4=>omega
 case c5=>omega
 intro v' w2 hown' hgrow hnew hnew2
 have hlt1:b<w1.heap.size:=by
  rcases Nat.lt_or_ge b w1.heap.size with h'|h'
  ·exact h'
  ·simp [World.cell?,Array.getElem?_eq_none h'] at c1
 have hb2:w2.heap[b]?=w1.heap[b]?:=hgrow.block b hlt1 (fun e=>hne e.symm)
 have d1:w2.cell? ⟨b,o+1,none⟩=some v:=by
  rw [← c1];simp only [World.cell?,hb2]
 have f2:w2.frozen? ⟨b,o+1,none⟩=false:=by
  rw [← f1];simp only [World.frozen?,hb2]
 obtain ⟨ao,n',cap,rfl⟩:∃ao n' cap,v'= .slice ao n' cap:=by
  rcases hown'.2 with ⟨hv,_⟩|⟨g,cap,cur,hv,_⟩
  ·exact ⟨_,_,_,hv⟩
  ·exact ⟨_,_,_,hv⟩
 go_wp2
 go_ret2
 exact ⟨rfl,w1,_,w2,hw1,hown',hgrow,⟨hnew,fun e=>hnew2 (by simpa using e)⟩,rfl⟩
end Go.Proofs.YtglmbboafmmnpaaGreatDoor
namespace Go.Proofs.YtglmbboafmmnpaaGreatDoor
open Go Go.RowKit
theorem zd6 (W:World) (q:Option Addr):(Builtin.unsafeString_ #[304,3] 9 #[.pointer q,.int .i64 0]).run Tryz.prog W= .ok (.string .empty) W:=
 Lib.run_unsafeString_none W _ _ _ q
theorem zd7 (w:World) (row:Option Nat):w.grownBy w.drew row:=⟨rfl,rfl,rfl,Nat.le_refl _,fun _ _ _=>rfl⟩
theorem zhJ (w:World) (g n:Nat):w.grownBy (w.drew.freeze ⟨g,0,none⟩ n) (some g):=by
 unfold World.freeze
 split
 ·exact zd7 w _
 ·refine ⟨rfl,rfl,rfl,by simp,fun k hk hne=>?_⟩
  simp only [Array.getElem?_modify]
  rw [if_neg (fun e=>hne (by rw [e]))]
  rfl
theorem zoy (b o:Nat) (w:World) (h1:w.cell? ⟨b,o+1,none⟩=some (.slice none 0 0)):
  Calls Tryz.prog 180 #[.pointer (some ⟨b,o,none⟩)] w fun e w'=>e= .returned (.string ⟨#[]⟩)∧w.grownBy w' none:=by
 have hUS:=zd6
 have c1:w.drew.cell? ⟨b,o+1,none⟩=some (.slice none 0 0):=h1
 have hSD:(Builtin.unsafeSliceData_ #[120] 304 #[.slice none 0 0]).run Tryz.prog w.drew= .ok (.pointer none) w.drew:=rfl
 go_enter Tryz.func180,Tryz.ntmps180
 go_wp2
 go_region
 all_goals (go_wp2;go_ret;exact ⟨rfl,zd7 w none⟩)
theorem zmd (b o g cap:Nat) (w:World) (hc0:cap≠0) (h1:w.cell? ⟨b,o+1,none⟩=some (.slice (some ⟨g,0,none⟩) 0 cap)):
  Calls Tryz.prog 180 #[.pointer (some ⟨b,o,none⟩)] w fun e w'=>e= .returned (.string ⟨#[]⟩)∧w.grownBy w' (some g):=by
 have hUS:=zd6
 have c1:w.drew.cell? ⟨b,o+1,none⟩=some (.slice (some ⟨g,0,none⟩) 0 cap):=h1
 have hSD:(Builtin.unsafeSliceData_ #[120] 304 #[.slice (some ⟨g,0,none⟩) 0 cap]).run Tryz.prog w.drew= .ok (.pointer (some ⟨g,0,none⟩)) w.drew:=
  Lib.run_unsafeSliceData_row _ _ _ _ _ _ hc0
 clear hc0
 go_enter Tryz.func180,Tryz.ntmps180
 go_wp2
 go_region
 all_goals (go_wp2;go_ret;exact ⟨rfl,zd7 w _⟩)
theorem zjp (b o g:Nat) (cur:Array Value) (w:World) (h1:w.cell? ⟨b,o+1,none⟩=some (.slice (some ⟨g,0,none⟩) 0 0)) (hg:w.heap[g]?=some (.cells cur 5 (0,0))):
  Calls Tryz.prog 180 #[.pointer (some ⟨b,o,none⟩)] w fun e w'=>e= .returned (.string ⟨#[]⟩)∧w.grownBy w' (some g):=by
 have hUS:=zd6
 have hlt:b<w.heap.size:=by
  rcases Nat.lt_or_ge b w.heap.size with h'|h'
  ·exact h'
  ·simp [World.cell?,Array.getElem?_eq_none h'] at h1
 have c1:w.drew.cell? ⟨b,o+1,none⟩=some (.slice (some ⟨g,0,none⟩) 0 0):=h1
 have hSD:(Builtin.unsafeSliceData_ #[120] 304 #[.slice (some ⟨g,0,none⟩) 0 0]).run Tryz.prog w.drew= .ok (.pointer (some ⟨w.drew.heap.size,0,none⟩)) (w.drew.alloc (.view ⟨g,0,none⟩ 5)):=
  Lib.run_unsafeSliceData_zero w.drew _ _ 5 Tryz.underlying304 ⟨g,0,none⟩ 0 (5,cur.size) (by have hg':w.drew.heap[g]?=some (.cells cur 5 (0,0)):=hg;simp [World.shape?,hg'])
 have c2:(w.drew.alloc (.view ⟨g,0,none⟩ 5)).cell? ⟨b,o+1,none⟩=some (.slice (some ⟨g,0,none⟩) 0 0):=by
  rw [← c1]
  simp only [World.cell?]
  rw [Lib.alloc_old w.drew _ b hlt]
 have c3:(w.alloc (.view ⟨g,0,none⟩ 5)).drew.cell? ⟨b,o+1,none⟩=some (.slice (some ⟨g,0,none⟩) 0 0):=c2
 go_enter Tryz.func180,Tryz.ntmps180
 go_wp2
 go_region
 all_goals (go_wp2;go_ret;exact ⟨rfl,⟨rfl,rfl,rfl,by simp,fun k hk _=>Lib.alloc_old w.drew _ k hk⟩⟩)
theorem zme (b o g cap:Nat) (cur:Array Value) (l:List UInt8) (w:World) (h0:l≠ []) (h1:w.cell? ⟨b,o+1,none⟩=some (.slice (some ⟨g,0,none⟩) l.length cap))
  (hown:w.ownsRow 0 5 1 (.slice (some ⟨g,0,none⟩) l.length cap) l.length (Lib.byteCells l)):
  Calls Tryz.prog 180 #[.pointer (some ⟨b,o,none⟩)] w fun e w'=>e= .returned (.string ⟨l.toArray⟩)∧w.grownBy w' (some g):=by
 have hl0:l.length≠0:=by simpa using h0
 obtain ⟨cur,hg,hnc,hcm,hcs,htake⟩:∃cur,w.heap[g]?=some (.cells cur 5 (0,0))∧l.length≤cap∧cap≤maxLen∧cur.size=cap*1∧cur.toList.take (l.length*1)=Lib.byteCells l:=by
  rcases hown.2 with ⟨_,hz⟩|⟨g',cap',cur,hv,r0,r⟩
  ·exact absurd hz hl0
  ·cases hv
   exact ⟨cur,r⟩
 have c1:w.drew.cell? ⟨b,o+1,none⟩=some (.slice (some ⟨g,0,none⟩) l.length cap):=h1
 have hSD:(Builtin.unsafeSliceData_ #[120] 304 #[.slice (some ⟨g,0,none⟩) l.length cap]).run Tryz.prog w.drew= .ok (.pointer (some ⟨g,0,none⟩)) w.drew:=
  Lib.run_unsafeSliceData_row _ _ _ _ _ _ (by omega)
 have hUS:(Builtin.unsafeString_ #[304,3] 9 #[.pointer (some ⟨g,0,none⟩),.int .i64 l.length]).run Tryz.prog w.drew= .ok (.string ⟨l.toArray⟩) (w.drew.freeze ⟨g,0,none⟩ l.length):=by
  refine Lib.run_unsafeString_row w.drew 304 3 9 5 Tryz.underlying304 (by kernel_rfl) g cur.size (by have hg':w.drew.heap[g]?=some (.cells cur 5 (0,0)):=hg;simp [World.shape?,hg']) l h0 (by omega) (by unfold maxLen at hcm;omega) ?_
  intro j x hx
  have:=hown.cells (g:=g) rfl j (.int .u8 x.toNat) (by simp [Lib.byteCells,hx])
  exact this
 clear h0 hown
 go_enter Tryz.func180,Tryz.ntmps180
 go_wp2
 go_region
 all_goals (go_wp2;go_ret;exact ⟨rfl,zhJ w g _⟩)
theorem zkR (b o:Nat) (w:World) (v:Value) (l:List UInt8) (h1:w.cell? ⟨b,o+1,none⟩=some v) (hown:w.ownsRow 0 5 1 v l.length (Lib.byteCells l)):
  Calls Tryz.prog 180 #[.pointer (some ⟨b,o,none⟩)] w fun e w'=>e= .returned (.string ⟨l.toArray⟩)∧w.grownBy w' v.ownBlock:=by
 rcases hown.2 with ⟨rfl,hz⟩|⟨g,cap,cur,rfl,_,hg,hnc,hcm,hcs,htake⟩
 ·have:l= []:=List.length_eq_zero_iff.1 hz
  subst this
  exact zoy b o w h1
 ·by_cases hl:l= []
  ·subst hl
   by_cases hc:cap=0
   ·subst hc
    exact zjp b o g cur w h1 hg
   ·exact zmd b o g cap w hc h1
  ·exact zme b o g cap cur l w hl h1 hown
end Go.Proofs.YtglmbboafmmnpaaGreatDoor
namespace Go.Aw
open Go Go.Proofs Go.Proofs.YtglmbboafmmnpaaGreatDoor
section
variable {P : Program} {w w' w'' : World} {E E' E'' : Env} {h h' h'' : AHeap} {fl i j : Nat}
theorem EvoC.trans (a:EvoC fl E h w E' h' w') (b:EvoC fl E' h' w' E'' h'' w''):EvoC fl E h w E'' h'' w'' where
 os:=b.os.trans a.os
 tape:=b.tape.trans a.tape
 output:=b.output.trans a.output
 size:=Nat.le_trans a.size b.size
 keep:=fun k hk ho=>(b.keep k (Nat.lt_of_lt_of_le hk a.size) (fun h=>(a.own k h).elim ho (fun h=>by omega))).trans (a.keep k hk ho)
 own:=fun k h=>(b.own k h).elim (fun h=>a.own k h) (fun h=> .inr (Nat.le_trans a.size h))
 m:=b.m.trans a.m
 n:=b.n.trans a.n
 go:=fun i hi hl=>by
  obtain ⟨h1,h2⟩:=b.go i hi hl
  obtain ⟨h3,h4⟩:=a.go i hi h1
  exact ⟨h3,h4.trans h2⟩
theorem Chg.evoC (c:Chg E h w E' h' w' i) (hf:(hget h i).isSome∨fl≤i):EvoC fl E h w E' h' w':=
 have e:=c.evo (fl:=fl) hf
 ⟨e.os,e.tape,e.output,e.size,fun b hb ho=>c.blk b hb (fun ⟨h1,h2⟩=>ho ⟨i,h1,h2⟩),e.own,c.M,c.N,e.go⟩
theorem zno {b:Nat} {c:Array Value} {T:TypeId} {fz:Nat×Nat} (g2:w.heap[b]?=some (.cells c T fz)):World.row w b (.cells c T fz)=w:=by
 obtain ⟨hlt,hb'⟩:=Array.getElem?_eq_some_iff.1 g2
 unfold World.row
 rw [← hb',Array.setIfInBounds_def,dif_pos hlt,Array.set_getElem_self]
theorem zkS {b o:Nat} {c:Array Value} {T:TypeId} {fz:Nat×Nat} {v:Value} (g2:w.heap[b]?=some (.cells c T fz)) (hc:c[o]?=some v):w.setCell ⟨b,o,none⟩ v=w:=by
 rw [zdu g2]
 have:c.setIfInBounds o v=c:=by
  obtain ⟨hlt,he⟩:=Array.getElem?_eq_some_iff.1 hc
  rw [Array.setIfInBounds_def,dif_pos hlt,← he,Array.set_getElem_self]
 rw [this]
 exact zno g2
theorem zfE:∀ (h:AHeap) (i:Nat) (a b:AObj),hset (hset h i a) i b=hset h i b
  | [],_,_,_=>rfl
  | (k,o)::r,i,a,b=>by
    by_cases hk:k=i
    · simp [hset,hk]
    · simp [hset,hk,zfE r]
theorem pokeT (hs:SatH E h w) {o b:Nat} {t:TypeId} {cs:List AV} (hi:hget h i=some (.tvar t cs)) (hb:E.O i=some b) {x:AV} {v:Value} (hr:Rep w E h x v):
  Chg E h w E (hset h i (.tvar t (cs.set o x))) (w.setCell ⟨b,o,none⟩ v) i∧SatH E (hset h i (.tvar t (cs.set o x))) (w.setCell ⟨b,o,none⟩ v):=by
 have hob:=hs.heap i _ hi
 simp only [RepObj] at hob
 obtain ⟨b',c,T,fz,g1,g2,g3,g4,g5⟩:=hob
 rw [hb] at g1;cases g1
 rw [zdu g2]
 have ch:=ziF hs hi (cs':=cs.set o x) (by simp) hb (.cells (c.setIfInBounds o v) T fz)
 refine ⟨ch,ch.satH hs (fun ob hob=>?_)⟩
 rw [ze hi] at hob
 cases hob
 simp only [RepObj]
 refine ⟨b,_,T,fz,hb,zc8 (Array.getElem?_eq_some_iff.1 g2).1,?_,by simpa using g4,g5⟩
 rw [Array.toList_setIfInBounds]
 exact ch.reps (g3.set hr)
theorem zqy (hs:SatH E h w) {t:TypeId} {xs:List UInt8} {n:Nat} {v:Value} (hj:hget h j=some (.buf t xs)) (hv:Rep w E h (.bsl j n) v) (hn:n=xs.length):
  w.ownsRow 0 t 1 v xs.length (Lib.byteCells xs)∧(∀g,v.ownBlock=some g→E.O j=some g)∧(v= .slice none 0 0∧E.O j=none∨∃g,v= .slice (some ⟨g,0,none⟩) xs.length (E.C j)∧E.O j=some g):=by
 simp only [Rep] at hv
 obtain ⟨_,t',xs',h1,_,h3⟩:=hv
 rw [hj] at h1;cases h1
 have hob:=hs.heap j _ hj
 simp only [RepObj] at hob
 rcases h3 hn.symm with ⟨⟨h4,h5⟩,rfl⟩|⟨g,h4,rfl⟩
 ·have:xs= []:=List.length_eq_zero_iff.1 (by omega)
  subst this
  exact ⟨World.ownsRow_nil _ _ _ _,fun g hg=>by simp [Value.ownBlock] at hg,.inl ⟨rfl,h4⟩⟩
 ·rcases hob with ⟨q1,_⟩|⟨b',c,T,fz,q1,q2,q3,q4,q5,rfl,rfl,q7⟩
  ·rw [h4] at q1;cases q1
  ·rw [h4] at q1;cases q1
   refine ⟨⟨by simp [Lib.byteCells],.inr ⟨g,E.C j,c,by rw [hn],Nat.zero_le _,q2,q4,by unfold maxLen;omega,q3,by rw [Nat.mul_one];exact q5⟩⟩,fun g' hg=>?_,.inr ⟨g,by rw [hn],h4⟩⟩
   simp [Value.ownBlock] at hg
   rw [h4,hg]
theorem zqz {t:TypeId} {xs xs':List UInt8} (hj:hget h j=some (.buf t xs)) (g':Option Nat) (cap':Nat) {row:Option Nat} (hgrow:w.grownBy w' row) (hrow:∀g,row=some g→E.O j=some g) (hlen:xs.length≤xs'.length) (hsame:xs'.length=xs.length→g'=E.O j∧cap'=E.C j)
  (hnew:∀g,g'=some g→E.O j=some g∨(w.heap.size≤g∧g<w'.heap.size)):Chg E h w (E.set j g' cap') (hset h j (.buf t xs')) w' j where
 os:=hgrow.os
 tape:=hgrow.tape
 output:=hgrow.output
 size:=hgrow.size
 envO:=fun k e=>by simp [Env.set,e]
 envC:=fun k e=>by simp [Env.set,e]
 M:=rfl
 N:=rfl
 hh:=fun k e=>zv e
 gi:=by
  unfold GoesOn
  rw [hj]
  exact ⟨xs',ze hj,hlen,fun e=>by simpa [Env.set] using hsame e⟩
 blk:=fun b hb hn=>hgrow.block b hb (fun e=>hn ⟨by simp [hj],hrow b e.symm⟩)
 new:=fun b _ hb=>by
  simp only [Env.set,if_true] at hb
  rcases hnew b hb with h1|h1
  ·exact .inl ⟨by simp [hj],h1⟩
  ·exact .inr h1
theorem zhK (l:List UInt8):Lib.strCells ⟨l.toArray⟩=Lib.byteCells l:=by simp [Lib.strCells,Lib.byteCells]
theorem zsu {o:Nat} {T:TypeId} {cs:List AV} {xs l:List UInt8} {n:Nat} (hi:hget h i=some (.tvar T cs)) (c0:cs[o]?=some (.d .nilp)∨cs[o]?=some (.tp i o)) (c1:cs[o+1]?=some (.bsl j n)) (hj:hget h j=some (.buf 5 xs)) (hn:n=xs.length)
  (hl:liesAt Tryz.prog Tryz.prog.depth T (cs.length / Tryz.prog.cellsOf T) o 237 1=true) (hlen:xs.length+l.length≤140737488355328):
  ACallAt Tryz.prog fl 178 [.tp i o,.d (.str l)] h (fun r h'=>r= .tup [.d (.int .i64 l.length),.d .nilif]∧h'=hset (hset h j (.buf 5 (xs++l))) i (.tvar T ((cs.set o (.tp i o)).set (o+1) (.bsl j (xs.length+l.length))))):=by
 refine ⟨zce Tryz.func178 (by kernel_rfl) rfl,fun E w vs hs hr=>?_⟩
 simp only [Reps] at hr
 obtain ⟨v0,r0,e0,q0,v1,r1,rfl,q1,rfl⟩:=hr
 have q0':=q0
 simp only [Rep,RepD] at q0 q1
 obtain ⟨b,T',cs',hi',hb,rfl⟩:=q0
 rw [hi] at hi';cases hi'
 subst q1
 have hvs:vs= #[.pointer (some ⟨b,o,none⟩),.string ⟨l.toArray⟩]:=by cases vs;simpa using e0
 subst hvs
 have hij:i≠j:=fun e=>by rw [e,hj] at hi;cases hi
 have hob:=hs.heap i _ hi
 simp only [RepObj] at hob
 obtain ⟨b',c,T0,fz,g1,g2,g3,g4,rfl⟩:=hob
 rw [hb] at g1;cases g1
 have hcl:c.size=cs.length:=by have:=Reps.length g3;simpa using this
 obtain ⟨v,hv0,hv⟩:=Reps.get g3 c1
 have hv1:c[o+1]?=some v:=by simpa using hv0
 have hlt1:o+1<c.size:=(Array.getElem?_eq_some_iff.1 hv1).1
 obtain ⟨o1,o2,o3⟩:=zqy hs hj hv hn
 have hne:v.ownBlock≠some b:=fun e=>hij (hs.inj i j b (by simp [hi]) (by simp [hj]) hb (o2 b e))
 have hfz:∀k,k<c.size→w.frozen? ⟨b,k,none⟩=false:=fun k hk=>by
  rw [zcD g2]
  have:=g4 k hk
  simpa using this
 have hptr:Rep w E h (.tp i o) (.pointer (some ⟨b,o,none⟩)):=q0'
 have hc0:c[o]?=some (.pointer none)∨c[o]?=some (.pointer (some ⟨b,o,none⟩)):=by
  rcases c0 with c0|c0
  ·obtain ⟨u,hu,hur⟩:=Reps.get g3 c0
   simp only [Rep,RepD] at hur
   subst hur
   exact .inl (by simpa using hu)
  ·obtain ⟨u,hu,hur⟩:=Reps.get g3 c0
   simp only [Rep] at hur
   obtain ⟨b2,_,_,_,hb2,rfl⟩:=hur
   rw [hb] at hb2;cases hb2
   exact .inr (by simpa using hu)
 refine (zmc b o c.size T0 w v xs.length (Lib.byteCells xs) ⟨l.toArray⟩ (by rw [zQ g2];exact hc0) (by rw [zQ g2];exact hv1) (by simp [World.shape?,g2]) (by omega) (by rw [hcl];exact hl) (hfz o (by omega)) (hfz (o+1) hlt1) o1 hne (by simpa [ByteArray.size] using hlen)).mono ?_
 rintro e w3 ⟨rfl,w1,v',w2,hw1,hown',hgrow,⟨hnew,hempty⟩,rfl⟩
 have hw1':w1=w.setCell ⟨b,o,none⟩ (.pointer (some ⟨b,o,none⟩)):=by
  rcases hw1 with ⟨rfl,hc⟩|h
  ·rw [zQ g2] at hc
   exact (zkS g2 hc).symm
  ·exact h
 subst hw1'
 obtain ⟨ch1,hs1⟩:=pokeT hs hi hb (o:=o) hptr
 have hj1:hget (hset h i (.tvar T0 (cs.set o (.tp i o)))) j=some (.buf 5 xs):=by rw [zv (Ne.symm hij)];exact hj
 rw [zhK] at hown'
 have hsz:(⟨l.toArray⟩:ByteArray).size=l.length:=by simp [ByteArray.size]
 rw [hsz] at hown' hempty
 obtain ⟨g',cap',hv',hg'⟩:∃ (g':Option Nat) (cap':Nat),v'.ownBlock=g'∧((v'= .slice none 0 0∧g'=none∧xs++l= [])∨∃g cur,g'=some g∧v'= .slice (some ⟨g,0,none⟩) (xs.length+l.length) cap'∧w2.heap[g]?=some (.cells cur 5 (0,0))∧xs.length+l.length≤cap'∧cap'≤maxLen∧cur.size=cap'*1∧cur.toList.take ((xs.length+l.length)*1)=Lib.byteCells xs++Lib.byteCells l)∧(l= []→g'=E.O j∧cap'=E.C j):=by
  rcases hown'.2 with ⟨rfl,hz⟩|⟨g,cap',cur,rfl,_,hx⟩
  ·refine ⟨none,E.C j,rfl,.inl ⟨rfl,rfl,?_⟩,fun hl0=>⟨?_,rfl⟩⟩
   ·have h1:xs= []:=List.length_eq_zero_iff.1 (by omega)
    have h2:l= []:=List.length_eq_zero_iff.1 (by omega)
    simp [h1,h2]
   ·have hve:=hempty (by simp [hl0])
    rcases o3 with ⟨_,h1⟩|⟨g,h1,_⟩
    ·exact h1.symm
    ·rw [h1] at hve;cases hve
  ·refine ⟨some g,cap',rfl,.inr ⟨g,cur,rfl,rfl,hx⟩,fun hl0=>?_⟩
   have hve:=hempty (by simp [hl0])
   rcases o3 with ⟨h1,_⟩|⟨g2,h1,h2⟩
   ·rw [h1] at hve;cases hve
   ·rw [h1] at hve
    simp only [Value.slice.injEq,Option.some.injEq,Addr.mk.injEq] at hve
    obtain ⟨⟨rfl,_⟩,_,rfl⟩:=hve
    exact ⟨h2.symm,rfl⟩
 obtain ⟨hg',hsame⟩:=hg'
 have ch2:Chg E (hset h i (.tvar T0 (cs.set o (.tp i o)))) (w.setCell ⟨b,o,none⟩ (.pointer (some ⟨b,o,none⟩))) (E.set j g' cap') (hset (hset h i (.tvar T0 (cs.set o (.tp i o)))) j (.buf 5 (xs++l))) w2 j:=
  zqz hj1 g' cap' hgrow (fun g hg=>o2 g hg) (by simp) (fun e=>hsame (by simpa using e)) (fun g hg=>by
   rcases hnew g (by rw [hv',hg]) with h1|h1
   ·exact .inl (o2 g h1)
   ·exact .inr h1)
 have hs2:=ch2.satH hs1 (fun ob hob=>by
  rw [ze hj1] at hob
  cases hob
  simp only [RepObj,Env.set,if_true]
  rcases hg' with ⟨_,h1,h2⟩|⟨g,cur,h1,h2,h3,h4,h5,h6,h7⟩
  ·exact .inl ⟨h1,.inl h2⟩
  ·refine .inr ⟨g,cur,5,(0,0),h1,h3,h6,by simpa using h4,?_,rfl,rfl,by unfold maxLen at h5;omega⟩
   rw [Nat.mul_one] at h7
   rw [List.length_append,h7]
   simp [Lib.byteCells])
 have hi2:hget (hset (hset h i (.tvar T0 (cs.set o (.tp i o)))) j (.buf 5 (xs++l))) i=some (.tvar T0 (cs.set o (.tp i o))):=by rw [zv hij];exact ze hi
 have hb2:(E.set j g' cap').O i=some b:=by simp [Env.set,hij,hb]
 have hrv':Rep w2 (E.set j g' cap') (hset (hset h i (.tvar T0 (cs.set o (.tp i o)))) j (.buf 5 (xs++l))) (.bsl j (xs.length+l.length)) v':=by
  simp only [Rep]
  rcases hg' with ⟨h0,h1,h2⟩|⟨g,cur,h1,h2,h3,h4,h5,h6,h7⟩
  ·have h3:xs.length+l.length=0:=by have:=congrArg List.length h2;simpa using this
   exact ⟨⟨_,_,_,h0⟩,_,_,ze hj1,by simp,fun _=> .inl ⟨⟨by simp [Env.set,h1],h3⟩,h0⟩⟩
  ·exact ⟨⟨_,_,_,h2⟩,_,_,ze hj1,by simp,fun _=> .inr ⟨g,by simp [Env.set,h1],by simp [Env.set,h2]⟩⟩
 obtain ⟨ch3,hs3⟩:=pokeT hs2 hi2 hb2 (o:=o+1) hrv'
 have eh:hset (hset (hset h i (.tvar T0 (cs.set o (.tp i o)))) j (.buf 5 (xs++l))) i (.tvar T0 ((cs.set o (.tp i o)).set (o+1) (.bsl j (xs.length+l.length))))=hset (hset h j (.buf 5 (xs++l))) i (.tvar T0 ((cs.set o (.tp i o)).set (o+1) (.bsl j (xs.length+l.length)))):=by
  rw [zgD h hij,zfE]
 refine ⟨_,_,_,_,rfl,⟨rfl,rfl⟩,eh ▸ hs3,?_,eh ▸ ((ch1.evoC (.inl (by simp [hi]))).trans ((ch2.evoC (.inl (by simp [hj1]))).trans (ch3.evoC (.inl (by simp [hi2]))))),fun x y hxy=>eh ▸ ch3.rep (ch2.rep (ch1.rep hxy))⟩
 simp only [Rep,Reps,RepD]
 refine ⟨_,rfl,_,_,rfl,?_,_,_,rfl,rfl,rfl⟩
 rw [hsz]
noncomputable def gone:List UInt8:=List.replicate zgq 0
theorem zmf:gone.length=zgq:=by unfold gone;exact List.length_replicate ..
attribute [irreducible] gone
theorem zqA {o:Nat} {T:TypeId} {cs:List AV} {xs:List UInt8} {n:Nat} (hi:hget h i=some (.tvar T cs)) (c1:cs[o+1]?=some (.bsl j n)) (hj:hget h j=some (.buf 5 xs)) (hn:n=xs.length) (hlen:xs.length≤140737488355328):
  ACallAt Tryz.prog fl 180 [.tp i o] h (fun r h'=>r= .d (.str xs)∧h'=hset h j (.buf 5 gone)):=by
 refine ⟨zce Tryz.func180 (by kernel_rfl) rfl,fun E w vs hs hr=>?_⟩
 simp only [Reps] at hr
 obtain ⟨v0,r0,e0,q0,rfl⟩:=hr
 have q0':=q0
 simp only [Rep] at q0
 obtain ⟨b,T',cs',hi',hb,rfl⟩:=q0
 rw [hi] at hi';cases hi'
 have hvs:vs= #[.pointer (some ⟨b,o,none⟩)]:=by cases vs;simpa using e0
 subst hvs
 have hob:=hs.heap i _ hi
 simp only [RepObj] at hob
 obtain ⟨b',c,T0,fz,g1,g2,g3,g4,rfl⟩:=hob
 rw [hb] at g1;cases g1
 obtain ⟨v,hv0,hv⟩:=Reps.get g3 c1
 have hv1:c[o+1]?=some v:=by simpa using hv0
 obtain ⟨o1,o2,o3⟩:=zqy hs hj hv hn
 refine (zkR b o w v xs (by rw [zQ g2];exact hv1) o1).mono ?_
 rintro e w3 ⟨rfl,hgrow⟩
 have hgl:=zmf
 have hdl:zgq=9223372036854775808:=rfl
 have ch:Chg E h w (E.set j none 0) (hset h j (.buf 5 gone)) w3 j:=
  zqz hj none 0 hgrow (fun g hg=>o2 g hg) (by omega) (fun e=>by omega) (fun g hg=>by cases hg)
 have hs2:=ch.satH hs (fun ob hob=>by
  rw [ze hj] at hob
  cases hob
  simp only [RepObj,Env.set,if_true]
  exact .inl ⟨trivial,.inr hgl⟩)
 exact ⟨_,_,_,_,rfl,⟨rfl,rfl⟩,hs2,by simp only [Rep,RepD],ch.evoC (.inl (by simp [hj])),fun x y hxy=>ch.rep hxy⟩
theorem zqB {cx:Cx} {c:Code} {Q:Exit→AS→Prop} {s:AS} (i o:Nat) {T:TypeId} {cs:List AV} (hi:hget s.h i=some (.tvar T cs)) (ho:cs[o]?=some (.nils 1))
    (h:AW cx c Q { s with h:=(fresh cx.fl s.h,.buf 5 [])::hset s.h i (.tvar T (cs.set o (.bsl (fresh cx.fl s.h) 0))) }):AW cx c Q s:=fun E a w hs=>by
  have hne:fresh cx.fl s.h≠i:=fun e=>by
    have:=zbO cx.fl s.h
    rw [e,hi] at this;cases this
  have cc:Chg E s.h w (E.set (fresh cx.fl s.h) none 0) ((fresh cx.fl s.h,.buf 5 [])::s.h) w (fresh cx.fl s.h):=
    { os:=rfl,tape:=rfl,output:=rfl,size:=Nat.le_refl _,envO:=fun j e=>by simp [Env.set,e],envC:=fun j e=>by simp [Env.set,e],M:=rfl,N:=rfl,hh:=fun j e=>by simp [hget,Ne.symm e],
      gi:=by simp [GoesOn,zbO]
      blk:=fun b hb _=>rfl
      new:=fun b _ hb=>by simp [Env.set] at hb }
  have hs1:=cc.sat (t:=s.t) (g:=s.g) hs (fun o ho=>by
    simp [hget] at ho
    subst ho
    simp only [RepObj]
    exact .inl ⟨by simp [Env.set],.inl trivial⟩)
  have hi1:hget ((fresh cx.fl s.h,.buf 5 [])::s.h) i=some (.tvar T cs):=by simp [hget,hne,hi]
  have e1:(fresh cx.fl s.h,AObj.buf 5 [])::hset s.h i (.tvar T (cs.set o (.bsl (fresh cx.fl s.h) 0)))=hset ((fresh cx.fl s.h,.buf 5 [])::s.h) i (.tvar T (cs.set o (.bsl (fresh cx.fl s.h) 0))):=by
    simp [hset,hne]
  obtain ⟨E1,hE1⟩:∃E1,E1=E.set (fresh cx.fl s.h) none 0:=⟨_,rfl⟩
  rw [← hE1] at hs1 cc
  obtain ⟨b,c',T',fz,g1,g2,g3,g4,g5⟩:=hs1.hp.tvar hi1
  have ch:=ziF (w:=w) hs1.hp hi1 (cs':=cs.set o (.bsl (fresh cx.fl s.h) 0)) (by simp) g1 (.cells c' T' fz)
  rw [zno g2] at ch
  have hs2:=ch.sat (t:=s.t) (g:=s.g) hs1 (fun ob hob=>by
    rw [ze hi1] at hob
    cases hob
    simp only [RepObj]
    refine ⟨b,c',T',fz,g1,g2,?_,g4,g5⟩
    obtain ⟨v,hv,hvr⟩:=Reps.get g3 ho
    simp only [Rep] at hvr
    subst hvr
    have:=g3.set (i:=o) (a:= .bsl (fresh cx.fl s.h) 0) (v:= .slice none 0 0) (by
      simp only [Rep]
      refine ⟨⟨_,_,_,rfl⟩,5,[],by simp [hget],by simp,fun _=> .inl ⟨⟨by simp [hE1,Env.set],trivial⟩,trivial⟩⟩)
    have e2:c'.toList.set o (.slice none 0 0)=c'.toList:=by
      obtain ⟨hlt,he⟩:=List.getElem?_eq_some_iff.1 hv
      rw [← he,List.set_getElem_self]
    rw [e2] at this
    exact ch.reps this)
  rw [← e1] at hs2
  refine wpIn_mono (h _ a w hs2) (fun _ _ _ hr=>hr.trans (Evo.trans (cc.evo (.inr (zaz _ _))) ?_))
  rw [e1]
  exact ch.evo (.inl (by simp [hi1]))
end
open Go Go.Proofs
abbrev Txt:=List UInt8
abbrev PutR:=Int×Txt
def putD (q:PutR):List D:= [.int .i64 q.1,.str q.2]
theorem zi3:∀a b,putD a=putD b→a=b:=by
 rintro ⟨a,b⟩ ⟨a',b'⟩ h
 simpa [putD] using h
structure Disk where
 data:Txt
 cache:List PutR
 fuse:Int
 off:Bool
 bad:List Int
 deriving DecidableEq
def diskA (d:Disk):AV:= .agg [.d (.str d.data),.d (.sl 2 (d.cache.map putD)),.d (.int .i64 d.fuse),.d (.bool d.off),.d (.sl 1 (d.bad.map intD))]
attribute [go_sem] diskA
def diskC (d:Disk):List AV:= [.d (.str d.data),.d (.sl 2 (d.cache.map putD)),.d (.int .i64 d.fuse),.d (.bool d.off),.d (.sl 1 (d.bad.map intD))]
attribute [go_sem] diskC
theorem zrH (d:Disk):Disk.mk d.data d.cache d.fuse d.off d.bad=d:=rfl
noncomputable def zp:PT Disk:=aggT (consL strT (consL (slT 2 putD zi3) (consL (intT .i64) (consL boolT (consL (slT 1 intD zbY) nilL))))) (fun p=>⟨p.1,p.2.1,p.2.2.1,p.2.2.2.1,p.2.2.2.2.1⟩) (fun x=>(x.data,x.cache,x.fuse,x.off,x.bad,())) (fun _=>rfl)
attribute [go_sem] zp
noncomputable def zpJ:PT Disk:=dpT (consL strT (consL (slT 2 putD zi3) (consL (intT .i64) (consL boolT (consL (slT 1 intD zbY) nilL))))) (fun p=>⟨p.1,p.2.1,p.2.2.1,p.2.2.2.1,p.2.2.2.2.1⟩) (fun x=>(x.data,x.cache,x.fuse,x.off,x.bad,())) (fun _=>rfl)
attribute [go_sem] zpJ
attribute [go_sem] zrH
structure DiskOk (d:Disk):Prop where
 data:d.data.length≤9223372036854775807
 cache:d.cache.length≤9223372036854775807
 bad:d.bad.length≤9223372036854775807
 fuse0: -9223372036854775808≤d.fuse
 fuse1:d.fuse≤9223372036854775807
def dsize (d:Disk):Nat:=d.data.length / 64
def there (d:Disk) (at_:Int):Bool:=decide (0≤at_)&&decide (at_<(dsize d:Int))
theorem there_iff {d:Disk} {at_:Int} :there d at_=true↔0≤at_∧at_<((d.data.length / 64:Nat):Int):=by
 rw [there,Bool.and_eq_true]
 exact and_congr decide_eq_true_iff decide_eq_true_iff
def zdz (d:Disk):List Int→Option Int→Bool
 | [],_=>true
 |a::l,p=>there d a&&(match p with|none=>true|some b=>decide (b<a))&&zdz d l (some a)
def putOk (d:Disk) (q:PutR):Bool:=there d q.1&&((q.2.length:Int)==64)
def dfit (d:Disk):Bool:=
 decide (1≤dsize d)&&decide (dsize d≤1024)&&(d.data.length % 64==0)&&decide (d.cache.length≤4096)&&d.cache.all (putOk d)&&zdz d d.bad none
def isPut (at_:Int) (q:PutR):Bool:=q.1==at_
def sees (d:Disk) (at_:Int):Txt:=
 match d.cache.reverse.find? (isPut at_) with
 |some q=>q.2
 |none=>(d.data.drop (at_*64).toNat).take 64
def dread (d:Disk) (at_:Int):Txt×Int:=
 if d.off then ([],12) else if !there d at_ then ([],10) else if d.bad.contains at_ then ([],13) else (sees d at_,0)
def burnt (d:Disk):Disk:=if 0<d.fuse then { d with fuse:=d.fuse - 1 } else d
def zT (d:Disk) (at_:Int) (s:Txt):Disk×Int:=
 if d.off then (d,12) else if !there d at_ then (d,10) else if (s.length:Int)≠64 then (d,11)
 else if d.fuse=0 then ({ d with off:=true },12) else if d.bad.contains at_ then (d,13) else if 4096≤(d.cache.length:Int) then (d,16)
 else (burnt { d with cache:=d.cache++ [(at_,s)] },0)
def lay (b:Txt) (at_:Nat) (s:Txt):Txt:=b.take at_++s++b.drop (at_+s.length)
def zbF (b:Txt) (l:List PutR):Txt:=l.foldl (fun b q=>lay b (q.1*64).toNat q.2) b
def dflush (d:Disk):Disk×Int:=
 if d.off then (d,12) else if d.fuse=0 then ({ d with off:=true },12)
 else (burnt { d with data:=zbF d.data d.cache,cache:= [] },0)
def dnew (n:Int):Disk×Int:=if n<1∨1024<n then (⟨[],[],0,false,[]⟩,11) else (⟨List.replicate (n*64).toNat 0,[], -1,false,[]⟩,0)
theorem zta {n:Nat} (h:n≤9223372036854775807):IntKind.i64.wrap ((n:Int).tdiv 64)=((n / 64:Nat):Int):=by
 rw [Int.tdiv_eq_ediv_of_nonneg (by omega),IntKind.wrap_i64];omega
theorem zm8 {d:Disk} (h:DiskOk d):DiskOk (burnt d):=by
 obtain ⟨h1,h2,h3,h4,h5⟩:=h
 unfold burnt
 split
 ·exact ⟨h1,h2,h3,by simp only;omega,by simp only;omega⟩
 ·exact ⟨h1,h2,h3,h4,h5⟩
open Go Go.Proofs
theorem zpK (d:Disk) (hd:DiskOk d):AC 108 [diskA d] (.d (.int .i64 (dsize d))):=by
 refine bod Tryz.func108 Tryz.ntmps108 (fun base=>?_)
 (have fx:=zta hd.data;repeat' (first|(refine hK _ ?_;clear hK K)|refine wa fun K hK=>?_|refine wb ?_|refine wc ?_ ?_|exact we|clear hK K))
 rfl
@[go_sem] noncomputable def zaI:Ent Tryz.prog 108:= .m1 zp zpK
theorem znR (d:Disk) (at_:Int) (hd:DiskOk d):AC 122 [diskA d,.d (.int .i64 at_)] (.d (.bool (there d at_))):=by
 refine bod Tryz.func122 Tryz.ntmps122 (fun base=>?_)
 (have tk:=za zaI <| zb Tryz.prog;repeat' (first|(refine hK _ ?_;clear hK K)|refine wa fun K hK=>?_|refine wb ?_|refine wc ?_ ?_|exact we|refine fun (hc:_=(_:Bool))=>?_|clear hK K))
 rfl
@[go_sem] noncomputable def zaU:Ent Tryz.prog 122:= .m2 zp (intT .i64) znR
theorem zrJ (d:Disk) (at_:Int) (hd:DiskOk d):AC 213 [diskA d,.d (.int .i64 at_)] (.d (.bool (d.bad.contains at_))):=by
 refine bod Tryz.func213 Tryz.ntmps213 (fun base=>?_)
 (repeat' (first|(refine hK _ ?_;clear hK K)|refine wa fun K hK=>?_|refine wb ?_|refine wc ?_ ?_|exact we|refine fun (hc:_=(_:Bool))=>?_|clear hK K))
 have hb:=hd.bad
 refine zn (fun q: { i:Nat // i≤d.bad.length∧d.bad.contains at_=(d.bad.drop i).contains at_ } =>⟨[(1,true,.d (.int .i64 at_)),(2,true,.vp 0 0),(5,true,.d (.int .i64 q.1))],[(0,.var [.d (.str d.data),.d (.sl 2 (d.cache.map putD)),.d (.int .i64 d.fuse),.d (.bool d.off),.d (.sl 1 (d.bad.map intD))])],some []⟩) (fun q=>d.bad.length - q.1) ⟨0,Nat.zero_le _,rfl⟩ le1 (fun q=>?_)
 obtain ⟨i,hi,hf⟩:=q
 simp only at hi hf ⊢
 rcases zG intD d.bad i hi with ⟨m,hq,hlt,hcmp,hrow,hdr,htk⟩|⟨hend,hcmp⟩
 ·simp only [intD] at hrow
  have hwi:=zq (i:=i) (by omega)
  rw [hdr,List.contains_cons] at hf
  (have fx:=(⟨hcmp,hrow⟩:_∧_);repeat' (first|(refine hK _ ?_;clear hK K)|refine wa fun K hK=>?_|refine wb ?_|refine wc ?_ ?_|exact we|refine fun (hc:_=(_:Bool))=>?_|clear hK K))
  ·rw [hf,BEq.comm,hc];rfl
  ·rw [BEq.comm,hc,Bool.false_or] at hf
   exact ⟨⟨i+1,by omega,hf⟩,lew,by simp;omega⟩
 ·(have fx:=hcmp;repeat' (first|(refine hK _ ?_;clear hK K)|refine wa fun K hK=>?_|refine wb ?_|refine wc ?_ ?_|exact we|refine fun (hc:_=(_:Bool))=>?_|clear hK K))
  rw [hf,hend,List.drop_length]
  rfl
@[go_sem] noncomputable def zfu:Ent Tryz.prog 213:= .m2 zp (intT .i64) zrJ
theorem znS (d:Disk) (hd:DiskOk d):AC 183 [diskA d] (diskA (burnt d)):=by
 refine fbod Tryz.func183 Tryz.ntmps183 (fun base=>?_)
 have h1:=hd.fuse1
 (repeat' (first|(refine hK _ ?_;clear hK K)|refine wa fun K hK=>?_|refine wb ?_|refine wc ?_ ?_|exact we|refine fun (hc:_=(_:Bool))=>?_|clear hK K))
 ·have h0:0<d.fuse:=by simpa using hc
  rw [burnt,if_pos h0,zh (by omega) (by omega)]
 ·have h0:¬0<d.fuse:=by simpa using hc
  rw [burnt,if_neg h0]
@[go_sem] noncomputable def zcU:Ent Tryz.prog 183:= .m1 zp znS
theorem zrK {l:List PutR} {i:Nat} {q:PutR} {at_:Int} (hq:l[i]?=some q):(l.take (i+1)).reverse.find? (isPut at_)=if q.1=at_ then some q else (l.take i).reverse.find? (isPut at_):=by
 rw [zbm hq,List.reverse_append,List.reverse_singleton,List.singleton_append,List.find?_cons]
 by_cases h:q.1=at_
 ·simp [isPut,h]
 ·have:isPut at_ q=false:=by simp [isPut,h]
  rw [this,if_neg h]
theorem zpL (d:Disk) (at_:Int) (hp:DiskOk d∧there d at_=true):AC 214 [diskA d,.d (.int .i64 at_)] (.d (.str (sees d at_))):=by
 obtain ⟨hd,ht⟩:=hp
 refine bod Tryz.func214 Tryz.ntmps214 (fun base=>?_)
 (repeat' (first|(refine hK _ ?_;clear hK K)|refine wa fun K hK=>?_|refine wb ?_|refine wc ?_ ?_|exact we|refine fun (hc:_=(_:Bool))=>?_|clear hK K))
 have hcl:=hd.cache
 have hdl:=hd.data
 have hw0:IntKind.i64.wrap ((d.cache.length:Int) - 1)=(d.cache.length:Int) - 1:=zh (by omega) (by omega)
 refine zn (fun q: { i:Nat // i≤d.cache.length∧d.cache.reverse.find? (isPut at_)=(d.cache.take i).reverse.find? (isPut at_) } =>⟨[(1,true,.d (.int .i64 at_)),(2,true,.vp 0 0),(5,true,.d (.int .i64 ((q.1:Int) - 1)))],[(0,.var [.d (.str d.data),.d (.sl 2 (d.cache.map putD)),.d (.int .i64 d.fuse),.d (.bool d.off),.d (.sl 1 (d.bad.map intD))])],some []⟩) (fun q=>q.1) ⟨d.cache.length,Nat.le_refl _,by rw [zeS]⟩ (by simp only [AS.le,leT,leH,zc,AsgK,AV.le,AV.leL,AObj.le,inH,idsT,idsH,AV.ids,AV.idsL,AV.idsR,AObj.ids,lk,hget,go_sem,aeq,aeq.aeqF,simprocAttr,hw0]) (fun q=>?_)
 obtain ⟨i,hi,hf⟩:=q
 simp only at hi hf ⊢
 cases i with
 | zero=>
  have hz:decide ((0:Int)≤((0:Nat):Int) - 1)=false:=by decide
  obtain ⟨ht0,ht1⟩:=there_iff.mp ht
  have hm:IntKind.i64.wrap (at_*64)=at_*64:=zh (by omega) (by omega)
  have hm1:IntKind.i64.wrap (at_+1)=at_+1:=zh (by omega) (by omega)
  have hm2:IntKind.i64.wrap ((at_+1)*64)=(at_+1)*64:=zh (by omega) (by omega)
  have hs:(d.data.take ((at_+1)*64).toNat).drop (at_*64).toNat=sees d at_:=by
   rw [sees,hf,List.take_zero,List.reverse_nil,List.find?_nil,List.drop_take]
   congr 1;omega
  (have fx:=(⟨hz,hm,hm1,hm2,hs⟩:_∧_∧_∧_∧_);repeat' (first|(refine hK _ ?_;clear hK K)|refine wa fun K hK=>?_|refine wb ?_|refine wc ?_ ?_|exact we|refine fun (hc:_=(_:Bool))=>?_|clear hK K))
 | succ i=>
  have hz:decide ((0:Int)≤((i+1:Nat):Int) - 1)=true:=decide_eq_true (by omega)
  have hi1:(((i+1:Nat):Int) - 1)=(i:Int):=by omega
  have hwi:IntKind.i64.wrap ((i:Int) - 1)=(i:Int) - 1:=zh (by omega) (by omega)
  obtain ⟨⟨n,s⟩,hq⟩:=zal (l:=d.cache) (i:=i) (by omega)
  have hrow:=zcf (g:=putD) hq
  simp only [putD] at hrow
  rw [zrK hq] at hf
  (have fx:=(⟨hz,hi1,hrow,@Int.toNat_natCast⟩:_∧_∧_∧_);repeat' (first|(refine hK _ ?_;clear hK K)|refine wa fun K hK=>?_|refine wb ?_|refine wc ?_ ?_|exact we|refine fun (hc:_=(_:Bool))=>?_|clear hK K))
  ·have hn:n=at_:=by simpa using hc
   rw [sees,hf,if_pos hn]
  ·have hn:¬n=at_:=by simpa using hc
   rw [if_neg hn] at hf
   exact ⟨⟨i,by omega,hf⟩,lew,by simp⟩
@[go_sem] noncomputable def zeD:Ent Tryz.prog 214:= .m2 zp (intT .i64) zpL
open Go Go.Proofs
theorem zpM (d:Disk) (at_:Int) (hd:DiskOk d):AC 137 [diskA d,.d (.int .i64 at_)] (.tup [.d (.str (dread d at_).1),.d (.int .i64 (dread d at_).2)]):=by
 refine bod Tryz.func137 Tryz.ntmps137 (fun base=>?_)
 (have tk:=za zaU <| za zfu <| za zcU <| za zeD <| zb Tryz.prog;repeat' (first|(refine hK _ ?_;clear hK K)|refine wa fun K hK=>?_|refine wb ?_|refine wc ?_ ?_|exact we|refine fun (hc:_=(_:Bool))=>?_|clear hK K))
 all_goals simp_all [dread]
@[go_sem] noncomputable def zeE:Ent Tryz.prog 137:= .m2 zp (intT .i64) zpM
theorem zaJ (l:List UInt8):(zg l).all zjZ=true:=by
 simp [zg,zdR,zjZ,List.all_map]
theorem z2 (l:List UInt8):bytesOf (zg l)=l:=by
 unfold bytesOf zg
 rw [List.map_map]
 have:((fun r=>UInt8.ofNat (numOf r).toNat) ∘ zdR)=id:=by
  funext b;simp [zdR,numOf]
 rw [this,List.map_id]
theorem zdj (m:Nat):List.replicate m [D.int .u8 0]=zg (List.replicate m 0):=by
 rw [zg,List.map_replicate];rfl
theorem zgP (m:Nat):List.take m (zg (List.replicate m 0))=zg (List.replicate m 0):=by
 exact List.take_of_length_le (by simp [zg])
theorem zi4 (m:Nat):(m=(zg (List.replicate m 0)).length)=True:=by
 simp [zg]
theorem zrL (n:Int) (_:True):AC 111 [.d (.int .i64 n)] (.tup [diskA (dnew n).1,.d (.int .i64 (dnew n).2)]):=by
 refine fbod Tryz.func111 Tryz.ntmps111 (fun base=>?_)
 by_cases h:n<1∨1024<n
 ·have hdec:(decide (n<1)||decide (1024<n))=true:=by simpa using h
  (have fx:=hdec;repeat' (first|(refine hK _ ?_;clear hK K)|refine wa fun K hK=>?_|refine wb ?_|refine wc ?_ ?_|exact we|refine fun (hc:_=(_:Bool))=>?_|clear hK K))
  rw [dnew,if_pos h];rfl
 ·have hdec:(decide (n<1)||decide (1024<n))=false:=by simpa using h
  have hm:IntKind.i64.wrap (n*64)=n*64:=zh (by omega) (by omega)
  (have tk:=zb Tryz.prog);repeat' (first|((first|(refine sa ?_;intro K hK)|refine sb ?_);simp only [go_sem,aeq,aeq.aeqF,simprocAttr,hdec,hm,zdj,zgP,zi4,if_true,Tryz.results111])|refine zj (fun K hK=>?_)|refine sc ?_|refine zi rfl (fun hc=>?_) (fun hc=>?_)|(refine hK _ ?_;clear hK K)|with_reducible refine And.intro ?_ ?_|omega|assumption|refine fun (hg:(_:Bool)=(_:Bool))=>?_|clear hK K)
  ·exact zaJ _
  ·rw [dnew,if_neg h,z2];rfl
@[go_sem] noncomputable def znT:Ent Tryz.prog 111:= .m1 (intT .i64) zrL
theorem znU (d:Disk) (at_:Int) (s:Txt) (hd:DiskOk d):AC 143 [diskA d,.d (.int .i64 at_),.d (.str s)] (.tup [diskA (zT d at_ s).1,.d (.int .i64 (zT d at_ s).2)]):=by
 refine fbod Tryz.func143 Tryz.ntmps143 (fun base=>?_)
 (have tk:=za zaU <| za zfu <| za zcU <| za zeD <| zb Tryz.prog;repeat' ((fail_if_success refine hds 17 (by rfl) ?_);first|(refine hK _ ?_;clear hK K)|refine wa fun K hK=>?_|refine wb ?_|refine wc ?_ ?_|refine fun (nb:Bool) (hnb:nb=true→_)=>?_|exact we|refine fun (hc:_=(_:Bool))=>?_|clear hK K))
 all_goals first|(simp_all [zT];done)|(simp_all;omega)|skip
 have hk:DiskOk { d with cache:=d.cache++ [(at_,s)] } :=⟨hd.data,by simp_all;omega,hd.bad,hd.fuse0,hd.fuse1⟩
 have hr:d.cache.map putD++ [[.int .i64 at_,.str s]]=(d.cache++ [(at_,s)]).map putD:=by simp [putD]
 have hl:(d.cache.length+1=(d.cache++ [(at_,s)]).length)=True:=by simp
 have htk:List.take (d.cache.length+1) ((d.cache++ [(at_,s)]).map putD)=(d.cache++ [(at_,s)]).map putD:=List.take_of_length_le (by simp)
 refine zgA 2 rfl ?_;simp only [go_sem,aeq,aeq.aeqF,simprocAttr,hr,hl,htk]
 (have tk:=za zaU <| za zfu <| za zcU <| za zeD <| zb Tryz.prog;repeat' (first|(refine hK _ ?_;clear hK K)|refine wa fun K hK=>?_|refine wb ?_|refine wc ?_ ?_|refine fun (nb:Bool) (hnb:nb=true→_)=>?_|exact we|refine fun (hc:_=(_:Bool))=>?_|clear hK K))
 clear hr hl htk hk
 by_cases h6:4096≤(d.cache.length:Int)
 ·exfalso;simp_all
 ·simp only [zT,if_neg h6];simp_all
@[go_sem] noncomputable def zaV:Ent Tryz.prog 143:= .m3 zp (intT .i64) strT znU
theorem zm9 (b:Txt) (k:Nat) (s:Txt):rput (zg b) k (zg s)=zg (lay b k s):=by
 simp [rput,lay,zg,List.map_append,List.map_take,List.map_drop]
theorem zi5 {b:Txt} {k:Nat} {s:Txt} (h:k+s.length≤b.length):(lay b k s).length=b.length:=by
 simp [lay];omega
theorem zkm {b:Txt} {l:List PutR} {i:Nat} {q:PutR} (hq:l[i]?=some q):zbF b (l.take (i+1))=lay (zbF b (l.take i)) (q.1*64).toNat q.2:=by
 simp [zbF,zbm hq,List.foldl_append]
theorem ztb {d:Disk} {i:Nat} {q:PutR} (hf:d.cache.all (putOk d)=true) (hq:d.cache[i]?=some q):0≤q.1∧q.1<((d.data.length / 64:Nat):Int)∧q.2.length=64:=by
 have:=List.all_eq_true.1 hf q (List.mem_of_getElem? hq)
 rw [putOk,Bool.and_eq_true] at this
 obtain ⟨h1,h2⟩:=this
 exact ⟨(there_iff.1 h1).1,(there_iff.1 h1).2,by have:=eq_of_beq h2;omega⟩
theorem zpN (d:Disk) (hd:DiskOk d) (hf:d.cache.all (putOk d)=true):ACall Tryz.prog 182 0 [diskA d,.d (.bool true),.d (.sl 1 [])] [] (fun r _=>r= .d (.str (zbF d.data d.cache))):=by
 refine fbod Tryz.func182 Tryz.ntmps182 (fun base=>?_)
 (repeat' (first|(refine hK _ ?_;clear hK K)|refine wa fun K hK=>?_|refine wb ?_|refine wc ?_ ?_|exact we|refine fun (hc:_=(_:Bool))=>?_|clear hK K))
 have hcl:=hd.cache
 have hdl:=hd.data
 refine zn (fun q: { q:Nat×Txt // q.1≤d.cache.length∧q.2=zbF d.data (d.cache.take q.1)∧q.2.length=d.data.length } =>⟨[(1,true,.d (.bool true)),(2,true,.d (.sl 1 [])),(3,true,.vp 0 0),(7,true,.osl 1 1 (List.length d.data) 0 (List.length d.data)),(8,true,.d (.int .i64 q.1.1))],[(1,.arr 1 (zg q.1.2)),(0,.var [.d (.str d.data),.d (.sl 2 (d.cache.map putD)),.d (.int .i64 d.fuse),.d (.bool d.off),.d (.sl 1 (d.bad.map intD))])],some []⟩) (fun q=>d.cache.length - q.1.1) ⟨(0,d.data),Nat.zero_le _,rfl,rfl⟩ le1 (fun q=>?_)
 obtain ⟨⟨i,b⟩,hi,hb,hbl⟩:=q
 simp only at hi hb hbl ⊢
 rcases zG putD d.cache i hi with ⟨⟨m,s⟩,hq,hlt,hcmp,hrow,hdr,htk⟩|⟨hend,hcmp⟩
 ·simp only [putD] at hrow
  obtain ⟨p1,p2,p3⟩:=ztb hf hq
  simp only at p1 p2 p3
  have hwi:=zq (i:=i) (by omega)
  have hwm:IntKind.i64.wrap (m*64)=m*64:=zh (by omega) (by omega)
  have hst:=zkm (b:=d.data) hq
  rw [← hb] at hst
  have hll:(lay b (m*64).toNat s).length=b.length:=zi5 (by omega)
  have hb0:(zg b).length=d.data.length:=by rw [zg,List.length_map,hbl]
  (have fx:=(⟨hcmp,hrow,hwm,@zm9,hb0⟩:_∧_∧_∧_∧_);repeat' (first|(refine hK _ ?_;clear hK K)|refine wa fun K hK=>?_|refine wb ?_|refine wc ?_ ?_|exact we|refine fun (hc:_=(_:Bool))=>?_|clear hK K))
  ·rw [zg,List.length_map];omega
  ·exact ⟨⟨(i+1,lay b (m*64).toNat s),by omega,hst.symm,hll.trans hbl⟩,lew,by simp;omega⟩
 ·have hb1:(d.data.length=(zg b).length)=True:=eq_true (by rw [zg,List.length_map,hbl])
  have hb2:List.take d.data.length (zg b)=zg b:=List.take_of_length_le (by rw [zg,List.length_map,hbl];omega)
  (have tk:=zb Tryz.prog);repeat' (first|((first|(refine sa ?_;intro K hK)|refine sb ?_);simp only [go_sem,aeq,aeq.aeqF,simprocAttr,hcmp,hb1,hb2,if_true,z2,zaJ,Tryz.results182])|refine zj (fun K hK=>?_)|refine sc ?_|refine zi rfl (fun hc=>?_) (fun hc=>?_)|(refine hK _ ?_;clear hK K)|with_reducible refine And.intro ?_ ?_|(refine (show zO _ _=true from ?_);kernel_rfl)|omega|assumption|refine fun (hg:(_:Bool)=(_:Bool))=>?_|clear hK K)
  rw [hb,hend,zeS]
@[go_sem] noncomputable def zlH:Ent Tryz.prog 182:= .ofL (consL zp (consL (zdi (.d (.bool true))) (consL (zdi (.d (.sl 1 []))) nilL))) (fun (d,_,_,_)=>(DiskOk d)∧(d.cache.all (putOk d)=true)) (fun (d,_,_,_)=> .d (.str (zbF d.data d.cache))) (fun (d,_,_,_) hp=>⟨rfl,zpN d hp.1 hp.2⟩)
theorem zgQ {d:Disk} :∀ (l:List PutR) (b:Txt),b.length=d.data.length→l.all (putOk d)=true→(zbF b l).length=b.length
 | [],_,_,_=>rfl
 |q::l,b,hb,h=>by
  rw [List.all_cons,Bool.and_eq_true] at h
  obtain ⟨h1,h2⟩:=h
  rw [putOk,Bool.and_eq_true] at h1
  have h3:=there_iff.1 h1.1
  have h4:q.2.length=64:=by have:=eq_of_beq h1.2;omega
  have h5:(lay b (q.1*64).toNat q.2).length=b.length:=zi5 (by omega)
  rw [zbF,List.foldl_cons]
  exact (zgQ l _ (h5.trans hb) h2).trans h5
theorem zfv {d:Disk} (h:d.cache.all (putOk d)=true):(zbF d.data d.cache).length=d.data.length:=zgQ (d:=d) _ _ rfl h
theorem znV (d:Disk) (hp:DiskOk d∧d.cache.all (putOk d)=true):AC 115 [diskA d] (.tup [diskA (dflush d).1,.d (.int .i64 (dflush d).2)]):=by
 obtain ⟨hd,hf⟩:=hp
 refine fbod Tryz.func115 Tryz.ntmps115 (fun base=>?_)
 have hk:DiskOk { d with data:=zbF d.data d.cache,cache:= [] } :=⟨by simp only [zfv hf];exact hd.data,by simp,hd.bad,hd.fuse0,hd.fuse1⟩
 (have tk:=za zlH <| za zcU <| zb Tryz.prog;repeat' (first|(refine hK _ ?_;clear hK K)|refine wa fun K hK=>?_|refine wb ?_|refine wc ?_ ?_|refine fun (nb:Bool) (hnb:nb=true→_)=>?_|exact we|refine fun (hc:_=(_:Bool))=>?_|clear hK K))
 all_goals simp_all [dflush]
@[go_sem] noncomputable def zaW:Ent Tryz.prog 115:= .m1 zp znV
open Go Go.Proofs
theorem zpO {n:Nat} :((n:Int).tmod 64 !=0)= !(n % 64==0):=by
 rw [Int.tmod_eq_emod_of_nonneg (by omega)]
 by_cases h:n % 64=0
 ·have:(n:Int) % 64=0:=by omega
  simp [h,this]
 ·have:¬(n:Int) % 64=0:=by omega
  rw [bne,beq_eq_false_iff_ne.mpr this,beq_eq_false_iff_ne.mpr h]
theorem ztc {x:Bool} {n m:Int} :(!x||(n !=m))= !(x&&(n==m)):=by
 rw [Bool.not_and];rfl
theorem or_le {x:Bool} {n m:Int} :(!x||decide (n≤m))= !(x&&decide (m<n)):=by
 rw [Bool.not_and]
 congr 1
 by_cases h:m<n
 ·rw [decide_eq_true h,decide_eq_false (by omega)];rfl
 ·rw [decide_eq_false h,decide_eq_true (by omega)];rfl
theorem zrM (d:Disk) (hd:DiskOk d):AC 45 [diskA d] (.d (.bool (dfit d))):=by
 refine bod Tryz.func45 Tryz.ntmps45 (fun base=>?_)
 (have tk:=za zaI <| za zaU <| zb Tryz.prog;repeat' (first|(refine hK _ ?_;clear hK K)|refine wa fun K hK=>?_|refine wb ?_|refine wc ?_ ?_|exact we|refine fun (hc:_=(_:Bool))=>?_|clear hK K))
 ·rw [zpO] at hc
  rw [dfit]
  simp only [Bool.or_eq_true,decide_eq_true_eq,Bool.not_eq_true'] at hc
  congr 2
  rcases hc with ((hc|hc)|hc)|hc
  ·rw [decide_eq_false (p:=1≤dsize d) (by omega)];simp
  ·rw [decide_eq_false (p:=dsize d≤1024) (by omega)];simp
  ·rw [hc];simp
  ·rw [decide_eq_false (p:=d.cache.length≤4096) (by omega)];simp
 have hcl:=hd.cache
 have hbl:=hd.bad
 rw [zpO] at hc
 simp only [Bool.or_eq_false_iff,decide_eq_false_iff_not,Bool.not_eq_false'] at hc
 have hfit:dfit d=(d.cache.all (putOk d)&&zdz d d.bad none):=by
  rw [dfit,hc.1.2,decide_eq_true (p:=1≤dsize d) (by omega),decide_eq_true (p:=dsize d≤1024) (by omega),decide_eq_true (p:=d.cache.length≤4096) (by omega)]
  simp
 refine zn (fun q: { i:Nat // i≤d.cache.length∧d.cache.all (putOk d)=(d.cache.drop i).all (putOk d) } =>⟨[(1,true,.vp 0 0),(4,true,.d (.int .i64 q.1))],[(0,(.var [.d (.str d.data),.d (.sl 2 (d.cache.map putD)),.d (.int .i64 d.fuse),.d (.bool d.off),.d (.sl 1 (d.bad.map intD))]))],some []⟩) (fun q=>d.cache.length - q.1) ⟨0,Nat.zero_le _,rfl⟩ le1 (fun q=>?_)
 obtain ⟨i,hi,hf⟩:=q
 simp only at hi hf ⊢
 rcases zG putD d.cache i hi with ⟨⟨m,s⟩,hq,hlt,hcmp,hrow,hdr,htk⟩|⟨hend,hcmp⟩
 ·simp only [putD] at hrow
  have hwi:=zq (i:=i) (by omega)
  rw [hdr,List.all_cons,putOk] at hf
  (have tk:=za zaI <| za zaU <| zb Tryz.prog;have fx:=(⟨hcmp,hrow⟩:_∧_);repeat' (first|(refine hK _ ?_;clear hK K)|refine wa fun K hK=>?_|refine wb ?_|refine wc ?_ ?_|exact we|refine fun (hc:_=(_:Bool))=>?_|clear hK K))
  ·have hc:(there d m&&((s.length:Int)==64))=false:=by rw [ztc] at hc;simp only [Bool.not_eq_true',Bool.not_eq_false'] at hc;exact hc
   rw [hfit,hf]
   simp only [hc,Bool.false_and]
  ·have hc:(there d m&&((s.length:Int)==64))=true:=by rw [ztc] at hc;simp only [Bool.not_eq_true',Bool.not_eq_false'] at hc;exact hc
   exact ⟨⟨i+1,by omega,by rw [hf];simp only [hc,Bool.true_and]⟩,lew,by simp;omega⟩
 ·rw [hend,List.drop_length] at hf
  (have tk:=zb Tryz.prog;have fx:=hcmp;repeat' (first|(refine hK _ ?_;clear hK K)|refine wa fun K hK=>?_|refine wb ?_|refine wc ?_ ?_|exact we|refine fun (hc:_=(_:Bool))=>?_|clear hK K))
  refine zn (fun q: { i:Nat // i≤d.bad.length∧zdz d d.bad none=zdz d (d.bad.drop i) (if i=0 then none else d.bad[i - 1]?) } =>⟨[(1,true,.vp 0 0),(5,true,.d (.int .i64 q.1))],[(0,(.var [.d (.str d.data),.d (.sl 2 (d.cache.map putD)),.d (.int .i64 d.fuse),.d (.bool d.off),.d (.sl 1 (d.bad.map intD))]))],some []⟩) (fun q=>d.bad.length - q.1) ⟨0,Nat.zero_le _,rfl⟩ le1 (fun q=>?_)
  obtain ⟨j,hj,hg⟩:=q
  simp only at hj hg ⊢
  rcases zG intD d.bad j hj with ⟨m,hq,hlt,hcmp,hrow,hdr,htk⟩|⟨hend,hcmp⟩
  ·simp only [intD] at hrow
   have hwi:=zq (i:=j) (by omega)
   rw [hdr] at hg
   cases j with
   | zero=>
    have hz:decide ((0:Int)<((0:Nat):Int))=false:=by decide
    simp only [if_pos,zdz,Bool.and_true] at hg
    have hcmp0:decide ((0:Int)<(d.bad.length:Int))=true:=hcmp
    (have tk:=za zaI <| za zaU <| zb Tryz.prog;have fx:=(⟨hcmp0,hrow,hz⟩:_∧_∧_);repeat' (first|(refine hK _ ?_;clear hK K)|refine wa fun K hK=>?_|refine wb ?_|refine wc ?_ ?_|exact we|refine fun (hc:_=(_:Bool))=>?_|clear hK K))
    ·have hc:there d m=false:=by simpa using hc
     rw [hfit,hg,hc,Bool.false_and,Bool.and_false]
    ·have hc:there d m=true:=by simpa using hc
     rw [hc,Bool.true_and] at hg
     exact ⟨⟨0+1,by omega,by rw [if_neg (by omega),Nat.zero_add,Nat.sub_self,hq];exact hg⟩,lev,by simp;omega⟩
   | succ j=>
    have hz:decide ((0:Int)<((j+1:Nat):Int))=true:=decide_eq_true (by omega)
    obtain ⟨m',hq'⟩:=zal (l:=d.bad) (i:=j) (by omega)
    have hrow':=zcf (g:=intD) hq'
    simp only [intD] at hrow'
    have hwj:IntKind.i64.wrap (((j+1:Nat):Int) - 1)=(j:Int):=by rw [zh (by omega) (by omega)];omega
    rw [if_neg (by omega),Nat.add_sub_cancel,hq'] at hg
    simp only [zdz] at hg
    (have tk:=za zaI <| za zaU <| zb Tryz.prog;have fx:=(⟨hcmp,hrow,hz,hrow',hwj⟩:_∧_∧_∧_∧_);repeat' (first|(refine hK _ ?_;clear hK K)|refine wa fun K hK=>?_|refine wb ?_|refine wc ?_ ?_|exact we|refine fun (hc:_=(_:Bool))=>?_|clear hK K))
    ·have hc:(there d m&&decide (m'<m))=false:=by rw [or_le] at hc;simp only [Bool.not_eq_true',Bool.not_eq_false'] at hc;exact hc
     rw [hfit,hg,hc,Bool.false_and,Bool.and_false]
    ·have hc:(there d m&&decide (m'<m))=true:=by rw [or_le] at hc;simp only [Bool.not_eq_true',Bool.not_eq_false'] at hc;exact hc
     rw [hc,Bool.true_and] at hg
     exact ⟨⟨j+1+1,by omega,by rw [if_neg (by omega),Nat.add_sub_cancel,hq];exact hg⟩,lew,by simp;omega⟩
  ·rw [hend,List.drop_length] at hg
   (have tk:=zb Tryz.prog;have fx:=hcmp;repeat' (first|(refine hK _ ?_;clear hK K)|refine wa fun K hK=>?_|refine wb ?_|refine wc ?_ ?_|exact we|refine fun (hc:_=(_:Bool))=>?_|clear hK K))
   rw [hfit,hf,hg]
   rfl
@[go_sem] noncomputable def zdk:Ent Tryz.prog 45:= .m1 zp zrM
open Go Go.Proofs
def idxP {α:Type} (p:α→Bool):List α→Nat→Int
 | [],_=> -1
 |q::l,k=>if p q=true then (k:Int) else idxP p l (k+1)
abbrev Idst {α:Type} (p:α→Bool) (l:List α):= { i:Nat // i≤l.length∧idxP p l 0=idxP p (l.drop i) i }
theorem zgR {α:Type} (p:α→Bool):∀ (l:List α) (k:Nat),decide ((0:Int)≤idxP p l k)=l.any p
 | [],k=>rfl
 |q::l,k=>by
  rw [idxP,List.any_cons]
  by_cases h:p q=true
  ·rw [if_pos h,h,decide_eq_true (by omega)];rfl
  ·rw [if_neg h,zgR p l (k+1)];simp [h]
theorem zfV {α:Type} [BEq α] [LawfulBEq α] (x:α):∀ (l:List α),l.any (fun q=>x==q)=l.contains x
 | []=>rfl
 |q::l=>by rw [List.any_cons,zfV x l,List.contains_cons]
theorem zlI (l:List Int) (x:Int) (hl:l.length≤9223372036854775807):AC 226 [.d (.sl 1 (l.map intD)),.d (.int .i64 x)] (.d (.int .i64 (idxP (fun q=>x==q) l 0))):=by
 refine bod Tryz.func226 Tryz.ntmps226 (fun base=>?_)
 (repeat' (first|(refine hK _ ?_;clear hK K)|refine wa fun K hK=>?_|refine wb ?_|refine wc ?_ ?_|exact we|refine fun (hc:_=(_:Bool))=>?_|clear hK K))
 refine zn (fun q:Idst (fun q=>x==q) l=>⟨[(0,true,.d (.sl 1 (l.map intD))),(1,true,.d (.int .i64 x)),(7,true,.d (.int .i64 l.length)),(8,true,.d (.int .i64 q.1))],[],some []⟩) (fun q=>l.length - q.1) ⟨0,Nat.zero_le _,rfl⟩ le1 (fun q=>?_)
 obtain ⟨i,hi,hf⟩:=q
 simp only at hi hf ⊢
 rcases zG intD l i hi with ⟨m,hq,hlt,hcmp,hrow,hdr,htk⟩|⟨hend,hcmp⟩
 ·simp only [intD] at hrow
  have hwi:=zq (i:=i) (by omega)
  (have fx:=(⟨hcmp,hrow⟩:_∧_);repeat' (first|(refine hK _ ?_;clear hK K)|refine wa fun K hK=>?_|refine wb ?_|refine wc ?_ ?_|exact we|refine fun (hc:_=(_:Bool))=>?_|clear hK K))
  ·rw [hf,hdr,idxP,if_pos (by simpa using hc)]
  ·exact ⟨⟨i+1,by omega,by rw [hf,hdr,idxP,if_neg (by simpa using hc)]⟩,lew,by simp;omega⟩
 ·(have fx:=hcmp;repeat' (first|(refine hK _ ?_;clear hK K)|refine wa fun K hK=>?_|refine wb ?_|refine wc ?_ ?_|exact we|refine fun (hc:_=(_:Bool))=>?_|clear hK K))
  rw [hf,hend,List.drop_length]
  rfl
@[go_sem] noncomputable def zX:Ent Tryz.prog 226:= .m2 (slT 1 intD zbY) (intT .i64) zlI
theorem zhC (l:List Int) (x:Int) (hl:l.length≤9223372036854775807):AC 232 [.d (.sl 1 (l.map intD)),.d (.int .i64 x)] (.d (.bool (l.contains x))):=by
 refine bod Tryz.func232 Tryz.ntmps232 (fun base=>?_)
 (have tk:=za zX <| zb Tryz.prog;repeat' (first|(refine hK _ ?_;clear hK K)|refine wa fun K hK=>?_|refine wb ?_|refine wc ?_ ?_|exact we|clear hK K))
 rw [zgR,zfV]
@[go_sem] noncomputable def zcb:Ent Tryz.prog 232:= .m2 (slT 1 intD zbY) (intT .i64) zhC
theorem ztw (d:Disk) (hd:DiskOk d):AC 273 [diskA d] (.d (.int .i64 (dsize d))):=by
 refine bod Tryz.func273 Tryz.ntmps273 (fun base=>?_)
 (have fx:=zta hd.data;repeat' (first|(refine hK _ ?_;clear hK K)|refine wa fun K hK=>?_|refine wb ?_|refine wc ?_ ?_|exact we|clear hK K))
 rfl
@[go_sem] noncomputable def zpP:Ent Tryz.prog 273:= .m1 zp ztw
theorem zuv (d:Disk) (at_:Int):(decide (at_<0)||decide (((dsize d:Nat):Int)≤at_))= !there d at_:=by
 rw [there,Bool.not_and]
 congr 1
 ·by_cases h:at_<0
  ·rw [decide_eq_true h,decide_eq_false (by omega)];rfl
  ·rw [decide_eq_false h,decide_eq_true (by omega)];rfl
 ·by_cases h:at_<(dsize d:Int)
  ·rw [decide_eq_true h,decide_eq_false (by omega)];rfl
  ·rw [decide_eq_false h,decide_eq_true (by omega)];rfl
theorem zuw (d:Disk) (at_:Int) (hd:DiskOk d):AC 231 [diskA d,.d (.int .i64 at_)] (.d (.bool (!there d at_))):=by
 refine bod Tryz.func231 Tryz.ntmps231 (fun base=>?_)
 (have tk:=za zpP <| zb Tryz.prog;repeat' (first|(refine hK _ ?_;clear hK K)|refine wa fun K hK=>?_|refine wb ?_|refine wc ?_ ?_|exact we|refine fun (hc:_=(_:Bool))=>?_|clear hK K))
 rw [zuv]
@[go_sem] noncomputable def zi6:Ent Tryz.prog 231:= .m2 zp (intT .i64) zuw
open Go Go.Proofs
def dburn (d:Disk):Disk×Bool:=if d.fuse=0 then ({ d with off:=true },false) else (burnt d,true)
theorem ztx (d:Disk) (hd:DiskOk d):AC 260 [diskA d] (.tup [diskA (dburn d).1,.d (.bool (dburn d).2)]):=by
 refine fbod Tryz.func260 Tryz.ntmps260 (fun base=>?_)
 have h1:=hd.fuse1
 have hw:0<d.fuse→IntKind.i64.wrap (d.fuse - 1)=d.fuse - 1:=fun h=>zh (by omega) (by omega)
 (repeat' (first|(refine hK _ ?_;clear hK K)|refine wa fun K hK=>?_|refine wb ?_|refine wc ?_ ?_|exact we|refine fun (hc:_=(_:Bool))=>?_|clear hK K))
 all_goals by_cases h0:d.fuse=0
 all_goals by_cases h2:0<d.fuse
 all_goals simp_all [dburn,burnt]
 all_goals simp only [if_neg (show ¬0<d.fuse by omega)]
 all_goals simp
@[go_sem] noncomputable def zkn:Ent Tryz.prog 260:= .m1 zp ztx
theorem zhD (l:List PutR) (fl:Nat) (hl:l.length≤5000):ACall Tryz.prog 276 fl [.d (.sl 2 (l.map putD))] [] (fun r h'=>r= .osl fl 2 l.length 0 l.length∧h'= [(fl,.arr 2 (l.map putD))]):=by
 refine bod Tryz.func276 Tryz.ntmps276 (fun base=>?_)
 (repeat' ((fail_if_success refine hds 2 (by rfl) ?_);first|(refine hK _ ?_;clear hK K)|refine wa fun K hK=>?_|refine wb ?_|refine wc ?_ ?_|refine fun (nb:Bool) (hnb:nb=true→_)=>?_|exact we|refine fun (hc:_=(_:Bool))=>?_|clear hK K))
 ·refine zf noTab (zb _) (fun K hK=>?_);simp only [go_sem,aeq,aeq.aeqF,simprocAttr]
  (first|(refine hK _ ?_;clear hK K)|(clear hK K;refine hK _ ?_;clear hK K)|(clear hK K;clear hK K;refine hK _ ?_;clear hK K)|(clear hK K;clear hK K;clear hK K;refine hK _ ?_;clear hK K)|(clear hK K;clear hK K;clear hK K;clear hK K;refine hK _ ?_;clear hK K))
  refine zcT 2 2 rfl ?_
  have h0:l= []:=List.map_eq_nil_iff.1 (hnb hc)
  subst h0
  (repeat' (first|(refine hK _ ?_;clear hK K)|refine wa fun K hK=>?_|refine wb ?_|refine wc ?_ ?_|refine fun (nb:Bool) (hnb:nb=true→_)=>?_|exact we|refine fun (hc:_=(_:Bool))=>?_|clear hK K))
  all_goals rfl
theorem zlJ (d:Disk) (at_:Int) (s:Txt) (hd:DiskOk d):AC 234 [diskA d,.d (.int .i64 at_),.d (.str s)] (.tup [diskA (zT d at_ s).1,.d (.int .i64 (zT d at_ s).2)]):=by
 refine fbod Tryz.func234 Tryz.ntmps234 (fun base=>?_)
 have h1:=hd.bad
 (have tk:=za zi6 <| za zcb <| za zkn <| zb Tryz.prog;repeat' ((fail_if_success refine hds 14 (by rfl) ?_);first|(refine hK _ ?_;clear hK K)|refine wa fun K hK=>?_|refine wb ?_|refine wc ?_ ?_|refine fun (nb:Bool) (hnb:nb=true→_)=>?_|exact we|refine fun (hc:_=(_:Bool))=>?_|clear hK K))
 all_goals first|(simp_all [zT];done)|(by_cases h0:d.fuse=0<;>simp_all [zT,dburn];done)|skip
 have hl:d.cache.length≤5000:=by simp_all;omega
 (have tk:=zb Tryz.prog;repeat' (first|(refine hK _ ?_;clear hK K)|refine wa fun K hK=>?_|refine wb ?_|refine wc ?_ ?_|refine fun (nb:Bool) (hnb:nb=true→_)=>?_|exact we|refine fun (hc:_=(_:Bool))=>?_|clear hK K))
 refine ((zhD d.cache 3 hl).own rfl rfl (Nat.zero_le _) (by rintro r h' ⟨_,rfl⟩;rfl)).mono ?_
 rintro r h' ⟨h1,⟨rfl,rfl⟩,rfl⟩
 simp only [go_sem,aeq,aeq.aeqF,simprocAttr]
 refine ⟨by omega,by omega,?_⟩
 (have tk:=zb Tryz.prog;repeat' (first|(refine hK _ ?_;clear hK K)|refine wa fun K hK=>?_|refine wb ?_|refine wc ?_ ?_|refine fun (nb:Bool) (hnb:nb=true→_)=>?_|exact we|refine fun (hc:_=(_:Bool))=>?_|clear hK K))
 have hr:d.cache.map putD++ [[.int .i64 at_,.str s]]=(d.cache++ [(at_,s)]).map putD:=by simp [putD]
 rw [hr,if_pos (by simp),List.take_of_length_le (by simp)]
 clear hr
 by_cases h0:d.fuse=0
 ·simp_all [dburn]
 by_cases h6:4096≤(d.cache.length:Int)
 ·exfalso;simp_all
 by_cases h2:0<d.fuse
 ·simp only [zT,dburn,burnt,if_neg h6,if_neg h0,if_pos h2];simp_all
 ·simp only [zT,dburn,burnt,if_neg h6,if_neg h0,if_neg h2];simp_all
@[go_sem] noncomputable def za0:Ent Tryz.prog 234:= .m3 zp (intT .i64) strT zlJ
theorem zko (n:Int) (_:True):AC 262 [.d (.int .i64 n)] (.d (.bool true)):=by
 refine bod Tryz.func262 Tryz.ntmps262 (fun base=>?_)
 (repeat' (first|(refine hK _ ?_;clear hK K)|refine wa fun K hK=>?_|refine wb ?_|refine wc ?_ ?_|exact we|clear hK K))
@[go_sem] noncomputable def zev:Ent Tryz.prog 262:= .m1 (intT .i64) zko
theorem znW (d:Disk) (hd:DiskOk d) (hf:d.cache.all (putOk d)=true):ACall Tryz.prog 261 0 [diskA d,.fn (.func 262) [] []] [] (fun r _=>r= .d (.str (zbF d.data d.cache))):=by
 refine fbod Tryz.func261 Tryz.ntmps261 (fun base=>?_)
 (have tk:=za zev <| zb Tryz.prog;repeat' (first|(refine hK _ ?_;clear hK K)|refine wa fun K hK=>?_|refine wb ?_|refine wc ?_ ?_|exact we|refine fun (hc:_=(_:Bool))=>?_|clear hK K))
 have hcl:=hd.cache
 have hdl:=hd.data
 refine zn (fun q: { q:Nat×Txt // q.1≤d.cache.length∧q.2=zbF d.data (d.cache.take q.1)∧q.2.length=d.data.length } =>⟨[(1,true,.fn (.func 262) [] []),(5,true,.osl 1 1 (List.length d.data) 0 (List.length d.data)),(12,true,.d (.sl 2 (d.cache.map putD))),(13,true,.d (.int .i64 d.cache.length)),(14,true,.d (.int .i64 q.1.1))],[(1,.arr 1 (zg q.1.2)),(0,(.var [.d (.str d.data),.d (.sl 2 (d.cache.map putD)),.d (.int .i64 d.fuse),.d (.bool d.off),.d (.sl 1 (d.bad.map intD))]))],some []⟩) (fun q=>d.cache.length - q.1.1) ⟨(0,d.data),Nat.zero_le _,rfl,rfl⟩ le1 (fun q=>?_)
 obtain ⟨⟨i,b⟩,hi,hb,hbl⟩:=q
 simp only at hi hb hbl ⊢
 rcases zG putD d.cache i hi with ⟨⟨m,s⟩,hq,hlt,hcmp,hrow,hdr,htk⟩|⟨hend,hcmp⟩
 ·simp only [putD] at hrow
  obtain ⟨p1,p2,p3⟩:=ztb hf hq
  simp only at p1 p2 p3
  have hwi:=zq (i:=i) (by omega)
  have hwm:IntKind.i64.wrap (m*64)=m*64:=zh (by omega) (by omega)
  have hst:=zkm (b:=d.data) hq
  rw [← hb] at hst
  have hll:(lay b (m*64).toNat s).length=b.length:=zi5 (by omega)
  have hb0:(zg b).length=d.data.length:=by rw [zg,List.length_map,hbl]
  (have tk:=za zev <| zb Tryz.prog;have fx:=(⟨hcmp,hrow,hwm,@zm9,hb0⟩:_∧_∧_∧_∧_);repeat' (first|(refine hK _ ?_;clear hK K)|refine wa fun K hK=>?_|refine wb ?_|refine wc ?_ ?_|exact we|refine fun (hc:_=(_:Bool))=>?_|clear hK K))
  ·rw [zg,List.length_map];omega
  ·exact ⟨⟨(i+1,lay b (m*64).toNat s),by omega,hst.symm,hll.trans hbl⟩,lew,by simp;omega⟩
 ·have hb1:(d.data.length=(zg b).length)=True:=eq_true (by rw [zg,List.length_map,hbl])
  have hb2:List.take d.data.length (zg b)=zg b:=List.take_of_length_le (by rw [zg,List.length_map,hbl];omega)
  (have tk:=zb Tryz.prog);repeat' (first|((first|(refine sa ?_;intro K hK)|refine sb ?_);simp only [go_sem,aeq,aeq.aeqF,simprocAttr,hcmp,hb1,hb2,if_true,z2,zaJ,Tryz.results261])|refine zj (fun K hK=>?_)|refine sc ?_|refine zi rfl (fun hc=>?_) (fun hc=>?_)|(refine hK _ ?_;clear hK K)|with_reducible refine And.intro ?_ ?_|(refine (show zO _ _=true from ?_);kernel_rfl)|omega|assumption|clear hK K)
  rw [hb,hend,zeS]
@[go_sem] noncomputable def zkp:Ent Tryz.prog 261:= .ofL (consL zp (consL (fnT 262 nilL) nilL)) (fun (d,_,_)=>(DiskOk d)∧(d.cache.all (putOk d)=true)) (fun (d,_,_)=> .d (.str (zbF d.data d.cache))) (fun (d,_,_) hp=>⟨rfl,znW d hp.1 hp.2⟩)
theorem zlK (d:Disk) (hp:DiskOk d∧d.cache.all (putOk d)=true):AC 210 [diskA d] (.tup [diskA (dflush d).1,.d (.int .i64 (dflush d).2)]):=by
 obtain ⟨hd,hf⟩:=hp
 refine fbod Tryz.func210 Tryz.ntmps210 (fun base=>?_)
 (have tk:=za zkn <| za zkp <| zb Tryz.prog;repeat' (first|(refine hK _ ?_;clear hK K)|refine wa fun K hK=>?_|refine wb ?_|refine wc ?_ ?_|refine fun (nb:Bool) (hnb:nb=true→_)=>?_|exact we|refine fun (hc:_=(_:Bool))=>?_|clear hK K))
 all_goals first|(simp_all [dflush];done)|skip
 all_goals by_cases h0:d.fuse=0
 all_goals by_cases h2:0<d.fuse
 all_goals simp_all [dflush,dburn,burnt]
 all_goals simp only [if_neg (show ¬0<d.fuse by omega)]
 all_goals simp [*]
@[go_sem] noncomputable def za1:Ent Tryz.prog 210:= .m1 zp zlK
open Go Go.Proofs
theorem znZ (rows:List (List D)):ACall Tryz.prog 275 0 [.d (.sl 2 rows)] [] (fun r _=>r= .fn (.func 295) [] [.dp [.d (.sl 2 rows)]]):=by
 refine fbod Tryz.func275 Tryz.ntmps275 (fun base=>?_)
 (repeat' (first|(refine hK _ ?_;clear hK K)|refine wa fun K hK=>?_|refine wb ?_|refine wc ?_ ?_|refine fun (nb:Bool) (hnb:nb=true→_)=>?_|exact we|clear hK K))
noncomputable def zfW:Ent Tryz.prog 275:=Ent.of 275 (fun x:(List (List D))=>(fun (rows:List (List D))=>([.d (.sl 2 rows)]:List AV)) x) (fun x:(List (List D))=>(fun (rows:List (List D))=>(True:Prop)) x) (fun x:(List (List D))=>(fun (rows:List (List D))=>(.fn (.func 295) [] [.dp [.d (.sl 2 rows)]]:AV)) x) (fun x hp=>⟨rfl,znZ x⟩)
theorem zkr:∀x y:(List (List D)),(fun x:(List (List D))=>(fun (rows:List (List D))=>([.d (.sl 2 rows)]:List AV)) x) x=(fun x:(List (List D))=>(fun (rows:List (List D))=>([.d (.sl 2 rows)]:List AV)) x) y→x=y:=by
 intro x y h
 skip
 simpa only [List.cons.injEq,AV.d.injEq,AV.agg.injEq,AV.dp.injEq,AV.fn.injEq,AV.tup.injEq,AV.asl.injEq,Int.natCast_inj,D.int.injEq,D.str.injEq,D.bool.injEq,D.sl.injEq,Prod.mk.injEq,and_true,true_and,and_assoc] using h
@[go_sem] theorem zrO (rows:List (List D)):(zfW).e [.d (.sl 2 rows)]=some (True,.fn (.func 295) [] [.dp [.d (.sl 2 rows)]]):=Ent.of_app zkr (rows)
theorem zty (d:Disk) (_:True):AC 233 [diskA d] (.fn (.func 274) [] [.dp (diskC d)]):=by
 refine fbod Tryz.func233 Tryz.ntmps233 (fun base=>?_)
 (repeat' (first|(refine hK _ ?_;clear hK K)|refine wa fun K hK=>?_|refine wb ?_|refine wc ?_ ?_|refine fun (nb:Bool) (hnb:nb=true→_)=>?_|exact we|clear hK K))
@[go_sem] noncomputable def zks:Ent Tryz.prog 233:= .m1 zp zty
def putAV (q:PutR):AV:= .agg [.d (.int .i64 q.1),.d (.str q.2)]
def backs:List PutR→List (Nat×PutR)
 | []=> []
 |q::r=>(r.length,q)::backs r
def zaQ (x:Nat×PutR):List AV:= [.d (.int .i64 x.1),putAV x.2]
abbrev Bst (l:List PutR):= { q:Nat×List (List AV) // q.1≤l.length∧q.2++(backs (l.take q.1).reverse).map zaQ=(backs l.reverse).map zaQ }
theorem zlL (l:List PutR) (hl:l.length≤9223372036854775807) (fl:Nat):AIter Tryz.prog 295 fl [] [.dp [.d (.sl 2 (l.map putD))]] [] ((backs l.reverse).map zaQ) (fun g h'=>(∀xs,g=some xs→xs=(backs l.reverse).map zaQ)∧h'= []):=by
 refine itr Tryz.func295 Tryz.ntmps295 (fun base y=>?_)
 (have tk:=zb Tryz.prog);repeat' (first|(refine zo (fun i=>decide (i<fl)) (by simp only [inH,idsH,hsel,AV.ids,AV.idsL,AV.idsR,AObj.ids,hget,go_sem,aeq,aeq.aeqF,simprocAttr]) ?_;simp only [go_sem,aeq,aeq.aeqF,simprocAttr,hsel,keepT];refine zu ?_;simp only [go_sem,aeq,aeq.aeqF,simprocAttr])|((first|(refine ya ?_;intro K hK)|refine yb ?_);simp only [go_sem,aeq,aeq.aeqF,simprocAttr])|refine zj (fun K hK=>?_)|refine sc ?_|refine zi rfl (fun hc=>?_) (fun hc=>?_)|(refine hK _ ?_;clear hK K)|((first|refine (show AS.le _ _ from ?_)|refine (show leH _ _ from ?_)|refine (show inH _ _ from ?_));simp only [AS.le,leT,leH,zc,AsgK,AV.le,AV.leL,AObj.le,inH,idsT,idsH,AV.ids,AV.idsL,AV.idsR,AObj.ids,lk,hget,go_sem,aeq,aeq.aeqF,simprocAttr])|refine fun (r2:Rnd _)=>?_|with_reducible refine And.intro ?_ ?_|exact ‹_<+:_› |omega|assumption|clear hK K)
 have hw0:IntKind.i64.wrap ((l.length:Int) - 1)=(l.length:Int) - 1:=zh (by omega) (by omega)
 refine zn (fun q:Bst l=>⟨[(0,true,.fn (.yield y.yl) [] []),(1,true,.dp [.d (.sl 2 (l.map putD))]),(3,true,.d (.int .i64 ((q.1.1:Int) - 1)))],[],some q.1.2⟩) (fun q=>q.1.1) ⟨(l.length,[]),Nat.le_refl _,by rw [zeS];rfl⟩ (by simp only [AS.le,leT,leH,zc,AsgK,AV.le,AV.leL,AObj.le,inH,idsT,idsH,AV.ids,AV.idsL,AV.idsR,AObj.ids,lk,hget,go_sem,aeq,aeq.aeqF,simprocAttr,hw0]) (fun q=>?_)
 obtain ⟨⟨i,xs⟩,hi,hf⟩:=q
 simp only at hi hf ⊢
 cases i with
 |zero=>
  have hz:decide ((0:Int)≤((0:Nat):Int) - 1)=false:=by decide
  (have tk:=zb Tryz.prog);repeat' (first|(refine zo (fun i=>decide (i<fl)) (by simp only [inH,idsH,hsel,AV.ids,AV.idsL,AV.idsR,AObj.ids,hget,go_sem,aeq,aeq.aeqF,simprocAttr]) ?_;simp only [go_sem,aeq,aeq.aeqF,simprocAttr,hz,hsel,keepT];refine zu ?_;simp only [go_sem,aeq,aeq.aeqF,simprocAttr,hz])|((first|(refine ya ?_;intro K hK)|refine yb ?_);simp only [go_sem,aeq,aeq.aeqF,simprocAttr,hz])|refine zj (fun K hK=>?_)|refine sc ?_|refine zi rfl (fun hc=>?_) (fun hc=>?_)|(refine hK _ ?_;clear hK K)|((first|refine (show AS.le _ _ from ?_)|refine (show leH _ _ from ?_)|refine (show inH _ _ from ?_));simp only [AS.le,leT,leH,zc,AsgK,AV.le,AV.leL,AObj.le,inH,idsT,idsH,AV.ids,AV.idsL,AV.idsR,AObj.ids,lk,hget,go_sem,aeq,aeq.aeqF,simprocAttr,hz])|refine fun (r2:Rnd _)=>?_|with_reducible refine And.intro ?_ ?_|exact ‹_<+:_› |omega|assumption|clear hK K)
  rintro zs rfl
  rw [← hf];simp [backs]
 |succ i=>
  have hz:decide ((0:Int)≤((i+1:Nat):Int) - 1)=true:=decide_eq_true (by omega)
  have hi1:(((i+1:Nat):Int) - 1)=(i:Int):=by omega
  have hwi:IntKind.i64.wrap ((i:Int) - 1)=(i:Int) - 1:=zh (by omega) (by omega)
  obtain ⟨⟨n,s⟩,hq⟩:=zal (l:=l) (i:=i) (by omega)
  have hrow:=zcf (g:=putD) hq
  simp only [putD] at hrow
  have hil:(l.take i).length=i:=by rw [List.length_take];omega
  rw [zbm hq,List.reverse_append,List.reverse_singleton,List.singleton_append,backs,List.length_reverse,hil] at hf
  have hp:(xs++ [zaQ (i,n,s)])<+:(backs l.reverse).map zaQ:=by rw [← hf];simp
  simp only [zaQ,putAV] at hp
  (have tk:=zb Tryz.prog);repeat' (first|(refine zo (fun i=>decide (i<fl)) (by simp only [inH,idsH,hsel,AV.ids,AV.idsL,AV.idsR,AObj.ids,hget,go_sem,aeq,aeq.aeqF,simprocAttr]) ?_;simp only [go_sem,aeq,aeq.aeqF,simprocAttr,hz,hi1,hrow,Int.toNat_natCast,hsel,keepT];refine zu ?_;simp only [go_sem,aeq,aeq.aeqF,simprocAttr,hz,hi1,hrow,Int.toNat_natCast])|((first|(refine ya ?_;intro K hK)|refine yb ?_);simp only [go_sem,aeq,aeq.aeqF,simprocAttr,hz,hi1,hrow,Int.toNat_natCast])|refine zj (fun K hK=>?_)|refine sc ?_|refine zi rfl (fun hc=>?_) (fun hc=>?_)|(refine hK _ ?_;clear hK K)|((first|refine (show AS.le _ _ from ?_)|refine (show leH _ _ from ?_)|refine (show inH _ _ from ?_));simp only [AS.le,leT,leH,zc,AsgK,AV.le,AV.leL,AObj.le,inH,idsT,idsH,AV.ids,AV.idsL,AV.idsR,AObj.ids,lk,hget,go_sem,aeq,aeq.aeqF,simprocAttr,hz,hi1,hrow,Int.toNat_natCast])|refine fun (r2:Rnd _)=>?_|with_reducible refine And.intro ?_ ?_|exact ‹_<+:_› |omega|assumption|clear hK K)
  exact ⟨⟨(i,xs++ [zaQ (i,n,s)]),by omega,by rw [← hf];simp⟩,by simp only [AS.le,leT,leH,zc,AsgK,AV.le,AV.leL,AObj.le,inH,idsT,idsH,AV.ids,AV.idsL,AV.idsR,AObj.ids,lk,hget,go_sem,aeq,aeq.aeqF,simprocAttr,hwi,zaQ,putAV],by simp⟩
def zcJ (q:PutR):List AV:= [putAV q]
theorem zkt:∀l:List PutR,(backs l).map (fun x=>x.2)=l
 | []=>rfl
 |q::l=>by rw [backs,List.map_cons,zkt l]
theorem zna (l:List PutR):((backs l).map zaQ).map (fun x=>x.drop 1)=l.map zcJ:=by
 have:(backs l).map zaQ=(backs l).map (fun x=> .d (.int .i64 x.1)::zcJ x.2):=rfl
 rw [this,List.map_map]
 have h2:(fun x:List AV=>x.drop 1) ∘ (fun x:Nat×PutR=>AV.d (.int .i64 x.1)::zcJ x.2)=zcJ ∘ (fun x=>x.2):=rfl
 rw [h2,← List.map_map,zkt]
theorem zrP {l:List PutR} {xs:List (List AV)} {x:Nat×PutR} (h:(xs++ [zaQ x])<+:(backs l).map zaQ):(xs.map (fun x=>x.drop 1)++ [zcJ x.2])<+:l.map zcJ:=by
 have:=h.map (fun x=>x.drop 1)
 rw [zna,List.map_append] at this
 exact this
theorem zlM (d:Disk) (hd:DiskOk d):AIter Tryz.prog 274 100 [] [.dp (diskC d)] [] (d.cache.reverse.map zcJ) (fun g h'=>(∀xs,g=some xs→xs=d.cache.reverse.map zcJ)∧h'= []):=by
 refine itr Tryz.func274 Tryz.ntmps274 (fun base y=>?_)
 refine zd1 ?_
 (have tk:=za zfW <| zb Tryz.prog);repeat' (first|(refine zo (fun i=>decide (i<100)) (by simp only [inH,idsH,hsel,AV.ids,AV.idsL,AV.idsR,AObj.ids,hget,go_sem,aeq,aeq.aeqF,simprocAttr]) ?_;simp only [go_sem,aeq,aeq.aeqF,simprocAttr,hsel,keepT];refine zu ?_;simp only [go_sem,aeq,aeq.aeqF,simprocAttr])|((first|(refine ya ?_;intro K hK)|refine yb ?_);simp only [go_sem,aeq,aeq.aeqF,simprocAttr])|refine zj (fun K hK=>?_)|refine sc ?_|refine zi rfl (fun hc=>?_) (fun hc=>?_)|(refine hK _ ?_;clear hK K)|((first|refine (show AS.le _ _ from ?_)|refine (show leH _ _ from ?_)|refine (show inH _ _ from ?_));simp only [AS.le,leT,leH,zc,AsgK,AV.le,AV.leL,AObj.le,inH,idsT,idsH,AV.ids,AV.idsL,AV.idsR,AObj.ids,lk,hget,go_sem,aeq,aeq.aeqF,simprocAttr])|refine fun (r2:Rnd _)=>?_|with_reducible refine And.intro ?_ ?_|exact ‹_<+:_› |omega|assumption|clear hK K)
 obtain ⟨I,hI⟩:∃I:List (List AV)→AHeap×Option (List (List AV)),I=fun xs=>([(100,.var [.fn (.yield y.yl) [] []])],some (xs.map (fun x=>x.drop 1))):=⟨_,rfl⟩
 obtain ⟨G,hG⟩:∃G:List (List AV)→Prop,G=fun _=>True:=⟨_,rfl⟩
 obtain ⟨J,hJ⟩:∃J:Code→AHeap→Option (List (List AV))→Prop,J=fun c h g=>c= .ret∧h= [(100,.var [.fn (.yield y.yl) [] []])]∧g=none:=⟨_,rfl⟩
 refine zbe 200 G I J (zlL d.cache hd.cache 200) (by simp only [go_sem,aeq,aeq.aeqF,simprocAttr]) rfl (zaP rfl) (by simp [cxOf,cxY]) rfl (by rw [hG];first|trivial|rfl|simp) (by rw [hI];simp only [AS.le,leT,leH,zc,AsgK,AV.le,AV.leL,AObj.le,inH,idsT,idsH,AV.ids,AV.idsL,AV.idsR,AObj.ids,lk,hget,go_sem,aeq,aeq.aeqF,simprocAttr]<;>simp [AV.leL,AV.le]) (by rw [hI];simp only [AS.le,leT,leH,zc,AsgK,AV.le,AV.leL,AObj.le,inH,idsT,idsH,AV.ids,AV.idsL,AV.idsR,AObj.ids,lk,hget,go_sem,aeq,aeq.aeqF,simprocAttr]<;>simp) (by rw [hI]<;>rfl) (by intro x hx;obtain ⟨q,_,rfl⟩:=List.mem_map.1 hx;rfl) (by intro t ht;simp at ht;first|(rcases ht with rfl|rfl<;>simp [cxOf,cxY]<;>done)|(subst ht;simp [cxOf,cxY])) ?_ ?_ ?_
 ·intro xs x hpre hgd l1 r1
  obtain ⟨⟨i,n,s⟩,hq,rfl⟩:=List.mem_map.1 (hpre.subset (List.mem_append_right _ (List.mem_singleton.2 rfl)))
  have hp:=zrP hpre
  simp only [zaQ,putAV,zcJ] at hp ⊢
  refine aw_le ⟨[(9,true,.agg [.d (.int .i64 n),.d (.str s)]),(2,true,.vp 100 0)],[(100,.var [.fn (.yield y.yl) [] []])],some (xs.map (fun x=>x.drop 1))⟩ (by rw [hI];simp only [AS.le,leT,leH,zc,AsgK,AV.le,AV.leL,AObj.le,inH,idsT,idsH,AV.ids,AV.idsL,AV.idsR,AObj.ids,lk,hget,go_sem,aeq,aeq.aeqF,simprocAttr]) ?_
  (have tk:=zb Tryz.prog);repeat' (first|(refine zo (fun i=>decide (i<200)) (by simp only [inH,idsH,hsel,AV.ids,AV.idsL,AV.idsR,AObj.ids,hget,go_sem,aeq,aeq.aeqF,simprocAttr]) ?_;simp only [go_sem,aeq,aeq.aeqF,simprocAttr,hI,hsel,keepT];refine zu ?_;simp only [go_sem,aeq,aeq.aeqF,simprocAttr,hI])|((first|(refine ya ?_;intro K hK)|refine yb ?_);simp only [go_sem,aeq,aeq.aeqF,simprocAttr,hI])|refine zj (fun K hK=>?_)|refine sc ?_|refine zi rfl (fun hc=>?_) (fun hc=>?_)|(refine hK _ ?_;clear hK K)|((first|refine (show AS.le _ _ from ?_)|refine (show leH _ _ from ?_)|refine (show inH _ _ from ?_));simp only [AS.le,leT,leH,zc,AsgK,AV.le,AV.leL,AObj.le,inH,idsT,idsH,AV.ids,AV.idsL,AV.idsR,AObj.ids,lk,hget,go_sem,aeq,aeq.aeqF,simprocAttr,hI])|refine fun (r2:Rnd _)=>?_|with_reducible refine And.intro ?_ ?_|exact ‹_<+:_› |omega|assumption|clear hK K)
  ·rw [hG];trivial
  ·simp
  ·rw [hJ];exact ⟨rfl,rfl,rfl⟩
 ·intro _
  rw [hI]
  simp only [go_sem,aeq,aeq.aeqF,simprocAttr]
  rintro zs rfl
  exact zna _
 ·rw [hJ]
  rintro c h3 g3 ⟨rfl,rfl,rfl⟩
  (have tk:=zb Tryz.prog);repeat' (first|(refine zo (fun i=>decide (i<100)) (by simp only [inH,idsH,hsel,AV.ids,AV.idsL,AV.idsR,AObj.ids,hget,go_sem,aeq,aeq.aeqF,simprocAttr]) ?_;simp only [go_sem,aeq,aeq.aeqF,simprocAttr,hsel,keepT];refine zu ?_;simp only [go_sem,aeq,aeq.aeqF,simprocAttr])|((first|(refine ya ?_;intro K hK)|refine yb ?_);simp only [go_sem,aeq,aeq.aeqF,simprocAttr])|refine zj (fun K hK=>?_)|refine sc ?_|refine zi rfl (fun hc=>?_) (fun hc=>?_)|(refine hK _ ?_;clear hK K)|((first|refine (show AS.le _ _ from ?_)|refine (show leH _ _ from ?_)|refine (show inH _ _ from ?_));simp only [AS.le,leT,leH,zc,AsgK,AV.le,AV.leL,AObj.le,inH,idsT,idsH,AV.ids,AV.idsL,AV.idsR,AObj.ids,lk,hget,go_sem,aeq,aeq.aeqF,simprocAttr])|refine fun (r2:Rnd _)=>?_|with_reducible refine And.intro ?_ ?_|exact ‹_<+:_› |omega|assumption|clear hK K)
def hitI (at_:Int):List AV→Bool
 | [.agg [.d (.int .i64 n),_]]=>n==at_
 |_=>false
theorem zi7 (at_:Int):∀l:List PutR,(l.map zcJ).any (hitI at_)=l.any (isPut at_)
 | []=>rfl
 |q::l=>by rw [List.map_cons,List.any_cons,List.any_cons,zi7 at_ l];rfl
theorem zn0 (d:Disk) (at_:Int) (hd:DiskOk d):AC 169 [diskA d,.d (.int .i64 at_)] (.tup [.d (.str (dread d at_).1),.d (.int .i64 (dread d at_).2)]):=by
 refine bod Tryz.func169 Tryz.ntmps169 (fun base=>?_)
 have hbl:=hd.bad
 have hdl:=hd.data
 (have tk:=za zi6 <| za zcb <| za zks <| zb Tryz.prog;repeat' ((fail_if_success refine hds 7 (by rfl) ?_);first|(refine hK _ ?_;clear hK K)|refine wa fun K hK=>?_|refine wb ?_|refine wc ?_ ?_|refine wl ?_|refine fun (r2:Rnd _)=>?_|exact ‹_<+:_› |exact we|refine fun (hc:_=(_:Bool))=>?_|clear hK K))
 all_goals first|(simp_all [dread];done)|skip
 have ht:there d at_=true:=by simp_all
 obtain ⟨ht0,ht1⟩:=there_iff.mp ht
 have hm:IntKind.i64.wrap (at_*64)=at_*64:=zh (by omega) (by omega)
 have hr:dread d at_=(sees d at_,0):=by simp_all [dread]
 (have tk:=za zi6 <| za zcb <| za zks <| zb Tryz.prog;have fx:=hm;repeat' (first|(refine hK _ ?_;clear hK K)|refine wa fun K hK=>?_|refine wb ?_|refine wc ?_ ?_|refine wl ?_|refine fun (r2:Rnd _)=>?_|exact ‹_<+:_› |exact we|refine fun (hc:_=(_:Bool))=>?_|clear hK K))
 ·rw [List.length_drop];omega
 obtain ⟨S0,hS0⟩:∃S0,S0=(d.data.drop (at_*64).toNat).take 64:=⟨_,rfl⟩
 rw [← hS0]
 obtain ⟨I,hI⟩:∃I:List (List AV)→AHeap×Option (List (List AV)),I=fun xs=>([(2,.var [.d (.str S0)]),(1,.var [.d (.int .i64 at_)]),(0,(.var [.d (.str d.data),.d (.sl 2 (d.cache.map putD)),.d (.int .i64 d.fuse),.d (.bool d.off),.d (.sl 1 (d.bad.map intD))]))],some []):=⟨_,rfl⟩
 obtain ⟨G,hG⟩:∃G:List (List AV)→Prop,G=fun xs=>xs.any (hitI at_)=false:=⟨_,rfl⟩
 obtain ⟨J,hJ⟩:∃J:Code→AHeap→Option (List (List AV))→Prop,J=fun c h g=>c= .exit 1∧g=some []∧∃q,d.cache.reverse.find? (isPut at_)=some q∧h= [(100,.var [.d (.int .i64 q.1),.d (.str q.2)]),(2,.var [.d (.str q.2)]),(1,.var [.d (.int .i64 at_)]),(0,(.var [.d (.str d.data),.d (.sl 2 (d.cache.map putD)),.d (.int .i64 d.fuse),.d (.bool d.off),.d (.sl 1 (d.bad.map intD))]))]:=⟨_,rfl⟩
 refine zbe 100 G I J (zlM d hd) (by simp only [go_sem,aeq,aeq.aeqF,simprocAttr]) rfl (zaP rfl) (by simp [cxOf,cxY]) rfl (by rw [hG];first|trivial|rfl|simp) (by rw [hI];simp only [AS.le,leT,leH,zc,AsgK,AV.le,AV.leL,AObj.le,inH,idsT,idsH,AV.ids,AV.idsL,AV.idsR,AObj.ids,lk,hget,go_sem,aeq,aeq.aeqF,simprocAttr]<;>simp [AV.leL,AV.le]) (by rw [hI];simp only [AS.le,leT,leH,zc,AsgK,AV.le,AV.leL,AObj.le,inH,idsT,idsH,AV.ids,AV.idsL,AV.idsR,AObj.ids,lk,hget,go_sem,aeq,aeq.aeqF,simprocAttr]<;>simp) (by rw [hI]<;>rfl) (by intro x hx;obtain ⟨q,_,rfl⟩:=List.mem_map.1 hx;rfl) (by intro t ht;simp at ht;first|(rcases ht with rfl|rfl<;>simp [cxOf,cxY]<;>done)|(subst ht;simp [cxOf,cxY])) ?_ ?_ ?_
 ·intro xs x hpre hgd l1 r1
  obtain ⟨ys,⟨n,s⟩,zs,rfl,rfl,hl⟩:=zdb hpre
  rw [hG,zi7] at hgd
  simp only [zcJ,putAV]
  refine aw_le ⟨[(28,true,.agg [.d (.int .i64 n),.d (.str s)]),(3,true,.vp 1 0),(6,true,.vp 2 0)],[(2,.var [.d (.str S0)]),(1,.var [.d (.int .i64 at_)]),(0,(.var [.d (.str d.data),.d (.sl 2 (d.cache.map putD)),.d (.int .i64 d.fuse),.d (.bool d.off),.d (.sl 1 (d.bad.map intD))]))],some []⟩ (by rw [hI];simp only [AS.le,leT,leH,zc,AsgK,AV.le,AV.leL,AObj.le,inH,idsT,idsH,AV.ids,AV.idsL,AV.idsR,AObj.ids,lk,hget,go_sem,aeq,aeq.aeqF,simprocAttr]) ?_
  (have tk:=zb Tryz.prog;have fx:=hI;repeat' (first|(refine hK _ ?_;clear hK K)|refine wa fun K hK=>?_|refine wb ?_|refine wc ?_ ?_|refine wl ?_|refine fun (r2:Rnd _)=>?_|exact ‹_<+:_› |exact we|refine fun (hc:_=(_:Bool))=>?_|clear hK K))
  ·rw [hJ]
   exact ⟨rfl,rfl,(n,s),by rw [hl];exact znY hgd hc,rfl⟩
  ·rw [hG]
   show List.any (_++_) _=false
   rw [List.any_append,zi7,hgd]
   simpa [hitI] using hc
 ·intro hgd
  rw [hG,zi7] at hgd
  rw [hI]
  (have tk:=zb Tryz.prog;have fx:=Go.Aw.fx;repeat' (first|(refine hK _ ?_;clear hK K)|refine wa fun K hK=>?_|refine wb ?_|refine wc ?_ ?_|refine wl ?_|refine fun (r2:Rnd _)=>?_|exact ‹_<+:_› |exact we|refine fun (hc:_=(_:Bool))=>?_|clear hK K))
  rw [hr,sees,List.find?_eq_none.2 (fun x hx=>by simpa using List.any_eq_false.1 hgd x hx),hS0]
 ·rw [hJ]
  rintro c h3 g3 ⟨rfl,rfl,⟨n,s⟩,hq,rfl⟩
  (have tk:=zb Tryz.prog;have fx:=Go.Aw.fx;repeat' (first|(refine hK _ ?_;clear hK K)|refine wa fun K hK=>?_|refine wb ?_|refine wc ?_ ?_|refine wl ?_|refine fun (r2:Rnd _)=>?_|exact ‹_<+:_› |exact we|refine fun (hc:_=(_:Bool))=>?_|clear hK K))
  rw [hr,sees,hq]
@[go_sem] noncomputable def zfX:Ent Tryz.prog 169:= .m2 zp (intT .i64) zn0
open Go Go.Proofs
def putN (n:Nat):Nat→Txt
 |0=> []
 |k+1=>putN (n / 256) k++ [UInt8.ofNat n]
def takeN (l:Txt):Nat:=l.foldl (fun n c=>n*256+c.toNat) 0
theorem zku (l:Txt) (i:Nat) (b:UInt8):(zg l).set i (zdR b)=zg (l.set i b):=by
 simp [zg,List.map_set]
theorem zbs (l:Txt):(zg l).length=l.length:=by simp [zg]
theorem zfY {b:Txt} {k:Nat} (hk:k<b.length):(zg b).getD k []= [.int .u8 (b.getD k 0).toNat]:=by
 simp [zg,List.getD_eq_getElem?_getD,hk,zdR]
theorem zkv {b:Txt} {k:Nat} {x:Int} (hk:k<b.length) (c:UInt8) (hx:x=c.toNat):(zg b).set k (((zg b).getD k []).set 0 (D.int .u8 x))=zg (b.set k c):=by
 rw [zfY hk,List.set_cons_zero,hx]
 exact zku b k c
theorem zrQ {b:Txt} {k:Nat} (hk:k<b.length) (c:UInt8):(b.set k c).drop k=c::b.drop (k+1):=by
 rw [List.drop_set,if_neg (by omega),Nat.sub_self,List.drop_eq_getElem_cons hk,List.set_cons_zero]
theorem zB (n k:Nat):(putN n k).length=k:=by
 induction k generalizing n with
 |zero=>rfl
 |succ k ih=>rw [putN,List.length_append,ih];rfl
theorem zgS (n i:Nat):putN n (i+1)=UInt8.ofNat (n / 256 ^ i)::putN n i:=by
 induction i generalizing n with
 |zero=>simp [putN]
 |succ i ih=>
  rw [putN,ih,putN,List.cons_append,Nat.div_div_eq_div_mul,Nat.pow_succ,Nat.mul_comm 256]
theorem ztd (n k:Nat) (hk:k≤64):ishr .u64 (n:Int) (k:Int)=((n / 2 ^ k:Nat):Int):=by
 unfold ishr
 rw [show min ((k:Int).toNat) IntKind.u64.bits=k by show min ((k:Int).toNat) 64=k;omega]
 rw [Int.fdiv_eq_ediv_of_nonneg _ (Int.le_of_lt (Int.pow_pos (by decide)))]
 norm_cast
theorem u8_of (n:Nat):IntKind.u8.wrap (n:Int)=((UInt8.ofNat n).toNat:Int):=by
 rw [IntKind.wrap_u8]
 simp
theorem zrR {n:Int} (h0:0≤n) {i:Nat} (hi:i≤8):IntKind.u8.wrap (ishr .u64 n ((8*i:Nat):Int))=((UInt8.ofNat (n.toNat / 256 ^ i)).toNat:Int):=by
 obtain ⟨m,rfl⟩:∃m:Nat,n=m:=⟨n.toNat,by omega⟩
 rw [ztd m _ (by omega),u8_of,Int.toNat_natCast,Nat.pow_mul]
theorem zfw (l:Txt) (c:UInt8):takeN (l++ [c])=takeN l*256+c.toNat:=by
 simp [takeN,List.foldl_append]
theorem znb (l:Txt):takeN l<256 ^ l.length:=by
 rcases List.eq_nil_or_concat l with rfl|⟨l',c,rfl⟩
 ·decide
 ·rw [List.concat_eq_append,zfw,List.length_append,List.length_singleton,Nat.pow_succ]
  have:=znb l'
  have:=c.toNat_lt
  have h2:takeN l'+1≤256 ^ l'.length:=by omega
  have:=Nat.mul_le_mul_right 256 h2
  omega
termination_by l.length
decreasing_by subst_vars;simp
theorem zbj {l:Txt} {i:Nat} (h:l.length≤i):takeN l<256 ^ i:=Nat.lt_of_lt_of_le (znb l) (Nat.pow_le_pow_right (by decide) h)
theorem zR {x:Int} (h0:0≤x) (h1:x<18446744073709551616):IntKind.u64.wrap x=x:=by
 rw [IntKind.wrap_u64];omega
theorem zpQ {l:Txt} {i:Nat} {c:UInt8} (hq:l[i]?=some c) (hi:i<8):IntKind.u64.wrap (IntKind.u64.wrap ((takeN (l.take i):Nat)*256)+IntKind.u64.wrap (c.toNat:Int))=((takeN (l.take (i+1)):Nat):Int):=by
 have h1:takeN (l.take i)<256 ^ 7:=zbj (by rw [List.length_take];omega)
 have h2:=c.toNat_lt
 rw [zR (x:=(takeN (l.take i):Nat)*256) (by omega) (by omega),zR (x:=(c.toNat:Int)) (by omega) (by omega),zR (by omega) (by omega),zbm hq,zfw]
 omega
open Go Go.Proofs
def padS (s:Txt) (n:Int):Txt×Int:=if n<s.length∨65536<n then ([],11) else (s++List.replicate (n - s.length).toNat 0,0)
def overS (s:Txt) (at_:Int) (t:Txt):Txt×Int:=if at_<0∨(s.length:Int) - t.length<at_ then ([],10) else (s.take at_.toNat++t++s.drop (at_+t.length).toNat,0)
def putS8 (n:Int) (size:Int):Txt:=if size<1∨8<size then [] else putN n.toNat size.toNat
def takeS (s:Txt) (size:Int):Int×Txt×Int:=if size<1∨8<size then (0,[],25) else if (s.length:Int)<size then (0,[],22) else ((takeN (s.take size.toNat):Int),s.drop size.toNat,0)
def nameB (c:UInt8):Bool:=decide (33≤c.toNat)&&decide (c.toNat≤126)
def zan (s:Txt):Bool:=s.all nameB&&(s != []&&decide (s.length≤8))
theorem zrS (s:Txt) (n:Int) (hs:s.length≤9223372036854775807):AC 139 [.d (.str s),.d (.int .i64 n)] (.tup [.d (.str (padS s n).1),.d (.int .i64 (padS s n).2)]):=by
 refine fbod Tryz.func139 Tryz.ntmps139 (fun base=>?_)
 by_cases h:n<s.length∨65536<n
 ·have hdec:(decide (n<(s.length:Int))||decide (65536<n))=true:=by simpa using h
  (have fx:=hdec;repeat' (first|(refine hK _ ?_;clear hK K)|refine wa fun K hK=>?_|refine wb ?_|refine wc ?_ ?_|exact we|refine fun (hc:_=(_:Bool))=>?_|clear hK K))
  rw [padS,if_pos h]
 ·have hdec:(decide (n<(s.length:Int))||decide (65536<n))=false:=by simpa using h
  have hm:IntKind.i64.wrap (n - s.length)=n - s.length:=zh (by omega) (by omega)
  (have tk:=zb Tryz.prog);repeat' (first|((first|(refine sa ?_;intro K hK)|refine sb ?_);simp only [go_sem,aeq,aeq.aeqF,simprocAttr,hdec,hm,zdj,zgP,zi4,if_true,Tryz.results139])|refine zj (fun K hK=>?_)|refine sc ?_|refine zi rfl (fun hc=>?_) (fun hc=>?_)|(refine hK _ ?_;clear hK K)|with_reducible refine And.intro ?_ ?_|omega|assumption|refine fun (hg:(_:Bool)=(_:Bool))=>?_|clear hK K)
  ·exact zaJ _
  ·rw [z2,List.length_replicate];omega
  ·simp only [padS,if_neg h,z2]
@[go_sem] noncomputable def zdl:Ent Tryz.prog 139:= .m2 strT (intT .i64) zrS
theorem znc {a b c:Int} :(decide (a<0)||decide (b<c)||decide (b - c<a))=(decide (a<0)||decide (b - c<a)):=by
 by_cases h1:a<0
 ·simp [h1]
 ·by_cases h2:b<c
  ·rw [decide_eq_true h2,decide_eq_true (p:=b - c<a) (by omega)];simp
  ·rw [decide_eq_false h2];simp
theorem zpR (s:Txt) (at_:Int) (t:Txt) (hp:s.length≤9223372036854775807∧t.length≤9223372036854775807):AC 142 [.d (.str s),.d (.int .i64 at_),.d (.str t)] (.tup [.d (.str (overS s at_ t).1),.d (.int .i64 (overS s at_ t).2)]):=by
 obtain ⟨hs,ht⟩:=hp
 refine bod Tryz.func142 Tryz.ntmps142 (fun base=>?_)
 have hm:IntKind.i64.wrap ((s.length:Int) - t.length)=(s.length:Int) - t.length:=zh (by omega) (by omega)
 by_cases h:at_<0∨(s.length:Int) - t.length<at_
 ·have hdec:(decide (at_<0)||decide ((s.length:Int) - t.length<at_))=true:=by simpa using h
  (have fx:=(⟨hm,@znc,hdec⟩:_∧_∧_);repeat' (first|(refine hK _ ?_;clear hK K)|refine wa fun K hK=>?_|refine wb ?_|refine wc ?_ ?_|exact we|refine fun (hc:_=(_:Bool))=>?_|clear hK K))
  rw [overS,if_pos h]
 ·have hdec:(decide (at_<0)||decide ((s.length:Int) - t.length<at_))=false:=by simpa using h
  have hm2:IntKind.i64.wrap (at_+t.length)=at_+t.length:=zh (by omega) (by omega)
  (have fx:=(⟨hm,@znc,hdec,hm2⟩:_∧_∧_∧_);repeat' (first|(refine hK _ ?_;clear hK K)|refine wa fun K hK=>?_|refine wb ?_|refine wc ?_ ?_|exact we|refine fun (hc:_=(_:Bool))=>?_|clear hK K))
  ·rw [List.length_take];omega
  ·simp;omega
  ·simp only [overS,if_neg h]
@[go_sem] noncomputable def zlN:Ent Tryz.prog 142:= .m3 strT (intT .i64) strT zpR
theorem zrT (n size:Int) (hp:0≤n∧n<18446744073709551616):AC 119 [.d (.int .u64 n),.d (.int .i64 size)] (.d (.str (putS8 n size))):=by
 obtain ⟨h0,h1⟩:=hp
 refine fbod Tryz.func119 Tryz.ntmps119 (fun base=>?_)
 by_cases h:size<1∨8<size
 ·have hdec:(decide (size<1)||decide (8<size))=true:=by simpa using h
  (have fx:=hdec;repeat' (first|(refine hK _ ?_;clear hK K)|refine wa fun K hK=>?_|refine wb ?_|refine wc ?_ ?_|exact we|refine fun (hc:_=(_:Bool))=>?_|clear hK K))
  rw [putS8,if_pos h]
 ·have hdec:(decide (size<1)||decide (8<size))=false:=by simpa using h
  obtain ⟨z,rfl,hz8⟩:∃z:Nat,size=(z:Int)∧z≤8:=⟨size.toNat,by omega,by omega⟩
  (have fx:=(⟨hdec,@Int.toNat_natCast⟩:_∧_);repeat' (first|(refine hK _ ?_;clear hK K)|refine wa fun K hK=>?_|refine wb ?_|refine wc ?_ ?_|exact we|refine fun (hc:_=(_:Bool))=>?_|clear hK K))
  refine zn (fun q: { q:Nat×Txt // q.1≤z∧q.2.length=z∧q.2.drop (z - q.1)=putN n.toNat q.1 } =>⟨[(0,true,.d (.int .u64 n)),(1,true,.d (.int .i64 z)),(5,true,.osl 0 1 z 0 z),(6,true,.d (.int .i64 q.1.1))],[(0,.arr 1 (zg q.1.2))],some []⟩) (fun q=>z - q.1.1) ⟨(0,List.replicate z 0),Nat.zero_le _,by simp,by simp [putN]⟩ (by simp only [AS.le,leT,leH,zc,AsgK,AV.le,AV.leL,AObj.le,inH,idsT,idsH,AV.ids,AV.idsL,AV.idsR,AObj.ids,lk,hget,go_sem,aeq,aeq.aeqF,simprocAttr,zdj]<;>and_intros<;>rfl) (fun q=>?_)
  obtain ⟨⟨i,b⟩,hi,hbl,hbd⟩:=q
  simp only at hi hbl hbd ⊢
  rcases Nat.lt_or_ge i z with hlt|hge
  ·have hcmp:decide ((i:Int)<(z:Int))=true:=decide_eq_true (by omega)
   have hwi:=zq (i:=i) (by omega)
   have hm1:IntKind.i64.wrap ((z:Int) - 1)=(z:Int) - 1:=zh (by omega) (by omega)
   have hm2:IntKind.i64.wrap ((z:Int) - 1 - i)=((z - 1 - i:Nat):Int):=by rw [zh (by omega) (by omega)];omega
   have hm3:IntKind.i64.wrap (8*(i:Int))=((8*i:Nat):Int):=by rw [zh (by omega) (by omega)];omega
   have hb0:(zg b).length=z:=by rw [zg,List.length_map,hbl]
   have hbp:=zkv (b:=b) (k:=z - 1 - i) (by omega) _ (zrR h0 (i:=i) (by omega))
   have hzi:z - 1 - i+1=z - i:=by omega
   (have fx:=(⟨hcmp,hm1,hm2,hm3,hb0,@Int.toNat_natCast⟩:_∧_∧_∧_∧_∧_);repeat' (first|(refine hK _ ?_;clear hK K)|refine wa fun K hK=>?_|refine wb ?_|refine wc ?_ ?_|exact we|refine fun (hc:_=(_:Bool))=>?_|clear hK K))
   exact ⟨⟨(i+1,b.set (z - 1 - i) (UInt8.ofNat (n.toNat / 256 ^ i))),by omega,by simpa using hbl,by rw [zgS,← hbd,← hzi,← zrQ (by omega)];congr 1;omega⟩,by simp only [AS.le,leT,leH,zc,AsgK,AV.le,AV.leL,AObj.le,inH,idsT,idsH,AV.ids,AV.idsL,AV.idsR,AObj.ids,lk,hget,go_sem,aeq,aeq.aeqF,simprocAttr,hwi,hbp],by simp;omega⟩
  ·have hcmp:decide ((i:Int)<(z:Int))=false:=decide_eq_false (by omega)
   have hb1:(z=(zg b).length)=True:=eq_true (by rw [zg,List.length_map,hbl])
   have hb2:List.take z (zg b)=zg b:=List.take_of_length_le (by rw [zg,List.length_map,hbl];omega)
   (have tk:=zb Tryz.prog);repeat' (first|((first|(refine sa ?_;intro K hK)|refine sb ?_);simp only [go_sem,aeq,aeq.aeqF,simprocAttr,hcmp,hb1,hb2,if_true,z2,zaJ,Tryz.results119])|refine zj (fun K hK=>?_)|refine sc ?_|refine zi rfl (fun hc=>?_) (fun hc=>?_)|(refine hK _ ?_;clear hK K)|with_reducible refine And.intro ?_ ?_|omega|assumption|refine fun (hg:(_:Bool)=(_:Bool))=>?_|clear hK K)
   have:i=z:=by omega
   subst this
   rw [Nat.sub_self,List.drop_zero] at hbd
   rw [putS8,if_neg h,Int.toNat_natCast,hbd]
@[go_sem] noncomputable def z7:Ent Tryz.prog 119:= .m2 (intT .u64) (intT .i64) zrT
theorem zpS (s:Txt) (size:Int) (hs:s.length≤9223372036854775807):AC 62 [.d (.str s),.d (.int .i64 size)] (.tup [.d (.int .u64 (takeS s size).1),.d (.str (takeS s size).2.1),.d (.int .i64 (takeS s size).2.2)]):=by
 refine bod Tryz.func62 Tryz.ntmps62 (fun base=>?_)
 by_cases h:size<1∨8<size
 ·have hdec:(decide (size<1)||decide (8<size))=true:=by simpa using h
  (have fx:=hdec;repeat' (first|(refine hK _ ?_;clear hK K)|refine wa fun K hK=>?_|refine wb ?_|refine wc ?_ ?_|exact we|refine fun (hc:_=(_:Bool))=>?_|clear hK K))
  rw [takeS,if_pos h]
 ·have hdec:(decide (size<1)||decide (8<size))=false:=by simpa using h
  obtain ⟨z,rfl,hz8⟩:∃z:Nat,size=(z:Int)∧z≤8:=⟨size.toNat,by omega,by omega⟩
  (have fx:=(⟨hdec,@Int.toNat_natCast⟩:_∧_);repeat' (first|(refine hK _ ?_;clear hK K)|refine wa fun K hK=>?_|refine wb ?_|refine wc ?_ ?_|exact we|refine fun (hc:_=(_:Bool))=>?_|clear hK K))
  ·have hc:(s.length:Int)<z:=by simpa using hc
   simp only [takeS,if_neg h,if_pos hc]
  have hc:¬(s.length:Int)<z:=by simpa using hc
  refine zn (fun q: { i:Nat // i≤z } =>⟨[(0,true,.d (.str s)),(1,true,.d (.int .i64 z)),(7,true,.d (.int .u64 (takeN (s.take q.1)))),(8,true,.d (.int .i64 q.1))],[],some []⟩) (fun q=>z - q.1) ⟨0,Nat.zero_le _⟩ le1 (fun q=>?_)
  obtain ⟨i,hi⟩:=q
  simp only at hi ⊢
  rcases Nat.lt_or_ge i z with hlt|hge
  ·have hcmp:decide ((i:Int)<(z:Int))=true:=decide_eq_true (by omega)
   have hwi:=zq (i:=i) (by omega)
   obtain ⟨c,hq⟩:=zal (l:=s) (i:=i) (by omega)
   have hgd:s.getD i 0=c:=by rw [List.getD_eq_getElem?_getD,hq];rfl
   have hst:=zpQ hq (by omega)
   (have fx:=(⟨hcmp,hgd,@Int.toNat_natCast⟩:_∧_∧_);repeat' (first|(refine hK _ ?_;clear hK K)|refine wa fun K hK=>?_|refine wb ?_|refine wc ?_ ?_|exact we|refine fun (hc:_=(_:Bool))=>?_|clear hK K))
   exact ⟨⟨i+1,by omega⟩,by simp only [AS.le,leT,leH,zc,AsgK,AV.le,AV.leL,AObj.le,inH,idsT,idsH,AV.ids,AV.idsL,AV.idsR,AObj.ids,lk,hget,go_sem,aeq,aeq.aeqF,simprocAttr,hwi,hst],by simp;omega⟩
  ·have hcmp:decide ((i:Int)<(z:Int))=false:=decide_eq_false (by omega)
   (have fx:=(⟨hcmp,@Int.toNat_natCast⟩:_∧_);repeat' (first|(refine hK _ ?_;clear hK K)|refine wa fun K hK=>?_|refine wb ?_|refine wc ?_ ?_|exact we|refine fun (hc:_=(_:Bool))=>?_|clear hK K))
   have:i=z:=by omega
   subst this
   simp only [takeS,if_neg h,if_neg hc,Int.toNat_natCast]
@[go_sem] noncomputable def zE:Ent Tryz.prog 62:= .m2 strT (intT .i64) zpS
theorem zeY (c:UInt8):(decide ((c.toNat:Int)<33)||decide ((126:Int)<c.toNat))= !nameB c:=by
 rw [nameB,Bool.not_and]
 congr 1
 ·by_cases h:c.toNat<33
  ·rw [decide_eq_true (p:=(c.toNat:Int)<33) (by omega),decide_eq_false (by omega)];rfl
  ·rw [decide_eq_false (p:=(c.toNat:Int)<33) (by omega),decide_eq_true (by omega)];rfl
 ·by_cases h:126<c.toNat
  ·rw [decide_eq_true (p:=(126:Int)<c.toNat) (by omega),decide_eq_false (by omega)];rfl
  ·rw [decide_eq_false (p:=(126:Int)<c.toNat) (by omega),decide_eq_true (by omega)];rfl
theorem zpT (n k:Nat):decide ((n:Int)≤k)=decide (n≤k):=by
 by_cases h:n≤k
 ·rw [decide_eq_true h,decide_eq_true (by omega)]
 ·rw [decide_eq_false h,decide_eq_false (by omega)]
theorem zn1 (s:Txt) (hs:s.length≤9223372036854775807):ACall Tryz.prog 83 0 [.d (.str s)] [] (fun r _=>r= .d (.bool (zan s))):=by
 refine bod Tryz.func83 Tryz.ntmps83 (fun base=>?_)
 (repeat' (first|(refine hK _ ?_;clear hK K)|refine wa fun K hK=>?_|refine wb ?_|refine wc ?_ ?_|exact we|refine fun (hc:_=(_:Bool))=>?_|clear hK K))
 refine zn (fun q: { i:Nat // i≤s.length∧s.all nameB=(s.drop i).all nameB } =>⟨[(0,true,.d (.str s)),(3,true,.d (.int .i64 q.1))],[],some []⟩) (fun q=>s.length - q.1) ⟨0,Nat.zero_le _,rfl⟩ le1 (fun q=>?_)
 obtain ⟨i,hi,hf⟩:=q
 simp only at hi hf ⊢
 rcases Nat.lt_or_ge i s.length with hlt|hge
 ·have hcmp:decide ((i:Int)<(s.length:Int))=true:=decide_eq_true (by omega)
  have hwi:=zq (i:=i) (by omega)
  obtain ⟨c,hq⟩:=zal (l:=s) (i:=i) (by omega)
  have hgd:s.getD i 0=c:=by rw [List.getD_eq_getElem?_getD,hq];rfl
  rw [zcH hq,List.all_cons] at hf
  (have fx:=(⟨hcmp,hgd,@Int.toNat_natCast⟩:_∧_∧_);repeat' (first|(refine hK _ ?_;clear hK K)|refine wa fun K hK=>?_|refine wb ?_|refine wc ?_ ?_|exact we|refine fun (hc:_=(_:Bool))=>?_|clear hK K))
  ·rw [zeY] at hc
   have hc:nameB c=false:=by simpa using hc
   rw [zan,hf,hc];rfl
  ·rw [zeY] at hc
   have hc:nameB c=true:=by simpa using hc
   rw [hc,Bool.true_and] at hf
   exact ⟨⟨i+1,by omega,hf⟩,lew,by simp;omega⟩
 ·have hcmp:decide ((i:Int)<(s.length:Int))=false:=decide_eq_false (by omega)
  (have fx:=(⟨hcmp,@Int.toNat_natCast⟩:_∧_);repeat' (first|(refine hK _ ?_;clear hK K)|refine wa fun K hK=>?_|refine wb ?_|refine wc ?_ ?_|exact we|refine fun (hc:_=(_:Bool))=>?_|clear hK K))
  rw [zan,hf,List.drop_of_length_le (by omega),show (8:Int)=((8:Nat):Int) from rfl,zpT]
  rfl
@[go_sem] noncomputable def zC:Ent Tryz.prog 83:= .ofL (consL strT nilL) (fun (s,_)=>s.length≤9223372036854775807) (fun (s,_)=> .d (.bool (zan s))) (fun (s,_) hp=>⟨rfl,zn1 s hp⟩)
open Go Go.Proofs
theorem zpU (n:Int) (h0:0≤n) (h1:n≤140737488355328):ACall Tryz.prog 106 0 [.d (.str [0]),.d (.int .i64 n)] [] (fun r _=>r= .d (.str (List.replicate n.toNat 0))):=by
 obtain ⟨m,rfl⟩:∃m:Nat,n=m:=⟨n.toNat,by omega⟩
 exact zrI m (by omega)
@[go_sem] noncomputable def zdA:Ent Tryz.prog 106:= .ofL (consL (zdi (.d (.str [0]))) (consL (intT .i64) nilL)) (fun (_,n,_)=>(0≤n)∧(n≤140737488355328)) (fun (_,n,_)=> .d (.str (List.replicate n.toNat 0))) (fun (_,n,_) hp=>⟨rfl,zpU n hp.1 hp.2⟩)
theorem zux (s:Txt) (n:Int) (hs:s.length≤9223372036854775807):AC 216 [.d (.str s),.d (.int .i64 n)] (.tup [.d (.str (padS s n).1),.d (.int .i64 (padS s n).2)]):=by
 refine bod Tryz.func216 Tryz.ntmps216 (fun base=>?_)
 by_cases h:n<s.length∨65536<n
 ·have hdec:(decide (n<(s.length:Int))||decide (65536<n))=true:=by simpa using h
  (have fx:=hdec;repeat' (first|(refine hK _ ?_;clear hK K)|refine wa fun K hK=>?_|refine wb ?_|refine wc ?_ ?_|exact we|refine fun (hc:_=(_:Bool))=>?_|clear hK K))
  rw [padS,if_pos h]
 ·have hdec:(decide (n<(s.length:Int))||decide (65536<n))=false:=by simpa using h
  have hm:IntKind.i64.wrap (n - s.length)=n - s.length:=zh (by omega) (by omega)
  (have tk:=za zdA <| zb Tryz.prog;have fx:=(⟨hdec,hm⟩:_∧_);repeat' (first|(refine hK _ ?_;clear hK K)|refine wa fun K hK=>?_|refine wb ?_|refine wc ?_ ?_|exact we|refine fun (hc:_=(_:Bool))=>?_|clear hK K))
  ·rw [List.length_replicate];omega
  ·simp only [padS,if_neg h]
@[go_sem] noncomputable def zeZ:Ent Tryz.prog 216:= .m2 strT (intT .i64) zux
theorem ztz (s:Txt) (at_:Int) (t:Txt) (hp:s.length≤9223372036854775807∧t.length≤9223372036854775807):AC 170 [.d (.str s),.d (.int .i64 at_),.d (.str t)] (.tup [.d (.str (overS s at_ t).1),.d (.int .i64 (overS s at_ t).2)]):=by
 obtain ⟨hs,ht⟩:=hp
 refine bod Tryz.func170 Tryz.ntmps170 (fun base=>?_)
 have hm:IntKind.i64.wrap ((s.length:Int) - t.length)=(s.length:Int) - t.length:=zh (by omega) (by omega)
 by_cases h:at_<0∨(s.length:Int) - t.length<at_
 ·have hdec:(decide (at_<0)||decide ((s.length:Int) - t.length<at_))=true:=by simpa using h
  (have fx:=(⟨hm,hdec⟩:_∧_);repeat' (first|(refine hK _ ?_;clear hK K)|refine wa fun K hK=>?_|refine wb ?_|refine wc ?_ ?_|exact we|refine fun (hc:_=(_:Bool))=>?_|clear hK K))
  rw [overS,if_pos h]
 ·have hdec:(decide (at_<0)||decide ((s.length:Int) - t.length<at_))=false:=by simpa using h
  have hm2:IntKind.i64.wrap (at_+t.length)=at_+t.length:=zh (by omega) (by omega)
  (have fx:=(⟨hm,hdec,hm2⟩:_∧_∧_);repeat' (first|(refine hK _ ?_;clear hK K)|refine wa fun K hK=>?_|refine wb ?_|refine wc ?_ ?_|exact we|refine fun (hc:_=(_:Bool))=>?_|clear hK K))
  ·rw [List.length_take];omega
  ·simp;omega
  ·simp only [overS,if_neg h]
@[go_sem] noncomputable def zpV:Ent Tryz.prog 170:= .m3 strT (intT .i64) strT ztz
theorem zuy (k s:Nat) (hs:s≤64) (h:k*2 ^ s<18446744073709551616):ishl .u64 (k:Int) (s:Int)=((k*2 ^ s:Nat):Int):=by
 unfold ishl
 rw [show min ((s:Int).toNat) IntKind.u64.bits=s by show min ((s:Int).toNat) 64=s;omega,IntKind.wrap_u64]
 have:(k:Int)*2 ^ s=((k*2 ^ s:Nat):Int):=by norm_cast
 rw [this]
 omega
theorem zn2 (a b:Nat) (ha:a<18446744073709551616) (hb:b<18446744073709551616):ibits .or .u64 (a:Int) (b:Int)=((a ||| b:Nat):Int):=by
 have hab:a ||| b<18446744073709551616:=Nat.or_lt_two_pow (n:=64) ha hb
 unfold ibits
 simp only [show IntKind.u64.bits=64 from rfl,BitVec.ofInt_natCast,BitVec.toNat_or,BitVec.toNat_ofNat]
 rw [Nat.mod_eq_of_lt (by omega),Nat.mod_eq_of_lt (by omega),IntKind.wrap_u64]
 omega
theorem zn3 {l:Txt} {i:Nat} {c:UInt8} (hq:l[i]?=some c) (hi:i<8):ibits .or .u64 (ishl .u64 ((takeN (l.take i):Nat):Int) 8) (IntKind.u64.wrap (c.toNat:Int))=((takeN (l.take (i+1)):Nat):Int):=by
 have h1:takeN (l.take i)<256 ^ 7:=zbj (by rw [List.length_take];omega)
 have h2:=c.toNat_lt
 rw [zR (x:=(c.toNat:Int)) (by omega) (by omega),show (8:Int)=((8:Nat):Int) from rfl,zuy _ _ (by omega) (by omega),zn2 _ _ (by omega) (by omega),zbm hq,zfw,← Nat.shiftLeft_eq,← Nat.shiftLeft_add_eq_or_of_lt (i:=8) (by omega),Nat.shiftLeft_eq]
theorem ztA (s:Txt) (size:Int) (hs:s.length≤9223372036854775807):AC 204 [.d (.str s),.d (.int .i64 size)] (.tup [.d (.int .u64 (takeS s size).1),.d (.str (takeS s size).2.1),.d (.int .i64 (takeS s size).2.2)]):=by
 refine fbod Tryz.func204 Tryz.ntmps204 (fun base=>?_)
 by_cases h:size<1∨8<size
 ·have hdec:(decide (size<1)||decide (8<size))=true:=by simpa using h
  (have fx:=hdec;repeat' (first|(refine hK _ ?_;clear hK K)|refine wa fun K hK=>?_|refine wb ?_|refine wc ?_ ?_|exact we|refine fun (hc:_=(_:Bool))=>?_|clear hK K))
  rw [takeS,if_pos h]
 ·have hdec:(decide (size<1)||decide (8<size))=false:=by simpa using h
  obtain ⟨z,rfl,hz8⟩:∃z:Nat,size=(z:Int)∧z≤8:=⟨size.toNat,by omega,by omega⟩
  (have fx:=(⟨hdec,@Int.toNat_natCast⟩:_∧_);repeat' (first|(refine hK _ ?_;clear hK K)|refine wa fun K hK=>?_|refine wb ?_|refine wc ?_ ?_|exact we|refine fun (hc:_=(_:Bool))=>?_|clear hK K))
  ·have hc:(s.length:Int)<z:=by simpa using hc
   simp only [takeS,if_neg h,if_pos hc]
  ·have hc:¬(s.length:Int)<z:=by simpa using hc
   omega
  ·rw [zbs]
  have hc:¬(s.length:Int)<z:=by simpa using hc
  have hlz:(s.take z).length=z:=by rw [List.length_take];omega
  simp only [hlz]
  refine zn (fun q: { i:Nat // i≤z } =>⟨[(0,true,.d (.str s)),(1,true,.d (.int .i64 z)),(7,true,.d (.int .u64 (takeN (s.take q.1)))),(25,true,.osl 0 1 z 0 z),(26,true,.d (.int .i64 z)),(27,true,.d (.int .i64 q.1))],[(0,.arr 1 (zg (s.take z)))],some []⟩) (fun q=>z - q.1) ⟨0,Nat.zero_le _⟩ le1 (fun q=>?_)
  obtain ⟨i,hi⟩:=q
  simp only at hi ⊢
  rcases Nat.lt_or_ge i z with hlt|hge
  ·have hcmp:decide ((i:Int)<(z:Int))=true:=decide_eq_true (by omega)
   have hwi:=zq (i:=i) (by omega)
   obtain ⟨c,hq⟩:=zal (l:=s) (i:=i) (by omega)
   have hgd:(zg (s.take z)).getD i []= [.int .u8 c.toNat]:=by
    rw [zfY (by rw [hlz];omega),List.getD_eq_getElem?_getD,List.getElem?_take,if_pos hlt,hq];rfl
   have hst:=zn3 hq (by omega)
   have hb0:(zg (s.take z)).length=z:=by rw [zbs,hlz]
   (have fx:=(⟨hcmp,hgd,hb0,@Int.toNat_natCast⟩:_∧_∧_∧_);repeat' (first|(refine hK _ ?_;clear hK K)|refine wa fun K hK=>?_|refine wb ?_|refine wc ?_ ?_|exact we|refine fun (hc:_=(_:Bool))=>?_|clear hK K))
   exact ⟨⟨i+1,by omega⟩,by simp only [AS.le,leT,leH,zc,AsgK,AV.le,AV.leL,AObj.le,inH,idsT,idsH,AV.ids,AV.idsL,AV.idsR,AObj.ids,lk,hget,go_sem,aeq,aeq.aeqF,simprocAttr,hwi,hst],by simp;omega⟩
  ·have hcmp:decide ((i:Int)<(z:Int))=false:=decide_eq_false (by omega)
   (have fx:=(⟨hcmp,@Int.toNat_natCast⟩:_∧_);repeat' (first|(refine hK _ ?_;clear hK K)|refine wa fun K hK=>?_|refine wb ?_|refine wc ?_ ?_|exact we|refine fun (hc:_=(_:Bool))=>?_|clear hK K))
   have:i=z:=by omega
   subst this
   simp only [takeS,if_neg h,if_neg hc,Int.toNat_natCast]
@[go_sem] noncomputable def zbf:Ent Tryz.prog 204:= .m2 strT (intT .i64) ztA
open Go Go.Proofs
theorem zpW (c:Int) (_:True):AC 267 [.d (.int .i32 c)] (.d (.bool (decide (c<33)||decide (126<c)))):=by
 refine bod Tryz.func267 Tryz.ntmps267 (fun base=>?_)
 (repeat' (first|(refine hK _ ?_;clear hK K)|refine wa fun K hK=>?_|refine wb ?_|refine wc ?_ ?_|exact we|refine fun (hc:_=(_:Bool))=>?_|clear hK K))
@[go_sem] noncomputable def zeF:Ent Tryz.prog 267:= .m1 (intT .i32) zpW
theorem zrU {s:Txt} {i:Nat} {c:UInt8} (hq:s[i]?=some c) (h:c.toNat<128):Utf8.decode ⟨s.toArray⟩ i=((c.toNat:Nat),1):=by
 obtain ⟨hi,hc⟩:=List.getElem?_eq_some_iff.1 hq
 have:=decode_ascii ⟨s.toArray⟩ i (by simpa [ByteArray.size] using hi) (by show ((s.toArray)[i]).toNat<128;simpa [hc] using h)
 rw [this]
 show (((s.toArray)[i]).toNat,1)=_
 simp [hc]
theorem zpX {s:Txt} {i:Nat} {c:UInt8} (hq:s[i]?=some c) (h:128≤c.toNat):128≤(Utf8.decode ⟨s.toArray⟩ i).1:=by
 obtain ⟨hi,hc⟩:=List.getElem?_eq_some_iff.1 hq
 exact (decode_high ⟨s.toArray⟩ i (by simpa [ByteArray.size] using hi) (by show 128≤((s.toArray)[i]).toNat;simpa [hc] using h)).1
theorem zn4 (s:Txt) (hs:s.length≤9223372036854775807):ACall Tryz.prog 294 0 [.d (.str s),.fn (.func 267) [] [],.d (.bool true)] [] (fun r _=>r= .d (.int .i64 (idxP (fun c=> !nameB c) s 0))):=by
 refine bod Tryz.func294 Tryz.ntmps294 (fun base=>?_)
 (have tk:=za zeF <| zb Tryz.prog;repeat' (first|(refine hK _ ?_;clear hK K)|refine wa fun K hK=>?_|refine wb ?_|refine wc ?_ ?_|exact we|refine fun (hc:_=(_:Bool))=>?_|clear hK K))
 refine zn (fun q:Idst (fun c=> !nameB c) s=>⟨[(1,true,.fn (.func 267) [] []),(2,true,.d (.bool true)),(10,true,.itr 0)],[(0,.strit s q.1)],some []⟩) (fun q=>s.length - q.1) ⟨0,Nat.zero_le _,rfl⟩ le0 (fun q=>?_)
 obtain ⟨i,hi,hf⟩:=q
 simp only at hi hf ⊢
 rcases Nat.lt_or_ge i s.length with hlt|hge
 ·obtain ⟨c,hq⟩:=zal (l:=s) (i:=i) (by omega)
  rw [zcH hq,idxP] at hf
  have h1:(i<s.length)=True:=eq_true hlt
  rcases Nat.lt_or_ge c.toNat 128 with hlow|hhigh
  ·have hr:=zrU hq hlow
   (have tk:=za zeF <| zb Tryz.prog);repeat' (first|((first|(refine sa ?_;intro K hK)|refine sb ?_);simp only [go_sem,aeq,aeq.aeqF,simprocAttr,h1,if_true,hr,Tryz.results294])|refine zj (fun K hK=>?_)|refine sc ?_|refine zi rfl (fun hc=>?_) (fun hc=>?_)|(refine hK _ ?_;clear hK K)|with_reducible refine And.intro ?_ ?_|omega|assumption|clear hK K)
   ·rw [zeY] at hc
    rw [hf,if_pos hc]
   ·rw [zeY] at hc
    rw [if_neg (by rw [hc];exact Bool.false_ne_true)] at hf
    exact ⟨⟨i+1,by omega,hf⟩,by simp only [AS.le,leT,leH,zc,AsgK,AV.le,AV.leL,AObj.le,inH,idsT,idsH,AV.ids,AV.idsL,AV.idsR,AObj.ids,lk,hget,go_sem,aeq,aeq.aeqF,simprocAttr],by simp;omega⟩
  ·have hr:=zpX hq hhigh
   have hnb:(!nameB c)=true:=by rw [nameB,decide_eq_false (p:=c.toNat≤126) (by omega),Bool.and_false];rfl
   (have tk:=za zeF <| zb Tryz.prog);repeat' (first|((first|(refine sa ?_;intro K hK)|refine sb ?_);simp only [go_sem,aeq,aeq.aeqF,simprocAttr,h1,if_true,Tryz.results294])|refine zj (fun K hK=>?_)|refine sc ?_|refine zi rfl (fun hc=>?_) (fun hc=>?_)|(refine hK _ ?_;clear hK K)|with_reducible refine And.intro ?_ ?_|omega|assumption|clear hK K)
   ·rw [hf,if_pos hnb]
   ·rw [decide_eq_true (p:=(126:Int)<((Utf8.decode ⟨s.toArray⟩ i).1:Nat)) (by omega),Bool.or_true] at hc
    cases hc
 ·have h1:(i<s.length)=False:=eq_false (by omega)
  (have tk:=zb Tryz.prog);repeat' (first|((first|(refine sa ?_;intro K hK)|refine sb ?_);simp only [go_sem,aeq,aeq.aeqF,simprocAttr,h1,if_false,Tryz.results294])|refine zj (fun K hK=>?_)|refine sc ?_|refine zi rfl (fun hc=>?_) (fun hc=>?_)|(refine hK _ ?_;clear hK K)|with_reducible refine And.intro ?_ ?_|omega|assumption|clear hK K)
  rw [hf,List.drop_of_length_le (by omega)]
  rfl
@[go_sem] noncomputable def zkw:Ent Tryz.prog 294:= .ofL (consL strT (consL (fnT 267 nilL) (consL (zdi (.d (.bool true))) nilL))) (fun (s,_,_,_)=>s.length≤9223372036854775807) (fun (s,_,_,_)=> .d (.int .i64 (idxP (fun c=> !nameB c) s 0))) (fun (s,_,_,_) hp=>⟨rfl,zn4 s hp⟩)
theorem zkx (s:Txt) (hs:s.length≤9223372036854775807):ACall Tryz.prog 266 0 [.d (.str s),.fn (.func 267) [] []] [] (fun r _=>r= .d (.int .i64 (idxP (fun c=> !nameB c) s 0))):=by
 refine bod Tryz.func266 Tryz.ntmps266 (fun base=>?_)
 (have tk:=za zkw <| zb Tryz.prog;repeat' (first|(refine hK _ ?_;clear hK K)|refine wa fun K hK=>?_|refine wb ?_|refine wc ?_ ?_|exact we|clear hK K))
@[go_sem] noncomputable def zhE:Ent Tryz.prog 266:= .ofL (consL strT (consL (fnT 267 nilL) nilL)) (fun (s,_,_)=>s.length≤9223372036854775807) (fun (s,_,_)=> .d (.int .i64 (idxP (fun c=> !nameB c) s 0))) (fun (s,_,_) hp=>⟨rfl,zkx s hp⟩)
theorem ztB (s:Txt) (k:Nat):decide (idxP (fun c=> !nameB c) s k<0)=s.all nameB:=by
 have h:=zgR (fun c=> !nameB c) s k
 rw [List.all_eq_not_any_not,← h]
 by_cases h0:idxP (fun c=> !nameB c) s k<0
 ·rw [decide_eq_true h0,decide_eq_false (by omega)];rfl
 ·rw [decide_eq_false h0,decide_eq_true (by omega)];rfl
theorem zrV (s:Txt) (hs:s.length≤9223372036854775807):AC 215 [.d (.str s)] (.d (.bool (zan s))):=by
 refine bod Tryz.func215 Tryz.ntmps215 (fun base=>?_)
 (have tk:=za zhE <| zb Tryz.prog;repeat' (first|(refine hK _ ?_;clear hK K)|refine wa fun K hK=>?_|refine wb ?_|refine wc ?_ ?_|exact we|refine fun (hc:_=(_:Bool))=>?_|clear hK K))
 rw [zan,ztB,show (8:Int)=((8:Nat):Int) from rfl,zpT,Bool.and_comm]
@[go_sem] noncomputable def zeg:Ent Tryz.prog 215:= .m1 strT zrV
def nameS (s:Txt):Txt×Int:=if zan s then padS s 8 else ([],19)
theorem ztC (s:Txt) (hs:s.length≤9223372036854775807):AC 147 [.d (.str s)] (.tup [.d (.str (nameS s).1),.d (.int .i64 (nameS s).2)]):=by
 refine bod Tryz.func147 Tryz.ntmps147 (fun base=>?_)
 (have tk:=za zeg <| za zeZ <| zb Tryz.prog;repeat' (first|(refine hK _ ?_;clear hK K)|refine wa fun K hK=>?_|refine wb ?_|refine wc ?_ ?_|exact we|refine fun (hc:_=(_:Bool))=>?_|clear hK K))
 all_goals simp_all [nameS]
@[go_sem] noncomputable def zky:Ent Tryz.prog 147:= .m1 strT ztC
open Go Go.Proofs
def zdD (z i:Nat):List AV:= [.d (.int .i64 ((z:Int) - 1 - i)),.any]
def zaR (z:Nat):List (List AV):=(List.range z).map (zdD z)
def putB (m z i:Nat):Txt:=List.replicate (z - i) 0++putN m i
def putH (m z i:Nat):AHeap:= [(3,.var [.osl 1 1 z 0 z]),(2,.var [.osl 1 1 z 0 z]),(1,.arr 1 (zg (putB m z i))),(0,.var [.d (.int .u64 ((m / 256 ^ i:Nat):Int))])]
def putF (m z i:Nat):AS:=⟨[(1,true,.vp 3 0)],putH m z i,some []⟩
theorem ze1 {m z i:Nat} (h:i≤z):(putB m z i).length=z:=by
 rw [putB,List.length_append,List.length_replicate,zB];omega
theorem zi9 (z:Nat):(zaR z).length=z:=by simp [zaR]
theorem zp4 {z i:Nat} (h:i<z):(zaR z)[i]?=some (zdD z i):=by simp [zaR,h]
theorem zkE {z i:Nat} (h:i<z):(zaR z).take i++ [zdD z i]=(zaR z).take (i+1):=by
 rw [zbm (zp4 h)]
theorem zp5 {m z:Nat} (hz:z≤8) (y:Yo Tryz.prog (zaR z)) (v0:Value)
  (hS:∀g M N A w,y.G g M N A w→∃F,∃i,i≤z∧SatH F (putH m z i) w∧Rep w F (putH m z i) (.vp 3 0) v0) {E:Env} {w:World} (hs:SatH E [] w) (hG:y.G (some []) E.M E.N (Own E []) w):
  Calls Tryz.prog 253 (#[]++ #[Value.func (.yield y.yl) #[] #[]]++ #[v0]) w (fun e w'=>∃v E' h' g,e= .returned v∧((∀xs,g=some xs→xs=zaR z)∧h'= [])∧SatH E' h' w'∧Evo 100 E [] w E' h' w'∧y.G g E'.M E'.N (Own E' h') w'):=by
 refine zj8 (fl:=100) (pre:= []) (caps:= [.raw v0]) (h:= []) (K:=fun g h'=>(∀xs,g=some xs→xs=zaR z)∧h'= []) Tryz.func253 rfl Tryz.ntmps253 rfl (by simp) y (fun base=>?_) hs (by simp [Reps]) (by simp [Reps,Rep]) hG
 have hS':∀t:List (Nat×(Bool×AV)),lk t 1=some (true,.raw v0)→∀g M N A w,y.G g M N A w→∃F,∃b: { i:Nat // i≤z },SatH F (putF m z b.1).h w∧∀k g v,lk (putF m z b.1).t k=some (g,v)→g=true∧∃u,lk t k=some (true,.raw u)∧Rep w F (putF m z b.1).h v u:=by
  intro t ht g M N A w hg
  obtain ⟨F,i,hi,h1,h2⟩:=hS g M N A w hg
  refine ⟨F,⟨i,hi⟩,h1,?_⟩
  intro k g v hk
  simp only [putF,lk] at hk
  split at hk
  ·rename_i e
   subst e
   simp only [Option.some.injEq,Prod.mk.injEq] at hk
   obtain ⟨rfl,rfl⟩:=hk
   exact ⟨rfl,v0,ht,h2⟩
  ·cases hk
 have hw0:IntKind.i64.wrap ((z:Int) - 1)=(z:Int) - 1:=zh (by omega) (by omega)
 simp only [List.nil_append,zaw]
 refine zew noTab (zb _) _ _ (List.take_append_drop 4 _).symm (fun b: { i:Nat // i≤z } =>putF m z b.1) (hS' _ rfl) (fun K hK b=>?_)
 simp only [go_sem,aeq,aeq.aeqF,simprocAttr,putF,putH]
 refine ⟨by rw [zbs,ze1 b.2],hK _ ?_⟩
 clear hK K b
 refine zav ?_
 refine zn (fun q: { j:Nat // j≤z } =>⟨[(0,true,.fn (.yield y.yl) [] []),(1,true,.raw v0),(3,true,.d (.int .i64 ((z:Int) - 1 - q.1)))],[],some ((zaR z).take q.1)⟩) (fun q=>z - q.1) ⟨0,Nat.zero_le _⟩ (by simp only [AS.le,leT,leH,zc,AsgK,AV.le,AV.leL,AObj.le,inH,idsT,idsH,AV.ids,AV.idsL,AV.idsR,AObj.ids,lk,hget,go_sem,aeq,aeq.aeqF,simprocAttr,hw0]<;>simp) (fun q=>?_)
 obtain ⟨j,hj⟩:=q
 simp only at hj ⊢
 rcases Nat.lt_or_ge j z with hlt|hge
 ·have hcmp:decide ((0:Int)≤(z:Int) - 1 - j)=true:=decide_eq_true (by omega)
  have hwj:IntKind.i64.wrap ((z:Int) - 1 - j - 1)=(z:Int) - 1 - (j+1:Nat):=by rw [zh (by omega) (by omega)];omega
  have hp:((zaR z).take j++ [zdD z j])<+:zaR z:=by rw [zkE hlt];exact List.take_prefix _ _
  have hpt:=zkE hlt
  simp only [zdD] at hp hpt
  (have tk:=zb Tryz.prog);repeat' ((fail_if_success refine hds 3 (by rfl) ?_);first|(refine zo (fun i=>decide (i<100)) (by simp only [inH,idsH,hsel,AV.ids,AV.idsL,AV.idsR,AObj.ids,hget,go_sem,aeq,aeq.aeqF,simprocAttr]) ?_;simp only [go_sem,aeq,aeq.aeqF,simprocAttr,hcmp,hsel,keepT];refine zu ?_;simp only [go_sem,aeq,aeq.aeqF,simprocAttr,hcmp])|((first|(refine ya ?_;intro K hK)|refine yb ?_);simp only [go_sem,aeq,aeq.aeqF,simprocAttr,hcmp])|refine zj (fun K hK=>?_)|refine sc ?_|refine zi rfl (fun hc=>?_) (fun hc=>?_)|(refine hK _ ?_;clear hK K)|((first|refine (show AS.le _ _ from ?_)|refine (show leH _ _ from ?_)|refine (show inH _ _ from ?_));simp only [AS.le,leT,leH,zc,AsgK,AV.le,AV.leL,AObj.le,inH,idsT,idsH,AV.ids,AV.idsL,AV.idsR,AObj.ids,lk,hget,go_sem,aeq,aeq.aeqF,simprocAttr,hcmp])|refine fun (r2:Rnd _)=>?_|with_reducible refine And.intro ?_ ?_|exact ‹_<+:_› |omega|assumption|clear hK K)
  refine zew noTab (zb _) _ _ (List.take_append_drop 6 _).symm (fun b: { i:Nat // i≤z } =>putF m z b.1) (hS' _ rfl) (fun K hK b=>?_)
  have h3:((z:Int) - 1 - j).toNat<z:=by omega
  have hbl:(zg (putB m z b.1)).length=z:=by rw [zbs,ze1 b.2]
  simp only [go_sem,aeq,aeq.aeqF,simprocAttr,putF,putH,hbl]
  refine ⟨⟨by omega,by omega⟩,h3,hp,?_,?_⟩
  ·refine hK _ ?_
   clear hK K
   (have tk:=zb Tryz.prog);repeat' (first|(refine zo (fun i=>decide (i<100)) (by simp only [inH,idsH,hsel,AV.ids,AV.idsL,AV.idsR,AObj.ids,hget,go_sem,aeq,aeq.aeqF,simprocAttr]) ?_;simp only [go_sem,aeq,aeq.aeqF,simprocAttr,hsel,keepT];refine zu ?_;simp only [go_sem,aeq,aeq.aeqF,simprocAttr])|((first|(refine ya ?_;intro K hK)|refine yb ?_);simp only [go_sem,aeq,aeq.aeqF,simprocAttr])|refine zj (fun K hK=>?_)|refine sc ?_|refine zi rfl (fun hc=>?_) (fun hc=>?_)|(refine hK _ ?_;clear hK K)|((first|refine (show AS.le _ _ from ?_)|refine (show leH _ _ from ?_)|refine (show inH _ _ from ?_));simp only [AS.le,leT,leH,zc,AsgK,AV.le,AV.leL,AObj.le,inH,idsT,idsH,AV.ids,AV.idsL,AV.idsR,AObj.ids,lk,hget,go_sem,aeq,aeq.aeqF,simprocAttr])|refine fun (r2:Rnd _)=>?_|with_reducible refine And.intro ?_ ?_|exact ‹_<+:_› |omega|assumption|clear hK K)
   exact ⟨⟨j+1,by omega⟩,by simp only [AS.le,leT,leH,zc,AsgK,AV.le,AV.leL,AObj.le,inH,idsT,idsH,AV.ids,AV.idsL,AV.idsR,AObj.ids,lk,hget,go_sem,aeq,aeq.aeqF,simprocAttr,hwj,hpt],by simp;omega⟩
  ·refine hK _ ?_
   clear hK K
   (have tk:=zb Tryz.prog);repeat' (first|(refine zo (fun i=>decide (i<100)) (by simp only [inH,idsH,hsel,AV.ids,AV.idsL,AV.idsR,AObj.ids,hget,go_sem,aeq,aeq.aeqF,simprocAttr]) ?_;simp only [go_sem,aeq,aeq.aeqF,simprocAttr,hsel,keepT];refine zu ?_;simp only [go_sem,aeq,aeq.aeqF,simprocAttr])|((first|(refine ya ?_;intro K hK)|refine yb ?_);simp only [go_sem,aeq,aeq.aeqF,simprocAttr])|refine zj (fun K hK=>?_)|refine sc ?_|refine zi rfl (fun hc=>?_) (fun hc=>?_)|(refine hK _ ?_;clear hK K)|((first|refine (show AS.le _ _ from ?_)|refine (show leH _ _ from ?_)|refine (show inH _ _ from ?_));simp only [AS.le,leT,leH,zc,AsgK,AV.le,AV.leL,AObj.le,inH,idsT,idsH,AV.ids,AV.idsL,AV.idsR,AObj.ids,lk,hget,go_sem,aeq,aeq.aeqF,simprocAttr])|refine fun (r2:Rnd _)=>?_|with_reducible refine And.intro ?_ ?_|exact ‹_<+:_› |omega|assumption|clear hK K)
 ·have hcmp:decide ((0:Int)≤(z:Int) - 1 - j)=false:=decide_eq_false (by omega)
  (have tk:=zb Tryz.prog);repeat' (first|(refine zo (fun i=>decide (i<100)) (by simp only [inH,idsH,hsel,AV.ids,AV.idsL,AV.idsR,AObj.ids,hget,go_sem,aeq,aeq.aeqF,simprocAttr]) ?_;simp only [go_sem,aeq,aeq.aeqF,simprocAttr,hcmp,hsel,keepT];refine zu ?_;simp only [go_sem,aeq,aeq.aeqF,simprocAttr,hcmp])|((first|(refine ya ?_;intro K hK)|refine yb ?_);simp only [go_sem,aeq,aeq.aeqF,simprocAttr,hcmp])|refine zj (fun K hK=>?_)|refine sc ?_|refine zi rfl (fun hc=>?_) (fun hc=>?_)|(refine hK _ ?_;clear hK K)|((first|refine (show AS.le _ _ from ?_)|refine (show leH _ _ from ?_)|refine (show inH _ _ from ?_));simp only [AS.le,leT,leH,zc,AsgK,AV.le,AV.leL,AObj.le,inH,idsT,idsH,AV.ids,AV.idsL,AV.idsR,AObj.ids,lk,hget,go_sem,aeq,aeq.aeqF,simprocAttr,hcmp])|refine fun (r2:Rnd _)=>?_|with_reducible refine And.intro ?_ ?_|exact ‹_<+:_› |omega|assumption|clear hK K)
  rintro xs rfl
  exact List.take_of_length_le (by rw [zi9];omega)
theorem zkF (m z:Nat):putH m z 0= [(3,.var [.osl 1 1 z 0 z]),(2,.var [.osl 1 1 z 0 z]),(1,.arr 1 (List.replicate z [D.int .u8 0])),(0,.var [.d (.int .u64 (m:Int))])]:=by
 rw [putH,putB,zdj];simp [putN]
theorem zr6 (m z:Nat):ACall Tryz.prog 205 3 [.osl 1 1 z 0 z] [(2,.var [.osl 1 1 z 0 z]),(1,.arr 1 (List.replicate z [D.int .u8 0])),(0,.var [.d (.int .u64 (m:Int))])] (fun r h'=>r= .fn (.func 253) [] [.vp 3 0]∧h'=putH m z 0):=by
 refine bod Tryz.func205 Tryz.ntmps205 (fun base=>?_)
 (repeat' (first|(refine hK _ ?_;clear hK K)|refine wa fun K hK=>?_|refine wb ?_|refine wc ?_ ?_|refine fun (nb:Bool) (hnb:nb=true→_)=>?_|exact we|clear hK K))
 rw [zkF]
theorem zuA (n:Int) (size:Int) (h0:0≤n) (h1:n<18446744073709551616):ACall Tryz.prog 133 0 [.d (.int .u64 n),.d (.int .i64 size)] [] (fun r _=>r= .d (.str (putS8 n size))):=by
 refine fbod Tryz.func133 Tryz.ntmps133 (fun base=>?_)
 by_cases h:size<1∨8<size
 ·have hdec:(decide (size<1)||decide (8<size))=true:=by simpa using h
  (have fx:=hdec;(repeat' (first|(refine hK _ ?_;clear hK K)|refine wa fun K hK=>?_|refine wb ?_|refine wc ?_ ?_|refine wl ?_|refine fun (r2:Rnd _)=>?_|exact ‹_<+:_› |exact we|refine fun (hc:_=(_:Bool))=>?_|clear hK K));all_goals clear fx)
  rw [putS8,if_pos h]
 ·have hdec:(decide (size<1)||decide (8<size))=false:=by simpa using h
  obtain ⟨z,rfl,hz8⟩:∃z:Nat,size=(z:Int)∧z≤8:=⟨size.toNat,by omega,by omega⟩
  (have fx:=(⟨hdec,@Int.toNat_natCast⟩:_∧_);(repeat' (first|(refine hK _ ?_;clear hK K)|refine wa fun K hK=>?_|refine wb ?_|refine wc ?_ ?_|refine wl ?_|refine fun (r2:Rnd _)=>?_|exact ‹_<+:_› |exact we|refine fun (hc:_=(_:Bool))=>?_|clear hK K));all_goals clear fx)
  obtain ⟨m,rfl⟩:∃m:Nat,n=m:=⟨n.toNat,by omega⟩
  refine ((zr6 m z).whole (zaP rfl) (Nat.zero_le _) (by rintro r h' ⟨_,rfl⟩ i hi;rw [zkF];simp only [hget] at hi ⊢;repeat' split<;>simp_all)).mono ?_
  rintro r h' ⟨rfl,rfl⟩
  refine hK _ ?_
  clear hK K
  refine zav ?_
  rw [zkF]
  refine aw_le ⟨[(16,true,.fn (.func 253) [] [.vp 3 0]),(5,true,.vp 2 0),(2,true,.vp 0 0)],[(3,.var [.osl 1 1 z 0 z]),(2,.var [.osl 1 1 z 0 z]),(1,.arr 1 (List.replicate z [D.int .u8 0])),(0,.var [.d (.int .u64 (m:Int))])],some []⟩ le0 ?_
  obtain ⟨I,hI⟩:∃I:List (List AV)→AHeap×Option (List (List AV)),I=fun xs=>(putH m z (min xs.length z),some []):=⟨_,rfl⟩
  refine zn7 (q:=3) (items:=zaR z) 100 I rfl rfl (zce Tryz.func253 (by kernel_rfl) rfl) ?_ ?_ (by simp [cxOf]) ?_ ?_ ?_ ?_ ?_ ?_ ?_ ?_ ?_
  ·intro y v0 hy E w hs hG
   refine zp5 (m:=m) hz8 y v0 (fun g M N A w hg=>?_) hs hG
   obtain ⟨F,xs,q1,q2⟩:=hy g M N A w hg
   rw [hI] at q1 q2
   exact ⟨F,_,Nat.min_le_right _ _,q1,q2⟩
  ·exact zaP rfl
  ·exact ⟨_,rfl⟩
  ·intro xs
   rw [hI]
   exact ⟨_,rfl⟩
  ·rw [hI]
   simp only [List.length_nil,Nat.zero_min,zkF]
   simp only [AS.le,leT,leH,zc,AsgK,AV.le,AV.leL,AObj.le,inH,idsT,idsH,AV.ids,AV.idsL,AV.idsR,AObj.ids,lk,hget,go_sem,aeq,aeq.aeqF,simprocAttr]
  ·rw [hI]
   simp only [List.length_nil,Nat.zero_min,zkF]
   simp only [AS.le,leT,leH,zc,AsgK,AV.le,AV.leL,AObj.le,inH,idsT,idsH,AV.ids,AV.idsL,AV.idsR,AObj.ids,lk,hget,go_sem,aeq,aeq.aeqF,simprocAttr]
  ·rw [hI]
  ·intro x hx
   obtain ⟨i,_,rfl⟩:=List.mem_map.1 hx
   rfl
  ·intro t ht
   simp at ht
   rcases ht with rfl|rfl<;>simp [cxOf]
  ·intro xs x hpre l1 r1
   have hlt:xs.length<z:=by
    have:=hpre.length_le
    rw [List.length_append,zi9] at this
    simp only [List.length_singleton] at this
    omega
   have hx:x=zdD z xs.length:=by
    obtain ⟨r,hr⟩:=hpre
    have:=congrArg (fun l=>l[xs.length]?) hr
    simp only [zp4 hlt] at this
    simpa using this
   subst hx
   have hmin:min xs.length z=xs.length:=by omega
   have hmin':min (xs.length+1) z=xs.length+1:=by omega
   rw [hI]
   simp only [hmin,List.length_append,List.length_singleton,hmin',zdD]
   generalize xs.length=i at hlt
   clear hmin hmin' hpre hI
   have hbl:(zg (putB m z i)).length=z:=by rw [zbs,ze1 (by omega)]
   have hto:((z:Int) - 1 - i).toNat=z - 1 - i:=by omega
   have hlt2:decide ((z:Int) - 1 - i<z)=true:=decide_eq_true (by omega)
   have hle2:decide (0≤(z:Int) - 1 - i)=true:=decide_eq_true (by omega)
   have hby:IntKind.u8.wrap ((m / 256 ^ i:Nat):Int)=((UInt8.ofNat (m / 256 ^ i)).toNat:Int):=u8_of _
   have hsh:ishr .u64 ((m / 256 ^ i:Nat):Int) 8=((m / 256 ^ (i+1):Nat):Int):=by
    rw [show (8:Int)=((8:Nat):Int) from rfl,ztd _ _ (by omega),Nat.div_div_eq_div_mul,Nat.pow_succ 256 i]
   have hset:(zg (putB m z i)).set (z - 1 - i) (((zg (putB m z i)).getD (z - 1 - i) []).set 0 (D.int .u8 (IntKind.u8.wrap ((m / 256 ^ i:Nat):Int))))=zg (putB m z (i+1)):=by
    rw [zkv (by rw [ze1 (by omega)];omega) _ hby]
    congr 1
    have e1:z - i=(z - 1 - i)+1:=by omega
    have e2:z - (i+1)=z - 1 - i:=by omega
    rw [putB,putB,e1,e2,zgS,List.replicate_succ',List.append_assoc,List.set_append,if_neg (by simp)]
    simp
   refine aw_le ⟨[(17,true,.d (.int .i64 ((z:Int) - 1 - i))),(5,true,.vp 2 0),(2,true,.vp 0 0)],[(3,.var [.osl 1 1 z 0 z]),(2,.var [.osl 1 1 z 0 z]),(1,.arr 1 (zg (putB m z i))),(0,.var [.d (.int .u64 ((m / 256 ^ i:Nat):Int))])],some []⟩ (by rw [putH];simp only [AS.le,leT,leH,zc,AsgK,AV.le,AV.leL,AObj.le,inH,idsT,idsH,AV.ids,AV.idsL,AV.idsR,AObj.ids,lk,hget,go_sem,aeq,aeq.aeqF,simprocAttr]) ?_
   (have fx:=(⟨hbl,hto,hset,hsh⟩:_∧_∧_∧_);repeat' (first|(refine hK _ ?_;clear hK K)|refine wa fun K hK=>?_|refine wb ?_|refine wc ?_ ?_|refine wl ?_|refine fun (r2:Rnd _)=>?_|exact ‹_<+:_› |exact we|refine fun (hc:_=(_:Bool))=>?_|clear hK K))
   ·rw [putH];simp only [AS.le,leT,leH,zc,AsgK,AV.le,AV.leL,AObj.le,inH,idsT,idsH,AV.ids,AV.idsL,AV.idsR,AObj.ids,lk,hget,go_sem,aeq,aeq.aeqF,simprocAttr]
   ·rw [putH];simp only [AS.le,leT,leH,zc,AsgK,AV.le,AV.leL,AObj.le,inH,idsT,idsH,AV.ids,AV.idsL,AV.idsR,AObj.ids,lk,hget,go_sem,aeq,aeq.aeqF,simprocAttr]
  ·have hmin:min (zaR z).length z=z:=by rw [zi9];omega
   rw [hI]
   simp only [hmin]
   have hbl:(zg (putB m z z)).length=z:=by rw [zbs,ze1 (by omega)]
   have hput:putB m z z=putN m z:=by rw [putB,Nat.sub_self];rfl
   have hbl2:(z=(zg (putB m z z)).length)=True:=eq_true hbl.symm
   have hbl3:List.take z (zg (putB m z z))=zg (putB m z z):=List.take_of_length_le (by omega)
   (have tk:=zb Tryz.prog);repeat' (first|((first|(refine sa ?_;intro K hK)|refine sb ?_);simp only [go_sem,aeq,aeq.aeqF,simprocAttr,putH,hbl,Tryz.results133])|refine zj (fun K hK=>?_)|refine sc ?_|refine zi rfl (fun hc=>?_) (fun hc=>?_)|(refine hK _ ?_;clear hK K)|((first|refine (show AS.le _ _ from ?_)|refine (show leH _ _ from ?_)|refine (show inH _ _ from ?_));simp only [AS.le,leT,leH,zc,AsgK,AV.le,AV.leL,AObj.le,inH,idsT,idsH,AV.ids,AV.idsL,AV.idsR,AObj.ids,lk,hget,go_sem,aeq,aeq.aeqF,simprocAttr,putH,hbl])|refine fun (r2:Rnd _)=>?_|with_reducible refine And.intro ?_ ?_|exact ‹_<+:_› |omega|assumption|refine fun (hg:(_:Bool)=(_:Bool))=>?_|clear hK K)
   ·rw [hbl3];exact zaJ _
   ·have hn:(z:Int) - 1=z - 1:=rfl
    rw [hbl3,z2,hput,putS8,if_neg h]
    rfl
@[go_sem] noncomputable def zbZ:Ent Tryz.prog 133:= .ofL (consL (intT .u64) (consL (intT .i64) nilL)) (fun (n,size,_)=>(0≤n)∧(n<18446744073709551616)) (fun (n,size,_)=> .d (.str (putS8 n size))) (fun (n,size,_) hp=>⟨rfl,zuA n size hp.1 hp.2⟩)
end Go.Aw
