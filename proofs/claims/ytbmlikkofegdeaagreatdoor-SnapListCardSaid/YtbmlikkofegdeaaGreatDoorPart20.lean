/-
  Parts of the proof: CrcR, CrcRE, BldA, BldB, BldC (short names; the readable texts lie in the repo, under wip).
-/
import Derived.Test.YtbmlikkofegdeaaGreatDoorPart19
import Derived.Test.YtbmlikkofegdeaaGreatDoorPart17
import Derived.Test.YtbmlikkofegdeaaGreatDoorProg
import Derived.KernelRfl
import Derived.WalkKit
import Derived.Tactics
import Derived.Tactics2
import Derived.Laws.Pointers
import Derived.RegionTactic
import Derived.Lib.Builder
import Derived.Lib.UnsafeStr
import Derived.Laws.Externs
import Derived.Lib.AppendStr
import Derived.Lib.Strings
import Derived.Lib.Slices
import Derived.RegionCalls
import Derived.Lib.MakeNoZero
set_option maxRecDepth 100000
set_option maxHeartbeats 2000000
set_option linter.unusedSimpArgs false
set_option linter.unusedVariables false
namespace Go.Aw
open Go Go.Proofs
theorem zu4 (b:UInt8):IntKind.u32.wrap (b.toNat:Int)=toI (u8B b):=by
 have:=b.toNat_lt
 unfold u8B
 rw [zkY _ (by omega),IntKind.wrap_u32]
 omega
theorem rem2 (x:B32):((toI x).tmod 2==1)=x.getLsbD 0:=by
 unfold toI
 have h0:(x.toNat:Int).tmod 2=((x.toNat % 2:Nat):Int):=by rw [Int.tmod_eq_emod_of_nonneg (by omega)];omega
 rw [h0]
 have h1:x.getLsbD 0=decide (x.toNat % 2=1):=by
  rw [BitVec.getLsbD,Nat.testBit_zero]
 rw [h1]
 rcases Nat.mod_two_eq_zero_or_one x.toNat with h|h<;>rw [h]<;>rfl
theorem zq4 (x:B32) (h:x.getLsbD 0=true):ibits .xor .u32 (ishr .u32 (toI x) 1) 2197175160=toI (bT x):=by
 rw [show ishr .u32 (toI x) 1=toI (x>>>1) from zg4 x 1 (by omega),show (2197175160:Int)=toI polyB by decide,zdJ]
 unfold bT
 rw [h];rfl
theorem zoW (x:B32) (h:x.getLsbD 0=false):ishr .u32 (toI x) 1=toI (bT x):=by
 rw [show ishr .u32 (toI x) 1=toI (x>>>1) from zg4 x 1 (by omega)]
 unfold bT
 rw [h];simp
theorem zoX (x:B32) (l:List UInt8) (hl:l.length≤9223372036854775807):ACall Tryz.prog 150 0 [.d (.int .u32 (toI x)),.d (.str l)] [] (fun r _=>r= .d (.int .u32 (toI (onesB ^^^ sumB (onesB ^^^ x) l)))):=by
 have hnot:∀y:B32,ibits .xor .u32 (if IntKind.u32.signed=true then (-1:Int) else IntKind.u32.max) (toI y)=toI (onesB ^^^ y):=zjE
 refine zaI Tryz.func150 rfl (zcK Tryz.func150 (by kernel_rfl) rfl) Tryz.ntmps150 (by simp) (fun base=>?_)
 refine zg noTab (zb _) (fun K hK=>?_);simp only [go_sem,Nat.le_refl,List.append_toArray,List.range_zero,List.append_eq,Int.toNat_natCast,aeq,aeq.aeqF,simprocAttr]
 refine hK _ ?_;clear hK K
 refine zg noTab (zb _) (fun K hK=>?_);simp only [go_sem,Nat.le_refl,List.append_toArray,List.range_zero,List.append_eq,Int.toNat_natCast,aeq,aeq.aeqF,simprocAttr,hnot]
 refine hK _ ?_;clear hK K
 refine zaD (fun K1 hK1=>?_)
 refine zg noTab (zb _) (fun K hK=>?_);simp only [go_sem,Nat.le_refl,List.append_toArray,List.range_zero,List.append_eq,Int.toNat_natCast,aeq,aeq.aeqF,simprocAttr]
 refine hK _ ?_;clear hK K
 refine zaV ?_
 refine zk (fun i: {i:Nat // i≤l.length} =>⟨[(1,true,.d (.str l)),(5,true,.d (.int .u32 (toI (sumB (onesB ^^^ x) (l.take i.1))))),(6,true,.d (.int .i64 i.1))],[],some []⟩) (fun i=>l.length - i.1) ⟨0,by omega⟩ (by simp only [AS.le,leT,leH,zj,AsgK,AV.le,AV.leL,AObj.le,inH,idsT,idsH,AV.ids,AV.idsL,AV.idsR,AObj.ids,lk,hget,go_sem,Nat.le_refl,List.append_toArray,List.range_zero,List.append_eq,Int.toNat_natCast,aeq,aeq.aeqF,simprocAttr]<;>simp [sumB]) (fun i=>?_)
 obtain ⟨i,hi⟩:=i
 refine zaD (fun K2 hK2=>?_)
 refine zg noTab (zb _) (fun K hK=>?_);simp only [go_sem,Nat.le_refl,List.append_toArray,List.range_zero,List.append_eq,Int.toNat_natCast,aeq,aeq.aeqF,simprocAttr]
 refine hK _ ?_;clear hK K
 refine za5 rfl (fun hc=>?_) (fun hc=>?_)
 ·refine zdS ?_;simp only [go_sem,Nat.le_refl,List.append_toArray,List.range_zero,List.append_eq,Int.toNat_natCast,aeq,aeq.aeqF,simprocAttr];refine hK2 _ ?_;clear hK2 K2
  have hil:i<l.length:=by simp at hc;omega
  obtain ⟨b,hb⟩:∃b,l[i]?=some b:=⟨l[i],by simp [hil]⟩
  have hgd:l.getD i 0=b:=by simp [List.getD_eq_getElem?_getD,hb]
  refine zaD (fun K3 hK3=>?_)
  refine zaV ?_
  refine zg noTab (zb _) (fun K hK=>?_);simp only [go_sem,Nat.le_refl,List.append_toArray,List.range_zero,List.append_eq,Int.toNat_natCast,aeq,aeq.aeqF,simprocAttr,hgd,zu4,zdJ]
  refine ⟨⟨by omega,by omega⟩,hK _ ?_⟩
  clear hK
  refine zg noTab (zb _) (fun K hK=>?_);simp only [go_sem,Nat.le_refl,List.append_toArray,List.range_zero,List.append_eq,Int.toNat_natCast,aeq,aeq.aeqF,simprocAttr]
  refine hK _ ?_;clear hK K
  refine zaV ?_
  refine zk (fun k: {k:Nat // k≤8} =>⟨[(1,true,.d (.str l)),(6,true,.d (.int .i64 i)),(5,true,.d (.int .u32 (toI (bN k.1 (sumB (onesB ^^^ x) (l.take i) ^^^ u8B b))))),(7,true,.d (.int .i64 k.1))],[],some []⟩) (fun k=>8 - k.1) ⟨0,by omega⟩ (by simp only [AS.le,leT,leH,zj,AsgK,AV.le,AV.leL,AObj.le,inH,idsT,idsH,AV.ids,AV.idsL,AV.idsR,AObj.ids,lk,hget,go_sem,Nat.le_refl,List.append_toArray,List.range_zero,List.append_eq,Int.toNat_natCast,aeq,aeq.aeqF,simprocAttr]<;>simp [bN]) (fun k=>?_)
  obtain ⟨k,hk⟩:=k
  refine zaD (fun K4 hK4=>?_)
  refine zg noTab (zb _) (fun K hK=>?_);simp only [go_sem,Nat.le_refl,List.append_toArray,List.range_zero,List.append_eq,Int.toNat_natCast,aeq,aeq.aeqF,simprocAttr]
  refine hK _ ?_;clear hK K
  refine za5 rfl (fun hc=>?_) (fun hc=>?_)
  ·refine zdS ?_;simp only [go_sem,Nat.le_refl,List.append_toArray,List.range_zero,List.append_eq,Int.toNat_natCast,aeq,aeq.aeqF,simprocAttr];refine hK4 _ ?_;clear hK4 K4
   have hkl:k<8:=by simp at hc;omega
   have hw:IntKind.i64.wrap ((k:Int)+1)=((k+1:Nat):Int):=by rw [IntKind.wrap_i64];omega
   refine zaD (fun K5 hK5=>?_)
   refine zaV ?_
   refine zg noTab (zb _) (fun K hK=>?_);simp only [go_sem,Nat.le_refl,List.append_toArray,List.range_zero,List.append_eq,Int.toNat_natCast,aeq,aeq.aeqF,simprocAttr,rem2]
   refine hK _ ?_;clear hK K
   refine za5 rfl (fun hc=>?_) (fun hc=>?_)
   ·have hb1:(bN k (sumB (onesB ^^^ x) (l.take i) ^^^ u8B b)).getLsbD 0=true:=by simpa using hc
    refine zao noTab (zb _) ?_;simp only [go_sem,Nat.le_refl,List.append_toArray,List.range_zero,List.append_eq,Int.toNat_natCast,aeq,aeq.aeqF,simprocAttr,zq4 _ hb1]
    refine hK5 _ ?_;clear hK5 K5
    refine zao noTab (zb _) ?_;simp only [go_sem,Nat.le_refl,List.append_toArray,List.range_zero,List.append_eq,Int.toNat_natCast,aeq,aeq.aeqF,simprocAttr]
    refine ⟨⟨k+1,by omega⟩,?_,by simp;omega⟩
    rw [hw]
    simp only [AS.le,leT,leH,zj,AsgK,AV.le,AV.leL,AObj.le,inH,idsT,idsH,AV.ids,AV.idsL,AV.idsR,AObj.ids,lk,hget,go_sem,Nat.le_refl,List.append_toArray,List.range_zero,List.append_eq,Int.toNat_natCast,aeq,aeq.aeqF,simprocAttr]
    try rfl
   ·have hb1:(bN k (sumB (onesB ^^^ x) (l.take i) ^^^ u8B b)).getLsbD 0=false:=by simpa using hc
    refine zao noTab (zb _) ?_;simp only [go_sem,Nat.le_refl,List.append_toArray,List.range_zero,List.append_eq,Int.toNat_natCast,aeq,aeq.aeqF,simprocAttr,zoW _ hb1]
    refine hK5 _ ?_;clear hK5 K5
    refine zao noTab (zb _) ?_;simp only [go_sem,Nat.le_refl,List.append_toArray,List.range_zero,List.append_eq,Int.toNat_natCast,aeq,aeq.aeqF,simprocAttr]
    refine ⟨⟨k+1,by omega⟩,?_,by simp;omega⟩
    rw [hw]
    simp only [AS.le,leT,leH,zj,AsgK,AV.le,AV.leL,AObj.le,inH,idsT,idsH,AV.ids,AV.idsL,AV.idsR,AObj.ids,lk,hget,go_sem,Nat.le_refl,List.append_toArray,List.range_zero,List.append_eq,Int.toNat_natCast,aeq,aeq.aeqF,simprocAttr]
    try rfl
  ·refine zdT ?_;simp only [go_sem,Nat.le_refl,List.append_toArray,List.range_zero,List.append_eq,Int.toNat_natCast,aeq,aeq.aeqF,simprocAttr];refine hK3 _ ?_
   have hk8:k=8:=by simp at hc;omega
   subst hk8
   refine zao noTab (zb _) ?_;simp only [go_sem,Nat.le_refl,List.append_toArray,List.range_zero,List.append_eq,Int.toNat_natCast,aeq,aeq.aeqF,simprocAttr]
   have hw:IntKind.i64.wrap ((i:Int)+1)=((i+1:Nat):Int):=by rw [IntKind.wrap_i64];omega
   refine ⟨⟨i+1,by omega⟩,?_,by simp;omega⟩
   rw [hw]
   have hs:sumB (onesB ^^^ x) (l.take (i+1))=bN 8 (sumB (onesB ^^^ x) (l.take i) ^^^ u8B b):=by
    rw [List.take_add_one,hb,Option.toList_some,zdf];rfl
   rw [hs]
   simp only [AS.le,leT,leH,zj,AsgK,AV.le,AV.leL,AObj.le,inH,idsT,idsH,AV.ids,AV.idsL,AV.idsR,AObj.ids,lk,hget,go_sem,Nat.le_refl,List.append_toArray,List.range_zero,List.append_eq,Int.toNat_natCast,aeq,aeq.aeqF,simprocAttr]
 ·refine zdT ?_;simp only [go_sem,Nat.le_refl,List.append_toArray,List.range_zero,List.append_eq,Int.toNat_natCast,aeq,aeq.aeqF,simprocAttr];refine hK1 _ ?_
  have hil:i=l.length:=by simp at hc;omega
  subst hil
  refine zg noTab (zb _) (fun K hK=>?_);simp only [go_sem,Nat.le_refl,List.append_toArray,List.range_zero,List.append_eq,Int.toNat_natCast,aeq,aeq.aeqF,simprocAttr,hnot]
  refine hK _ ?_;clear hK K
  refine ze4 ?_;simp only [go_sem,Nat.le_refl,List.append_toArray,List.range_zero,List.append_eq,Int.toNat_natCast,aeq,aeq.aeqF,simprocAttr,Tryz.results150]
  try rw [List.take_length]
theorem zmp (c:Int) (l:List UInt8) (h0:0≤c) (h1:c≤4294967295) (hl:l.length≤9223372036854775807):ACall Tryz.prog 150 0 [.d (.int .u32 c),.d (.str l)] [] (fun r _=>r= .d (.int .u32 (sumOf c l))):=by
 obtain ⟨x,rfl⟩:=ofI c h0 h1
 rw [zkZ]
 exact zoX x l hl
theorem zmq (c:Int) (h0:0≤c) (h1:c≤4294967295):ACall Tryz.prog 66 0 [.d (.int .u32 c)] [] (fun r _=>r= .d (.str (zen c))):=by
 refine zaI Tryz.func66 rfl (zcK Tryz.func66 (by kernel_rfl) rfl) Tryz.ntmps66 (by simp) (fun base=>?_)
 refine zg noTab (zb _) (fun K hK=>?_);simp only [go_sem,Nat.le_refl,List.append_toArray,List.range_zero,List.append_eq,Int.toNat_natCast,aeq,aeq.aeqF,simprocAttr]
 refine hK _ ?_;clear hK K
 refine zg noTab (zb _) (fun K hK=>?_);simp only [go_sem,Nat.le_refl,List.append_toArray,List.range_zero,List.append_eq,Int.toNat_natCast,aeq,aeq.aeqF,simprocAttr]
 refine ⟨rfl,hK _ ?_⟩
 clear hK K
 refine ze4 ?_;simp only [go_sem,Nat.le_refl,List.append_toArray,List.range_zero,List.append_eq,Int.toNat_natCast,aeq,aeq.aeqF,simprocAttr,Tryz.results66]
 have e3:zb3 c 3=IntKind.u8.wrap c:=by
  unfold zb3 ishr
  rw [show IntKind.i64.wrap (24 - IntKind.i64.wrap (8*((3:Nat):Int)))=0 by decide]
  simp
 have e2:zb3 c 2=IntKind.u8.wrap (ishr .u32 c 8):=by
  unfold zb3
  rw [show IntKind.i64.wrap (24 - IntKind.i64.wrap (8*((2:Nat):Int)))=8 by decide]
 have e1:zb3 c 1=IntKind.u8.wrap (ishr .u32 c 16):=by
  unfold zb3
  rw [show IntKind.i64.wrap (24 - IntKind.i64.wrap (8*((1:Nat):Int)))=16 by decide]
 have e0:zb3 c 0=IntKind.u8.wrap (ishr .u32 c 24):=by
  unfold zb3
  rw [show IntKind.i64.wrap (24 - IntKind.i64.wrap (8*((0:Nat):Int)))=24 by decide]
 simp only [zen,bytesOf,List.map_cons,List.map_nil,numOf,e0,e1,e2,e3]
theorem zfm (c:Int) (l:List UInt8) (h0:0≤c) (h1:c≤4294967295):0≤sumOf c l∧sumOf c l≤4294967295:=by
 obtain ⟨x,rfl⟩:=ofI c h0 h1
 rw [zkZ]
 unfold toI
 have:=(onesB ^^^ sumB (onesB ^^^ x) l).isLt
 omega
open Go Go.Proofs
@[go_sem] noncomputable def zbf:Ent Tryz.prog 150:= .ofL (consL (intT .u32) (consL strT nilL)) (fun (c,l,_)=>(0≤c)∧(c≤4294967295)∧(l.length≤9223372036854775807)) (fun (c,l,_)=> .d (.int .u32 (sumOf c l))) (fun (c,l,_) hp=>⟨rfl,zmp c l hp.1 hp.2.1 hp.2.2⟩)
@[go_sem] noncomputable def zaz:Ent Tryz.prog 66:= .ofL (consL (intT .u32) nilL) (fun (c,_)=>(0≤c)∧(c≤4294967295)) (fun (c,_)=> .d (.str (zen c))) (fun (c,_) hp=>⟨rfl,zmq c hp.1 hp.2⟩)
theorem ztg (l:List UInt8) (hl:l.length≤9223372036854775807):ACall Tryz.prog 67 0 [.d (.str l)] [] (fun r _=>r= .d (.int .u32 (sumOf 0 l))):=by
 refine bod Tryz.func67 Tryz.ntmps67 (fun base=>?_)
 refine' walkW fx (za zbf <| zb _)
@[go_sem] noncomputable def zbj:Ent Tryz.prog 67:= .ofL (consL strT nilL) (fun (l,_)=>l.length≤9223372036854775807) (fun (l,_)=> .d (.int .u32 (sumOf 0 l))) (fun (l,_) hp=>⟨rfl,ztg l hp⟩)
end Go.Aw
namespace Go.Proofs.YtbmlikkofegdeaaGreatDoor
open Go Go.RowKit
theorem bsize:∃j,Tryz.prog.info? 223=some j∧j.size=2:=by
 obtain ⟨j,hj,hjs⟩:=Option.map_eq_some_iff.1 (show (Tryz.prog.info? 223).map (·.size)=some 2 by kernel_rfl)
 exact ⟨j,hj,hjs⟩
theorem zrl (b o:Nat) (w:World) (h0:w.cell? ⟨b,o,none⟩=some (.pointer (some ⟨b,o,none⟩))):
  Calls Tryz.prog 222 #[.pointer (some ⟨b,o,none⟩)] w fun e w'=>e= .returned (.tuple #[])∧w'=w:=by
 obtain ⟨j,hj,hjs⟩:=bsize
 go_enter Tryz.func222,Tryz.ntmps222
 go_wp2
 rw [Lib.run_neq_ptr_same w _ Tryz.underlying221 hj]
 go_wp2
 go_end0
 exact ⟨rfl,rfl⟩
theorem zpg (b o n:Nat) (T:TypeId) (w:World) (h0:w.cell? ⟨b,o,none⟩=some (.pointer none)) (hsh:w.shape? b=some (T,n)) (hlt:o<n) (hl:liesAt Tryz.prog Tryz.prog.depth T (n / Tryz.prog.cellsOf T) o 223 1=true) (hfz:w.frozen? ⟨b,o,none⟩=false):
  Calls Tryz.prog 222 #[.pointer (some ⟨b,o,none⟩)] w fun e w'=>e= .returned (.tuple #[])∧w'=w.setCell ⟨b,o,none⟩ (.pointer (some ⟨b,o,none⟩)):=by
 obtain ⟨j,hj,hjs⟩:=bsize
 go_enter Tryz.func222,Tryz.ntmps222
 go_wp2
 rw [Lib.run_to_unsafe w ⟨b,o,none⟩ Tryz.underlying221 Tryz.underlying326 hj (by rw [hjs];decide) hsh hlt]
 simp only [Result.andThen]
 rw [Oper.upon_value]
 go_wp2
 rw [run_callFunc_extern Tryz.func266 (by kernel_rfl) (by kernel_rfl) (by kernel_rfl) (e:=Extern.AbiNoEscape.same) (by kernel_rfl)]
 rw [Lib.run_noEscape]
 simp only [Result.andThen]
 rw [Oper.upon_value]
 go_wp2
 rw [Lib.run_from_unsafe w ⟨b,o,none⟩ Tryz.underlying326 Tryz.underlying221 hj hsh hl]
 simp only [Result.andThen]
 rw [Oper.upon_value]
 go_wp2
 go_end0
 exact ⟨rfl,rfl⟩
end Go.Proofs.YtbmlikkofegdeaaGreatDoor
namespace Go.Proofs.YtbmlikkofegdeaaGreatDoor
open Go
section
variable {P : Program}
open Go.Lib
theorem zhU (w:World) (base:Nat) (t u ty e:TypeId) (i:TypeInfo) (ht:P.underlying t=some (.slice e)) (hu:P.underlying u=some .string) (hi:P.info? e=some i) (hz:i.zero=some (.int .u8 0))
  (hsize:i.size=1) (hby:i.bytes=1)
  (v:Value) (n:Nat) (xs:List Value) (hown:w.ownsRow base e 1 v n xs) (s:ByteArray)
  (h63:n+s.size≤maxLen) (hbytes:n+s.size≤140737488355328) (hbase:base≤w.heap.size):
  ∃v' w',(Builtin.append_ #[t,u] ty #[v,.string s]).run P w= .ok v' w'∧w'.ownsRow base e 1 v' (n+s.size) (xs++strCells s)∧w.grownBy w' v.ownBlock∧
   ((∀g,v'.ownBlock=some g→v.ownBlock=some g∨(w.heap.size≤g∧g<w'.heap.size))∧(s.size=0→v'=v)):=by
 have hsmall:n+s.size≤9223372036854775807:=by simp only [maxLen] at h63;omega
 have hxl:xs.length=n:=by simpa using hown.1
 have hlen:(xs++strCells s).length=(n+s.size)*1:=by rw [List.length_append,hxl,strCells_length,Nat.mul_one]
 have grown:∀ (old:Nat),old<n+s.size→∀ (row:Option Nat),
   (w.drew.alloc (.cells (xs.toArray++(strCells s).toArray++Builtin.zeroCells (Value.int .u8 0).cells (grownCap w (n+s.size) old e - (n+s.size))) e)).ownsRow base e 1
    (.slice (some ⟨w.heap.size,0,none⟩) (n+s.size) (grownCap w (n+s.size) old e)) (n+s.size) (xs++strCells s)∧
   w.grownBy (w.drew.alloc (.cells (xs.toArray++(strCells s).toArray++Builtin.zeroCells (Value.int .u8 0).cells (grownCap w (n+s.size) old e - (n+s.size))) e)) row:=by
  intro old ho row
  have hge:=grownCap_ge w (n+s.size) old e
  have hcm:grownCap w (n+s.size) old e≤maxLen:=grownCap_le_maxLen w (n+s.size) old e h63
  refine ⟨⟨hlen,.inr ⟨w.heap.size,_,_,rfl,hbase,Go.heap_alloc_new w.drew _,hge,hcm,?_,?_⟩⟩,⟨rfl,rfl,rfl,by simp,fun k hk _=>Go.heap_alloc_old w.drew _ hk⟩⟩
  ·have hz1:(Value.int IntKind.u8 0).cells.size=1:=rfl
   simp only [Array.size_append,List.size_toArray,size_zeroCells,hz1,hxl,strCells_length]
   omega
  ·simp only [Array.toList_append,List.append_assoc]
   rw [← List.append_assoc,← hlen]
   exact List.take_left
 rcases hown.2 with ⟨rfl,rfl⟩|⟨g,cap,cur,rfl,hbg,hg,hnc,hcm,hcs,htake⟩
 ·have hx:xs= []:=List.eq_nil_of_length_eq_zero hxl
  subst hx
  by_cases hm:s.size=0
  ·have hn:strCells s= []:=List.eq_nil_of_length_eq_zero (by rw [strCells_length];exact hm)
   refine ⟨.slice none 0 0,w,?_,by rw [hm,hn];exact World.ownsRow_nil w base e 1,⟨rfl,rfl,rfl,Nat.le_refl _,fun _ _ _=>rfl⟩,fun g hg=> .inl hg,fun _=>rfl⟩
   have hf:=run_firstCells_string (P:=P) w 1 s
   rw [hm] at hf
   simp [Builtin.append_,run_underlying ht,run_underlying hu,sizeOf,typeInfo,hi,hsize,Builtin.lenOf,hm,hf]
  ·have hr:=run_append_nil_string (P:=P) w t u ty e i (.int .u8 0) ht hu hi hz s (by omega) (by omega) (by rw [hby];omega)
   have hgr:=grown 0 (by omega) (Value.ownBlock (.slice none 0 0))
   simp only [Nat.zero_add,List.nil_append,Array.empty_append] at hgr ⊢
   have e1:(s.data.map fun b=>Value.int .u8 b.toNat)=(strCells s).toArray:=by
    apply Array.ext'
    simp [strCells]
   rw [e1] at hr
   exact ⟨_,_,hr,hgr.1,hgr.2,fun g hg=> .inr (by simp [Value.ownBlock] at hg;subst hg;simp),fun e=>absurd e hm⟩
 ·by_cases hroom:n+s.size≤cap
  ·have hcs':cur.size=cap:=by simpa using hcs
   have hr:=run_append_room_string (P:=P) w t u ty e i ht hu hi hsize g n cap cur hg s hroom (by omega)
   refine ⟨_,_,hr,⟨hlen,.inr ⟨g,cap,_,rfl,hbg,setRow_heap w g cur _ e _ hg,hroom,hcm,?_,?_⟩⟩,⟨rfl,rfl,rfl,by simp,fun k _ hk=>setRow_other w g k _ (fun e=>hk (by simp [Value.ownBlock,e]))⟩,fun g hg=> .inl hg,fun e=>by rw [e];rfl⟩
   ·simp only [List.size_toArray,List.length_append,List.length_take,List.length_drop,Array.length_toList,strCells_length]
    omega
   ·have ht':cur.toList.take n=xs:=by simpa using htake
    rw [ht',← hlen]
    exact List.take_left
  ·have holds:∀j u,xs[j]?=some u→w.cell? ((⟨g,0,none⟩:Addr).add j)=some u:=hown.cells (g:=g) rfl
   have hr:=run_append_grow_string (P:=P) w t u ty e i (.int .u8 0) ht hu hi hz ⟨g,0,none⟩ n cap xs (by rw [hsize];simpa using hxl) holds s (by omega) (by omega) (by rw [hby];exact growslice_fits (by omega) (by omega))
   have hgr:=grown cap (by omega) (Value.ownBlock (.slice (some ⟨g,0,none⟩) n cap))
   exact ⟨_,_,hr,hgr.1,hgr.2,fun g hg=> .inr (by simp [Value.ownBlock] at hg;subst hg;simp),fun e=>by omega⟩
theorem zfQ (w:World) {ops:Array Oper} {rest:List Oper} {o:Oper} {a:Act} {Q:Exit→Act→World→Prop} (hgd:o.guard=none) (sl x:Operand) (t u:TypeId)
  (ho:o.op= .call { callee:= .builtin .append,args:= #[sl,x],argTypes:= #[t,u] })
  (base:Nat) (e:TypeId) (i:TypeInfo) (ht:P.underlying t=some (.slice e)) (hu:P.underlying u=some .string) (hi:P.info? e=some i) (hz:i.zero=some (.int .u8 0))
  (hsize:i.size=1) (hby:i.bytes=1)
  (v:Value) (n:Nat) (xs:List Value) (hs:a.eval sl=v) (hown:w.ownsRow base e 1 v n xs) (s:ByteArray) (hx:a.eval x= .string s)
  (h63:n+s.size≤maxLen) (hbytes:n+s.size≤140737488355328) (hbase:base≤w.heap.size)
  (h:∀v' w',w'.ownsRow base e 1 v' (n+s.size) (xs++strCells s)→w.grownBy w' v.ownBlock→((∀g,v'.ownBlock=some g→v.ownBlock=some g∨(w.heap.size≤g∧g<w'.heap.size))∧(s.size=0→v'=v))→wpList P ops Q rest (a.put o.dst v') w'):wpList P ops Q (o::rest) a w:=by
 refine wpList_plain hgd fun K hK=>?_
 obtain ⟨v',w',hr,h2,h3,h4⟩:=zhU (P:=P) w base t u o.type e i ht hu hi hz hsize hby v n xs hown s h63 hbytes hbase
 unfold Oper.wp execOp
 simp only [ho,resolve,invoke,builtin,Sem.run_bind,Sem.run_pure,Result.andThen_ok,List.map_toArray,List.map_cons,List.map_nil,hs,hx,hr]
 exact hK _ _ (h v' w' h2 h3 h4)
end
open Go.RowKit
theorem ziq {w:World} {b o o':Nat} {v:Value} (h:o≠o'):(w.setCell ⟨b,o,none⟩ v).cell? ⟨b,o',none⟩=w.cell? ⟨b,o',none⟩:=by
 unfold World.setCell World.cell?
 simp only [Array.getElem?_modify,if_true]
 cases w.heap[b]? with
 |none=>rfl
 |some ob=>
  cases ob<;>simp [Array.getElem?_setIfInBounds_ne h]
theorem zgV {w:World} {b o o':Nat} {v:Value} :(w.setCell ⟨b,o,none⟩ v).frozen? ⟨b,o',none⟩=w.frozen? ⟨b,o',none⟩:=by
 unfold World.setCell World.frozen?
 simp only [Array.getElem?_modify,if_true]
 cases w.heap[b]? with
 |none=>rfl
 |some ob=>
  cases ob<;>simp
theorem zmH {w:World} {e:TypeId} {v:Value} {k:Nat} {bs:List Value} {b o:Nat} {x:Value} (h:w.ownsRow 0 e 1 v k bs) (hne:v.ownBlock≠some b):(w.setCell ⟨b,o,none⟩ x).ownsRow 0 e 1 v k bs:=by
 refine ⟨h.1,?_⟩
 rcases h.2 with hn|⟨g,cap,cur,rfl,hb,hgg,rest⟩
 ·exact .inl hn
 ·refine .inr ⟨g,cap,cur,rfl,hb,?_,rest⟩
  have:b≠g:=fun e=>hne (by simp [Value.ownBlock,e])
  unfold World.setCell
  rw [Array.getElem?_modify,if_neg this]
  exact hgg
theorem zph (b o n:Nat) (T:TypeId) (w:World) (h0:w.cell? ⟨b,o,none⟩=some (.pointer none)∨w.cell? ⟨b,o,none⟩=some (.pointer (some ⟨b,o,none⟩))) (hsh:w.shape? b=some (T,n)) (hlt:o<n) (hl:liesAt Tryz.prog Tryz.prog.depth T (n / Tryz.prog.cellsOf T) o 223 1=true) (hfz:w.frozen? ⟨b,o,none⟩=false):
  Calls Tryz.prog 222 #[.pointer (some ⟨b,o,none⟩)] w fun e w'=>e= .returned (.tuple #[])∧((w'=w∧w.cell? ⟨b,o,none⟩=some (.pointer (some ⟨b,o,none⟩)))∨w'=w.setCell ⟨b,o,none⟩ (.pointer (some ⟨b,o,none⟩))):=by
 rcases h0 with h0|h0
 ·refine (zpg b o n T w h0 hsh hlt hl hfz).mono ?_
  rintro e w' ⟨rfl,rfl⟩
  exact ⟨rfl,.inr rfl⟩
 ·refine (zrl b o w h0).mono ?_
  rintro e w' ⟨rfl,rfl⟩
  exact ⟨rfl,.inl ⟨rfl,h0⟩⟩
theorem zmI (b o n:Nat) (T:TypeId) (w:World) (v:Value) (k:Nat) (bs:List Value) (s:ByteArray) (h0:w.cell? ⟨b,o,none⟩=some (.pointer none)∨w.cell? ⟨b,o,none⟩=some (.pointer (some ⟨b,o,none⟩))) (h1:w.cell? ⟨b,o+1,none⟩=some v)
  (hsh:w.shape? b=some (T,n)) (hlt:o<n) (hl:liesAt Tryz.prog Tryz.prog.depth T (n / Tryz.prog.cellsOf T) o 223 1=true) (hfz:w.frozen? ⟨b,o,none⟩=false) (hfz1:w.frozen? ⟨b,o+1,none⟩=false)
  (hown:w.ownsRow 0 5 1 v k bs) (hne:v.ownBlock≠some b) (hlen:k+s.size≤140737488355328):
  Calls Tryz.prog 166 #[.pointer (some ⟨b,o,none⟩),.string s] w fun e w'=>e= .returned (.tuple #[.int .i64 s.size,.nilIface])∧
   ∃w1 v' w2,((w1=w∧w.cell? ⟨b,o,none⟩=some (.pointer (some ⟨b,o,none⟩)))∨w1=w.setCell ⟨b,o,none⟩ (.pointer (some ⟨b,o,none⟩)))∧w2.ownsRow 0 5 1 v' (k+s.size) (bs++Lib.strCells s)∧w1.grownBy w2 v.ownBlock∧((∀g,v'.ownBlock=some g→v.ownBlock=some g∨(w1.heap.size≤g∧g<w2.heap.size))∧(s.size=0→v'=v))∧w'=w2.setCell ⟨b,o+1,none⟩ v':=by
 obtain ⟨i0,hi,hz0⟩:=Option.map_eq_some_iff.1 (show (Tryz.prog.info? 5).map (fun i=>(i.zero,i.size,i.bytes))=some (some (.int .u8 0),1,1) by kernel_rfl)
 simp only [Prod.mk.injEq] at hz0
 obtain ⟨hz0,hz1,hz2⟩:=hz0
 go_enter Tryz.func166,Tryz.ntmps166
 go_wp2_with (go_at_call 222;refine (zph b o n T _ h0 hsh hlt hl hfz).mono ?_)
 rintro e w1 ⟨rfl,hw1⟩
 have c1:w1.cell? ⟨b,o+1,none⟩=some v:=by
  rcases hw1 with ⟨rfl,_⟩|rfl
  ·exact h1
  ·rw [ziq (by omega)];exact h1
 have f1:w1.frozen? ⟨b,o+1,none⟩=false:=by
  rcases hw1 with ⟨rfl,_⟩|rfl
  ·exact hfz1
  ·rw [zgV];exact hfz1
 have hown1:w1.ownsRow 0 5 1 v k bs:=by
  rcases hw1 with ⟨rfl,_⟩|rfl
  ·exact hown
  ·exact zmH hown hne
 go_wp2_with (at_builtin;refine zfQ _ rfl _ _ 166 9 rfl 0 5 i0 Tryz.underlying166 Tryz.underlying9 hi hz0 hz1 hz2 _ _ _ rfl hown1 s rfl ?c3 ?c4 ?c5 ?_)
 case c3=>unfold maxLen;omega
 case c4=>omega
 case c5=>omega
 intro v' w2 hown' hgrow hnew hnew2
 have hlt1:b<w1.heap.size:=by
  rcases Nat.lt_or_ge b w1.heap.size with h'|h'
  ·exact h'
  ·simp [World.cell?,Array.getElem?_eq_none h'] at c1
 have hb2:w2.heap[b]?=w1.heap[b]?:=hgrow.block b hlt1 (fun e=>hne e.symm)
 have d1:w2.cell? ⟨b,o+1,none⟩=some v:=by
  rw [← c1];simp only [World.cell?,hb2]
 have f2:w2.frozen? ⟨b,o+1,none⟩=false:=by
  rw [← f1];simp only [World.frozen?,hb2]
 obtain ⟨ao,n',cap,rfl⟩:∃ao n' cap,v'= .slice ao n' cap:=by
  rcases hown'.2 with ⟨hv,_⟩|⟨g,cap,cur,hv,_⟩
  ·exact ⟨_,_,_,hv⟩
  ·exact ⟨_,_,_,hv⟩
 go_wp2
 go_ret2
 exact ⟨rfl,w1,_,w2,hw1,hown',hgrow,⟨hnew,fun e=>hnew2 (by simpa using e)⟩,rfl⟩
end Go.Proofs.YtbmlikkofegdeaaGreatDoor
namespace Go.Proofs.YtbmlikkofegdeaaGreatDoor
open Go Go.RowKit
theorem zeC (W:World) (q:Option Addr):(Builtin.unsafeString_ #[286,3] 9 #[.pointer q,.int .i64 0]).run Tryz.prog W= .ok (.string .empty) W:=
 Lib.run_unsafeString_none W _ _ _ q
theorem zeD (w:World) (row:Option Nat):w.grownBy w.drew row:=⟨rfl,rfl,rfl,Nat.le_refl _,fun _ _ _=>rfl⟩
theorem zir (w:World) (g n:Nat):w.grownBy (w.drew.freeze ⟨g,0,none⟩ n) (some g):=by
 unfold World.freeze
 split
 ·exact zeD w _
 ·refine ⟨rfl,rfl,rfl,by simp,fun k hk hne=>?_⟩
  simp only [Array.getElem?_modify]
  rw [if_neg (fun e=>hne (by rw [e]))]
  rfl
theorem zpi (b o:Nat) (w:World) (h1:w.cell? ⟨b,o+1,none⟩=some (.slice none 0 0)):
  Calls Tryz.prog 168 #[.pointer (some ⟨b,o,none⟩)] w fun e w'=>e= .returned (.string ⟨#[]⟩)∧w.grownBy w' none:=by
 have hUS:=zeC
 have c1:w.drew.cell? ⟨b,o+1,none⟩=some (.slice none 0 0):=h1
 have hSD:(Builtin.unsafeSliceData_ #[166] 286 #[.slice none 0 0]).run Tryz.prog w.drew= .ok (.pointer none) w.drew:=rfl
 go_enter Tryz.func168,Tryz.ntmps168
 go_wp2
 go_region
 all_goals (go_wp2;go_ret;exact ⟨rfl,zeD w none⟩)
theorem zmJ (b o g cap:Nat) (w:World) (hc0:cap≠0) (h1:w.cell? ⟨b,o+1,none⟩=some (.slice (some ⟨g,0,none⟩) 0 cap)):
  Calls Tryz.prog 168 #[.pointer (some ⟨b,o,none⟩)] w fun e w'=>e= .returned (.string ⟨#[]⟩)∧w.grownBy w' (some g):=by
 have hUS:=zeC
 have c1:w.drew.cell? ⟨b,o+1,none⟩=some (.slice (some ⟨g,0,none⟩) 0 cap):=h1
 have hSD:(Builtin.unsafeSliceData_ #[166] 286 #[.slice (some ⟨g,0,none⟩) 0 cap]).run Tryz.prog w.drew= .ok (.pointer (some ⟨g,0,none⟩)) w.drew:=
  Lib.run_unsafeSliceData_row _ _ _ _ _ _ hc0
 clear hc0
 go_enter Tryz.func168,Tryz.ntmps168
 go_wp2
 go_region
 all_goals (go_wp2;go_ret;exact ⟨rfl,zeD w _⟩)
theorem zjR (b o g:Nat) (cur:Array Value) (w:World) (h1:w.cell? ⟨b,o+1,none⟩=some (.slice (some ⟨g,0,none⟩) 0 0)) (hg:w.heap[g]?=some (.cells cur 5 (0,0))):
  Calls Tryz.prog 168 #[.pointer (some ⟨b,o,none⟩)] w fun e w'=>e= .returned (.string ⟨#[]⟩)∧w.grownBy w' (some g):=by
 have hUS:=zeC
 have hlt:b<w.heap.size:=by
  rcases Nat.lt_or_ge b w.heap.size with h'|h'
  ·exact h'
  ·simp [World.cell?,Array.getElem?_eq_none h'] at h1
 have c1:w.drew.cell? ⟨b,o+1,none⟩=some (.slice (some ⟨g,0,none⟩) 0 0):=h1
 have hSD:(Builtin.unsafeSliceData_ #[166] 286 #[.slice (some ⟨g,0,none⟩) 0 0]).run Tryz.prog w.drew= .ok (.pointer (some ⟨w.drew.heap.size,0,none⟩)) (w.drew.alloc (.view ⟨g,0,none⟩ 5)):=
  Lib.run_unsafeSliceData_zero w.drew _ _ 5 Tryz.underlying286 ⟨g,0,none⟩ 0 (5,cur.size) (by have hg':w.drew.heap[g]?=some (.cells cur 5 (0,0)):=hg;simp [World.shape?,hg'])
 have c2:(w.drew.alloc (.view ⟨g,0,none⟩ 5)).cell? ⟨b,o+1,none⟩=some (.slice (some ⟨g,0,none⟩) 0 0):=by
  rw [← c1]
  simp only [World.cell?]
  rw [Lib.alloc_old w.drew _ b hlt]
 have c3:(w.alloc (.view ⟨g,0,none⟩ 5)).drew.cell? ⟨b,o+1,none⟩=some (.slice (some ⟨g,0,none⟩) 0 0):=c2
 go_enter Tryz.func168,Tryz.ntmps168
 go_wp2
 go_region
 all_goals (go_wp2;go_ret;exact ⟨rfl,⟨rfl,rfl,rfl,by simp,fun k hk _=>Lib.alloc_old w.drew _ k hk⟩⟩)
theorem zmK (b o g cap:Nat) (cur:Array Value) (l:List UInt8) (w:World) (h0:l≠ []) (h1:w.cell? ⟨b,o+1,none⟩=some (.slice (some ⟨g,0,none⟩) l.length cap))
  (hown:w.ownsRow 0 5 1 (.slice (some ⟨g,0,none⟩) l.length cap) l.length (Lib.byteCells l)):
  Calls Tryz.prog 168 #[.pointer (some ⟨b,o,none⟩)] w fun e w'=>e= .returned (.string ⟨l.toArray⟩)∧w.grownBy w' (some g):=by
 have hl0:l.length≠0:=by simpa using h0
 obtain ⟨cur,hg,hnc,hcm,hcs,htake⟩:∃cur,w.heap[g]?=some (.cells cur 5 (0,0))∧l.length≤cap∧cap≤maxLen∧cur.size=cap*1∧cur.toList.take (l.length*1)=Lib.byteCells l:=by
  rcases hown.2 with ⟨_,hz⟩|⟨g',cap',cur,hv,r0,r⟩
  ·exact absurd hz hl0
  ·cases hv
   exact ⟨cur,r⟩
 have c1:w.drew.cell? ⟨b,o+1,none⟩=some (.slice (some ⟨g,0,none⟩) l.length cap):=h1
 have hSD:(Builtin.unsafeSliceData_ #[166] 286 #[.slice (some ⟨g,0,none⟩) l.length cap]).run Tryz.prog w.drew= .ok (.pointer (some ⟨g,0,none⟩)) w.drew:=
  Lib.run_unsafeSliceData_row _ _ _ _ _ _ (by omega)
 have hUS:(Builtin.unsafeString_ #[286,3] 9 #[.pointer (some ⟨g,0,none⟩),.int .i64 l.length]).run Tryz.prog w.drew= .ok (.string ⟨l.toArray⟩) (w.drew.freeze ⟨g,0,none⟩ l.length):=by
  refine Lib.run_unsafeString_row w.drew 286 3 9 5 Tryz.underlying286 (by kernel_rfl) g cur.size (by have hg':w.drew.heap[g]?=some (.cells cur 5 (0,0)):=hg;simp [World.shape?,hg']) l h0 (by omega) (by unfold maxLen at hcm;omega) ?_
  intro j x hx
  have:=hown.cells (g:=g) rfl j (.int .u8 x.toNat) (by simp [Lib.byteCells,hx])
  exact this
 clear h0 hown
 go_enter Tryz.func168,Tryz.ntmps168
 go_wp2
 go_region
 all_goals (go_wp2;go_ret;exact ⟨rfl,zir w g _⟩)
theorem zk7 (b o:Nat) (w:World) (v:Value) (l:List UInt8) (h1:w.cell? ⟨b,o+1,none⟩=some v) (hown:w.ownsRow 0 5 1 v l.length (Lib.byteCells l)):
  Calls Tryz.prog 168 #[.pointer (some ⟨b,o,none⟩)] w fun e w'=>e= .returned (.string ⟨l.toArray⟩)∧w.grownBy w' v.ownBlock:=by
 rcases hown.2 with ⟨rfl,hz⟩|⟨g,cap,cur,rfl,_,hg,hnc,hcm,hcs,htake⟩
 ·have:l= []:=List.length_eq_zero_iff.1 hz
  subst this
  exact zpi b o w h1
 ·by_cases hl:l= []
  ·subst hl
   by_cases hc:cap=0
   ·subst hc
    exact zjR b o g cur w h1 hg
   ·exact zmJ b o g cap w hc h1
  ·exact zmK b o g cap cur l w hl h1 hown
end Go.Proofs.YtbmlikkofegdeaaGreatDoor
