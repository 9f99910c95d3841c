/-
  Parts of the proof: CrcA, CrcB, CrcE, CrcPB (short names; the readable texts lie in the repo, under wip).
-/
import Derived.Test.YtbmlikkofegdeaaGreatDoorPart18
import Derived.Test.YtbmlikkofegdeaaGreatDoorPart8
import Derived.Test.YtbmlikkofegdeaaGreatDoorPart9
import Derived.Test.YtbmlikkofegdeaaGreatDoorPart15
import Derived.Test.YtbmlikkofegdeaaGreatDoorPart17
set_option maxRecDepth 100000
set_option maxHeartbeats 2000000
set_option linter.unusedSimpArgs false
set_option linter.unusedVariables false
namespace Go.Aw
open Go Go.Proofs
def bitT (c:Int):Int:=ibits .xor .u32 (ishr .u32 c 1) (IntKind.u32.wrap (ibits .and .u32 c 1*2197175160))
def bitsT:Nat→Int→Int
 |0,c=>c
 |n+1,c=>bitT (bitsT n c)
def tabF (j:Nat):Int:=bitsT 8 (IntKind.u32.wrap j)
def tblF (i:Nat):List D:=(List.range 256).map fun j=>D.int .u32 (if j<i then tabF j else 0)
theorem zn0 (i:Nat):(tblF i).length=256:=by simp [tblF]
theorem zs6 (i:Nat) (hi:i<256):(tblF i).set i (.int .u32 (tabF i))=tblF (i+1):=by
 apply List.ext_getElem?
 intro j
 rw [List.getElem?_set]
 unfold tblF
 simp only [List.length_map,List.length_range,List.getElem?_map]
 by_cases hj:i=j
 ·subst hj
  simp [hi]
 ·rw [if_neg hj]
  by_cases hj2:j<256
  ·rw [List.getElem?_range hj2]
   simp only [Option.map_some,Option.some.injEq,D.int.injEq,true_and]
   by_cases h1:j<i
   ·rw [if_pos h1,if_pos (by omega)]
   ·rw [if_neg h1,if_neg (by omega)]
  ·simp [hj2]
theorem zde:∀ (l:List D),AV.leL (l.map AV.d) (l.map AV.d)
 | []=>by simp [AV.leL]
 |x::l=>by simp only [List.map_cons,AV.leL,AV.le,true_and];exact zde l
theorem zoR (x y z:D):ACall Tryz.prog 291 1 [.vp 0 0] [(0,.var (.d x:: .d y:: .d z::(tblF 0).map AV.d))] (fun r h'=>r= .tup []∧h'= [(0,.var (.d x:: .d y:: .d z::(tblF 256).map AV.d))]):=by
 refine zaI Tryz.func291 rfl (zcK Tryz.func291 (by kernel_rfl) rfl) Tryz.ntmps291 (by simp) (fun base=>?_)
 refine zg noTab (zb _) (fun K hK=>?_);simp only [go_sem,Nat.le_refl,List.append_toArray,List.range_zero,List.append_eq,Int.toNat_natCast,aeq,aeq.aeqF,simprocAttr]
 refine hK _ ?_;clear hK K
 refine zaV ?_
 refine zk (fun i: {i:Nat // i≤256} =>⟨[(0,true,.vp 0 0),(4,true,.d (.int .i64 i.1))],[(0,.var (.d x:: .d y:: .d z::(tblF i.1).map AV.d))],some []⟩) (fun i=>256 - i.1) ⟨0,by omega⟩ (by simp only [AS.le,leT,leH,zj,AsgK,AV.le,AV.leL,AObj.le,inH,idsT,idsH,AV.ids,AV.idsL,AV.idsR,AObj.ids,lk,hget,go_sem,Nat.le_refl,List.append_toArray,List.range_zero,List.append_eq,Int.toNat_natCast,aeq,aeq.aeqF,simprocAttr]<;>simp [zde,zca,inH]) (fun i=>?_)
 obtain ⟨i,hi⟩:=i
 refine zg noTab (zb _) (fun K hK=>?_);simp only [go_sem,Nat.le_refl,List.append_toArray,List.range_zero,List.append_eq,Int.toNat_natCast,aeq,aeq.aeqF,simprocAttr]
 refine hK _ ?_;clear hK K
 refine zaD (fun K hK=>?_)
 refine za5 rfl (fun hc=>?_) (fun hc=>?_)
 ·refine zdS ?_;simp only [go_sem,Nat.le_refl,List.append_toArray,List.range_zero,List.append_eq,Int.toNat_natCast,aeq,aeq.aeqF,simprocAttr];refine hK _ ?_;clear hK K
  have hil:i<256:=by simp at hc;omega
  refine zaD (fun K hK=>?_)
  refine zaV ?_
  refine zg noTab (zb _) (fun K hK=>?_);simp only [go_sem,Nat.le_refl,List.append_toArray,List.range_zero,List.append_eq,Int.toNat_natCast,aeq,aeq.aeqF,simprocAttr]
  refine hK _ ?_;clear hK K
  refine zg noTab (zb _) (fun K hK=>?_);simp only [go_sem,Nat.le_refl,List.append_toArray,List.range_zero,List.append_eq,Int.toNat_natCast,aeq,aeq.aeqF,simprocAttr]
  refine hK _ ?_;clear hK K
  refine zaD (fun K2 hK2=>?_)
  refine zg noTab (zb _) (fun K hK=>?_);simp only [go_sem,Nat.le_refl,List.append_toArray,List.range_zero,List.append_eq,Int.toNat_natCast,aeq,aeq.aeqF,simprocAttr]
  refine hK _ ?_;clear hK K
  refine zaV ?_
  refine zk (fun k: {k:Nat // k≤8} =>⟨[(0,true,.vp 0 0),(4,true,.d (.int .i64 i)),(2,true,.d (.int .i64 i)),(3,true,.d (.int .u32 (bitsT k.1 (IntKind.u32.wrap i)))),(9,true,.d (.int .i64 k.1))],[(0,.var (.d x:: .d y:: .d z::(tblF i).map AV.d))],some []⟩) (fun k=>8 - k.1) ⟨0,by omega⟩ (by simp only [AS.le,leT,leH,zj,AsgK,AV.le,AV.leL,AObj.le,inH,idsT,idsH,AV.ids,AV.idsL,AV.idsR,AObj.ids,lk,hget,go_sem,Nat.le_refl,List.append_toArray,List.range_zero,List.append_eq,Int.toNat_natCast,aeq,aeq.aeqF,simprocAttr]<;>simp [zde,zca,inH,bitsT]) (fun k=>?_)
  obtain ⟨k,hk⟩:=k
  refine zg noTab (zb _) (fun K hK=>?_);simp only [go_sem,Nat.le_refl,List.append_toArray,List.range_zero,List.append_eq,Int.toNat_natCast,aeq,aeq.aeqF,simprocAttr]
  refine hK _ ?_;clear hK K
  refine zaD (fun K3 hK3=>?_)
  refine za5 rfl (fun hc=>?_) (fun hc=>?_)
  ·refine zdS ?_;simp only [go_sem,Nat.le_refl,List.append_toArray,List.range_zero,List.append_eq,Int.toNat_natCast,aeq,aeq.aeqF,simprocAttr];refine hK3 _ ?_;clear hK3 K3
   have hkl:k<8:=by simp at hc;omega
   refine zaD (fun K hK=>?_)
   refine zaV ?_
   refine zao noTab (zb _) ?_;simp only [go_sem,Nat.le_refl,List.append_toArray,List.range_zero,List.append_eq,Int.toNat_natCast,aeq,aeq.aeqF,simprocAttr]
   refine hK _ ?_;clear hK K
   refine zao noTab (zb _) ?_;simp only [go_sem,Nat.le_refl,List.append_toArray,List.range_zero,List.append_eq,Int.toNat_natCast,aeq,aeq.aeqF,simprocAttr]
   have hw:IntKind.i64.wrap ((k:Int)+1)=((k+1:Nat):Int):=by rw [IntKind.wrap_i64];omega
   refine ⟨⟨k+1,by omega⟩,?_,by simp;omega⟩
   rw [hw]
   simp only [AS.le,leT,leH,zj,AsgK,AV.le,AV.leL,AObj.le,inH,idsT,idsH,AV.ids,AV.idsL,AV.idsR,AObj.ids,lk,hget,go_sem,Nat.le_refl,List.append_toArray,List.range_zero,List.append_eq,Int.toNat_natCast,aeq,aeq.aeqF,simprocAttr]
   simp [zde,zca,inH,bitsT,bitT]
  ·refine zdT ?_;simp only [go_sem,Nat.le_refl,List.append_toArray,List.range_zero,List.append_eq,Int.toNat_natCast,aeq,aeq.aeqF,simprocAttr];refine hK2 _ ?_
   have hk8:k=8:=by simp at hc;omega
   subst hk8
   refine zao noTab (zb _) ?_;simp only [go_sem,Nat.le_refl,List.append_toArray,List.range_zero,List.append_eq,Int.toNat_natCast,aeq,aeq.aeqF,simprocAttr]
   refine ⟨⟨by omega,by omega⟩,by simp [zn0];omega,?_⟩
   have hset:(AV.d x::AV.d y::AV.d z::(tblF i).map AV.d).set (3+i*1) (.d (.int .u32 (bitsT 8 (IntKind.u32.wrap i))))=AV.d x::AV.d y::AV.d z::(tblF (i+1)).map AV.d:=by
    rw [show 3+i*1=i+1+1+1 by omega,List.set_cons_succ,List.set_cons_succ,List.set_cons_succ,← List.map_set]
    have:=zs6 i hil
    unfold tabF at this
    rw [this]
   rw [hset]
   refine hK _ ?_
   refine zao noTab (zb _) ?_;simp only [go_sem,Nat.le_refl,List.append_toArray,List.range_zero,List.append_eq,Int.toNat_natCast,aeq,aeq.aeqF,simprocAttr]
   have hw:IntKind.i64.wrap ((i:Int)+1)=((i+1:Nat):Int):=by rw [IntKind.wrap_i64];omega
   refine ⟨⟨i+1,by omega⟩,?_,by simp;omega⟩
   rw [hw]
   simp only [AS.le,leT,leH,zj,AsgK,AV.le,AV.leL,AObj.le,inH,idsT,idsH,AV.ids,AV.idsL,AV.idsR,AObj.ids,lk,hget,go_sem,Nat.le_refl,List.append_toArray,List.range_zero,List.append_eq,Int.toNat_natCast,aeq,aeq.aeqF,simprocAttr]
   simp [zde,zca,inH]
 ·refine zdT ?_
  simp only [go_sem,Nat.le_refl,List.append_toArray,List.range_zero,List.append_eq,Int.toNat_natCast,aeq,aeq.aeqF,simprocAttr,Tryz.results291]
  have:i=256:=by simp at hc;omega
  subst this
  rfl
open Go Go.Proofs
def byteS (c:Int) (b:UInt8):Int:=ibits .xor .u32 (tabF (ibits .xor .u8 (IntKind.u8.wrap c) b.toNat).toNat) (ishr .u32 c 8)
def sumS (c:Int) (l:List UInt8):Int:=l.foldl byteS c
def notS (c:Int):Int:=ibits .xor .u32 (if IntKind.u32.signed then -1 else IntKind.u32.max) c
def onceC (d m z:D) (i:Nat):List AV:= .d d:: .d m:: .d z::(tblF i).map AV.d
theorem do_ok:ACallAt Tryz.prog 1 290 [.vp 0 0,.fn (.func 291) [.vp 0 0] []] [(0,.var (onceC (.int .u32 0) (.int .i32 0) (.int .u32 0) 0))] (fun r h'=>r= .tup []∧h'= [(0,.var (onceC (.int .u32 1) (.int .i32 0) (.int .u32 0) 256))]):=by
 refine zuW (cs:=onceC (.int .u32 0) (.int .i32 0) (.int .u32 0) 0) (cs2:=onceC (.int .u32 0) (.int .i32 1) (.int .u32 0) 256) rfl rfl rfl rfl rfl ?_
 refine (zoR _ _ _).whole (fun i hi=>?_) (Nat.le_refl _) ?_
 ·by_cases h:i=0
  ·omega
  ·simp [hget,Ne.symm h] at hi
 ·rintro r h' ⟨rfl,rfl⟩ i hi
  by_cases h:i=0
  ·subst h;rfl
  ·simp [hget,Ne.symm h] at hi
theorem zuX (n:Int) (h0:0≤n) (h1:n<256) (d m z:D):(onceC d m z 256).getD (3+n.toNat*1) .any= .d (.int .u32 (tabF n.toNat)):=by
 have:n.toNat<256:=by omega
 unfold onceC
 rw [show 3+n.toNat*1=n.toNat+1+1+1 by omega]
 simp only [List.getD_cons_succ]
 rw [List.getD_eq_getElem?_getD,List.getElem?_map]
 unfold tblF
 rw [List.getElem?_map,List.getElem?_range this]
 simp [this]
theorem zuY (x y:Int):0≤ibits .xor .u8 x y∧ibits .xor .u8 x y<256:=by
 unfold ibits
 rw [IntKind.wrap_u8]
 omega
abbrev Mst (c:Int) (l:List UInt8):= { i:Nat // i≤l.length }
theorem zuZ (c:Int) (l:List UInt8) (hl:l.length≤9223372036854775807):ACall Tryz.prog 269 1 [.vp 0 0,.d (.int .u32 c),.d (.str l)] [(0,.var (onceC (.int .u32 0) (.int .i32 0) (.int .u32 0) 0))] (fun r h'=>r= .d (.int .u32 (sumS c l))∧(hget h' 0).isSome):=by
 refine zaI Tryz.func269 rfl (zcK Tryz.func269 (by kernel_rfl) rfl) Tryz.ntmps269 (by simp) (fun base=>?_)
 refine zg noTab (zb _) (fun K hK=>?_);simp only [go_sem,Nat.le_refl,List.append_toArray,List.range_zero,List.append_eq,Int.toNat_natCast,aeq,aeq.aeqF,simprocAttr]
 refine hK _ ?_;clear hK K
 refine zg noTab (zb _) (fun K hK=>?_);simp only [go_sem,Nat.le_refl,List.append_toArray,List.range_zero,List.append_eq,Int.toNat_natCast,aeq,aeq.aeqF,simprocAttr]
 refine do_ok.mono ?_
 rintro r h' ⟨rfl,rfl⟩
 refine hK _ ?_;clear hK K
 refine zaD (fun K2 hK2=>?_)
 refine zg noTab (zb _) (fun K hK=>?_);simp only [go_sem,Nat.le_refl,List.append_toArray,List.range_zero,List.append_eq,Int.toNat_natCast,aeq,aeq.aeqF,simprocAttr]
 refine ⟨by simp [zh],hK _ ?_⟩
 clear hK
 refine zaV ?_
 refine zk (fun i:Mst c l=>⟨[(0,true,.vp 0 0),(1,true,.d (.int .u32 (sumS c (l.take i.1)))),(16,true,.osl 1 1 l.length 0 l.length),(17,true,.d (.int .i64 l.length)),(18,true,.d (.int .i64 i.1))],[(1,.arr 1 (zh l)),(0,.var (onceC (.int .u32 1) (.int .i32 0) (.int .u32 0) 256))],some []⟩) (fun i=>l.length - i.1) ⟨0,Nat.zero_le _⟩ (by simp only [AS.le,leT,leH,zj,AsgK,AV.le,AV.leL,AObj.le,inH,idsT,idsH,AV.ids,AV.idsL,AV.idsR,AObj.ids,lk,hget,go_sem,Nat.le_refl,List.append_toArray,List.range_zero,List.append_eq,Int.toNat_natCast,aeq,aeq.aeqF,simprocAttr]<;>simp [onceC,zde,zca,inH,sumS,AV.leL,AV.le,AV.idsL,AV.ids]) (fun i=>?_)
 obtain ⟨i,hi⟩:=i
 refine zg noTab (zb _) (fun K hK=>?_);simp only [go_sem,Nat.le_refl,List.append_toArray,List.range_zero,List.append_eq,Int.toNat_natCast,aeq,aeq.aeqF,simprocAttr]
 refine hK _ ?_;clear hK K
 refine zaD (fun K3 hK3=>?_)
 refine za5 rfl (fun hc=>?_) (fun hc=>?_)
 ·refine zdS ?_;simp only [go_sem,Nat.le_refl,List.append_toArray,List.range_zero,List.append_eq,Int.toNat_natCast,aeq,aeq.aeqF,simprocAttr];refine hK3 _ ?_;clear hK3 K3
  have hil:i<l.length:=by simp at hc;omega
  obtain ⟨b,hb⟩:∃b,l[i]?=some b:=⟨l[i],by simp [hil]⟩
  have hrow:(zh l).getD i []= [.int .u8 b.toNat]:=by simp [zh,List.getD_eq_getElem?_getD,hb,zer]
  have hrl:(zh l).length=l.length:=by simp [zh]
  refine zaD (fun K4 hK4=>?_)
  refine zaV ?_
  refine zg noTab (zb _) (fun K hK=>?_);simp only [go_sem,Nat.le_refl,List.append_toArray,List.range_zero,List.append_eq,Int.toNat_natCast,aeq,aeq.aeqF,simprocAttr,hrow,hrl,Nat.zero_add]
  refine ⟨⟨by omega,by omega⟩,hil,hK _ ?_⟩
  clear hK
  obtain ⟨hb0,hb1⟩:=zuY (IntKind.u8.wrap (sumS c (l.take i))) b.toNat
  have htb:=zuX (ibits .xor .u8 (IntKind.u8.wrap (sumS c (l.take i))) b.toNat) hb0 hb1 (.int .u32 1) (.int .i32 0) (.int .u32 0)
  have hoc:(onceC (.int .u32 1) (.int .i32 0) (.int .u32 0) 256).length=259:=by simp [onceC,zn0]
  refine zao noTab (zb _) ?_;simp only [go_sem,Nat.le_refl,List.append_toArray,List.range_zero,List.append_eq,Int.toNat_natCast,aeq,aeq.aeqF,simprocAttr,htb,hoc]
  refine ⟨⟨hb0,hb1⟩,by omega,hK4 _ ?_⟩
  clear hK4
  refine zao noTab (zb _) ?_;simp only [go_sem,Nat.le_refl,List.append_toArray,List.range_zero,List.append_eq,Int.toNat_natCast,aeq,aeq.aeqF,simprocAttr]
  have hw:IntKind.i64.wrap ((i:Int)+1)=((i+1:Nat):Int):=by rw [IntKind.wrap_i64];omega
  have hs:ibits .xor .u32 (tabF (ibits .xor .u8 (IntKind.u8.wrap (sumS c (l.take i))) b.toNat).toNat) (ishr .u32 (sumS c (l.take i)) 8)=sumS c (l.take (i+1)):=by
   rw [List.take_add_one,hb]
   simp [sumS,byteS]
  refine ⟨⟨i+1,by omega⟩,?_,by simp;omega⟩
  rw [hw,hs]
  simp only [AS.le,leT,leH,zj,AsgK,AV.le,AV.leL,AObj.le,inH,idsT,idsH,AV.ids,AV.idsL,AV.idsR,AObj.ids,lk,hget,go_sem,Nat.le_refl,List.append_toArray,List.range_zero,List.append_eq,Int.toNat_natCast,aeq,aeq.aeqF,simprocAttr]
  simp [onceC,zde,zca,inH,AV.leL,AV.le,AV.idsL,AV.ids]
 ·refine zdT ?_;simp only [go_sem,Nat.le_refl,List.append_toArray,List.range_zero,List.append_eq,Int.toNat_natCast,aeq,aeq.aeqF,simprocAttr];refine hK2 _ ?_
  have hil:i=l.length:=by simp at hc;omega
  subst hil
  refine zg noTab (zb _) (fun K hK=>?_);simp only [go_sem,Nat.le_refl,List.append_toArray,List.range_zero,List.append_eq,Int.toNat_natCast,aeq,aeq.aeqF,simprocAttr]
  refine hK _ ?_;clear hK K
  refine ze4 ?_;simp only [go_sem,Nat.le_refl,List.append_toArray,List.range_zero,List.append_eq,Int.toNat_natCast,aeq,aeq.aeqF,simprocAttr,Tryz.results269]
theorem ziR (c:Int) (l:List UInt8) (hl:l.length≤9223372036854775807):ACall Tryz.prog 229 0 [.d (.int .u32 c),.d (.str l)] [] (fun r _=>r= .d (.int .u32 (notS (sumS (notS c) l)))):=by
 refine zaI Tryz.func229 rfl (zcK Tryz.func229 (by kernel_rfl) rfl) Tryz.ntmps229 (by simp) (fun base=>?_)
 refine zg noTab (zb _) (fun K hK=>?_);simp only [go_sem,Nat.le_refl,List.append_toArray,List.range_zero,List.append_eq,Int.toNat_natCast,aeq,aeq.aeqF,simprocAttr]
 refine hK _ ?_;clear hK K
 refine zg noTab (zb _) (fun K hK=>?_);simp only [go_sem,Nat.le_refl,List.append_toArray,List.range_zero,List.append_eq,Int.toNat_natCast,aeq,aeq.aeqF,simprocAttr]
 refine hK _ ?_;clear hK K
 refine zg noTab (zb _) (fun K hK=>?_);simp only [go_sem,Nat.le_refl,List.append_toArray,List.range_zero,List.append_eq,Int.toNat_natCast,aeq,aeq.aeqF,simprocAttr]
 refine ACallAt.mono (h:= [(0,.var (onceC (.int .u32 0) (.int .i32 0) (.int .u32 0) 0))]) (K:=fun r h'=>r= .d (.int .u32 (sumS (notS c) l))∧(hget h' 0).isSome) ((zuZ (notS c) l hl).whole (fun i hi=>?_) (Nat.zero_le _) ?_) ?_
 ·by_cases h:i=0
  ·omega
  ·simp [hget,Ne.symm h] at hi
 ·rintro r h' ⟨rfl,hk⟩ i hi
  by_cases h:i=0
  ·subst h;exact hk
  ·simp [hget,Ne.symm h] at hi
 rintro r h' ⟨rfl,hk⟩
 simp only [go_sem,Nat.le_refl,List.append_toArray,List.range_zero,List.append_eq,Int.toNat_natCast,aeq,aeq.aeqF,simprocAttr]
 refine hK _ ?_;clear hK K
 refine ze4 ?_;simp only [go_sem,Nat.le_refl,List.append_toArray,List.range_zero,List.append_eq,Int.toNat_natCast,aeq,aeq.aeqF,simprocAttr,Tryz.results229]
 rfl
def sumOf (c:Int) (l:List UInt8):Int:=notS (sumS (notS c) l)
def tabM:Tab:=fun f args=>
 if f=229 then (match args with
  | [.d (.int .u32 c),.d (.str l)]=>some (l.length≤9223372036854775807,.d (.int .u32 (sumOf c l)))
  |_=>none)
 else none
@[go_sem] theorem tabM30 (c:Int) (l:List UInt8):tabM 229 [.d (.int .u32 c),.d (.str l)]=some (l.length≤9223372036854775807,.d (.int .u32 (sumOf c l))):=rfl
theorem zu0:TabOk Tryz.prog tabM:=⟨fun f args pre r h hp=>by
 unfold tabM at h
 split at h
 ·rename_i hf;subst hf
  split at h
  ·cases h;exact ⟨rfl,ziR _ _ hp⟩
  ·cases h
 ·cases h⟩
theorem zs8 (l:List UInt8) (hl:l.length≤9223372036854775807):ACall Tryz.prog 178 0 [.d (.str l)] [] (fun r _=>r= .d (.int .u32 (sumOf 0 l))):=by
 refine zaI Tryz.func178 rfl (zcK Tryz.func178 (by kernel_rfl) rfl) Tryz.ntmps178 (by simp) (fun base=>?_)
 refine zg noTab (zb _) (fun K hK=>?_);simp only [go_sem,Nat.le_refl,List.append_toArray,List.range_zero,List.append_eq,Int.toNat_natCast,aeq,aeq.aeqF,simprocAttr]
 refine hK _ ?_;clear hK K
 refine zg tabM zu0 (fun K hK=>?_);simp only [go_sem,Nat.le_refl,List.append_toArray,List.range_zero,List.append_eq,Int.toNat_natCast,aeq,aeq.aeqF,simprocAttr]
 refine ⟨hl,hK _ ?_⟩
 clear hK K
 refine ze4 ?_;simp only [go_sem,Nat.le_refl,List.append_toArray,List.range_zero,List.append_eq,Int.toNat_natCast,aeq,aeq.aeqF,simprocAttr,Tryz.results178]
def zb3 (c:Int) (j:Nat):Int:=IntKind.u8.wrap (ishr .u32 c (IntKind.i64.wrap (24 - IntKind.i64.wrap (8*(j:Int)))))
def bcell (c:Int) (i j:Nat):AV:= .d (.int .u8 (if j<i then zb3 c j else 0))
def zhK (c:Int) (i:Nat):List AV:= [bcell c i 0,bcell c i 1,bcell c i 2,bcell c i 3]
def zen (c:Int):List UInt8:= [UInt8.ofNat (zb3 c 0).toNat,UInt8.ofNat (zb3 c 1).toNat,UInt8.ofNat (zb3 c 2).toNat,UInt8.ofNat (zb3 c 3).toNat]
theorem zmm (c:Int):ACall Tryz.prog 177 0 [.d (.int .u32 c)] [] (fun r _=>r= .d (.str (zen c))):=by
 refine zaI Tryz.func177 rfl (zcK Tryz.func177 (by kernel_rfl) rfl) Tryz.ntmps177 (by simp) (fun base=>?_)
 refine zg noTab (zb _) (fun K hK=>?_);simp only [go_sem,Nat.le_refl,List.append_toArray,List.range_zero,List.append_eq,Int.toNat_natCast,aeq,aeq.aeqF,simprocAttr]
 refine hK _ ?_;clear hK K
 refine zg noTab (zb _) (fun K hK=>?_);simp only [go_sem,Nat.le_refl,List.append_toArray,List.range_zero,List.append_eq,Int.toNat_natCast,aeq,aeq.aeqF,simprocAttr]
 refine hK _ ?_;clear hK K
 refine zaD (fun K2 hK2=>?_)
 refine zg noTab (zb _) (fun K hK=>?_);simp only [go_sem,Nat.le_refl,List.append_toArray,List.range_zero,List.append_eq,Int.toNat_natCast,aeq,aeq.aeqF,simprocAttr]
 refine hK _ ?_;clear hK K
 refine zaV ?_
 refine zk (fun i: {i:Nat // i≤4} =>⟨[(0,true,.d (.int .u32 c)),(3,true,.vp 0 0),(5,true,.d (.int .i64 i.1))],[(0,.var (zhK c i.1))],some []⟩) (fun i=>4 - i.1) ⟨0,by omega⟩ (by simp only [AS.le,leT,leH,zj,AsgK,AV.le,AV.leL,AObj.le,inH,idsT,idsH,AV.ids,AV.idsL,AV.idsR,AObj.ids,lk,hget,go_sem,Nat.le_refl,List.append_toArray,List.range_zero,List.append_eq,Int.toNat_natCast,aeq,aeq.aeqF,simprocAttr]<;>simp [zhK,bcell,AV.leL,AV.le,AV.idsL,AV.ids,inH]) (fun i=>?_)
 obtain ⟨i,hi⟩:=i
 refine zg noTab (zb _) (fun K hK=>?_);simp only [go_sem,Nat.le_refl,List.append_toArray,List.range_zero,List.append_eq,Int.toNat_natCast,aeq,aeq.aeqF,simprocAttr]
 refine hK _ ?_;clear hK K
 refine zaD (fun K3 hK3=>?_)
 refine za5 rfl (fun hc=>?_) (fun hc=>?_)
 ·refine zdS ?_;simp only [go_sem,Nat.le_refl,List.append_toArray,List.range_zero,List.append_eq,Int.toNat_natCast,aeq,aeq.aeqF,simprocAttr];refine hK3 _ ?_;clear hK3 K3
  have hil:i<4:=by simp at hc;omega
  refine zaD (fun K4 hK4=>?_)
  refine zaV ?_
  refine zg noTab (zb _) (fun K hK=>?_);simp only [go_sem,Nat.le_refl,List.append_toArray,List.range_zero,List.append_eq,Int.toNat_natCast,aeq,aeq.aeqF,simprocAttr]
  refine hK _ ?_;clear hK K
  refine zao noTab (zb _) ?_;simp only [go_sem,Nat.le_refl,List.append_toArray,List.range_zero,List.append_eq,Int.toNat_natCast,aeq,aeq.aeqF,simprocAttr]
  have hset:(zhK c i).set (i*1) (.d (.int .u8 (zb3 c i)))=zhK c (i+1):=by
   have:i=0∨i=1∨i=2∨i=3:=by omega
   rcases this with rfl|rfl|rfl|rfl<;>rfl
  unfold zb3 at hset
  rw [hset]
  refine ⟨by simp only [IntKind.wrap_i64];omega,⟨by omega,by omega⟩,by simp [zhK];omega,hK4 _ ?_⟩
  refine zao noTab (zb _) ?_;simp only [go_sem,Nat.le_refl,List.append_toArray,List.range_zero,List.append_eq,Int.toNat_natCast,aeq,aeq.aeqF,simprocAttr]
  have hw:IntKind.i64.wrap ((i:Int)+1)=((i+1:Nat):Int):=by rw [IntKind.wrap_i64];omega
  refine ⟨⟨i+1,by omega⟩,?_,by simp;omega⟩
  rw [hw]
  simp only [AS.le,leT,leH,zj,AsgK,AV.le,AV.leL,AObj.le,inH,idsT,idsH,AV.ids,AV.idsL,AV.idsR,AObj.ids,lk,hget,go_sem,Nat.le_refl,List.append_toArray,List.range_zero,List.append_eq,Int.toNat_natCast,aeq,aeq.aeqF,simprocAttr]
  simp [zhK,bcell,AV.leL,AV.le,AV.idsL,AV.ids,inH]
 ·refine zdT ?_;simp only [go_sem,Nat.le_refl,List.append_toArray,List.range_zero,List.append_eq,Int.toNat_natCast,aeq,aeq.aeqF,simprocAttr];refine hK2 _ ?_
  have hil:i=4:=by simp at hc;omega
  subst hil
  have hb4:zhK c 4= [.d (.int .u8 (zb3 c 0)),.d (.int .u8 (zb3 c 1)),.d (.int .u8 (zb3 c 2)),.d (.int .u8 (zb3 c 3))]:=rfl
  rw [hb4]
  refine zg noTab (zb _) (fun K hK=>?_);simp only [go_sem,Nat.le_refl,List.append_toArray,List.range_zero,List.append_eq,Int.toNat_natCast,aeq,aeq.aeqF,simprocAttr]
  refine ⟨rfl,hK _ ?_⟩
  clear hK
  refine ze4 ?_;simp only [go_sem,Nat.le_refl,List.append_toArray,List.range_zero,List.append_eq,Int.toNat_natCast,aeq,aeq.aeqF,simprocAttr,Tryz.results177]
  rfl
open Go Go.Proofs
@[go_sem] noncomputable def zey:Ent Tryz.prog 229:= .ofL (consL (intT .u32) (consL strT nilL)) (fun (c,l,_)=>l.length≤9223372036854775807) (fun (c,l,_)=> .d (.int .u32 (notS (sumS (notS c) l)))) (fun (c,l,_) hp=>⟨rfl,ziR c l hp⟩)
@[go_sem] noncomputable def zcV:Ent Tryz.prog 178:= .ofL (consL strT nilL) (fun (l,_)=>l.length≤9223372036854775807) (fun (l,_)=> .d (.int .u32 (sumOf 0 l))) (fun (l,_) hp=>⟨rfl,zs8 l hp⟩)
@[go_sem] noncomputable def zbw:Ent Tryz.prog 177:= .ofL (consL (intT .u32) nilL) (fun (c,_)=>True) (fun (c,_)=> .d (.str (zen c))) (fun (c,_) hp=>⟨rfl,zmm c⟩)
open Go Go.Proofs
theorem zta (n k:Nat) (hk:k≤32):ishr .u32 (n:Int) (k:Int)=((n / 2 ^ k:Nat):Int):=by
 unfold ishr
 rw [show min ((k:Int).toNat) IntKind.u32.bits=k by show min ((k:Int).toNat) 32=k;omega]
 rw [Int.fdiv_eq_ediv_of_nonneg _ (Int.le_of_lt (Int.pow_pos (by decide)))]
 norm_cast
abbrev B32:=BitVec 32
def polyB:B32:=2197175160#32
def bT (x:B32):B32:=(x>>>1) ^^^ (if x.getLsbD 0 then polyB else 0#32)
def bN:Nat→B32→B32
 |0,x=>x
 |n+1,x=>bT (bN n x)
def u8B (b:UInt8):B32:=BitVec.ofNat 32 b.toNat
def stepB (c:B32) (b:UInt8):B32:=bN 8 (c ^^^ u8B b)
def sumB (c:B32) (l:List UInt8):B32:=l.foldl stepB c
theorem xor4 (a b c d:B32):(a ^^^ b) ^^^ (c ^^^ d)=(a ^^^ c) ^^^ (b ^^^ d):=by ac_rfl
theorem zv8 (x y:B32):bT (x ^^^ y)=bT x ^^^ bT y:=by
 unfold bT
 rw [BitVec.ushiftRight_xor_distrib,xor4 (x>>>1)]
 congr 1
 rw [BitVec.getLsbD_xor]
 cases x.getLsbD 0<;>cases y.getLsbD 0<;>simp
theorem ziS (n:Nat) (x y:B32):bN n (x ^^^ y)=bN n x ^^^ bN n y:=by
 induction n with
 |zero=>rfl
 |succ n ih=>simp only [bN,ih,zv8]
theorem zv9 (x:B32):(bT x).getLsbD 31=x.getLsbD 0:=by
 unfold bT
 rw [BitVec.getLsbD_xor]
 have h1:(x>>>1).getLsbD 31=false:=by simp
 rw [h1]
 cases x.getLsbD 0<;>simp<;>decide
theorem zu1 (x:B32) (h:bT x=0#32):x=0#32:=by
 have h0:x.getLsbD 0=false:=by rw [← zv9,h];simp
 unfold bT at h
 rw [h0] at h
 simp only [Bool.false_eq_true,if_false,BitVec.xor_zero] at h
 apply BitVec.eq_of_getLsbD_eq
 intro i hi
 cases i with
 |zero=>simpa using h0
 |succ i=>
  have:=congrArg (fun y:B32=>y.getLsbD i) h
  simpa [Nat.add_comm] using this
theorem zqW (n:Nat) (x:B32) (h:bN n x=0#32):x=0#32:=by
 induction n with
 |zero=>exact h
 |succ n ih=>exact ih (zu1 _ h)
theorem zkX (m n:Nat) (x:B32):bN (m+n) x=bN m (bN n x):=by
 induction m with
 |zero=>rw [Nat.zero_add];rfl
 |succ m ih=>rw [Nat.succ_add];simp only [bN,ih]
theorem zn2 (n:Nat):∀ (x:B32),(∀i,i<n→x.getLsbD i=false)→bN n x=x>>>n:=by
 induction n with
 |zero=>intro x _;simp [bN]
 |succ n ih=>
  intro x h
  simp only [bN]
  rw [ih x (fun i hi=>h i (by omega))]
  unfold bT
  have:(x>>>n).getLsbD 0=false:=by simpa using h n (by omega)
  rw [this]
  simp only [Bool.false_eq_true,if_false,BitVec.xor_zero]
  rw [← BitVec.shiftRight_add]
def low8 (x:B32):B32:=x&&& 255#32
def high8 (x:B32):B32:=x&&& 4294967040#32
theorem ztb (x:B32):x=low8 x ^^^ high8 x:=by
 have e:(4294967040#32)= ~~~(255#32):=by decide
 unfold low8 high8
 rw [e]
 apply BitVec.eq_of_getLsbD_eq
 intro i hi
 simp only [BitVec.getLsbD_xor,BitVec.getLsbD_and,BitVec.getLsbD_not,hi,decide_true,Bool.true_and]
 cases x.getLsbD i<;>cases (255#32).getLsbD i<;>rfl
theorem zqX (x:B32) (i:Nat) (hi:i<8):(high8 x).getLsbD i=false:=by
 unfold high8
 rw [BitVec.getLsbD_and]
 have:∀i,i<8→(4294967040#32).getLsbD i=false:=by decide
 rw [this i hi,Bool.and_false]
theorem zmo (x:B32):high8 x>>>8=x>>>8:=by
 unfold high8
 apply BitVec.eq_of_getLsbD_eq
 intro i hi
 simp only [BitVec.getLsbD_ushiftRight,BitVec.getLsbD_and]
 by_cases h:8+i<32
 ·have:∀i,i<24→(4294967040#32).getLsbD (8+i)=true:=by decide
  rw [this i (by omega),Bool.and_true]
 ·rw [BitVec.getLsbD_of_ge x _ (by omega),Bool.false_and]
theorem zqY (x:B32):bN 8 x=bN 8 (low8 x) ^^^ (x>>>8):=by
 conv=>lhs;rw [ztb x]
 rw [ziS,zn2 8 (high8 x) (zqX x),zmo]
theorem ztc (b:UInt8):u8B b>>>8=0#32:=by
 have:=b.toNat_lt
 apply BitVec.eq_of_toNat_eq
 simp [u8B,Nat.shiftRight_eq_div_pow]
 omega
theorem zu2 (b:UInt8):low8 (u8B b)=u8B b:=by
 have:=b.toNat_lt
 apply BitVec.eq_of_toNat_eq
 simp only [low8,u8B,BitVec.toNat_and,BitVec.toNat_ofNat]
 rw [show 255 % 2 ^ 32=2 ^ 8 - 1 by decide,Nat.and_two_pow_sub_one_eq_mod]
 omega
theorem zqZ (c:B32) (b:UInt8):stepB c b=bN 8 (low8 c ^^^ u8B b) ^^^ (c>>>8):=by
 unfold stepB
 rw [zqY]
 have h1:low8 (c ^^^ u8B b)=low8 c ^^^ u8B b:=by
  conv=>rhs;rw [← zu2 b]
  unfold low8
  apply BitVec.eq_of_getLsbD_eq
  intro i hi
  simp only [BitVec.getLsbD_xor,BitVec.getLsbD_and]
  cases c.getLsbD i<;>cases (u8B b).getLsbD i<;>cases (255#32).getLsbD i<;>rfl
 rw [h1,BitVec.ushiftRight_xor_distrib,ztc,BitVec.xor_zero]
theorem zu3 (a b:UInt8):u8B (a ^^^ b)=u8B a ^^^ u8B b:=by
 apply BitVec.eq_of_toNat_eq
 have:=a.toNat_lt
 have:=b.toNat_lt
 have h:=Nat.xor_lt_two_pow (n:=32) (x:=a.toNat) (y:=b.toNat) (by omega) (by omega)
 simp only [u8B,BitVec.toNat_xor,BitVec.toNat_ofNat,UInt8.toNat_xor]
 rw [Nat.mod_eq_of_lt (by omega),Nat.mod_eq_of_lt (by omega),Nat.mod_eq_of_lt (by omega)]
def xorL (a b:List UInt8):List UInt8:=List.zipWith (· ^^^ ·) a b
theorem zq0 (c d:B32) (a b:UInt8):stepB (c ^^^ d) (a ^^^ b)=stepB c a ^^^ stepB d b:=by
 unfold stepB
 rw [zu3,xor4,ziS]
theorem zjD:∀ (a b:List UInt8) (c d:B32),a.length=b.length→sumB (c ^^^ d) (xorL a b)=sumB c a ^^^ sumB d b
 | [],[],c,d,_=>rfl
 |x::a,y::b,c,d,h=>by
  simp only [xorL,List.zipWith_cons_cons,sumB,List.foldl_cons]
  rw [zq0]
  exact zjD a b _ _ (by simpa using h)
 | [],_::_,_,_,h=>by simp at h
 |_::_,[],_,_,h=>by simp at h
theorem zdf (c:B32) (a b:List UInt8):sumB c (a++b)=sumB (sumB c a) b:=by simp [sumB,List.foldl_append]
theorem zoU (n:Nat) (c:B32):sumB c (List.replicate n 0)=bN (8*n) c:=by
 induction n generalizing c with
 |zero=>rfl
 |succ n ih=>
  rw [List.replicate_succ]
  simp only [sumB,List.foldl_cons]
  have:stepB c 0=bN 8 c:=by simp [stepB,u8B]
  rw [this]
  have:=ih (bN 8 c)
  unfold sumB at this
  rw [this,← zkX,Nat.mul_succ]
theorem sum4 (p q r s:UInt8):sumB 0#32 [p,q,r,s]=bN 32 (u8B p ^^^ (u8B q<<<8) ^^^ (u8B r<<<16) ^^^ (u8B s<<<24)):=by
 have sh:∀ (b:UInt8) (k:Nat),k≤24→bN k (u8B b<<<k)=u8B b:=fun b k hk=>by
  rw [zn2 k _ (fun i hi=>by rw [BitVec.getLsbD_shiftLeft];simp [hi])]
  have:=b.toNat_lt
  apply BitVec.eq_of_toNat_eq
  simp only [u8B,BitVec.toNat_ushiftRight,BitVec.toNat_shiftLeft,BitVec.toNat_ofNat]
  rw [Nat.mod_eq_of_lt (show b.toNat<2 ^ 32 by omega),Nat.shiftLeft_eq,Nat.shiftRight_eq_div_pow]
  have h2:b.toNat*2 ^ k<2 ^ 32:=by
   have:(2:Nat) ^ k≤2 ^ 24:=Nat.pow_le_pow_right (by omega) hk
   calc b.toNat*2 ^ k≤b.toNat*2 ^ 24:=Nat.mul_le_mul_left _ this
    _<2 ^ 32:=by omega
  rw [Nat.mod_eq_of_lt h2,Nat.mul_div_cancel _ (Nat.pow_pos (by omega))]
 simp only [sumB,List.foldl_cons,List.foldl_nil,stepB,BitVec.zero_xor]
 rw [ziS 32,ziS 32,ziS 32]
 rw [show bN 32 (u8B s<<<24)=bN 8 (u8B s) from (zkX 8 24 _).trans (congrArg (bN 8) (sh s 24 (by omega)))]
 rw [show bN 32 (u8B r<<<16)=bN 16 (u8B r) from (zkX 16 16 _).trans (congrArg (bN 16) (sh r 16 (by omega)))]
 rw [show bN 32 (u8B q<<<8)=bN 24 (u8B q) from (zkX 24 8 _).trans (congrArg (bN 24) (sh q 8 (by omega)))]
 simp only [ziS,← zkX]
theorem unlike (c:B32) (a m n z:List UInt8) (p q r s:UInt8) (hm:m=xorL n [p,q,r,s]) (hn:n.length=4) (h0:u8B p ^^^ (u8B q<<<8) ^^^ (u8B r<<<16) ^^^ (u8B s<<<24)≠0#32):sumB c (a++n++z)≠sumB c (a++m++z):=by
 intro h
 rw [zdf,zdf,zdf,zdf] at h
 subst hm
 have e1:sumB (sumB c a) (xorL n [p,q,r,s])=sumB (sumB c a) n ^^^ sumB 0#32 [p,q,r,s]:=by
  have:=zjD n [p,q,r,s] (sumB c a) 0#32 (by simpa using hn)
  rwa [BitVec.xor_zero] at this
 rw [e1] at h
 have zz:∀z:List UInt8,xorL z (List.replicate z.length 0)=z:=by
  intro z
  induction z with
  |nil=>rfl
  |cons x z ih=>
   rw [List.length_cons,List.replicate_succ]
   simp only [xorL,List.zipWith_cons_cons]
   unfold xorL at ih
   rw [ih];simp
 have e2:=zjD z (List.replicate z.length 0) (sumB (sumB c a) n) (sumB 0#32 [p,q,r,s]) (by simp)
 rw [zz,zoU] at e2
 rw [e2] at h
 have h3:bN (8*z.length) (sumB 0#32 [p,q,r,s])=0#32:=by
  have:=congrArg (fun x=>sumB (sumB (sumB c a) n) z ^^^ x) h
  simp only [BitVec.xor_self,← BitVec.xor_assoc,BitVec.zero_xor] at this
  exact this.symm
 have h4:=zqW _ _ h3
 rw [sum4] at h4
 exact h0 (zqW _ _ h4)
def toI (x:B32):Int:=x.toNat
theorem zkY (n:Nat) (h:n<4294967296):toI (BitVec.ofNat 32 n)=n:=by
 unfold toI
 rw [BitVec.toNat_ofNat,Nat.mod_eq_of_lt h]
theorem ofI (c:Int) (h0:0≤c) (h1:c≤4294967295):∃x:B32,c=toI x:=
 ⟨BitVec.ofNat 32 c.toNat,by rw [zkY _ (by omega)];omega⟩
theorem zn3 (x:B32):BitVec.ofInt 32 (toI x)=x:=by
 unfold toI
 rw [BitVec.ofInt_natCast]
 simp
theorem zdJ (x y:B32):ibits .xor .u32 (toI x) (toI y)=toI (x ^^^ y):=by
 show IntKind.u32.wrap ((BitVec.ofInt 32 (toI x) ^^^ BitVec.ofInt 32 (toI y)).toNat:Int)=_
 rw [zn3,zn3]
 have:=(x ^^^ y).isLt
 unfold toI
 rw [IntKind.wrap_u32]
 omega
theorem zq1 (x y:B32):ibits .and .u32 (toI x) (toI y)=toI (x&&& y):=by
 show IntKind.u32.wrap ((BitVec.ofInt 32 (toI x)&&& BitVec.ofInt 32 (toI y)).toNat:Int)=_
 rw [zn3,zn3]
 have:=(x&&& y).isLt
 unfold toI
 rw [IntKind.wrap_u32]
 omega
theorem zg4 (x:B32) (k:Nat) (hk:k≤32):ishr .u32 (toI x) (k:Int)=toI (x>>>k):=by
 unfold toI
 rw [zta _ _ hk,BitVec.toNat_ushiftRight,Nat.shiftRight_eq_div_pow]
theorem ztd (x:B32):bitT (toI x)=toI (bT x):=by
 unfold bitT bT
 have h1:(1:Int)=toI 1#32:=by decide
 have hs:ishr .u32 (toI x) 1=toI (x>>>1):=zg4 x 1 (by omega)
 rw [hs]
 have ha:ibits .and .u32 (toI x) 1=toI (x&&& 1#32):=by rw [h1,zq1]
 rw [ha]
 have hb:x&&& 1#32=if x.getLsbD 0 then 1#32 else 0#32:=by
  apply BitVec.eq_of_getLsbD_eq
  intro i hi
  rw [BitVec.getLsbD_and]
  cases i with
  |zero=>cases x.getLsbD 0<;>rfl
  |succ i=>
   have:(1#32).getLsbD (i+1)=false:=by simp [BitVec.getLsbD_one]
   rw [this,Bool.and_false]
   split<;>simp
 rw [hb]
 cases x.getLsbD 0
 ·simp only [Bool.false_eq_true,if_false]
  rw [show IntKind.u32.wrap (toI 0#32*2197175160)=toI 0#32 by decide,zdJ]
 ·simp only [if_true]
  rw [show IntKind.u32.wrap (toI 1#32*2197175160)=toI polyB by decide,zdJ]
theorem zq2 (n:Nat) (x:B32):bitsT n (toI x)=toI (bN n x):=by
 induction n with
 |zero=>rfl
 |succ n ih=>simp only [bitsT,bN,ih,ztd]
theorem zte (x:B32) (h:x.toNat<4294967296):tabF x.toNat=toI (bN 8 x):=by
 unfold tabF
 have:IntKind.u32.wrap (x.toNat:Int)=toI x:=by
  unfold toI
  rw [IntKind.wrap_u32];omega
 rw [this,zq2]
theorem zoV (x:B32) (b:UInt8):(ibits .xor .u8 (IntKind.u8.wrap (toI x)) b.toNat).toNat=(low8 x ^^^ u8B b).toNat:=by
 have hb:=b.toNat_lt
 have h1:IntKind.u8.wrap (toI x)=((x.toNat % 256:Nat):Int):=by
  unfold toI
  rw [IntKind.wrap_u8];omega
 rw [h1]
 have hx:x.toNat % 256<256:=Nat.mod_lt _ (by omega)
 have h2:=Nat.xor_lt_two_pow (n:=8) (x:=x.toNat % 256) (y:=b.toNat) (by omega) (by omega)
 have h3:(low8 x ^^^ u8B b).toNat=(x.toNat % 256) ^^^ b.toNat:=by
  simp only [low8,u8B,BitVec.toNat_xor,BitVec.toNat_and,BitVec.toNat_ofNat]
  rw [show 255 % 2 ^ 32=2 ^ 8 - 1 by decide,Nat.and_two_pow_sub_one_eq_mod,Nat.mod_eq_of_lt (show b.toNat<2 ^ 32 by omega)]
 rw [h3]
 show (IntKind.u8.wrap ((BitVec.ofInt 8 ((x.toNat % 256:Nat):Int) ^^^ BitVec.ofInt 8 ((b.toNat:Nat):Int)).toNat:Int)).toNat=_
 rw [BitVec.ofInt_natCast,BitVec.ofInt_natCast,BitVec.toNat_xor,BitVec.toNat_ofNat,BitVec.toNat_ofNat,Nat.mod_eq_of_lt (show x.toNat % 256<2 ^ 8 by omega),Nat.mod_eq_of_lt (show b.toNat<2 ^ 8 by omega),IntKind.wrap_u8]
 omega
theorem zq3 (x:B32) (b:UInt8):byteS (toI x) b=toI (stepB x b):=by
 unfold byteS
 rw [zoV,zte _ (BitVec.isLt _),show ishr .u32 (toI x) 8=toI (x>>>8) from zg4 x 8 (by omega),zdJ,zqZ]
theorem ztf (x:B32) (l:List UInt8):sumS (toI x) l=toI (sumB x l):=by
 induction l generalizing x with
 |nil=>rfl
 |cons b l ih=>
  simp only [sumS,sumB,List.foldl_cons,zq3] at*
  exact ih _
def onesB:B32:=4294967295#32
theorem zjE (x:B32):notS (toI x)=toI (onesB ^^^ x):=by
 unfold notS
 rw [show (if IntKind.u32.signed=true then (-1:Int) else IntKind.u32.max)=toI onesB from by decide,zdJ]
theorem zkZ (x:B32) (l:List UInt8):sumOf (toI x) l=toI (onesB ^^^ sumB (onesB ^^^ x) l):=by
 unfold sumOf
 rw [zjE,ztf,zjE]
end Go.Aw
