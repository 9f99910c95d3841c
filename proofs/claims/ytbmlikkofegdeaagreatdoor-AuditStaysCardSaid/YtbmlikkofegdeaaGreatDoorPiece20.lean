/-
  Parts of the proof: CrcPB, CrcR, CrcRE, BldA, BldB, BldC (short names; the readable texts lie in the repo, under wip).
-/
import Derived.Test.YtbmlikkofegdeaaGreatDoorPiece19
import Derived.Test.YtbmlikkofegdeaaGreatDoorPiece17
import Derived.Test.YtbmlikkofegdeaaGreatDoorProg
import Derived.KernelRfl
import Derived.WalkKit
import Derived.Tactics
import Derived.Tactics2
import Derived.Laws.Pointers
import Derived.RegionTactic
import Derived.Lib.Builder
import Derived.Lib.UnsafeStr
import Derived.Laws.Externs
import Derived.Lib.AppendStr
import Derived.Lib.Strings
import Derived.Lib.Slices
import Derived.RegionCalls
import Derived.Lib.MakeNoZero
set_option maxRecDepth 100000
set_option maxHeartbeats 2000000
set_option linter.unusedSimpArgs false
set_option linter.unusedVariables false
namespace Go.Aw
open Go Go.Proofs
theorem zu4 (n k:Nat) (hk:k<=32):ishr .u32 (n:Int) (k:Int)=((n / 2 ^ k:Nat):Int):=by unfold ishr;rw [show min ((k:Int).toNat) IntKind.u32.bits=k by show min ((k:Int).toNat) 32=k;omega];rw [Int.fdiv_eq_ediv_of_nonneg _ (Int.le_of_lt (Int.pow_pos (by decide)))];norm_cast
abbrev B32:=BitVec 32
def polyB:B32:=2197175160#32
def bT (x:B32):B32:=(x>>>1) ^^^ (if x.getLsbD 0 then polyB else 0#32)
def bN:Nat->B32->B32
 |0,x=>x
 |n+1,x=>bT (bN n x)
def u8B (b:UInt8):B32:=BitVec.ofNat 32 b.toNat
def stepB (c:B32) (b:UInt8):B32:=bN 8 (c ^^^ u8B b)
def sumB (c:B32) (l:List UInt8):B32:=l.foldl stepB c
theorem xor4 (a b c d:B32):(a ^^^ b) ^^^ (c ^^^ d)=(a ^^^ c) ^^^ (b ^^^ d):=by ac_rfl
theorem zyo (x y:B32):bT (x ^^^ y)=bT x ^^^ bT y:=by unfold bT;rw [BitVec.ushiftRight_xor_distrib,xor4 (x>>>1)];congr 1;rw [BitVec.getLsbD_xor];cases x.getLsbD 0<;>cases y.getLsbD 0<;>simp
theorem zkm (n:Nat) (x y:B32):bN n (x ^^^ y)=bN n x ^^^ bN n y:=by
 induction n with
 |zero=>rfl
 |succ n ih=>simp only [bN,ih,zyo]
theorem zyp (x:B32):(bT x).getLsbD 31=x.getLsbD 0:=by
 unfold bT;rw [BitVec.getLsbD_xor];have h1:(x>>>1).getLsbD 31=false:=by simp
 rw [h1];cases x.getLsbD 0<;>simp<;>decide
theorem zw7 (x:B32) (h:bT x=0#32):x=0#32:=by
 have h0:x.getLsbD 0=false:=by rw [<-zyp,h];simp
 unfold bT at h;rw [h0] at h;simp only [Bool.false_eq_true,if_false,BitVec.xor_zero] at h;apply BitVec.eq_of_getLsbD_eq;intro i hi;cases i with
 |zero=>simpa using h0
 |succ i=>
  have:=congrArg (λy:B32=>y.getLsbD i) h;simpa [Nat.add_comm] using this
theorem zsD (n:Nat) (x:B32) (h:bN n x=0#32):x=0#32:=by
 induction n with
 |zero=>exact h
 |succ n ih=>exact ih (zw7 _ h)
theorem zmG (m n:Nat) (x:B32):bN (m+n) x=bN m (bN n x):=by
 induction m with
 |zero=>rw [Nat.zero_add];rfl
 |succ m ih=>rw [Nat.succ_add];simp only [bN,ih]
theorem zpv (n:Nat):∀ (x:B32),(∀i,i<n->x.getLsbD i=false)->bN n x=x>>>n:=by
 induction n with
 |zero=>intro x _;simp [bN]
 |succ n ih=>
  intro x h;simp only [bN];rw [ih x (λi hi=>h i (by omega))];unfold bT;have:(x>>>n).getLsbD 0=false:=by simpa using h n (by omega)
  rw [this];simp only [Bool.false_eq_true,if_false,BitVec.xor_zero];rw [<-BitVec.shiftRight_add]
def low8 (x:B32):B32:=x&&& 255#32
def high8 (x:B32):B32:=x&&& 4294967040#32
theorem zu5 (x:B32):x=low8 x ^^^ high8 x:=by
 have e:(4294967040#32)= ~~~(255#32):=by decide
 unfold low8 high8;rw [e];apply BitVec.eq_of_getLsbD_eq;intro i hi;simp only [BitVec.getLsbD_xor,BitVec.getLsbD_and,BitVec.getLsbD_not,hi,decide_true,Bool.true_and];cases x.getLsbD i<;>cases (255#32).getLsbD i<;>rfl
theorem zsE (x:B32) (i:Nat) (hi:i<8):(high8 x).getLsbD i=false:=by
 unfold high8;rw [BitVec.getLsbD_and];have:∀i,i<8->(4294967040#32).getLsbD i=false:=by decide
 rw [this i hi,Bool.and_false]
theorem znY (x:B32):high8 x>>>8=x>>>8:=by
 unfold high8;apply BitVec.eq_of_getLsbD_eq;intro i hi;simp only [BitVec.getLsbD_ushiftRight,BitVec.getLsbD_and];by_cases h:8+i<32
 ·have:∀i,i<24->(4294967040#32).getLsbD (8+i)=true:=by decide
  rw [this i (by omega),Bool.and_true]
 ·rw [BitVec.getLsbD_of_ge x _ (by omega),Bool.false_and]
theorem zsF (x:B32):bN 8 x=bN 8 (low8 x) ^^^ (x>>>8):=by
 conv=>lhs;rw [zu5 x]
 rw [zkm,zpv 8 (high8 x) (zsE x),znY]
theorem zu6 (b:UInt8):u8B b>>>8=0#32:=by have:=b.toNat_lt;apply BitVec.eq_of_toNat_eq;simp [u8B,Nat.shiftRight_eq_div_pow];omega
theorem zw8 (b:UInt8):low8 (u8B b)=u8B b:=by have:=b.toNat_lt;apply BitVec.eq_of_toNat_eq;simp only [low8,u8B,BitVec.toNat_and,BitVec.toNat_ofNat];rw [show 255 % 2 ^ 32=2 ^ 8 - 1 by decide,Nat.and_two_pow_sub_one_eq_mod];omega
theorem zsG (c:B32) (b:UInt8):stepB c b=bN 8 (low8 c ^^^ u8B b) ^^^ (c>>>8):=by
 unfold stepB;rw [zsF]
 have h1:low8 (c ^^^ u8B b)=low8 c ^^^ u8B b:=by
  conv=>rhs;rw [<-zw8 b]
  unfold low8;apply BitVec.eq_of_getLsbD_eq;intro i hi;simp only [BitVec.getLsbD_xor,BitVec.getLsbD_and];cases c.getLsbD i<;>cases (u8B b).getLsbD i<;>cases (255#32).getLsbD i<;>rfl
 rw [h1,BitVec.ushiftRight_xor_distrib,zu6,BitVec.xor_zero]
theorem zw9 (a b:UInt8):u8B (a ^^^ b)=u8B a ^^^ u8B b:=by apply BitVec.eq_of_toNat_eq;have:=a.toNat_lt;have:=b.toNat_lt;have h:=Nat.xor_lt_two_pow (n:=32) (x:=a.toNat) (y:=b.toNat) (by omega) (by omega);simp only [u8B,BitVec.toNat_xor,BitVec.toNat_ofNat,UInt8.toNat_xor];rw [Nat.mod_eq_of_lt (by omega),Nat.mod_eq_of_lt (by omega),Nat.mod_eq_of_lt (by omega)]
def xorL (a b:List UInt8):List UInt8:=List.zipWith (· ^^^ ·) a b
theorem zsH (c d:B32) (a b:UInt8):stepB (c ^^^ d) (a ^^^ b)=stepB c a ^^^ stepB d b:=by unfold stepB;rw [zw9,xor4,zkm]
theorem zlf:∀ (a b:List UInt8) (c d:B32),a.length=b.length->sumB (c ^^^ d) (xorL a b)=sumB c a ^^^ sumB d b
 | [],[],c,d,_=>rfl
 |x::a,y::b,c,d,h=>by simp only [xorL,List.zipWith_cons_cons,sumB,List.foldl_cons];rw [zsH];exact zlf a b _ _ (by simpa using h)
 | [],_::_,_,_,h=>by simp at h
 |_::_,[],_,_,h=>by simp at h
theorem zdW (c:B32) (a b:List UInt8):sumB c (a++b)=sumB (sumB c a) b:=by simp [sumB,List.foldl_append]
theorem zqy (n:Nat) (c:B32):sumB c (List.replicate n 0)=bN (8*n) c:=by
 induction n generalizing c with
 |zero=>rfl
 |succ n ih=>
  rw [List.replicate_succ];simp only [sumB,List.foldl_cons];have:stepB c 0=bN 8 c:=by simp [stepB,u8B]
  rw [this];have:=ih (bN 8 c);unfold sumB at this;rw [this,<-zmG,Nat.mul_succ]
theorem sum4 (p q r s:UInt8):sumB 0#32 [p,q,r,s]=bN 32 (u8B p ^^^ (u8B q<<<8) ^^^ (u8B r<<<16) ^^^ (u8B s<<<24)):=by
 have sh:∀ (b:UInt8) (k:Nat),k<=24->bN k (u8B b<<<k)=u8B b:=λb k hk=>by
  rw [zpv k _ (λi hi=>by rw [BitVec.getLsbD_shiftLeft];simp [hi])];have:=b.toNat_lt;apply BitVec.eq_of_toNat_eq;simp only [u8B,BitVec.toNat_ushiftRight,BitVec.toNat_shiftLeft,BitVec.toNat_ofNat];rw [Nat.mod_eq_of_lt (show b.toNat<2 ^ 32 by omega),Nat.shiftLeft_eq,Nat.shiftRight_eq_div_pow]
  have h2:b.toNat*2 ^ k<2 ^ 32:=by
   have:(2:Nat) ^ k<=2 ^ 24:=Nat.pow_le_pow_right (by omega) hk
   calc b.toNat*2 ^ k<=b.toNat*2 ^ 24:=Nat.mul_le_mul_left _ this
    _<2 ^ 32:=by omega
  rw [Nat.mod_eq_of_lt h2,Nat.mul_div_cancel _ (Nat.pow_pos (by omega))]
 simp only [sumB,List.foldl_cons,List.foldl_nil,stepB,BitVec.zero_xor];rw [zkm 32,zkm 32,zkm 32];rw [show bN 32 (u8B s<<<24)=bN 8 (u8B s) from (zmG 8 24 _).trans (congrArg (bN 8) (sh s 24 (by omega)))];rw [show bN 32 (u8B r<<<16)=bN 16 (u8B r) from (zmG 16 16 _).trans (congrArg (bN 16) (sh r 16 (by omega)))];rw [show bN 32 (u8B q<<<8)=bN 24 (u8B q) from (zmG 24 8 _).trans (congrArg (bN 24) (sh q 8 (by omega)))];simp only [zkm,<-zmG]
theorem unlike (c:B32) (a m n z:List UInt8) (p q r s:UInt8) (hm:m=xorL n [p,q,r,s]) (hn:n.length=4) (h0:u8B p ^^^ (u8B q<<<8) ^^^ (u8B r<<<16) ^^^ (u8B s<<<24)≠0#32):sumB c (a++n++z)≠sumB c (a++m++z):=by
 intro h;rw [zdW,zdW,zdW,zdW] at h;subst hm
 have e1:sumB (sumB c a) (xorL n [p,q,r,s])=sumB (sumB c a) n ^^^ sumB 0#32 [p,q,r,s]:=by have:=zlf n [p,q,r,s] (sumB c a) 0#32 (by simpa using hn);rwa [BitVec.xor_zero] at this
 rw [e1] at h
 have zz:∀z:List UInt8,xorL z (List.replicate z.length 0)=z:=by
  intro z;induction z with
  |nil=>rfl
  |cons x z ih=>
   rw [List.length_cons,List.replicate_succ];simp only [xorL,List.zipWith_cons_cons];unfold xorL at ih;rw [ih];simp
 have e2:=zlf z (List.replicate z.length 0) (sumB (sumB c a) n) (sumB 0#32 [p,q,r,s]) (by simp);rw [zz,zqy] at e2;rw [e2] at h
 have h3:bN (8*z.length) (sumB 0#32 [p,q,r,s])=0#32:=by have:=congrArg (λx=>sumB (sumB (sumB c a) n) z ^^^ x) h;simp only [BitVec.xor_self,<-BitVec.xor_assoc,BitVec.zero_xor] at this;exact this.symm
 have h4:=zsD _ _ h3;rw [sum4] at h4;exact h0 (zsD _ _ h4)
def toI (x:B32):Int:=x.toNat
theorem zmH (n:Nat) (h:n<4294967296):toI (BitVec.ofNat 32 n)=n:=by unfold toI;rw [BitVec.toNat_ofNat,Nat.mod_eq_of_lt h]
theorem ofI (c:Int) (h0:0<=c) (h1:c<=4294967295):∃x:B32,c=toI x:=
 ⟨BitVec.ofNat 32 c.toNat,by rw [zmH _ (by omega)];omega⟩
theorem zpw (x:B32):BitVec.ofInt 32 (toI x)=x:=by unfold toI;rw [BitVec.ofInt_natCast];simp
theorem zeC (x y:B32):ibits .xor .u32 (toI x) (toI y)=toI (x ^^^ y):=by show IntKind.u32.wrap ((BitVec.ofInt 32 (toI x) ^^^ BitVec.ofInt 32 (toI y)).toNat:Int)=_;rw [zpw,zpw];have:=(x ^^^ y).isLt;unfold toI;rw [IntKind.wrap_u32];omega
theorem zsI (x y:B32):ibits .and .u32 (toI x) (toI y)=toI (x&&& y):=by show IntKind.u32.wrap ((BitVec.ofInt 32 (toI x)&&& BitVec.ofInt 32 (toI y)).toNat:Int)=_;rw [zpw,zpw];have:=(x&&& y).isLt;unfold toI;rw [IntKind.wrap_u32];omega
theorem zh6 (x:B32) (k:Nat) (hk:k<=32):ishr .u32 (toI x) (k:Int)=toI (x>>>k):=by unfold toI;rw [zu4 _ _ hk,BitVec.toNat_ushiftRight,Nat.shiftRight_eq_div_pow]
theorem zu7 (x:B32):bitT (toI x)=toI (bT x):=by
 unfold bitT bT;have h1:(1:Int)=toI 1#32:=by decide
 have hs:ishr .u32 (toI x) 1=toI (x>>>1):=zh6 x 1 (by omega);rw [hs];have ha:ibits .and .u32 (toI x) 1=toI (x&&& 1#32):=by rw [h1,zsI]
 rw [ha]
 have hb:x&&& 1#32=if x.getLsbD 0 then 1#32 else 0#32:=by
  apply BitVec.eq_of_getLsbD_eq;intro i hi;rw [BitVec.getLsbD_and];cases i with
  |zero=>cases x.getLsbD 0<;>rfl
  |succ i=>
   have:(1#32).getLsbD (i+1)=false:=by simp [BitVec.getLsbD_one]
   rw [this,Bool.and_false];split<;>simp
 rw [hb];cases x.getLsbD 0
 ·simp only [Bool.false_eq_true,if_false];rw [show IntKind.u32.wrap (toI 0#32*2197175160)=toI 0#32 by decide,zeC]
 ·simp only [if_true];rw [show IntKind.u32.wrap (toI 1#32*2197175160)=toI polyB by decide,zeC]
theorem zsJ (n:Nat) (x:B32):bitsT n (toI x)=toI (bN n x):=by
 induction n with
 |zero=>rfl
 |succ n ih=>simp only [bitsT,bN,ih,zu7]
theorem zu8 (x:B32) (h:x.toNat<4294967296):tabF x.toNat=toI (bN 8 x):=by
 unfold tabF
 have:IntKind.u32.wrap (x.toNat:Int)=toI x:=by unfold toI;rw [IntKind.wrap_u32];omega
 rw [this,zsJ]
theorem zqz (x:B32) (b:UInt8):(ibits .xor .u8 (IntKind.u8.wrap (toI x)) b.toNat).toNat=(low8 x ^^^ u8B b).toNat:=by
 have hb:=b.toNat_lt
 have h1:IntKind.u8.wrap (toI x)=((x.toNat % 256:Nat):Int):=by unfold toI;rw [IntKind.wrap_u8];omega
 rw [h1];have hx:x.toNat % 256<256:=Nat.mod_lt _ (by omega);have h2:=Nat.xor_lt_two_pow (n:=8) (x:=x.toNat % 256) (y:=b.toNat) (by omega) (by omega)
 have h3:(low8 x ^^^ u8B b).toNat=(x.toNat % 256) ^^^ b.toNat:=by simp only [low8,u8B,BitVec.toNat_xor,BitVec.toNat_and,BitVec.toNat_ofNat];rw [show 255 % 2 ^ 32=2 ^ 8 - 1 by decide,Nat.and_two_pow_sub_one_eq_mod,Nat.mod_eq_of_lt (show b.toNat<2 ^ 32 by omega)]
 rw [h3];show (IntKind.u8.wrap ((BitVec.ofInt 8 ((x.toNat % 256:Nat):Int) ^^^ BitVec.ofInt 8 ((b.toNat:Nat):Int)).toNat:Int)).toNat=_;rw [BitVec.ofInt_natCast,BitVec.ofInt_natCast,BitVec.toNat_xor,BitVec.toNat_ofNat,BitVec.toNat_ofNat,Nat.mod_eq_of_lt (show x.toNat % 256<2 ^ 8 by omega),Nat.mod_eq_of_lt (show b.toNat<2 ^ 8 by omega),IntKind.wrap_u8];omega
theorem zsK (x:B32) (b:UInt8):byteS (toI x) b=toI (stepB x b):=by unfold byteS;rw [zqz,zu8 _ (BitVec.isLt _),show ishr .u32 (toI x) 8=toI (x>>>8) from zh6 x 8 (by omega),zeC,zsG]
theorem zu9 (x:B32) (l:List UInt8):sumS (toI x) l=toI (sumB x l):=by
 induction l generalizing x with
 |nil=>rfl
 |cons b l ih=>
  simp only [sumS,sumB,List.foldl_cons,zsK] at*;exact ih _
def onesB:B32:=4294967295#32
theorem zlg (x:B32):notS (toI x)=toI (onesB ^^^ x):=by unfold notS;rw [show (if IntKind.u32.signed=true then (-1:Int) else IntKind.u32.max)=toI onesB from by decide,zeC]
theorem zmI (x:B32) (l:List UInt8):sumOf (toI x) l=toI (onesB ^^^ sumB (onesB ^^^ x) l):=by unfold sumOf;rw [zlg,zu9,zlg]
open Go Go.Proofs
theorem zxa (b:UInt8):IntKind.u32.wrap (b.toNat:Int)=toI (u8B b):=by have:=b.toNat_lt;unfold u8B;rw [zmH _ (by omega),IntKind.wrap_u32];omega
theorem rem2 (x:B32):((toI x).tmod 2==1)=x.getLsbD 0:=by
 unfold toI;have h0:(x.toNat:Int).tmod 2=((x.toNat % 2:Nat):Int):=by rw [Int.tmod_eq_emod_of_nonneg (by omega)];omega
 rw [h0]
 have h1:x.getLsbD 0=decide (x.toNat % 2=1):=by rw [BitVec.getLsbD,Nat.testBit_zero]
 rw [h1];rcases Nat.mod_two_eq_zero_or_one x.toNat with h|h<;>rw [h]<;>rfl
theorem zsL (x:B32) (h:x.getLsbD 0=true):ibits .xor .u32 (ishr .u32 (toI x) 1) 2197175160=toI (bT x):=by rw [show ishr .u32 (toI x) 1=toI (x>>>1) from zh6 x 1 (by omega),show (2197175160:Int)=toI polyB by decide,zeC];unfold bT;rw [h];rfl
theorem zqA (x:B32) (h:x.getLsbD 0=false):ishr .u32 (toI x) 1=toI (bT x):=by rw [show ishr .u32 (toI x) 1=toI (x>>>1) from zh6 x 1 (by omega)];unfold bT;rw [h];simp
theorem zqB (x:B32) (l:List UInt8) (hl:l.length<=9223372036854775807):ACall Tryz.prog 150 0 [.d (.int .u32 (toI x)),.d (.str l)] [] (λr _=>r= .d (.int .u32 (toI (onesB ^^^ sumB (onesB ^^^ x) l)))):=by
 have hnot:∀y:B32,ibits .xor .u32 (if IntKind.u32.signed=true then (-1:Int) else IntKind.u32.max) (toI y)=toI (onesB ^^^ y):=zlg;refine zaP Tryz.func150 rfl (zdn Tryz.func150 (by kernel_rfl) rfl) Tryz.ntmps150 (by simp) (λbase=>?_);refine zi noTab (zb _) (λK hK=>?_);simp only [go_sem,Nat.le_refl,List.append_toArray,List.range_zero,List.append_eq,Int.toNat_natCast,aeq,aeq.aeqF,simprocAttr];refine hK _ ?_;clear hK K;refine zi noTab (zb _) (λK hK=>?_);simp only [go_sem,Nat.le_refl,List.append_toArray,List.range_zero,List.append_eq,Int.toNat_natCast,aeq,aeq.aeqF,simprocAttr,hnot];refine hK _ ?_;clear hK K;refine zaM (λK1 hK1=>?_);refine zi noTab (zb _) (λK hK=>?_);simp only [go_sem,Nat.le_refl,List.append_toArray,List.range_zero,List.append_eq,Int.toNat_natCast,aeq,aeq.aeqF,simprocAttr];refine hK _ ?_;clear hK K;refine za7 ?_;refine zq (λi: {i:Nat // i<=l.length} =>⟨[(1,true,.d (.str l)),(5,true,.d (.int .u32 (toI (sumB (onesB ^^^ x) (l.take i.1))))),(6,true,.d (.int .i64 i.1))],[],some []⟩) (λi=>l.length - i.1) ⟨0,by omega⟩ (by simp only [AS.le,leT,leH,zf,AsgK,AV.le,AV.leL,AObj.le,inH,idsT,idsH,AV.ids,AV.idsL,AV.idsR,AObj.ids,lk,hget,go_sem,Nat.le_refl,List.append_toArray,List.range_zero,List.append_eq,Int.toNat_natCast,aeq,aeq.aeqF,simprocAttr]<;>simp [sumB]) (λi=>?_);obtain ⟨i,hi⟩:=i;refine zaM (λK2 hK2=>?_);refine zi noTab (zb _) (λK hK=>?_);simp only [go_sem,Nat.le_refl,List.append_toArray,List.range_zero,List.append_eq,Int.toNat_natCast,aeq,aeq.aeqF,simprocAttr];refine hK _ ?_;clear hK K;refine zbA rfl (λhc=>?_) (λhc=>?_)
 ·refine zeL ?_;simp only [go_sem,Nat.le_refl,List.append_toArray,List.range_zero,List.append_eq,Int.toNat_natCast,aeq,aeq.aeqF,simprocAttr];refine hK2 _ ?_;clear hK2 K2;have hil:i<l.length:=by simp at hc;omega
  obtain ⟨b,hb⟩:∃b,l[i]?=some b:=⟨l[i],by simp [hil]⟩
  have hgd:l.getD i 0=b:=by simp [List.getD_eq_getElem?_getD,hb]
  refine zaM (λK3 hK3=>?_);refine za7 ?_;refine zi noTab (zb _) (λK hK=>?_);simp only [go_sem,Nat.le_refl,List.append_toArray,List.range_zero,List.append_eq,Int.toNat_natCast,aeq,aeq.aeqF,simprocAttr,hgd,zxa,zeC];refine ⟨⟨by omega,by omega⟩,hK _ ?_⟩;clear hK;refine zi noTab (zb _) (λK hK=>?_);simp only [go_sem,Nat.le_refl,List.append_toArray,List.range_zero,List.append_eq,Int.toNat_natCast,aeq,aeq.aeqF,simprocAttr];refine hK _ ?_;clear hK K;refine za7 ?_;refine zq (λk: {k:Nat // k<=8} =>⟨[(1,true,.d (.str l)),(6,true,.d (.int .i64 i)),(5,true,.d (.int .u32 (toI (bN k.1 (sumB (onesB ^^^ x) (l.take i) ^^^ u8B b))))),(7,true,.d (.int .i64 k.1))],[],some []⟩) (λk=>8 - k.1) ⟨0,by omega⟩ (by simp only [AS.le,leT,leH,zf,AsgK,AV.le,AV.leL,AObj.le,inH,idsT,idsH,AV.ids,AV.idsL,AV.idsR,AObj.ids,lk,hget,go_sem,Nat.le_refl,List.append_toArray,List.range_zero,List.append_eq,Int.toNat_natCast,aeq,aeq.aeqF,simprocAttr]<;>simp [bN]) (λk=>?_);obtain ⟨k,hk⟩:=k;refine zaM (λK4 hK4=>?_);refine zi noTab (zb _) (λK hK=>?_);simp only [go_sem,Nat.le_refl,List.append_toArray,List.range_zero,List.append_eq,Int.toNat_natCast,aeq,aeq.aeqF,simprocAttr];refine hK _ ?_;clear hK K;refine zbA rfl (λhc=>?_) (λhc=>?_)
  ·refine zeL ?_;simp only [go_sem,Nat.le_refl,List.append_toArray,List.range_zero,List.append_eq,Int.toNat_natCast,aeq,aeq.aeqF,simprocAttr];refine hK4 _ ?_;clear hK4 K4;have hkl:k<8:=by simp at hc;omega
   have hw:IntKind.i64.wrap ((k:Int)+1)=((k+1:Nat):Int):=by rw [IntKind.wrap_i64];omega
   refine zaM (λK5 hK5=>?_);refine za7 ?_;refine zi noTab (zb _) (λK hK=>?_);simp only [go_sem,Nat.le_refl,List.append_toArray,List.range_zero,List.append_eq,Int.toNat_natCast,aeq,aeq.aeqF,simprocAttr,rem2];refine hK _ ?_;clear hK K;refine zbA rfl (λhc=>?_) (λhc=>?_)
   ·have hb1:(bN k (sumB (onesB ^^^ x) (l.take i) ^^^ u8B b)).getLsbD 0=true:=by simpa using hc
    refine zan noTab (zb _) ?_;simp only [go_sem,Nat.le_refl,List.append_toArray,List.range_zero,List.append_eq,Int.toNat_natCast,aeq,aeq.aeqF,simprocAttr,zsL _ hb1];refine hK5 _ ?_;clear hK5 K5;refine zan noTab (zb _) ?_;simp only [go_sem,Nat.le_refl,List.append_toArray,List.range_zero,List.append_eq,Int.toNat_natCast,aeq,aeq.aeqF,simprocAttr];refine ⟨⟨k+1,by omega⟩,?_,by simp;omega⟩;rw [hw];simp only [AS.le,leT,leH,zf,AsgK,AV.le,AV.leL,AObj.le,inH,idsT,idsH,AV.ids,AV.idsL,AV.idsR,AObj.ids,lk,hget,go_sem,Nat.le_refl,List.append_toArray,List.range_zero,List.append_eq,Int.toNat_natCast,aeq,aeq.aeqF,simprocAttr];try rfl
   ·have hb1:(bN k (sumB (onesB ^^^ x) (l.take i) ^^^ u8B b)).getLsbD 0=false:=by simpa using hc
    refine zan noTab (zb _) ?_;simp only [go_sem,Nat.le_refl,List.append_toArray,List.range_zero,List.append_eq,Int.toNat_natCast,aeq,aeq.aeqF,simprocAttr,zqA _ hb1];refine hK5 _ ?_;clear hK5 K5;refine zan noTab (zb _) ?_;simp only [go_sem,Nat.le_refl,List.append_toArray,List.range_zero,List.append_eq,Int.toNat_natCast,aeq,aeq.aeqF,simprocAttr];refine ⟨⟨k+1,by omega⟩,?_,by simp;omega⟩;rw [hw];simp only [AS.le,leT,leH,zf,AsgK,AV.le,AV.leL,AObj.le,inH,idsT,idsH,AV.ids,AV.idsL,AV.idsR,AObj.ids,lk,hget,go_sem,Nat.le_refl,List.append_toArray,List.range_zero,List.append_eq,Int.toNat_natCast,aeq,aeq.aeqF,simprocAttr];try rfl
  ·refine zeM ?_;simp only [go_sem,Nat.le_refl,List.append_toArray,List.range_zero,List.append_eq,Int.toNat_natCast,aeq,aeq.aeqF,simprocAttr];refine hK3 _ ?_;have hk8:k=8:=by simp at hc;omega
   subst hk8;refine zan noTab (zb _) ?_;simp only [go_sem,Nat.le_refl,List.append_toArray,List.range_zero,List.append_eq,Int.toNat_natCast,aeq,aeq.aeqF,simprocAttr];have hw:IntKind.i64.wrap ((i:Int)+1)=((i+1:Nat):Int):=by rw [IntKind.wrap_i64];omega
   refine ⟨⟨i+1,by omega⟩,?_,by simp;omega⟩;rw [hw]
   have hs:sumB (onesB ^^^ x) (l.take (i+1))=bN 8 (sumB (onesB ^^^ x) (l.take i) ^^^ u8B b):=by rw [List.take_add_one,hb,Option.toList_some,zdW];rfl
   rw [hs];simp only [AS.le,leT,leH,zf,AsgK,AV.le,AV.leL,AObj.le,inH,idsT,idsH,AV.ids,AV.idsL,AV.idsR,AObj.ids,lk,hget,go_sem,Nat.le_refl,List.append_toArray,List.range_zero,List.append_eq,Int.toNat_natCast,aeq,aeq.aeqF,simprocAttr]
 ·refine zeM ?_;simp only [go_sem,Nat.le_refl,List.append_toArray,List.range_zero,List.append_eq,Int.toNat_natCast,aeq,aeq.aeqF,simprocAttr];refine hK1 _ ?_;have hil:i=l.length:=by simp at hc;omega
  subst hil;refine zi noTab (zb _) (λK hK=>?_);simp only [go_sem,Nat.le_refl,List.append_toArray,List.range_zero,List.append_eq,Int.toNat_natCast,aeq,aeq.aeqF,simprocAttr,hnot];refine hK _ ?_;clear hK K;refine zga ?_;simp only [go_sem,Nat.le_refl,List.append_toArray,List.range_zero,List.append_eq,Int.toNat_natCast,aeq,aeq.aeqF,simprocAttr,Tryz.results150];try rw [List.take_length]
theorem znZ (c:Int) (l:List UInt8) (h0:0<=c) (h1:c<=4294967295) (hl:l.length<=9223372036854775807):ACall Tryz.prog 150 0 [.d (.int .u32 c),.d (.str l)] [] (λr _=>r= .d (.int .u32 (sumOf c l))):=by obtain ⟨x,rfl⟩:=ofI c h0 h1;rw [zmI];exact zqB x l hl
theorem zn0 (c:Int) (h0:0<=c) (h1:c<=4294967295):ACall Tryz.prog 66 0 [.d (.int .u32 c)] [] (λr _=>r= .d (.str (zfg c))):=by
 refine zaP Tryz.func66 rfl (zdn Tryz.func66 (by kernel_rfl) rfl) Tryz.ntmps66 (by simp) (λbase=>?_);refine zi noTab (zb _) (λK hK=>?_);simp only [go_sem,Nat.le_refl,List.append_toArray,List.range_zero,List.append_eq,Int.toNat_natCast,aeq,aeq.aeqF,simprocAttr];refine hK _ ?_;clear hK K;refine zi noTab (zb _) (λK hK=>?_);simp only [go_sem,Nat.le_refl,List.append_toArray,List.range_zero,List.append_eq,Int.toNat_natCast,aeq,aeq.aeqF,simprocAttr];refine ⟨rfl,hK _ ?_⟩;clear hK K;refine zga ?_;simp only [go_sem,Nat.le_refl,List.append_toArray,List.range_zero,List.append_eq,Int.toNat_natCast,aeq,aeq.aeqF,simprocAttr,Tryz.results66]
 have e3:zcD c 3=IntKind.u8.wrap c:=by unfold zcD ishr;rw [show IntKind.i64.wrap (24 - IntKind.i64.wrap (8*((3:Nat):Int)))=0 by decide];simp
 have e2:zcD c 2=IntKind.u8.wrap (ishr .u32 c 8):=by unfold zcD;rw [show IntKind.i64.wrap (24 - IntKind.i64.wrap (8*((2:Nat):Int)))=8 by decide]
 have e1:zcD c 1=IntKind.u8.wrap (ishr .u32 c 16):=by unfold zcD;rw [show IntKind.i64.wrap (24 - IntKind.i64.wrap (8*((1:Nat):Int)))=16 by decide]
 have e0:zcD c 0=IntKind.u8.wrap (ishr .u32 c 24):=by unfold zcD;rw [show IntKind.i64.wrap (24 - IntKind.i64.wrap (8*((0:Nat):Int)))=24 by decide]
 simp only [zfg,bytesOf,List.map_cons,List.map_nil,numOf,e0,e1,e2,e3]
theorem zgn (c:Int) (l:List UInt8) (h0:0<=c) (h1:c<=4294967295):0<=sumOf c l/\sumOf c l<=4294967295:=by obtain ⟨x,rfl⟩:=ofI c h0 h1;rw [zmI];unfold toI;have:=(onesB ^^^ sumB (onesB ^^^ x) l).isLt;omega
open Go Go.Proofs
@[go_sem] noncomputable def zbv:Ent Tryz.prog 150:= .ofL (consL (intT .u32) (consL strT nilL)) (λ(c,l,_)=>(0<=c)/\(c<=4294967295)/\(l.length<=9223372036854775807)) (λ(c,l,_)=> .d (.int .u32 (sumOf c l))) (λ(c,l,_) hp=>⟨rfl,znZ c l hp.1 hp.2.1 hp.2.2⟩)
@[go_sem] noncomputable def zaz:Ent Tryz.prog 66:= .ofL (consL (intT .u32) nilL) (λ(c,_)=>(0<=c)/\(c<=4294967295)) (λ(c,_)=> .d (.str (zfg c))) (λ(c,_) hp=>⟨rfl,zn0 c hp.1 hp.2⟩)
theorem zva (l:List UInt8) (hl:l.length<=9223372036854775807):ACall Tryz.prog 67 0 [.d (.str l)] [] (λr _=>r= .d (.int .u32 (sumOf 0 l))):=by refine bod Tryz.func67 Tryz.ntmps67 (λbase=>?_);refine' walkW fx (za zbv <| zb _)
@[go_sem] noncomputable def zby:Ent Tryz.prog 67:= .ofL (consL strT nilL) (λ(l,_)=>l.length<=9223372036854775807) (λ(l,_)=> .d (.int .u32 (sumOf 0 l))) (λ(l,_) hp=>⟨rfl,zva l hp⟩)
end Go.Aw
namespace Go.Proofs.YtbmlikkofegdeaaGreatDoor
open Go Go.RowKit
theorem bsize:∃j,Tryz.prog.info? 223=some j/\j.size=2:=by obtain ⟨j,hj,hjs⟩:=Option.map_eq_some_iff.1 (show (Tryz.prog.info? 223).map (·.size)=some 2 by kernel_rfl);exact ⟨j,hj,hjs⟩
theorem zs0 (b o:Nat) (w:World) (h0:w.cell? ⟨b,o,none⟩=some (.pointer (some ⟨b,o,none⟩))):
  Calls Tryz.prog 222 #[.pointer (some ⟨b,o,none⟩)] w λe w'=>e= .returned (.tuple #[])/\w'=w:=by
 obtain ⟨j,hj,hjs⟩:=bsize
 go_enter Tryz.func222,Tryz.ntmps222
 go_wp2
 rw [Lib.run_neq_ptr_same w _ Tryz.underlying221 hj]
 go_wp2
 go_end0
 exact ⟨rfl,rfl⟩
theorem zqS (b o n:Nat) (T:TypeId) (w:World) (h0:w.cell? ⟨b,o,none⟩=some (.pointer none)) (hsh:w.shape? b=some (T,n)) (hlt:o<n) (hl:liesAt Tryz.prog Tryz.prog.depth T (n / Tryz.prog.cellsOf T) o 223 1=true) (hfz:w.frozen? ⟨b,o,none⟩=false):
  Calls Tryz.prog 222 #[.pointer (some ⟨b,o,none⟩)] w λe w'=>e= .returned (.tuple #[])/\w'=w.setCell ⟨b,o,none⟩ (.pointer (some ⟨b,o,none⟩)):=by
 obtain ⟨j,hj,hjs⟩:=bsize
 go_enter Tryz.func222,Tryz.ntmps222
 go_wp2
 rw [Lib.run_to_unsafe w ⟨b,o,none⟩ Tryz.underlying221 Tryz.underlying326 hj (by rw [hjs];decide) hsh hlt];simp only [Result.andThen];rw [Oper.upon_value]
 go_wp2
 rw [run_callFunc_extern Tryz.func266 (by kernel_rfl) (by kernel_rfl) (by kernel_rfl) (e:=Extern.AbiNoEscape.same) (by kernel_rfl)];rw [Lib.run_noEscape];simp only [Result.andThen];rw [Oper.upon_value]
 go_wp2
 rw [Lib.run_from_unsafe w ⟨b,o,none⟩ Tryz.underlying326 Tryz.underlying221 hj hsh hl];simp only [Result.andThen];rw [Oper.upon_value]
 go_wp2
 go_end0
 exact ⟨rfl,rfl⟩
end Go.Proofs.YtbmlikkofegdeaaGreatDoor
namespace Go.Proofs.YtbmlikkofegdeaaGreatDoor
open Go
section
variable {P : Program}
open Go.Lib
theorem zi1 (w:World) (base:Nat) (t u ty e:TypeId) (i:TypeInfo) (ht:P.underlying t=some (.slice e)) (hu:P.underlying u=some .string) (hi:P.info? e=some i) (hz:i.zero=some (.int .u8 0))
  (hsize:i.size=1) (hby:i.bytes=1)
  (v:Value) (n:Nat) (xs:List Value) (hown:w.ownsRow base e 1 v n xs) (s:ByteArray)
  (h63:n+s.size<=maxLen) (hbytes:n+s.size<=140737488355328) (hbase:base<=w.heap.size):
  ∃v' w',(Builtin.append_ #[t,u] ty #[v,.string s]).run P w= .ok v' w'/\w'.ownsRow base e 1 v' (n+s.size) (xs++strCells s)/\w.grownBy w' v.ownBlock/\
   ((∀g,v'.ownBlock=some g->v.ownBlock=some g\/(w.heap.size<=g/\g<w'.heap.size))/\(s.size=0->v'=v)):=by
 have hsmall:n+s.size<=9223372036854775807:=by simp only [maxLen] at h63;omega
 have hxl:xs.length=n:=by simpa using hown.1
 have hlen:(xs++strCells s).length=(n+s.size)*1:=by rw [List.length_append,hxl,strCells_length,Nat.mul_one]
 have grown:∀ (old:Nat),old<n+s.size->∀ (row:Option Nat),
   (w.drew.alloc (.cells (xs.toArray++(strCells s).toArray++Builtin.zeroCells (Value.int .u8 0).cells (grownCap w (n+s.size) old e - (n+s.size))) e)).ownsRow base e 1
    (.slice (some ⟨w.heap.size,0,none⟩) (n+s.size) (grownCap w (n+s.size) old e)) (n+s.size) (xs++strCells s)/\
   w.grownBy (w.drew.alloc (.cells (xs.toArray++(strCells s).toArray++Builtin.zeroCells (Value.int .u8 0).cells (grownCap w (n+s.size) old e - (n+s.size))) e)) row:=by
  intro old ho row;have hge:=grownCap_ge w (n+s.size) old e;have hcm:grownCap w (n+s.size) old e<=maxLen:=grownCap_le_maxLen w (n+s.size) old e h63;refine ⟨⟨hlen,.inr ⟨w.heap.size,_,_,rfl,hbase,Go.heap_alloc_new w.drew _,hge,hcm,?_,?_⟩⟩,⟨rfl,rfl,rfl,by simp,λk hk _=>Go.heap_alloc_old w.drew _ hk⟩⟩
  ·have hz1:(Value.int IntKind.u8 0).cells.size=1:=rfl;simp only [Array.size_append,List.size_toArray,size_zeroCells,hz1,hxl,strCells_length];omega
  ·simp only [Array.toList_append,List.append_assoc];rw [<-List.append_assoc,<-hlen];exact List.take_left
 rcases hown.2 with ⟨rfl,rfl⟩|⟨g,cap,cur,rfl,hbg,hg,hnc,hcm,hcs,htake⟩
 ·have hx:xs= []:=List.eq_nil_of_length_eq_zero hxl;subst hx;by_cases hm:s.size=0
  ·have hn:strCells s= []:=List.eq_nil_of_length_eq_zero (by rw [strCells_length];exact hm);refine ⟨.slice none 0 0,w,?_,by rw [hm,hn];exact World.ownsRow_nil w base e 1,⟨rfl,rfl,rfl,Nat.le_refl _,λ_ _ _=>rfl⟩,λg hg=> .inl hg,λ_=>rfl⟩;have hf:=run_firstCells_string (P:=P) w 1 s;rw [hm] at hf;simp [Builtin.append_,run_underlying ht,run_underlying hu,sizeOf,typeInfo,hi,hsize,Builtin.lenOf,hm,hf]
  ·have hr:=run_append_nil_string (P:=P) w t u ty e i (.int .u8 0) ht hu hi hz s (by omega) (by omega) (by rw [hby];omega);have hgr:=grown 0 (by omega) (Value.ownBlock (.slice none 0 0));simp only [Nat.zero_add,List.nil_append,Array.empty_append] at hgr ⊢
   have e1:(s.data.map λb=>Value.int .u8 b.toNat)=(strCells s).toArray:=by apply Array.ext';simp [strCells]
   rw [e1] at hr;exact ⟨_,_,hr,hgr.1,hgr.2,λg hg=> .inr (by simp [Value.ownBlock] at hg;subst hg;simp),λe=>absurd e hm⟩
 ·by_cases hroom:n+s.size<=cap
  ·have hcs':cur.size=cap:=by simpa using hcs
   have hr:=run_append_room_string (P:=P) w t u ty e i ht hu hi hsize g n cap cur hg s hroom (by omega);refine ⟨_,_,hr,⟨hlen,.inr ⟨g,cap,_,rfl,hbg,setRow_heap w g cur _ e _ hg,hroom,hcm,?_,?_⟩⟩,⟨rfl,rfl,rfl,by simp,λk _ hk=>setRow_other w g k _ (λe=>hk (by simp [Value.ownBlock,e]))⟩,λg hg=> .inl hg,λe=>by rw [e];rfl⟩
   ·simp only [List.size_toArray,List.length_append,List.length_take,List.length_drop,Array.length_toList,strCells_length];omega
   ·have ht':cur.toList.take n=xs:=by simpa using htake
    rw [ht',<-hlen];exact List.take_left
  ·have holds:∀j u,xs[j]?=some u->w.cell? ((⟨g,0,none⟩:Addr).add j)=some u:=hown.cells (g:=g) rfl;have hr:=run_append_grow_string (P:=P) w t u ty e i (.int .u8 0) ht hu hi hz ⟨g,0,none⟩ n cap xs (by rw [hsize];simpa using hxl) holds s (by omega) (by omega) (by rw [hby];exact growslice_fits (by omega) (by omega));have hgr:=grown cap (by omega) (Value.ownBlock (.slice (some ⟨g,0,none⟩) n cap));exact ⟨_,_,hr,hgr.1,hgr.2,λg hg=> .inr (by simp [Value.ownBlock] at hg;subst hg;simp),λe=>by omega⟩
theorem zgR (w:World) {ops:Array Oper} {rest:List Oper} {o:Oper} {a:Act} {Q:Exit->Act->World->Prop} (hgd:o.guard=none) (sl x:Operand) (t u:TypeId)
  (ho:o.op= .call { callee:= .builtin .append,args:= #[sl,x],argTypes:= #[t,u] })
  (base:Nat) (e:TypeId) (i:TypeInfo) (ht:P.underlying t=some (.slice e)) (hu:P.underlying u=some .string) (hi:P.info? e=some i) (hz:i.zero=some (.int .u8 0))
  (hsize:i.size=1) (hby:i.bytes=1)
  (v:Value) (n:Nat) (xs:List Value) (hs:a.eval sl=v) (hown:w.ownsRow base e 1 v n xs) (s:ByteArray) (hx:a.eval x= .string s)
  (h63:n+s.size<=maxLen) (hbytes:n+s.size<=140737488355328) (hbase:base<=w.heap.size)
  (h:∀v' w',w'.ownsRow base e 1 v' (n+s.size) (xs++strCells s)->w.grownBy w' v.ownBlock->((∀g,v'.ownBlock=some g->v.ownBlock=some g\/(w.heap.size<=g/\g<w'.heap.size))/\(s.size=0->v'=v))->wpList P ops Q rest (a.put o.dst v') w'):wpList P ops Q (o::rest) a w:=by refine wpList_plain hgd λK hK=>?_;obtain ⟨v',w',hr,h2,h3,h4⟩:=zi1 (P:=P) w base t u o.type e i ht hu hi hz hsize hby v n xs hown s h63 hbytes hbase;unfold Oper.wp execOp;simp only [ho,resolve,invoke,builtin,Sem.run_bind,Sem.run_pure,Result.andThen_ok,List.map_toArray,List.map_cons,List.map_nil,hs,hx,hr];exact hK _ _ (h v' w' h2 h3 h4)
end
open Go.RowKit
theorem zjO {w:World} {b o o':Nat} {v:Value} (h:o≠o'):(w.setCell ⟨b,o,none⟩ v).cell? ⟨b,o',none⟩=w.cell? ⟨b,o',none⟩:=by
 unfold World.setCell World.cell?;simp only [Array.getElem?_modify,if_true];cases w.heap[b]? with
 |none=>rfl
 |some ob=>
  cases ob<;>simp [Array.getElem?_setIfInBounds_ne h]
theorem zhV {w:World} {b o o':Nat} {v:Value} :(w.setCell ⟨b,o,none⟩ v).frozen? ⟨b,o',none⟩=w.frozen? ⟨b,o',none⟩:=by
 unfold World.setCell World.frozen?;simp only [Array.getElem?_modify,if_true];cases w.heap[b]? with
 |none=>rfl
 |some ob=>
  cases ob<;>simp
theorem zod {w:World} {e:TypeId} {v:Value} {k:Nat} {bs:List Value} {b o:Nat} {x:Value} (h:w.ownsRow 0 e 1 v k bs) (hne:v.ownBlock≠some b):(w.setCell ⟨b,o,none⟩ x).ownsRow 0 e 1 v k bs:=by
 refine ⟨h.1,?_⟩;rcases h.2 with hn|⟨g,cap,cur,rfl,hb,hgg,rest⟩
 ·exact .inl hn
 ·refine .inr ⟨g,cap,cur,rfl,hb,?_,rest⟩;have:b≠g:=λe=>hne (by simp [Value.ownBlock,e]);unfold World.setCell;rw [Array.getElem?_modify,if_neg this];exact hgg
theorem zqT (b o n:Nat) (T:TypeId) (w:World) (h0:w.cell? ⟨b,o,none⟩=some (.pointer none)\/w.cell? ⟨b,o,none⟩=some (.pointer (some ⟨b,o,none⟩))) (hsh:w.shape? b=some (T,n)) (hlt:o<n) (hl:liesAt Tryz.prog Tryz.prog.depth T (n / Tryz.prog.cellsOf T) o 223 1=true) (hfz:w.frozen? ⟨b,o,none⟩=false):
  Calls Tryz.prog 222 #[.pointer (some ⟨b,o,none⟩)] w λe w'=>e= .returned (.tuple #[])/\((w'=w/\w.cell? ⟨b,o,none⟩=some (.pointer (some ⟨b,o,none⟩)))\/w'=w.setCell ⟨b,o,none⟩ (.pointer (some ⟨b,o,none⟩))):=by
 rcases h0 with h0|h0
 ·refine (zqS b o n T w h0 hsh hlt hl hfz).mono ?_;rintro e w' ⟨rfl,rfl⟩;exact ⟨rfl,.inr rfl⟩
 ·refine (zs0 b o w h0).mono ?_;rintro e w' ⟨rfl,rfl⟩;exact ⟨rfl,.inl ⟨rfl,h0⟩⟩
theorem zoe (b o n:Nat) (T:TypeId) (w:World) (v:Value) (k:Nat) (bs:List Value) (s:ByteArray) (h0:w.cell? ⟨b,o,none⟩=some (.pointer none)\/w.cell? ⟨b,o,none⟩=some (.pointer (some ⟨b,o,none⟩))) (h1:w.cell? ⟨b,o+1,none⟩=some v)
  (hsh:w.shape? b=some (T,n)) (hlt:o<n) (hl:liesAt Tryz.prog Tryz.prog.depth T (n / Tryz.prog.cellsOf T) o 223 1=true) (hfz:w.frozen? ⟨b,o,none⟩=false) (hfz1:w.frozen? ⟨b,o+1,none⟩=false)
  (hown:w.ownsRow 0 5 1 v k bs) (hne:v.ownBlock≠some b) (hlen:k+s.size<=140737488355328):
  Calls Tryz.prog 166 #[.pointer (some ⟨b,o,none⟩),.string s] w λe w'=>e= .returned (.tuple #[.int .i64 s.size,.nilIface])/\
   ∃w1 v' w2,((w1=w/\w.cell? ⟨b,o,none⟩=some (.pointer (some ⟨b,o,none⟩)))\/w1=w.setCell ⟨b,o,none⟩ (.pointer (some ⟨b,o,none⟩)))/\w2.ownsRow 0 5 1 v' (k+s.size) (bs++Lib.strCells s)/\w1.grownBy w2 v.ownBlock/\((∀g,v'.ownBlock=some g->v.ownBlock=some g\/(w1.heap.size<=g/\g<w2.heap.size))/\(s.size=0->v'=v))/\w'=w2.setCell ⟨b,o+1,none⟩ v':=by
 obtain ⟨i0,hi,hz0⟩:=Option.map_eq_some_iff.1 (show (Tryz.prog.info? 5).map (λi=>(i.zero,i.size,i.bytes))=some (some (.int .u8 0),1,1) by kernel_rfl);simp only [Prod.mk.injEq] at hz0;obtain ⟨hz0,hz1,hz2⟩:=hz0
 go_enter Tryz.func166,Tryz.ntmps166
 go_wp2_with (go_at_call 222;refine (zqT b o n T _ h0 hsh hlt hl hfz).mono ?_)
 rintro e w1 ⟨rfl,hw1⟩
 have c1:w1.cell? ⟨b,o+1,none⟩=some v:=by
  rcases hw1 with ⟨rfl,_⟩|rfl
  ·exact h1
  ·rw [zjO (by omega)];exact h1
 have f1:w1.frozen? ⟨b,o+1,none⟩=false:=by
  rcases hw1 with ⟨rfl,_⟩|rfl
  ·exact hfz1
  ·rw [zhV];exact hfz1
 have hown1:w1.ownsRow 0 5 1 v k bs:=by
  rcases hw1 with ⟨rfl,_⟩|rfl
  ·exact hown
  ·exact zod hown hne
 go_wp2_with (at_builtin;refine zgR _ rfl _ _ 166 9 rfl 0 5 i0 Tryz.underlying166 Tryz.underlying9 hi hz0 hz1 hz2 _ _ _ rfl hown1 s rfl ?c3 ?c4 ?c5 ?_)
 case c3=>unfold maxLen;omega
 case c4=>omega
 case c5=>omega
 intro v' w2 hown' hgrow hnew hnew2
 have hlt1:b<w1.heap.size:=by
  rcases Nat.lt_or_ge b w1.heap.size with h'|h'
  ·exact h'
  ·simp [World.cell?,Array.getElem?_eq_none h'] at c1
 have hb2:w2.heap[b]?=w1.heap[b]?:=hgrow.block b hlt1 (λe=>hne e.symm)
 have d1:w2.cell? ⟨b,o+1,none⟩=some v:=by rw [<-c1];simp only [World.cell?,hb2]
 have f2:w2.frozen? ⟨b,o+1,none⟩=false:=by rw [<-f1];simp only [World.frozen?,hb2]
 obtain ⟨ao,n',cap,rfl⟩:∃ao n' cap,v'= .slice ao n' cap:=by
  rcases hown'.2 with ⟨hv,_⟩|⟨g,cap,cur,hv,_⟩
  ·exact ⟨_,_,_,hv⟩
  ·exact ⟨_,_,_,hv⟩
 go_wp2
 go_ret2
 exact ⟨rfl,w1,_,w2,hw1,hown',hgrow,⟨hnew,λe=>hnew2 (by simpa using e)⟩,rfl⟩
end Go.Proofs.YtbmlikkofegdeaaGreatDoor
namespace Go.Proofs.YtbmlikkofegdeaaGreatDoor
open Go Go.RowKit
theorem zfv (W:World) (q:Option Addr):(Builtin.unsafeString_ #[286,3] 9 #[.pointer q,.int .i64 0]).run Tryz.prog W= .ok (.string .empty) W:=
 Lib.run_unsafeString_none W _ _ _ q
theorem zfw (w:World) (row:Option Nat):w.grownBy w.drew row:=⟨rfl,rfl,rfl,Nat.le_refl _,λ_ _ _=>rfl⟩
theorem zjP (w:World) (g n:Nat):w.grownBy (w.drew.freeze ⟨g,0,none⟩ n) (some g):=by
 unfold World.freeze;split
 ·exact zfw w _
 ·refine ⟨rfl,rfl,rfl,by simp,λk hk hne=>?_⟩;simp only [Array.getElem?_modify];rw [if_neg (λe=>hne (by rw [e]))];rfl
theorem zqU (b o:Nat) (w:World) (h1:w.cell? ⟨b,o+1,none⟩=some (.slice none 0 0)):
  Calls Tryz.prog 168 #[.pointer (some ⟨b,o,none⟩)] w λe w'=>e= .returned (.string ⟨#[]⟩)/\w.grownBy w' none:=by
 have hUS:=zfv;have c1:w.drew.cell? ⟨b,o+1,none⟩=some (.slice none 0 0):=h1;have hSD:(Builtin.unsafeSliceData_ #[166] 286 #[.slice none 0 0]).run Tryz.prog w.drew= .ok (.pointer none) w.drew:=rfl
 go_enter Tryz.func168,Tryz.ntmps168
 go_wp2
 go_region
 all_goals (go_wp2;go_ret;exact ⟨rfl,zfw w none⟩)
theorem zof (b o g cap:Nat) (w:World) (hc0:cap≠0) (h1:w.cell? ⟨b,o+1,none⟩=some (.slice (some ⟨g,0,none⟩) 0 cap)):
  Calls Tryz.prog 168 #[.pointer (some ⟨b,o,none⟩)] w λe w'=>e= .returned (.string ⟨#[]⟩)/\w.grownBy w' (some g):=by
 have hUS:=zfv;have c1:w.drew.cell? ⟨b,o+1,none⟩=some (.slice (some ⟨g,0,none⟩) 0 cap):=h1
 have hSD:(Builtin.unsafeSliceData_ #[166] 286 #[.slice (some ⟨g,0,none⟩) 0 cap]).run Tryz.prog w.drew= .ok (.pointer (some ⟨g,0,none⟩)) w.drew:=
  Lib.run_unsafeSliceData_row _ _ _ _ _ _ hc0
 clear hc0
 go_enter Tryz.func168,Tryz.ntmps168
 go_wp2
 go_region
 all_goals (go_wp2;go_ret;exact ⟨rfl,zfw w _⟩)
theorem zlr (b o g:Nat) (cur:Array Value) (w:World) (h1:w.cell? ⟨b,o+1,none⟩=some (.slice (some ⟨g,0,none⟩) 0 0)) (hg:w.heap[g]?=some (.cells cur 5 (0,0))):
  Calls Tryz.prog 168 #[.pointer (some ⟨b,o,none⟩)] w λe w'=>e= .returned (.string ⟨#[]⟩)/\w.grownBy w' (some g):=by
 have hUS:=zfv
 have hlt:b<w.heap.size:=by
  rcases Nat.lt_or_ge b w.heap.size with h'|h'
  ·exact h'
  ·simp [World.cell?,Array.getElem?_eq_none h'] at h1
 have c1:w.drew.cell? ⟨b,o+1,none⟩=some (.slice (some ⟨g,0,none⟩) 0 0):=h1
 have hSD:(Builtin.unsafeSliceData_ #[166] 286 #[.slice (some ⟨g,0,none⟩) 0 0]).run Tryz.prog w.drew= .ok (.pointer (some ⟨w.drew.heap.size,0,none⟩)) (w.drew.alloc (.view ⟨g,0,none⟩ 5)):=
  Lib.run_unsafeSliceData_zero w.drew _ _ 5 Tryz.underlying286 ⟨g,0,none⟩ 0 (5,cur.size) (by have hg':w.drew.heap[g]?=some (.cells cur 5 (0,0)):=hg;simp [World.shape?,hg'])
 have c2:(w.drew.alloc (.view ⟨g,0,none⟩ 5)).cell? ⟨b,o+1,none⟩=some (.slice (some ⟨g,0,none⟩) 0 0):=by rw [<-c1];simp only [World.cell?];rw [Lib.alloc_old w.drew _ b hlt]
 have c3:(w.alloc (.view ⟨g,0,none⟩ 5)).drew.cell? ⟨b,o+1,none⟩=some (.slice (some ⟨g,0,none⟩) 0 0):=c2
 go_enter Tryz.func168,Tryz.ntmps168
 go_wp2
 go_region
 all_goals (go_wp2;go_ret;exact ⟨rfl,⟨rfl,rfl,rfl,by simp,λk hk _=>Lib.alloc_old w.drew _ k hk⟩⟩)
theorem zog (b o g cap:Nat) (cur:Array Value) (l:List UInt8) (w:World) (h0:l≠ []) (h1:w.cell? ⟨b,o+1,none⟩=some (.slice (some ⟨g,0,none⟩) l.length cap))
  (hown:w.ownsRow 0 5 1 (.slice (some ⟨g,0,none⟩) l.length cap) l.length (Lib.byteCells l)):
  Calls Tryz.prog 168 #[.pointer (some ⟨b,o,none⟩)] w λe w'=>e= .returned (.string ⟨l.toArray⟩)/\w.grownBy w' (some g):=by
 have hl0:l.length≠0:=by simpa using h0
 obtain ⟨cur,hg,hnc,hcm,hcs,htake⟩:∃cur,w.heap[g]?=some (.cells cur 5 (0,0))/\l.length<=cap/\cap<=maxLen/\cur.size=cap*1/\cur.toList.take (l.length*1)=Lib.byteCells l:=by
  rcases hown.2 with ⟨_,hz⟩|⟨g',cap',cur,hv,r0,r⟩
  ·exact absurd hz hl0
  ·cases hv;exact ⟨cur,r⟩
 have c1:w.drew.cell? ⟨b,o+1,none⟩=some (.slice (some ⟨g,0,none⟩) l.length cap):=h1
 have hSD:(Builtin.unsafeSliceData_ #[166] 286 #[.slice (some ⟨g,0,none⟩) l.length cap]).run Tryz.prog w.drew= .ok (.pointer (some ⟨g,0,none⟩)) w.drew:=
  Lib.run_unsafeSliceData_row _ _ _ _ _ _ (by omega)
 have hUS:(Builtin.unsafeString_ #[286,3] 9 #[.pointer (some ⟨g,0,none⟩),.int .i64 l.length]).run Tryz.prog w.drew= .ok (.string ⟨l.toArray⟩) (w.drew.freeze ⟨g,0,none⟩ l.length):=by refine Lib.run_unsafeString_row w.drew 286 3 9 5 Tryz.underlying286 (by kernel_rfl) g cur.size (by have hg':w.drew.heap[g]?=some (.cells cur 5 (0,0)):=hg;simp [World.shape?,hg']) l h0 (by omega) (by unfold maxLen at hcm;omega) ?_;intro j x hx;have:=hown.cells (g:=g) rfl j (.int .u8 x.toNat) (by simp [Lib.byteCells,hx]);exact this
 clear h0 hown
 go_enter Tryz.func168,Tryz.ntmps168
 go_wp2
 go_region
 all_goals (go_wp2;go_ret;exact ⟨rfl,zjP w g _⟩)
theorem zmM (b o:Nat) (w:World) (v:Value) (l:List UInt8) (h1:w.cell? ⟨b,o+1,none⟩=some v) (hown:w.ownsRow 0 5 1 v l.length (Lib.byteCells l)):
  Calls Tryz.prog 168 #[.pointer (some ⟨b,o,none⟩)] w λe w'=>e= .returned (.string ⟨l.toArray⟩)/\w.grownBy w' v.ownBlock:=by
 rcases hown.2 with ⟨rfl,hz⟩|⟨g,cap,cur,rfl,_,hg,hnc,hcm,hcs,htake⟩
 ·have:l= []:=List.length_eq_zero_iff.1 hz;subst this;exact zqU b o w h1
 ·by_cases hl:l= []
  ·subst hl;by_cases hc:cap=0
   ·subst hc;exact zlr b o g cur w h1 hg
   ·exact zof b o g cap w hc h1
  ·exact zog b o g cap cur l w hl h1 hown
end Go.Proofs.YtbmlikkofegdeaaGreatDoor
