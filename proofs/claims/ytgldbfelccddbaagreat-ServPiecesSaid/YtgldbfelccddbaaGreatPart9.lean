/-
 Parts of the proof: lemmas.
-/
import Derived.Test.YtgldbfelccddbaaGreatPart7
set_option maxRecDepth 100000
set_option maxHeartbeats 2000000
set_option linter.unusedSimpArgs false
set_option linter.unusedVariables false
namespace Go.Proofs
open Go.Shelf
def Tryz.lays137_ren:Go.Shelf.Ren:=⟨fun|137=>353|217=>394|266=>429|n=>n,fun|9=>9|5=>5|3=>3|n=>n,fun|n=>n⟩
theorem Tryz.lays137:Go.Proofs.Lays.n137 Tryz.prog Tryz.lays137_ren:= {
 mixed:=ad
 f137:=Tryz.func353.trans (congrArg some ad)
 f217:=Tryz.func394.trans (congrArg some ad)
 f266:=Tryz.func429.trans (congrArg some ad)
 t3:=Tryz.underlying3
 a3:=Tryz.isAgg3
 z3:=Tryz.sizeOf3
 v3:=Tryz.zeroValue3
 t5:=Tryz.underlying5
 a5:=Tryz.isAgg5
 z5:=Tryz.sizeOf5
 v5:=Tryz.zeroValue5
 t9:=Tryz.underlying9
 a9:=Tryz.isAgg9
 z9:=Tryz.sizeOf9
 v9:=Tryz.zeroValue9 }
open Go.RowKit in
theorem Tryz.strings_IndexByte (s:ByteArray) (c:Int) (w:World):
  Calls Tryz.prog 353 #[.string s,.int .u8 c] w fun e w'=>e= .returned (.int .i64 (Lib.indexByte s.data.toList c.toNat.toUInt8))∧w'=w:=Any.strings_IndexByte Tryz.lays137 s c w
end Go.Proofs
namespace Go.Aw
open Go Go.Proofs Go.RowKit
theorem zii {P:Program} {f:FuncId} {args:List AV} {r:AV} {v:Value} (hen:zdG P f) (h:∀E w (vs:Array Value),Reps w E [] args vs.toList→Calls P f vs w (fun e w'=>e= .returned v∧Below w.heap.size w w')) (hr:∀w E,Rep w E [] r v):ACall P f 0 args [] (fun r' _=>r'=r):=by
 refine ⟨hen,fun E w vs hs hra=>(h E w vs hra).mono ?_⟩
 rintro e w' ⟨rfl,hb⟩
 have hno:∀b,¬Own E [] b:=fun b ⟨i,hi,_⟩=>av
 refine ⟨v,E,r,[],rfl,rfl,⟨fun i o ho=>aP,fun i j b h1=>bp,fun b hb=>absurd hb (hno b),fun b hm=>Nat.lt_of_lt_of_le (hs.mlt b hm) hb.size,fun b hm=>Nat.lt_of_lt_of_le (hs.nlt b hm) hb.size⟩,hr w' E,?_⟩
 exact ⟨hb.os,hb.tape,hb.output,hb.size,fun k hk _=>hb.block k hk,fun b ho=> .inl ho,rfl,rfl,fun i _ hi=>av⟩
theorem zvl (n:Nat) (hn:n≤140737488355328):ACall Tryz.prog 253 0 [.d (.str [0]),.d (.int .i64 n)] [] (fun r _=>r= .d (.str (List.replicate n 0))):=by
 refine zii (v:= .string ⟨(List.replicate n 0).toArray⟩) (zdp Tryz.func253 ad rfl) ?_ (fun w E=>aK)
 intro E w vs hr
 simp only [Reps,Rep,RepD] at hr
 obtain ⟨v1,r1,e1,rfl,v2,r2,rfl,rfl,rfl⟩:=hr
 have hvs:vs= #[.string ⟨#[0]⟩,.int .i64 n]:=by cases vs;simpa using e1
 subst hvs
 have:=Tryz.strings_Repeat ⟨#[0]⟩ n w U (by simpa [ByteArray.size] using hn)
 refine this.mono ?_
 rintro e w' ⟨rfl,hb⟩
 refine ⟨?_,hb⟩
 have:=Lib.repeatL_replicate 0 1 n
 simp only [List.replicate_one,Nat.mul_one,Nat.one_mul] at this
 show Ending.returned (.string ⟨(Lib.repeatL [0] n).toArray⟩)=_
 rw [this]
end Go.Aw
namespace Go.Proofs.YtgldbfelccddbaaGreat
open Go Go.RowKit
end Go.Proofs.YtgldbfelccddbaaGreat
namespace Go.Aw
open Go Go.Proofs
section
variable {P : Program} {w w' : World} {E E' : Env} {h h' : AHeap}
end
section
variable {h : AHeap}
end
open Go Go.Proofs
def bitT (c:Int):Int:=ibits .xor .u32 (ishr .u32 c 1) (IntKind.u32.wrap (ibits .and .u32 c 1*2197175160))
def bitsT:Nat→Int→Int
 |0,c=>c
 |n+1,c=>bitT (bitsT n c)
def tabF (j:Nat):Int:=bitsT 8 (IntKind.u32.wrap j)
open Go Go.Proofs
def byteS (c:Int) (b:UInt8):Int:=ibits .xor .u32 (tabF (ibits .xor .u8 (IntKind.u8.wrap c) b.toNat).toNat) (ishr .u32 c 8)
def sumS (c:Int) (l:List UInt8):Int:=l.foldl byteS c
def notS (c:Int):Int:=ibits .xor .u32 (if IntKind.u32.signed then -1 else IntKind.u32.max) c
def sumOf (c:Int) (l:List UInt8):Int:=notS (sumS (notS c) l)
def zeD (c:Int) (j:Nat):Int:=IntKind.u8.wrap (ishr .u32 c (IntKind.i64.wrap (24 - IntKind.i64.wrap (8*(j:Int)))))
def zgh (c:Int):List UInt8:= [UInt8.ofNat (zeD c 0).toNat,UInt8.ofNat (zeD c 1).toNat,UInt8.ofNat (zeD c 2).toNat,UInt8.ofNat (zeD c 3).toNat]
open Go Go.Proofs
open Go Go.Proofs
theorem zvI (n k:Nat) (hk:k≤32):ishr .u32 (n:Int) (k:Int)=((n / 2 ^ k:Nat):Int):=by
 unfold ishr
 rw [show min ((k:Int).toNat) IntKind.u32.bits=k by show min ((k:Int).toNat) 32=k;omega]
 rw [Int.fdiv_eq_ediv_of_nonneg _ (Int.le_of_lt (Int.pow_pos ae))]
 norm_cast
abbrev B32:=BitVec 32
def polyB:B32:=2197175160#32
def bT (x:B32):B32:=(x>>>1) ^^^ (if x.getLsbD 0 then polyB else 0#32)
def bN:Nat→B32→B32
 |0,x=>x
 |n+1,x=>bT (bN n x)
def u8B (b:UInt8):B32:=BitVec.ofNat 32 b.toNat
def stepB (c:B32) (b:UInt8):B32:=bN 8 (c ^^^ u8B b)
def sumB (c:B32) (l:List UInt8):B32:=l.foldl stepB c
theorem xor4 (a b c d:B32):(a ^^^ b) ^^^ (c ^^^ d)=(a ^^^ c) ^^^ (b ^^^ d):=by ac_rfl
theorem zyM (x y:B32):bT (x ^^^ y)=bT x ^^^ bT y:=by
 unfold bT
 rw [BitVec.ushiftRight_xor_distrib,xor4 (x>>>1)]
 congr 1
 rw [BitVec.getLsbD_xor]
 cases x.getLsbD 0<;>cases y.getLsbD 0<;>simp
theorem zjE (n:Nat) (x y:B32):bN n (x ^^^ y)=bN n x ^^^ bN n y:=by
 induction n with
 |zero=>rfl
 |succ n ih=>simp only [bN,ih,zyM]
theorem zyN (x:B32):(bT x).getLsbD 31=x.getLsbD 0:=by
 unfold bT
 rw [BitVec.getLsbD_xor]
 have h1:(x>>>1).getLsbD 31=false:=aa
 rw [h1]
 cases x.getLsbD 0<;>simp<;>decide
theorem zxI (x:B32) (h:bT x=0#32):x=0#32:=by
 have h0:x.getLsbD 0=false:=by rw [← zyN,h];simp
 unfold bT at h
 rw [h0] at h
 simp only [Bool.false_eq_true,if_false,BitVec.xor_zero] at h
 apply BitVec.eq_of_getLsbD_eq
 intro i hi
 cases i with
 |zero=>simpa using h0
 |succ i=>
  have:=congrArg (fun y:B32=>y.getLsbD i) h
  simpa [Nat.add_comm] using this
theorem zs8 (n:Nat) (x:B32) (h:bN n x=0#32):x=0#32:=by
 induction n with
 |zero=>exact h
 |succ n ih=>exact ih (zxI _ h)
theorem zmn (m n:Nat) (x:B32):bN (m+n) x=bN m (bN n x):=by
 induction m with
 |zero=>rw [Nat.zero_add];rfl
 |succ m ih=>rw [Nat.succ_add];simp only [bN,ih]
theorem zpG (n:Nat):∀ (x:B32),(∀i,i<n→x.getLsbD i=false)→bN n x=x>>>n:=by
 induction n with
 |zero=>intro x _;simp [bN]
 |succ n ih=>
  intro x h
  simp only [bN]
  rw [ih x (fun i hi=>h i U)]
  unfold bT
  have:(x>>>n).getLsbD 0=false:=by simpa using h n U
  rw [this]
  simp only [Bool.false_eq_true,if_false,BitVec.xor_zero]
  rw [← BitVec.shiftRight_add]
def low8 (x:B32):B32:=x&&& 255#32
def high8 (x:B32):B32:=x&&& 4294967040#32
theorem zvJ (x:B32):x=low8 x ^^^ high8 x:=by
 have e:(4294967040#32)= ~~~(255#32):=ae
 unfold low8 high8
 rw [e]
 apply BitVec.eq_of_getLsbD_eq
 intro i hi
 simp only [BitVec.getLsbD_xor,BitVec.getLsbD_and,BitVec.getLsbD_not,hi,decide_true,Bool.true_and]
 cases x.getLsbD i<;>cases (255#32).getLsbD i<;>rfl
theorem zs9 (x:B32) (i:Nat) (hi:i<8):(high8 x).getLsbD i=false:=by
 unfold high8
 rw [BitVec.getLsbD_and]
 have:∀i,i<8→(4294967040#32).getLsbD i=false:=ae
 rw [this i hi,Bool.and_false]
theorem znZ (x:B32):high8 x>>>8=x>>>8:=by
 unfold high8
 apply BitVec.eq_of_getLsbD_eq
 intro i hi
 simp only [BitVec.getLsbD_ushiftRight,BitVec.getLsbD_and]
 by_cases h:8+i<32
 ·have:∀i,i<24→(4294967040#32).getLsbD (8+i)=true:=by decide
  rw [this i U,Bool.and_true]
 ·rw [BitVec.getLsbD_of_ge x _ U,Bool.false_and]
theorem zta (x:B32):bN 8 x=bN 8 (low8 x) ^^^ (x>>>8):=by
 conv=>lhs;rw [zvJ x]
 rw [zjE,zpG 8 (high8 x) (zs9 x),znZ]
theorem zvK (b:UInt8):u8B b>>>8=0#32:=by
 have:=b.toNat_lt
 apply BitVec.eq_of_toNat_eq
 simp [u8B,Nat.shiftRight_eq_div_pow]
 omega
theorem zxJ (b:UInt8):low8 (u8B b)=u8B b:=by
 have:=b.toNat_lt
 apply BitVec.eq_of_toNat_eq
 simp only [low8,u8B,BitVec.toNat_and,BitVec.toNat_ofNat]
 rw [show 255 % 2 ^ 32=2 ^ 8 - 1 by decide,Nat.and_two_pow_sub_one_eq_mod]
 omega
theorem ztb (c:B32) (b:UInt8):stepB c b=bN 8 (low8 c ^^^ u8B b) ^^^ (c>>>8):=by
 unfold stepB
 rw [zta]
 have h1:low8 (c ^^^ u8B b)=low8 c ^^^ u8B b:=by
  conv=>rhs;rw [← zxJ b]
  unfold low8
  apply BitVec.eq_of_getLsbD_eq
  intro i hi
  simp only [BitVec.getLsbD_xor,BitVec.getLsbD_and]
  cases c.getLsbD i<;>cases (u8B b).getLsbD i<;>cases (255#32).getLsbD i<;>rfl
 rw [h1,BitVec.ushiftRight_xor_distrib,zvK,BitVec.xor_zero]
theorem zxK (a b:UInt8):u8B (a ^^^ b)=u8B a ^^^ u8B b:=by
 apply BitVec.eq_of_toNat_eq
 have:=a.toNat_lt
 have:=b.toNat_lt
 have h:=Nat.xor_lt_two_pow (n:=32) (x:=a.toNat) (y:=b.toNat) U U
 simp only [u8B,BitVec.toNat_xor,BitVec.toNat_ofNat,UInt8.toNat_xor]
 rw [Nat.mod_eq_of_lt U,Nat.mod_eq_of_lt U,Nat.mod_eq_of_lt U]
def xorL (a b:List UInt8):List UInt8:=List.zipWith (· ^^^ ·) a b
theorem ztc (c d:B32) (a b:UInt8):stepB (c ^^^ d) (a ^^^ b)=stepB c a ^^^ stepB d b:=by
 unfold stepB
 rw [zxK,xor4,zjE]
theorem zkN:∀ (a b:List UInt8) (c d:B32),a.length=b.length→sumB (c ^^^ d) (xorL a b)=sumB c a ^^^ sumB d b
 | [],[],c,d,_=>rfl
 |x::a,y::b,c,d,h=>by
  simp only [xorL,List.zipWith_cons_cons,sumB,List.foldl_cons]
  rw [ztc]
  exact zkN a b _ _ aM
 | [],_::_,_,_,h=>aY
 |_::_,[],_,_,h=>aY
theorem zdv (c:B32) (a b:List UInt8):sumB c (a++b)=sumB (sumB c a) b:=by simp [sumB,List.foldl_append]
theorem zqK (n:Nat) (c:B32):sumB c (List.replicate n 0)=bN (8*n) c:=by
 induction n generalizing c with
 |zero=>rfl
 |succ n ih=>
  rw [List.replicate_succ]
  simp only [sumB,List.foldl_cons]
  have:stepB c 0=bN 8 c:=by simp [stepB,u8B]
  rw [this]
  have:=ih (bN 8 c)
  unfold sumB at this
  rw [this,← zmn,Nat.mul_succ]
theorem sum4 (p q r s:UInt8):sumB 0#32 [p,q,r,s]=bN 32 (u8B p ^^^ (u8B q<<<8) ^^^ (u8B r<<<16) ^^^ (u8B s<<<24)):=by
 have sh:∀ (b:UInt8) (k:Nat),k≤24→bN k (u8B b<<<k)=u8B b:=fun b k hk=>by
  rw [zpG k _ (fun i hi=>by rw [BitVec.getLsbD_shiftLeft];simp [hi])]
  have:=b.toNat_lt
  apply BitVec.eq_of_toNat_eq
  simp only [u8B,BitVec.toNat_ushiftRight,BitVec.toNat_shiftLeft,BitVec.toNat_ofNat]
  rw [Nat.mod_eq_of_lt (show b.toNat<2 ^ 32 by omega),Nat.shiftLeft_eq,Nat.shiftRight_eq_div_pow]
  have h2:b.toNat*2 ^ k<2 ^ 32:=by
   have:(2:Nat) ^ k≤2 ^ 24:=Nat.pow_le_pow_right U hk
   calc b.toNat*2 ^ k≤b.toNat*2 ^ 24:=Nat.mul_le_mul_left _ this
    _<2 ^ 32:=U
  rw [Nat.mod_eq_of_lt h2,Nat.mul_div_cancel _ (Nat.pow_pos U)]
 simp only [sumB,List.foldl_cons,List.foldl_nil,stepB,BitVec.zero_xor]
 rw [zjE 32,zjE 32,zjE 32]
 rw [show bN 32 (u8B s<<<24)=bN 8 (u8B s) from (zmn 8 24 _).trans (congrArg (bN 8) (sh s 24 U))]
 rw [show bN 32 (u8B r<<<16)=bN 16 (u8B r) from (zmn 16 16 _).trans (congrArg (bN 16) (sh r 16 U))]
 rw [show bN 32 (u8B q<<<8)=bN 24 (u8B q) from (zmn 24 8 _).trans (congrArg (bN 24) (sh q 8 U))]
 simp only [zjE,← zmn]
theorem unlike (c:B32) (a m n z:List UInt8) (p q r s:UInt8) (hm:m=xorL n [p,q,r,s]) (hn:n.length=4) (h0:u8B p ^^^ (u8B q<<<8) ^^^ (u8B r<<<16) ^^^ (u8B s<<<24)≠0#32):sumB c (a++n++z)≠sumB c (a++m++z):=by
 intro h
 rw [zdv,zdv,zdv,zdv] at h
 subst hm
 have e1:sumB (sumB c a) (xorL n [p,q,r,s])=sumB (sumB c a) n ^^^ sumB 0#32 [p,q,r,s]:=by
  have:=zkN n [p,q,r,s] (sumB c a) 0#32 (by simpa using hn)
  rwa [BitVec.xor_zero] at this
 rw [e1] at h
 have zz:∀z:List UInt8,xorL z (List.replicate z.length 0)=z:=by
  intro z
  induction z with
  |nil=>rfl
  |cons x z ih=>
   rw [List.length_cons,List.replicate_succ]
   simp only [xorL,List.zipWith_cons_cons]
   unfold xorL at ih
   rw [ih];simp
 have e2:=zkN z (List.replicate z.length 0) (sumB (sumB c a) n) (sumB 0#32 [p,q,r,s]) aa
 rw [zz,zqK] at e2
 rw [e2] at h
 have h3:bN (8*z.length) (sumB 0#32 [p,q,r,s])=0#32:=by
  have:=congrArg (fun x=>sumB (sumB (sumB c a) n) z ^^^ x) h
  simp only [BitVec.xor_self,← BitVec.xor_assoc,BitVec.zero_xor] at this
  exact this.symm
 have h4:=zs8 _ _ h3
 rw [sum4] at h4
 exact h0 (zs8 _ _ h4)
def toI (x:B32):Int:=x.toNat
theorem zmo (n:Nat) (h:n<4294967296):toI (BitVec.ofNat 32 n)=n:=by
 unfold toI
 rw [BitVec.toNat_ofNat,Nat.mod_eq_of_lt h]
theorem ofI (c:Int) (h0:0≤c) (h1:c≤4294967295):∃x:B32,c=toI x:=
 ⟨BitVec.ofNat 32 c.toNat,by rw [zmo _ U];omega⟩
theorem zpH (x:B32):BitVec.ofInt 32 (toI x)=x:=by
 unfold toI
 rw [BitVec.ofInt_natCast]
 simp
theorem zd2 (x y:B32):ibits .xor .u32 (toI x) (toI y)=toI (x ^^^ y):=by
 show IntKind.u32.wrap ((BitVec.ofInt 32 (toI x) ^^^ BitVec.ofInt 32 (toI y)).toNat:Int)=_
 rw [zpH,zpH]
 have:=(x ^^^ y).isLt
 unfold toI
 rw [IntKind.wrap_u32]
 omega
theorem ztd (x y:B32):ibits .and .u32 (toI x) (toI y)=toI (x&&& y):=by
 show IntKind.u32.wrap ((BitVec.ofInt 32 (toI x)&&& BitVec.ofInt 32 (toI y)).toNat:Int)=_
 rw [zpH,zpH]
 have:=(x&&& y).isLt
 unfold toI
 rw [IntKind.wrap_u32]
 omega
theorem zhM (x:B32) (k:Nat) (hk:k≤32):ishr .u32 (toI x) (k:Int)=toI (x>>>k):=by
 unfold toI
 rw [zvI _ _ hk,BitVec.toNat_ushiftRight,Nat.shiftRight_eq_div_pow]
theorem zvL (x:B32):bitT (toI x)=toI (bT x):=by
 unfold bitT bT
 have h1:(1:Int)=toI 1#32:=ae
 have hs:ishr .u32 (toI x) 1=toI (x>>>1):=zhM x 1 U
 rw [hs]
 have ha:ibits .and .u32 (toI x) 1=toI (x&&& 1#32):=by rw [h1,ztd]
 rw [ha]
 have hb:x&&& 1#32=if x.getLsbD 0 then 1#32 else 0#32:=by
  apply BitVec.eq_of_getLsbD_eq
  intro i hi
  rw [BitVec.getLsbD_and]
  cases i with
  |zero=>cases x.getLsbD 0<;>rfl
  |succ i=>
   have:(1#32).getLsbD (i+1)=false:=by simp [BitVec.getLsbD_one]
   rw [this,Bool.and_false]
   split<;>simp
 rw [hb]
 cases x.getLsbD 0
 ·simp only [Bool.false_eq_true,if_false]
  rw [show IntKind.u32.wrap (toI 0#32*2197175160)=toI 0#32 by decide,zd2]
 ·simp only [if_true]
  rw [show IntKind.u32.wrap (toI 1#32*2197175160)=toI polyB by decide,zd2]
theorem zte (n:Nat) (x:B32):bitsT n (toI x)=toI (bN n x):=by
 induction n with
 |zero=>rfl
 |succ n ih=>simp only [bitsT,bN,ih,zvL]
theorem zvM (x:B32) (h:x.toNat<4294967296):tabF x.toNat=toI (bN 8 x):=by
 unfold tabF
 have:IntKind.u32.wrap (x.toNat:Int)=toI x:=by
  unfold toI
  rw [IntKind.wrap_u32];omega
 rw [this,zte]
theorem zqL (x:B32) (b:UInt8):(ibits .xor .u8 (IntKind.u8.wrap (toI x)) b.toNat).toNat=(low8 x ^^^ u8B b).toNat:=by
 have hb:=b.toNat_lt
 have h1:IntKind.u8.wrap (toI x)=((x.toNat % 256:Nat):Int):=by
  unfold toI
  rw [IntKind.wrap_u8];omega
 rw [h1]
 have hx:x.toNat % 256<256:=Nat.mod_lt _ U
 have h2:=Nat.xor_lt_two_pow (n:=8) (x:=x.toNat % 256) (y:=b.toNat) U U
 have h3:(low8 x ^^^ u8B b).toNat=(x.toNat % 256) ^^^ b.toNat:=by
  simp only [low8,u8B,BitVec.toNat_xor,BitVec.toNat_and,BitVec.toNat_ofNat]
  rw [show 255 % 2 ^ 32=2 ^ 8 - 1 by decide,Nat.and_two_pow_sub_one_eq_mod,Nat.mod_eq_of_lt (show b.toNat<2 ^ 32 by omega)]
 rw [h3]
 show (IntKind.u8.wrap ((BitVec.ofInt 8 ((x.toNat % 256:Nat):Int) ^^^ BitVec.ofInt 8 ((b.toNat:Nat):Int)).toNat:Int)).toNat=_
 rw [BitVec.ofInt_natCast,BitVec.ofInt_natCast,BitVec.toNat_xor,BitVec.toNat_ofNat,BitVec.toNat_ofNat,Nat.mod_eq_of_lt (show x.toNat % 256<2 ^ 8 by omega),Nat.mod_eq_of_lt (show b.toNat<2 ^ 8 by omega),IntKind.wrap_u8]
 omega
theorem ztf (x:B32) (b:UInt8):byteS (toI x) b=toI (stepB x b):=by
 unfold byteS
 rw [zqL,zvM _ (BitVec.isLt _),show ishr .u32 (toI x) 8=toI (x>>>8) from zhM x 8 U,zd2,ztb]
theorem zvN (x:B32) (l:List UInt8):sumS (toI x) l=toI (sumB x l):=by
 induction l generalizing x with
 |nil=>rfl
 |cons b l ih=>
  simp only [sumS,sumB,List.foldl_cons,ztf] at*
  exact ih _
def onesB:B32:=4294967295#32
theorem zkO (x:B32):notS (toI x)=toI (onesB ^^^ x):=by
 unfold notS
 rw [show (if IntKind.u32.signed=true then (-1:Int) else IntKind.u32.max)=toI onesB from ae,zd2]
theorem zmp (x:B32) (l:List UInt8):sumOf (toI x) l=toI (onesB ^^^ sumB (onesB ^^^ x) l):=by
 unfold sumOf
 rw [zkO,zvN,zkO]
open Go Go.Proofs
theorem zxL (b:UInt8):IntKind.u32.wrap (b.toNat:Int)=toI (u8B b):=by
 have:=b.toNat_lt
 unfold u8B
 rw [zmo _ U,IntKind.wrap_u32]
 omega
theorem rem2 (x:B32):((toI x).tmod 2==1)=x.getLsbD 0:=by
 unfold toI
 have h0:(x.toNat:Int).tmod 2=((x.toNat % 2:Nat):Int):=by rw [Int.tmod_eq_emod_of_nonneg U];omega
 rw [h0]
 have h1:x.getLsbD 0=decide (x.toNat % 2=1):=by
  rw [BitVec.getLsbD,Nat.testBit_zero]
 rw [h1]
 rcases Nat.mod_two_eq_zero_or_one x.toNat with h|h<;>rw [h]<;>rfl
theorem ztg (x:B32) (h:x.getLsbD 0=true):ibits .xor .u32 (ishr .u32 (toI x) 1) 2197175160=toI (bT x):=by
 rw [show ishr .u32 (toI x) 1=toI (x>>>1) from zhM x 1 U,show (2197175160:Int)=toI polyB by decide,zd2]
 unfold bT
 rw [h];rfl
theorem zqM (x:B32) (h:x.getLsbD 0=false):ishr .u32 (toI x) 1=toI (bT x):=by
 rw [show ishr .u32 (toI x) 1=toI (x>>>1) from zhM x 1 U]
 unfold bT
 rw [h];simp
theorem zqN (x:B32) (l:List UInt8) (hl:l.length≤9223372036854775807):ACall Tryz.prog 221 0 [.d (.int .u32 (toI x)),.d (.str l)] [] (fun r _=>r= .d (.int .u32 (toI (onesB ^^^ sumB (onesB ^^^ x) l)))):=by
 have hnot:∀y:B32,ibits .xor .u32 (if IntKind.u32.signed=true then (-1:Int) else IntKind.u32.max) (toI y)=toI (onesB ^^^ y):=zkO
 refine zdd Tryz.func221 rfl (zdp Tryz.func221 ad rfl) Tryz.ntmps221 aa (fun base=>?_)
 refine zP noTab (zb _) (fun K hK=>?_);simp only [go_sem,Nat.le_refl,List.append_toArray,List.range_zero,List.append_eq,Int.toNat_natCast,aeq,aeq.aeqF,simprocAttr]
 refine hK _ ?_;clear hK K
 refine zP noTab (zb _) (fun K hK=>?_);simp only [go_sem,Nat.le_refl,List.append_toArray,List.range_zero,List.append_eq,Int.toNat_natCast,aeq,aeq.aeqF,simprocAttr,hnot]
 refine hK _ ?_;clear hK K
 refine zbm (fun K1 hK1=>?_)
 refine zP noTab (zb _) (fun K hK=>?_);simp only [go_sem,Nat.le_refl,List.append_toArray,List.range_zero,List.append_eq,Int.toNat_natCast,aeq,aeq.aeqF,simprocAttr]
 refine hK _ ?_;clear hK K
 refine zcl ?_
 refine zk (fun i: {i:Nat // i≤l.length} =>⟨[(1,true,.d (.str l)),(5,true,.d (.int .u32 (toI (sumB (onesB ^^^ x) (l.take i.1))))),(6,true,.d (.int .i64 i.1))],[],some []⟩) (fun i=>l.length - i.1) ⟨0,U⟩ (by simp only [AS.le,leT,leH,zf,AsgK,AV.le,AV.leL,AObj.le,inH,idsT,idsH,AV.ids,AV.idsL,AV.idsR,AObj.ids,lk,hget,go_sem,Nat.le_refl,List.append_toArray,List.range_zero,List.append_eq,Int.toNat_natCast,aeq,aeq.aeqF,simprocAttr]<;>simp [sumB]) (fun i=>?_)
 obtain ⟨i,hi⟩:=i
 refine zbm (fun K2 hK2=>?_)
 refine zP noTab (zb _) (fun K hK=>?_);simp only [go_sem,Nat.le_refl,List.append_toArray,List.range_zero,List.append_eq,Int.toNat_natCast,aeq,aeq.aeqF,simprocAttr]
 refine hK _ ?_;clear hK K
 refine zb3 rfl (fun hc=>?_) (fun hc=>?_)
 ·refine zhX ?_;simp only [go_sem,Nat.le_refl,List.append_toArray,List.range_zero,List.append_eq,Int.toNat_natCast,aeq,aeq.aeqF,simprocAttr];refine hK2 _ ?_;clear hK2 K2
  have hil:i<l.length:=cP
  obtain ⟨b,hb⟩:∃b,l[i]?=some b:=⟨l[i],by simp [hil]⟩
  have hgd:l.getD i 0=b:=by simp [List.getD_eq_getElem?_getD,hb]
  refine zbm (fun K3 hK3=>?_)
  refine zcl ?_
  refine zP noTab (zb _) (fun K hK=>?_);simp only [go_sem,Nat.le_refl,List.append_toArray,List.range_zero,List.append_eq,Int.toNat_natCast,aeq,aeq.aeqF,simprocAttr,hgd,zxL,zd2]
  refine ⟨⟨U,U⟩,hK _ ?_⟩
  clear hK
  refine zP noTab (zb _) (fun K hK=>?_);simp only [go_sem,Nat.le_refl,List.append_toArray,List.range_zero,List.append_eq,Int.toNat_natCast,aeq,aeq.aeqF,simprocAttr]
  refine hK _ ?_;clear hK K
  refine zcl ?_
  refine zk (fun k: {k:Nat // k≤8} =>⟨[(1,true,.d (.str l)),(6,true,.d (.int .i64 i)),(5,true,.d (.int .u32 (toI (bN k.1 (sumB (onesB ^^^ x) (l.take i) ^^^ u8B b))))),(7,true,.d (.int .i64 k.1))],[],some []⟩) (fun k=>8 - k.1) ⟨0,U⟩ (by simp only [AS.le,leT,leH,zf,AsgK,AV.le,AV.leL,AObj.le,inH,idsT,idsH,AV.ids,AV.idsL,AV.idsR,AObj.ids,lk,hget,go_sem,Nat.le_refl,List.append_toArray,List.range_zero,List.append_eq,Int.toNat_natCast,aeq,aeq.aeqF,simprocAttr]<;>simp [bN]) (fun k=>?_)
  obtain ⟨k,hk⟩:=k
  refine zbm (fun K4 hK4=>?_)
  refine zP noTab (zb _) (fun K hK=>?_);simp only [go_sem,Nat.le_refl,List.append_toArray,List.range_zero,List.append_eq,Int.toNat_natCast,aeq,aeq.aeqF,simprocAttr]
  refine hK _ ?_;clear hK K
  refine zb3 rfl (fun hc=>?_) (fun hc=>?_)
  ·refine zhX ?_;simp only [go_sem,Nat.le_refl,List.append_toArray,List.range_zero,List.append_eq,Int.toNat_natCast,aeq,aeq.aeqF,simprocAttr];refine hK4 _ ?_;clear hK4 K4
   have hkl:k<8:=cP
   have hw:IntKind.i64.wrap ((k:Int)+1)=((k+1:Nat):Int):=aS
   refine zbm (fun K5 hK5=>?_)
   refine zcl ?_
   refine zP noTab (zb _) (fun K hK=>?_);simp only [go_sem,Nat.le_refl,List.append_toArray,List.range_zero,List.append_eq,Int.toNat_natCast,aeq,aeq.aeqF,simprocAttr,rem2]
   refine hK _ ?_;clear hK K
   refine zb3 rfl (fun hc=>?_) (fun hc=>?_)
   ·have hb1:(bN k (sumB (onesB ^^^ x) (l.take i) ^^^ u8B b)).getLsbD 0=true:=by simpa using hc
    refine zcf noTab (zb _) ?_;simp only [go_sem,Nat.le_refl,List.append_toArray,List.range_zero,List.append_eq,Int.toNat_natCast,aeq,aeq.aeqF,simprocAttr,ztg _ hb1]
    refine hK5 _ ?_;clear hK5 K5
    refine zcf noTab (zb _) ?_;simp only [go_sem,Nat.le_refl,List.append_toArray,List.range_zero,List.append_eq,Int.toNat_natCast,aeq,aeq.aeqF,simprocAttr]
    refine ⟨⟨k+1,U⟩,?_,af⟩
    rw [hw]
    simp only [AS.le,leT,leH,zf,AsgK,AV.le,AV.leL,AObj.le,inH,idsT,idsH,AV.ids,AV.idsL,AV.idsR,AObj.ids,lk,hget,go_sem,Nat.le_refl,List.append_toArray,List.range_zero,List.append_eq,Int.toNat_natCast,aeq,aeq.aeqF,simprocAttr]
    try rfl
   ·have hb1:(bN k (sumB (onesB ^^^ x) (l.take i) ^^^ u8B b)).getLsbD 0=false:=by simpa using hc
    refine zcf noTab (zb _) ?_;simp only [go_sem,Nat.le_refl,List.append_toArray,List.range_zero,List.append_eq,Int.toNat_natCast,aeq,aeq.aeqF,simprocAttr,zqM _ hb1]
    refine hK5 _ ?_;clear hK5 K5
    refine zcf noTab (zb _) ?_;simp only [go_sem,Nat.le_refl,List.append_toArray,List.range_zero,List.append_eq,Int.toNat_natCast,aeq,aeq.aeqF,simprocAttr]
    refine ⟨⟨k+1,U⟩,?_,af⟩
    rw [hw]
    simp only [AS.le,leT,leH,zf,AsgK,AV.le,AV.leL,AObj.le,inH,idsT,idsH,AV.ids,AV.idsL,AV.idsR,AObj.ids,lk,hget,go_sem,Nat.le_refl,List.append_toArray,List.range_zero,List.append_eq,Int.toNat_natCast,aeq,aeq.aeqF,simprocAttr]
    try rfl
  ·refine zhY ?_;simp only [go_sem,Nat.le_refl,List.append_toArray,List.range_zero,List.append_eq,Int.toNat_natCast,aeq,aeq.aeqF,simprocAttr];refine hK3 _ ?_
   have hk8:k=8:=cP
   subst hk8
   refine zcf noTab (zb _) ?_;simp only [go_sem,Nat.le_refl,List.append_toArray,List.range_zero,List.append_eq,Int.toNat_natCast,aeq,aeq.aeqF,simprocAttr]
   have hw:IntKind.i64.wrap ((i:Int)+1)=((i+1:Nat):Int):=aS
   refine ⟨⟨i+1,U⟩,?_,af⟩
   rw [hw]
   have hs:sumB (onesB ^^^ x) (l.take (i+1))=bN 8 (sumB (onesB ^^^ x) (l.take i) ^^^ u8B b):=by
    rw [List.take_add_one,hb,Option.toList_some,zdv];rfl
   rw [hs]
   simp only [AS.le,leT,leH,zf,AsgK,AV.le,AV.leL,AObj.le,inH,idsT,idsH,AV.ids,AV.idsL,AV.idsR,AObj.ids,lk,hget,go_sem,Nat.le_refl,List.append_toArray,List.range_zero,List.append_eq,Int.toNat_natCast,aeq,aeq.aeqF,simprocAttr]
 ·refine zhY ?_;simp only [go_sem,Nat.le_refl,List.append_toArray,List.range_zero,List.append_eq,Int.toNat_natCast,aeq,aeq.aeqF,simprocAttr];refine hK1 _ ?_
  have hil:i=l.length:=cP
  subst hil
  refine zP noTab (zb _) (fun K hK=>?_);simp only [go_sem,Nat.le_refl,List.append_toArray,List.range_zero,List.append_eq,Int.toNat_natCast,aeq,aeq.aeqF,simprocAttr,hnot]
  refine hK _ ?_;clear hK K
  refine zje ?_;simp only [go_sem,Nat.le_refl,List.append_toArray,List.range_zero,List.append_eq,Int.toNat_natCast,aeq,aeq.aeqF,simprocAttr,Tryz.results221]
  try rw [List.take_length]
theorem zn0 (c:Int) (l:List UInt8) (h0:0≤c) (h1:c≤4294967295) (hl:l.length≤9223372036854775807):ACall Tryz.prog 221 0 [.d (.int .u32 c),.d (.str l)] [] (fun r _=>r= .d (.int .u32 (sumOf c l))):=by
 obtain ⟨x,rfl⟩:=ofI c h0 h1
 rw [zmp]
 exact zqN x l hl
theorem zn1 (c:Int) (h0:0≤c) (h1:c≤4294967295):ACall Tryz.prog 155 0 [.d (.int .u32 c)] [] (fun r _=>r= .d (.str (zgh c))):=by
 refine zdd Tryz.func155 rfl (zdp Tryz.func155 ad rfl) Tryz.ntmps155 aa (fun base=>?_)
 refine zP noTab (zb _) (fun K hK=>?_);simp only [go_sem,Nat.le_refl,List.append_toArray,List.range_zero,List.append_eq,Int.toNat_natCast,aeq,aeq.aeqF,simprocAttr]
 refine hK _ ?_;clear hK K
 refine zP noTab (zb _) (fun K hK=>?_);simp only [go_sem,Nat.le_refl,List.append_toArray,List.range_zero,List.append_eq,Int.toNat_natCast,aeq,aeq.aeqF,simprocAttr]
 refine ⟨rfl,hK _ ?_⟩
 clear hK K
 refine zje ?_;simp only [go_sem,Nat.le_refl,List.append_toArray,List.range_zero,List.append_eq,Int.toNat_natCast,aeq,aeq.aeqF,simprocAttr,Tryz.results155]
 have e3:zeD c 3=IntKind.u8.wrap c:=by
  unfold zeD ishr
  rw [show IntKind.i64.wrap (24 - IntKind.i64.wrap (8*((3:Nat):Int)))=0 by decide]
  simp
 have e2:zeD c 2=IntKind.u8.wrap (ishr .u32 c 8):=by
  unfold zeD
  rw [show IntKind.i64.wrap (24 - IntKind.i64.wrap (8*((2:Nat):Int)))=8 by decide]
 have e1:zeD c 1=IntKind.u8.wrap (ishr .u32 c 16):=by
  unfold zeD
  rw [show IntKind.i64.wrap (24 - IntKind.i64.wrap (8*((1:Nat):Int)))=16 by decide]
 have e0:zeD c 0=IntKind.u8.wrap (ishr .u32 c 24):=by
  unfold zeD
  rw [show IntKind.i64.wrap (24 - IntKind.i64.wrap (8*((0:Nat):Int)))=24 by decide]
 simp only [zgh,bytesOf,List.map_cons,List.map_nil,numOf,e0,e1,e2,e3]
theorem zfT (c:Int) (l:List UInt8) (h0:0≤c) (h1:c≤4294967295):0≤sumOf c l∧sumOf c l≤4294967295:=by
 obtain ⟨x,rfl⟩:=ofI c h0 h1
 rw [zmp]
 unfold toI
 have:=(onesB ^^^ sumB (onesB ^^^ x) l).isLt
 omega
open Go Go.Proofs
@[go_sem] noncomputable def zbw:Ent Tryz.prog 221:= .ofL (consL (intT .u32) (consL strT nilL)) (fun (c,l,_)=>(0≤c)∧(c≤4294967295)∧(l.length≤9223372036854775807)) (fun (c,l,_)=> .d (.int .u32 (sumOf c l))) (fun (c,l,_) hp=>⟨rfl,zn0 c l hp.1 hp.2.1 hp.2.2⟩)
@[go_sem] noncomputable def zax:Ent Tryz.prog 155:= .ofL (consL (intT .u32) nilL) (fun (c,_)=>(0≤c)∧(c≤4294967295)) (fun (c,_)=> .d (.str (zgh c))) (fun (c,_) hp=>⟨rfl,zn1 c hp.1 hp.2⟩)
theorem zvO (l:List UInt8) (hl:l.length≤9223372036854775807):ACall Tryz.prog 156 0 [.d (.str l)] [] (fun r _=>r= .d (.int .u32 (sumOf 0 l))):=by
 refine bod Tryz.func156 Tryz.ntmps156 (fun base=>?_)
 refine' walkW fx (za zbw <| zb _)
@[go_sem] noncomputable def zbi:Ent Tryz.prog 156:= .ofL (consL strT nilL) (fun (l,_)=>l.length≤9223372036854775807) (fun (l,_)=> .d (.int .u32 (sumOf 0 l))) (fun (l,_) hp=>⟨rfl,zvO l hp⟩)
end Go.Aw
namespace Go.Proofs.YtgldbfelccddbaaGreat
open Go Go.RowKit
theorem bsize:∃j,Tryz.prog.info? 180=some j∧j.size=2:=by
 obtain ⟨j,hj,hjs⟩:=Option.map_eq_some_iff.1 (show (Tryz.prog.info? 180).map (·.size)=some 2 by kernel_rfl)
 exact ⟨j,hj,hjs⟩
theorem ztA (b o:Nat) (w:World) (h0:w.cell? ⟨b,o,none⟩=some (.pointer (some ⟨b,o,none⟩))):
  Calls Tryz.prog 188 #[.pointer (some ⟨b,o,none⟩)] w fun e w'=>e= .returned (.tuple #[])∧w'=w:=by
 obtain ⟨j,hj,hjs⟩:=bsize
 go_enter Tryz.func188,Tryz.ntmps188
 go_wp2
 rw [Lib.run_neq_ptr_same w _ Tryz.underlying178 hj]
 go_wp2
 go_end0
 exact ⟨rfl,rfl⟩
theorem zq0 (b o n:Nat) (T:TypeId) (w:World) (h0:w.cell? ⟨b,o,none⟩=some (.pointer none)) (hsh:w.shape? b=some (T,n)) (hlt:o<n) (hl:liesAt Tryz.prog Tryz.prog.depth T (n / Tryz.prog.cellsOf T) o 180 1=true) (hfz:w.frozen? ⟨b,o,none⟩=false):
  Calls Tryz.prog 188 #[.pointer (some ⟨b,o,none⟩)] w fun e w'=>e= .returned (.tuple #[])∧w'=w.setCell ⟨b,o,none⟩ (.pointer (some ⟨b,o,none⟩)):=by
 obtain ⟨j,hj,hjs⟩:=bsize
 go_enter Tryz.func188,Tryz.ntmps188
 go_wp2
 rw [Lib.run_to_unsafe w ⟨b,o,none⟩ Tryz.underlying178 Tryz.underlying375 hj (by rw [hjs];decide) hsh hlt]
 simp only [Result.andThen]
 rw [Oper.upon_value]
 go_wp2
 rw [run_callFunc_extern Tryz.func257 ad ad ad (e:=Extern.AbiNoEscape.same) ad]
 rw [Lib.run_noEscape]
 simp only [Result.andThen]
 rw [Oper.upon_value]
 go_wp2
 rw [Lib.run_from_unsafe w ⟨b,o,none⟩ Tryz.underlying375 Tryz.underlying178 hj hsh hl]
 simp only [Result.andThen]
 rw [Oper.upon_value]
 go_wp2
 go_end0
 exact ⟨rfl,rfl⟩
end Go.Proofs.YtgldbfelccddbaaGreat
namespace Go.Proofs.YtgldbfelccddbaaGreat
open Go
section
variable {P : Program}
open Go.Lib
theorem ziu (w:World) (base:Nat) (t u ty e:TypeId) (i:TypeInfo) (ht:P.underlying t=some (.slice e)) (hu:P.underlying u=some .string) (hi:P.info? e=some i) (hz:i.zero=some (.int .u8 0))
  (hsize:i.size=1) (hby:i.bytes=1)
  (v:Value) (n:Nat) (xs:List Value) (hown:w.ownsRow base e 1 v n xs) (s:ByteArray)
  (h63:n+s.size≤maxLen) (hbytes:n+s.size≤140737488355328) (hbase:base≤w.heap.size):
  ∃v' w',(Builtin.append_ #[t,u] ty #[v,.string s]).run P w= .ok v' w'∧w'.ownsRow base e 1 v' (n+s.size) (xs++strCells s)∧w.grownBy w' v.ownBlock∧
   ((∀g,v'.ownBlock=some g→v.ownBlock=some g∨(w.heap.size≤g∧g<w'.heap.size))∧(s.size=0→v'=v)):=by
 have hsmall:n+s.size≤9223372036854775807:=by simp only [maxLen] at h63;omega
 have hxl:xs.length=n:=by simpa using hown.1
 have hlen:(xs++strCells s).length=(n+s.size)*1:=by rw [List.length_append,hxl,strCells_length,Nat.mul_one]
 have grown:∀ (old:Nat),old<n+s.size→∀ (row:Option Nat),
   (w.drew.alloc (.cells (xs.toArray++(strCells s).toArray++Builtin.zeroCells (Value.int .u8 0).cells (grownCap w (n+s.size) old e - (n+s.size))) e)).ownsRow base e 1
    (.slice (some ⟨w.heap.size,0,none⟩) (n+s.size) (grownCap w (n+s.size) old e)) (n+s.size) (xs++strCells s)∧
   w.grownBy (w.drew.alloc (.cells (xs.toArray++(strCells s).toArray++Builtin.zeroCells (Value.int .u8 0).cells (grownCap w (n+s.size) old e - (n+s.size))) e)) row:=by
  intro old ho row
  have hge:=grownCap_ge w (n+s.size) old e
  have hcm:grownCap w (n+s.size) old e≤maxLen:=grownCap_le_maxLen w (n+s.size) old e h63
  refine ⟨⟨hlen,.inr ⟨w.heap.size,_,_,rfl,hbase,Go.heap_alloc_new w.drew _,hge,hcm,?_,?_⟩⟩,⟨rfl,rfl,rfl,aa,fun k hk _=>Go.heap_alloc_old w.drew _ hk⟩⟩
  ·have hz1:(Value.int IntKind.u8 0).cells.size=1:=rfl
   simp only [Array.size_append,List.size_toArray,size_zeroCells,hz1,hxl,strCells_length]
   omega
  ·simp only [Array.toList_append,List.append_assoc]
   rw [← List.append_assoc,← hlen]
   exact List.take_left
 rcases hown.2 with ⟨rfl,rfl⟩|⟨g,cap,cur,rfl,hbg,hg,hnc,hcm,hcs,htake⟩
 ·have hx:xs= []:=List.eq_nil_of_length_eq_zero hxl
  subst hx
  by_cases hm:s.size=0
  ·have hn:strCells s= []:=List.eq_nil_of_length_eq_zero (by rw [strCells_length];exact hm)
   refine ⟨.slice none 0 0,w,?_,by rw [hm,hn];exact World.ownsRow_nil w base e 1,⟨rfl,rfl,rfl,Nat.le_refl _,fun _ _ _=>rfl⟩,fun g hg=> .inl hg,fun _=>rfl⟩
   have hf:=run_firstCells_string (P:=P) w 1 s
   rw [hm] at hf
   simp [Builtin.append_,run_underlying ht,run_underlying hu,sizeOf,typeInfo,hi,hsize,Builtin.lenOf,hm,hf]
  ·have hr:=run_append_nil_string (P:=P) w t u ty e i (.int .u8 0) ht hu hi hz s U U (by rw [hby];omega)
   have hgr:=grown 0 U (Value.ownBlock (.slice none 0 0))
   simp only [Nat.zero_add,List.nil_append,Array.empty_append] at hgr ⊢
   have e1:(s.data.map fun b=>Value.int .u8 b.toNat)=(strCells s).toArray:=by
    apply Array.ext'
    simp [strCells]
   rw [e1] at hr
   exact ⟨_,_,hr,hgr.1,hgr.2,fun g hg=> .inr (by simp [Value.ownBlock] at hg;subst hg;simp),fun e=>absurd e hm⟩
 ·by_cases hroom:n+s.size≤cap
  ·have hcs':cur.size=cap:=by simpa using hcs
   have hr:=run_append_room_string (P:=P) w t u ty e i ht hu hi hsize g n cap cur hg s hroom U
   refine ⟨_,_,hr,⟨hlen,.inr ⟨g,cap,_,rfl,hbg,setRow_heap w g cur _ e _ hg,hroom,hcm,?_,?_⟩⟩,⟨rfl,rfl,rfl,aa,fun k _ hk=>setRow_other w g k _ (fun e=>hk (by simp [Value.ownBlock,e]))⟩,fun g hg=> .inl hg,fun e=>by rw [e];rfl⟩
   ·simp only [List.size_toArray,List.length_append,List.length_take,List.length_drop,Array.length_toList,strCells_length]
    omega
   ·have ht':cur.toList.take n=xs:=by simpa using htake
    rw [ht',← hlen]
    exact List.take_left
  ·have holds:∀j u,xs[j]?=some u→w.cell? ((⟨g,0,none⟩:Addr).add j)=some u:=hown.cells (g:=g) rfl
   have hr:=run_append_grow_string (P:=P) w t u ty e i (.int .u8 0) ht hu hi hz ⟨g,0,none⟩ n cap xs (by rw [hsize];simpa using hxl) holds s U U (by rw [hby];exact growslice_fits U U)
   have hgr:=grown cap U (Value.ownBlock (.slice (some ⟨g,0,none⟩) n cap))
   exact ⟨_,_,hr,hgr.1,hgr.2,fun g hg=> .inr (by simp [Value.ownBlock] at hg;subst hg;simp),fun e=>U⟩
theorem zgo (w:World) {ops:Array Oper} {rest:List Oper} {o:Oper} {a:Act} {Q:Exit→Act→World→Prop} (hgd:o.guard=none) (sl x:Operand) (t u:TypeId)
  (ho:o.op= .call { callee:= .builtin .append,args:= #[sl,x],argTypes:= #[t,u] })
  (base:Nat) (e:TypeId) (i:TypeInfo) (ht:P.underlying t=some (.slice e)) (hu:P.underlying u=some .string) (hi:P.info? e=some i) (hz:i.zero=some (.int .u8 0))
  (hsize:i.size=1) (hby:i.bytes=1)
  (v:Value) (n:Nat) (xs:List Value) (hs:a.eval sl=v) (hown:w.ownsRow base e 1 v n xs) (s:ByteArray) (hx:a.eval x= .string s)
  (h63:n+s.size≤maxLen) (hbytes:n+s.size≤140737488355328) (hbase:base≤w.heap.size)
  (h:∀v' w',w'.ownsRow base e 1 v' (n+s.size) (xs++strCells s)→w.grownBy w' v.ownBlock→((∀g,v'.ownBlock=some g→v.ownBlock=some g∨(w.heap.size≤g∧g<w'.heap.size))∧(s.size=0→v'=v))→wpList P ops Q rest (a.put o.dst v') w'):wpList P ops Q (o::rest) a w:=by
 refine wpList_plain hgd fun K hK=>?_
 obtain ⟨v',w',hr,h2,h3,h4⟩:=ziu (P:=P) w base t u o.type e i ht hu hi hz hsize hby v n xs hown s h63 hbytes hbase
 unfold Oper.wp execOp
 simp only [ho,resolve,invoke,builtin,Sem.run_bind,Sem.run_pure,Result.andThen_ok,List.map_toArray,List.map_cons,List.map_nil,hs,hx,hr]
 exact hK _ _ (h v' w' h2 h3 h4)
end
open Go.RowKit
theorem zi6 {w:World} {b o o':Nat} {v:Value} (h:o≠o'):(w.setCell ⟨b,o,none⟩ v).cell? ⟨b,o',none⟩=w.cell? ⟨b,o',none⟩:=by
 unfold World.setCell World.cell?
 simp only [Array.getElem?_modify,if_true]
 cases w.heap[b]? with
 |none=>rfl
 |some ob=>
  cases ob<;>simp [Array.getElem?_setIfInBounds_ne h]
theorem zhF {w:World} {b o o':Nat} {v:Value} :(w.setCell ⟨b,o,none⟩ v).frozen? ⟨b,o',none⟩=w.frozen? ⟨b,o',none⟩:=by
 unfold World.setCell World.frozen?
 simp only [Array.getElem?_modify,if_true]
 cases w.heap[b]? with
 |none=>rfl
 |some ob=>
  cases ob<;>simp
theorem zoh {w:World} {e:TypeId} {v:Value} {k:Nat} {bs:List Value} {b o:Nat} {x:Value} (h:w.ownsRow 0 e 1 v k bs) (hne:v.ownBlock≠some b):(w.setCell ⟨b,o,none⟩ x).ownsRow 0 e 1 v k bs:=by
 refine ⟨h.1,?_⟩
 rcases h.2 with hn|⟨g,cap,cur,rfl,hb,hgg,rest⟩
 ·exact .inl hn
 ·refine .inr ⟨g,cap,cur,rfl,hb,?_,rest⟩
  have:b≠g:=fun e=>hne (by simp [Value.ownBlock,e])
  unfold World.setCell
  rw [Array.getElem?_modify,if_neg this]
  exact hgg
theorem zq1 (b o n:Nat) (T:TypeId) (w:World) (h0:w.cell? ⟨b,o,none⟩=some (.pointer none)∨w.cell? ⟨b,o,none⟩=some (.pointer (some ⟨b,o,none⟩))) (hsh:w.shape? b=some (T,n)) (hlt:o<n) (hl:liesAt Tryz.prog Tryz.prog.depth T (n / Tryz.prog.cellsOf T) o 180 1=true) (hfz:w.frozen? ⟨b,o,none⟩=false):
  Calls Tryz.prog 188 #[.pointer (some ⟨b,o,none⟩)] w fun e w'=>e= .returned (.tuple #[])∧((w'=w∧w.cell? ⟨b,o,none⟩=some (.pointer (some ⟨b,o,none⟩)))∨w'=w.setCell ⟨b,o,none⟩ (.pointer (some ⟨b,o,none⟩))):=by
 rcases h0 with h0|h0
 ·refine (zq0 b o n T w h0 hsh hlt hl hfz).mono ?_
  rintro e w' ⟨rfl,rfl⟩
  exact ⟨rfl,.inr rfl⟩
 ·refine (ztA b o w h0).mono ?_
  rintro e w' ⟨rfl,rfl⟩
  exact ⟨rfl,.inl ⟨rfl,h0⟩⟩
theorem zoi (b o n:Nat) (T:TypeId) (w:World) (v:Value) (k:Nat) (bs:List Value) (s:ByteArray) (h0:w.cell? ⟨b,o,none⟩=some (.pointer none)∨w.cell? ⟨b,o,none⟩=some (.pointer (some ⟨b,o,none⟩))) (h1:w.cell? ⟨b,o+1,none⟩=some v)
  (hsh:w.shape? b=some (T,n)) (hlt:o<n) (hl:liesAt Tryz.prog Tryz.prog.depth T (n / Tryz.prog.cellsOf T) o 180 1=true) (hfz:w.frozen? ⟨b,o,none⟩=false) (hfz1:w.frozen? ⟨b,o+1,none⟩=false)
  (hown:w.ownsRow 0 5 1 v k bs) (hne:v.ownBlock≠some b) (hlen:k+s.size≤140737488355328):
  Calls Tryz.prog 113 #[.pointer (some ⟨b,o,none⟩),.string s] w fun e w'=>e= .returned (.tuple #[.int .i64 s.size,.nilIface])∧
   ∃w1 v' w2,((w1=w∧w.cell? ⟨b,o,none⟩=some (.pointer (some ⟨b,o,none⟩)))∨w1=w.setCell ⟨b,o,none⟩ (.pointer (some ⟨b,o,none⟩)))∧w2.ownsRow 0 5 1 v' (k+s.size) (bs++Lib.strCells s)∧w1.grownBy w2 v.ownBlock∧((∀g,v'.ownBlock=some g→v.ownBlock=some g∨(w1.heap.size≤g∧g<w2.heap.size))∧(s.size=0→v'=v))∧w'=w2.setCell ⟨b,o+1,none⟩ v':=by
 obtain ⟨i0,hi,hz0⟩:=Option.map_eq_some_iff.1 (show (Tryz.prog.info? 5).map (fun i=>(i.zero,i.size,i.bytes))=some (some (.int .u8 0),1,1) by kernel_rfl)
 simp only [Prod.mk.injEq] at hz0
 obtain ⟨hz0,hz1,hz2⟩:=hz0
 go_enter Tryz.func113,Tryz.ntmps113
 go_wp2_with (go_at_call 188;refine (zq1 b o n T _ h0 hsh hlt hl hfz).mono ?_)
 rintro e w1 ⟨rfl,hw1⟩
 have c1:w1.cell? ⟨b,o+1,none⟩=some v:=by
  rcases hw1 with ⟨rfl,_⟩|rfl
  ·exact h1
  ·rw [zi6 U];exact h1
 have f1:w1.frozen? ⟨b,o+1,none⟩=false:=by
  rcases hw1 with ⟨rfl,_⟩|rfl
  ·exact hfz1
  ·rw [zhF];exact hfz1
 have hown1:w1.ownsRow 0 5 1 v k bs:=by
  rcases hw1 with ⟨rfl,_⟩|rfl
  ·exact hown
  ·exact zoh hown hne
 go_wp2_with (at_builtin;refine zgo _ rfl _ _ 60 9 rfl 0 5 i0 Tryz.underlying60 Tryz.underlying9 hi hz0 hz1 hz2 _ _ _ rfl hown1 s rfl ?c3 ?c4 ?c5 ?_)
 case c3=>unfold maxLen;omega
 case c4=>omega
 case c5=>omega
 intro v' w2 hown' hgrow hnew hnew2
 have hlt1:b<w1.heap.size:=by
  rcases Nat.lt_or_ge b w1.heap.size with h'|h'
  ·exact h'
  ·simp [World.cell?,Array.getElem?_eq_none h'] at c1
 have hb2:w2.heap[b]?=w1.heap[b]?:=hgrow.block b hlt1 (fun e=>hne e.symm)
 have d1:w2.cell? ⟨b,o+1,none⟩=some v:=by
  rw [← c1];simp only [World.cell?,hb2]
 have f2:w2.frozen? ⟨b,o+1,none⟩=false:=by
  rw [← f1];simp only [World.frozen?,hb2]
 obtain ⟨ao,n',cap,rfl⟩:∃ao n' cap,v'= .slice ao n' cap:=by
  rcases hown'.2 with ⟨hv,_⟩|⟨g,cap,cur,hv,_⟩
  ·exact ⟨_,_,_,hv⟩
  ·exact ⟨_,_,_,hv⟩
 go_wp2
 go_ret2
 exact ⟨rfl,w1,_,w2,hw1,hown',hgrow,⟨hnew,fun e=>hnew2 (by simpa using e)⟩,rfl⟩
end Go.Proofs.YtgldbfelccddbaaGreat
namespace Go.Proofs.YtgldbfelccddbaaGreat
open Go Go.RowKit
theorem zeV (W:World) (q:Option Addr):(Builtin.unsafeString_ #[282,3] 9 #[.pointer q,.int .i64 0]).run Tryz.prog W= .ok (.string .empty) W:=
 Lib.run_unsafeString_none W _ _ _ q
theorem zeW (w:World) (row:Option Nat):w.grownBy w.drew row:=⟨rfl,rfl,rfl,Nat.le_refl _,fun _ _ _=>rfl⟩
theorem zi7 (w:World) (g n:Nat):w.grownBy (w.drew.freeze ⟨g,0,none⟩ n) (some g):=by
 unfold World.freeze
 split
 ·exact zeW w _
 ·refine ⟨rfl,rfl,rfl,aa,fun k hk hne=>?_⟩
  simp only [Array.getElem?_modify]
  rw [if_neg (fun e=>hne (by rw [e]))]
  rfl
theorem zq2 (b o:Nat) (w:World) (h1:w.cell? ⟨b,o+1,none⟩=some (.slice none 0 0)):
  Calls Tryz.prog 98 #[.pointer (some ⟨b,o,none⟩)] w fun e w'=>e= .returned (.string ⟨#[]⟩)∧w.grownBy w' none:=by
 have hUS:=zeV
 have c1:w.drew.cell? ⟨b,o+1,none⟩=some (.slice none 0 0):=h1
 have hSD:(Builtin.unsafeSliceData_ #[60] 282 #[.slice none 0 0]).run Tryz.prog w.drew= .ok (.pointer none) w.drew:=rfl
 go_enter Tryz.func98,Tryz.ntmps98
 go_wp2
 go_region
 all_goals (go_wp2;go_ret;exact ⟨rfl,zeW w none⟩)
theorem zoj (b o g cap:Nat) (w:World) (hc0:cap≠0) (h1:w.cell? ⟨b,o+1,none⟩=some (.slice (some ⟨g,0,none⟩) 0 cap)):
  Calls Tryz.prog 98 #[.pointer (some ⟨b,o,none⟩)] w fun e w'=>e= .returned (.string ⟨#[]⟩)∧w.grownBy w' (some g):=by
 have hUS:=zeV
 have c1:w.drew.cell? ⟨b,o+1,none⟩=some (.slice (some ⟨g,0,none⟩) 0 cap):=h1
 have hSD:(Builtin.unsafeSliceData_ #[60] 282 #[.slice (some ⟨g,0,none⟩) 0 cap]).run Tryz.prog w.drew= .ok (.pointer (some ⟨g,0,none⟩)) w.drew:=
  Lib.run_unsafeSliceData_row _ _ _ _ _ _ hc0
 clear hc0
 go_enter Tryz.func98,Tryz.ntmps98
 go_wp2
 go_region
 all_goals (go_wp2;go_ret;exact ⟨rfl,zeW w _⟩)
theorem zkX (b o g:Nat) (cur:Array Value) (w:World) (h1:w.cell? ⟨b,o+1,none⟩=some (.slice (some ⟨g,0,none⟩) 0 0)) (hg:w.heap[g]?=some (.cells cur 5 (0,0))):
  Calls Tryz.prog 98 #[.pointer (some ⟨b,o,none⟩)] w fun e w'=>e= .returned (.string ⟨#[]⟩)∧w.grownBy w' (some g):=by
 have hUS:=zeV
 have hlt:b<w.heap.size:=by
  rcases Nat.lt_or_ge b w.heap.size with h'|h'
  ·exact h'
  ·simp [World.cell?,Array.getElem?_eq_none h'] at h1
 have c1:w.drew.cell? ⟨b,o+1,none⟩=some (.slice (some ⟨g,0,none⟩) 0 0):=h1
 have hSD:(Builtin.unsafeSliceData_ #[60] 282 #[.slice (some ⟨g,0,none⟩) 0 0]).run Tryz.prog w.drew= .ok (.pointer (some ⟨w.drew.heap.size,0,none⟩)) (w.drew.alloc (.view ⟨g,0,none⟩ 5)):=
  Lib.run_unsafeSliceData_zero w.drew _ _ 5 Tryz.underlying282 ⟨g,0,none⟩ 0 (5,cur.size) dT
 have c2:(w.drew.alloc (.view ⟨g,0,none⟩ 5)).cell? ⟨b,o+1,none⟩=some (.slice (some ⟨g,0,none⟩) 0 0):=by
  rw [← c1]
  simp only [World.cell?]
  rw [Lib.alloc_old w.drew _ b hlt]
 have c3:(w.alloc (.view ⟨g,0,none⟩ 5)).drew.cell? ⟨b,o+1,none⟩=some (.slice (some ⟨g,0,none⟩) 0 0):=c2
 go_enter Tryz.func98,Tryz.ntmps98
 go_wp2
 go_region
 all_goals (go_wp2;go_ret;exact ⟨rfl,⟨rfl,rfl,rfl,aa,fun k hk _=>Lib.alloc_old w.drew _ k hk⟩⟩)
theorem zok (b o g cap:Nat) (cur:Array Value) (l:List UInt8) (w:World) (h0:l≠ []) (h1:w.cell? ⟨b,o+1,none⟩=some (.slice (some ⟨g,0,none⟩) l.length cap))
  (hown:w.ownsRow 0 5 1 (.slice (some ⟨g,0,none⟩) l.length cap) l.length (Lib.byteCells l)):
  Calls Tryz.prog 98 #[.pointer (some ⟨b,o,none⟩)] w fun e w'=>e= .returned (.string ⟨l.toArray⟩)∧w.grownBy w' (some g):=by
 have hl0:l.length≠0:=ck
 obtain ⟨cur,hg,hnc,hcm,hcs,htake⟩:∃cur,w.heap[g]?=some (.cells cur 5 (0,0))∧l.length≤cap∧cap≤maxLen∧cur.size=cap*1∧cur.toList.take (l.length*1)=Lib.byteCells l:=by
  rcases hown.2 with ⟨_,hz⟩|⟨g',cap',cur,hv,r0,r⟩
  ·exact absurd hz hl0
  ·cases hv
   exact ⟨cur,r⟩
 have c1:w.drew.cell? ⟨b,o+1,none⟩=some (.slice (some ⟨g,0,none⟩) l.length cap):=h1
 have hSD:(Builtin.unsafeSliceData_ #[60] 282 #[.slice (some ⟨g,0,none⟩) l.length cap]).run Tryz.prog w.drew= .ok (.pointer (some ⟨g,0,none⟩)) w.drew:=
  Lib.run_unsafeSliceData_row _ _ _ _ _ _ U
 have hUS:(Builtin.unsafeString_ #[282,3] 9 #[.pointer (some ⟨g,0,none⟩),.int .i64 l.length]).run Tryz.prog w.drew= .ok (.string ⟨l.toArray⟩) (w.drew.freeze ⟨g,0,none⟩ l.length):=by
  refine Lib.run_unsafeString_row w.drew 282 3 9 5 Tryz.underlying282 ad g cur.size dT l h0 U (by unfold maxLen at hcm;omega) ?_
  intro j x hx
  have:=hown.cells (g:=g) rfl j (.int .u8 x.toNat) (by simp [Lib.byteCells,hx])
  exact this
 clear h0 hown
 go_enter Tryz.func98,Tryz.ntmps98
 go_wp2
 go_region
 all_goals (go_wp2;go_ret;exact ⟨rfl,zi7 w g _⟩)
theorem zmx (b o:Nat) (w:World) (v:Value) (l:List UInt8) (h1:w.cell? ⟨b,o+1,none⟩=some v) (hown:w.ownsRow 0 5 1 v l.length (Lib.byteCells l)):
  Calls Tryz.prog 98 #[.pointer (some ⟨b,o,none⟩)] w fun e w'=>e= .returned (.string ⟨l.toArray⟩)∧w.grownBy w' v.ownBlock:=by
 rcases hown.2 with ⟨rfl,hz⟩|⟨g,cap,cur,rfl,_,hg,hnc,hcm,hcs,htake⟩
 ·have:l= []:=List.length_eq_zero_iff.1 hz
  subst this
  exact zq2 b o w h1
 ·by_cases hl:l= []
  ·subst hl
   by_cases hc:cap=0
   ·subst hc
    exact zkX b o g cur w h1 hg
   ·exact zoj b o g cap w hc h1
  ·exact zok b o g cap cur l w hl h1 hown
end Go.Proofs.YtgldbfelccddbaaGreat
namespace Go.Aw
open Go Go.Proofs Go.Proofs.YtgldbfelccddbaaGreat
section
variable {P : Program} {w w' w'' : World} {E E' E'' : Env} {h h' h'' : AHeap} {fl i j : Nat}
theorem EvoC.trans (a:EvoC fl E h w E' h' w') (b:EvoC fl E' h' w' E'' h'' w''):EvoC fl E h w E'' h'' w'' where
 os:=b.os.trans a.os
 tape:=b.tape.trans a.tape
 output:=b.output.trans a.output
 size:=Nat.le_trans a.size b.size
 keep:=fun k hk ho=>(b.keep k (Nat.lt_of_lt_of_le hk a.size) (fun h=>(a.own k h).elim ho (fun h=>U))).trans (a.keep k hk ho)
 own:=fun k h=>(b.own k h).elim (fun h=>a.own k h) (fun h=> .inr (Nat.le_trans a.size h))
 m:=b.m.trans a.m
 n:=b.n.trans a.n
 go:=fun i hi hl=>by
  obtain ⟨h1,h2⟩:=b.go i hi hl
  obtain ⟨h3,h4⟩:=a.go i hi h1
  exact ⟨h3,h4.trans h2⟩
theorem Chg.evoC (c:Chg E h w E' h' w' i) (hf:(hget h i).isSome∨fl≤i):EvoC fl E h w E' h' w':=
 have e:=c.evo (fl:=fl) hf
 ⟨e.os,e.tape,e.output,e.size,fun b hb ho=>c.blk b hb (fun ⟨h1,h2⟩=>ho ⟨i,h1,h2⟩),e.own,c.M,c.N,e.go⟩
theorem zkY {b:Nat} {c:Array Value} {T:TypeId} {fz:Nat×Nat} (g2:w.heap[b]?=some (.cells c T fz)):World.row w b (.cells c T fz)=w:=by
 obtain ⟨hlt,hb'⟩:=Array.getElem?_eq_some_iff.1 g2
 unfold World.row
 rw [← hb',Array.setIfInBounds_def,dif_pos hlt,Array.set_getElem_self]
theorem zmy {b o:Nat} {c:Array Value} {T:TypeId} {fz:Nat×Nat} {v:Value} (g2:w.heap[b]?=some (.cells c T fz)) (hc:c[o]?=some v):w.setCell ⟨b,o,none⟩ v=w:=by
 rw [zfK g2]
 have:c.setIfInBounds o v=c:=by
  obtain ⟨hlt,he⟩:=Array.getElem?_eq_some_iff.1 hc
  rw [Array.setIfInBounds_def,dif_pos hlt,← he,Array.set_getElem_self]
 rw [this]
 exact zkY g2
theorem zjO:∀ (h:AHeap) (i:Nat) (a b:AObj),hset (hset h i a) i b=hset h i b
  | [],_,_,_=>rfl
  | (k,o)::r,i,a,b=>by
    by_cases hk:k=i
    · simp [hset,hk]
    · simp [hset,hk,zjO r]
theorem pokeT (hs:SatH E h w) {o b:Nat} {t:TypeId} {cs:List AV} (hi:hget h i=some (.tvar t cs)) (hb:E.O i=some b) {x:AV} {v:Value} (hr:Rep w E h x v):
  Chg E h w E (hset h i (.tvar t (cs.set o x))) (w.setCell ⟨b,o,none⟩ v) i∧SatH E (hset h i (.tvar t (cs.set o x))) (w.setCell ⟨b,o,none⟩ v):=by
 have hob:=hs.heap i _ hi
 simp only [RepObj] at hob
 obtain ⟨b',c,T,fz,g1,g2,g3,g4,g5⟩:=hob
 rw [hb] at g1;cases g1
 rw [zfK g2]
 have ch:=zhH hs hi (cs':=cs.set o x) aa hb (.cells (c.setIfInBounds o v) T fz)
 refine ⟨ch,ch.satH hs (fun ob hob=>?_)⟩
 rw [zh hi] at hob
 cases hob
 simp only [RepObj]
 refine ⟨b,_,T,fz,hb,zed (Array.getElem?_eq_some_iff.1 g2).1,?_,by simpa using g4,g5⟩
 rw [Array.toList_setIfInBounds]
 exact ch.reps (g3.set hr)
theorem ztB (hs:SatH E h w) {t:TypeId} {xs:List UInt8} {n:Nat} {v:Value} (hj:hget h j=some (.buf t xs)) (hv:Rep w E h (.bsl j n) v) (hn:n=xs.length):
  w.ownsRow 0 t 1 v xs.length (Lib.byteCells xs)∧(∀g,v.ownBlock=some g→E.O j=some g)∧(v= .slice none 0 0∧E.O j=none∨∃g,v= .slice (some ⟨g,0,none⟩) xs.length (E.C j)∧E.O j=some g):=by
 simp only [Rep] at hv
 obtain ⟨_,t',xs',h1,_,h3⟩:=hv
 rw [hj] at h1;cases h1
 have hob:=hs.heap j _ hj
 simp only [RepObj] at hob
 rcases h3 hn.symm with ⟨⟨h4,h5⟩,rfl⟩|⟨g,h4,rfl⟩
 ·have:xs= []:=List.length_eq_zero_iff.1 U
  subst this
  exact ⟨World.ownsRow_nil _ _ _ _,fun g hg=>by simp [Value.ownBlock] at hg,.inl ⟨rfl,h4⟩⟩
 ·rcases hob with ⟨q1,_⟩|⟨b',c,T,fz,q1,q2,q3,q4,q5,rfl,rfl,q7⟩
  ·rw [h4] at q1;cases q1
  ·rw [h4] at q1;cases q1
   refine ⟨⟨by simp [Lib.byteCells],.inr ⟨g,E.C j,c,by rw [hn],Nat.zero_le _,q2,q4,by unfold maxLen;omega,q3,by rw [Nat.mul_one];exact q5⟩⟩,fun g' hg=>?_,.inr ⟨g,by rw [hn],h4⟩⟩
   simp [Value.ownBlock] at hg
   rw [h4,hg]
theorem ztC {t:TypeId} {xs xs':List UInt8} (hj:hget h j=some (.buf t xs)) (g':Option Nat) (cap':Nat) {row:Option Nat} (hgrow:w.grownBy w' row) (hrow:∀g,row=some g→E.O j=some g) (hlen:xs.length≤xs'.length) (hsame:xs'.length=xs.length→g'=E.O j∧cap'=E.C j)
  (hnew:∀g,g'=some g→E.O j=some g∨(w.heap.size≤g∧g<w'.heap.size)):Chg E h w (E.set j g' cap') (hset h j (.buf t xs')) w' j where
 os:=hgrow.os
 tape:=hgrow.tape
 output:=hgrow.output
 size:=hgrow.size
 envO:=fun k e=>az
 envC:=fun k e=>az
 M:=rfl
 N:=rfl
 hh:=fun k e=>zH e
 gi:=by
  unfold GoesOn
  rw [hj]
  exact ⟨xs',zh hj,hlen,fun e=>by simpa [Env.set] using hsame e⟩
 blk:=fun b hb hn=>hgrow.block b hb (fun e=>hn ⟨by simp [hj],hrow b e.symm⟩)
 new:=fun b _ hb=>by
  simp only [Env.set,if_true] at hb
  rcases hnew b hb with h1|h1
  ·exact .inl ⟨by simp [hj],h1⟩
  ·exact .inr h1
theorem zi8 (l:List UInt8):Lib.strCells ⟨l.toArray⟩=Lib.byteCells l:=by simp [Lib.strCells,Lib.byteCells]
theorem zdP {o:Nat} {T:TypeId} {cs:List AV} {xs l:List UInt8} {n:Nat} (hi:hget h i=some (.tvar T cs)) (c0:cs[o]?=some (.d .nilp)∨cs[o]?=some (.tp i o)) (c1:cs[o+1]?=some (.bsl j n)) (hj:hget h j=some (.buf 5 xs)) (hn:n=xs.length)
  (hl:liesAt Tryz.prog Tryz.prog.depth T (cs.length / Tryz.prog.cellsOf T) o 180 1=true) (hlen:xs.length+l.length≤140737488355328):
  ACallAt Tryz.prog fl 113 [.tp i o,.d (.str l)] h (fun r h'=>r= .tup [.d (.int .i64 l.length),.d .nilif]∧h'=hset (hset h j (.buf 5 (xs++l))) i (.tvar T ((cs.set o (.tp i o)).set (o+1) (.bsl j (xs.length+l.length))))):=by
 refine ⟨zdp Tryz.func113 ad rfl,fun E w vs hs hr=>?_⟩
 simp only [Reps] at hr
 obtain ⟨v0,r0,e0,q0,v1,r1,rfl,q1,rfl⟩:=hr
 have q0':=q0
 simp only [Rep,RepD] at q0 q1
 obtain ⟨b,T',cs',hi',hb,rfl⟩:=q0
 rw [hi] at hi';cases hi'
 subst q1
 have hvs:vs= #[.pointer (some ⟨b,o,none⟩),.string ⟨l.toArray⟩]:=bX
 subst hvs
 have hij:i≠j:=fun e=>by rw [e,hj] at hi;cases hi
 have hob:=hs.heap i _ hi
 simp only [RepObj] at hob
 obtain ⟨b',c,T0,fz,g1,g2,g3,g4,rfl⟩:=hob
 rw [hb] at g1;cases g1
 have hcl:c.size=cs.length:=by have:=Reps.length g3;simpa using this
 obtain ⟨v,hv0,hv⟩:=Reps.get g3 c1
 have hv1:c[o+1]?=some v:=by simpa using hv0
 have hlt1:o+1<c.size:=(Array.getElem?_eq_some_iff.1 hv1).1
 obtain ⟨o1,o2,o3⟩:=ztB hs hj hv hn
 have hne:v.ownBlock≠some b:=fun e=>hij (hs.inj i j b al (by simp [hj]) hb (o2 b e))
 have hfz:∀k,k<c.size→w.frozen? ⟨b,k,none⟩=false:=fun k hk=>by
  rw [z6 g2]
  have:=g4 k hk
  simpa using this
 have hptr:Rep w E h (.tp i o) (.pointer (some ⟨b,o,none⟩)):=q0'
 have hc0:c[o]?=some (.pointer none)∨c[o]?=some (.pointer (some ⟨b,o,none⟩)):=by
  rcases c0 with c0|c0
  ·obtain ⟨u,hu,hur⟩:=Reps.get g3 c0
   simp only [Rep,RepD] at hur
   subst hur
   exact .inl (by simpa using hu)
  ·obtain ⟨u,hu,hur⟩:=Reps.get g3 c0
   simp only [Rep] at hur
   obtain ⟨b2,_,_,_,hb2,rfl⟩:=hur
   rw [hb] at hb2;cases hb2
   exact .inr (by simpa using hu)
 refine (zoi b o c.size T0 w v xs.length (Lib.byteCells xs) ⟨l.toArray⟩ (by rw [zx g2];exact hc0) (by rw [zx g2];exact hv1) (by simp [World.shape?,g2]) U (by rw [hcl];exact hl) (hfz o U) (hfz (o+1) hlt1) o1 hne (by simpa [ByteArray.size] using hlen)).mono ?_
 rintro e w3 ⟨rfl,w1,v',w2,hw1,hown',hgrow,⟨hnew,hempty⟩,rfl⟩
 have hw1':w1=w.setCell ⟨b,o,none⟩ (.pointer (some ⟨b,o,none⟩)):=by
  rcases hw1 with ⟨rfl,hc⟩|h
  ·rw [zx g2] at hc
   exact (zmy g2 hc).symm
  ·exact h
 subst hw1'
 obtain ⟨ch1,hs1⟩:=pokeT hs hi hb (o:=o) hptr
 have hj1:hget (hset h i (.tvar T0 (cs.set o (.tp i o)))) j=some (.buf 5 xs):=by rw [zH (Ne.symm hij)];exact hj
 rw [zi8] at hown'
 have hsz:(⟨l.toArray⟩:ByteArray).size=l.length:=bE
 rw [hsz] at hown' hempty
 obtain ⟨g',cap',hv',hg'⟩:∃ (g':Option Nat) (cap':Nat),v'.ownBlock=g'∧((v'= .slice none 0 0∧g'=none∧xs++l= [])∨∃g cur,g'=some g∧v'= .slice (some ⟨g,0,none⟩) (xs.length+l.length) cap'∧w2.heap[g]?=some (.cells cur 5 (0,0))∧xs.length+l.length≤cap'∧cap'≤maxLen∧cur.size=cap'*1∧cur.toList.take ((xs.length+l.length)*1)=Lib.byteCells xs++Lib.byteCells l)∧(l= []→g'=E.O j∧cap'=E.C j):=by
  rcases hown'.2 with ⟨rfl,hz⟩|⟨g,cap',cur,rfl,_,hx⟩
  ·refine ⟨none,E.C j,rfl,.inl ⟨rfl,rfl,?_⟩,fun hl0=>⟨?_,rfl⟩⟩
   ·have h1:xs= []:=List.length_eq_zero_iff.1 U
    have h2:l= []:=List.length_eq_zero_iff.1 U
    simp [h1,h2]
   ·have hve:=hempty (by simp [hl0])
    rcases o3 with ⟨_,h1⟩|⟨g,h1,_⟩
    ·exact h1.symm
    ·rw [h1] at hve;cases hve
  ·refine ⟨some g,cap',rfl,.inr ⟨g,cur,rfl,rfl,hx⟩,fun hl0=>?_⟩
   have hve:=hempty (by simp [hl0])
   rcases o3 with ⟨h1,_⟩|⟨g2,h1,h2⟩
   ·rw [h1] at hve;cases hve
   ·rw [h1] at hve
    simp only [Value.slice.injEq,Option.some.injEq,Addr.mk.injEq] at hve
    obtain ⟨⟨rfl,_⟩,_,rfl⟩:=hve
    exact ⟨h2.symm,rfl⟩
 obtain ⟨hg',hsame⟩:=hg'
 have ch2:Chg E (hset h i (.tvar T0 (cs.set o (.tp i o)))) (w.setCell ⟨b,o,none⟩ (.pointer (some ⟨b,o,none⟩))) (E.set j g' cap') (hset (hset h i (.tvar T0 (cs.set o (.tp i o)))) j (.buf 5 (xs++l))) w2 j:=
  ztC hj1 g' cap' hgrow (fun g hg=>o2 g hg) aa (fun e=>hsame (by simpa using e)) (fun g hg=>by
   rcases hnew g (by rw [hv',hg]) with h1|h1
   ·exact .inl (o2 g h1)
   ·exact .inr h1)
 have hs2:=ch2.satH hs1 (fun ob hob=>by
  rw [zh hj1] at hob
  cases hob
  simp only [RepObj,Env.set,if_true]
  rcases hg' with ⟨_,h1,h2⟩|⟨g,cur,h1,h2,h3,h4,h5,h6,h7⟩
  ·exact .inl ⟨h1,.inl h2⟩
  ·refine .inr ⟨g,cur,5,(0,0),h1,h3,h6,by simpa using h4,?_,rfl,rfl,by unfold maxLen at h5;omega⟩
   rw [Nat.mul_one] at h7
   rw [List.length_append,h7]
   simp [Lib.byteCells])
 have hi2:hget (hset (hset h i (.tvar T0 (cs.set o (.tp i o)))) j (.buf 5 (xs++l))) i=some (.tvar T0 (cs.set o (.tp i o))):=by rw [zH hij];exact zh hi
 have hb2:(E.set j g' cap').O i=some b:=by simp [Env.set,hij,hb]
 have hrv':Rep w2 (E.set j g' cap') (hset (hset h i (.tvar T0 (cs.set o (.tp i o)))) j (.buf 5 (xs++l))) (.bsl j (xs.length+l.length)) v':=by
  simp only [Rep]
  rcases hg' with ⟨h0,h1,h2⟩|⟨g,cur,h1,h2,h3,h4,h5,h6,h7⟩
  ·have h3:xs.length+l.length=0:=by have:=congrArg List.length h2;simpa using this
   exact ⟨⟨_,_,_,h0⟩,_,_,zh hj1,aa,fun _=> .inl ⟨⟨by simp [Env.set,h1],h3⟩,h0⟩⟩
  ·exact ⟨⟨_,_,_,h2⟩,_,_,zh hj1,aa,fun _=> .inr ⟨g,by simp [Env.set,h1],by simp [Env.set,h2]⟩⟩
 obtain ⟨ch3,hs3⟩:=pokeT hs2 hi2 hb2 (o:=o+1) hrv'
 have eh:hset (hset (hset h i (.tvar T0 (cs.set o (.tp i o)))) j (.buf 5 (xs++l))) i (.tvar T0 ((cs.set o (.tp i o)).set (o+1) (.bsl j (xs.length+l.length))))=hset (hset h j (.buf 5 (xs++l))) i (.tvar T0 ((cs.set o (.tp i o)).set (o+1) (.bsl j (xs.length+l.length)))):=by
  rw [zlZ h hij,zjO]
 refine ⟨_,_,_,_,rfl,⟨rfl,rfl⟩,eh ▸ hs3,?_,eh ▸ ((ch1.evoC (.inl al)).trans ((ch2.evoC (.inl (by simp [hj1]))).trans (ch3.evoC (.inl (by simp [hi2]))))),fun x y hxy=>eh ▸ ch3.rep (ch2.rep (ch1.rep hxy))⟩
 simp only [Rep,Reps,RepD]
 refine ⟨_,rfl,_,_,rfl,?_,_,_,rfl,rfl,rfl⟩
 rw [hsz]
noncomputable def gone:List UInt8:=List.replicate zfI 0
theorem zol:gone.length=zfI:=by unfold gone;exact List.length_replicate ..
attribute [irreducible] gone
theorem ziv {o:Nat} {T:TypeId} {cs:List AV} {xs:List UInt8} {n:Nat} (hi:hget h i=some (.tvar T cs)) (c1:cs[o+1]?=some (.bsl j n)) (hj:hget h j=some (.buf 5 xs)) (hn:n=xs.length) (hlen:xs.length≤140737488355328):
  ACallAt Tryz.prog fl 98 [.tp i o] h (fun r h'=>r= .d (.str xs)∧h'=hset h j (.buf 5 gone)):=by
 refine ⟨zdp Tryz.func98 ad rfl,fun E w vs hs hr=>?_⟩
 simp only [Reps] at hr
 obtain ⟨v0,r0,e0,q0,rfl⟩:=hr
 have q0':=q0
 simp only [Rep] at q0
 obtain ⟨b,T',cs',hi',hb,rfl⟩:=q0
 rw [hi] at hi';cases hi'
 have hvs:vs= #[.pointer (some ⟨b,o,none⟩)]:=bX
 subst hvs
 have hob:=hs.heap i _ hi
 simp only [RepObj] at hob
 obtain ⟨b',c,T0,fz,g1,g2,g3,g4,rfl⟩:=hob
 rw [hb] at g1;cases g1
 obtain ⟨v,hv0,hv⟩:=Reps.get g3 c1
 have hv1:c[o+1]?=some v:=by simpa using hv0
 obtain ⟨o1,o2,o3⟩:=ztB hs hj hv hn
 refine (zmx b o w v xs (by rw [zx g2];exact hv1) o1).mono ?_
 rintro e w3 ⟨rfl,hgrow⟩
 have hgl:=zol
 have hdl:zfI=9223372036854775808:=rfl
 have ch:Chg E h w (E.set j none 0) (hset h j (.buf 5 gone)) w3 j:=
  ztC hj none 0 hgrow (fun g hg=>o2 g hg) U (fun e=>U) (fun g hg=>by cases hg)
 have hs2:=ch.satH hs (fun ob hob=>by
  rw [zh hj] at hob
  cases hob
  simp only [RepObj,Env.set,if_true]
  exact .inl ⟨trivial,.inr hgl⟩)
 exact ⟨_,_,_,_,rfl,⟨rfl,rfl⟩,hs2,by simp only [Rep,RepD],ch.evoC (.inl (by simp [hj])),fun x y hxy=>ch.rep hxy⟩
theorem ziw {cx:Cx} {c:Code} {Q:Exit→AS→Prop} {s:AS} (i o:Nat) {T:TypeId} {cs:List AV} (hi:hget s.h i=some (.tvar T cs)) (ho:cs[o]?=some (.nils 1))
    (h:AW cx c Q { s with h:=(fresh cx.fl s.h,.buf 5 [])::hset s.h i (.tvar T (cs.set o (.bsl (fresh cx.fl s.h) 0))) }):AW cx c Q s:=fun E a w hs=>by
  have hne:fresh cx.fl s.h≠i:=fun e=>by
    have:=zbB cx.fl s.h
    rw [e,hi] at this;cases this
  have cc:Chg E s.h w (E.set (fresh cx.fl s.h) none 0) ((fresh cx.fl s.h,.buf 5 [])::s.h) w (fresh cx.fl s.h):=
    { os:=rfl,tape:=rfl,output:=rfl,size:=Nat.le_refl _,envO:=fun j e=>az,envC:=fun j e=>az,M:=rfl,N:=rfl,hh:=fun j e=>bc,
      gi:=bG
      blk:=fun b hb _=>rfl
      new:=fun b _ hb=>by simp [Env.set] at hb }
  have hs1:=cc.sat (t:=s.t) (g:=s.g) hs (fun o ho=>by
    simp [hget] at ho
    subst ho
    simp only [RepObj]
    exact .inl ⟨aw,.inl trivial⟩)
  have hi1:hget ((fresh cx.fl s.h,.buf 5 [])::s.h) i=some (.tvar T cs):=by simp [hget,hne,hi]
  have e1:(fresh cx.fl s.h,AObj.buf 5 [])::hset s.h i (.tvar T (cs.set o (.bsl (fresh cx.fl s.h) 0)))=hset ((fresh cx.fl s.h,.buf 5 [])::s.h) i (.tvar T (cs.set o (.bsl (fresh cx.fl s.h) 0))):=by
    simp [hset,hne]
  obtain ⟨E1,hE1⟩:∃E1,E1=E.set (fresh cx.fl s.h) none 0:=⟨_,rfl⟩
  rw [← hE1] at hs1 cc
  obtain ⟨b,c',T',fz,g1,g2,g3,g4,g5⟩:=hs1.hp.tvar hi1
  have ch:=zhH (w:=w) hs1.hp hi1 (cs':=cs.set o (.bsl (fresh cx.fl s.h) 0)) aa g1 (.cells c' T' fz)
  rw [zkY g2] at ch
  have hs2:=ch.sat (t:=s.t) (g:=s.g) hs1 (fun ob hob=>by
    rw [zh hi1] at hob
    cases hob
    simp only [RepObj]
    refine ⟨b,c',T',fz,g1,g2,?_,g4,g5⟩
    obtain ⟨v,hv,hvr⟩:=Reps.get g3 ho
    simp only [Rep] at hvr
    subst hvr
    have:=g3.set (i:=o) (a:= .bsl (fresh cx.fl s.h) 0) (v:= .slice none 0 0) (by
      simp only [Rep]
      refine ⟨⟨_,_,_,rfl⟩,5,[],aC,aa,fun _=> .inl ⟨⟨by simp [hE1,Env.set],trivial⟩,trivial⟩⟩)
    have e2:c'.toList.set o (.slice none 0 0)=c'.toList:=by
      obtain ⟨hlt,he⟩:=List.getElem?_eq_some_iff.1 hv
      rw [← he,List.set_getElem_self]
    rw [e2] at this
    exact ch.reps this)
  rw [← e1] at hs2
  refine wpIn_mono (h _ a w hs2) (fun _ _ _ hr=>hr.trans (Evo.trans (cc.evo (.inr (zaM _ _))) ?_))
  rw [e1]
  exact ch.evo (.inl (by simp [hi1]))
end
open Go Go.Proofs
def idxP {α:Type} (p:α→Bool):List α→Nat→Int
 | [],_=> -1
 |q::l,k=>if p q=true then (k:Int) else idxP p l (k+1)
abbrev Idst {α:Type} (p:α→Bool) (l:List α):= { i:Nat // i≤l.length∧idxP p l 0=idxP p (l.drop i) i }
theorem znV {α:Type} (p:α→Bool):∀ (l:List α) (k:Nat),decide ((0:Int)≤idxP p l k)=l.any p
 | [],k=>rfl
 |q::l,k=>by
  rw [idxP,List.any_cons]
  by_cases h:p q=true
  ·rw [if_pos h,h,decide_eq_true U];rfl
  ·rw [if_neg h,znV p l (k+1)];simp [h]
theorem zhr {α:Type} [BEq α] [LawfulBEq α] (x:α):∀ (l:List α),l.any (fun q=>x==q)=l.contains x
 | []=>rfl
 |q::l=>by rw [List.any_cons,zhr x l,List.contains_cons]
open Go Go.Proofs
open Go Go.Proofs
open Go Go.Proofs
def zdM (g h:Int):Bool:=decide (1≤g)&&decide (g≤64)&&decide (8≤h)&&decide (h≤256)
def zhu (g h:Int):Int:=if zdM g h then 96+2*h else 0
theorem geo_iff {g h:Int} :zdM g h=true↔1≤g∧g≤64∧8≤h∧h≤256:=by
 simp [zdM,and_assoc]
theorem zxG (k:Int) (hp:0≤k∧k≤1000000):AC 271 [.d (.int .i64 k)] (.d (.int .i64 (96+2*k))):=by
 obtain ⟨h0,h1⟩:=hp
 refine bod Tryz.func271 Tryz.ntmps271 (fun base=>?_)
 have hm:IntKind.i64.wrap (2*k)=2*k:=zi U U
 have hm2:IntKind.i64.wrap (96+2*k)=96+2*k:=zi U U
 refine' zc (zj hm hm2)
@[go_sem] noncomputable def zX:Ent Tryz.prog 271:= .m1 (intT .i64) zxG
theorem zvv (k:Int) (hp:0≤k∧k≤1000000):AC 162 [.d (.int .i64 k)] (.tup [.d (.int .i64 (87+k / 32)),.d (.int .i64 (2*(k % 32)))]):=by
 obtain ⟨h0,h1⟩:=hp
 refine bod Tryz.func162 Tryz.ntmps162 (fun base=>?_)
 have hm:IntKind.i64.wrap (k.tdiv 32)=k / 32:=by rw [Int.tdiv_eq_ediv_of_nonneg h0,zi U U]
 have hm2:IntKind.i64.wrap (87+k / 32)=87+k / 32:=zi U U
 have hm3:k.tmod 32=k % 32:=Int.tmod_eq_emod_of_nonneg h0
 have hm4:IntKind.i64.wrap (2*(k % 32))=2*(k % 32):=zi U U
 refine' zc (zE hm hm2 hm3 hm4)
@[go_sem] noncomputable def zdg:Ent Tryz.prog 162:= .m1 (intT .i64) zvv
theorem zsZ:ACall Tryz.prog 345 0 [] [] (fun r _=>r= .tup [.d (.int .i64 6),.d (.int .i64 81)]):=by
 refine bod Tryz.func345 Tryz.ntmps345 (fun base=>?_)
 refine' zc fx
@[go_sem] noncomputable def znX:Ent Tryz.prog 345:= .ofL nilL (fun _=>True) (fun _=> .tup [.d (.int .i64 6),.d (.int .i64 81)]) (fun _ hp=>⟨rfl,zsZ⟩)
theorem zvw (g:Int) (m:Int):ACall Tryz.prog 80 0 [.agg [.d (.int .i64 g),.d (.int .i64 m)]] [] (fun r _=>r= .d (.bool (zdM g m))):=by
 refine bod Tryz.func80 Tryz.ntmps80 (fun base=>?_)
 refine' zc fx
 rfl
@[go_sem] noncomputable def zcC:Ent Tryz.prog 80:= .ofL (consL (aggT (consL (intT .i64) (consL (intT .i64) nilL)) (fun p=>p) (fun p=>p) (fun _=>rfl)) nilL) (fun ((g,m,_),_)=>True) (fun ((g,m,_),_)=> .d (.bool (zdM g m))) (fun ((g,m,_),_) hp=>⟨rfl,zvw g m⟩)
theorem zvx (g:Int) (m:Int):ACall Tryz.prog 83 0 [.agg [.d (.int .i64 g),.d (.int .i64 m)]] [] (fun r _=>r= .d (.int .i64 (zhu g m))):=by
 refine bod Tryz.func83 Tryz.ntmps83 (fun base=>?_)
 refine' walkW fx (za zcC <| zb _)
 ·have hc:zdM g m=false:=by simpa using hc
  rw [zhu,if_neg (by rw [hc];exact Bool.false_ne_true)]
 ·have hc:zdM g m=true:=by simpa using hc
  have hg:=geo_iff.1 hc
  rw [zhu,if_pos hc,zi (n:=2*m) U U,zi U U]
@[go_sem] noncomputable def zd1:Ent Tryz.prog 83:= .ofL (consL (aggT (consL (intT .i64) (consL (intT .i64) nilL)) (fun p=>p) (fun p=>p) (fun _=>rfl)) nilL) (fun ((g,m,_),_)=>True) (fun ((g,m,_),_)=> .d (.int .i64 (zhu g m))) (fun ((g,m,_),_) hp=>⟨rfl,zvx g m⟩)
open Go Go.Proofs
open Go Go.Proofs
open Go Go.Proofs
open Go Go.Proofs
open Go Go.Proofs
open Go Go.Proofs
theorem zg4:liesAt Tryz.prog Tryz.prog.depth 180 (2 / Tryz.prog.cellsOf 180) 0 180 1=true:=ad
open Go Go.Proofs
open Go Go.Proofs
open Go Go.Proofs
open Go Go.Proofs
open Go Go.Proofs
open Go Go.Proofs
open Go Go.Proofs
open Go Go.Proofs
open Go Go.Proofs
open Go Go.Proofs
open Go Go.Proofs
open Go Go.Proofs
open Go Go.Proofs
open Go Go.Proofs
open Go Go.Proofs
open Go Go.Proofs
open Go Go.Proofs
open Go Go.Proofs
theorem ztE {p:Nat→Bool} {h:AHeap} (hin:inH (hsel p h) (idsH (hsel p h))):Closed p h:=fun i o ho hp j hj=>by
 have h1:hget (hsel p h) i=some o:=dw
 have:=zeb hin j (ze9 h1 j hj)
 rw [zr] at this
 cases hb:p j with
 |true=>rfl
 |false=>rw [hb] at this;simp at this
open Go Go.Proofs
def cutN:Nat→Nat→Nat→List (Nat×Nat×Nat)
 |0,_,_=> []
 |k+1,a,n=>if n=0 then [] else (a / 128,a % 128,min n (128 - a % 128))::cutN k (a+min n (128 - a % 128)) (n - min n (128 - a % 128))
def cuts (a n:Nat):List (Nat×Nat×Nat):=cutN n a n
theorem ztF (k:Nat):∀ (j a n:Nat),n≤k→k≤j→cutN j a n=cutN k a n:=by
 induction k with
 |zero=>
  intro j a n h1 h2
  have:n=0:=U
  subst this
  cases j<;>simp [cutN]
 | succ k ih=>
  intro j a n h1 h2
  obtain ⟨j,rfl⟩:∃i,j=i+1:=⟨j - 1,U⟩
  simp only [cutN]
  split
  ·rfl
  ·rename_i h0
   rw [ih j _ _ U U]
theorem zeX (a:Nat):cuts a 0= []:=rfl
theorem zeq (a n:Nat) (h:0<n):cuts a n=(a / 128,a % 128,min n (128 - a % 128))::cuts (a+min n (128 - a % 128)) (n - min n (128 - a % 128)):=by
 unfold cuts
 obtain ⟨k,rfl⟩:∃k,n=k+1:=⟨n - 1,U⟩
 rw [cutN,if_neg U]
 congr 1
 exact ztF _ _ _ _ (Nat.le_refl _) U
theorem zk0 (n:Nat):∀a,(cuts a n).length≤n:=by
 induction n using Nat.strongRecOn with
 | _ n ih=>
  intro a
  rcases Nat.eq_zero_or_pos n with rfl|h
  ·simp [zeX]
  ·rw [zeq a n h]
   simp only [List.length_cons]
   have:=ih (n - min n (128 - a % 128)) U (a+min n (128 - a % 128))
   omega
def cutD (q:Nat×Nat×Nat):List D:= [.int .i64 q.1,.int .i64 q.2.1,.int .i64 q.2.2]
def zb6 (q:Nat×Nat×Nat):List AV:= [.agg [.d (.int .i64 q.1),.d (.int .i64 q.2.1),.d (.int .i64 q.2.2)]]
theorem zoo (a n:Nat) (h:0<n) (xs:List (List AV)) {items:List (List AV)} (e:xs++(cuts a n).map zb6=items):(xs++ [zb6 (a / 128,a % 128,min n (128 - a % 128))])<+:items∧
  (xs++ [zb6 (a / 128,a % 128,min n (128 - a % 128))])++(cuts (a+min n (128 - a % 128)) (n - min n (128 - a % 128))).map zb6=items:=by
 rw [zeq a n h] at e
 have e2:(xs++ [zb6 (a / 128,a % 128,min n (128 - a % 128))])++(cuts (a+min n (128 - a % 128)) (n - min n (128 - a % 128))).map zb6=items:=by
  rw [← e];simp
 exact ⟨⟨_,e2⟩,e2⟩
abbrev Pst (items:List (List AV)) (b:Nat):= { q:List (List AV)×Nat×Nat // q.1++(cuts q.2.1 q.2.2).map zb6=items∧q.2.1+q.2.2≤b }
@[go_sem] abbrev hPc (a n:Nat):AHeap:= [(1,.var [.d (.int .i64 n)]),(0,.var [.d (.int .i64 a)])]
theorem zk2 (a n:Nat) (hb:a+n≤1100000000):AIter Tryz.prog 304 4 [] [.vp 1 0,.vp 0 0] (hPc a n) ((cuts a n).map zb6) (fun g h'=>(∀xs,g=some xs→xs=(cuts a n).map zb6)∧∃u v:Nat,h'=hPc u v):=by
 refine itr Tryz.func304 Tryz.ntmps304 (fun base y=>?_)
 refine' zgc fx
 refine zk (fun q:Pst ((cuts a n).map zb6) (a+n)=>⟨[(0,true,.fn (.yield y.yl) [] []),(1,true,.vp 1 0),(2,true,.vp 0 0)],hPc q.1.2.1 q.1.2.2,some q.1.1⟩) (fun q=>q.1.2.2) ⟨([],a,n),rfl,Nat.le_refl _⟩ (by simp only [AS.le,leT,leH,zf,AsgK,AV.le,AV.leL,AObj.le,inH,idsT,idsH,AV.ids,AV.idsL,AV.idsR,AObj.ids,lk,hget,go_sem,aeq,aeq.aeqF,simprocAttr,hPc]<;>and_intros<;>rfl) (fun q=>?_)
 obtain ⟨⟨xs,a',n'⟩,he,hbq⟩:=q
 simp only at he hbq ⊢
 rcases Nat.eq_zero_or_pos n' with hn0|hn0
 ·have hg:decide ((0:Int)<(n':Int))=false:=decide_eq_false U
  refine' zgc hg
  all_goals first|exact ⟨_,_,rfl⟩|skip
  subst hn0
  rw [zeX] at he
  ·rintro zs rfl
   rw [← he];simp
 ·have hg:decide ((0:Int)<(n':Int))=true:=decide_eq_true U
  obtain ⟨m,hm⟩:∃m,m=min n' (128 - a' % 128):=⟨_,rfl⟩
  have hq:IntKind.i64.wrap ((a':Int).tdiv 128)=((a' / 128:Nat):Int):=by
   rw [Int.tdiv_eq_ediv_of_nonneg U,IntKind.wrap_i64];omega
  have hr:(a':Int).tmod 128=((a' % 128:Nat):Int):=by
   rw [Int.tmod_eq_emod_of_nonneg U];omega
  have hs:IntKind.i64.wrap (128 - ((a' % 128:Nat):Int))=((128 - a' % 128:Nat):Int):=aS
  have hmin:imin (n':Int) ((128 - a' % 128:Nat):Int)=(m:Int):=by
   unfold imin
   split<;>omega
  have hadd:IntKind.i64.wrap ((a':Int)+(m:Int))=((a'+m:Nat):Int):=aS
  have hsub:IntKind.i64.wrap ((n':Int) - (m:Int))=((n' - m:Nat):Int):=aS
  obtain ⟨hp1,hp2⟩:=zoo a' n' hn0 xs he
  rw [← hm] at hp1 hp2
  simp only [zb6] at hp1
  refine' zgc (zo hg hq hr hs hmin (zj hadd hsub))
  ·exact ⟨⟨⟨_,a'+m,n' - m⟩,hp2,au⟩,by simp only [AS.le,leT,leH,zf,AsgK,AV.le,AV.leL,AObj.le,inH,idsT,idsH,AV.ids,AV.idsL,AV.idsR,AObj.ids,lk,hget,go_sem,aeq,aeq.aeqF,simprocAttr,hPc,zb6]<;>and_intros<;>rfl,au⟩
  ·exact ⟨_,_,rfl⟩
def cutR (x:List AV):List D:=match x with
 | [.agg [.d a,.d b,.d c]]=> [a,b,c]
 |_=> []
theorem zv8 (l:List (Nat×Nat×Nat)):(l.map zb6).map cutR=l.map cutD:=by rw [List.map_map];rfl
@[go_sem] abbrev hC3 (u v:Nat) (l:List (List D)):AHeap:= [(1,.var [.d (.int .i64 v)]),(0,.var [.d (.int .i64 u)]),(3,.arr 3 l),(2,.var [.osl 3 3 l.length 0 l.length])]
theorem zk4 (a n:Nat) (hb:a+n≤1100000000) (hn:n≤100000):ACall Tryz.prog 303 2 [.nils 3,.fn (.func 304) [] [.vp 1 0,.vp 0 0]] (hPc a n) (fun r h'=>r= .osl 3 3 (cuts a n).length 0 (cuts a n).length∧∃u v:Nat,h'=hC3 u v ((cuts a n).map cutD)):=by
 refine bod Tryz.func303 Tryz.ntmps303 (fun base=>?_)
 have hcl:=zk0 n a
 refine' zaS fx
 refine zeO 2 0 3 (cs:= [.nils 3]) rfl rfl ?_
 simp only [go_sem,aeq,aeq.aeqF,simprocAttr]
 obtain ⟨I,hI⟩:∃I:List (List AV)→AHeap×Option (List (List AV)),I=fun xs=>([(3,.arr 3 (xs.map cutR)),(2,.var [.osl 3 3 xs.length 0 xs.length])],some []):=⟨_,rfl⟩
 refine zho (Kit:=fun g h'=>(∀xs,g=some xs→xs=(cuts a n).map zb6)∧∃u v:Nat,h'=hPc u v) (items:=(cuts a n).map zb6) (fl:=4) (fun i=>decide (i<2)) I (fun _ _ _=>False) rfl rfl (zk2 a n hb) (zbK rfl) bM (ztE ?_) aD ?_ ?_ (by rw [hI]) ?_ (fun _ _ _ h=>h.elim) ?_ ep bM ?_ ?_ (fun _ _ _ _ _ h=>h.elim)
 ·simp [hsel,inH,idsH,AObj.ids,AV.idsL,AV.ids,hget]
 ·rw [hI]
  simp [hsel,leH,hget,AObj.le,AV.leL,AV.le]
 ·rw [hI]
  simp [inH,idsH,AObj.ids,AV.idsL,AV.ids,hget]
 ·intro xs _ i hi
  rw [hI] at hi
  simp only [hget] at hi
  repeat' split at hi
  all_goals first|(simp;omega)|simp at hi
 ·rintro gg h' ⟨h1,u,v,rfl⟩
  refine ⟨fun i hi=>?_,h1⟩
  simp only [hget] at hi
  repeat' split at hi
  all_goals first|(simp;omega)|simp at hi
 ·intro xs x hpre l1 r1
  obtain ⟨q,hq,rfl⟩:=List.mem_map.1 (hpre.subset (List.mem_append_right _ (List.mem_singleton.2 rfl)))
  have hxl:=hpre.length_le
  simp only [List.length_append,List.length_map,List.length_cons,List.length_nil] at hxl
  obtain ⟨m,d',b'⟩:=q
  simp only [zb6]
  refine aw_le ⟨[(7,true,.agg [.d (.int .i64 m),.d (.int .i64 d'),.d (.int .i64 b')]),(2,true,.vp 2 0)],[(3,.arr 3 (xs.map cutR)),(2,.var [.osl 3 3 xs.length 0 xs.length])],some []⟩ (by rw [hI];simp only [AS.le,leT,leH,zf,AsgK,AV.le,AV.leL,AObj.le,inH,idsT,idsH,AV.ids,AV.idsL,AV.idsR,AObj.ids,lk,hget,go_sem,aeq,aeq.aeqF,simprocAttr]) ?_
  refine' zaS hI
  all_goals first|omega|(simp;done)|skip
  all_goals (rw [List.map_append];rfl)
 ·rintro h1 ⟨_,u,v,rfl⟩
  rw [hI]
  simp only [zv8,List.length_map]
  refine' zaS fx
  exact ⟨u,v,aa⟩
theorem zop (a n:Nat) (hb:a+n≤1100000000) (hn:n≤100000):ACall Tryz.prog 246 2 [.fn (.func 304) [] [.vp 1 0,.vp 0 0]] (hPc a n) (fun r h'=>r= .osl 3 3 (cuts a n).length 0 (cuts a n).length∧∃u v:Nat,h'=hC3 u v ((cuts a n).map cutD)):=by
 refine bod Tryz.func246 Tryz.ntmps246 (fun base=>?_)
 refine' zc fx
 refine ((zk4 a n hb hn).whole (zbK rfl) (Nat.le_refl _) ?_).mono ?_
 ·rintro r h' ⟨_,u,v,rfl⟩ i hi
  simp only [hget] at hi ⊢
  repeat' split at hi
  all_goals first|(simp_all;done)|skip
 rintro r h' ⟨rfl,u,v,rfl⟩
 refine' zc fx
 exact ⟨u,v,rfl⟩
theorem zq4 (a n:Nat):ACall Tryz.prog 247 0 [.d (.int .i64 a),.d (.int .i64 n)] [] (fun r h'=>r= .fn (.func 304) [] [.vp 1 0,.vp 0 0]∧h'=hPc a n):=by
 refine bod Tryz.func247 Tryz.ntmps247 (fun base=>?_)
 refine' zc fx
def cutsL (a n:Int):List (Nat×Nat×Nat):=if a<0∨n<0∨1073741824<a∨65536<n then [] else cuts a.toNat n.toNat
theorem zxX (a n:Int) (_:True):AC 179 [.d (.int .i64 a),.d (.int .i64 n)] (.d (.sl 3 ((cutsL a n).map cutD))):=by
 refine fbod Tryz.func179 Tryz.ntmps179 (fun base=>?_)
 cases hb:(decide (a<0)||decide (n<0)||decide (1073741824<a)||decide (65536<n)) with
 |true=>
  refine' zc hb
  rw [cutsL,if_pos (by simpa [or_assoc] using hb)]
  rfl
 | false=>
  have hb':¬(a<0∨n<0∨1073741824<a∨65536<n):=by simp at hb;omega
  obtain ⟨x,rfl⟩:∃x:Nat,a=x:=⟨a.toNat,U⟩
  obtain ⟨y,rfl⟩:∃y:Nat,n=y:=⟨n.toNat,U⟩
  have hcl:=zk0 y x
  refine' zc hb
  refine ((zq4 x y).whole (zbK rfl) (Nat.le_refl _) (by rintro r h' _ i hi;simp [hget] at hi)).mono ?_
  rintro r h' ⟨rfl,rfl⟩
  simp only [go_sem,aeq,aeq.aeqF,simprocAttr,hPc]
  refine ((zop x y U U).whole (zbK rfl) (Nat.zero_le _) ?_).mono ?_
  ·rintro r h' ⟨_,u,v,rfl⟩ i hi
   simp only [hget] at hi ⊢
   repeat' split at hi
   all_goals first|(simp_all;done)|skip
  rintro r h' ⟨rfl,u,v,rfl⟩
  simp only [go_sem,aeq,aeq.aeqF,simprocAttr,hC3]
  refine' zc fx
  rw [cutsL,if_neg hb']
  rfl
@[go_sem] noncomputable def zix:Ent Tryz.prog 179:= .m2 (intT .i64) (intT .i64) zxX
open Go Go.Proofs
open Go Go.Proofs
end Go.Aw
namespace Go.Proofs.YtgldbfelccddbaaGreat
open Go Go.RowKit
structure Grown (w w':World):Prop where
 os:w'.os=w.os
 tape:w'.tape=w.tape
 output:w'.output=w.output
 size:w.heap.size≤w'.heap.size
 keep:∀b,b<w.heap.size→w'.heap[b]?=w.heap[b]?
theorem Grown.set {w W:World} (h:Grown w W) {a:Addr} (ha:w.heap.size≤a.block) (v:Value):Grown w (W.setCell a v):=by
 refine ⟨h.os,h.tape,h.output,?_,fun b hb=>?_⟩
 ·simp only [World.setCell,Array.size_modify]
  exact h.size
 ·refine Eq.trans ?_ (h.keep b hb)
  simp only [World.setCell,Array.getElem?_modify]
  rw [if_neg U]
theorem Grown.drew {w W:World} (h:Grown w W):Grown w W.drew:=⟨h.os,h.tape,h.output,h.size,h.keep⟩
theorem zw7 {X:World} {p0 p1 p2:Addr} {a0 a1 a2:Value} (v0 v1 v2:Value) (h0:X.cell? p0=some a0) (h1:X.cell? p1=some a1) (h2:X.cell? p2=some a2) (h01:p0≠p1) (h02:p0≠p2) (h12:p1≠p2):
  (((X.setCell p0 v0).setCell p1 v1).setCell p2 v2).cell? p0=some v0∧(((X.setCell p0 v0).setCell p1 v1).setCell p2 v2).cell? p1=some v1∧(((X.setCell p0 v0).setCell p1 v1).setCell p2 v2).cell? p2=some v2:=by
 have g0:=World.cell?_setCell_same X p0 v0 h0
 have g1:=World.cell?_setCell_same (X.setCell p0 v0) p1 v1 ((World.cell?_setCell_other X p0 p1 v0 h01).trans h1)
 refine ⟨?_,?_,World.cell?_setCell_same _ p2 v2 ((World.cell?_setCell_other _ p1 p2 v1 h12).trans ((World.cell?_setCell_other X p0 p2 v0 h02).trans h2))⟩
 ·exact (World.cell?_setCell_other _ p2 p0 v2 h02.symm).trans ((World.cell?_setCell_other _ p1 p0 v1 h01.symm).trans g0)
 ·exact (World.cell?_setCell_other _ p2 p1 v2 h12.symm).trans g1
theorem zov (p0 p1 p2:Addr) (w:World):
  CallsD Tryz.prog 428 #[.pointer (some p0),.pointer (some p1),.pointer (some p2)] .returning w fun e u' w'=>e= .returned (.tuple #[])∧u'= .returning∧w'=w:=by
 refine callsD_of_wpS Tryz.func428 rfl fun c₀ cs hu=>?_
 apply wpS_seq
 apply wpS_region
 simp [wpOpsS,go_sem,recoverD,hu,Tryz.ntmps428,Exit.thenS]
 refine wpS_of_wp ?_
 go_wp2
 cases c₀
 simp_all [bodyPostS,results,Tryz.results428]
theorem ztP (x:Int) (W:World):(Instr.typeAssert (.iface 416 (.int .i64 x)) 20 416 true).run Tryz.prog W= .ok (.tuple #[.int .i64 x,.bool true]) W:=ad
theorem zq7 (p0 p1 p2:Addr) (x:Int) (s0 s1:ByteArray) (e0:Int) (w:World) (h0:w.cell? p0=some (.string s0)) (h1:w.cell? p1=some (.string s1)) (h2:w.cell? p2=some (.int .i64 e0)) (f0:w.frozen? p0=false) (f1:w.frozen? p1=false) (f2:w.frozen? p2=false) (h01:p1≠p0) (h02:p2≠p0) (h12:p2≠p1):
  CallsD Tryz.prog 428 #[.pointer (some p0),.pointer (some p1),.pointer (some p2)] (.panicking [{ v:= .iface 416 (.int .i64 x),recovered:=false }]) w fun e u' w'=>e= .returned (.tuple #[])∧u'= .panicking [{ v:= .iface 416 (.int .i64 x),recovered:=true }]∧w'=((w.setCell p0 (.string ⟨#[]⟩)).setCell p1 (.string ⟨#[]⟩)).setCell p2 (.int .i64 x):=by
 have hta:=ztP x
 have hnot:∀ (x:Bool) (w:World),(Op.unary .not (.bool x)).run Tryz.prog w= .ok (.bool (!x)) w:=fun _ _=>rfl
 have g1:∀v,(w.setCell p0 v).cell? p1=some (.string s1):=fun v=>(World.cell?_setCell_other _ p0 p1 _ h01.symm).trans h1
 have g2:∀v u,((w.setCell p0 v).setCell p1 u).cell? p2=some (.int .i64 e0):=fun v u=>(World.cell?_setCell_other _ p1 p2 _ h12.symm).trans ((World.cell?_setCell_other _ p0 p2 _ h02.symm).trans h2)
 refine callsD_of_wpS Tryz.func428 rfl fun c₀ cs hu=>?_
 apply wpS_seq
 apply wpS_region
 simp [wpOpsS,go_sem,recoverD,hu,Tryz.ntmps428,Exit.thenS]
 apply wpS_seq
 apply wpS_region
 simp [wpOpsS,go_sem,Exit.thenS]
 refine wpS_cond (t:=true) cB ?_
 simp only [if_true]
 apply wpS_seq
 apply wpS_region
 simp [wpOpsS,go_sem,Exit.thenS,hta]
 apply wpS_seq
 apply wpS_seq
 apply wpS_region
 simp [wpOpsS,go_sem,Exit.thenS,hnot]
 refine wpS_cond (t:=false) cB ?_
 simp only [Bool.false_eq_true,if_false]
 refine wpS_of_wp (wp_skip ?_)
 simp only [Exit.thenS]
 apply wpS_seq
 apply wpS_region
 simp [wpOpsS,go_sem,Exit.thenS]
 apply wpS_region
 simp [wpOpsS,go_sem,Exit.thenS,h0,f0,f1,f2,g1,g2,bodyPostS,results,Tryz.results428]
structure Read3 (w W:World) (z0 z1 z2:Value):Prop where
 g:Grown w W
 c0:W.cell? ⟨w.heap.size,0,none⟩=some z0
 c1:W.cell? ⟨w.heap.size+1,0,none⟩=some z1
 c2:W.cell? ⟨w.heap.size+1+1,0,none⟩=some z2
 f0:W.frozen? ⟨w.heap.size,0,none⟩=false
 f1:W.frozen? ⟨w.heap.size+1,0,none⟩=false
 f2:W.frozen? ⟨w.heap.size+1+1,0,none⟩=false
theorem ztQ (s t s':ByteArray) (w:World)
  (hby:Calls Tryz.prog 391 #[.pointer (some ⟨w.heap.size+1+1+1,0,none⟩)] ((((w.alloc (.cells #[.string ⟨#[]⟩] 9)).alloc (.cells #[.string ⟨#[]⟩] 9)).alloc (.cells #[.int .i64 0] 77)).alloc (.cells #[.string s] 419)) fun e W=>e= .returned (.string t)∧Read3 w W (.string ⟨#[]⟩) (.string ⟨#[]⟩) (.int .i64 0)∧W.cell? ⟨w.heap.size+1+1+1,0,none⟩=some (.string s')):
  Calls Tryz.prog 390 #[.string s,.func (.func 391) #[] #[]] w fun e w'=>e= .returned (.tuple #[.string t,.string s',.int .i64 0])∧Grown w w':=by
 have hmf:∀ (fn:Fn) (first cap:Array Value) (w:World),(Instr.makeFunc fn first cap).run Tryz.prog w= .ok (.func fn first cap) w:=fun _ _ _ _=>rfl
 go_enter_defers Tryz.func390,Tryz.ntmps390
 go_wp2_with (go_at_call 391;refine hby.mono ?_;rintro e W ⟨rfl,hR,hr⟩;have a0:=hR.c0;have a1:=hR.c1;have a2:=hR.c2;have f0:=hR.f0;have f1:=hR.f1;have f2:=hR.f2)
 have b0:(W.setCell ⟨w.heap.size,0,none⟩ (.string t)).cell? ⟨w.heap.size,0,none⟩=some (.string t):=World.cell?_setCell_same W _ _ a0
 have b1:(W.setCell ⟨w.heap.size,0,none⟩ (.string t)).cell? ⟨w.heap.size+1,0,none⟩=some (.string ⟨#[]⟩):=(World.cell?_setCell_other _ _ _ _ aa).trans a1
 have b2:(W.setCell ⟨w.heap.size,0,none⟩ (.string t)).cell? ⟨w.heap.size+1+1,0,none⟩=some (.int .i64 0):=(World.cell?_setCell_other _ _ _ _ aa).trans a2
 have b3:(W.setCell ⟨w.heap.size,0,none⟩ (.string t)).cell? ⟨w.heap.size+1+1+1,0,none⟩=some (.string s'):=(World.cell?_setCell_other _ _ _ _ aa).trans hr
 have d0:(W.setCell ⟨w.heap.size,0,none⟩ (.string t)).frozen? ⟨w.heap.size,0,none⟩=false:=by simp [f0]
 have d1:(W.setCell ⟨w.heap.size,0,none⟩ (.string t)).frozen? ⟨w.heap.size+1,0,none⟩=false:=by simp [f1]
 have d2:(W.setCell ⟨w.heap.size,0,none⟩ (.string t)).frozen? ⟨w.heap.size+1+1,0,none⟩=false:=by simp [f2]
 obtain ⟨X,hX⟩:∃X,X=W.setCell ⟨w.heap.size,0,none⟩ (.string t):=⟨_,rfl⟩
 have hgX:Grown w X:=by rw [hX];exact hR.g.set (Nat.le_refl _) _
 rw [← hX] at b0 b1 b2 b3 d0 d1 d2
 rw [← hX]
 clear a0 a1 a2 f0 f1 f2 hX
 go_region
 all_goals go_wp2
 all_goals
  refine leaves_cons (f:=428) (args:= #[.pointer (some ⟨w.heap.size,0,none⟩),.pointer (some ⟨w.heap.size+1,0,none⟩),.pointer (some ⟨w.heap.size+1+1,0,none⟩)]) aa (by simp [go_sem]) ?_
  refine (zov _ _ _ _).mono ?_
  rintro e u' w'' ⟨rfl,rfl,rfl⟩
  obtain ⟨Y,hY⟩:∃Y,Y=(((X.setCell ⟨w.heap.size,0,none⟩ (.string t)).setCell ⟨w.heap.size+1,0,none⟩ (.string s')).setCell ⟨w.heap.size+1+1,0,none⟩ (.int .i64 0)).drew:=⟨_,rfl⟩
  have hg:Grown w Y:=by rw [hY];exact (((hgX.set (Nat.le_refl _) _).set (Nat.le_succ _) _).set (Nat.le_succ_of_le (Nat.le_succ _)) _).drew
  obtain ⟨e0,e1,e2⟩:Y.cell? ⟨w.heap.size,0,none⟩=some (.string t)∧Y.cell? ⟨w.heap.size+1,0,none⟩=some (.string s')∧Y.cell? ⟨w.heap.size+1+1,0,none⟩=some (.int .i64 0):=by
   rw [hY]
   exact zw7 _ _ _ b0 b1 b2 aa aa aa
  rw [← hY]
  simp [Leaves,settle,results,Tryz.results390,go_sem,e0,e1,e2,hg]
theorem ztR (s:ByteArray) (x:Int) (w:World)
  (hby:Calls Tryz.prog 391 #[.pointer (some ⟨w.heap.size+1+1+1,0,none⟩)] ((((w.alloc (.cells #[.string ⟨#[]⟩] 9)).alloc (.cells #[.string ⟨#[]⟩] 9)).alloc (.cells #[.int .i64 0] 77)).alloc (.cells #[.string s] 419)) fun e W=>e= .panicked [{ v:= .iface 416 (.int .i64 x),recovered:=false }]∧Read3 w W (.string ⟨#[]⟩) (.string ⟨#[]⟩) (.int .i64 0)):
  Calls Tryz.prog 390 #[.string s,.func (.func 391) #[] #[]] w fun e w'=>e= .returned (.tuple #[.string ⟨#[]⟩,.string ⟨#[]⟩,.int .i64 x])∧Grown w w':=by
 have hmf:∀ (fn:Fn) (first cap:Array Value) (w:World),(Instr.makeFunc fn first cap).run Tryz.prog w= .ok (.func fn first cap) w:=fun _ _ _ _=>rfl
 go_enter_defers Tryz.func390,Tryz.ntmps390
 go_wp2_with (go_at_call 391;refine hby.mono ?_;rintro e W ⟨rfl,hR⟩)
 refine leaves_cons (f:=428) (args:= #[.pointer (some ⟨w.heap.size,0,none⟩),.pointer (some ⟨w.heap.size+1,0,none⟩),.pointer (some ⟨w.heap.size+1+1,0,none⟩)]) aa (by simp [go_sem]) ?_
 refine (zq7 _ _ _ x _ _ _ _ hR.c0 hR.c1 hR.c2 hR.f0 hR.f1 hR.f2 aa aa aa).mono ?_
 rintro e u' w'' ⟨rfl,rfl,rfl⟩
 obtain ⟨Y,hY⟩:∃Y,Y=((W.setCell ⟨w.heap.size,0,none⟩ (.string ⟨#[]⟩)).setCell ⟨w.heap.size+1,0,none⟩ (.string ⟨#[]⟩)).setCell ⟨w.heap.size+1+1,0,none⟩ (.int .i64 x):=⟨_,rfl⟩
 have hg:Grown w Y:=by rw [hY];exact ((hR.g.set (Nat.le_refl _) _).set (Nat.le_succ _) _).set (Nat.le_succ_of_le (Nat.le_succ _)) _
 obtain ⟨e0,e1,e2⟩:Y.cell? ⟨w.heap.size,0,none⟩=some (.string ⟨#[]⟩)∧Y.cell? ⟨w.heap.size+1,0,none⟩=some (.string ⟨#[]⟩)∧Y.cell? ⟨w.heap.size+1+1,0,none⟩=some (.int .i64 x):=by
  rw [hY]
  exact zw7 _ _ _ hR.c0 hR.c1 hR.c2 aa aa aa
 rw [← hY]
 simp [Leaves,settle,results,Tryz.results390,go_sem,e0,e1,e2,hg]
end Go.Proofs.YtgldbfelccddbaaGreat
namespace Go.Proofs.YtgldbfelccddbaaGreat
open Go Go.RowKit
theorem zow (p0 p1 p2:Addr) (w:World):
  CallsD Tryz.prog 292 #[.pointer (some p0),.pointer (some p1),.pointer (some p2)] .returning w fun e u' w'=>e= .returned (.tuple #[])∧u'= .returning∧w'=w:=by
 refine callsD_of_wpS Tryz.func292 rfl fun c₀ cs hu=>?_
 apply wpS_seq
 apply wpS_region
 simp [wpOpsS,go_sem,recoverD,hu,Tryz.ntmps292,Exit.thenS]
 refine wpS_of_wp ?_
 go_wp2
 cases c₀
 simp_all [bodyPostS,results,Tryz.results292]
structure Cells4 (w:World) (b:Nat) (v0 v1 v2 v3:Value):Prop where
 c0:w.cell? ⟨b,0,none⟩=some v0
 c1:w.cell? ⟨b,1,none⟩=some v1
 c2:w.cell? ⟨b+1,0,none⟩=some v2
 c3:w.cell? ⟨b+1+1,0,none⟩=some v3
 f0:w.frozen? ⟨b,0,none⟩=false
 f1:w.frozen? ⟨b,1,none⟩=false
 f2:w.frozen? ⟨b+1,0,none⟩=false
 f3:w.frozen? ⟨b+1+1,0,none⟩=false
def set4 (w:World) (b:Nat) (v0 v1 v2 v3:Value):World:=(((w.setCell ⟨b,0,none⟩ v0).setCell ⟨b,1,none⟩ v1).setCell ⟨b+1,0,none⟩ v2).setCell ⟨b+1+1,0,none⟩ v3
theorem Cells4.s1 {w:World} {b:Nat} {v0 v1 v2 v3:Value} (h:Cells4 w b v0 v1 v2 v3) (u0:Value):(w.setCell ⟨b,0,none⟩ u0).cell? ⟨b,1,none⟩=some v1:=(World.cell?_setCell_other _ _ _ _ aa).trans h.c1
theorem Cells4.s2 {w:World} {b:Nat} {v0 v1 v2 v3:Value} (h:Cells4 w b v0 v1 v2 v3) (u0 u1:Value):((w.setCell ⟨b,0,none⟩ u0).setCell ⟨b,1,none⟩ u1).cell? ⟨b+1,0,none⟩=some v2:=(World.cell?_setCell_other _ _ _ _ aa).trans ((World.cell?_setCell_other _ _ _ _ aa).trans h.c2)
theorem Cells4.s3 {w:World} {b:Nat} {v0 v1 v2 v3:Value} (h:Cells4 w b v0 v1 v2 v3) (u0 u1 u2:Value):(((w.setCell ⟨b,0,none⟩ u0).setCell ⟨b,1,none⟩ u1).setCell ⟨b+1,0,none⟩ u2).cell? ⟨b+1+1,0,none⟩=some v3:=(World.cell?_setCell_other _ _ _ _ aa).trans ((World.cell?_setCell_other _ _ _ _ aa).trans ((World.cell?_setCell_other _ _ _ _ aa).trans h.c3))
theorem Cells4.set {w:World} {b:Nat} {v0 v1 v2 v3:Value} (h:Cells4 w b v0 v1 v2 v3) (u0 u1 u2 u3:Value):Cells4 (set4 w b u0 u1 u2 u3) b u0 u1 u2 u3:=by
 have g0:=World.cell?_setCell_same w _ u0 h.c0
 have g1:=World.cell?_setCell_same _ _ u1 (h.s1 u0)
 have g2:=World.cell?_setCell_same _ _ u2 (h.s2 u0 u1)
 have g3:=World.cell?_setCell_same _ _ u3 (h.s3 u0 u1 u2)
 refine ⟨?_,?_,?_,g3,by simp [set4,h.f0],by simp [set4,h.f1],by simp [set4,h.f2],by simp [set4,h.f3]⟩
 ·exact (World.cell?_setCell_other _ _ _ _ aa).trans ((World.cell?_setCell_other _ _ _ _ aa).trans ((World.cell?_setCell_other _ _ _ _ aa).trans g0))
 ·exact (World.cell?_setCell_other _ _ _ _ aa).trans ((World.cell?_setCell_other _ _ _ _ aa).trans g1)
 ·exact (World.cell?_setCell_other _ _ _ _ aa).trans g2
theorem Cells4.alloc {w:World} {b:Nat} {v0 v1 v2 v3:Value} (h:Cells4 w b v0 v1 v2 v3) (hb:b+1+1<w.heap.size) (c:Array Value) (t:TypeId):Cells4 (w.alloc (.cells c t)) b v0 v1 v2 v3:=
 ⟨(World.cell?_alloc_past _ _ _ U).trans h.c0,(World.cell?_alloc_past _ _ _ U).trans h.c1,(World.cell?_alloc_past _ _ _ U).trans h.c2,(World.cell?_alloc_past _ _ _ U).trans h.c3,(frozen?_alloc_cells _ _ _ _).trans h.f0,(frozen?_alloc_cells _ _ _ _).trans h.f1,(frozen?_alloc_cells _ _ _ _).trans h.f2,(frozen?_alloc_cells _ _ _ _).trans h.f3⟩
theorem Cells4.two {w:World} {b:Nat} {v0 v1 v2 v3:Value} (h:Cells4 w b v0 v1 v2 v3) (u0 u1:Value):Cells4 ((w.setCell ⟨b,0,none⟩ u0).setCell ⟨b,1,none⟩ u1) b u0 u1 v2 v3:=
 ⟨(World.cell?_setCell_other _ _ _ _ aa).trans (World.cell?_setCell_same w _ u0 h.c0),World.cell?_setCell_same _ _ u1 (h.s1 u0),h.s2 u0 u1,(World.cell?_setCell_other _ _ _ _ aa).trans ((World.cell?_setCell_other _ _ _ _ aa).trans h.c3),by simp [h.f0],by simp [h.f1],by simp [h.f2],by simp [h.f3]⟩
theorem Grown.alloc {w W:World} (h:Grown w W) (o:Obj):Grown w (W.alloc o):=⟨h.os,h.tape,h.output,by rw [World.size_alloc];exact Nat.le_succ_of_le h.size,fun b hb=>by
 refine Eq.trans ?_ (h.keep b hb)
 have:=h.size
 simp only [World.alloc,Array.getElem?_push]
 rw [if_neg U]⟩
theorem zq8 (b:Nat) (x:Int) (v0 v1 v2 v3:Value) (w:World) (h:Cells4 w b v0 v1 v2 v3) (hb:b+1+1<w.heap.size):
  CallsD Tryz.prog 292 #[.pointer (some ⟨b,0,none⟩),.pointer (some ⟨b+1,0,none⟩),.pointer (some ⟨b+1+1,0,none⟩)] (.panicking [{ v:= .iface 416 (.int .i64 x),recovered:=false }]) w fun e u' w'=>e= .returned (.tuple #[])∧u'= .panicking [{ v:= .iface 416 (.int .i64 x),recovered:=true }]∧w'=set4 (w.alloc (.cells #[.int .u32 0,.string ⟨#[]⟩] 177)) b (.int .u32 0) (.string ⟨#[]⟩) (.string ⟨#[]⟩) (.int .i64 x):=by
 have hta:=ztP x
 have hnot:∀ (x:Bool) (w:World),(Op.unary .not (.bool x)).run Tryz.prog w= .ok (.bool (!x)) w:=fun _ _=>rfl
 refine callsD_of_wpS Tryz.func292 rfl fun c₀ cs hu=>?_
 apply wpS_seq
 apply wpS_region
 simp [wpOpsS,go_sem,recoverD,hu,Tryz.ntmps292,Exit.thenS]
 apply wpS_seq
 apply wpS_region
 simp [wpOpsS,go_sem,Exit.thenS]
 refine wpS_cond (t:=true) cB ?_
 simp only [if_true]
 apply wpS_seq
 apply wpS_region
 simp [wpOpsS,go_sem,Exit.thenS,hta]
 apply wpS_seq
 apply wpS_seq
 apply wpS_region
 simp [wpOpsS,go_sem,Exit.thenS,hnot]
 refine wpS_cond (t:=false) cB ?_
 simp only [Bool.false_eq_true,if_false]
 refine wpS_of_wp (wp_skip ?_)
 simp only [Exit.thenS]
 have h4:=h.alloc hb #[.int .u32 0,.string ⟨#[]⟩] 177
 have q0:=h4.c0
 have q1:=h4.s1
 have q2:=h4.s2
 have q3:=h4.s3
 have f0:=h4.f0
 have f1:=h4.f1
 have f2:=h4.f2
 have f3:=h4.f3
 refine wpS_of_wp ?_
 go_wp2
 cases c₀
 simp_all [bodyPostS,results,Tryz.results292,set4]
abbrev rdW4 (w:World) (s:ByteArray):World:=(((w.alloc (.cells #[.int .u32 0,.string ⟨#[]⟩] 177)).alloc (.cells #[.string ⟨#[]⟩] 9)).alloc (.cells #[.int .i64 0] 77)).alloc (.cells #[.string s] 419)
theorem ztS (k:Int) (s d s':ByteArray) (w:World)
  (hby:Calls Tryz.prog 234 #[.pointer (some ⟨w.heap.size+1+1+1,0,none⟩)] (rdW4 w s) fun e W=>e= .returned (.agg #[.int .u32 k,.string d])∧Grown w W∧Cells4 W w.heap.size (.int .u32 0) (.string ⟨#[]⟩) (.string ⟨#[]⟩) (.int .i64 0)∧W.cell? ⟨w.heap.size+1+1+1,0,none⟩=some (.string s')):
  Calls Tryz.prog 233 #[.string s,.func (.func 234) #[] #[]] w fun e w'=>e= .returned (.tuple #[.agg #[.int .u32 k,.string d],.string s',.int .i64 0])∧Grown w w':=by
 have hmf:∀ (fn:Fn) (first cap:Array Value) (w:World),(Instr.makeFunc fn first cap).run Tryz.prog w= .ok (.func fn first cap) w:=fun _ _ _ _=>rfl
 go_enter_defers Tryz.func233,Tryz.ntmps233
 go_wp2_with (go_at_call 234;refine hby.mono ?_;rintro e W ⟨rfl,hG,hR,hr⟩;have a0:=hR.c0;have a1:=hR.s1;have f0:=hR.f0;have f1:=hR.f1)
 obtain ⟨X,hX⟩:∃X,X=(W.setCell ⟨w.heap.size,0,none⟩ (.int .u32 k)).setCell ⟨w.heap.size,1,none⟩ (.string d):=⟨_,rfl⟩
 have hgX:Grown w X:=by rw [hX];exact (hG.set (Nat.le_refl _) _).set (Nat.le_refl _) _
 have hC:Cells4 X w.heap.size (.int .u32 k) (.string d) (.string ⟨#[]⟩) (.int .i64 0):=by rw [hX];exact hR.two _ _
 have b3:X.cell? ⟨w.heap.size+1+1+1,0,none⟩=some (.string s'):=by rw [hX];exact (World.cell?_setCell_other _ _ _ _ aa).trans ((World.cell?_setCell_other _ _ _ _ aa).trans hr)
 rw [← hX]
 clear a0 a1 f0 f1 hX hR
 have c0:=hC.c0
 have c1:=hC.c1
 have q1:=hC.s1
 have q2:=hC.s2
 have q3:=hC.s3
 have f0:=hC.f0
 have f1:=hC.f1
 have f2:=hC.f2
 have f3:=hC.f3
 go_region
 all_goals go_wp2
 all_goals
  refine leaves_cons (f:=292) (args:= #[.pointer (some ⟨w.heap.size,0,none⟩),.pointer (some ⟨w.heap.size+1,0,none⟩),.pointer (some ⟨w.heap.size+1+1,0,none⟩)]) aa (by simp [go_sem]) ?_
  refine (zow _ _ _ _).mono ?_
  rintro e u' w'' ⟨rfl,rfl,rfl⟩
  obtain ⟨Y,hY⟩:∃Y,Y=(set4 X w.heap.size (.int .u32 k) (.string d) (.string s') (.int .i64 0)).drew:=⟨_,rfl⟩
  have hg:Grown w Y:=by rw [hY];exact ((((hgX.set (Nat.le_refl _) _).set (Nat.le_refl _) _).set (Nat.le_succ _) _).set (Nat.le_succ_of_le (Nat.le_succ _)) _).drew
  have hD:=hC.set (.int .u32 k) (.string d) (.string s') (.int .i64 0)
  have e0:Y.cell? ⟨w.heap.size,0,none⟩=some (.int .u32 k):=by rw [hY];exact hD.c0
  have e1:Y.cell? ⟨w.heap.size,1,none⟩=some (.string d):=by rw [hY];exact hD.c1
  have e2:Y.cell? ⟨w.heap.size+1,0,none⟩=some (.string s'):=by rw [hY];exact hD.c2
  have e3:Y.cell? ⟨w.heap.size+1+1,0,none⟩=some (.int .i64 0):=by rw [hY];exact hD.c3
  unfold set4 at hY
  rw [← hY]
  simp [Leaves,settle,results,Tryz.results233,go_sem,e0,e1,e2,e3,hg]
theorem ztT (s:ByteArray) (x:Int) (w:World)
  (hby:Calls Tryz.prog 234 #[.pointer (some ⟨w.heap.size+1+1+1,0,none⟩)] (rdW4 w s) fun e W=>e= .panicked [{ v:= .iface 416 (.int .i64 x),recovered:=false }]∧Grown w W∧w.heap.size+1+1<W.heap.size∧Cells4 W w.heap.size (.int .u32 0) (.string ⟨#[]⟩) (.string ⟨#[]⟩) (.int .i64 0)):
  Calls Tryz.prog 233 #[.string s,.func (.func 234) #[] #[]] w fun e w'=>e= .returned (.tuple #[.agg #[.int .u32 0,.string ⟨#[]⟩],.string ⟨#[]⟩,.int .i64 x])∧Grown w w':=by
 have hmf:∀ (fn:Fn) (first cap:Array Value) (w:World),(Instr.makeFunc fn first cap).run Tryz.prog w= .ok (.func fn first cap) w:=fun _ _ _ _=>rfl
 go_enter_defers Tryz.func233,Tryz.ntmps233
 go_wp2_with (go_at_call 234;refine hby.mono ?_;rintro e W ⟨rfl,hG,hs,hR⟩)
 refine leaves_cons (f:=292) (args:= #[.pointer (some ⟨w.heap.size,0,none⟩),.pointer (some ⟨w.heap.size+1,0,none⟩),.pointer (some ⟨w.heap.size+1+1,0,none⟩)]) aa (by simp [go_sem]) ?_
 refine (zq8 _ x _ _ _ _ _ hR hs).mono ?_
 rintro e u' w'' ⟨rfl,rfl,rfl⟩
 obtain ⟨Y,hY⟩:∃Y,Y=set4 (W.alloc (.cells #[.int .u32 0,.string ⟨#[]⟩] 177)) w.heap.size (.int .u32 0) (.string ⟨#[]⟩) (.string ⟨#[]⟩) (.int .i64 x):=⟨_,rfl⟩
 have hg:Grown w Y:=by rw [hY];exact ((((hG.alloc _).set (Nat.le_refl _) _).set (Nat.le_refl _) _).set (Nat.le_succ _) _).set (Nat.le_succ_of_le (Nat.le_succ _)) _
 have hD:=(hR.alloc hs #[.int .u32 0,.string ⟨#[]⟩] 177).set (.int .u32 0) (.string ⟨#[]⟩) (.string ⟨#[]⟩) (.int .i64 x)
 rw [← hY] at hD
 rw [← hY]
 simp [Leaves,settle,results,Tryz.results233,go_sem,hD.c0,hD.c1,hD.c2,hD.c3,hg]
end Go.Proofs.YtgldbfelccddbaaGreat
namespace Go.Proofs.YtgldbfelccddbaaGreat
open Go Go.RowKit Go.Aw
def noKey (mes:List MapEntry) (n:Int):Bool:=mes.all fun e=>match e.key with| .int _ m=>n !=m|_=>false
def keyD (e:MapEntry):D:=match e.key with| .int k m=> .int k m|_=> .nilp
def u32K (mes:List MapEntry):Bool:=mes.all fun e=>match e.key with| .int .u32 _=>true|_=>false
theorem zp8 {n:Int} :∀ {mes:List MapEntry},noKey mes n=true→aix (.int .u32 n) (mes.map keyD)=none
 | [],_=>rfl
 | e::r,h=>by
  simp only [noKey,List.all_cons,Bool.and_eq_true] at h
  simp only [List.map_cons,aix,zp8 (mes:=r) h.2]
  have h1:=h.1
  split at h1
  ·rename_i k m hk
   simp only [keyD,hk,sameS]
   rw [if_neg aV]
   rfl
  ·cases h1
theorem ze3 (w:World) (mes:Array MapEntry) (c:Nat) (n:Int) (v:Value) (h:(noKey mes.toList n&&u32K mes.toList)=true):
  (Instr.mapUpdate 279 (.map (some w.heap.size)) (.int .u32 n) v).run Tryz.prog (w.alloc (.map mes c))= .ok () (w.alloc (.map (mes.push ⟨.int .u32 n,v,c⟩) (c+1))):=by
 simp only [Bool.and_eq_true] at h
 have ht:(ty Tryz.prog 279).td= .map 67 1:=ad
 have hu:(ty Tryz.prog 67).td= .int .u32:=ad
 have hb:(w.alloc (.map mes c)).heap[w.heap.size]?=some (.map mes c):=World.alloc_heap_new w _
 have hk:alike (ty Tryz.prog 67).td (.int .u32 n)=true:=by rw [hu];rfl
 have hks:mes.toList.map (·.key)=(mes.toList.map keyD).map valD∧((mes.toList.map keyD).all fun p=>alike (ty Tryz.prog 67).td p)=true:=by
  have h2:=h.2
  rw [hu]
  generalize mes.toList=l at h2
  induction l with
  |nil=>exact ⟨rfl,rfl⟩
  | cons e r ih=>
   simp only [u32K,List.all_cons,Bool.and_eq_true] at h2
   obtain ⟨i1,i2⟩:=ih h2.2
   have h3:=h2.1
   split at h3
   ·rename_i m hm
    refine ⟨by simp only [List.map_cons,i1,keyD,hm,valD],by rw [List.map_cons,List.all_cons,i2];simp only [keyD,hm,alike,beq_self_eq_true,Bool.and_self]⟩
   ·cases h3
 have hf:(Instr.findKey 67 (.int .u32 n) mes.toList).run Tryz.prog (w.alloc (.map mes c))= .ok none (w.alloc (.map mes c)):=by
  obtain ⟨d,hd,he⟩:=zfc hk
  have h4:=hk
  have h5:=hks.2
  rw [← he] at h4 h5
  unfold Instr.findKey
  rw [Sem.run_bind,run_underlying hd,Result.andThen_ok,show (Value.int .u32 n)=valD (.int .u32 n) from rfl,zh1 h4 _ mes.toList 0 h5 hks.1,zp8 h.1]
  rfl
 unfold Instr.mapUpdate
 simp only [Sem.run_bind,run_underlying (zkb ht),Result.andThen_ok,zjl hb,show (Value.int .u32 n)=valD (.int .u32 n) from rfl,zdb hk]
 rw [show valD (.int .u32 n)=(Value.int .u32 n) from rfl,hf]
 simp only [Result.andThen_ok,zgO hb]
 refine congrArg (Result.ok ()) (congrArg (fun g=>({ w with heap:=g } :World)) ?_)
 apply Array.toList_inj.1
 rw [Array.toList_setIfInBounds,World.alloc,Array.toList_push,Array.toList_push,List.set_append_right _ _ aa]
 simp
abbrev ent (p:Addr) (k:Int) (f c:Nat):MapEntry:=⟨.int .u32 k,Value.func (.func f) #[.pointer (some p)] #[],c⟩
theorem zli (p:Addr) (w:World):
  Calls Tryz.prog 174 #[.pointer (some p)] w fun e w'=>e= .returned (.map (some w.heap.size))∧∃mes c,w'=w.alloc (.map mes c)∧mes.toList.map (·.key)= [1,2,3,6,7,8,9,10].map (Value.int .u32)∧mes.toList.map (·.val)= [238,239,240,241,241,242,243,243].map fun f=>Value.func (.func f) #[.pointer (some p)] #[]:=by
 have hmf:∀ (fn:Fn) (first cap:Array Value) (w:World),(Instr.makeFunc fn first cap).run Tryz.prog w= .ok (.func fn first cap) w:=fun _ _ _ _=>rfl
 have hmk:(Instr.makeMap 279 none).run Tryz.prog w= .ok (.map (some w.heap.size)) (w.alloc (.map #[] 0)):=rfl
 have i0:(Instr.mapUpdate 279 (.map (some w.heap.size)) (.int .u32 1) (Value.func (.func 238) #[.pointer (some p)] #[])).run Tryz.prog (w.alloc (.map #[] 0))= .ok () (w.alloc (.map #[ent p 1 238 0] 1)):=ze3 w _ _ _ _ rfl
 have i1:(Instr.mapUpdate 279 (.map (some w.heap.size)) (.int .u32 2) (Value.func (.func 239) #[.pointer (some p)] #[])).run Tryz.prog (w.alloc (.map #[ent p 1 238 0] 1))= .ok () (w.alloc (.map #[ent p 1 238 0,ent p 2 239 1] 2)):=ze3 w _ _ _ _ rfl
 have i2:(Instr.mapUpdate 279 (.map (some w.heap.size)) (.int .u32 3) (Value.func (.func 240) #[.pointer (some p)] #[])).run Tryz.prog (w.alloc (.map #[ent p 1 238 0,ent p 2 239 1] 2))= .ok () (w.alloc (.map #[ent p 1 238 0,ent p 2 239 1,ent p 3 240 2] 3)):=ze3 w _ _ _ _ rfl
 have i3:(Instr.mapUpdate 279 (.map (some w.heap.size)) (.int .u32 6) (Value.func (.func 241) #[.pointer (some p)] #[])).run Tryz.prog (w.alloc (.map #[ent p 1 238 0,ent p 2 239 1,ent p 3 240 2] 3))= .ok () (w.alloc (.map #[ent p 1 238 0,ent p 2 239 1,ent p 3 240 2,ent p 6 241 3] 4)):=ze3 w _ _ _ _ rfl
 have i4:(Instr.mapUpdate 279 (.map (some w.heap.size)) (.int .u32 7) (Value.func (.func 241) #[.pointer (some p)] #[])).run Tryz.prog (w.alloc (.map #[ent p 1 238 0,ent p 2 239 1,ent p 3 240 2,ent p 6 241 3] 4))= .ok () (w.alloc (.map #[ent p 1 238 0,ent p 2 239 1,ent p 3 240 2,ent p 6 241 3,ent p 7 241 4] 5)):=ze3 w _ _ _ _ rfl
 have i5:(Instr.mapUpdate 279 (.map (some w.heap.size)) (.int .u32 8) (Value.func (.func 242) #[.pointer (some p)] #[])).run Tryz.prog (w.alloc (.map #[ent p 1 238 0,ent p 2 239 1,ent p 3 240 2,ent p 6 241 3,ent p 7 241 4] 5))= .ok () (w.alloc (.map #[ent p 1 238 0,ent p 2 239 1,ent p 3 240 2,ent p 6 241 3,ent p 7 241 4,ent p 8 242 5] 6)):=ze3 w _ _ _ _ rfl
 have i6:(Instr.mapUpdate 279 (.map (some w.heap.size)) (.int .u32 9) (Value.func (.func 243) #[.pointer (some p)] #[])).run Tryz.prog (w.alloc (.map #[ent p 1 238 0,ent p 2 239 1,ent p 3 240 2,ent p 6 241 3,ent p 7 241 4,ent p 8 242 5] 6))= .ok () (w.alloc (.map #[ent p 1 238 0,ent p 2 239 1,ent p 3 240 2,ent p 6 241 3,ent p 7 241 4,ent p 8 242 5,ent p 9 243 6] 7)):=ze3 w _ _ _ _ rfl
 have i7:(Instr.mapUpdate 279 (.map (some w.heap.size)) (.int .u32 10) (Value.func (.func 243) #[.pointer (some p)] #[])).run Tryz.prog (w.alloc (.map #[ent p 1 238 0,ent p 2 239 1,ent p 3 240 2,ent p 6 241 3,ent p 7 241 4,ent p 8 242 5,ent p 9 243 6] 7))= .ok () (w.alloc (.map #[ent p 1 238 0,ent p 2 239 1,ent p 3 240 2,ent p 6 241 3,ent p 7 241 4,ent p 8 242 5,ent p 9 243 6,ent p 10 243 7] 8)):=ze3 w _ _ _ _ rfl
 go_enter Tryz.func174,Tryz.ntmps174
 go_wp2
 go_ret
 exact ⟨rfl,_,_,rfl,rfl,rfl⟩
end Go.Proofs.YtgldbfelccddbaaGreat
namespace Go.Aw
open Go Go.Proofs
open Go Go.Proofs
open Go Go.Proofs
open Go Go.Proofs
open Go Go.Proofs
open Go Go.Proofs
open Go Go.Proofs
end Go.Aw
