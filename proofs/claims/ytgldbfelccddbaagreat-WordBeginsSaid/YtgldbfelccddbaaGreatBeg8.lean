/-
 Parts of the proof: lemmas.
-/
import Derived.Test.YtgldbfelccddbaaGreatBeg7
set_option maxRecDepth 100000
set_option maxHeartbeats 2000000
set_option linter.unusedSimpArgs false
set_option linter.unusedVariables false
namespace Go.Proofs.YtgldbfelccddbaaGreat
open Go Go.RowKit
end Go.Proofs.YtgldbfelccddbaaGreat
namespace Go.Aw
open Go Go.Proofs
def bitT (c:Int):Int:=ibits .xor .u32 (ishr .u32 c 1) (IntKind.u32.wrap (ibits .and .u32 c 1*2197175160))
def bitsT:Nat→Int→Int
 |0,c=>c
 |n+1,c=>bitT (bitsT n c)
def tabF (j:Nat):Int:=bitsT 8 (IntKind.u32.wrap j)
open Go Go.Proofs
def byteS (c:Int) (b:UInt8):Int:=ibits .xor .u32 (tabF (ibits .xor .u8 (IntKind.u8.wrap c) b.toNat).toNat) (ishr .u32 c 8)
def sumS (c:Int) (l:List UInt8):Int:=l.foldl byteS c
def notS (c:Int):Int:=ibits .xor .u32 (if IntKind.u32.signed then -1 else IntKind.u32.max) c
def sumOf (c:Int) (l:List UInt8):Int:=notS (sumS (notS c) l)
open Go Go.Proofs
theorem znS (n k:Nat) (hk:k≤32):ishr .u32 (n:Int) (k:Int)=((n / 2 ^ k:Nat):Int):=by
 unfold ishr
 rw [show min ((k:Int).toNat) IntKind.u32.bits=k by show min ((k:Int).toNat) 32=k;omega]
 rw [Int.fdiv_eq_ediv_of_nonneg _ (Int.le_of_lt (Int.pow_pos (by decide)))]
 norm_cast
abbrev B32:=BitVec 32
def polyB:B32:=2197175160#32
def bT (x:B32):B32:=(x>>>1) ^^^ (if x.getLsbD 0 then polyB else 0#32)
def bN:Nat→B32→B32
 |0,x=>x
 |n+1,x=>bT (bN n x)
def u8B (b:UInt8):B32:=BitVec.ofNat 32 b.toNat
def stepB (c:B32) (b:UInt8):B32:=bN 8 (c ^^^ u8B b)
def sumB (c:B32) (l:List UInt8):B32:=l.foldl stepB c
theorem xor4 (a b c d:B32):(a ^^^ b) ^^^ (c ^^^ d)=(a ^^^ c) ^^^ (b ^^^ d):=by ac_rfl
theorem zqi (x y:B32):bT (x ^^^ y)=bT x ^^^ bT y:=by
 unfold bT
 rw [BitVec.ushiftRight_xor_distrib,xor4 (x>>>1)]
 congr 1
 rw [BitVec.getLsbD_xor]
 cases x.getLsbD 0<;>cases y.getLsbD 0<;>simp
theorem zfH (n:Nat) (x y:B32):bN n (x ^^^ y)=bN n x ^^^ bN n y:=by
 induction n with
 |zero=>rfl
 |succ n ih=>simp only [bN,ih,zqi]
theorem zqj (x:B32):(bT x).getLsbD 31=x.getLsbD 0:=by
 unfold bT
 rw [BitVec.getLsbD_xor]
 have h1:(x>>>1).getLsbD 31=false:=by simp
 rw [h1]
 cases x.getLsbD 0<;>simp<;>decide
theorem zpk (x:B32) (h:bT x=0#32):x=0#32:=by
 have h0:x.getLsbD 0=false:=by rw [← zqj,h];simp
 unfold bT at h
 rw [h0] at h
 simp only [Bool.false_eq_true,if_false,BitVec.xor_zero] at h
 apply BitVec.eq_of_getLsbD_eq
 intro i hi
 cases i with
 |zero=>simpa using h0
 |succ i=>
  have:=congrArg (fun y:B32=>y.getLsbD i) h
  simpa [Nat.add_comm] using this
theorem zlU (n:Nat) (x:B32) (h:bN n x=0#32):x=0#32:=by
 induction n with
 |zero=>exact h
 |succ n ih=>exact ih (zpk _ h)
theorem zht (m n:Nat) (x:B32):bN (m+n) x=bN m (bN n x):=by
 induction m with
 |zero=>rw [Nat.zero_add];rfl
 |succ m ih=>rw [Nat.succ_add];simp only [bN,ih]
theorem zjs (n:Nat):∀ (x:B32),(∀i,i<n→x.getLsbD i=false)→bN n x=x>>>n:=by
 induction n with
 |zero=>intro x _;simp [bN]
 |succ n ih=>
  intro x h
  simp only [bN]
  rw [ih x (fun i hi=>h i (by omega))]
  unfold bT
  have:(x>>>n).getLsbD 0=false:=by simpa using h n (by omega)
  rw [this]
  simp only [Bool.false_eq_true,if_false,BitVec.xor_zero]
  rw [← BitVec.shiftRight_add]
def low8 (x:B32):B32:=x&&& 255#32
def high8 (x:B32):B32:=x&&& 4294967040#32
theorem znT (x:B32):x=low8 x ^^^ high8 x:=by
 have e:(4294967040#32)= ~~~(255#32):=by decide
 unfold low8 high8
 rw [e]
 apply BitVec.eq_of_getLsbD_eq
 intro i hi
 simp only [BitVec.getLsbD_xor,BitVec.getLsbD_and,BitVec.getLsbD_not,hi,decide_true,Bool.true_and]
 cases x.getLsbD i<;>cases (255#32).getLsbD i<;>rfl
theorem zlV (x:B32) (i:Nat) (hi:i<8):(high8 x).getLsbD i=false:=by
 unfold high8
 rw [BitVec.getLsbD_and]
 have:∀i,i<8→(4294967040#32).getLsbD i=false:=by decide
 rw [this i hi,Bool.and_false]
theorem ziw (x:B32):high8 x>>>8=x>>>8:=by
 unfold high8
 apply BitVec.eq_of_getLsbD_eq
 intro i hi
 simp only [BitVec.getLsbD_ushiftRight,BitVec.getLsbD_and]
 by_cases h:8+i<32
 ·have:∀i,i<24→(4294967040#32).getLsbD (8+i)=true:=by decide
  rw [this i (by omega),Bool.and_true]
 ·rw [BitVec.getLsbD_of_ge x _ (by omega),Bool.false_and]
theorem zlW (x:B32):bN 8 x=bN 8 (low8 x) ^^^ (x>>>8):=by
 conv=>lhs;rw [znT x]
 rw [zfH,zjs 8 (high8 x) (zlV x),ziw]
theorem znU (b:UInt8):u8B b>>>8=0#32:=by
 have:=b.toNat_lt
 apply BitVec.eq_of_toNat_eq
 simp [u8B,Nat.shiftRight_eq_div_pow]
 omega
theorem zpl (b:UInt8):low8 (u8B b)=u8B b:=by
 have:=b.toNat_lt
 apply BitVec.eq_of_toNat_eq
 simp only [low8,u8B,BitVec.toNat_and,BitVec.toNat_ofNat]
 rw [show 255 % 2 ^ 32=2 ^ 8 - 1 by decide,Nat.and_two_pow_sub_one_eq_mod]
 omega
theorem zlX (c:B32) (b:UInt8):stepB c b=bN 8 (low8 c ^^^ u8B b) ^^^ (c>>>8):=by
 unfold stepB
 rw [zlW]
 have h1:low8 (c ^^^ u8B b)=low8 c ^^^ u8B b:=by
  conv=>rhs;rw [← zpl b]
  unfold low8
  apply BitVec.eq_of_getLsbD_eq
  intro i hi
  simp only [BitVec.getLsbD_xor,BitVec.getLsbD_and]
  cases c.getLsbD i<;>cases (u8B b).getLsbD i<;>cases (255#32).getLsbD i<;>rfl
 rw [h1,BitVec.ushiftRight_xor_distrib,znU,BitVec.xor_zero]
theorem zpm (a b:UInt8):u8B (a ^^^ b)=u8B a ^^^ u8B b:=by
 apply BitVec.eq_of_toNat_eq
 have:=a.toNat_lt
 have:=b.toNat_lt
 have h:=Nat.xor_lt_two_pow (n:=32) (x:=a.toNat) (y:=b.toNat) (by omega) (by omega)
 simp only [u8B,BitVec.toNat_xor,BitVec.toNat_ofNat,UInt8.toNat_xor]
 rw [Nat.mod_eq_of_lt (by omega),Nat.mod_eq_of_lt (by omega),Nat.mod_eq_of_lt (by omega)]
def xorL (a b:List UInt8):List UInt8:=List.zipWith (· ^^^ ·) a b
theorem zlY (c d:B32) (a b:UInt8):stepB (c ^^^ d) (a ^^^ b)=stepB c a ^^^ stepB d b:=by
 unfold stepB
 rw [zpm,xor4,zfH]
theorem zdc:∀ (a b:List UInt8) (c d:B32),a.length=b.length→sumB (c ^^^ d) (xorL a b)=sumB c a ^^^ sumB d b
 | [],[],c,d,_=>rfl
 |x::a,y::b,c,d,h=>by
  simp only [xorL,List.zipWith_cons_cons,sumB,List.foldl_cons]
  rw [zlY]
  exact zdc a b _ _ (by simpa using h)
 | [],_::_,_,_,h=>by simp at h
 |_::_,[],_,_,h=>by simp at h
theorem zbQ (c:B32) (a b:List UInt8):sumB c (a++b)=sumB (sumB c a) b:=by simp [sumB,List.foldl_append]
theorem zks (n:Nat) (c:B32):sumB c (List.replicate n 0)=bN (8*n) c:=by
 induction n generalizing c with
 |zero=>rfl
 |succ n ih=>
  rw [List.replicate_succ]
  simp only [sumB,List.foldl_cons]
  have:stepB c 0=bN 8 c:=by simp [stepB,u8B]
  rw [this]
  have:=ih (bN 8 c)
  unfold sumB at this
  rw [this,← zht,Nat.mul_succ]
theorem sum4 (p q r s:UInt8):sumB 0#32 [p,q,r,s]=bN 32 (u8B p ^^^ (u8B q<<<8) ^^^ (u8B r<<<16) ^^^ (u8B s<<<24)):=by
 have sh:∀ (b:UInt8) (k:Nat),k≤24→bN k (u8B b<<<k)=u8B b:=fun b k hk=>by
  rw [zjs k _ (fun i hi=>by rw [BitVec.getLsbD_shiftLeft];simp [hi])]
  have:=b.toNat_lt
  apply BitVec.eq_of_toNat_eq
  simp only [u8B,BitVec.toNat_ushiftRight,BitVec.toNat_shiftLeft,BitVec.toNat_ofNat]
  rw [Nat.mod_eq_of_lt (show b.toNat<2 ^ 32 by omega),Nat.shiftLeft_eq,Nat.shiftRight_eq_div_pow]
  have h2:b.toNat*2 ^ k<2 ^ 32:=by
   have:(2:Nat) ^ k≤2 ^ 24:=Nat.pow_le_pow_right (by omega) hk
   calc b.toNat*2 ^ k≤b.toNat*2 ^ 24:=Nat.mul_le_mul_left _ this
    _<2 ^ 32:=by omega
  rw [Nat.mod_eq_of_lt h2,Nat.mul_div_cancel _ (Nat.pow_pos (by omega))]
 simp only [sumB,List.foldl_cons,List.foldl_nil,stepB,BitVec.zero_xor]
 rw [zfH 32,zfH 32,zfH 32]
 rw [show bN 32 (u8B s<<<24)=bN 8 (u8B s) from (zht 8 24 _).trans (congrArg (bN 8) (sh s 24 (by omega)))]
 rw [show bN 32 (u8B r<<<16)=bN 16 (u8B r) from (zht 16 16 _).trans (congrArg (bN 16) (sh r 16 (by omega)))]
 rw [show bN 32 (u8B q<<<8)=bN 24 (u8B q) from (zht 24 8 _).trans (congrArg (bN 24) (sh q 8 (by omega)))]
 simp only [zfH,← zht]
theorem unlike (c:B32) (a m n z:List UInt8) (p q r s:UInt8) (hm:m=xorL n [p,q,r,s]) (hn:n.length=4) (h0:u8B p ^^^ (u8B q<<<8) ^^^ (u8B r<<<16) ^^^ (u8B s<<<24)≠0#32):sumB c (a++n++z)≠sumB c (a++m++z):=by
 intro h
 rw [zbQ,zbQ,zbQ,zbQ] at h
 subst hm
 have e1:sumB (sumB c a) (xorL n [p,q,r,s])=sumB (sumB c a) n ^^^ sumB 0#32 [p,q,r,s]:=by
  have:=zdc n [p,q,r,s] (sumB c a) 0#32 (by simpa using hn)
  rwa [BitVec.xor_zero] at this
 rw [e1] at h
 have zz:∀z:List UInt8,xorL z (List.replicate z.length 0)=z:=by
  intro z
  induction z with
  |nil=>rfl
  |cons x z ih=>
   rw [List.length_cons,List.replicate_succ]
   simp only [xorL,List.zipWith_cons_cons]
   unfold xorL at ih
   rw [ih];simp
 have e2:=zdc z (List.replicate z.length 0) (sumB (sumB c a) n) (sumB 0#32 [p,q,r,s]) (by simp)
 rw [zz,zks] at e2
 rw [e2] at h
 have h3:bN (8*z.length) (sumB 0#32 [p,q,r,s])=0#32:=by
  have:=congrArg (fun x=>sumB (sumB (sumB c a) n) z ^^^ x) h
  simp only [BitVec.xor_self,← BitVec.xor_assoc,BitVec.zero_xor] at this
  exact this.symm
 have h4:=zlU _ _ h3
 rw [sum4] at h4
 exact h0 (zlU _ _ h4)
def toI (x:B32):Int:=x.toNat
theorem zjt (x:B32):BitVec.ofInt 32 (toI x)=x:=by
 unfold toI
 rw [BitVec.ofInt_natCast]
 simp
theorem zb7 (x y:B32):ibits .xor .u32 (toI x) (toI y)=toI (x ^^^ y):=by
 show IntKind.u32.wrap ((BitVec.ofInt 32 (toI x) ^^^ BitVec.ofInt 32 (toI y)).toNat:Int)=_
 rw [zjt,zjt]
 have:=(x ^^^ y).isLt
 unfold toI
 rw [IntKind.wrap_u32]
 omega
theorem zlZ (x y:B32):ibits .and .u32 (toI x) (toI y)=toI (x&&& y):=by
 show IntKind.u32.wrap ((BitVec.ofInt 32 (toI x)&&& BitVec.ofInt 32 (toI y)).toNat:Int)=_
 rw [zjt,zjt]
 have:=(x&&& y).isLt
 unfold toI
 rw [IntKind.wrap_u32]
 omega
theorem zju (x:B32) (k:Nat) (hk:k≤32):ishr .u32 (toI x) (k:Int)=toI (x>>>k):=by
 unfold toI
 rw [znS _ _ hk,BitVec.toNat_ushiftRight,Nat.shiftRight_eq_div_pow]
theorem znV (x:B32):bitT (toI x)=toI (bT x):=by
 unfold bitT bT
 have h1:(1:Int)=toI 1#32:=by decide
 have hs:ishr .u32 (toI x) 1=toI (x>>>1):=zju x 1 (by omega)
 rw [hs]
 have ha:ibits .and .u32 (toI x) 1=toI (x&&& 1#32):=by rw [h1,zlZ]
 rw [ha]
 have hb:x&&& 1#32=if x.getLsbD 0 then 1#32 else 0#32:=by
  apply BitVec.eq_of_getLsbD_eq
  intro i hi
  rw [BitVec.getLsbD_and]
  cases i with
  |zero=>cases x.getLsbD 0<;>rfl
  |succ i=>
   have:(1#32).getLsbD (i+1)=false:=by simp [BitVec.getLsbD_one]
   rw [this,Bool.and_false]
   split<;>simp
 rw [hb]
 cases x.getLsbD 0
 ·simp only [Bool.false_eq_true,if_false]
  rw [show IntKind.u32.wrap (toI 0#32*2197175160)=toI 0#32 by decide,zb7]
 ·simp only [if_true]
  rw [show IntKind.u32.wrap (toI 1#32*2197175160)=toI polyB by decide,zb7]
theorem zl0 (n:Nat) (x:B32):bitsT n (toI x)=toI (bN n x):=by
 induction n with
 |zero=>rfl
 |succ n ih=>simp only [bitsT,bN,ih,znV]
theorem znW (x:B32) (h:x.toNat<4294967296):tabF x.toNat=toI (bN 8 x):=by
 unfold tabF
 have:IntKind.u32.wrap (x.toNat:Int)=toI x:=by
  unfold toI
  rw [IntKind.wrap_u32];omega
 rw [this,zl0]
theorem zkt (x:B32) (b:UInt8):(ibits .xor .u8 (IntKind.u8.wrap (toI x)) b.toNat).toNat=(low8 x ^^^ u8B b).toNat:=by
 have hb:=b.toNat_lt
 have h1:IntKind.u8.wrap (toI x)=((x.toNat % 256:Nat):Int):=by
  unfold toI
  rw [IntKind.wrap_u8];omega
 rw [h1]
 have hx:x.toNat % 256<256:=Nat.mod_lt _ (by omega)
 have h2:=Nat.xor_lt_two_pow (n:=8) (x:=x.toNat % 256) (y:=b.toNat) (by omega) (by omega)
 have h3:(low8 x ^^^ u8B b).toNat=(x.toNat % 256) ^^^ b.toNat:=by
  simp only [low8,u8B,BitVec.toNat_xor,BitVec.toNat_and,BitVec.toNat_ofNat]
  rw [show 255 % 2 ^ 32=2 ^ 8 - 1 by decide,Nat.and_two_pow_sub_one_eq_mod,Nat.mod_eq_of_lt (show b.toNat<2 ^ 32 by omega)]
 rw [h3]
 show (IntKind.u8.wrap ((BitVec.ofInt 8 ((x.toNat % 256:Nat):Int) ^^^ BitVec.ofInt 8 ((b.toNat:Nat):Int)).toNat:Int)).toNat=_
 rw [BitVec.ofInt_natCast,BitVec.ofInt_natCast,BitVec.toNat_xor,BitVec.toNat_ofNat,BitVec.toNat_ofNat,Nat.mod_eq_of_lt (show x.toNat % 256<2 ^ 8 by omega),Nat.mod_eq_of_lt (show b.toNat<2 ^ 8 by omega),IntKind.wrap_u8]
 omega
theorem zl1 (x:B32) (b:UInt8):byteS (toI x) b=toI (stepB x b):=by
 unfold byteS
 rw [zkt,znW _ (BitVec.isLt _),show ishr .u32 (toI x) 8=toI (x>>>8) from zju x 8 (by omega),zb7,zlX]
theorem znX (x:B32) (l:List UInt8):sumS (toI x) l=toI (sumB x l):=by
 induction l generalizing x with
 |nil=>rfl
 |cons b l ih=>
  simp only [sumS,sumB,List.foldl_cons,zl1] at*
  exact ih _
def onesB:B32:=4294967295#32
theorem zjv (x:B32):notS (toI x)=toI (onesB ^^^ x):=by
 unfold notS
 rw [show (if IntKind.u32.signed=true then (-1:Int) else IntKind.u32.max)=toI onesB from by decide,zb7]
theorem zl2 (x:B32) (l:List UInt8):sumOf (toI x) l=toI (onesB ^^^ sumB (onesB ^^^ x) l):=by
 unfold sumOf
 rw [zjv,znX,zjv]
theorem three (a b c:List UInt8) (h1:a.length=b.length) (h2:a.length=c.length):
  ibits .xor .u32 (ibits .xor .u32 (sumOf 0 a) (sumOf 0 b)) (sumOf 0 c)=sumOf 0 (xorL (xorL a b) c):=by
 have z:(0:Int)=toI 0#32:=by decide
 rw [z]
 simp only [zl2,zb7,BitVec.xor_zero]
 have e1:=zdc a b onesB onesB h1
 have e2:=zdc (xorL a b) c (onesB ^^^ onesB) onesB (by simp [xorL];omega)
 rw [e1] at e2
 rw [BitVec.xor_self,BitVec.zero_xor] at e2
 rw [e2]
 congr 1
 generalize sumB onesB a=A
 generalize sumB onesB b=B
 generalize sumB onesB c=C
 rw [xor4 onesB A onesB B,BitVec.xor_self,BitVec.zero_xor,← BitVec.xor_assoc,BitVec.xor_comm (A ^^^ B),BitVec.xor_assoc]
open Go Go.Proofs
abbrev Txt:=List UInt8
abbrev PutR:=Int×Txt
structure Disk where
 data:Txt
 cache:List PutR
 fuse:Int
 off:Bool
 bad:List Int
 deriving DecidableEq
theorem znN (d:Disk):Disk.mk d.data d.cache d.fuse d.off d.bad=d:=rfl
attribute [go_sem] znN
def dsize (d:Disk):Nat:=d.data.length / 64
def there (d:Disk) (at_:Int):Bool:=decide (0≤at_)&&decide (at_<(dsize d:Int))
def isPut (at_:Int) (q:PutR):Bool:=q.1==at_
def sees (d:Disk) (at_:Int):Txt:=
 match d.cache.reverse.find? (isPut at_) with
 |some q=>q.2
 |none=>(d.data.drop (at_*64).toNat).take 64
def dread (d:Disk) (at_:Int):Txt×Int:=
 if d.off then ([],12) else if !there d at_ then ([],10) else if d.bad.contains at_ then ([],13) else (sees d at_,0)
open Go Go.Proofs
def putN (n:Nat):Nat→Txt
 |0=> []
 |k+1=>putN (n / 256) k++ [UInt8.ofNat n]
def takeN (l:Txt):Nat:=l.foldl (fun n c=>n*256+c.toNat) 0
theorem zhl (l:Txt) (i:Nat) (b:UInt8):(zg l).set i (zcE b)=zg (l.set i b):=by
 simp [zg,List.map_set]
theorem zaA (l:Txt):(zg l).length=l.length:=by simp [zg]
theorem zdY {b:Txt} {k:Nat} (hk:k<b.length):(zg b).getD k []= [.int .u8 (b.getD k 0).toNat]:=by
 simp [zg,List.getD_eq_getElem?_getD,hk,zcE]
theorem zlQ {b:Txt} {k:Nat} {x:Int} (hk:k<b.length) (c:UInt8) (hx:x=c.toNat):(zg b).set k (((zg b).getD k []).set 0 (D.int .u8 x))=zg (b.set k c):=by
 rw [zdY hk,List.set_cons_zero,hx]
 exact zhl b k c
theorem zaQ (n k:Nat):(putN n k).length=k:=by
 induction k generalizing n with
 |zero=>rfl
 |succ k ih=>rw [putN,List.length_append,ih];rfl
theorem zlR (n i:Nat):putN n (i+1)=UInt8.ofNat (n / 256 ^ i)::putN n i:=by
 induction i generalizing n with
 |zero=>simp [putN]
 |succ i ih=>
  rw [putN,ih,putN,List.cons_append,Nat.div_div_eq_div_mul,Nat.pow_succ,Nat.mul_comm 256]
theorem zqe (n k:Nat) (hk:k≤64):ishr .u64 (n:Int) (k:Int)=((n / 2 ^ k:Nat):Int):=by
 unfold ishr
 rw [show min ((k:Int).toNat) IntKind.u64.bits=k by show min ((k:Int).toNat) 64=k;omega]
 rw [Int.fdiv_eq_ediv_of_nonneg _ (Int.le_of_lt (Int.pow_pos (by decide)))]
 norm_cast
theorem u8_of (n:Nat):IntKind.u8.wrap (n:Int)=((UInt8.ofNat n).toNat:Int):=by
 rw [IntKind.wrap_u8]
 simp
theorem zfF (l:Txt) (c:UInt8):takeN (l++ [c])=takeN l*256+c.toNat:=by
 simp [takeN,List.foldl_append]
theorem zjr (l:Txt):takeN l<256 ^ l.length:=by
 rcases List.eq_nil_or_concat l with rfl|⟨l',c,rfl⟩
 ·decide
 ·rw [List.concat_eq_append,zfF,List.length_append,List.length_singleton,Nat.pow_succ]
  have:=zjr l'
  have:=c.toNat_lt
  have h2:takeN l'+1≤256 ^ l'.length:=by omega
  have:=Nat.mul_le_mul_right 256 h2
  omega
termination_by l.length
decreasing_by subst_vars;simp
theorem zgt {l:Txt} {i:Nat} (h:l.length≤i):takeN l<256 ^ i:=Nat.lt_of_lt_of_le (zjr l) (Nat.pow_le_pow_right (by decide) h)
theorem zaR {x:Int} (h0:0≤x) (h1:x<18446744073709551616):IntKind.u64.wrap x=x:=by
 rw [IntKind.wrap_u64];omega
open Go Go.Proofs
open Go Go.Proofs
theorem zgs (l:List UInt8):(zg l).all zg0=true:=by
 simp [zg,zcE,zg0,List.all_map]
theorem zd4 (l:List UInt8):bytesOf (zg l)=l:=by
 unfold bytesOf zg
 rw [List.map_map]
 have:((fun r=>UInt8.ofNat (numOf r).toNat) ∘ zcE)=id:=by
  funext b;simp [zcE,numOf]
 rw [this,List.map_id]
theorem zkk (m:Nat):List.replicate m [D.int .u8 0]=zg (List.replicate m 0):=by
 rw [zg,List.map_replicate];rfl
open Go Go.Proofs
def idxP {α:Type} (p:α→Bool):List α→Nat→Int
 | [],_=> -1
 |q::l,k=>if p q=true then (k:Int) else idxP p l (k+1)
abbrev Idst {α:Type} (p:α→Bool) (l:List α):= { i:Nat // i≤l.length∧idxP p l 0=idxP p (l.drop i) i }
theorem zlO {α:Type} (p:α→Bool):∀ (l:List α) (k:Nat),decide ((0:Int)≤idxP p l k)=l.any p
 | [],k=>rfl
 |q::l,k=>by
  rw [idxP,List.any_cons]
  by_cases h:p q=true
  ·rw [if_pos h,h,decide_eq_true (by omega)];rfl
  ·rw [if_neg h,zlO p l (k+1)];simp [h]
theorem zdX {α:Type} [BEq α] [LawfulBEq α] (x:α):∀ (l:List α),l.any (fun q=>x==q)=l.contains x
 | []=>rfl
 |q::l=>by rw [List.any_cons,zdX x l,List.contains_cons]
open Go Go.Proofs
def overS (s:Txt) (at_:Int) (t:Txt):Txt×Int:=if at_<0∨(s.length:Int) - t.length<at_ then ([],10) else (s.take at_.toNat++t++s.drop (at_+t.length).toNat,0)
def putS8 (n:Int) (size:Int):Txt:=if size<1∨8<size then [] else putN n.toNat size.toNat
def takeS (s:Txt) (size:Int):Int×Txt×Int:=if size<1∨8<size then (0,[],25) else if (s.length:Int)<size then (0,[],22) else ((takeN (s.take size.toNat):Int),s.drop size.toNat,0)
def nameB (c:UInt8):Bool:=decide (33≤c.toNat)&&decide (c.toNat≤126)
def zcw (s:Txt):Bool:=s.all nameB&&(s != []&&decide (s.length≤8))
theorem zhm (c:UInt8):(decide ((c.toNat:Int)<33)||decide ((126:Int)<c.toNat))= !nameB c:=by
 rw [nameB,Bool.not_and]
 congr 1
 ·by_cases h:c.toNat<33
  ·rw [decide_eq_true (p:=(c.toNat:Int)<33) (by omega),decide_eq_false (by omega)];rfl
  ·rw [decide_eq_false (p:=(c.toNat:Int)<33) (by omega),decide_eq_true (by omega)];rfl
 ·by_cases h:126<c.toNat
  ·rw [decide_eq_true (p:=(126:Int)<c.toNat) (by omega),decide_eq_false (by omega)];rfl
  ·rw [decide_eq_false (p:=(126:Int)<c.toNat) (by omega),decide_eq_true (by omega)];rfl
theorem zpi (n k:Nat):decide ((n:Int)≤k)=decide (n≤k):=by
 by_cases h:n≤k
 ·rw [decide_eq_true h,decide_eq_true (by omega)]
 ·rw [decide_eq_false h,decide_eq_false (by omega)]
theorem zkn (s:Txt) (hs:s.length≤9223372036854775807):ACall Tryz.prog 28 0 [.d (.str s)] [] (fun r _=>r= .d (.bool (zcw s))):=by
 refine bod Tryz.func28 Tryz.ntmps28 (fun base=>?_)
 refine' zc fx
 refine zt (fun q: { i:Nat // i≤s.length∧s.all nameB=(s.drop i).all nameB } =>⟨[(0,true,.d (.str s)),(3,true,.d (.int .i64 q.1))],[],some []⟩) (fun q=>s.length - q.1) ⟨0,Nat.zero_le _,rfl⟩ le1 (fun q=>?_)
 obtain ⟨i,hi,hf⟩:=q
 simp only at hi hf ⊢
 rcases Nat.lt_or_ge i s.length with hlt|hge
 ·have hcmp:decide ((i:Int)<(s.length:Int))=true:=decide_eq_true (by omega)
  have hwi:=zp (i:=i) (by omega)
  obtain ⟨c,hq⟩:=zey (l:=s) (i:=i) (by omega)
  have hgd:s.getD i 0=c:=by rw [List.getD_eq_getElem?_getD,hq];rfl
  rw [zgl hq,List.all_cons] at hf
  refine' zc (zF hcmp hgd natC)
  ·rw [zhm] at hc
   have hc:nameB c=false:=by simpa using hc
   rw [zcw,hf,hc];rfl
  ·rw [zhm] at hc
   have hc:nameB c=true:=by simpa using hc
   rw [hc,Bool.true_and] at hf
   exact ⟨⟨i+1,by omega,hf⟩,lew,by simp;omega⟩
 ·have hcmp:decide ((i:Int)<(s.length:Int))=false:=decide_eq_false (by omega)
  refine' zc (zu hcmp natC)
  rw [zcw,hf,List.drop_of_length_le (by omega),show (8:Int)=((8:Nat):Int) from rfl,zpi]
  rfl
@[go_sem] noncomputable def zae:Ent Tryz.prog 28:= .ofL (consL strT nilL) (fun (s,_)=>s.length≤9223372036854775807) (fun (s,_)=> .d (.bool (zcw s))) (fun (s,_) hp=>⟨rfl,zkn s hp⟩)
open Go Go.Proofs
theorem zqf (k s:Nat) (hs:s≤64) (h:k*2 ^ s<18446744073709551616):ishl .u64 (k:Int) (s:Int)=((k*2 ^ s:Nat):Int):=by
 unfold ishl
 rw [show min ((s:Int).toNat) IntKind.u64.bits=s by show min ((s:Int).toNat) 64=s;omega,IntKind.wrap_u64]
 have:(k:Int)*2 ^ s=((k*2 ^ s:Nat):Int):=by norm_cast
 rw [this]
 omega
theorem zko (a b:Nat) (ha:a<18446744073709551616) (hb:b<18446744073709551616):ibits .or .u64 (a:Int) (b:Int)=((a ||| b:Nat):Int):=by
 have hab:a ||| b<18446744073709551616:=Nat.or_lt_two_pow (n:=64) ha hb
 unfold ibits
 simp only [show IntKind.u64.bits=64 from rfl,BitVec.ofInt_natCast,BitVec.toNat_or,BitVec.toNat_ofNat]
 rw [Nat.mod_eq_of_lt (by omega),Nat.mod_eq_of_lt (by omega),IntKind.wrap_u64]
 omega
theorem zkp {l:Txt} {i:Nat} {c:UInt8} (hq:l[i]?=some c) (hi:i<8):ibits .or .u64 (ishl .u64 ((takeN (l.take i):Nat):Int) 8) (IntKind.u64.wrap (c.toNat:Int))=((takeN (l.take (i+1)):Nat):Int):=by
 have h1:takeN (l.take i)<256 ^ 7:=zgt (by rw [List.length_take];omega)
 have h2:=c.toNat_lt
 rw [zaR (x:=(c.toNat:Int)) (by omega) (by omega),show (8:Int)=((8:Nat):Int) from rfl,zqf _ _ (by omega) (by omega),zko _ _ (by omega) (by omega),zcH hq,zfF,← Nat.shiftLeft_eq,← Nat.shiftLeft_add_eq_or_of_lt (i:=8) (by omega),Nat.shiftLeft_eq]
theorem zpj (s:Txt) (size:Int) (hs:s.length≤9223372036854775807):AC 147 [.d (.str s),.d (.int .i64 size)] (.tup [.d (.int .u64 (takeS s size).1),.d (.str (takeS s size).2.1),.d (.int .i64 (takeS s size).2.2)]):=by
 refine fbod Tryz.func147 Tryz.ntmps147 (fun base=>?_)
 by_cases h:size<1∨8<size
 ·have hdec:(decide (size<1)||decide (8<size))=true:=by simpa using h
  refine' zc hdec
  rw [takeS,if_pos h]
 ·have hdec:(decide (size<1)||decide (8<size))=false:=by simpa using h
  obtain ⟨z,rfl,hz8⟩:∃z:Nat,size=(z:Int)∧z≤8:=⟨size.toNat,by omega,by omega⟩
  refine' zc (zu hdec natC)
  ·have hc:(s.length:Int)<z:=by simpa using hc
   simp only [takeS,if_neg h,if_pos hc]
  ·have hc:¬(s.length:Int)<z:=by simpa using hc
   omega
  ·rw [zaA]
  have hc:¬(s.length:Int)<z:=by simpa using hc
  have hlz:(s.take z).length=z:=by rw [List.length_take];omega
  simp only [hlz]
  refine zt (fun q: { i:Nat // i≤z } =>⟨[(0,true,.d (.str s)),(1,true,.d (.int .i64 z)),(7,true,.d (.int .u64 (takeN (s.take q.1)))),(25,true,.osl 0 1 z 0 z),(26,true,.d (.int .i64 z)),(27,true,.d (.int .i64 q.1))],[(0,.arr 1 (zg (s.take z)))],some []⟩) (fun q=>z - q.1) ⟨0,Nat.zero_le _⟩ le1 (fun q=>?_)
  obtain ⟨i,hi⟩:=q
  simp only at hi ⊢
  rcases Nat.lt_or_ge i z with hlt|hge
  ·have hcmp:decide ((i:Int)<(z:Int))=true:=decide_eq_true (by omega)
   have hwi:=zp (i:=i) (by omega)
   obtain ⟨c,hq⟩:=zey (l:=s) (i:=i) (by omega)
   have hgd:(zg (s.take z)).getD i []= [.int .u8 c.toNat]:=by
    rw [zdY (by rw [hlz];omega),List.getD_eq_getElem?_getD,List.getElem?_take,if_pos hlt,hq];rfl
   have hst:=zkp hq (by omega)
   have hb0:(zg (s.take z)).length=z:=by rw [zaA,hlz]
   refine' zc (z7 hcmp hgd hb0 natC)
   exact ⟨⟨i+1,by omega⟩,by simp only [AS.le,leT,leH,zh,AsgK,AV.le,AV.leL,AObj.le,inH,idsT,idsH,AV.ids,AV.idsL,AV.idsR,AObj.ids,lk,hget,go_sem,aeq,aeq.aeqF,simprocAttr,hwi,hst],by simp;omega⟩
  ·have hcmp:decide ((i:Int)<(z:Int))=false:=decide_eq_false (by omega)
   refine' zc (zu hcmp natC)
   have:i=z:=by omega
   subst this
   simp only [takeS,if_neg h,if_neg hc,Int.toNat_natCast]
@[go_sem] noncomputable def zab:Ent Tryz.prog 147:= .m2 strT (intT .i64) zpj
open Go Go.Proofs
structure Plan where
 targets:List Int
 texts:List Txt
 deriving DecidableEq
theorem znP (p:Plan):Plan.mk p.targets p.texts=p:=rfl
attribute [go_sem] znP
def secOk (at_:Int):Bool:=decide (0≤at_)&&decide (at_<1024)
def pfind (l:List Int) (at_:Int):Int:=idxP (fun x=>x==at_) l 0
def plook (d:Disk) (p:Plan) (at_:Int):Txt×Int:=
 if 0≤pfind p.targets at_ then (p.texts.getD (pfind p.targets at_).toNat [],0) else dread d at_
def pset (p:Plan) (at_:Int) (s:Txt):Plan×Int:=
 if !secOk at_ then (p,10) else if (s.length:Int)≠64 then (p,11)
 else if 0≤pfind p.targets at_ then (⟨p.targets,p.texts.set (pfind p.targets at_).toNat s⟩,0)
 else if 24≤(p.targets.length:Int) then (p,16) else (⟨p.targets++ [at_],p.texts++ [s]⟩,0)
def zqg (d:Disk) (p:Plan) (at_:Int) (off:Int) (s:Txt):Plan×Int:=
 if (plook d p at_).2≠0 then (p,(plook d p at_).2)
 else if (overS (plook d p at_).1 off s).2≠0 then (p,(overS (plook d p at_).1 off s).2)
 else pset p at_ (overS (plook d p at_).1 off s).1
theorem zhn {α:Type} (p:α→Bool):∀ (l:List α) (k:Nat),idxP p l k= -1∨((k:Int)≤idxP p l k∧idxP p l k<((k+l.length:Nat):Int))
 | [],k=> .inl rfl
 | q::l,k=>by
  rw [idxP]
  split
  ·exact .inr ⟨Int.le_refl _,by simp;omega⟩
  ·rcases zhn p l (k+1) with h|⟨h1,h2⟩
   ·exact .inl h
   ·exact .inr ⟨by omega,by simp only [List.length_cons];omega⟩
open Go Go.Proofs
def p0:Plan:=⟨[],[]⟩
def zl3 (k:Int):Bool:=decide (0≤k)&&decide (k<256)
def rget (d:Disk) (p:Plan) (k:Int):Int×Int:=
 if !zl3 k then (0,10) else if (plook d p (87+k / 32)).2≠0 then (0,(plook d p (87+k / 32)).2)
 else (((takeN (((plook d p (87+k / 32)).1.drop (2*(k % 32)).toNat).take 2):Nat):Int),0)
def radd (d:Disk) (p:Plan) (k by_:Int):Plan×Int:=
 if (rget d p k).2≠0 then (p,(rget d p k).2) else if by_< -(rget d p k).1∨65535 - (rget d p k).1<by_ then (p,18)
 else zqg d p (87+k / 32) (2*(k % 32)) (putN ((rget d p k).1+by_).toNat 2)
theorem zpn {s:Txt} {z:Int} (n:Nat) (hz:z=n) (h0:0<n) (h8:n≤8) (h:n≤s.length):takeS s z=(((takeN (s.take n):Nat):Int),s.drop n,0):=by
 subst hz
 rw [takeS,if_neg (by omega),if_neg (by omega)]
 simp
theorem zqk {x:Int} :putS8 x 2=putN x.toNat 2:=by rw [putS8,if_neg (by omega)];rfl
theorem zoR {x:Int} :putS8 x 4=putN x.toNat 4:=by rw [putS8,if_neg (by omega)];rfl
theorem zhu {x:Int} :putS8 x 8=putN x.toNat 8:=by rw [putS8,if_neg (by omega)];rfl
open Go Go.Proofs
structure Ent2 where
 kind:Int
 loc:Int
 deriving DecidableEq
theorem zpo (x:Ent2):Ent2.mk x.kind x.loc=x:=rfl
attribute [go_sem] zpo
def entOk (x:Ent2):Bool:=if x.kind=1 then zl3 x.loc else (x.kind==0||x.kind==2)&&x.loc==0
def znY (x:Ent2):Txt:= [UInt8.ofNat x.kind.toNat,0,0,0]++putN x.loc.toNat 4
def entOf (s:Txt):Ent2:=⟨((s.getD 0 0).toNat:Int),((takeN ((s.drop 4).take 4):Nat):Int)⟩
def entT (s:Txt):Ent2×Int:=if entOk (entOf s)=false∨znY (entOf s)≠s then (⟨0,0⟩,14) else (entOf s,0)
def eRef (table i:Int):Bool:= !zl3 table||decide (i<0)||decide (16≤i)
def eget (d:Disk) (p:Plan) (table i:Int):Ent2×Int:=
 if eRef table i then (⟨0,0⟩,10) else if (plook d p (96+2*table+i / 8)).2≠0 then (⟨0,0⟩,(plook d p (96+2*table+i / 8)).2)
 else entT (((plook d p (96+2*table+i / 8)).1.take (i % 8*8+8).toNat).drop (i % 8*8).toNat)
open Go Go.Proofs
def zjw (d:Disk) (p:Plan) (t:Int):Nat→Int→List Int→List Int×Int
 |0,_,l=>(l,0)
 |m+1,k,l=>if (eget d p t k).2≠0 then ([],(eget d p t k).2) else zjw d p t m (k+1) (if (eget d p t k).1.kind=1 then l++ [(eget d p t k).1.loc] else l)
def zl4 (d:Disk) (p:Plan) (l1:Int):Nat→Int→List Int→List Int×Int
 |0,_,l=>(l,0)
 |m+1,i,l=>if (eget d p l1 i).2≠0 then ([],(eget d p l1 i).2) else if (eget d p l1 i).1.kind=2 then ([],14)
  else if (eget d p l1 i).1.kind=0 then zl4 d p l1 m (i+1) l
  else if (zjw d p (eget d p l1 i).1.loc 16 0 (l++ [(eget d p l1 i).1.loc])).2≠0 then ([],(zjw d p (eget d p l1 i).1.loc 16 0 (l++ [(eget d p l1 i).1.loc])).2)
  else zl4 d p l1 m (i+1) (zjw d p (eget d p l1 i).1.loc 16 0 (l++ [(eget d p l1 i).1.loc])).1
def reach (d:Disk) (p:Plan) (l1:Int):List Int×Int:=zl4 d p l1 4 0 []
open Go Go.Proofs
@[go_sem] theorem p0_fold:Plan.mk [] []=p0:=rfl
open Go Go.Proofs
def zjx (d:Disk) (by_:Int):List Int→Plan→Plan×Int
 | [],q=>(q,0)
 |k::r,q=>if (radd d q k by_).2≠0 then (q,(radd d q k by_).2) else zjx d by_ r (radd d q k by_).1
def share (d:Disk) (p:Plan) (l1 by_:Int):Plan×Int:=
 if (reach d p l1).2≠0 then (p,(reach d p l1).2) else if (zjx d by_ (reach d p l1).1 p).2≠0 then (p,(zjx d by_ (reach d p l1).1 p).2) else zjx d by_ (reach d p l1).1 p
open Go Go.Proofs
open Go Go.Proofs
open Go Go.Proofs
open Go Go.Proofs
def u32D (n:Int):List D:= [.int .u32 n]
theorem zee:∀a b,u32D a=u32D b→a=b:=by
 intro a b h
 simpa only [u32D,List.cons.injEq,D.int.injEq,true_and,and_true] using h
structure Ext where
 len:Int
 flags:Int
 deriving DecidableEq
def extD (e:Ext):List D:= [.int .i64 e.len,.int .i64 e.flags]
structure Rq where
 flags:Int
 kind:Int
 cookie:Int
 frm:Int
 len:Int
 data:Txt
 deriving DecidableEq
def rqA (q:Rq):AV:= .agg [.d (.int .i64 q.flags),.d (.int .i64 q.kind),.d (.int .u64 q.cookie),.d (.int .u64 q.frm),.d (.int .u32 q.len),.d (.str q.data)]
attribute [go_sem] rqA
theorem zql (q:Rq):Rq.mk q.flags q.kind q.cookie q.frm q.len q.data=q:=rfl
noncomputable def rqA_T:PT Rq:=aggT (consL (intT .i64) (consL (intT .i64) (consL (intT .u64) (consL (intT .u64) (consL (intT .u32) (consL strT nilL)))))) (fun p=>⟨p.1,p.2.1,p.2.2.1,p.2.2.2.1,p.2.2.2.2.1,p.2.2.2.2.2.1⟩) (fun x=>(x.flags,x.kind,x.cookie,x.frm,x.len,x.data,())) (fun _=>rfl)
attribute [go_sem] rqA_T
attribute [go_sem] zql
def zde:Txt:= [103,68,102,152]
def zaS:Txt:= [102,142,51,239]
def rfail (e:Int):Txt:=putN e.toNat 4++ [0,0]
open Go Go.Proofs
open Go Go.Proofs
open Go Go.Proofs
open Go Go.Proofs
open Go Go.Proofs
open Go Go.Proofs
open Go Go.Proofs
end Go.Aw
