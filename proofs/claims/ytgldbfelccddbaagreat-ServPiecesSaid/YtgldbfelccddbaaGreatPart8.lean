/-
 Parts of the proof: lemmas.
-/
import Derived.Test.YtgldbfelccddbaaGreatPart7
set_option maxRecDepth 100000
set_option maxHeartbeats 2000000
set_option linter.unusedSimpArgs false
set_option linter.unusedVariables false
namespace Go.Aw
open Go Go.Proofs
abbrev Txt:=List UInt8
abbrev PutR:=Int×Txt
def putD (q:PutR):List D:= [.int .i64 q.1,.str q.2]
theorem zkK:∀a b,putD a=putD b→a=b:=by
 rintro ⟨a,b⟩ ⟨a',b'⟩ h
 simpa [putD] using h
structure Disk where
 data:Txt
 cache:List PutR
 fuse:Int
 off:Bool
 bad:List Int
 deriving DecidableEq
def diskA (d:Disk):AV:= .agg [.d (.str d.data),.d (.sl 2 (d.cache.map putD)),.d (.int .i64 d.fuse),.d (.bool d.off),.d (.sl 1 (d.bad.map intD))]
attribute [go_sem] diskA
theorem zkL (d:Disk):Disk.mk d.data d.cache d.fuse d.off d.bad=d:=rfl
noncomputable def zV:PT Disk:=aggT (consL strT (consL (slT 2 putD zkK) (consL (intT .i64) (consL boolT (consL (slT 1 intD zf8) nilL))))) (fun p=>⟨p.1,p.2.1,p.2.2.1,p.2.2.2.1,p.2.2.2.2.1⟩) (fun x=>(x.data,x.cache,x.fuse,x.off,x.bad,())) (fun _=>rfl)
attribute [go_sem] zV
attribute [go_sem] zkL
structure DiskOk (d:Disk):Prop where
 data:d.data.length≤9223372036854775807
 cache:d.cache.length≤9223372036854775807
 bad:d.bad.length≤9223372036854775807
 fuse0: -9223372036854775808≤d.fuse
 fuse1:d.fuse≤9223372036854775807
def dsize (d:Disk):Nat:=d.data.length / 64
def there (d:Disk) (at_:Int):Bool:=decide (0≤at_)&&decide (at_<(dsize d:Int))
theorem there_iff {d:Disk} {at_:Int} :there d at_=true↔0≤at_∧at_<((d.data.length / 64:Nat):Int):=by
 rw [there,Bool.and_eq_true]
 exact and_congr decide_eq_true_iff decide_eq_true_iff
def zcO (d:Disk):List Int→Option Int→Bool
 | [],_=>true
 |a::l,p=>there d a&&(match p with|none=>true|some b=>decide (b<a))&&zcO d l (some a)
def putOk (d:Disk) (q:PutR):Bool:=there d q.1&&((q.2.length:Int)==64)
def dfit (d:Disk):Bool:=
 decide (1≤dsize d)&&decide (dsize d≤1024)&&(d.data.length % 64==0)&&decide (d.cache.length≤4096)&&d.cache.all (putOk d)&&zcO d d.bad none
def isPut (at_:Int) (q:PutR):Bool:=q.1==at_
def sees (d:Disk) (at_:Int):Txt:=
 match d.cache.reverse.find? (isPut at_) with
 |some q=>q.2
 |none=>(d.data.drop (at_*64).toNat).take 64
def dread (d:Disk) (at_:Int):Txt×Int:=
 if d.off then ([],12) else if !there d at_ then ([],10) else if d.bad.contains at_ then ([],13) else (sees d at_,0)
def burnt (d:Disk):Disk:=if 0<d.fuse then { d with fuse:=d.fuse - 1 } else d
def zaT (d:Disk) (at_:Int) (s:Txt):Disk×Int:=
 if d.off then (d,12) else if !there d at_ then (d,10) else if (s.length:Int)≠64 then (d,11)
 else if d.fuse=0 then ({ d with off:=true },12) else if d.bad.contains at_ then (d,13) else if 4096≤(d.cache.length:Int) then (d,16)
 else (burnt { d with cache:=d.cache++ [(at_,s)] },0)
def lay (b:Txt) (at_:Nat) (s:Txt):Txt:=b.take at_++s++b.drop (at_+s.length)
def zdJ (b:Txt) (l:List PutR):Txt:=l.foldl (fun b q=>lay b (q.1*64).toNat q.2) b
def dflush (d:Disk):Disk×Int:=
 if d.off then (d,12) else if d.fuse=0 then ({ d with off:=true },12)
 else (burnt { d with data:=zdJ d.data d.cache,cache:= [] },0)
def dnew (n:Int):Disk×Int:=if n<1∨1024<n then (⟨[],[],0,false,[]⟩,11) else (⟨List.replicate (n*64).toNat 0,[], -1,false,[]⟩,0)
theorem zyI {n:Nat} (h:n≤9223372036854775807):IntKind.i64.wrap ((n:Int).tdiv 64)=((n / 64:Nat):Int):=by
 rw [Int.tdiv_eq_ediv_of_nonneg U,IntKind.wrap_i64];omega
theorem zpB {d:Disk} (h:DiskOk d):DiskOk (burnt d):=by
 obtain ⟨h1,h2,h3,h4,h5⟩:=h
 unfold burnt
 split
 ·exact ⟨h1,h2,h3,au,au⟩
 ·exact ⟨h1,h2,h3,h4,h5⟩
open Go Go.Proofs
def putN (n:Nat):Nat→Txt
 |0=> []
 |k+1=>putN (n / 256) k++ [UInt8.ofNat n]
def takeN (l:Txt):Nat:=l.foldl (fun n c=>n*256+c.toNat) 0
theorem zl8 (l:Txt) (i:Nat) (b:UInt8):(ze l).set i (zfM b)=ze (l.set i b):=by
 simp [ze,List.map_set]
theorem zcg (l:Txt):(ze l).length=l.length:=by simp [ze]
theorem zhs {b:Txt} {k:Nat} (hk:k<b.length):(ze b).getD k []= [.int .u8 (b.getD k 0).toNat]:=by
 simp [ze,List.getD_eq_getElem?_getD,hk,zfM]
theorem zl9 {b:Txt} {k:Nat} {x:Int} (hk:k<b.length) (c:UInt8) (hx:x=c.toNat):(ze b).set k (((ze b).getD k []).set 0 (D.int .u8 x))=ze (b.set k c):=by
 rw [zhs hk,List.set_cons_zero,hx]
 exact zl8 b k c
theorem zvr {b:Txt} {k:Nat} (hk:k<b.length) (c:UInt8):(b.set k c).drop k=c::b.drop (k+1):=by
 rw [List.drop_set,if_neg U,Nat.sub_self,List.drop_eq_getElem_cons hk,List.set_cons_zero]
theorem zu (n k:Nat):(putN n k).length=k:=by
 induction k generalizing n with
 |zero=>rfl
 |succ k ih=>rw [putN,List.length_append,ih];rfl
theorem zma (n i:Nat):putN n (i+1)=UInt8.ofNat (n / 256 ^ i)::putN n i:=by
 induction i generalizing n with
 |zero=>simp [putN]
 |succ i ih=>
  rw [putN,ih,putN,List.cons_append,Nat.div_div_eq_div_mul,Nat.pow_succ,Nat.mul_comm 256]
theorem zw5 (n k:Nat) (hk:k≤64):ishr .u64 (n:Int) (k:Int)=((n / 2 ^ k:Nat):Int):=by
 unfold ishr
 rw [show min ((k:Int).toNat) IntKind.u64.bits=k by show min ((k:Int).toNat) 64=k;omega]
 rw [Int.fdiv_eq_ediv_of_nonneg _ (Int.le_of_lt (Int.pow_pos ae))]
 norm_cast
theorem u8_of (n:Nat):IntKind.u8.wrap (n:Int)=((UInt8.ofNat n).toNat:Int):=by
 rw [IntKind.wrap_u8]
 simp
theorem zvs {n:Int} (h0:0≤n) {i:Nat} (hi:i≤8):IntKind.u8.wrap (ishr .u64 n ((8*i:Nat):Int))=((UInt8.ofNat (n.toNat / 256 ^ i)).toNat:Int):=by
 obtain ⟨m,rfl⟩:∃m:Nat,n=m:=⟨n.toNat,U⟩
 rw [zw5 m _ U,u8_of,Int.toNat_natCast,Nat.pow_mul]
theorem zgY (l:Txt) (c:UInt8):takeN (l++ [c])=takeN l*256+c.toNat:=by
 simp [takeN,List.foldl_append]
theorem zpD (l:Txt):takeN l<256 ^ l.length:=by
 rcases List.eq_nil_or_concat l with rfl|⟨l',c,rfl⟩
 ·decide
 ·rw [List.concat_eq_append,zgY,List.length_append,List.length_singleton,Nat.pow_succ]
  have:=zpD l'
  have:=c.toNat_lt
  have h2:takeN l'+1≤256 ^ l'.length:=U
  have:=Nat.mul_le_mul_right 256 h2
  omega
termination_by l.length
decreasing_by subst_vars;simp
theorem zdf {l:Txt} {i:Nat} (h:l.length≤i):takeN l<256 ^ i:=Nat.lt_of_lt_of_le (zpD l) (Nat.pow_le_pow_right ae h)
theorem zA {x:Int} (h0:0≤x) (h1:x<18446744073709551616):IntKind.u64.wrap x=x:=by
 rw [IntKind.wrap_u64];omega
theorem zsW {l:Txt} {i:Nat} {c:UInt8} (hq:l[i]?=some c) (hi:i<8):IntKind.u64.wrap (IntKind.u64.wrap ((takeN (l.take i):Nat)*256)+IntKind.u64.wrap (c.toNat:Int))=((takeN (l.take (i+1)):Nat):Int):=by
 have h1:takeN (l.take i)<256 ^ 7:=zdf ax
 have h2:=c.toNat_lt
 rw [zA (x:=(takeN (l.take i):Nat)*256) U U,zA (x:=(c.toNat:Int)) U U,zA U U,zcz hq,zgY]
 omega
open Go Go.Proofs
theorem zsN (d:Disk) (hd:DiskOk d):AC 82 [diskA d] (.d (.int .i64 (dsize d))):=by
 refine bod Tryz.func82 Tryz.ntmps82 (fun base=>?_)
 refine' zc (zyI hd.data)
 rfl
@[go_sem] noncomputable def zbd:Ent Tryz.prog 82:= .m1 zV zsN
theorem zqx (d:Disk) (at_:Int) (hd:DiskOk d):AC 152 [diskA d,.d (.int .i64 at_)] (.d (.bool (there d at_))):=by
 refine bod Tryz.func152 Tryz.ntmps152 (fun base=>?_)
 refine' walkW fx (za zbd <| zb _)
 rfl
@[go_sem] noncomputable def zbM:Ent Tryz.prog 152:= .m2 zV (intT .i64) zqx
theorem zvm (d:Disk) (at_:Int) (hd:DiskOk d):AC 224 [diskA d,.d (.int .i64 at_)] (.d (.bool (d.bad.contains at_))):=by
 refine bod Tryz.func224 Tryz.ntmps224 (fun base=>?_)
 refine' zc fx
 have hb:=hd.bad
 refine zk (fun q: { i:Nat // i≤d.bad.length∧d.bad.contains at_=(d.bad.drop i).contains at_ } =>⟨[(1,true,.d (.int .i64 at_)),(2,true,.vp 0 0),(5,true,.d (.int .i64 q.1))],[(0,.var [.d (.str d.data),.d (.sl 2 (d.cache.map putD)),.d (.int .i64 d.fuse),.d (.bool d.off),.d (.sl 1 (d.bad.map intD))])],some []⟩) (fun q=>d.bad.length - q.1) ⟨0,Nat.zero_le _,rfl⟩ le1 (fun q=>?_)
 obtain ⟨i,hi,hf⟩:=q
 simp only at hi hf ⊢
 rcases zy intD d.bad i hi with ⟨m,hq,hlt,hcmp,hrow,hdr,htk⟩|⟨hend,hcmp⟩
 ·simp only [intD] at hrow
  have hwi:=zn (i:=i) U
  rw [hdr,List.contains_cons] at hf
  refine' zc (zj hcmp hrow)
  ·rw [hf,BEq.comm,hc];rfl
  ·rw [BEq.comm,hc,Bool.false_or] at hf
   exact ⟨⟨i+1,U,hf⟩,lew,af⟩
 ·refine' zc hcmp
  rw [hf,hend,List.drop_length]
  rfl
@[go_sem] noncomputable def zgX:Ent Tryz.prog 224:= .m2 zV (intT .i64) zvm
theorem zqy (d:Disk) (hd:DiskOk d):AC 166 [diskA d] (diskA (burnt d)):=by
 refine fbod Tryz.func166 Tryz.ntmps166 (fun base=>?_)
 have h1:=hd.fuse1
 refine' zc fx
 ·have h0:0<d.fuse:=by simpa using hc
  rw [burnt,if_pos h0,zi U U]
 ·have h0:¬0<d.fuse:=by simpa using hc
  rw [burnt,if_neg h0]
@[go_sem] noncomputable def zdK:Ent Tryz.prog 166:= .m1 zV zqy
theorem zvn {l:List PutR} {i:Nat} {q:PutR} {at_:Int} (hq:l[i]?=some q):(l.take (i+1)).reverse.find? (isPut at_)=if q.1=at_ then some q else (l.take i).reverse.find? (isPut at_):=by
 rw [zcz hq,List.reverse_append,List.reverse_singleton,List.singleton_append,List.find?_cons]
 by_cases h:q.1=at_
 ·simp [isPut,h]
 ·have:isPut at_ q=false:=by simp [isPut,h]
  rw [this,if_neg h]
theorem zsO (d:Disk) (at_:Int) (hp:DiskOk d∧there d at_=true):AC 225 [diskA d,.d (.int .i64 at_)] (.d (.str (sees d at_))):=by
 obtain ⟨hd,ht⟩:=hp
 refine bod Tryz.func225 Tryz.ntmps225 (fun base=>?_)
 refine' zc fx
 have hcl:=hd.cache
 have hdl:=hd.data
 have hw0:IntKind.i64.wrap ((d.cache.length:Int) - 1)=(d.cache.length:Int) - 1:=zi U U
 refine zk (fun q: { i:Nat // i≤d.cache.length∧d.cache.reverse.find? (isPut at_)=(d.cache.take i).reverse.find? (isPut at_) } =>⟨[(1,true,.d (.int .i64 at_)),(2,true,.vp 0 0),(5,true,.d (.int .i64 ((q.1:Int) - 1)))],[(0,.var [.d (.str d.data),.d (.sl 2 (d.cache.map putD)),.d (.int .i64 d.fuse),.d (.bool d.off),.d (.sl 1 (d.bad.map intD))])],some []⟩) (fun q=>q.1) ⟨d.cache.length,Nat.le_refl _,by rw [zff]⟩ (by simp only [AS.le,leT,leH,zf,AsgK,AV.le,AV.leL,AObj.le,inH,idsT,idsH,AV.ids,AV.idsL,AV.idsR,AObj.ids,lk,hget,go_sem,aeq,aeq.aeqF,simprocAttr,hw0]) (fun q=>?_)
 obtain ⟨i,hi,hf⟩:=q
 simp only at hi hf ⊢
 cases i with
 | zero=>
  have hz:decide ((0:Int)≤((0:Nat):Int) - 1)=false:=ae
  obtain ⟨ht0,ht1⟩:=there_iff.mp ht
  have hm:IntKind.i64.wrap (at_*64)=at_*64:=zi U U
  have hm1:IntKind.i64.wrap (at_+1)=at_+1:=zi U U
  have hm2:IntKind.i64.wrap ((at_+1)*64)=(at_+1)*64:=zi U U
  have hs:(d.data.take ((at_+1)*64).toNat).drop (at_*64).toNat=sees d at_:=by
   rw [sees,hf,List.take_zero,List.reverse_nil,List.find?_nil,List.drop_take]
   congr 1;omega
  refine' zc (zaB hz hm hm1 hm2 hs)
 | succ i=>
  have hz:decide ((0:Int)≤((i+1:Nat):Int) - 1)=true:=decide_eq_true U
  have hi1:(((i+1:Nat):Int) - 1)=(i:Int):=U
  have hwi:IntKind.i64.wrap ((i:Int) - 1)=(i:Int) - 1:=zi U U
  obtain ⟨⟨n,s⟩,hq⟩:=zaH (l:=d.cache) (i:=i) U
  have hrow:=zbJ (g:=putD) hq
  simp only [putD] at hrow
  rw [zvn hq] at hf
  refine' zc (zE hz hi1 hrow natC)
  ·have hn:n=at_:=by simpa using hc
   rw [sees,hf,if_pos hn]
  ·have hn:¬n=at_:=by simpa using hc
   rw [if_neg hn] at hf
   exact ⟨⟨i,U,hf⟩,lew,aa⟩
@[go_sem] noncomputable def zfR:Ent Tryz.prog 225:= .m2 zV (intT .i64) zsO
open Go Go.Proofs
theorem zsP (d:Disk) (at_:Int) (hd:DiskOk d):AC 167 [diskA d,.d (.int .i64 at_)] (.tup [.d (.str (dread d at_).1),.d (.int .i64 (dread d at_).2)]):=by
 refine bod Tryz.func167 Tryz.ntmps167 (fun base=>?_)
 refine' walkW fx (za zbM <| za zgX <| za zdK <| za zfR <| zb _)
 all_goals simp_all [dread]
@[go_sem] noncomputable def zbe:Ent Tryz.prog 167:= .m2 zV (intT .i64) zsP
theorem zaD (l:List UInt8):(ze l).all zlP=true:=by
 simp [ze,zfM,zlP,List.all_map]
theorem z8 (l:List UInt8):bytesOf (ze l)=l:=by
 unfold bytesOf ze
 rw [List.map_map]
 have:((fun r=>UInt8.ofNat (numOf r).toNat) ∘ zfM)=id:=by
  funext b;simp [zfM,numOf]
 rw [this,List.map_id]
theorem zcB (m:Nat):List.replicate m [D.int .u8 0]=ze (List.replicate m 0):=by
 rw [ze,List.map_replicate];rfl
theorem zeQ (m:Nat):List.take m (ze (List.replicate m 0))=ze (List.replicate m 0):=by
 exact List.take_of_length_le (by simp [ze])
theorem zgd (m:Nat):(m=(ze (List.replicate m 0)).length)=True:=by
 simp [ze]
theorem zvo (n:Int) (_:True):AC 85 [.d (.int .i64 n)] (.tup [diskA (dnew n).1,.d (.int .i64 (dnew n).2)]):=by
 refine fbod Tryz.func85 Tryz.ntmps85 (fun base=>?_)
 by_cases h:n<1∨1024<n
 ·have hdec:(decide (n<1)||decide (1024<n))=true:=by simpa using h
  refine' zc hdec
  rw [dnew,if_pos h];rfl
 ·have hdec:(decide (n<1)||decide (1024<n))=false:=by simpa using h
  have hm:IntKind.i64.wrap (n*64)=n*64:=zi U U
  refine' zc (zo hdec hm @zcB @zeQ @zgd @if_true.{1})
  ·exact zaD _
  ·rw [dnew,if_neg h,z8];rfl
@[go_sem] noncomputable def zqz:Ent Tryz.prog 85:= .m1 (intT .i64) zvo
theorem zqA (d:Disk) (at_:Int) (s:Txt) (hd:DiskOk d):AC 164 [diskA d,.d (.int .i64 at_),.d (.str s)] (.tup [diskA (zaT d at_ s).1,.d (.int .i64 (zaT d at_ s).2)]):=by
 refine fbod Tryz.func164 Tryz.ntmps164 (fun base=>?_)
 refine' zga (zN 17) fx (za zbM <| za zgX <| za zdK <| za zfR <| zb _)
 all_goals first|(simp_all [zaT];done)|(simp_all;omega)|skip
 have hk:DiskOk { d with cache:=d.cache++ [(at_,s)] } :=⟨hd.data,by simp_all;omega,hd.bad,hd.fuse0,hd.fuse1⟩
 have hr:d.cache.map putD++ [[.int .i64 at_,.str s]]=(d.cache++ [(at_,s)]).map putD:=by simp [putD]
 have hl:(d.cache.length+1=(d.cache++ [(at_,s)]).length)=True:=aa
 have htk:List.take (d.cache.length+1) ((d.cache++ [(at_,s)]).map putD)=(d.cache++ [(at_,s)]).map putD:=List.take_of_length_le aa
 refine zbh 2 rfl ?_;simp only [go_sem,aeq,aeq.aeqF,simprocAttr,hr,hl,htk]
 refine' walkW fx (za zbM <| za zgX <| za zdK <| za zfR <| zb _)
 clear hr hl htk hk
 by_cases h6:4096≤(d.cache.length:Int)
 ·exfalso;simp_all
 ·simp only [zaT,if_neg h6];simp_all
@[go_sem] noncomputable def zC:Ent Tryz.prog 164:= .m3 zV (intT .i64) strT zqA
theorem zpC (b:Txt) (k:Nat) (s:Txt):rput (ze b) k (ze s)=ze (lay b k s):=by
 simp [rput,lay,ze,List.map_append,List.map_take,List.map_drop]
theorem znS {b:Txt} {k:Nat} {s:Txt} (h:k+s.length≤b.length):(lay b k s).length=b.length:=by
 simp [lay];omega
theorem zl4 {b:Txt} {l:List PutR} {i:Nat} {q:PutR} (hq:l[i]?=some q):zdJ b (l.take (i+1))=lay (zdJ b (l.take i)) (q.1*64).toNat q.2:=by
 simp [zdJ,zcz hq,List.foldl_append]
theorem zw3 {d:Disk} {i:Nat} {q:PutR} (hf:d.cache.all (putOk d)=true) (hq:d.cache[i]?=some q):0≤q.1∧q.1<((d.data.length / 64:Nat):Int)∧q.2.length=64:=by
 have:=List.all_eq_true.1 hf q (List.mem_of_getElem? hq)
 rw [putOk,Bool.and_eq_true] at this
 obtain ⟨h1,h2⟩:=this
 exact ⟨(there_iff.1 h1).1,(there_iff.1 h1).2,by have:=eq_of_beq h2;omega⟩
theorem zsQ (d:Disk) (hd:DiskOk d) (hf:d.cache.all (putOk d)=true):ACall Tryz.prog 165 0 [diskA d,.d (.bool true),.d (.sl 1 [])] [] (fun r _=>r= .d (.str (zdJ d.data d.cache))):=by
 refine fbod Tryz.func165 Tryz.ntmps165 (fun base=>?_)
 refine' zc fx
 have hcl:=hd.cache
 have hdl:=hd.data
 refine zk (fun q: { q:Nat×Txt // q.1≤d.cache.length∧q.2=zdJ d.data (d.cache.take q.1)∧q.2.length=d.data.length } =>⟨[(1,true,.d (.bool true)),(2,true,.d (.sl 1 [])),(3,true,.vp 0 0),(7,true,.osl 1 1 (List.length d.data) 0 (List.length d.data)),(8,true,.d (.int .i64 q.1.1))],[(1,.arr 1 (ze q.1.2)),(0,.var [.d (.str d.data),.d (.sl 2 (d.cache.map putD)),.d (.int .i64 d.fuse),.d (.bool d.off),.d (.sl 1 (d.bad.map intD))])],some []⟩) (fun q=>d.cache.length - q.1.1) ⟨(0,d.data),Nat.zero_le _,rfl,rfl⟩ le1 (fun q=>?_)
 obtain ⟨⟨i,b⟩,hi,hb,hbl⟩:=q
 simp only at hi hb hbl ⊢
 rcases zy putD d.cache i hi with ⟨⟨m,s⟩,hq,hlt,hcmp,hrow,hdr,htk⟩|⟨hend,hcmp⟩
 ·simp only [putD] at hrow
  obtain ⟨p1,p2,p3⟩:=zw3 hf hq
  simp only at p1 p2 p3
  have hwi:=zn (i:=i) U
  have hwm:IntKind.i64.wrap (m*64)=m*64:=zi U U
  have hst:=zl4 (b:=d.data) hq
  rw [← hb] at hst
  have hll:(lay b (m*64).toNat s).length=b.length:=znS U
  have hb0:(ze b).length=d.data.length:=bC
  refine' zc (zaB hcmp hrow hwm @zpC hb0)
  ·rw [ze,List.length_map];omega
  ·exact ⟨⟨(i+1,lay b (m*64).toNat s),U,hst.symm,hll.trans hbl⟩,lew,af⟩
 ·have hb1:(d.data.length=(ze b).length)=True:=eq_true bC
  have hb2:List.take d.data.length (ze b)=ze b:=List.take_of_length_le dc
  refine' zc (zo hcmp hb1 hb2 @if_true.{1} @z8 @zaD)
  rw [hb,hend,zff]
@[go_sem] noncomputable def znT:Ent Tryz.prog 165:= .ofL (consL zV (consL (zbG (.d (.bool true))) (consL (zbG (.d (.sl 1 []))) nilL))) (fun (d,_,_,_)=>(DiskOk d)∧(d.cache.all (putOk d)=true)) (fun (d,_,_,_)=> .d (.str (zdJ d.data d.cache))) (fun (d,_,_,_) hp=>⟨rfl,zsQ d hp.1 hp.2⟩)
theorem zij {d:Disk} :∀ (l:List PutR) (b:Txt),b.length=d.data.length→l.all (putOk d)=true→(zdJ b l).length=b.length
 | [],_,_,_=>rfl
 |q::l,b,hb,h=>by
  rw [List.all_cons,Bool.and_eq_true] at h
  obtain ⟨h1,h2⟩:=h
  rw [putOk,Bool.and_eq_true] at h1
  have h3:=there_iff.1 h1.1
  have h4:q.2.length=64:=by have:=eq_of_beq h1.2;omega
  have h5:(lay b (q.1*64).toNat q.2).length=b.length:=znS U
  rw [zdJ,List.foldl_cons]
  exact (zij l _ (h5.trans hb) h2).trans h5
theorem zjy {d:Disk} (h:d.cache.all (putOk d)=true):(zdJ d.data d.cache).length=d.data.length:=zij (d:=d) _ _ rfl h
theorem zqB (d:Disk) (hp:DiskOk d∧d.cache.all (putOk d)=true):AC 91 [diskA d] (.tup [diskA (dflush d).1,.d (.int .i64 (dflush d).2)]):=by
 obtain ⟨hd,hf⟩:=hp
 refine fbod Tryz.func91 Tryz.ntmps91 (fun base=>?_)
 have hk:DiskOk { d with data:=zdJ d.data d.cache,cache:= [] } :=⟨by simp only [zjy hf];exact hd.data,aa,hd.bad,hd.fuse0,hd.fuse1⟩
 refine' walkW fx (za znT <| za zdK <| zb _)
 all_goals simp_all [dflush]
@[go_sem] noncomputable def zaU:Ent Tryz.prog 91:= .m1 zV zqB
open Go Go.Proofs
def dburn (d:Disk):Disk×Bool:=if d.fuse=0 then ({ d with off:=true },false) else (burnt d,true)
theorem zxC (d:Disk) (hd:DiskOk d):AC 379 [diskA d] (.tup [diskA (dburn d).1,.d (.bool (dburn d).2)]):=by
 refine fbod Tryz.func379 Tryz.ntmps379 (fun base=>?_)
 have h1:=hd.fuse1
 have hw:0<d.fuse→IntKind.i64.wrap (d.fuse - 1)=d.fuse - 1:=fun h=>zi U U
 refine' zc fx
 all_goals by_cases h0:d.fuse=0
 all_goals by_cases h2:0<d.fuse
 all_goals simp_all [dburn,burnt]
 all_goals simp only [if_neg (show ¬0<d.fuse by omega)]
 all_goals simp
@[go_sem] noncomputable def zsT:Ent Tryz.prog 379:= .m1 zV zxC
theorem zl5 (n:Int) (_:True):AC 381 [.d (.int .i64 n)] (.d (.bool true)):=by
 refine bod Tryz.func381 Tryz.ntmps381 (fun base=>?_)
 refine' zc fx
@[go_sem] noncomputable def zfy:Ent Tryz.prog 381:= .m1 (intT .i64) zl5
theorem zqC (d:Disk) (hd:DiskOk d) (hf:d.cache.all (putOk d)=true):ACall Tryz.prog 380 0 [diskA d,.fn (.func 381) [] []] [] (fun r _=>r= .d (.str (zdJ d.data d.cache))):=by
 refine fbod Tryz.func380 Tryz.ntmps380 (fun base=>?_)
 refine' walkW fx (za zfy <| zb _)
 have hcl:=hd.cache
 have hdl:=hd.data
 refine zk (fun q: { q:Nat×Txt // q.1≤d.cache.length∧q.2=zdJ d.data (d.cache.take q.1)∧q.2.length=d.data.length } =>⟨[(1,true,.fn (.func 381) [] []),(5,true,.osl 1 1 (List.length d.data) 0 (List.length d.data)),(12,true,.d (.sl 2 (d.cache.map putD))),(13,true,.d (.int .i64 d.cache.length)),(14,true,.d (.int .i64 q.1.1))],[(1,.arr 1 (ze q.1.2)),(0,(.var [.d (.str d.data),.d (.sl 2 (d.cache.map putD)),.d (.int .i64 d.fuse),.d (.bool d.off),.d (.sl 1 (d.bad.map intD))]))],some []⟩) (fun q=>d.cache.length - q.1.1) ⟨(0,d.data),Nat.zero_le _,rfl,rfl⟩ le1 (fun q=>?_)
 obtain ⟨⟨i,b⟩,hi,hb,hbl⟩:=q
 simp only at hi hb hbl ⊢
 rcases zy putD d.cache i hi with ⟨⟨m,s⟩,hq,hlt,hcmp,hrow,hdr,htk⟩|⟨hend,hcmp⟩
 ·simp only [putD] at hrow
  obtain ⟨p1,p2,p3⟩:=zw3 hf hq
  simp only at p1 p2 p3
  have hwi:=zn (i:=i) U
  have hwm:IntKind.i64.wrap (m*64)=m*64:=zi U U
  have hst:=zl4 (b:=d.data) hq
  rw [← hb] at hst
  have hll:(lay b (m*64).toNat s).length=b.length:=znS U
  have hb0:(ze b).length=d.data.length:=bC
  refine' walkW (zaB hcmp hrow hwm @zpC hb0) (za zfy <| zb _)
  ·rw [ze,List.length_map];omega
  ·exact ⟨⟨(i+1,lay b (m*64).toNat s),U,hst.symm,hll.trans hbl⟩,lew,af⟩
 ·have hb1:(d.data.length=(ze b).length)=True:=eq_true bC
  have hb2:List.take d.data.length (ze b)=ze b:=List.take_of_length_le dc
  refine' zc (zo hcmp hb1 hb2 @if_true.{1} @z8 @zaD)
  rw [hb,hend,zff]
@[go_sem] noncomputable def zl6:Ent Tryz.prog 380:= .ofL (consL zV (consL (fnT 381 nilL) nilL)) (fun (d,_,_)=>(DiskOk d)∧(d.cache.all (putOk d)=true)) (fun (d,_,_)=> .d (.str (zdJ d.data d.cache))) (fun (d,_,_) hp=>⟨rfl,zqC d hp.1 hp.2⟩)
theorem znW (d:Disk) (hp:DiskOk d∧d.cache.all (putOk d)=true):AC 330 [diskA d] (.tup [diskA (dflush d).1,.d (.int .i64 (dflush d).2)]):=by
 obtain ⟨hd,hf⟩:=hp
 refine fbod Tryz.func330 Tryz.ntmps330 (fun base=>?_)
 refine' walkW fx (za zsT <| za zl6 <| zb _)
 all_goals first|(simp_all [dflush];done)|skip
 all_goals by_cases h0:d.fuse=0
 all_goals by_cases h2:0<d.fuse
 all_goals simp_all [dflush,dburn,burnt]
 all_goals simp only [if_neg (show ¬0<d.fuse by omega)]
 all_goals simp [*]
@[go_sem] noncomputable def zge:Ent Tryz.prog 330:= .m1 zV znW
open Go Go.Proofs
theorem zon (n:Int) (hp:0≤n∧n≤1000000):AC 288 [.d (.int .i64 n)] (.d (.str (List.replicate n.toNat 0))):=by
 obtain ⟨h0,h1⟩:=hp
 refine fbod Tryz.func288 Tryz.ntmps288 (fun base=>?_)
 refine' zc (zE @zcB @zeQ @zgd @if_true.{1})
 ·exact zaD _
 all_goals first|rfl|simp only [z8]
@[go_sem] noncomputable def zgp:Ent Tryz.prog 288:= .m1 (intT .i64) zon
open Go Go.Proofs
theorem zq3 {d d':Disk} (h:d'.data.length=d.data.length) (a:Int):there d' a=there d a:=by unfold there dsize;rw [h]
theorem zmz (d:Disk):(burnt d).bad=d.bad:=dA
end Go.Aw
