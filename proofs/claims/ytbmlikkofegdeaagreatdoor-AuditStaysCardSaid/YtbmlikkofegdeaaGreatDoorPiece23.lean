/-
  Parts of the proof: PackD, SuperA, PlanA, PlanB, PlanC, PlanD, PlanE (short names; the readable texts lie in the repo, under wip).
-/
import Derived.Test.YtbmlikkofegdeaaGreatDoorPiece22
import Derived.Test.YtbmlikkofegdeaaGreatDoorPiece17
import Derived.Test.YtbmlikkofegdeaaGreatDoorPiece18
import Derived.Test.YtbmlikkofegdeaaGreatDoorPiece16
set_option maxRecDepth 100000
set_option maxHeartbeats 2000000
set_option linter.unusedSimpArgs false
set_option linter.unusedVariables false
namespace Go.Aw
open Go Go.Proofs
def zeV (z i:Nat):List AV:= [.d (.int .i64 ((z:Int) - 1 - i)),.any]
def zbF (z:Nat):List (List AV):=(List.range z).map (zeV z)
def putB (m z i:Nat):Txt:=List.replicate (z - i) 0++putN m i
def putH (m z i:Nat):AHeap:= [(3,.var [.osl 1 1 z 0 z]),(2,.var [.osl 1 1 z 0 z]),(1,.arr 1 (zj (putB m z i))),(0,.var [.d (.int .u64 ((m / 256 ^ i:Nat):Int))])]
def putF (m z i:Nat):AS:=⟨[(1,true,.vp 3 0)],putH m z i,some []⟩
theorem zgJ {m z i:Nat} (h:i<=z):(putB m z i).length=z:=by
 rw [putB,List.length_append,List.length_replicate,zK];omega
theorem zle (z:Nat):(zbF z).length=z:=by simp [zbF]
theorem zsv {z i:Nat} (h:i<z):(zbF z)[i]?=some (zeV z i):=by simp [zbF,h]
theorem zmz {z i:Nat} (h:i<z):(zbF z).take i++ [zeV z i]=(zbF z).take (i+1):=by
 rw [zb7 (zsv h)]
theorem zsw {m z:Nat} (hz:z<=8) (y:Yo Tryz.prog (zbF z)) (v0:Value)
  (hS:∀g M N A w,y.G g M N A w->∃F,∃i,i<=z/\SatH F (putH m z i) w/\Rep w F (putH m z i) (.vp 3 0) v0) {E:Env} {w:World} (hs:SatH E [] w) (hG:y.G (some []) E.M E.N (Own E []) w):
  Calls Tryz.prog 248 (#[]++ #[Value.func (.yield y.yl) #[] #[]]++ #[v0]) w (λe w'=>∃v E' h' g,e= .returned v/\((∀xs,g=some xs->xs=zbF z)/\h'= [])/\SatH E' h' w'/\Evo 100 E [] w E' h' w'/\y.G g E'.M E'.N (Own E' h') w'):=by
 refine zmb (fl:=100) (pre:= []) (caps:= [.raw v0]) (h:= []) (K:=λg h'=>(∀xs,g=some xs->xs=zbF z)/\h'= []) Tryz.func248 rfl Tryz.ntmps248 rfl (by simp) y (λbase=>?_) hs (by simp [Reps]) (by simp [Reps,Rep]) hG
 have hS':∀t:List (Nat×(Bool×AV)),lk t 1=some (true,.raw v0)->∀g M N A w,y.G g M N A w->∃F,∃b: { i:Nat // i<=z },SatH F (putF m z b.1).h w/\∀k g v,lk (putF m z b.1).t k=some (g,v)->g=true/\∃u,lk t k=some (true,.raw u)/\Rep w F (putF m z b.1).h v u:=by
  intro t ht g M N A w hg;obtain ⟨F,i,hi,h1,h2⟩:=hS g M N A w hg;refine ⟨F,⟨i,hi⟩,h1,?_⟩;intro k g v hk;simp only [putF,lk] at hk;split at hk
  ·rename_i e;subst e;simp only [Option.some.injEq,Prod.mk.injEq] at hk;obtain ⟨rfl,rfl⟩:=hk;exact ⟨rfl,v0,ht,h2⟩
  ·cases hk
 have hw0:IntKind.i64.wrap ((z:Int) - 1)=(z:Int) - 1:=zg (by omega) (by omega);simp only [List.nil_append,za8];refine zge noTab (zb _) _ _ (List.take_append_drop 4 _).symm (λb: { i:Nat // i<=z } =>putF m z b.1) (hS' _ rfl) (λK hK b=>?_);simp only [go_sem,aeq,aeq.aeqF,simprocAttr,putF,putH];refine ⟨by rw [zcp,zgJ b.2],hK _ ?_⟩;clear hK K b;refine za7 ?_;refine zq (λq: { j:Nat // j<=z } =>⟨[(0,true,.fn (.yield y.yl) [] []),(1,true,.raw v0),(3,true,.d (.int .i64 ((z:Int) - 1 - q.1)))],[],some ((zbF z).take q.1)⟩) (λq=>z - q.1) ⟨0,Nat.zero_le _⟩ (by simp only [AS.le,leT,leH,zf,AsgK,AV.le,AV.leL,AObj.le,inH,idsT,idsH,AV.ids,AV.idsL,AV.idsR,AObj.ids,lk,hget,go_sem,aeq,aeq.aeqF,simprocAttr,hw0]<;>simp) (λq=>?_);obtain ⟨j,hj⟩:=q;simp only at hj ⊢;rcases Nat.lt_or_ge j z with hlt|hge
 ·have hcmp:decide ((0:Int)<=(z:Int) - 1 - j)=true:=decide_eq_true (by omega);have hwj:IntKind.i64.wrap ((z:Int) - 1 - j - 1)=(z:Int) - 1 - (j+1:Nat):=by rw [zg (by omega) (by omega)];omega
  have hp:((zbF z).take j++ [zeV z j])<+:zbF z:=by rw [zmz hlt];exact List.take_prefix _ _
  have hpt:=zmz hlt;simp only [zeV] at hp hpt;refine' zsa (zav 3) hcmp;refine zge noTab (zb _) _ _ (List.take_append_drop 6 _).symm (λb: { i:Nat // i<=z } =>putF m z b.1) (hS' _ rfl) (λK hK b=>?_);have h3:((z:Int) - 1 - j).toNat<z:=by omega
  have hbl:(zj (putB m z b.1)).length=z:=by rw [zcp,zgJ b.2]
  simp only [go_sem,aeq,aeq.aeqF,simprocAttr,putF,putH,hbl];refine ⟨⟨by omega,by omega⟩,h3,hp,?_,?_⟩
  ·refine hK _ ?_;clear hK K;refine' z7 fx;exact ⟨⟨j+1,by omega⟩,by simp only [AS.le,leT,leH,zf,AsgK,AV.le,AV.leL,AObj.le,inH,idsT,idsH,AV.ids,AV.idsL,AV.idsR,AObj.ids,lk,hget,go_sem,aeq,aeq.aeqF,simprocAttr,hwj,hpt],by simp;omega⟩
  ·refine hK _ ?_;clear hK K;refine' z7 fx
 ·have hcmp:decide ((0:Int)<=(z:Int) - 1 - j)=false:=decide_eq_false (by omega);refine' z7 hcmp;rintro xs rfl;exact List.take_of_length_le (by rw [zle];omega)
theorem zmA (m z:Nat):putH m z 0= [(3,.var [.osl 1 1 z 0 z]),(2,.var [.osl 1 1 z 0 z]),(1,.arr 1 (List.replicate z [D.int .u8 0])),(0,.var [.d (.int .u64 (m:Int))])]:=by
 rw [putH,putB,zex];simp [putN]
theorem zuY (m z:Nat):ACall Tryz.prog 203 3 [.osl 1 1 z 0 z] [(2,.var [.osl 1 1 z 0 z]),(1,.arr 1 (List.replicate z [D.int .u8 0])),(0,.var [.d (.int .u64 (m:Int))])] (λr h'=>r= .fn (.func 248) [] [.vp 3 0]/\h'=putH m z 0):=by refine bod Tryz.func203 Tryz.ntmps203 (λbase=>?_);refine' zc fx;rw [zmA]
theorem zym (n:Int) (size:Int) (h0:0<=n) (h1:n<18446744073709551616):ACall Tryz.prog 141 0 [.d (.int .u64 n),.d (.int .i64 size)] [] (λr _=>r= .d (.str (putS8 n size))):=by
 refine fbod Tryz.func141 Tryz.ntmps141 (λbase=>?_);by_cases h:size<1\/8<size
 ·have hdec:(decide (size<1)||decide (8<size))=true:=by simpa using h
  refine' zaO hdec;rw [putS8,if_pos h]
 ·have hdec:(decide (size<1)||decide (8<size))=false:=by simpa using h
  obtain ⟨z,rfl,hz8⟩:∃z:Nat,size=(z:Int)/\z<=8:=⟨size.toNat,by omega,by omega⟩
  refine' zaO (zn hdec natC);obtain ⟨m,rfl⟩:∃m:Nat,n=m:=⟨n.toNat,by omega⟩
  refine ((zuY m z).whole (zJ rfl) (Nat.zero_le _) (by rintro r h' ⟨_,rfl⟩ i hi;rw [zmA];simp only [hget] at hi ⊢;repeat' split<;>simp_all)).mono ?_;rintro r h' ⟨rfl,rfl⟩;refine hK _ ?_;clear hK K;refine za7 ?_;rw [zmA];refine aw_le ⟨[(16,true,.fn (.func 248) [] [.vp 3 0]),(5,true,.vp 2 0),(2,true,.vp 0 0)],[(3,.var [.osl 1 1 z 0 z]),(2,.var [.osl 1 1 z 0 z]),(1,.arr 1 (List.replicate z [D.int .u8 0])),(0,.var [.d (.int .u64 (m:Int))])],some []⟩ le0 ?_;obtain ⟨I,hI⟩:∃I:List (List AV)->AHeap×Option (List (List AV)),I=λxs=>(putH m z (min xs.length z),some []):=⟨_,rfl⟩
  refine zqu (q:=3) (items:=zbF z) 100 I rfl rfl (zdn Tryz.func248 (by kernel_rfl) rfl) ?_ ?_ (by simp [cxOf]) ?_ ?_ ?_ ?_ ?_ ?_ ?_ ?_ ?_
  ·intro y v0 hy E w hs hG;refine zsw (m:=m) hz8 y v0 (λg M N A w hg=>?_) hs hG;obtain ⟨F,xs,q1,q2⟩:=hy g M N A w hg;rw [hI] at q1 q2;exact ⟨F,_,Nat.min_le_right _ _,q1,q2⟩
  ·exact zJ rfl
  ·exact ⟨_,rfl⟩
  ·intro xs;rw [hI];exact ⟨_,rfl⟩
  ·rw [hI];simp only [List.length_nil,Nat.zero_min,zmA];simp only [AS.le,leT,leH,zf,AsgK,AV.le,AV.leL,AObj.le,inH,idsT,idsH,AV.ids,AV.idsL,AV.idsR,AObj.ids,lk,hget,go_sem,aeq,aeq.aeqF,simprocAttr]
  ·rw [hI];simp only [List.length_nil,Nat.zero_min,zmA];simp only [AS.le,leT,leH,zf,AsgK,AV.le,AV.leL,AObj.le,inH,idsT,idsH,AV.ids,AV.idsL,AV.idsR,AObj.ids,lk,hget,go_sem,aeq,aeq.aeqF,simprocAttr]
  ·rw [hI]
  ·intro x hx;obtain ⟨i,_,rfl⟩:=List.mem_map.1 hx;rfl
  ·intro t ht;simp at ht;rcases ht with rfl|rfl<;>simp [cxOf]
  ·intro xs x hpre l1 r1
   have hlt:xs.length<z:=by have:=hpre.length_le;rw [List.length_append,zle] at this;simp only [List.length_singleton] at this;omega
   have hx:x=zeV z xs.length:=by obtain ⟨r,hr⟩:=hpre;have:=congrArg (λl=>l[xs.length]?) hr;simp only [zsv hlt] at this;simpa using this
   subst hx;have hmin:min xs.length z=xs.length:=by omega
   have hmin':min (xs.length+1) z=xs.length+1:=by omega
   rw [hI];simp only [hmin,List.length_append,List.length_singleton,hmin',zeV];generalize xs.length=i at hlt;clear hmin hmin' hpre hI;have hbl:(zj (putB m z i)).length=z:=by rw [zcp,zgJ (by omega)]
   have hto:((z:Int) - 1 - i).toNat=z - 1 - i:=by omega
   have hlt2:decide ((z:Int) - 1 - i<z)=true:=decide_eq_true (by omega);have hle2:decide (0<=(z:Int) - 1 - i)=true:=decide_eq_true (by omega);have hby:IntKind.u8.wrap ((m / 256 ^ i:Nat):Int)=((UInt8.ofNat (m / 256 ^ i)).toNat:Int):=u8_of _
   have hsh:ishr .u64 ((m / 256 ^ i:Nat):Int) 8=((m / 256 ^ (i+1):Nat):Int):=by rw [show (8:Int)=((8:Nat):Int) from rfl,zwm _ _ (by omega),Nat.div_div_eq_div_mul,Nat.pow_succ 256 i]
   have hset:(zj (putB m z i)).set (z - 1 - i) (((zj (putB m z i)).getD (z - 1 - i) []).set 0 (D.int .u8 (IntKind.u8.wrap ((m / 256 ^ i:Nat):Int))))=zj (putB m z (i+1)):=by
    rw [zmr (by rw [zgJ (by omega)];omega) _ hby];congr 1;have e1:z - i=(z - 1 - i)+1:=by omega
    have e2:z - (i+1)=z - 1 - i:=by omega
    rw [putB,putB,e1,e2,ziH,List.replicate_succ',List.append_assoc,List.set_append,if_neg (by simp)];simp
   refine aw_le ⟨[(17,true,.d (.int .i64 ((z:Int) - 1 - i))),(5,true,.vp 2 0),(2,true,.vp 0 0)],[(3,.var [.osl 1 1 z 0 z]),(2,.var [.osl 1 1 z 0 z]),(1,.arr 1 (zj (putB m z i))),(0,.var [.d (.int .u64 ((m / 256 ^ i:Nat):Int))])],some []⟩ (by rw [putH];simp only [AS.le,leT,leH,zf,AsgK,AV.le,AV.leL,AObj.le,inH,idsT,idsH,AV.ids,AV.idsL,AV.idsR,AObj.ids,lk,hget,go_sem,aeq,aeq.aeqF,simprocAttr]) ?_
   (have tk:=zb Tryz.prog);repeat' (first|((first|(refine sa ?_;intro K hK)|refine sb ?_);simp only [go_sem,aeq,aeq.aeqF,simprocAttr,hbl,hto,hset,hsh,Tryz.results141])|refine zaM (λK hK=>?_)|refine sc ?_|refine zbA rfl (λhc=>?_) (λhc=>?_)|(refine hK _ ?_;clear hK K)|((first|refine (show AS.le _ _ from ?_)|refine (show leH _ _ from ?_)|refine (show inH _ _ from ?_));simp only [AS.le,leT,leH,zf,AsgK,AV.le,AV.leL,AObj.le,inH,idsT,idsH,AV.ids,AV.idsL,AV.idsR,AObj.ids,lk,hget,go_sem,aeq,aeq.aeqF,simprocAttr,hbl,hto,hset,hsh])|refine λ(r2:Rnd _)=>?_|with_reducible refine And.intro ?_ ?_|exact ‹_<+:_› |omega|assumption|refine λ(hg:(_:Bool)=(_:Bool))=>?_|clear hK K)
   ·rw [putH];simp only [AS.le,leT,leH,zf,AsgK,AV.le,AV.leL,AObj.le,inH,idsT,idsH,AV.ids,AV.idsL,AV.idsR,AObj.ids,lk,hget,go_sem,aeq,aeq.aeqF,simprocAttr]
   ·rw [putH];simp only [AS.le,leT,leH,zf,AsgK,AV.le,AV.leL,AObj.le,inH,idsT,idsH,AV.ids,AV.idsL,AV.idsR,AObj.ids,lk,hget,go_sem,aeq,aeq.aeqF,simprocAttr]
  ·have hmin:min (zbF z).length z=z:=by rw [zle];omega
   rw [hI];simp only [hmin];have hbl:(zj (putB m z z)).length=z:=by rw [zcp,zgJ (by omega)]
   have hput:putB m z z=putN m z:=by rw [putB,Nat.sub_self];rfl
   have hbl2:(z=(zj (putB m z z)).length)=True:=eq_true hbl.symm;have hbl3:List.take z (zj (putB m z z))=zj (putB m z z):=List.take_of_length_le (by omega)
   (have tk:=zb Tryz.prog);repeat' (first|((first|(refine sa ?_;intro K hK)|refine sb ?_);simp only [go_sem,aeq,aeq.aeqF,simprocAttr,putH,hbl,Tryz.results141])|refine zaM (λK hK=>?_)|refine sc ?_|refine zbA rfl (λhc=>?_) (λhc=>?_)|(refine hK _ ?_;clear hK K)|((first|refine (show AS.le _ _ from ?_)|refine (show leH _ _ from ?_)|refine (show inH _ _ from ?_));simp only [AS.le,leT,leH,zf,AsgK,AV.le,AV.leL,AObj.le,inH,idsT,idsH,AV.ids,AV.idsL,AV.idsR,AObj.ids,lk,hget,go_sem,aeq,aeq.aeqF,simprocAttr,putH,hbl])|refine λ(r2:Rnd _)=>?_|with_reducible refine And.intro ?_ ?_|exact ‹_<+:_› |omega|assumption|refine λ(hg:(_:Bool)=(_:Bool))=>?_|clear hK K)
   ·rw [hbl3];exact zbt _
   ·have hn:(z:Int) - 1=z - 1:=rfl;rw [hbl3,zap,hput,putS8,if_neg h];rfl
@[go_sem] noncomputable def zda:Ent Tryz.prog 141:= .ofL (consL (intT .u64) (consL (intT .i64) nilL)) (λ(n,size,_)=>(0<=n)/\(n<18446744073709551616)) (λ(n,size,_)=> .d (.str (putS8 n size))) (λ(n,size,_) hp=>⟨rfl,zym n size hp.1 hp.2⟩)
open Go Go.Proofs
def zeA (g h:Int):Bool:=decide (1<=g)&&decide (g<=64)&&decide (8<=h)&&decide (h<=256)
def ziJ (g h:Int):Int:=if zeA g h then 96+2*h else 0
theorem geo_iff {g h:Int} :zeA g h=true↔1<=g/\g<=64/\8<=h/\h<=256:=by
 simp [zeA,and_assoc]
theorem zwV (k:Int) (hp:0<=k/\k<=1000000):AC 101 [.d (.int .i64 k)] (.d (.int .i64 (96+2*k))):=by obtain ⟨h0,h1⟩:=hp;refine bod Tryz.func101 Tryz.ntmps101 (λbase=>?_);have hm:IntKind.i64.wrap (2*k)=2*k:=zg (by omega) (by omega);have hm2:IntKind.i64.wrap (96+2*k)=96+2*k:=zg (by omega) (by omega);refine' zc (zn hm hm2)
@[go_sem] noncomputable def zcB:Ent Tryz.prog 101:= .m1 (intT .i64) zwV
theorem at_ok (k:Int) (hp:0<=k/\k<=1000000):AC 190 [.d (.int .i64 k)] (.d (.int .i64 (96+2*k))):=by obtain ⟨h0,h1⟩:=hp;refine bod Tryz.func190 Tryz.ntmps190 (λbase=>?_);have hm:IntKind.i64.wrap (2*k)=2*k:=zg (by omega) (by omega);have hm2:IntKind.i64.wrap (96+2*k)=96+2*k:=zg (by omega) (by omega);refine' zc (zn hm hm2)
@[go_sem] noncomputable def zck:Ent Tryz.prog 190:= .m1 (intT .i64) at_ok
theorem zuO (k:Int) (hp:0<=k/\k<=1000000):AC 142 [.d (.int .i64 k)] (.tup [.d (.int .i64 (87+k / 32)),.d (.int .i64 (2*(k % 32)))]):=by
 obtain ⟨h0,h1⟩:=hp;refine bod Tryz.func142 Tryz.ntmps142 (λbase=>?_);have hm:IntKind.i64.wrap (k.tdiv 32)=k / 32:=by rw [Int.tdiv_eq_ediv_of_nonneg h0,zg (by omega) (by omega)]
 have hm2:IntKind.i64.wrap (87+k / 32)=87+k / 32:=zg (by omega) (by omega);have hm3:k.tmod 32=k % 32:=Int.tmod_eq_emod_of_nonneg h0;have hm4:IntKind.i64.wrap (2*(k % 32))=2*(k % 32):=zg (by omega) (by omega);refine' zc (zah hm hm2 hm3 hm4)
@[go_sem] noncomputable def zdC:Ent Tryz.prog 142:= .m1 (intT .i64) zuO
theorem zwW {k:Int} (h0:0<=k):ishr .i64 k 5=k / 32:=by unfold ishr;rw [show min ((5:Int).toNat) IntKind.i64.bits=5 from rfl,Int.fdiv_eq_ediv_of_nonneg _ (by decide)];rfl
theorem zwX {k:Int} (h0:0<=k) (h1:k<=1000000):ibits .and .i64 k 31=k % 32:=by
 obtain ⟨m,rfl⟩:∃m:Nat,k=m:=⟨k.toNat,by omega⟩
 show IntKind.i64.wrap ((BitVec.ofInt 64 (m:Int)&&& BitVec.ofInt 64 31).toNat:Int)=_;rw [BitVec.ofInt_natCast,show BitVec.ofInt 64 31=BitVec.ofNat 64 31 from rfl,BitVec.toNat_and,BitVec.toNat_ofNat,BitVec.toNat_ofNat,Nat.mod_eq_of_lt (by omega),Nat.mod_eq_of_lt (by omega),show (31:Nat)=2 ^ 5 - 1 from rfl,Nat.and_two_pow_sub_one_eq_mod,zg (by omega) (by omega)];omega
theorem zyl (k:Int) (hp:0<=k/\k<=1000000):AC 139 [.d (.int .i64 k)] (.tup [.d (.int .i64 (87+k / 32)),.d (.int .i64 (2*(k % 32)))]):=by
 obtain ⟨h0,h1⟩:=hp;refine bod Tryz.func139 Tryz.ntmps139 (λbase=>?_);have hm:=zwW h0;have hm2:IntKind.i64.wrap (87+k / 32)=87+k / 32:=zg (by omega) (by omega);have hm3:=zwX h0 h1;have hm4:IntKind.i64.wrap (k % 32*2)=2*(k % 32):=by rw [zg (by omega) (by omega)];omega
 refine' zc (zah hm hm2 hm3 hm4)
@[go_sem] noncomputable def zfL:Ent Tryz.prog 139:= .m1 (intT .i64) zyl
theorem zsp:ACall Tryz.prog 247 0 [] [] (λr _=>r= .tup [.d (.int .i64 6),.d (.int .i64 81)]):=by refine bod Tryz.func247 Tryz.ntmps247 (λbase=>?_);refine' zc fx
@[go_sem] noncomputable def znT:Ent Tryz.prog 247:= .ofL nilL (λ_=>True) (λ_=> .tup [.d (.int .i64 6),.d (.int .i64 81)]) (λ_ hp=>⟨rfl,zsp⟩)
theorem zuP (g:Int) (m:Int):ACall Tryz.prog 92 0 [.agg [.d (.int .i64 g),.d (.int .i64 m)]] [] (λr _=>r= .d (.bool (zeA g m))):=by refine bod Tryz.func92 Tryz.ntmps92 (λbase=>?_);refine' zc fx;rfl
@[go_sem] noncomputable def zdD:Ent Tryz.prog 92:= .ofL (consL (aggT (consL (intT .i64) (consL (intT .i64) nilL)) (λp=>p) (λp=>p) (λ_=>rfl)) nilL) (λ((g,m,_),_)=>True) (λ((g,m,_),_)=> .d (.bool (zeA g m))) (λ((g,m,_),_) hp=>⟨rfl,zuP g m⟩)
theorem zuQ (g:Int) (m:Int):ACall Tryz.prog 94 0 [.agg [.d (.int .i64 g),.d (.int .i64 m)]] [] (λr _=>r= .d (.int .i64 (ziJ g m))):=by
 refine bod Tryz.func94 Tryz.ntmps94 (λbase=>?_);refine' walkW fx (za zdD <| zb _)
 ·have hc:zeA g m=false:=by simpa using hc
  rw [ziJ,if_neg (by rw [hc];exact Bool.false_ne_true)]
 ·have hc:zeA g m=true:=by simpa using hc
  have hg:=geo_iff.1 hc;rw [ziJ,if_pos hc,zg (n:=2*m) (by omega) (by omega),zg (by omega) (by omega)]
@[go_sem] noncomputable def zfM:Ent Tryz.prog 94:= .ofL (consL (aggT (consL (intT .i64) (consL (intT .i64) nilL)) (λp=>p) (λp=>p) (λ_=>rfl)) nilL) (λ((g,m,_),_)=>True) (λ((g,m,_),_)=> .d (.int .i64 (ziJ g m))) (λ((g,m,_),_) hp=>⟨rfl,zuQ g m⟩)
open Go Go.Proofs
structure Plan where
 targets:List Int
 texts:List Txt
 deriving DecidableEq
def planA (p:Plan):AV:= .agg [.d (.sl 1 (p.targets.map intD)),.d (.sl 1 (p.texts.map strD))]
def planC (p:Plan):List AV:= [.d (.sl 1 (p.targets.map intD)),.d (.sl 1 (p.texts.map strD))]
attribute [go_sem] planA planC
theorem zuR (p:Plan):Plan.mk p.targets p.texts=p:=rfl
noncomputable def zw:PT Plan:=aggT (consL (slT 1 intD zc7) (consL (slT 1 strD zgD) nilL)) (λp=>⟨p.1,p.2.1⟩) (λx=>(x.targets,x.texts,())) (λ_=>rfl)
attribute [go_sem] zw
noncomputable def zsq:PT Plan:=dpT (consL (slT 1 intD zc7) (consL (slT 1 strD zgD) nilL)) (λp=>⟨p.1,p.2.1⟩) (λx=>(x.targets,x.texts,())) (λ_=>rfl)
attribute [go_sem] zsq
attribute [go_sem] zuR
structure PlanOk (p:Plan):Prop where
 targets:p.targets.length<=9223372036854775807
 texts:p.texts.length<=9223372036854775807
def secOk (at_:Int):Bool:=decide (0<=at_)&&decide (at_<1024)
def pfind (l:List Int) (at_:Int):Int:=idxP (λx=>x==at_) l 0
def pfitL:List Int->List Int->List Txt->Bool
 |_,[],_=>true
 |seen,t::r,s::q=>secOk t&& !seen.contains t&&((s.length:Int)==64)&&pfitL (seen++ [t]) r q
 |_,_::_,[]=>true
def pfit (p:Plan):Bool:=decide (p.targets.length=p.texts.length)&&decide (p.targets.length<=24)&&pfitL [] p.targets p.texts
def plook (d:Disk) (p:Plan) (at_:Int):Txt×Int:=
 if 0<=pfind p.targets at_ then (p.texts.getD (pfind p.targets at_).toNat [],0) else dread d at_
def pset (p:Plan) (at_:Int) (s:Txt):Plan×Int:=
 if !secOk at_ then (p,10) else if (s.length:Int)≠64 then (p,11)
 else if 0<=pfind p.targets at_ then (⟨p.targets,p.texts.set (pfind p.targets at_).toNat s⟩,0)
 else if 24<=(p.targets.length:Int) then (p,16) else (⟨p.targets++ [at_],p.texts++ [s]⟩,0)
def zcq (d:Disk) (p:Plan) (at_:Int) (off:Int) (s:Txt):Plan×Int:=
 if (plook d p at_).2≠0 then (p,(plook d p at_).2)
 else if (overS (plook d p at_).1 off s).2≠0 then (p,(overS (plook d p at_).1 off s).2)
 else pset p at_ (overS (plook d p at_).1 off s).1
def layL (d:Disk):List (Int×Txt)->Disk×Int
 | []=>(d,0)
 |q::r=>if (zM d q.1 q.2).2≠0 then zM d q.1 q.2 else layL (zM d q.1 q.2).1 r
def play (d:Disk) (p:Plan):Disk×Int:=layL d (p.targets.zip p.texts)
theorem ziK {d:Disk} (h:DiskOk d) (at_:Int) (s:Txt):DiskOk (zM d at_ s).1:=by
 unfold zM;repeat' split
 all_goals first|exact h|skip
 ·exact ⟨h.data,h.cache,h.bad,h.fuse0,h.fuse1⟩
 ·rename_i h6;exact zpj ⟨h.data,by simp only [List.length_append,List.length_singleton];omega,h.bad,h.fuse0,h.fuse1⟩
theorem zpo {d:Disk} {at_:Int} (hf:d.cache.all (putOk d)=true) (ht:there d at_=true):(sees d at_).length=64:=by
 obtain ⟨h0,h1⟩:=there_iff.1 ht;unfold sees;split
 ·rename_i q hq;have hm:=List.mem_of_find?_eq_some hq;have:=List.all_eq_true.1 hf q (List.mem_reverse.1 hm);rw [putOk,Bool.and_eq_true] at this;have:=eq_of_beq this.2;omega
 ·rw [List.length_take,List.length_drop];omega
theorem zgI {d:Disk} {at_:Int} (hf:d.cache.all (putOk d)=true):(dread d at_).1.length<=64:=by
 unfold dread;repeat' split
 all_goals first|(simp;done)|skip
 rw [zpo hf (by simp_all)];omega
theorem zmu:∀ (t:List Int) (s:List Txt) (seen:List Int),pfitL seen t s=true->t.length=s.length->∀x∈s,x.length=64
 | [],s,seen,_,hl=>by have:s= []:=List.length_eq_zero_iff.1 hl.symm;subst this;simp
 |t::r,[],seen,_,hl=>by simp at hl
 |t::r,s::q,seen,h,hl=>by
  rw [pfitL] at h;simp only [Bool.and_eq_true] at h;intro x hx;rcases List.mem_cons.1 hx with rfl|hx
  ·have:=eq_of_beq h.1.2;omega
  ·exact zmu r q _ h.2 (by simpa using hl) x hx
theorem zay {p:Plan} (h:pfit p=true):p.targets.length=p.texts.length/\p.targets.length<=24/\∀x∈p.texts,x.length=64:=by simp only [pfit,Bool.and_eq_true,decide_eq_true_eq] at h;exact ⟨h.1.1,h.1.2,zmu _ _ _ h.2 h.1.1⟩
theorem zuS {l:List Txt} {n k:Nat} (h:∀x∈l,x.length=n):(l.getD k []).length<=n:=by
 rw [List.getD_eq_getElem?_getD];rcases hk:l[k]? with _|x
 ·simp
 ·rw [Option.getD_some,h x (List.mem_of_getElem? hk)];exact Nat.le_refl _
theorem zmv {d:Disk} {p:Plan} {at_:Int} (hf:d.cache.all (putOk d)=true) (hp:pfit p=true):(plook d p at_).1.length<=64:=by
 unfold plook;split
 ·exact zuS (zay hp).2.2
 ·exact zgI hf
theorem zeB {α:Type} (p:α->Bool):∀ (l:List α) (k:Nat),idxP p l k= -1\/((k:Int)<=idxP p l k/\idxP p l k<((k+l.length:Nat):Int))
 | [],k=> .inl rfl
 | q::l,k=>by
  rw [idxP];split
  ·exact .inr ⟨Int.le_refl _,by simp;omega⟩
  ·rcases zeB p l (k+1) with h|⟨h1,h2⟩
   ·exact .inl h
   ·exact .inr ⟨by omega,by simp only [List.length_cons];omega⟩
theorem zbd (l:List Int) (at_:Int):pfind l at_= -1\/∃k:Nat,pfind l at_=k/\k<l.length:=by
 rcases zeB (λx=>x==at_) l 0 with h|⟨h1,h2⟩
 ·exact .inl h
 ·exact .inr ⟨(pfind l at_).toNat,by unfold pfind;omega,by unfold pfind;omega⟩
theorem znU (at_:Int) (_:True):AC 174 [.d (.int .i64 at_)] (.d (.bool (secOk at_))):=by refine bod Tryz.func174 Tryz.ntmps174 (λbase=>?_);refine' zc fx;rfl
@[go_sem] noncomputable def zeT:Ent Tryz.prog 174:= .m1 (intT .i64) znU
theorem zsr (p:Plan) (at_:Int) (hp:PlanOk p):AC 148 [planA p,.d (.int .i64 at_)] (.d (.int .i64 (pfind p.targets at_))):=by
 refine bod Tryz.func148 Tryz.ntmps148 (λbase=>?_);refine' zc fx;have ht:=hp.targets;refine zq (λq:Idst (λx=>x==at_) p.targets=>⟨[(1,true,.d (.int .i64 at_)),(2,true,.vp 0 0),(5,true,.d (.int .i64 q.1))],[(0,.var [.d (.sl 1 (p.targets.map intD)),.d (.sl 1 (p.texts.map strD))])],some []⟩) (λq=>p.targets.length - q.1) ⟨0,Nat.zero_le _,rfl⟩ le1 (λq=>?_);obtain ⟨i,hi,hf⟩:=q;simp only at hi hf ⊢;rcases zP intD p.targets i hi with ⟨m,hq,hlt,hcmp,hrow,hdr,htk⟩|⟨hend,hcmp⟩
 ·simp only [intD] at hrow;have hwi:=zr (i:=i) (by omega);refine' zc (zn hcmp hrow)
  ·rw [pfind,hf,hdr,idxP,if_pos hc]
  ·exact ⟨⟨i+1,by omega,by rw [hf,hdr,idxP,if_neg (by rw [hc];exact Bool.false_ne_true)]⟩,lew,by simp;omega⟩
 ·refine' zc hcmp;rw [pfind,hf,hend,List.drop_length];rfl
@[go_sem] noncomputable def zdT:Ent Tryz.prog 148:= .m2 zw (intT .i64) zsr
theorem zss (d:Disk) (p:Plan) (at_:Int) (hp:DiskOk d/\PlanOk p/\p.targets.length=p.texts.length):AC 65 [diskA d,planA p,.d (.int .i64 at_)] (.tup [.d (.str (plook d p at_).1),.d (.int .i64 (plook d p at_).2)]):=by
 obtain ⟨hd,hp,hl⟩:=hp;refine bod Tryz.func65 Tryz.ntmps65 (λbase=>?_);rcases zbd p.targets at_ with hk|⟨k,hk,hkl⟩
 ·refine' walkW hk (za zdT <| za ziE <| zb _);rw [plook,hk,if_neg (by omega)]
 ·obtain ⟨s,hq⟩:=zas (l:=p.texts) (i:=k) (by omega);have hrow:=zco (g:=strD) hq;simp only [strD] at hrow;have h1:decide ((0:Int)<=(k:Int))=true:=decide_eq_true (by omega);have h2:decide ((k:Int)<(p.texts.length:Int))=true:=decide_eq_true (by omega);refine' walkW (zbj hk hrow natC h1 h2) (za zdT <| za ziE <| zb _);rw [plook,hk,if_pos (by omega),Int.toNat_natCast,List.getD_eq_getElem?_getD,hq];rfl
@[go_sem] noncomputable def zA:Ent Tryz.prog 65:= .m3 zu zw (intT .i64) zss
theorem zfN {α:Type} (g:α->List D) (l:List α) (x:α) (r:List D) (hr:r=g x) {k:Nat} :(if l.length+1=(l.map g++ [r]).length then AV.d (D.sl k (List.take (l.length+1) (l.map g++ [r]))) else AV.any)=AV.d (.sl k ((l++ [x]).map g)):=by
 have h1:l.length+1=(l.map g++ [r]).length:=by simp
 rw [if_pos h1,List.take_of_length_le (Nat.le_of_eq h1.symm),hr,List.map_append];rfl
theorem zpp {k n:Nat} {X:List (List D)} (h:X.length=n):(if n=X.length then AV.d (D.sl k (List.take n X)) else AV.any)=AV.d (.sl k X):=by
 rw [if_pos h.symm,List.take_of_length_le (Nat.le_of_eq h)]
theorem zst {l:List Txt} {k:Nat} {s:Txt} (hk:k<l.length):(l.map strD).set k (((l.map strD).getD k []).set 0 (D.str s))=(l.set k s).map strD:=by obtain ⟨x,hq⟩:=zas hk;rw [zco (g:=strD) hq,List.map_set];rfl
theorem zuT (p:Plan) (at_:Int) (s:Txt) (hp:PlanOk p/\p.targets.length=p.texts.length/\p.targets.length<=24):AC 105 [planA p,.d (.int .i64 at_),.d (.str s)] (.tup [planA (pset p at_ s).1,.d (.int .i64 (pset p at_ s).2)]):=by
 obtain ⟨hp,hl,h24⟩:=hp;refine fbod Tryz.func105 Tryz.ntmps105 (λbase=>?_);rcases zbd p.targets at_ with hk|⟨k,hk,hkl⟩
 ·refine' walkW hk (za zeT <| za zdT <| zb _);all_goals first|(simp_all [pset];done)|skip
  rw [zfN intD p.targets at_ [D.int .i64 at_] rfl,zfN strD p.texts s [D.str s] rfl];by_cases h6:24<=(p.targets.length:Int)
  ·exfalso;simp_all;omega
  ·simp_all [pset];simp only [if_neg (show ¬(24:Int)<=p.texts.length by omega)];simp
 ·have h1:decide ((0:Int)<=(k:Int))=true:=decide_eq_true (by omega);refine' walkW (zB hk natC h1) (za zeT <| za zdT <| zb _);all_goals first|(simp_all [pset];done)|skip
  rw [zst (by omega),zpp (by simp)];simp_all [pset]
@[go_sem] noncomputable def za2:Ent Tryz.prog 105:= .m3 zw (intT .i64) strT zuT
theorem zqs (d:Disk) (p:Plan) (at_ off:Int) (s:Txt) (hp:DiskOk d/\d.cache.all (putOk d)=true/\pfit p=true/\s.length<=9223372036854775807):AC 134 [diskA d,planA p,.d (.int .i64 at_),.d (.int .i64 off),.d (.str s)] (.tup [planA (zcq d p at_ off s).1,.d (.int .i64 (zcq d p at_ off s).2)]):=by
 obtain ⟨hd,hf,hp,hs⟩:=hp;refine fbod Tryz.func134 Tryz.ntmps134 (λbase=>?_);obtain ⟨hl,h24,h64⟩:=zay hp;have hpo:PlanOk p:=⟨by omega,by omega⟩
 have hb:=zmv (at_:=at_) hf hp;refine' walkW fx (za zA <| za znS <| za za2 <| zb _);all_goals first|(simp_all [zcq];done)|skip
@[go_sem] noncomputable def zar:Ent Tryz.prog 134:= .m5 zu zw (intT .i64) (intT .i64) strT zqs
open Go Go.Proofs
theorem zsu {l:List Int} {i:Nat} {t:Int} :∀ {k:Nat},l[i]?=some t->(idxP (λx=>x==t) l k==((k+i:Nat):Int))= !(l.take i).contains t:=by
 induction l generalizing i with
 |nil=>intro k h;simp at h
 | cons a l ih=>
  intro k h;cases i with
  |zero=>
   simp only [List.getElem?_cons_zero,Option.some.injEq] at h;subst h;rw [idxP,if_pos (by simp)];simp
  | succ i=>
   rw [List.getElem?_cons_succ] at h;rw [idxP,List.take_succ_cons,List.contains_cons];by_cases ha:a=t
   ·rw [if_pos (by simpa using ha),ha,beq_self_eq_true,Bool.true_or];rw [beq_eq_false_iff_ne.2 (by omega)];rfl
   ·rw [if_neg (by simpa using ha),show k+(i+1)=k+1+i from by omega,ih h,beq_eq_false_iff_ne.2 (Ne.symm ha),Bool.false_or]
theorem zuU (p:Plan) (hp:PlanOk p):AC 245 [planA p] (.d (.bool (pfit p))):=by
 refine bod Tryz.func245 Tryz.ntmps245 (λbase=>?_);have h1:=hp.targets;have h2:=hp.texts;refine' zc fx
 ·have:pfit p=false:=by
   simp only [Bool.or_eq_true,bne_iff_ne,decide_eq_true_eq] at hc;rw [pfit];rcases hc with hc|hc
   ·rw [decide_eq_false (p:=p.targets.length=p.texts.length) (by omega)];simp
   ·rw [decide_eq_false (p:=p.targets.length<=24) (by omega)];simp
  rw [this]
 obtain ⟨hl,h24⟩:p.targets.length=p.texts.length/\p.targets.length<=24:=by simp only [Bool.or_eq_false_iff,bne_eq_false_iff_eq,decide_eq_false_iff_not] at hc;omega
 have hfit:pfit p=pfitL [] p.targets p.texts:=by rw [pfit,decide_eq_true hl,decide_eq_true h24];simp
 refine zq (λq: { i:Nat // i<=p.targets.length/\pfitL [] p.targets p.texts=pfitL (p.targets.take i) (p.targets.drop i) (p.texts.drop i) } =>⟨[(1,true,.vp 0 0),(3,true,.d (.int .i64 q.1))],[(0,.var [.d (.sl 1 (p.targets.map intD)),.d (.sl 1 (p.texts.map strD))])],some []⟩) (λq=>p.targets.length - q.1) ⟨0,Nat.zero_le _,rfl⟩ le1 (λq=>?_);obtain ⟨i,hi,hf⟩:=q;simp only at hi hf ⊢;rcases zP intD p.targets i hi with ⟨m,hq,hlt,hcmp,hrow,hdr,htk⟩|⟨hend,hcmp⟩
 ·obtain ⟨s,hq'⟩:=zas (l:=p.texts) (i:=i) (by omega);have hrow':=zco (g:=strD) hq';simp only [intD] at hrow;simp only [strD] at hrow';have hwi:=zr (i:=i) (by omega);have hid:=zsu (k:=0) hq;rw [Nat.zero_add] at hid;rw [hdr,zcQ hq',pfitL] at hf
  have hall:(!secOk m||pfind p.targets m !=(i:Int)||((s.length:Int) !=64))= !(secOk m&& !(p.targets.take i).contains m&&((s.length:Int)==64)):=by rw [<-hid,Bool.not_and,Bool.not_and];rfl
  refine' walkW (zB hcmp hrow hrow') (za zeT <| za zdT <| zb _)
  ·rw [hall] at hc;simp only [Bool.not_eq_true'] at hc;rw [hfit,hf,hc,Bool.false_and]
  ·rw [hall] at hc;simp only [Bool.not_eq_false'] at hc;rw [hc,Bool.true_and,<-htk] at hf;exact ⟨⟨i+1,by omega,hf⟩,lew,by simp;omega⟩
 ·refine' zc hcmp;rw [hfit,hf,hend,List.drop_length];rfl
@[go_sem] noncomputable def zdE:Ent Tryz.prog 245:= .m1 zw zuU
theorem zuV (d:Disk) (p:Plan) (hp:DiskOk d/\PlanOk p/\p.targets.length=p.texts.length):AC 106 [diskA d,planA p] (.tup [diskA (play d p).1,.d (.int .i64 (play d p).2)]):=by
 obtain ⟨hd,hp,hl⟩:=hp;refine fbod Tryz.func106 Tryz.ntmps106 (λbase=>?_);have h1:=hp.targets;have h2:=hp.texts;refine' zc fx;refine zq (λq: { q:Nat×Disk // q.1<=p.targets.length/\DiskOk q.2/\play d p=layL q.2 ((p.targets.zip p.texts).drop q.1) } =>⟨[(2,true,.vp 0 0),(3,true,.vp 1 0),(4,true,.vp 2 0),(6,true,.d (.int .i64 q.1.1))],[(2,.var [.d (.str []),.nils 2,.d (.int .i64 0),.d (.bool false),.nils 1]),(1,.var [.d (.sl 1 (p.targets.map intD)),.d (.sl 1 (p.texts.map strD))]),(0,(.var [.d (.str q.1.2.data),.d (.sl 2 (q.1.2.cache.map putD)),.d (.int .i64 q.1.2.fuse),.d (.bool q.1.2.off),.d (.sl 1 (q.1.2.bad.map intD))]))],some []⟩) (λq=>p.targets.length - q.1.1) ⟨(0,d),Nat.zero_le _,hd,rfl⟩ le1 (λq=>?_);obtain ⟨⟨i,x⟩,hi,hx,hf⟩:=q;simp only at hi hx hf ⊢;rcases zP intD p.targets i hi with ⟨m,hq,hlt,hcmp,hrow,hdr,htk⟩|⟨hend,hcmp⟩
 ·obtain ⟨s,hq'⟩:=zas (l:=p.texts) (i:=i) (by omega);have hrow':=zco (g:=strD) hq';simp only [intD] at hrow;simp only [strD] at hrow';have hwi:=zr (i:=i) (by omega);have hcmp':decide ((i:Int)<(p.texts.length:Int))=true:=by rw [<-hl];exact hcmp
  have hz:(p.targets.zip p.texts)[i]?=some (m,s):=List.getElem?_zip_eq_some.2 ⟨hq,hq'⟩;rw [zcQ hz,layL] at hf;have hxo:=ziK hx m s;refine' walkW (zah hcmp hcmp' hrow hrow') (za zbL <| zb _)
  ·have hc:(zM x m s).2≠0:=by simpa using hc
   rw [hf,if_pos hc]
  ·have hc:¬(zM x m s).2≠0:=by simpa using hc
   rw [if_neg hc] at hf;exact ⟨⟨(i+1,(zM x m s).1),by omega,hxo,hf⟩,lew,by simp;omega⟩
 ·refine' zc hcmp;rw [hf,List.drop_of_length_le (by rw [List.length_zip];omega)];rfl
@[go_sem] noncomputable def zcT:Ent Tryz.prog 106:= .m2 zu zw zuV
open Go Go.Proofs
theorem znV (at_:Int) (_:True):AC 193 [.d (.int .i64 at_)] (.d (.bool (!secOk at_))):=by
 refine bod Tryz.func193 Tryz.ntmps193 (λbase=>?_);refine' zc fx;congr 2;rw [secOk,Bool.not_and];congr 1
 ·by_cases h:at_<0
  ·rw [decide_eq_true h,decide_eq_false (by omega)];rfl
  ·rw [decide_eq_false h,decide_eq_true (by omega)];rfl
 ·by_cases h:at_<1024
  ·rw [decide_eq_true h,decide_eq_false (by omega)];rfl
  ·rw [decide_eq_false h,decide_eq_true (by omega)];rfl
@[go_sem] noncomputable def zbT:Ent Tryz.prog 193:= .m1 (intT .i64) znV
theorem zpq (l:List Int) (x:Int) (k:Nat):idxP (λq=>x==q) l k=idxP (λq=>q==x) l k:=by
 have:(λq:Int=>x==q)=(λq=>q==x):=by funext q;exact BEq.comm
 rw [this]
theorem zuW (d:Disk) (p:Plan) (at_:Int) (hp:DiskOk d/\PlanOk p/\p.targets.length=p.texts.length):AC 176 [diskA d,planA p,.d (.int .i64 at_)] (.tup [.d (.str (plook d p at_).1),.d (.int .i64 (plook d p at_).2)]):=by
 obtain ⟨hd,hp,hl⟩:=hp;refine bod Tryz.func176 Tryz.ntmps176 (λbase=>?_);have ht:=hp.targets;have hsw:=zpq p.targets at_ 0;rcases zbd p.targets at_ with hk|⟨k,hk,hkl⟩
 ·have hk':=hk;unfold pfind at hk';refine' walkW (zn hsw hk') (za zbu <| za zv <| zb _);rw [plook,hk,if_neg (by omega)]
 ·have hk':=hk;unfold pfind at hk';obtain ⟨s,hq⟩:=zas (l:=p.texts) (i:=k) (by omega);have hrow:=zco (g:=strD) hq;simp only [strD] at hrow;have h1:decide ((0:Int)<=(k:Int))=true:=decide_eq_true (by omega);refine' walkW (zbj hsw hk' hrow natC h1) (za zbu <| za zv <| zb _);rw [plook,hk,if_pos (by omega),Int.toNat_natCast,List.getD_eq_getElem?_getD,hq];rfl
@[go_sem] noncomputable def z2:Ent Tryz.prog 176:= .m3 zu zw (intT .i64) zuW
open Go Go.Proofs
theorem zjL (l:List Int) (fl:Nat) (hl:l.length<=5000):ACall Tryz.prog 156 fl [.d (.sl 1 (l.map intD))] [] (λr h'=>r= .osl fl 1 l.length 0 l.length/\h'= [(fl,.arr 1 (l.map intD))]):=by
 refine bod Tryz.func156 Tryz.ntmps156 (λbase=>?_);refine' zcj (zav 2) fx
 ·refine zi noTab (zb _) (λK hK=>?_);simp only [go_sem,aeq,aeq.aeqF,simprocAttr]
  (first|(refine hK _ ?_;clear hK K)|(clear hK K;refine hK _ ?_;clear hK K)|(clear hK K;clear hK K;refine hK _ ?_;clear hK K)|(clear hK K;clear hK K;clear hK K;refine hK _ ?_;clear hK K)|(clear hK K;clear hK K;clear hK K;clear hK K;refine hK _ ?_;clear hK K))
  refine zds 2 1 rfl ?_;have h0:l= []:=List.map_eq_nil_iff.1 (hnb hc);subst h0;refine' zc fx;all_goals rfl
theorem zjM (l:List Txt) (fl:Nat) (hl:l.length<=5000):ACall Tryz.prog 194 fl [.d (.sl 1 (l.map strD))] [] (λr h'=>r= .osl fl 1 l.length 0 l.length/\h'= [(fl,.arr 1 (l.map strD))]):=by
 refine bod Tryz.func194 Tryz.ntmps194 (λbase=>?_);refine' zcj (zav 2) fx
 ·refine zi noTab (zb _) (λK hK=>?_);simp only [go_sem,aeq,aeq.aeqF,simprocAttr]
  (first|(refine hK _ ?_;clear hK K)|(clear hK K;refine hK _ ?_;clear hK K)|(clear hK K;clear hK K;refine hK _ ?_;clear hK K)|(clear hK K;clear hK K;clear hK K;refine hK _ ?_;clear hK K)|(clear hK K;clear hK K;clear hK K;clear hK K;refine hK _ ?_;clear hK K))
  refine zds 2 1 rfl ?_;have h0:l= []:=List.map_eq_nil_iff.1 (hnb hc);subst h0;refine' zc fx;all_goals rfl
theorem zwn (l:List Int) (h:l.length<=5000) (fl:Nat):ACall Tryz.prog 156 fl [.d (.sl 1 (l.map intD))] [] (λr h'=>r= .osl fl 1 (l.map intD).length 0 (l.map intD).length/\h'= [(fl,.arr 1 (l.map intD))]):=by
 rw [List.length_map];exact zjL l fl h
theorem zwo (l:List Txt) (h:l.length<=5000) (fl:Nat):ACall Tryz.prog 194 fl [.d (.sl 1 (l.map strD))] [] (λr h'=>r= .osl fl 1 (l.map strD).length 0 (l.map strD).length/\h'= [(fl,.arr 1 (l.map strD))]):=by
 rw [List.length_map];exact zjM l fl h
theorem zwY (p:Plan) (at_:Int) (s:Txt) (hp:PlanOk p/\p.targets.length=p.texts.length/\p.targets.length<=24):AC 127 [planA p,.d (.int .i64 at_),.d (.str s)] (.tup [planA (pset p at_ s).1,.d (.int .i64 (pset p at_ s).2)]):=by
 obtain ⟨hp,hl,h24⟩:=hp;refine fbod Tryz.func127 Tryz.ntmps127 (λbase=>?_);have hsw:=zpq p.targets at_ 0;rcases zbd p.targets at_ with hk|⟨k,hk,hkl⟩
 ·have hk':=hk;unfold pfind at hk';refine' zr9 (ownsL [156,194]) (zn hsw hk') (za zbT <| za zbu <| zb _);all_goals first|(simp_all [pset];done)|skip
  refine ⟨_,_,zwn p.targets (by omega),_,_,zwo p.texts (by omega),by kernel_rfl,hK _ ?_⟩;clear hK K;simp only [List.length_map];refine' walkW (zn hsw hk') (za zbT <| za zbu <| zb _);all_goals first|(simp_all [pset];done)|skip
  rw [zfN intD p.targets at_ [D.int .i64 at_] rfl,zfN strD p.texts s [D.str s] rfl];by_cases h6:24<=(p.targets.length:Int)
  ·exfalso;simp_all;omega
  ·simp_all [pset];simp only [if_neg (show ¬(24:Int)<=p.texts.length by omega)];simp
 ·have hk':=hk;unfold pfind at hk';have h1:decide ((0:Int)<=(k:Int))=true:=decide_eq_true (by omega);refine' zr9 (ownsL [156,194]) (zn hsw hk') (za zbT <| za zbu <| zb _);all_goals first|(simp_all [pset];done)|skip
  refine ⟨_,_,zwn p.targets (by omega),_,_,zwo p.texts (by omega),by kernel_rfl,hK _ ?_⟩;clear hK K;simp only [List.length_map];refine' walkW (zah hsw hk' h1 natC) (za zbT <| za zbu <| zb _);all_goals first|(simp_all [pset];done)|skip
  rw [zst (by omega),zpp (by simp)];simp_all [pset]
@[go_sem] noncomputable def zcd:Ent Tryz.prog 127:= .m3 zw (intT .i64) strT zwY
open Go Go.Proofs
def pfitZ:List Int->List (Int×Txt)->Bool
 |_,[]=>true
 |seen,q::r=>secOk q.1&& !seen.contains q.1&&((q.2.length:Int)==64)&&pfitZ (seen++ [q.1]) r
theorem ziL:∀ (t:List Int) (s:List Txt) (seen:List Int),pfitL seen t s=pfitZ seen (t.zip s)
 | [],s,seen=>by simp [pfitL,pfitZ]
 |t::r,[],seen=>by simp [pfitL,pfitZ]
 |t::r,s::q,seen=>by simp only [pfitL,pfitZ,List.zip_cons_cons,ziL r q]
theorem zhi:∀ (l:List (Int×Txt)) (seen:List Int) (q:Int×Txt),pfitZ seen (l++ [q])=(pfitZ seen l&&(secOk q.1&& !(seen++l.map (·.1)).contains q.1&&((q.2.length:Int)==64)))
 | [],seen,q=>by simp [pfitZ]
 |a::l,seen,q=>by rw [List.cons_append,pfitZ,pfitZ,zhi l,List.map_cons,List.append_assoc,List.singleton_append];simp only [Bool.and_assoc]
theorem zsx:∀ (t:List Int) (s:List Txt) (k:Nat) (x:Txt) (y:Int),t[k]?=some y->t.zip (s.set k x)=(t.zip s).set k (y,x)
 | [],s,k,x,y,h=>by simp at h
 |t::r,[],k,x,y,h=>by simp
 |t::r,a::s,0,x,y,h=>by
  have:t=y:=by simpa using h
  subst this;simp
 |t::r,a::s,k+1,x,y,h=>by simp only [List.set_cons_succ,List.zip_cons_cons];rw [zsx r s k x y (by simpa using h)]
theorem zmB:∀ (l:List (Int×Txt)) (seen:List Int) (k:Nat) (y:Int) (x:Txt),(∃z,l[k]?=some (y,z))->(x.length:Int)=64->pfitZ seen l=true->pfitZ seen (l.set k (y,x))=true
 | [],seen,k,y,x,h,hx,hf=>by obtain ⟨z,h⟩:=h;simp at h
 |a::l,seen,0,y,x,h,hx,hf=>by
  obtain ⟨z,h⟩:=h;have:a=(y,z):=by simpa using h
  subst this;simp only [List.set_cons_zero,pfitZ,Bool.and_eq_true] at hf ⊢;exact ⟨⟨hf.1.1,by simpa using hx⟩,hf.2⟩
 |a::l,seen,k+1,y,x,h,hx,hf=>by simp only [List.set_cons_succ,pfitZ,Bool.and_eq_true] at hf ⊢;exact ⟨hf.1,zmB l _ k y x (by simpa using h) hx hf.2⟩
theorem pfit_iff {p:Plan} :pfit p=true↔p.targets.length=p.texts.length/\p.targets.length<=24/\pfitZ [] (p.targets.zip p.texts)=true:=by
 simp only [pfit,Bool.and_eq_true,decide_eq_true_eq,ziL,and_assoc]
theorem zsy {l:List Int} {a:Int} (h:pfind l a= -1):l.contains a=false:=by have:=zhg (λx=>x==a) l 0;unfold pfind at h;rw [h] at this;rw [<-List.any_beq'];simpa using this.symm
theorem zbU {p:Plan} {at_:Int} {s:Txt} (hp:pfit p=true):pfit (pset p at_ s).1=true:=by
 obtain ⟨h1,h2,h3⟩:=pfit_iff.1 hp;unfold pset;split
 ·exact hp
 rename_i hs;have hs:secOk at_=true:=by simpa using hs
 split
 ·exact hp
 rename_i hl;have hl:(s.length:Int)=64:=by simpa using hl
 rcases zbd p.targets at_ with hk|⟨k,hk,hkl⟩
 ·rw [if_neg (by omega)];split
  ·exact hp
  ·rename_i h24;refine pfit_iff.2 ⟨by simp [h1],by simp;omega,?_⟩;rw [List.zip_append h1];show pfitZ [] (p.targets.zip p.texts++ [(at_,s)])=true;rw [zhi,h3,hs];have:(p.targets.zip p.texts).map (·.1)=p.targets:=by rw [List.map_fst_zip (by omega)]
   rw [List.nil_append,this,zsy hk,hl];rfl
 ·rw [if_pos (by omega),hk,Int.toNat_natCast];obtain ⟨y,hy⟩:=zas hkl;obtain ⟨z,hz⟩:=zas (l:=p.texts) (i:=k) (by omega);refine pfit_iff.2 ⟨by simp [h1],h2,?_⟩;show pfitZ [] (p.targets.zip (p.texts.set k s))=true;rw [zsx _ _ _ _ y hy];exact zmB _ _ _ _ _ ⟨z,List.getElem?_zip_eq_some.2 ⟨hy,hz⟩⟩ hl h3
theorem zhj {d:Disk} {p:Plan} {at_ off:Int} {s:Txt} (hp:pfit p=true):pfit (zcq d p at_ off s).1=true:=by
 unfold zcq;split
 ·exact hp
 split
 ·exact hp
 ·exact zbU hp
theorem zsz (d:Disk) (p:Plan) (at_ off:Int) (s:Txt) (hp:DiskOk d/\d.cache.all (putOk d)=true/\pfit p=true/\s.length<=9223372036854775807):AC 140 [diskA d,planA p,.d (.int .i64 at_),.d (.int .i64 off),.d (.str s)] (.tup [planA (zcq d p at_ off s).1,.d (.int .i64 (zcq d p at_ off s).2)]):=by
 obtain ⟨hd,hf,hp,hs⟩:=hp;refine fbod Tryz.func140 Tryz.ntmps140 (λbase=>?_);obtain ⟨hl,h24,h64⟩:=zay hp;have hpo:PlanOk p:=⟨by omega,by omega⟩
 have hb:=zmv (at_:=at_) hf hp;refine' walkW fx (za z2 <| za zaa <| za zcd <| zb _);all_goals first|(simp_all [zcq];done)|skip
@[go_sem] noncomputable def zaJ:Ent Tryz.prog 140:= .m5 zu zw (intT .i64) (intT .i64) strT zsz
end Go.Aw
