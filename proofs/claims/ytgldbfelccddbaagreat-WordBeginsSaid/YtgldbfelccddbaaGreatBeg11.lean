/-
 Numbers as bytes: the program's Put.
-/
import Derived.Test.YtgldbfelccddbaaGreatBeg8
set_option maxRecDepth 100000
set_option maxHeartbeats 2000000
set_option linter.unusedSimpArgs false
set_option linter.unusedVariables false
namespace Go.Aw
open Go Go.Proofs
def zbP (z i:Nat):List AV:= [.d (.int .i64 ((z:Int) - 1 - i)),.any]
def zal (z:Nat):List (List AV):=(List.range z).map (zbP z)
def putB (m z i:Nat):Txt:=List.replicate (z - i) 0++putN m i
def putH (m z i:Nat):AHeap:= [(3,.var [.osl 1 1 z 0 z]),(2,.var [.osl 1 1 z 0 z]),(1,.arr 1 (zg (putB m z i))),(0,.var [.d (.int .u64 ((m / 256 ^ i:Nat):Int))])]
def putF (m z i:Nat):AS:=⟨[(1,true,.vp 3 0)],putH m z i,some []⟩
theorem zdb {m z i:Nat} (h:i≤z):(putB m z i).length=z:=by
 rw [putB,List.length_append,List.length_replicate,zaQ];omega
theorem zgu (z:Nat):(zal z).length=z:=by simp [zal]
theorem zlS {z i:Nat} (h:i<z):(zal z)[i]?=some (zbP z i):=by simp [zal,h]
theorem zhr {z i:Nat} (h:i<z):(zal z).take i++ [zbP z i]=(zal z).take (i+1):=by
 rw [zcH (zlS h)]
theorem zlT {m z:Nat} (hz:z≤8) (y:Yo Tryz.prog (zal z)) (v0:Value)
  (hS:∀g M N A w,y.G g M N A w→∃F,∃i,i≤z∧SatH F (putH m z i) w∧Rep w F (putH m z i) (.vp 3 0) v0) {E:Env} {w:World} (hs:SatH E [] w) (hG:y.G (some []) E.M E.N (Own E []) w):
  Calls Tryz.prog 343 (#[]++ #[Value.func (.yield y.yl) #[] #[]]++ #[v0]) w (fun e w'=>∃v E' h' g,e= .returned v∧((∀xs,g=some xs→xs=zal z)∧h'= [])∧SatH E' h' w'∧Evo 100 E [] w E' h' w'∧y.G g E'.M E'.N (Own E' h') w'):=by
 refine zha (rq:=false) (fl:=100) (pre:= []) (caps:= [.raw v0]) (h:= []) (K:=fun g h'=>(∀xs,g=some xs→xs=zal z)∧h'= []) Tryz.func343 rfl Tryz.ntmps343 rfl (by simp) y (fun base=>?_) hs (by simp [Reps]) (by simp [Reps,Rep]) hG
 have hS':∀t:List (Nat×(Bool×AV)),lk t 1=some (true,.raw v0)→∀g M N A w,y.G g M N A w→∃F,∃b: { i:Nat // i≤z },SatH F (putF m z b.1).h w∧∀k g v,lk (putF m z b.1).t k=some (g,v)→g=true∧∃u,lk t k=some (true,.raw u)∧Rep w F (putF m z b.1).h v u:=by
  intro t ht g M N A w hg
  obtain ⟨F,i,hi,h1,h2⟩:=hS g M N A w hg
  refine ⟨F,⟨i,hi⟩,h1,?_⟩
  intro k g v hk
  simp only [putF,lk] at hk
  split at hk
  ·rename_i e
   subst e
   simp only [Option.some.injEq,Prod.mk.injEq] at hk
   obtain ⟨rfl,rfl⟩:=hk
   exact ⟨rfl,v0,ht,h2⟩
  ·cases hk
 have hw0:IntKind.i64.wrap ((z:Int) - 1)=(z:Int) - 1:=zf (by omega) (by omega)
 simp only [List.nil_append,zL]
 refine zcx noTab (za _) _ _ (List.take_append_drop 4 _).symm (fun b: { i:Nat // i≤z } =>putF m z b.1) (hS' _ rfl) (fun K hK b=>?_)
 simp only [go_sem,aeq,aeq.aeqF,simprocAttr,putF,putH]
 refine ⟨by rw [zaA,zdb b.2],hK _ ?_⟩
 clear hK K b
 refine zcX ?_
 refine zt (fun q: { j:Nat // j≤z } =>⟨[(0,true,.fn (.yield y.yl) [] []),(1,true,.raw v0),(3,true,.d (.int .i64 ((z:Int) - 1 - q.1)))],[],some ((zal z).take q.1)⟩) (fun q=>z - q.1) ⟨0,Nat.zero_le _⟩ (by simp only [AS.le,leT,leH,zh,AsgK,AV.le,AV.leL,AObj.le,inH,idsT,idsH,AV.ids,AV.idsL,AV.idsR,AObj.ids,lk,hget,go_sem,aeq,aeq.aeqF,simprocAttr,hw0]<;>simp) (fun q=>?_)
 obtain ⟨j,hj⟩:=q
 simp only at hj ⊢
 rcases Nat.lt_or_ge j z with hlt|hge
 ·have hcmp:decide ((0:Int)≤(z:Int) - 1 - j)=true:=decide_eq_true (by omega)
  have hwj:IntKind.i64.wrap ((z:Int) - 1 - j - 1)=(z:Int) - 1 - (j+1:Nat):=by rw [zf (by omega) (by omega)];omega
  have hp:((zal z).take j++ [zbP z j])<+:zal z:=by rw [zhr hlt];exact List.take_prefix _ _
  have hpt:=zhr hlt
  simp only [zbP] at hp hpt
  refine' zph (zP 3) hcmp
  refine zcx noTab (za _) _ _ (List.take_append_drop 6 _).symm (fun b: { i:Nat // i≤z } =>putF m z b.1) (hS' _ rfl) (fun K hK b=>?_)
  have h3:((z:Int) - 1 - j).toNat<z:=by omega
  have hbl:(zg (putB m z b.1)).length=z:=by rw [zaA,zdb b.2]
  simp only [go_sem,aeq,aeq.aeqF,simprocAttr,putF,putH,hbl]
  refine ⟨⟨by omega,by omega⟩,h3,hp,?_,?_⟩
  ·refine hK _ ?_
   clear hK K
   refine' zbm fx
   exact ⟨⟨j+1,by omega⟩,by simp only [AS.le,leT,leH,zh,AsgK,AV.le,AV.leL,AObj.le,inH,idsT,idsH,AV.ids,AV.idsL,AV.idsR,AObj.ids,lk,hget,go_sem,aeq,aeq.aeqF,simprocAttr,hwj,hpt],by simp;omega⟩
  ·refine hK _ ?_
   clear hK K
   refine' zbm fx
 ·have hcmp:decide ((0:Int)≤(z:Int) - 1 - j)=false:=decide_eq_false (by omega)
  refine' zbm hcmp
  rintro xs rfl
  exact List.take_of_length_le (by rw [zgu];omega)
theorem zhs (m z:Nat):putH m z 0= [(3,.var [.osl 1 1 z 0 z]),(2,.var [.osl 1 1 z 0 z]),(1,.arr 1 (List.replicate z [D.int .u8 0])),(0,.var [.d (.int .u64 (m:Int))])]:=by
 rw [putH,putB,zkk];simp [putN]
theorem znR (m z:Nat):ACall Tryz.prog 282 3 [.osl 1 1 z 0 z] [(2,.var [.osl 1 1 z 0 z]),(1,.arr 1 (List.replicate z [D.int .u8 0])),(0,.var [.d (.int .u64 (m:Int))])] (fun r h'=>r= .fn (.func 343) [] [.vp 3 0]∧h'=putH m z 0):=by
 refine bod Tryz.func282 Tryz.ntmps282 (fun base=>?_)
 refine' zc fx
 rw [zhs]
theorem zqh (n:Int) (size:Int) (h0:0≤n) (h1:n<18446744073709551616):ACall Tryz.prog 219 0 [.d (.int .u64 n),.d (.int .i64 size)] [] (fun r _=>r= .d (.str (putS8 n size))):=by
 refine fbod Tryz.func219 Tryz.ntmps219 (fun base=>?_)
 by_cases h:size<1∨8<size
 ·have hdec:(decide (size<1)||decide (8<size))=true:=by simpa using h
  refine' zi hdec
  rw [putS8,if_pos h]
 ·have hdec:(decide (size<1)||decide (8<size))=false:=by simpa using h
  obtain ⟨z,rfl,hz8⟩:∃z:Nat,size=(z:Int)∧z≤8:=⟨size.toNat,by omega,by omega⟩
  refine' zi (zu hdec natC)
  obtain ⟨m,rfl⟩:∃m:Nat,n=m:=⟨n.toNat,by omega⟩
  refine ((znR m z).whole (zat rfl) (Nat.zero_le _) (by rintro r h' ⟨_,rfl⟩ i hi;rw [zhs];simp only [hget] at hi ⊢;repeat' split<;>simp_all)).mono ?_
  rintro r h' ⟨rfl,rfl⟩
  refine hK _ ?_
  clear hK K
  refine zcX ?_
  rw [zhs]
  refine aw_le ⟨[(16,true,.fn (.func 343) [] [.vp 3 0]),(5,true,.vp 2 0),(2,true,.vp 0 0)],[(3,.var [.osl 1 1 z 0 z]),(2,.var [.osl 1 1 z 0 z]),(1,.arr 1 (List.replicate z [D.int .u8 0])),(0,.var [.d (.int .u64 (m:Int))])],some []⟩ le0 ?_
  obtain ⟨I,hI⟩:∃I:List (List AV)→AHeap×Option (List (List AV)),I=fun xs=>(putH m z (min xs.length z),some []):=⟨_,rfl⟩
  refine zkr (q:=3) (items:=zal z) 100 I rfl rfl (zbA Tryz.func343 (by kernel_rfl) rfl) ?_ ?_ (by simp [cxOf]) ?_ ?_ ?_ ?_ ?_ ?_ ?_ ?_ ?_
  ·intro y v0 hy E w hs hG
   refine zlT (m:=m) hz8 y v0 (fun g M N A w hg=>?_) hs hG
   obtain ⟨F,xs,q1,q2⟩:=hy g M N A w hg
   rw [hI] at q1 q2
   exact ⟨F,_,Nat.min_le_right _ _,q1,q2⟩
  ·exact zat rfl
  ·exact ⟨_,rfl⟩
  ·intro xs
   rw [hI]
   exact ⟨_,rfl⟩
  ·rw [hI]
   simp only [List.length_nil,Nat.zero_min,zhs]
   simp only [AS.le,leT,leH,zh,AsgK,AV.le,AV.leL,AObj.le,inH,idsT,idsH,AV.ids,AV.idsL,AV.idsR,AObj.ids,lk,hget,go_sem,aeq,aeq.aeqF,simprocAttr]
  ·rw [hI]
   simp only [List.length_nil,Nat.zero_min,zhs]
   simp only [AS.le,leT,leH,zh,AsgK,AV.le,AV.leL,AObj.le,inH,idsT,idsH,AV.ids,AV.idsL,AV.idsR,AObj.ids,lk,hget,go_sem,aeq,aeq.aeqF,simprocAttr]
  ·rw [hI]
  ·intro x hx
   obtain ⟨i,_,rfl⟩:=List.mem_map.1 hx
   rfl
  ·intro t ht
   simp at ht
   rcases ht with rfl|rfl<;>simp [cxOf]
  ·intro xs x hpre l1 r1
   have hlt:xs.length<z:=by
    have:=hpre.length_le
    rw [List.length_append,zgu] at this
    simp only [List.length_singleton] at this
    omega
   have hx:x=zbP z xs.length:=by
    obtain ⟨r,hr⟩:=hpre
    have:=congrArg (fun l=>l[xs.length]?) hr
    simp only [zlS hlt] at this
    simpa using this
   subst hx
   have hmin:min xs.length z=xs.length:=by omega
   have hmin':min (xs.length+1) z=xs.length+1:=by omega
   rw [hI]
   simp only [hmin,List.length_append,List.length_singleton,hmin',zbP]
   generalize xs.length=i at hlt
   clear hmin hmin' hpre hI
   have hbl:(zg (putB m z i)).length=z:=by rw [zaA,zdb (by omega)]
   have hto:((z:Int) - 1 - i).toNat=z - 1 - i:=by omega
   have hlt2:decide ((z:Int) - 1 - i<z)=true:=decide_eq_true (by omega)
   have hle2:decide (0≤(z:Int) - 1 - i)=true:=decide_eq_true (by omega)
   have hby:IntKind.u8.wrap ((m / 256 ^ i:Nat):Int)=((UInt8.ofNat (m / 256 ^ i)).toNat:Int):=u8_of _
   have hsh:ishr .u64 ((m / 256 ^ i:Nat):Int) 8=((m / 256 ^ (i+1):Nat):Int):=by
    rw [show (8:Int)=((8:Nat):Int) from rfl,zqe _ _ (by omega),Nat.div_div_eq_div_mul,Nat.pow_succ 256 i]
   have hset:(zg (putB m z i)).set (z - 1 - i) (((zg (putB m z i)).getD (z - 1 - i) []).set 0 (D.int .u8 (IntKind.u8.wrap ((m / 256 ^ i:Nat):Int))))=zg (putB m z (i+1)):=by
    rw [zlQ (by rw [zdb (by omega)];omega) _ hby]
    congr 1
    have e1:z - i=(z - 1 - i)+1:=by omega
    have e2:z - (i+1)=z - 1 - i:=by omega
    rw [putB,putB,e1,e2,zlR,List.replicate_succ',List.append_assoc,List.set_append,if_neg (by simp)]
    simp
   refine aw_le ⟨[(17,true,.d (.int .i64 ((z:Int) - 1 - i))),(5,true,.vp 2 0),(2,true,.vp 0 0)],[(3,.var [.osl 1 1 z 0 z]),(2,.var [.osl 1 1 z 0 z]),(1,.arr 1 (zg (putB m z i))),(0,.var [.d (.int .u64 ((m / 256 ^ i:Nat):Int))])],some []⟩ (by rw [putH];simp only [AS.le,leT,leH,zh,AsgK,AV.le,AV.leL,AObj.le,inH,idsT,idsH,AV.ids,AV.idsL,AV.idsR,AObj.ids,lk,hget,go_sem,aeq,aeq.aeqF,simprocAttr]) ?_
   (have tk:=za Tryz.prog);repeat' (first|((first|(refine sa ?_;intro K hK)|refine sb ?_);simp only [go_sem,aeq,aeq.aeqF,simprocAttr,hbl,hto,hset,hsh,Tryz.results219])|refine zbh (fun K hK=>?_)|refine sc ?_|refine zdz rfl (fun hc=>?_) (fun hc=>?_)|(refine hK _ ?_;clear hK K)|((first|refine (show AS.le _ _ from ?_)|refine (show leH _ _ from ?_)|refine (show inH _ _ from ?_));simp only [AS.le,leT,leH,zh,AsgK,AV.le,AV.leL,AObj.le,inH,idsT,idsH,AV.ids,AV.idsL,AV.idsR,AObj.ids,lk,hget,go_sem,aeq,aeq.aeqF,simprocAttr,hbl,hto,hset,hsh])|refine fun (r2:Rnd _)=>?_|with_reducible refine And.intro ?_ ?_|exact ‹_<+:_› |omega|assumption|refine fun (hg:(_:Bool)=(_:Bool))=>?_|clear hK K)
   ·rw [putH];simp only [AS.le,leT,leH,zh,AsgK,AV.le,AV.leL,AObj.le,inH,idsT,idsH,AV.ids,AV.idsL,AV.idsR,AObj.ids,lk,hget,go_sem,aeq,aeq.aeqF,simprocAttr]
   ·rw [putH];simp only [AS.le,leT,leH,zh,AsgK,AV.le,AV.leL,AObj.le,inH,idsT,idsH,AV.ids,AV.idsL,AV.idsR,AObj.ids,lk,hget,go_sem,aeq,aeq.aeqF,simprocAttr]
  ·have hmin:min (zal z).length z=z:=by rw [zgu];omega
   rw [hI]
   simp only [hmin]
   have hbl:(zg (putB m z z)).length=z:=by rw [zaA,zdb (by omega)]
   have hput:putB m z z=putN m z:=by rw [putB,Nat.sub_self];rfl
   have hbl2:(z=(zg (putB m z z)).length)=True:=eq_true hbl.symm
   have hbl3:List.take z (zg (putB m z z))=zg (putB m z z):=List.take_of_length_le (by omega)
   (have tk:=za Tryz.prog);repeat' (first|((first|(refine sa ?_;intro K hK)|refine sb ?_);simp only [go_sem,aeq,aeq.aeqF,simprocAttr,putH,hbl,Tryz.results219])|refine zbh (fun K hK=>?_)|refine sc ?_|refine zdz rfl (fun hc=>?_) (fun hc=>?_)|(refine hK _ ?_;clear hK K)|((first|refine (show AS.le _ _ from ?_)|refine (show leH _ _ from ?_)|refine (show inH _ _ from ?_));simp only [AS.le,leT,leH,zh,AsgK,AV.le,AV.leL,AObj.le,inH,idsT,idsH,AV.ids,AV.idsL,AV.idsR,AObj.ids,lk,hget,go_sem,aeq,aeq.aeqF,simprocAttr,putH,hbl])|refine fun (r2:Rnd _)=>?_|with_reducible refine And.intro ?_ ?_|exact ‹_<+:_› |omega|assumption|refine fun (hg:(_:Bool)=(_:Bool))=>?_|clear hK K)
   ·rw [hbl3];exact zgs _
   ·have hn:(z:Int) - 1=z - 1:=rfl
    rw [hbl3,zd4,hput,putS8,if_neg h]
    rfl
@[go_sem] noncomputable def zR:Ent Tryz.prog 219:= .ofL (consL (intT .u64) (consL (intT .i64) nilL)) (fun (n,size,_)=>(0≤n)∧(n<18446744073709551616)) (fun (n,size,_)=> .d (.str (putS8 n size))) (fun (n,size,_) hp=>⟨rfl,zqh n size hp.1 hp.2⟩)
end Go.Aw
